/- A part of the proof: Auth2, Stand1, Stand2, Stand4, Stand5, Sort1, Sort2, Sort3. No condition. -/
import Derived.Test.YtegepioggeggaaaD08
set_option linter.unusedVariables false
set_option linter.unusedSimpArgs false
set_option maxHeartbeats 1000000
set_option maxRecDepth 100000
namespace Go.Proofs.Ytegepioggeggaaa.Dev
open Go.RowKit

theorem yr (a:bl) (t:Int) (b:bl) (hr:ei a t=b):Fn Try.prog 104 [(.g [(cI a.aO),(cI a.az),(cI a.sum),(cI a.captured),(cI a.bC),(cI a.bj),(cI a.dq),(cB a.shut)]),(.c (cI t))] (.v (.g [(cI b.aO),(cI b.az),(cI b.sum),(cI b.captured),(cI b.bC),(cI b.bj),(cI b.dq),(cB b.shut)])) []:=by
 refine Fn.mk' 11 [(0,(aG [(cI a.aO),(cI a.az),(cI a.sum),(cI a.captured),(cI a.bC),(cI a.bj),(cI a.dq),(cB a.shut)])),(1,(aI t))] Try.func104 rfl rfl rfl rfl ?_
 intro W0 T0
 refine ae aa 2 rfl ?_
 refine ah ?_
 refine ae aa 4 rfl ?_
 refine an rfl (fun hc1=>?_) (fun hc1=>?_)
 ·
  have hc1':=of_decide_eq_true hc1
  refine ay ?_
  refine ad aa 2 rfl ?_
  refine af ?_
  refine ae aa 2 rfl ?_
  refine aA ?_
  have hX:ei a t=(⟨a.aO,a.az,a.sum,a.captured,a.bC,a.bj,a.dq,true⟩:bl):=by
    refine xI rfl rfl rfl rfl rfl rfl rfl ?_;by_cases hT:a.dq<=t<;>first|(exfalso;omega)|simp [ei,hT]
  rw [hX] at hr;clear hX
  subst hr
  refine aw aa [1] 0 rfl rfl rfl rfl rfl rfl ?_ ?_
  all_goals first|rfl|(simp [aD];done)|(simp [aD];omega)
 have hc1':=of_decide_eq_false hc1
 refine aU ?_
 refine ae aa 2 rfl ?_
 refine aA ?_
 have hX:ei a t=a:=by
   refine xI rfl rfl rfl rfl rfl rfl rfl ?_;by_cases hT:a.dq<=t<;>first|(exfalso;omega)|simp [ei,hT]
 rw [hX] at hr;clear hX
 subst hr
 refine aw aa [1] 0 rfl rfl rfl rfl rfl rfl ?_ ?_
 all_goals first|rfl|(simp [aD];done)|(simp [aD];omega)
theorem lg (a:bl) (ha:bL a=0) (e:Int) (hr:bQ a=e):Fn Try.prog 27 [(.g [(cI a.aO),(cI a.az),(cI a.sum),(cI a.captured),(cI a.bC),(cI a.bj),(cI a.dq),(cB a.shut)])] (.v (.c (cI e))) []:=by
 refine Fn.mk' 10 [(0,(aG [(cI a.aO),(cI a.az),(cI a.sum),(cI a.captured),(cI a.bC),(cI a.bj),(cI a.dq),(cB a.shut)]))] Try.func27 rfl rfl rfl rfl ?_
 intro W0 T0
 have hw:=eE ha
 refine ae aa 2 rfl ?_
 refine ah ?_
 refine ae aa 2 rfl ?_
 refine an rfl (fun hc1=>?_) (fun hc1=>?_)
 ·
  have hc1':=hc1;try simp only [bA,bW] at hc1'
  refine ae aa 1 rfl ?_
  refine aA ?_
  refine ax ?_
  have hX:bQ a=0:=by
    (unfold bQ;try dsimp only);(repeat' split)<;>first|rfl|omega|(exfalso;omega)|(subst_vars;rfl)|(simp_all;done)|(simp_all;omega)
  rw [hX] at hr;clear hX
  subst hr
  refine aw aa [] 0 rfl rfl rfl rfl rfl rfl ?_ ?_
  all_goals first|rfl|(simp [aD];done)|(simp [aD];omega)
 have hc1':=hc1;try simp only [bA,bW] at hc1'
 refine aU ?_
 refine aH aa 4 rfl ?_
 refine aE (aN rfl rfl rfl (aK (by first|omega|(simp;done)|(simp;omega)))) rfl ?_
 refine ad aa 1 rfl ?_
 refine af ?_
 refine aA ?_
 have hX:bQ a=(a.sum - a.captured):=by
   (unfold bQ;try dsimp only);(repeat' split)<;>first|rfl|omega|(exfalso;omega)|(subst_vars;rfl)|(simp_all;done)|(simp_all;omega)
 rw [hX] at hr;clear hX
 subst hr
 refine aw aa [] 0 rfl rfl rfl rfl rfl rfl ?_ ?_
 all_goals first|rfl|(simp [aD];done)|(simp [aD];omega)
theorem rm (a:bl) (h:bL a=0):cL Try.prog 101 [(.c (.p 0 0 0 0))] [(0,(.box 67 [(cI a.aO),(cI a.az),(cI a.sum),(cI a.captured),(cI a.bC),(cI a.bj),(cI a.dq),(cB a.shut)]))] [0] (aI (a.captured - a.bC - a.bj)) [(0,(.box 67 [(cI a.aO),(cI a.az),(cI a.sum),(cI a.captured),(cI a.bC),(cI a.bj),(cI a.dq),(cB a.shut)]))]:=by
 refine cL.mk 17 [(0,(aC (.p 0 0 0 0)))] 1 Try.func101 rfl rfl rfl rfl rfl rfl rfl rfl rfl ?_
 intro W0 F0 T0 pg
 have hw:=eE h
 refine ae aa 1 rfl ?_
 refine ah ?_
 refine bd [0] [0] mixed rfl rfl ?_
 refine aF (kn:=[]) aa 8 rfl trivial ?_
 refine aX (n':=1) [6,10] [] rfl rfl (.inl ⟨(aq.plain rfl),aM.cast (aN rfl rfl rfl (aK (by first|omega|(simp;done)|(simp;omega)))) rfl⟩) rfl ?_
 refine aF (kn:=[]) aa 4 rfl trivial ?_
 refine aX (n':=1) [11,15] [] rfl rfl (.inl ⟨(aq.plain rfl),aM.cast (aN rfl rfl rfl (aK (by first|omega|(simp;done)|(simp;omega)))) rfl⟩) rfl ?_
 refine aF (kn:=[]) aa 1 rfl trivial ?_
 refine bF [0] rfl rfl rfl rfl (by kernel_rfl) ?_
 refine af ?_
 refine aA ?_
 refine aw aa [0] 1 rfl rfl rfl rfl rfl rfl ?_ ?_
 all_goals first|rfl|(simp [aD];done)|(simp [aD];omega)
theorem yp (a:bl) (kind n:Int) (h:bL a=0) (h1:1<=n) (h2:n<=1000000) (b:bl) (e:Int) (hr:eh a kind n=(b,e)):cL Try.prog 102 [(.c (.p 0 0 0 0)),(.c (cI kind)),(.c (cI n))] [(0,(.box 67 [(cI a.aO),(cI a.az),(cI a.sum),(cI a.captured),(cI a.bC),(cI a.bj),(cI a.dq),(cB a.shut)]))] [0] (.v (.c (cI e))) [(0,(.box 67 [(cI b.aO),(cI b.az),(cI b.sum),(cI b.captured),(cI b.bC),(cI b.bj),(cI b.dq),(cB b.shut)]))]:=by
 refine cL.mk 91 [(0,(aC (.p 0 0 0 0))),(1,(aI kind)),(2,(aI n))] 1 Try.func102 rfl rfl rfl rfl rfl rfl rfl rfl rfl ?_
 intro W0 F0 T0 pg
 have hw:=eE h
 refine ae aa 1 rfl ?_
 refine ah ?_
 refine bd [0,1,2] [0] mixed rfl rfl ?_
 refine aF (kn:=[]) aa 8 rfl trivial ?_
 refine aX (n':=1) [11,15] [] rfl rfl (.inl ⟨(aq.plain rfl),aM.cast (aN rfl rfl rfl (aK (by first|omega|(simp;done)|(simp;omega)))) rfl⟩) rfl ?_
 refine aF (kn:=[]) aa 1 rfl trivial ?_
 refine bF [0] rfl rfl rfl rfl (by kernel_rfl) ?_
 refine af ?_
 refine ah ?_
 refine aY ?_
 refine ae aa 5 rfl ?_
 refine an rfl (fun hc1=>?_) (fun hc1=>?_)
 ·
  have hc1':=hc1;try simp only [bA,bW] at hc1'
  refine ae aa 1 rfl ?_
  refine aA ?_
  refine bm ?_
  refine ax ?_
  have hX:eh a kind n=(a,9):=by
    (unfold eh;try dsimp only);(repeat' split)<;>first|rfl|omega|(exfalso;omega)|(subst_vars;rfl)|(simp_all;done)|(simp_all;omega)
  rw [hX] at hr;clear hX
  simp only [Prod.mk.injEq] at hr;obtain ⟨rfl,rfl⟩:=hr
  refine aw aa [0] 1 rfl rfl rfl rfl rfl rfl ?_ ?_
  all_goals first|rfl|(simp [aD];done)|(simp [aD];omega)
 have hc1':=hc1;try simp only [bA,bW] at hc1'
 refine ae aa 3 rfl ?_
 refine an rfl (fun hc2=>?_) (fun hc2=>?_)
 ·
  have hc2':=of_decide_eq_true hc2
  refine ah ?_
  refine aH aa 5 rfl ?_
  refine aE (aN rfl rfl rfl (aK (by first|omega|(simp;done)|(simp;omega)))) rfl ?_
  refine ad aa 1 rfl ?_
  refine af ?_
  refine an rfl (fun hc3=>?_) (fun hc3=>?_)
  ·
   have hc3':=of_decide_eq_true hc3
   refine ae aa 1 rfl ?_
   refine aA ?_
   refine ax ?_
   refine bm ?_
   refine ax ?_
   have hX:eh a kind n=(a,4):=by
     (unfold eh;try dsimp only);(repeat' split)<;>first|rfl|omega|(exfalso;omega)|(subst_vars;rfl)|(simp_all;done)|(simp_all;omega)
   rw [hX] at hr;clear hX
   simp only [Prod.mk.injEq] at hr;obtain ⟨rfl,rfl⟩:=hr
   refine aw aa [0] 1 rfl rfl rfl rfl rfl rfl ?_ ?_
   all_goals first|rfl|(simp [aD];done)|(simp [aD];omega)
  have hc3':=of_decide_eq_false hc3
  refine aU ?_
  refine aH aa 5 rfl ?_
  refine aE (aN rfl rfl rfl (aK (by first|omega|(simp;done)|(simp;omega)))) rfl ?_
  refine ad aa 3 rfl ?_
  refine af ?_
  refine ae aa 1 rfl ?_
  refine aA ?_
  refine bm ?_
  refine ax ?_
  have hX:eh a kind n=((⟨a.aO,a.az,a.sum+n,a.captured,a.bC,a.bj,a.dq,a.shut⟩:bl),0):=by
    (unfold eh;try dsimp only);(repeat' split)<;>first|rfl|omega|(exfalso;omega)|(subst_vars;rfl)|(simp_all;done)|(simp_all;omega)
  rw [hX] at hr;clear hX
  simp only [Prod.mk.injEq] at hr;obtain ⟨rfl,rfl⟩:=hr
  refine aw aa [0] 1 rfl rfl rfl rfl rfl rfl ?_ ?_
  all_goals first|rfl|(simp [aD];done)|(simp [aD];omega)
 have hc2':=of_decide_eq_false hc2
 refine ae aa 4 rfl ?_
 refine an rfl (fun hc4=>?_) (fun hc4=>?_)
 ·
  have hc4':=of_decide_eq_true hc4
  refine ae aa 1 rfl ?_
  refine aA ?_
  refine bm ?_
  refine ax ?_
  have hX:eh a kind n=(a,10):=by
    (unfold eh;try dsimp only);(repeat' split)<;>first|rfl|omega|(exfalso;omega)|(subst_vars;rfl)|(simp_all;done)|(simp_all;omega)
  rw [hX] at hr;clear hX
  simp only [Prod.mk.injEq] at hr;obtain ⟨rfl,rfl⟩:=hr
  refine aw aa [0] 1 rfl rfl rfl rfl rfl rfl ?_ ?_
  all_goals first|rfl|(simp [aD];done)|(simp [aD];omega)
 have hc4':=of_decide_eq_false hc4
 refine ae aa 3 rfl ?_
 refine an rfl (fun hc5=>?_) (fun hc5=>?_)
 ·
  have hc5':=of_decide_eq_true hc5
  refine aH aa 5 rfl ?_
  refine aE (aN rfl rfl rfl (aK (by first|omega|(simp;done)|(simp;omega)))) rfl ?_
  refine ad aa 3 rfl ?_
  refine af ?_
  refine ah ?_
  refine bd [0,1,2] [0] mixed rfl rfl ?_
  refine aF (kn:=[]) aa 12 rfl trivial ?_
  refine bF [0] rfl rfl rfl rfl (by kernel_rfl) ?_
  refine ad aa 1 rfl ?_
  refine af ?_
  refine ae aa 1 rfl ?_
  refine aA ?_
  refine bm ?_
  refine ax ?_
  have hX:eh a kind n=((⟨a.aO,a.az,a.sum - n,a.captured,a.bC,a.bj,a.dq,decide ((a.sum - n)=a.captured)⟩:bl),0):=by
    (unfold eh;try dsimp only);(repeat' split)<;>first|rfl|omega|(exfalso;omega)|(subst_vars;rfl)|(simp_all;done)|(simp_all;omega)
  rw [hX] at hr;clear hX
  simp only [Prod.mk.injEq] at hr;obtain ⟨rfl,rfl⟩:=hr
  refine aw aa [0] 1 rfl rfl rfl rfl rfl rfl ?_ ?_
  all_goals first|rfl|(simp [aD];done)|(simp [aD];omega)
 have hc5':=of_decide_eq_false hc5
 refine dg ?_
 refine bq ?_
 refine then_ok ?_
 refine aH aa 5 rfl ?_
 refine aE (aN rfl rfl rfl (aK (by first|omega|(simp;done)|(simp;omega)))) rfl ?_
 refine ad aa 3 rfl ?_
 refine af ?_
 refine ah ?_
 rcases Bool.eq_false_or_eq_true (decide (kind=3)) with hb6|hb6
 ·
  have hb6':=of_decide_eq_true hb6
  refine bd [0,1] [0] mixed rfl rfl ?_
  refine aF (kn:=[(77,true)]) aa 16 rfl ⟨hb6,trivial⟩ ?_
  refine bF [0] rfl rfl rfl rfl (by kernel_rfl) ?_
  refine ad aa 1 rfl ?_
  refine af ?_
  refine ae aa 1 rfl ?_
  refine aA ?_
  have hX:eh a kind n=((⟨a.aO,a.az,a.sum,a.captured+n,a.bC,a.bj,a.dq,true⟩:bl),0):=by
    (unfold eh;try dsimp only);(repeat' split)<;>first|rfl|omega|(exfalso;omega)|(subst_vars;rfl)|(simp_all;done)|(simp_all;omega)
  rw [hX] at hr;clear hX
  simp only [Prod.mk.injEq] at hr;obtain ⟨rfl,rfl⟩:=hr
  refine aw aa [0] 1 rfl rfl rfl rfl rfl rfl ?_ ?_
  all_goals first|rfl|(simp [aD];done)|(simp [aD];omega)
 have hb6':=of_decide_eq_false hb6
 refine bd [0,1] [0] mixed rfl rfl ?_
 refine aF (kn:=[(77,false)]) aa 16 rfl ⟨hb6,trivial⟩ ?_
 refine bF [0] rfl rfl rfl rfl (by kernel_rfl) ?_
 refine ad aa 1 rfl ?_
 refine af ?_
 refine ae aa 1 rfl ?_
 refine aA ?_
 have hX:eh a kind n=((⟨a.aO,a.az,a.sum,a.captured+n,a.bC,a.bj,a.dq,decide ((a.captured+n)=a.sum)⟩:bl),0):=by
   (unfold eh;try dsimp only);(repeat' split)<;>first|rfl|omega|(exfalso;omega)|(subst_vars;rfl)|(simp_all;done)|(simp_all;omega)
 rw [hX] at hr;clear hX
 simp only [Prod.mk.injEq] at hr;obtain ⟨rfl,rfl⟩:=hr
 refine aw aa [0] 1 rfl rfl rfl rfl rfl rfl ?_ ?_
 all_goals first|rfl|(simp [aD];done)|(simp [aD];omega)
theorem yq (a:bl) (kind n:Int) (b:bl) (e:Int) (hr:bX a kind n=(b,e)):Fn Try.prog 81 [(.g [(cI a.aO),(cI a.az),(cI a.sum),(cI a.captured),(cI a.bC),(cI a.bj),(cI a.dq),(cB a.shut)]),(.c (cI kind)),(.c (cI n))] (.t [(.g [(cI b.aO),(cI b.az),(cI b.sum),(cI b.captured),(cI b.bC),(cI b.bj),(cI b.dq),(cB b.shut)]),(.c (cI e))]) []:=by
 refine Fn.mk' 76 [(0,(aG [(cI a.aO),(cI a.az),(cI a.sum),(cI a.captured),(cI a.bC),(cI a.bj),(cI a.dq),(cB a.shut)])),(1,(aI kind)),(2,(aI n))] Try.func81 rfl rfl rfl rfl ?_
 intro W0 T0
 have hw:=@eE a
 refine ae aa 3 rfl ?_
 refine ah ?_
 refine aH aa 1 rfl ?_
 obtain ⟨e0,hr0⟩:∃ (e0:Int),bL a=e0:=⟨_,rfl⟩
 refine aP 2 [1,0] (ch 2 (qh a e0 hr0) HD rfl rfl ⟨⟨_,rfl,.g ⟨.d _,.d _,.d _,.d _,.d _,.d _,.d _,.d _,trivial⟩⟩,trivial⟩ trivial trivial rfl rfl rfl rfl) rfl ?_
 refine ad aa 1 rfl ?_
 refine af ?_
 refine ae aa 2 rfl ?_
 refine an rfl (fun hc1=>?_) (fun hc1=>?_)
 ·
  have hc1':=of_decide_eq_true hc1
  refine ae aa 4 rfl ?_
  refine aA ?_
  refine ax ?_
  have hX:bX a kind n=((⟨0,0,0,0,0,0,0,false⟩:bl),e0):=by
    (unfold bX;try dsimp only);(try simp only [hr0]);(repeat' split)<;>first|rfl|omega|(exfalso;omega)|(subst_vars;rfl)|(simp_all;done)|(simp_all;omega)
  rw [hX] at hr;clear hX
  simp only [Prod.mk.injEq] at hr;obtain ⟨rfl,rfl⟩:=hr
  refine aw aa [1] 0 rfl rfl rfl rfl rfl rfl ?_ ?_
  all_goals first|rfl|(simp [aD];done)|(simp [aD];omega)
 have hc1':=of_decide_eq_false hc1
 refine aU ?_
 refine ah ?_
 refine cA 21 ((decide (kind < 1))||(decide (kind > 8))) ?_ ?_
 ·
  refine ay ?_
  refine ad aa 3 rfl ?_
  refine bH (t:=18) rfl (fun hb2=>?_) (fun hb2=>?_)
  ·
   have hb2':=of_decide_eq_true hb2
   refine ad aa 3 rfl ?_
   refine af ?_
   exact aJ.bK 7 rfl rfl (by first|(simp [hb2];done)|(simp_all;done)|(exfalso;simp_all;done)|(simp_all;omega)) rfl
  have hb2':=of_decide_eq_false hb2
  refine ad aa 3 rfl ?_
  refine af ?_
  exact aJ.bK 7 rfl rfl (by first|(simp [hb2];done)|(simp_all;done)|(exfalso;simp_all;done)|(simp_all;omega)) rfl
 refine an rfl (fun hc3=>?_) (fun hc3=>?_)
 ·
  have hc3':=hc3;try simp only [bA,bW] at hc3'
  refine ae aa 3 rfl ?_
  refine aA ?_
  refine ax ?_
  have hX:bX a kind n=((⟨0,0,0,0,0,0,0,false⟩:bl),1):=by
    (unfold bX;try dsimp only);(try simp only [hr0]);(repeat' split)<;>first|rfl|omega|(exfalso;omega)|(subst_vars;rfl)|(simp_all;done)|(simp_all;omega)
  rw [hX] at hr;clear hX
  simp only [Prod.mk.injEq] at hr;obtain ⟨rfl,rfl⟩:=hr
  refine aw aa [1] 0 rfl rfl rfl rfl rfl rfl ?_ ?_
  all_goals first|rfl|(simp [aD];done)|(simp [aD];omega)
 have hc3':=hc3;try simp only [bA,bW] at hc3'
 refine aU ?_
 refine ah ?_
 refine cA 28 ((decide (n < 1))||(decide (n > 1000000))) ?_ ?_
 ·
  refine ay ?_
  refine ad aa 3 rfl ?_
  refine bH (t:=25) rfl (fun hb4=>?_) (fun hb4=>?_)
  ·
   have hb4':=of_decide_eq_true hb4
   refine ad aa 3 rfl ?_
   refine af ?_
   exact aJ.bK 7 rfl rfl (by first|(simp [hb4];done)|(simp_all;done)|(exfalso;simp_all;done)|(simp_all;omega)) rfl
  have hb4':=of_decide_eq_false hb4
  refine ad aa 3 rfl ?_
  refine af ?_
  exact aJ.bK 7 rfl rfl (by first|(simp [hb4];done)|(simp_all;done)|(exfalso;simp_all;done)|(simp_all;omega)) rfl
 refine an rfl (fun hc5=>?_) (fun hc5=>?_)
 ·
  have hc5':=hc5;try simp only [bA,bW] at hc5'
  refine ae aa 3 rfl ?_
  refine aA ?_
  refine ax ?_
  have hX:bX a kind n=((⟨0,0,0,0,0,0,0,false⟩:bl),3):=by
    (unfold bX;try dsimp only);(try simp only [hr0]);(repeat' split)<;>first|rfl|omega|(exfalso;omega)|(subst_vars;rfl)|(simp_all;done)|(simp_all;omega)
  rw [hX] at hr;clear hX
  simp only [Prod.mk.injEq] at hr;obtain ⟨rfl,rfl⟩:=hr
  refine aw aa [1] 0 rfl rfl rfl rfl rfl rfl ?_ ?_
  all_goals first|rfl|(simp [aD];done)|(simp [aD];omega)
 have hc5':=hc5;try simp only [bA,bW] at hc5'
 refine aU ?_
 refine ae aa 1 rfl ?_
 refine ah ?_
 refine ae aa 1 rfl ?_
 refine aY ?_
 refine ah ?_
 refine ae aa 2 rfl ?_
 refine an rfl (fun hc6=>?_) (fun hc6=>?_)
 ·
  have hc6':=of_decide_eq_true hc6
  refine aU ?_
  refine an rfl (fun _=>?_) (fun hno=>absurd (hc6.symm.trans hno) (by decide))
  refine aH aa 1 rfl ?_
  refine aP 2 [0,1] (cO id id (rm a (by first|assumption|omega)) Fw rfl rfl ⟨⟨_,rfl,.inl ⟨rfl,rfl⟩⟩,trivial⟩ ⟨rfl,trivial⟩ rfl rfl rfl rfl rfl rfl trivial ⟨⟨trivial,trivial,trivial,trivial,trivial,trivial,trivial,trivial,trivial⟩,trivial⟩ rfl rfl rfl rfl) rfl ?_
  refine ad aa 1 rfl ?_
  refine af ?_
  refine an rfl (fun hc8=>?_) (fun hc8=>?_)
  ·
   have hc8':=of_decide_eq_true hc8
   refine ay ?_
   refine ad aa 1 rfl ?_
   refine cf ?_
   refine bq ?_
   refine then_ok ?_
   refine ah ?_
   refine aH aa 1 rfl ?_
   refine aE (aN rfl rfl rfl (show _=some (Value.bool true) from rfl)) rfl ?_
   refine af ?_
   refine an rfl (fun _=>?_) (fun hno=>by cases hno)
   refine ae aa 4 rfl ?_
   refine aA ?_
   refine ax ?_
   have hX:bX a kind n=((⟨0,0,0,0,0,0,0,false⟩:bl),10):=by
     (unfold bX;try dsimp only);(try simp only [hr0]);(repeat' split)<;>first|rfl|omega|(exfalso;omega)|(subst_vars;rfl)|(simp_all;done)|(simp_all;omega)
   rw [hX] at hr;clear hX
   simp only [Prod.mk.injEq] at hr;obtain ⟨rfl,rfl⟩:=hr
   refine aw aa [1] 0 rfl rfl rfl rfl rfl rfl ?_ ?_
   all_goals first|rfl|(simp [aD];done)|(simp [aD];omega)
  have hc8':=of_decide_eq_false hc8
  refine ae aa 2 rfl ?_
  refine an rfl (fun _=>?_) (fun hno=>absurd (hc6.symm.trans hno) (by decide))
  refine ay ?_
  refine ad aa 3 rfl ?_
  refine aE (aN rfl rfl rfl (aK (by first|omega|(simp;done)|(simp;omega)))) rfl ?_
  refine ad aa 2 rfl ?_
  refine cf ?_
  refine bq ?_
  refine then_ok ?_
  refine ah ?_
  refine aH aa 1 rfl ?_
  refine aE (aN rfl rfl rfl (show _=some (Value.bool false) from rfl)) rfl ?_
  refine af ?_
  refine an rfl (fun hno=>by cases hno) (fun _=>?_)
  refine aU ?_
  refine ae aa 3 rfl ?_
  refine aA ?_
  have hX:bX a kind n=((⟨a.aO,a.az,a.sum,a.captured,a.bC+n,a.bj,a.dq,a.shut⟩:bl),0):=by
    (unfold bX;try dsimp only);(try simp only [hr0]);(repeat' split)<;>first|rfl|omega|(exfalso;omega)|(subst_vars;rfl)|(simp_all;done)|(simp_all;omega)
  rw [hX] at hr;clear hX
  simp only [Prod.mk.injEq] at hr;obtain ⟨rfl,rfl⟩:=hr
  refine aw aa [1] 0 rfl rfl rfl rfl rfl rfl ?_ ?_
  all_goals first|rfl|(simp [aD];done)|(simp [aD];omega)
 have hc6':=of_decide_eq_false hc6
 refine ay ?_
 refine ad aa 2 rfl ?_
 refine af ?_
 refine an rfl (fun hc12=>?_) (fun hc12=>?_)
 ·
  have hc12':=of_decide_eq_true hc12
  refine aH aa 1 rfl ?_
  refine aP 2 [0,1] (cO id id (rm a (by first|assumption|omega)) Fw rfl rfl ⟨⟨_,rfl,.inl ⟨rfl,rfl⟩⟩,trivial⟩ ⟨rfl,trivial⟩ rfl rfl rfl rfl rfl rfl trivial ⟨⟨trivial,trivial,trivial,trivial,trivial,trivial,trivial,trivial,trivial⟩,trivial⟩ rfl rfl rfl rfl) rfl ?_
  refine ad aa 1 rfl ?_
  refine af ?_
  refine an rfl (fun hc13=>?_) (fun hc13=>?_)
  ·
   have hc13':=of_decide_eq_true hc13
   refine ay ?_
   refine ad aa 1 rfl ?_
   refine cf ?_
   refine bq ?_
   refine then_ok ?_
   refine ah ?_
   refine aH aa 1 rfl ?_
   refine aE (aN rfl rfl rfl (show _=some (Value.bool true) from rfl)) rfl ?_
   refine af ?_
   refine an rfl (fun _=>?_) (fun hno=>by cases hno)
   refine ae aa 4 rfl ?_
   refine aA ?_
   refine ax ?_
   have hX:bX a kind n=((⟨0,0,0,0,0,0,0,false⟩:bl),10):=by
     (unfold bX;try dsimp only);(try simp only [hr0]);(repeat' split)<;>first|rfl|omega|(exfalso;omega)|(subst_vars;rfl)|(simp_all;done)|(simp_all;omega)
   rw [hX] at hr;clear hX
   simp only [Prod.mk.injEq] at hr;obtain ⟨rfl,rfl⟩:=hr
   refine aw aa [1] 0 rfl rfl rfl rfl rfl rfl ?_ ?_
   all_goals first|rfl|(simp [aD];done)|(simp [aD];omega)
  have hc13':=of_decide_eq_false hc13
  refine ae aa 2 rfl ?_
  refine an rfl (fun hno=>absurd (hc6.symm.trans hno) (by decide)) (fun _=>?_)
  refine ay ?_
  refine ad aa 3 rfl ?_
  refine aE (aN rfl rfl rfl (aK (by first|omega|(simp;done)|(simp;omega)))) rfl ?_
  refine ad aa 2 rfl ?_
  refine cf ?_
  refine bq ?_
  refine then_ok ?_
  refine ah ?_
  refine aH aa 1 rfl ?_
  refine aE (aN rfl rfl rfl (show _=some (Value.bool false) from rfl)) rfl ?_
  refine af ?_
  refine an rfl (fun hno=>by cases hno) (fun _=>?_)
  refine aU ?_
  refine ae aa 3 rfl ?_
  refine aA ?_
  have hX:bX a kind n=((⟨a.aO,a.az,a.sum,a.captured,a.bC,a.bj+n,a.dq,a.shut⟩:bl),0):=by
    (unfold bX;try dsimp only);(try simp only [hr0]);(repeat' split)<;>first|rfl|omega|(exfalso;omega)|(subst_vars;rfl)|(simp_all;done)|(simp_all;omega)
  rw [hX] at hr;clear hX
  simp only [Prod.mk.injEq] at hr;obtain ⟨rfl,rfl⟩:=hr
  refine aw aa [1] 0 rfl rfl rfl rfl rfl rfl ?_ ?_
  all_goals first|rfl|(simp [aD];done)|(simp [aD];omega)
 have hc12':=of_decide_eq_false hc12
 refine ah ?_
 refine ae aa 2 rfl ?_
 refine an rfl (fun hc17=>?_) (fun hc17=>?_)
 ·
  have hc17':=of_decide_eq_true hc17
  refine aU ?_
  refine an rfl (fun _=>?_) (fun hno=>absurd (hc17.symm.trans hno) (by decide))
  refine ah ?_
  refine ae aa 4 rfl ?_
  refine an rfl (fun hc19=>?_) (fun hc19=>?_)
  ·
   have hc19':=of_decide_eq_true hc19
   refine ae aa 1 rfl ?_
   refine cp ?_
   refine aR ?_
   refine bM ?_
   refine then_ok ?_
   refine ah ?_
   refine aH aa 1 rfl ?_
   refine aE (aN rfl rfl rfl (show _=some (Value.bool true) from rfl)) rfl ?_
   refine af ?_
   refine an rfl (fun _=>?_) (fun hno=>by cases hno)
   refine ae aa 4 rfl ?_
   refine aA ?_
   refine ax ?_
   have hX:bX a kind n=((⟨0,0,0,0,0,0,0,false⟩:bl),10):=by
     (unfold bX;try dsimp only);(try simp only [hr0]);(repeat' split)<;>first|rfl|omega|(exfalso;omega)|(subst_vars;rfl)|(simp_all;done)|(simp_all;omega)
   rw [hX] at hr;clear hX
   simp only [Prod.mk.injEq] at hr;obtain ⟨rfl,rfl⟩:=hr
   refine aw aa [1] 0 rfl rfl rfl rfl rfl rfl ?_ ?_
   all_goals first|rfl|(simp [aD];done)|(simp [aD];omega)
  have hc19':=of_decide_eq_false hc19
  refine aU ?_
  refine aH aa 3 rfl ?_
  refine aE (aN rfl rfl rfl (aK (by first|omega|(simp;done)|(simp;omega)))) rfl ?_
  refine ad aa 2 rfl ?_
  refine af ?_
  refine ae aa 2 rfl ?_
  refine an rfl (fun _=>?_) (fun hno=>absurd (hc17.symm.trans hno) (by decide))
  refine ay ?_
  refine ad aa 3 rfl ?_
  refine aE (aN rfl rfl rfl (aK (by first|omega|(simp;done)|(simp;omega)))) rfl ?_
  refine ad aa 2 rfl ?_
  refine cf ?_
  refine bq ?_
  refine then_ok ?_
  refine ah ?_
  refine aH aa 1 rfl ?_
  refine aE (aN rfl rfl rfl (show _=some (Value.bool false) from rfl)) rfl ?_
  refine af ?_
  refine an rfl (fun hno=>by cases hno) (fun _=>?_)
  refine aU ?_
  refine ae aa 3 rfl ?_
  refine aA ?_
  have hX:bX a kind n=((⟨a.aO,a.az,a.sum,a.captured,a.bC+n,a.bj - n,a.dq,a.shut⟩:bl),0):=by
    (unfold bX;try dsimp only);(try simp only [hr0]);(repeat' split)<;>first|rfl|omega|(exfalso;omega)|(subst_vars;rfl)|(simp_all;done)|(simp_all;omega)
  rw [hX] at hr;clear hX
  simp only [Prod.mk.injEq] at hr;obtain ⟨rfl,rfl⟩:=hr
  refine aw aa [1] 0 rfl rfl rfl rfl rfl rfl ?_ ?_
  all_goals first|rfl|(simp [aD];done)|(simp [aD];omega)
 have hc17':=of_decide_eq_false hc17
 refine ay ?_
 refine ad aa 2 rfl ?_
 refine af ?_
 refine an rfl (fun hc23=>?_) (fun hc23=>?_)
 ·
  have hc23':=of_decide_eq_true hc23
  refine ah ?_
  refine ae aa 4 rfl ?_
  refine an rfl (fun hc24=>?_) (fun hc24=>?_)
  ·
   have hc24':=of_decide_eq_true hc24
   refine ae aa 1 rfl ?_
   refine cp ?_
   refine aR ?_
   refine bM ?_
   refine then_ok ?_
   refine ah ?_
   refine aH aa 1 rfl ?_
   refine aE (aN rfl rfl rfl (show _=some (Value.bool true) from rfl)) rfl ?_
   refine af ?_
   refine an rfl (fun _=>?_) (fun hno=>by cases hno)
   refine ae aa 4 rfl ?_
   refine aA ?_
   refine ax ?_
   have hX:bX a kind n=((⟨0,0,0,0,0,0,0,false⟩:bl),10):=by
     (unfold bX;try dsimp only);(try simp only [hr0]);(repeat' split)<;>first|rfl|omega|(exfalso;omega)|(subst_vars;rfl)|(simp_all;done)|(simp_all;omega)
   rw [hX] at hr;clear hX
   simp only [Prod.mk.injEq] at hr;obtain ⟨rfl,rfl⟩:=hr
   refine aw aa [1] 0 rfl rfl rfl rfl rfl rfl ?_ ?_
   all_goals first|rfl|(simp [aD];done)|(simp [aD];omega)
  have hc24':=of_decide_eq_false hc24
  refine aU ?_
  refine aH aa 3 rfl ?_
  refine aE (aN rfl rfl rfl (aK (by first|omega|(simp;done)|(simp;omega)))) rfl ?_
  refine ad aa 2 rfl ?_
  refine af ?_
  refine ae aa 2 rfl ?_
  refine an rfl (fun hno=>absurd (hc17.symm.trans hno) (by decide)) (fun _=>?_)
  refine dg ?_
  refine bq ?_
  refine then_ok ?_
  refine ah ?_
  refine aH aa 1 rfl ?_
  refine aE (aN rfl rfl rfl (show _=some (Value.bool false) from rfl)) rfl ?_
  refine af ?_
  refine an rfl (fun hno=>by cases hno) (fun _=>?_)
  refine aU ?_
  refine ae aa 3 rfl ?_
  refine aA ?_
  have hX:bX a kind n=((⟨a.aO,a.az,a.sum,a.captured,a.bC,a.bj - n,a.dq,a.shut⟩:bl),0):=by
    (unfold bX;try dsimp only);(try simp only [hr0]);(repeat' split)<;>first|rfl|omega|(exfalso;omega)|(subst_vars;rfl)|(simp_all;done)|(simp_all;omega)
  rw [hX] at hr;clear hX
  simp only [Prod.mk.injEq] at hr;obtain ⟨rfl,rfl⟩:=hr
  refine aw aa [1] 0 rfl rfl rfl rfl rfl rfl ?_ ?_
  all_goals first|rfl|(simp [aD];done)|(simp [aD];omega)
 have hc23':=of_decide_eq_false hc23
 refine ay ?_
 refine ad aa 2 rfl ?_
 obtain ⟨b1,e1,hr1⟩:∃ (b1:bl) (e1:Int),eh a kind n=(b1,e1):=⟨_,_,rfl⟩
 refine aP 2 [0,1] (cO id id (yp a kind n (by first|assumption|omega) (by omega) (by omega) b1 e1 hr1) IQ rfl rfl ⟨⟨_,rfl,.inl ⟨rfl,rfl⟩⟩,⟨_,rfl,.inr (.c (.d _))⟩,⟨_,rfl,.inr (.c (.d _))⟩,trivial⟩ ⟨rfl,trivial⟩ rfl rfl rfl rfl rfl rfl trivial ⟨⟨trivial,trivial,trivial,trivial,trivial,trivial,trivial,trivial,trivial⟩,trivial⟩ rfl rfl rfl rfl) rfl ?_
 refine ad aa 1 rfl ?_
 refine cf ?_
 refine bq ?_
 refine then_ok ?_
 refine ah ?_
 refine ae aa 2 rfl ?_
 refine an rfl (fun hc28=>?_) (fun hc28=>?_)
 ·
  have hc28':=of_decide_eq_true hc28
  refine ae aa 4 rfl ?_
  refine aA ?_
  refine ax ?_
  have hX:bX a kind n=((⟨0,0,0,0,0,0,0,false⟩:bl),e1):=by
    (unfold bX;try dsimp only);(try simp only [hr0]);(try simp only [hr1]);(repeat' split)<;>first|rfl|omega|(exfalso;omega)|(subst_vars;rfl)|(simp_all;done)|(simp_all;omega)
  rw [hX] at hr;clear hX
  simp only [Prod.mk.injEq] at hr;obtain ⟨rfl,rfl⟩:=hr
  refine aw aa [1] 0 rfl rfl rfl rfl rfl rfl ?_ ?_
  all_goals first|rfl|(simp [aD];done)|(simp [aD];omega)
 have hc28':=of_decide_eq_false hc28
 refine aU ?_
 refine ae aa 3 rfl ?_
 refine aA ?_
 have hX:bX a kind n=(b1,0):=by
   (unfold bX;try dsimp only);(try simp only [hr0]);(try simp only [hr1]);(repeat' split)<;>first|rfl|omega|(exfalso;omega)|(subst_vars;rfl)|(simp_all;done)|(simp_all;omega)
 rw [hX] at hr;clear hX
 simp only [Prod.mk.injEq] at hr;obtain ⟨rfl,rfl⟩:=hr
 refine aw aa [1] 0 rfl rfl rfl rfl rfl rfl ?_ ?_
 all_goals first|rfl|(simp [aD];done)|(simp [aD];omega)

theorem vH (cap:Int) (used:List Int) (advs:List cg):Fn Try.prog 30 [(.g [(cI cap),(fN used),(gK advs)])] (aI (cb ⟨cap,used,advs⟩)) []:=by
 refine Fn.mk' 109 [(0,(aG [(cI cap),(fN used),(gK advs)]))] Try.func30 rfl rfl rfl rfl ?_
 intro W0 T0
 refine fH 0 1 rfl rfl (fun hlen0_1=>?_)
 refine fH 0 2 rfl rfl (fun hlen0_2=>?_)
 refine ae aa 2 rfl ?_
 refine ah ?_
 refine cA 17 ((decide ((↑used.length:Int) > 8))||(decide ((↑advs.length:Int) > 20))) ?_ ?_
 ·
  refine ay ?_
  refine ad aa 2 rfl ?_
  refine aE (cJ rfl rfl rfl rfl rfl Try.underlying30) rfl ?_
  refine ad aa 2 rfl ?_
  refine bH (t:=12) rfl (fun hb1=>?_) (fun hb1=>?_)
  ·
   have hb1':=of_decide_eq_true hb1
   refine ad aa 5 rfl ?_
   refine af ?_
   exact aJ.bK 11 rfl rfl (by first|(simp [hb1];done)|(simp_all;done)|(exfalso;simp_all;done)|(simp_all;omega)) rfl
  have hb1':=of_decide_eq_false hb1
  refine ad aa 2 rfl ?_
  refine dG (aq.yes rfl rfl rfl) (cJ rfl rfl rfl rfl rfl Try.underlying39) rfl rfl ?_
  refine ad aa 2 rfl ?_
  refine af ?_
  exact aJ.bK 11 rfl rfl (by first|(simp [hb1];done)|(simp_all;done)|(exfalso;simp_all;done)|(simp_all;omega)) rfl
 refine an rfl (fun hc2=>?_) (fun hc2=>?_)
 ·
  have hc2':=hc2;try simp only [bA,bW] at hc2'
  refine ae aa 1 rfl ?_
  refine aA ?_
  refine ax ?_
  refine aw aa [] 0 rfl rfl rfl rfl rfl rfl ?_ ?_
  ·(have h:=po (s:=⟨cap,used,advs⟩) (show 8 < used.length\/20 < advs.length by omega));show aI _=aI _;rw [h]
  ·rfl
 have hc2':=hc2;try simp only [bA,bW] at hc2'
 refine aU ?_
 refine ah ?_
 refine cA 25 ((decide (cap < 0))||(decide (cap > 1000000))) ?_ ?_
 ·
  refine ay ?_
  refine ad aa 4 rfl ?_
  refine bH (t:=21) rfl (fun hb3=>?_) (fun hb3=>?_)
  ·
   have hb3':=of_decide_eq_true hb3
   refine ad aa 4 rfl ?_
   refine af ?_
   exact aJ.bK 9 rfl rfl (by first|(simp [hb3];done)|(simp_all;done)|(exfalso;simp_all;done)|(simp_all;omega)) rfl
  have hb3':=of_decide_eq_false hb3
  refine ad aa 4 rfl ?_
  refine af ?_
  exact aJ.bK 9 rfl rfl (by first|(simp [hb3];done)|(simp_all;done)|(exfalso;simp_all;done)|(simp_all;omega)) rfl
 refine an rfl (fun hc4=>?_) (fun hc4=>?_)
 ·
  have hc4':=hc4;try simp only [bA,bW] at hc4'
  refine ae aa 1 rfl ?_
  refine aA ?_
  refine ax ?_
  refine aw aa [] 0 rfl rfl rfl rfl rfl rfl ?_ ?_
  ·(have h:=nC (s:=⟨cap,used,advs⟩) (show ¬(8 < (⟨cap,used,advs⟩:cG).used.length\/20 < (⟨cap,used,advs⟩:cG).bb.length) by simp only;omega) (show gP cap=false by simp only [gP,decide_eq_false_iff_not];omega));show aI _=aI _;rw [h]
  ·rfl
 have hc4':=hc4;try simp only [bA,bW] at hc4'
 refine aU ?_
 refine aH aa 2 rfl ?_
 refine aE (cJ rfl rfl rfl rfl rfl Try.underlying30) rfl ?_
 refine aP 2 [1,0] (nM 1 nt Ba rfl rfl rfl (n:=used.length) (by first|omega|(simp;omega)|(simp [dD];omega)) (by first|omega|(simp;omega)|(simp [dD];omega)) (by first|omega|(simp;omega)|(simp [dD];omega)) (by first|omega|(simp;omega)|(simp [dD];omega))) rfl ?_
 refine ad aa 1 rfl ?_
 refine af ?_
 refine ah ?_
 refine aH aa 2 rfl ?_
 refine aE (cJ rfl rfl rfl rfl rfl Try.underlying39) rfl ?_
 refine ad aa 1 rfl ?_
 refine af ?_
 refine aY ?_
 refine cz (β:=Nat) (fun (q:Nat)=>⟨[(1,(aC (.p 0 0 0 0))),(3,(aC (.s 1 0 1 used.length))),(31,(aC (gK advs))),(32,(aI (↑advs.length:Int))),(33,(aI (↑q:Int)))],[(1,(dS (jk used.length (advs.take q)))),(0,(.box 41 [(cI cap),(fN used),(gK advs)]))],2⟩) (fun (q:Nat)=>q<=advs.length/\(advs.take q).all (hG used.length)=true) (fun (q:Nat)=>advs.length - q) 0 ?_ ?_ ?_
 ·exact ⟨by omega,by simp⟩
 ·exact aJ.cc id (by refine ⟨?_,?_,?_,?_,?_,trivial⟩<;>first|rfl|(simp only [bn];done)|(congr 3;omega)|(congr 4;omega)|(simp only [bo];rfl)) (by refine ⟨?_,?_,trivial⟩<;>first|rfl|(simp only [bn];done)|(congr 3;omega)|(congr 4;omega)|(simp only [bo];rfl)|((rw [List.take_zero,<-Bp];rfl))) rfl
 rintro q ⟨hi0_0,hi0_1⟩
 refine ae aa 1 rfl ?_
 refine ah ?_
 refine an rfl (fun hc5=>?_) (fun hc5=>?_)
 ·
  have hc5':=of_decide_eq_true hc5
  refine aU ?_
  refine ah ?_
  refine aY ?_
  refine eZ ?_
  obtain ⟨x1,hx1⟩:=cr (xs:=advs) (i:=q) (by first|omega|(simp [dD];omega))
  refine aE (db (i:=q) rfl rfl rfl Try.underlying39 Fj (by first|omega|(simp;omega)|(simp [dD];omega)) (bz hx1)) rfl ?_
  refine ad aa 3 rfl ?_
  refine af ?_
  refine ah ?_
  refine cA 77 ((((((((decide (x1.aO < 0))||(decide (x1.aO>=(↑used.length:Int))))||(decide (x1.az < 0)))||(decide (x1.az>=8)))||(decide (x1.sum < 1)))||(decide (x1.sum > 1000000)))||(decide (x1.time < 0)))||(decide (x1.time > 1000000))) ?_ ?_
  ·
   refine ay ?_
   refine ad aa 4 rfl ?_
   refine bH (t:=40) rfl (fun hb6=>?_) (fun hb6=>?_)
   ·
    have hb6':=of_decide_eq_true hb6
    refine ad aa 37 rfl ?_
    refine af ?_
    exact aJ.bK 42 rfl rfl (by first|(simp [hb6];done)|(simp_all;done)|(exfalso;simp_all;done)|(simp_all;omega)) rfl
   have hb6':=of_decide_eq_false hb6
   refine ad aa 4 rfl ?_
   refine dG (aq.yes rfl rfl rfl) (cJ rfl rfl rfl rfl rfl Try.underlying30) rfl rfl ?_
   refine ad aa 3 rfl ?_
   refine bH (t:=48) rfl (fun hb7=>?_) (fun hb7=>?_)
   ·
    have hb7':=of_decide_eq_true hb7
    refine ad aa 29 rfl ?_
    refine af ?_
    exact aJ.bK 43 rfl rfl (by first|(simp [hb6,hb7];done)|(simp_all;done)|(exfalso;simp_all;done)|(simp_all;omega)) rfl
   have hb7':=of_decide_eq_false hb7
   refine ad aa 5 rfl ?_
   refine bH (t:=53) rfl (fun hb8=>?_) (fun hb8=>?_)
   ·
    have hb8':=of_decide_eq_true hb8
    refine ad aa 24 rfl ?_
    refine af ?_
    exact aJ.bK 44 rfl rfl (by first|(simp [hb6,hb7,hb8];done)|(simp_all;done)|(exfalso;simp_all;done)|(simp_all;omega)) rfl
   have hb8':=of_decide_eq_false hb8
   refine ad aa 5 rfl ?_
   refine bH (t:=58) rfl (fun hb9=>?_) (fun hb9=>?_)
   ·
    have hb9':=of_decide_eq_true hb9
    refine ad aa 19 rfl ?_
    refine af ?_
    exact aJ.bK 45 rfl rfl (by first|(simp [hb6,hb7,hb8,hb9];done)|(simp_all;done)|(exfalso;simp_all;done)|(simp_all;omega)) rfl
   have hb9':=of_decide_eq_false hb9
   refine ad aa 5 rfl ?_
   refine bH (t:=63) rfl (fun hb10=>?_) (fun hb10=>?_)
   ·
    have hb10':=of_decide_eq_true hb10
    refine ad aa 14 rfl ?_
    refine af ?_
    exact aJ.bK 46 rfl rfl (by first|(simp [hb6,hb7,hb8,hb9,hb10];done)|(simp_all;done)|(exfalso;simp_all;done)|(simp_all;omega)) rfl
   have hb10':=of_decide_eq_false hb10
   refine ad aa 5 rfl ?_
   refine bH (t:=68) rfl (fun hb11=>?_) (fun hb11=>?_)
   ·
    have hb11':=of_decide_eq_true hb11
    refine ad aa 9 rfl ?_
    refine af ?_
    exact aJ.bK 47 rfl rfl (by first|(simp [hb6,hb7,hb8,hb9,hb10,hb11];done)|(simp_all;done)|(exfalso;simp_all;done)|(simp_all;omega)) rfl
   have hb11':=of_decide_eq_false hb11
   refine ad aa 5 rfl ?_
   refine bH (t:=73) rfl (fun hb12=>?_) (fun hb12=>?_)
   ·
    have hb12':=of_decide_eq_true hb12
    refine ad aa 4 rfl ?_
    refine af ?_
    exact aJ.bK 48 rfl rfl (by first|(simp [hb6,hb7,hb8,hb9,hb10,hb11,hb12];done)|(simp_all;done)|(exfalso;simp_all;done)|(simp_all;omega)) rfl
   have hb12':=of_decide_eq_false hb12
   refine ad aa 4 rfl ?_
   refine af ?_
   exact aJ.bK 48 rfl rfl (by first|(simp [hb6,hb7,hb8,hb9,hb10,hb11,hb12];done)|(simp_all;done)|(exfalso;simp_all;done)|(simp_all;omega)) rfl
  refine an rfl (fun hc13=>?_) (fun hc13=>?_)
  ·
   have hc13':=hc13;try simp only [bA,bW] at hc13'
   refine ae aa 1 rfl ?_
   refine aA ?_
   refine ax ?_
   refine bm ?_
   refine ax ?_
   refine ax ?_
   refine bm ?_
   refine ax ?_
   refine aw aa [] 0 rfl rfl rfl rfl rfl rfl ?_ ?_
   ·(have h:=kD (s:=⟨cap,used,advs⟩) (show ¬(8 < (⟨cap,used,advs⟩:cG).used.length\/20 < (⟨cap,used,advs⟩:cG).bb.length) by simp only;omega) (show gP (⟨cap,used,advs⟩:cG).cap=true by simp only [gP,decide_eq_true_eq];omega) (HV hx1 (by simp only [hG,decide_eq_false_iff_not];omega)));show aI _=aI _;rw [h]
   ·rfl
  have hc13':=hc13;try simp only [bA,bW] at hc13'
  refine aU ?_
  obtain ⟨x2,hx2⟩:=cr (xs:=(jk used.length (advs.take q))) (i:=Int.toNat (x1.aO)) (by first|omega|(simp [dD];omega))
  have hx2v:=uE hx2
  have hgb:=re used.length (x1.aO) (advs.take q) hi0_1
  have hgl:(advs.take q).length<=q:=List.length_take_le _ _
  rw [Int.toNat_of_nonneg (by omega)] at hx2v
  refine bd [1,3,31,32,33,5] [2,1,0] mixed rfl rfl ?_
  refine aF (kn:=[]) aa 3 rfl trivial ?_
  refine aX (n':=3) [78,80] [1] rfl rfl (.inl ⟨(aq.plain rfl),aM.cast (br (i:=Int.toNat (x1.aO)) rfl rfl rfl Try.underlying30 fO (by first|omega|(simp;omega)|(simp [dD];omega)) (by first|omega|(simp;omega)|(simp [dD];omega))) rfl⟩) rfl ?_
  refine aX (n':=3) [81] [1] rfl rfl (.inl ⟨(aq.plain rfl),aM.cast (eJ rfl rfl rfl Try.underlying3 rfl (bz hx2) rfl) rfl⟩) rfl ?_
  refine aF (kn:=[]) aa 2 rfl trivial ?_
  refine aX (n':=3) [82,84] [] rfl rfl (.inl ⟨(aq.plain rfl),aM.cast (aN rfl rfl rfl (aK (by first|omega|(simp;omega)|(simp [dD];omega)))) rfl⟩) rfl ?_
  refine aX (n':=3) [78,80] [1] rfl rfl (.inl ⟨(aq.plain rfl),aM.cast (br (i:=Int.toNat (x1.aO)) rfl rfl rfl Try.underlying30 fO (by first|omega|(simp;omega)|(simp [dD];omega)) (by first|omega|(simp;omega)|(simp [dD];omega))) rfl⟩) rfl ?_
  refine bF [2,1,0] rfl rfl rfl rfl (by kernel_rfl) ?_
  refine gj [2,1,0] (dW (ds:=[(dI (x2+x1.sum))]) rfl rfl rfl rfl rfl fO rfl (Nat.le_of_ble_eq_true rfl) (bz hx2) rfl (eU (x':=x2+x1.sum) rfl)) rfl ?_
  refine cf ?_
  refine bq ?_
  refine then_ok ?_
  refine ay ?_
  refine aE (aN rfl rfl rfl (aK (by first|omega|(simp;omega)|(simp [dD];omega)))) rfl ?_
  refine ad aa 1 rfl ?_
  refine af ?_
  refine ⟨q+1,⟨by omega,zq hi0_1 hx1 (by simp only [hG,decide_eq_true_eq];omega)⟩,by first|omega|(simp;done)|(simp;omega),aJ.cc id (by refine ⟨?_,?_,?_,?_,?_,trivial⟩<;>first|rfl|(simp only [bn];done)|(congr 3;omega)|(congr 4;omega)|(simp only [bo];rfl)) (by refine ⟨?_,?_,trivial⟩<;>first|rfl|(simp only [bn];done)|(congr 3;omega)|(congr 4;omega)|(simp only [bo];rfl)|((rw [ie hx1,<-Bo (i:=Int.toNat x1.aO) (v:=x2+x1.sum) (by omega) (by omega) (by rw [hx2v])];rfl))) rfl⟩
 have hc5':=of_decide_eq_false hc5
 refine cp ?_
 refine aR ?_
 refine aR ?_
 refine bM ?_
 refine then_ok ?_
 refine ah ?_
 refine aH aa 2 rfl ?_
 refine aE (cJ rfl rfl rfl rfl rfl Try.underlying30) rfl ?_
 refine ad aa 1 rfl ?_
 refine af ?_
 refine aY ?_
 have hta:advs.take q=advs:=List.take_of_length_le (by omega)
 have hall:advs.all (hG used.length)=true:=by rw [<-hta];exact hi0_1
 rw [hta]
 refine cz (β:=Nat) (fun (p:Nat)=>⟨[(1,(aC (.p 0 0 0 0))),(3,(aC (.s 1 0 1 used.length))),(31,(aC (gK advs))),(32,(aI (↑advs.length:Int))),(33,(aI (↑q:Int))),(89,(aC (fN used))),(90,(aI (↑used.length:Int))),(91,(aI (↑p:Int)))],[(1,(dS (jk used.length advs))),(0,(.box 41 [(cI cap),(fN used),(gK advs)]))],2⟩) (fun (p:Nat)=>p<=used.length/\fu cap advs 0 used=fu cap advs p (used.drop p)) (fun (p:Nat)=>used.length - p) 0 ?_ ?_ ?_
 ·exact ⟨by omega,rfl⟩
 ·exact aJ.cc id (by refine ⟨?_,?_,?_,?_,?_,?_,?_,?_,trivial⟩<;>first|rfl|(simp only [bn];done)|(congr 3;omega)|(congr 4;omega)|(simp only [bo];rfl)) (by refine ⟨?_,?_,trivial⟩<;>first|rfl|(simp only [bn];done)|(congr 3;omega)|(congr 4;omega)|(simp only [bo];rfl)) rfl
 rintro p ⟨hi1_0,hi1_1⟩
 refine ae aa 1 rfl ?_
 refine ah ?_
 refine an rfl (fun hc14=>?_) (fun hc14=>?_)
 ·
  have hc14':=of_decide_eq_true hc14
  refine aU ?_
  refine ah ?_
  refine aY ?_
  refine aH aa 1 rfl ?_
  obtain ⟨x1,hx1⟩:=cr (xs:=used) (i:=p) (by first|omega|(simp [dD];omega))
  refine aE (db (i:=p) rfl rfl rfl Try.underlying30 fO (by first|omega|(simp;omega)|(simp [dD];omega)) (bz hx1)) rfl ?_
  refine ad aa 3 rfl ?_
  refine af ?_
  refine aH aa 3 rfl ?_
  refine aE (br (i:=p) rfl rfl rfl Try.underlying30 fO (by first|omega|(simp;omega)|(simp [dD];omega)) (by first|omega|(simp;omega)|(simp [dD];omega))) rfl ?_
  obtain ⟨x2,hx2⟩:=cr (xs:=(jk used.length advs)) (i:=p) (by first|omega|(simp [dD];omega))
  have hx2v:=uE hx2
  refine aE (eJ rfl rfl rfl Try.underlying3 rfl (bz hx2) rfl) rfl ?_
  refine ad aa 2 rfl ?_
  refine bH (t:=102) rfl (fun hb15=>?_) (fun hb15=>?_)
  ·
   have hb15':=of_decide_eq_true hb15
   refine ad aa 5 rfl ?_
   refine af ?_
   refine an rfl (fun _=>?_) (fun hno=>by cases hno)
   refine ae aa 1 rfl ?_
   refine aA ?_
   refine bm ?_
   refine ax ?_
   refine ax ?_
   refine bm ?_
   refine ax ?_
   refine aw aa [] 0 rfl rfl rfl rfl rfl rfl ?_ ?_
   ·(have h:=gT (s:=⟨cap,used,advs⟩) (show ¬(8 < (⟨cap,used,advs⟩:cG).used.length\/20 < (⟨cap,used,advs⟩:cG).bb.length) by simp only;omega) (show gP (⟨cap,used,advs⟩:cG).cap=true by simp only [gP,decide_eq_true_eq];omega) hall);show aI _=aI _;rw [h];show aI _=aI (fu cap advs 0 used);rw [hi1_1,si hx1,fu,if_neg (by omega)]
   ·rfl
  have hb15':=of_decide_eq_false hb15
  refine ad aa 5 rfl ?_
  refine af ?_
  refine an rfl (fun hc17=>?_) (fun hc17=>?_)
  ·
   have hc17':=of_decide_eq_true hc17
   refine ae aa 1 rfl ?_
   refine aA ?_
   refine bm ?_
   refine ax ?_
   refine ax ?_
   refine bm ?_
   refine ax ?_
   refine aw aa [] 0 rfl rfl rfl rfl rfl rfl ?_ ?_
   ·(have h:=gT (s:=⟨cap,used,advs⟩) (show ¬(8 < (⟨cap,used,advs⟩:cG).used.length\/20 < (⟨cap,used,advs⟩:cG).bb.length) by simp only;omega) (show gP (⟨cap,used,advs⟩:cG).cap=true by simp only [gP,decide_eq_true_eq];omega) hall);show aI _=aI _;rw [h];show aI _=aI (fu cap advs 0 used);rw [hi1_1,si hx1,fu,if_neg (by omega)]
   ·rfl
  have hc17':=of_decide_eq_false hc17
  refine dg ?_
  refine bq ?_
  refine then_ok ?_
  refine ay ?_
  refine aE (aN rfl rfl rfl (aK (by first|omega|(simp;omega)|(simp [dD];omega)))) rfl ?_
  refine ad aa 1 rfl ?_
  refine af ?_
  refine ⟨p+1,⟨by omega,by rw [hi1_1,si hx1,fu,if_pos (by omega),Int.natCast_add];rfl⟩,by first|omega|(simp;done)|(simp;omega),aJ.cc id (by refine ⟨?_,?_,?_,?_,?_,?_,?_,?_,trivial⟩<;>first|rfl|(simp only [bn];done)|(congr 3;omega)|(congr 4;omega)|(simp only [bo];rfl)) (by refine ⟨?_,?_,trivial⟩<;>first|rfl|(simp only [bn];done)|(congr 3;omega)|(congr 4;omega)|(simp only [bo];rfl)) rfl⟩
 have hc14':=of_decide_eq_false hc14
 refine cp ?_
 refine aR ?_
 refine aR ?_
 refine bM ?_
 refine then_ok ?_
 refine ae aa 1 rfl ?_
 refine aA ?_
 refine aw aa [] 0 rfl rfl rfl rfl rfl rfl ?_ ?_
 ·(have h:=gT (s:=⟨cap,used,advs⟩) (show ¬(8 < (⟨cap,used,advs⟩:cG).used.length\/20 < (⟨cap,used,advs⟩:cG).bb.length) by simp only;omega) (show gP (⟨cap,used,advs⟩:cG).cap=true by simp only [gP,decide_eq_true_eq];omega) hall);show aI _=aI _;rw [h];show aI _=aI (fu cap advs 0 used);rw [hi1_1,List.drop_of_length_le (by omega)];rfl
 ·rfl


theorem jq (s:cG) (e:Int) (hr:cb s=e):Fn Try.prog 30 [(.g [cI s.cap,cR 1 (s.used.map rI),cR 4 (s.bb.map iQ)])] (.v (.c (cI e))) []:=hr▸vH s.cap s.used s.bb

theorem yi (limit ag:Int) (x:cG) (e:Int) (hr:dV limit ag=(x,e)):Fn Try.prog 41 [(.c (cI limit)),(.c (cI ag))] (.t [(.g [(cI x.cap),(.s 0 0 1 x.used.length),(.s 1 0 4 x.bb.length)]),(.c (cI e))]) [(0,(dS x.used)),(1,(De x.bb))]:=by
 refine Fn.mk' 24 [(0,(aI limit)),(1,(aI ag))] Try.func41 rfl rfl rfl rfl ?_
 intro W0 T0
 refine ae aa 2 rfl ?_
 refine ah ?_
 refine cA 11 ((decide (ag < 0))||(decide (ag > 8))) ?_ ?_
 ·
  refine ay ?_
  refine ad aa 3 rfl ?_
  refine bH (t:=8) rfl (fun hb1=>?_) (fun hb1=>?_)
  ·
   have hb1':=of_decide_eq_true hb1
   refine ad aa 3 rfl ?_
   refine af ?_
   exact aJ.bK 7 rfl rfl (by first|(simp [hb1];done)|(simp_all;done)|(exfalso;simp_all;done)|(simp_all;omega)) rfl
  have hb1':=of_decide_eq_false hb1
  refine ad aa 3 rfl ?_
  refine af ?_
  exact aJ.bK 7 rfl rfl (by first|(simp [hb1];done)|(simp_all;done)|(exfalso;simp_all;done)|(simp_all;omega)) rfl
 refine an rfl (fun hc2=>?_) (fun hc2=>?_)
 ·
  have hc2':=hc2;try simp only [bA,bW] at hc2'
  refine ae aa 3 rfl ?_
  refine aA ?_
  refine ax ?_
  refine cu 0 1 3 1 rfl rfl rfl ?_
  refine cu 0 2 107 4 rfl rfl rfl ?_
  have hX:dV limit ag=((⟨0,([]:List Int),([]:List cg)⟩:cG),5):=by
    exact vC (by omega)
  rw [hX] at hr;clear hX
  simp only [Prod.mk.injEq] at hr;obtain ⟨rfl,rfl⟩:=hr
  refine aw aa [1,2,0] 2 rfl rfl rfl rfl rfl rfl ?_ ?_
  all_goals first|rfl|(simp [aD];done)|(simp [aD];omega)
 have hc2':=hc2;try simp only [bA,bW] at hc2'
 refine aU ?_
 refine ah ?_
 refine cA 18 ((decide (limit < 0))||(decide (limit > 1000000))) ?_ ?_
 ·
  refine ay ?_
  refine ad aa 3 rfl ?_
  refine bH (t:=15) rfl (fun hb3=>?_) (fun hb3=>?_)
  ·
   have hb3':=of_decide_eq_true hb3
   refine ad aa 3 rfl ?_
   refine af ?_
   exact aJ.bK 7 rfl rfl (by first|(simp [hb3];done)|(simp_all;done)|(exfalso;simp_all;done)|(simp_all;omega)) rfl
  have hb3':=of_decide_eq_false hb3
  refine ad aa 3 rfl ?_
  refine af ?_
  exact aJ.bK 7 rfl rfl (by first|(simp [hb3];done)|(simp_all;done)|(exfalso;simp_all;done)|(simp_all;omega)) rfl
 refine an rfl (fun hc4=>?_) (fun hc4=>?_)
 ·
  have hc4':=hc4;try simp only [bA,bW] at hc4'
  refine ae aa 3 rfl ?_
  refine aA ?_
  refine ax ?_
  refine cu 0 1 3 1 rfl rfl rfl ?_
  refine cu 0 2 107 4 rfl rfl rfl ?_
  have hX:dV limit ag=((⟨0,([]:List Int),([]:List cg)⟩:cG),3):=by
    exact ua (by omega) (by first|omega|(simp_all [bA];done)|(simp_all [bA];omega))
  rw [hX] at hr;clear hX
  simp only [Prod.mk.injEq] at hr;obtain ⟨rfl,rfl⟩:=hr
  refine aw aa [1,2,0] 2 rfl rfl rfl rfl rfl rfl ?_ ?_
  all_goals first|rfl|(simp [aD];done)|(simp [aD];omega)
 have hc4':=hc4;try simp only [bA,bW] at hc4'
 refine aU ?_
 refine aH aa 2 rfl ?_
 refine aP 2 [1,0] (nM 1 nt Ba rfl rfl rfl (n:=Int.toNat (ag)) (by first|omega|(simp;done)|(simp;omega)) (by first|omega|(simp;done)|(simp;omega)) (by first|omega|(simp;done)|(simp;omega)) (by first|omega|(simp;done)|(simp;omega))) rfl ?_
 refine ad aa 3 rfl ?_
 refine af ?_
 refine aA ?_
 refine cu 0 2 107 4 rfl rfl rfl ?_
 have hX:dV limit ag=((⟨limit,List.replicate (Int.toNat (ag)) 0,([]:List cg)⟩:cG),0):=by
   unfold dV;rw [if_neg (by omega),if_neg (by simp only [gP,decide_eq_true_eq];first|omega|(simp_all [bA];done)|(simp_all [bA];omega))]
 rw [hX] at hr;clear hX
 simp only [Prod.mk.injEq] at hr;obtain ⟨rfl,rfl⟩:=hr
 refine aw aa [1,2,0] 2 rfl rfl rfl rfl rfl rfl ?_ ?_
 all_goals first|rfl|(simp [aD];done)|(simp [aD];omega)
theorem vI (s:cG) (x:cG) (l:List cg) (e:Int) (hr:cC s=(x,l,e)):Fn Try.prog 90 [(.g [(cI s.cap),(fN s.used),(gK s.bb)])] (.t [(.g [(cI x.cap),(.s 0 0 1 x.used.length),(.s 1 0 4 x.bb.length)]),(.c (.s 2 0 4 l.length)),(.c (cI e))]) [(0,(dS x.used)),(1,(De x.bb)),(2,(De l))]:=by
 refine Fn.mk' 22 [(0,(aG [(cI s.cap),(fN s.used),(gK s.bb)]))] Try.func90 rfl rfl rfl rfl ?_
 intro W0 T0
 refine fH 0 1 rfl rfl (fun hlen0_1=>?_)
 refine fH 0 2 rfl rfl (fun hlen0_2=>?_)
 have hrp:=@gR s
 refine ae aa 4 rfl ?_
 refine ah ?_
 refine aH aa 1 rfl ?_
 obtain ⟨e0,hr0⟩:∃ (e0:Int),cb s=e0:=⟨_,rfl⟩
 refine aP 2 [1,0] (ch 2 (jq s e0 hr0) Au rfl rfl ⟨⟨_,rfl,.g ⟨.d _,.d _,.d _,trivial⟩⟩,trivial⟩ trivial trivial rfl rfl rfl rfl) rfl ?_
 refine ad aa 1 rfl ?_
 refine af ?_
 refine ae aa 2 rfl ?_
 refine an rfl (fun hc1=>?_) (fun hc1=>?_)
 ·
  have hc1':=of_decide_eq_true hc1
  refine ae aa 5 rfl ?_
  refine aA ?_
  refine ax ?_
  refine cu 1 1 3 1 rfl rfl rfl ?_
  refine cu 1 2 107 4 rfl rfl rfl ?_
  refine dm (aJ.nil 3 107 4 (by decide) rfl) ?_
  have hX:cC s=((⟨0,([]:List Int),([]:List cg)⟩:cG),([]:List cg),e0):=by
    unfold cC;rw [if_pos (by omega),hr0];rfl
  rw [hX] at hr;clear hX
  simp only [Prod.mk.injEq] at hr;obtain ⟨rfl,rfl,rfl⟩:=hr
  refine aw aa [2,3,4,1] 3 rfl rfl rfl rfl rfl rfl ?_ ?_
  all_goals first|rfl|(simp [aD];done)|(simp [aD];omega)
 have hc1':=of_decide_eq_false hc1
 refine aU ?_
 refine ah ?_
 refine bd [1,2] [1,0] mixed rfl rfl ?_
 refine aF (kn:=[]) aa 4 rfl trivial ?_
 refine aX (n':=2) [15] [] rfl rfl (.inl ⟨(aq.plain rfl),aM.cast (cJ rfl rfl rfl rfl rfl Try.underlying30) rfl⟩) rfl ?_
 refine aX (n':=3) [16] [] rfl rfl (.inl ⟨(aq.plain rfl),aM.cast (nM 2 nt Ba rfl rfl rfl (n:=s.used.length) (by first|omega|(simp;done)|(simp;omega)) (by first|omega|(simp;done)|(simp;omega)) (by first|omega|(simp;done)|(simp;omega)) (by first|omega|(simp;done)|(simp;omega))) rfl⟩) rfl ?_
 refine aF (kn:=[]) aa 3 rfl trivial ?_
 refine aX (n':=4) [20] [] rfl rfl (.inl ⟨(aq.plain rfl),aM.cast (ch 3 (nU s.bb (by first|omega|(simp;done)|(simp;omega))) Hn rfl rfl ⟨⟨_,rfl,.c (.d _)⟩,trivial⟩ trivial ⟨(fun _ _ _ _=>trivial),trivial⟩ rfl rfl rfl rfl) rfl⟩) rfl ?_
 refine bF [3,2,1,0] rfl rfl rfl rfl (by kernel_rfl) ?_
 refine ad aa 3 rfl ?_
 refine af ?_
 refine aA ?_
 refine cu 1 2 107 4 rfl rfl rfl ?_
 have hX:cC s=((⟨s.cap,List.replicate s.used.length 0,([]:List cg)⟩:cG),s.bb,0):=by
   unfold cC;rw [if_neg (by omega)]
 rw [hX] at hr;clear hX
 simp only [Prod.mk.injEq] at hr;obtain ⟨rfl,rfl,rfl⟩:=hr
 refine aw aa [2,4,3,1] 3 rfl rfl rfl rfl rfl rfl ?_ ?_
 all_goals first|rfl|(simp [aD];done)|(simp [aD];omega)

theorem xq (s:cG) (a:cg) (x:cG) (e:Int) (hr:cx s a=(x,e)):Fn Try.prog 78 [(.g [(cI s.cap),(fN s.used),(gK s.bb)]),(.g [(cI a.aO),(cI a.az),(cI a.sum),(cI a.time)])] (.t [(.g [(cI x.cap),(.s 0 0 1 x.used.length),(.s 1 0 4 x.bb.length)]),(.c (cI e))]) [(0,(dS x.used)),(1,(De x.bb))]:=by
 refine Fn.mk' 74 [(0,(aG [(cI s.cap),(fN s.used),(gK s.bb)])),(1,(aG [(cI a.aO),(cI a.az),(cI a.sum),(cI a.time)]))] Try.func78 rfl rfl rfl rfl ?_
 intro W0 T0
 refine fH 0 1 rfl rfl (fun hlen0_1=>?_)
 refine fH 0 2 rfl rfl (fun hlen0_2=>?_)
 have hub:=@sH s
 have hrp:=@gR s
 refine ae aa 4 rfl ?_
 refine ah ?_
 refine aH aa 1 rfl ?_
 obtain ⟨e0,hr0⟩:∃ (e0:Int),cb s=e0:=⟨_,rfl⟩
 refine aP 3 [2,1,0] (ch 3 (jq s e0 hr0) Au rfl rfl ⟨⟨_,rfl,.g ⟨.d _,.d _,.d _,trivial⟩⟩,trivial⟩ trivial trivial rfl rfl rfl rfl) rfl ?_
 refine ad aa 1 rfl ?_
 refine af ?_
 refine ae aa 2 rfl ?_
 refine an rfl (fun hc1=>?_) (fun hc1=>?_)
 ·
  have hc1':=of_decide_eq_true hc1
  refine ae aa 4 rfl ?_
  refine aA ?_
  refine ax ?_
  refine cu 2 1 3 1 rfl rfl rfl ?_
  refine cu 2 2 107 4 rfl rfl rfl ?_
  have hX:cx s a=((⟨0,([]:List Int),([]:List cg)⟩:cG),e0):=by
    rw [Aj (by omega),hr0];rfl
  rw [hX] at hr;clear hX
  simp only [Prod.mk.injEq] at hr;obtain ⟨rfl,rfl⟩:=hr
  refine aw aa [3,4,2] 2 rfl rfl rfl rfl rfl rfl ?_ ?_
  all_goals first|rfl|(simp [aD];done)|(simp [aD];omega)
 have hc1':=of_decide_eq_false hc1
 refine aU ?_
 refine ah ?_
 refine aH aa 2 rfl ?_
 refine aE (cJ rfl rfl rfl rfl rfl Try.underlying39) rfl ?_
 refine ad aa 1 rfl ?_
 refine af ?_
 refine an rfl (fun hc2=>?_) (fun hc2=>?_)
 ·
  have hc2':=of_decide_eq_true hc2
  refine ae aa 3 rfl ?_
  refine aA ?_
  refine ax ?_
  refine cu 2 1 3 1 rfl rfl rfl ?_
  refine cu 2 2 107 4 rfl rfl rfl ?_
  have hX:cx s a=((⟨0,([]:List Int),([]:List cg)⟩:cG),5):=by
    exact vg (by omega) (by omega)
  rw [hX] at hr;clear hX
  simp only [Prod.mk.injEq] at hr;obtain ⟨rfl,rfl⟩:=hr
  refine aw aa [3,4,2] 2 rfl rfl rfl rfl rfl rfl ?_ ?_
  all_goals first|rfl|(simp [aD];done)|(simp [aD];omega)
 have hc2':=of_decide_eq_false hc2
 refine aU ?_
 refine ah ?_
 refine bd [2,3,4] [2,1,0] mixed rfl rfl ?_
 refine aF (kn:=[]) aa 4 rfl trivial ?_
 refine aX (n':=4) [23] [] rfl rfl (.inl ⟨(aq.plain rfl),aM.cast (ch 3 (rn s.used (by first|omega|(simp;done)|(simp;omega))) Ho rfl rfl ⟨⟨_,rfl,.c (.d _)⟩,trivial⟩ trivial ⟨(fun _ _ _ _=>trivial),trivial⟩ rfl rfl rfl rfl) rfl⟩) rfl ?_
 refine aF (kn:=[]) aa 2 rfl trivial ?_
 refine aX (n':=5) [26] [] rfl rfl (.inl ⟨(aq.plain rfl),aM.cast (ch 4 (nU s.bb (by first|omega|(simp;done)|(simp;omega))) Hn rfl rfl ⟨⟨_,rfl,.c (.d _)⟩,trivial⟩ trivial ⟨(fun _ _ _ _=>trivial),trivial⟩ rfl rfl rfl rfl) rfl⟩) rfl ?_
 refine aF (kn:=[]) aa 1 rfl trivial ?_
 refine aX (n':=6) [28] [] rfl rfl (.inl ⟨(aq.plain rfl),aM.cast (ec (ys:=[(0,(.g [(cI a.aO),(cI a.az),(cI a.sum),(cI a.time)]))]) (rows:=([a]).map iQ) 5 zK rfl (by decide) ⟨⟨rfl,rfl⟩,trivial⟩ rfl rfl rfl rfl) rfl⟩) rfl ?_
 refine aX (n':=7) [27,29] [5,4] rfl rfl (.inl ⟨(aq.plain rfl),aM.cast (dA (m:=1) (N:=s.bb.length+1) (k2:=6) (ys:=([a]).map iQ) zK rfl rfl rfl rfl rfl rfl (by first|omega|(simp;done)|(simp;omega)) rfl (.s rfl (by first|omega|(simp;done)|(simp;omega))) (by first|omega|(simp;done)|(simp;omega)) (by first|omega|(simp;done)|(simp;omega)) fK (by decide) (by first|omega|(simp;done)|(simp;omega)) (by first|omega|(simp;done)|(simp;omega))) rfl⟩) rfl ?_
 refine aF (n':=8) (kn:=[]) aa 2 rfl trivial ?_
 refine bF [7,6,3,2,1,0] rfl rfl rfl rfl (by kernel_rfl) ?_
 refine ad aa 1 rfl ?_
 refine af ?_
 refine ah ?_
 refine cA 52 ((((decide (a.aO>=0)) && (decide (a.aO < (↑s.used.length:Int)))) && (decide (a.sum>=1))) && (decide (a.sum<=1000000))) ?_ ?_
 ·
  refine ay ?_
  refine ad aa 4 rfl ?_
  refine bH (t:=35) rfl (fun hb3=>?_) (fun hb3=>?_)
  ·
   have hb3':=of_decide_eq_true hb3
   refine ad aa 4 rfl ?_
   refine dG (aq.yes rfl rfl rfl) (dH rfl rfl rfl rfl rfl Try.underlying30) rfl rfl ?_
   refine ad aa 3 rfl ?_
   refine bH (t:=43) rfl (fun hb4=>?_) (fun hb4=>?_)
   ·
    have hb4':=of_decide_eq_true hb4
    refine ad aa 5 rfl ?_
    refine bH (t:=48) rfl (fun hb5=>?_) (fun hb5=>?_)
    ·
     have hb5':=of_decide_eq_true hb5
     refine ad aa 4 rfl ?_
     refine af ?_
     exact aJ.bK 24 rfl rfl (by first|(simp [hb3,hb4,hb5];done)|(simp_all;done)|(exfalso;simp_all;done)|(simp_all;omega)) rfl
    have hb5':=of_decide_eq_false hb5
    refine ad aa 4 rfl ?_
    refine af ?_
    exact aJ.bK 24 rfl rfl (by first|(simp [hb3,hb4,hb5];done)|(simp_all;done)|(exfalso;simp_all;done)|(simp_all;omega)) rfl
   have hb4':=of_decide_eq_false hb4
   refine ad aa 9 rfl ?_
   refine af ?_
   exact aJ.bK 23 rfl rfl (by first|(simp [hb3,hb4];done)|(simp_all;done)|(exfalso;simp_all;done)|(simp_all;omega)) rfl
  have hb3':=of_decide_eq_false hb3
  refine ad aa 17 rfl ?_
  refine af ?_
  exact aJ.bK 22 rfl rfl (by first|(simp [hb3];done)|(simp_all;done)|(exfalso;simp_all;done)|(simp_all;omega)) rfl
 refine an rfl (fun hc6=>?_) (fun hc6=>?_)
 ·
  have hc6':=hc6;try simp only [bA,bW] at hc6'
  obtain ⟨x1,hx1⟩:=cr (xs:=s.used) (i:=Int.toNat (a.aO)) (by first|omega|(simp;done)|(simp;omega))
  have hx1b:=sH (s:=s) (by omega) hx1
  refine bd [3,4,7] [7,6,3,2,1] mixed rfl rfl ?_
  refine aF (kn:=[]) aa 4 rfl trivial ?_
  refine aX (n':=8) [54,56] [3] rfl rfl (.inl ⟨(aq.plain rfl),aM.cast (br (i:=Int.toNat (a.aO)) rfl rfl rfl Try.underlying30 fO (by first|omega|(simp;done)|(simp;omega)) (by first|omega|(simp;done)|(simp;omega))) rfl⟩) rfl ?_
  refine aX (n':=8) [57] [3] rfl rfl (.inl ⟨(aq.plain rfl),aM.cast (eJ rfl rfl rfl Try.underlying3 rfl (bz hx1) rfl) rfl⟩) rfl ?_
  refine aF (kn:=[]) aa 2 rfl trivial ?_
  refine aX (n':=8) [58,60] [] rfl rfl (.inl ⟨(aq.plain rfl),aM.cast (aN rfl rfl rfl (aK (by first|omega|(simp;done)|(simp;omega)))) rfl⟩) rfl ?_
  refine aX (n':=8) [54,56] [3] rfl rfl (.inl ⟨(aq.plain rfl),aM.cast (br (i:=Int.toNat (a.aO)) rfl rfl rfl Try.underlying30 fO (by first|omega|(simp;done)|(simp;omega)) (by first|omega|(simp;done)|(simp;omega))) rfl⟩) rfl ?_
  refine bF [7,6,3,2,1] rfl rfl rfl rfl (by kernel_rfl) ?_
  refine gj [7,6,3,2,1] (dW (ds:=[(dI (x1+a.sum))]) rfl rfl rfl rfl rfl fO rfl (Nat.le_of_ble_eq_true rfl) (bz hx1) rfl (eU (x':=x1+a.sum) rfl)) rfl ?_
  refine af ?_
  refine aH aa 1 rfl ?_
  obtain ⟨e1,hr1⟩:∃ (e1:Int),cb (⟨s.cap,(s.used).set (Int.toNat (a.aO)) (x1+a.sum),s.bb++([a])⟩:cG)=e1:=⟨_,rfl⟩
  refine aP 8 [7,6,3,2,1] (gF 8 [3,6] (jq (⟨s.cap,(s.used).set (Int.toNat (a.aO)) (x1+a.sum),s.bb++([a])⟩:cG) e1 hr1) Au rfl rfl ⟨⟨_,rfl,.g ⟨.d _,.s rfl (by decide) (by first|omega|(simp;done)|(simp;omega)),.s rfl (by decide) (by first|omega|(simp;done)|(simp;omega)),trivial⟩⟩,trivial⟩ rfl trivial rfl rfl rfl rfl) rfl ?_
  refine ad aa 1 rfl ?_
  refine af ?_
  refine ae aa 1 rfl ?_
  refine aY ?_
  refine ae aa 2 rfl ?_
  refine an rfl (fun hc7=>?_) (fun hc7=>?_)
  ·
   have hc7':=of_decide_eq_true hc7
   refine ae aa 3 rfl ?_
   refine aA ?_
   refine bm ?_
   have hX:cx s a=((⟨s.cap,(s.used).set (Int.toNat (a.aO)) (x1+a.sum),s.bb++([a])⟩:cG),0):=by
     have hx:s.used.getD a.aO.toNat 0=x1:=by rw [List.getD_eq_getElem?_getD,hx1];rfl
     have hg:=lY (a:=a) (show cb s=0 by omega) (show s.bb.length < 20 by omega)
     rw [hx,hr1] at hg
     rcases hg with ⟨p1,p2⟩|⟨p1,p2⟩|⟨p1,p2⟩<;>first|(exfalso;omega)|exact p2|(subst p1;exact p2)
   rw [hX] at hr;clear hX
   simp only [Prod.mk.injEq] at hr;obtain ⟨rfl,rfl⟩:=hr
   refine aw aa [3,6,2] 2 rfl rfl rfl rfl rfl rfl ?_ ?_
   all_goals first|rfl|(simp [aD];done)|(simp [aD];omega)
  have hc7':=of_decide_eq_false hc7
  refine ae aa 2 rfl ?_
  refine an rfl (fun hc8=>?_) (fun hc8=>?_)
  ·
   have hc8':=of_decide_eq_true hc8
   refine ae aa 3 rfl ?_
   refine aA ?_
   refine bm ?_
   refine cu 2 1 3 1 rfl rfl rfl ?_
   refine cu 2 2 107 4 rfl rfl rfl ?_
   have hX:cx s a=((⟨0,([]:List Int),([]:List cg)⟩:cG),10):=by
     have hx:s.used.getD a.aO.toNat 0=x1:=by rw [List.getD_eq_getElem?_getD,hx1];rfl
     have hg:=lY (a:=a) (show cb s=0 by omega) (show s.bb.length < 20 by omega)
     rw [hx,hr1] at hg
     rcases hg with ⟨p1,p2⟩|⟨p1,p2⟩|⟨p1,p2⟩<;>first|(exfalso;omega)|exact p2|(subst p1;exact p2)
   rw [hX] at hr;clear hX
   simp only [Prod.mk.injEq] at hr;obtain ⟨rfl,rfl⟩:=hr
   refine aw aa [8,9,2] 2 rfl rfl rfl rfl rfl rfl ?_ ?_
   all_goals first|rfl|(simp [aD];done)|(simp [aD];omega)
  have hc8':=of_decide_eq_false hc8
  refine ae aa 4 rfl ?_
  refine aA ?_
  refine bm ?_
  refine cu 2 1 3 1 rfl rfl rfl ?_
  refine cu 2 2 107 4 rfl rfl rfl ?_
  have hX:cx s a=((⟨0,([]:List Int),([]:List cg)⟩:cG),e1):=by
    have hx:s.used.getD a.aO.toNat 0=x1:=by rw [List.getD_eq_getElem?_getD,hx1];rfl
    have hg:=lY (a:=a) (show cb s=0 by omega) (show s.bb.length < 20 by omega)
    rw [hx,hr1] at hg
    rcases hg with ⟨p1,p2⟩|⟨p1,p2⟩|⟨p1,p2⟩<;>first|(exfalso;omega)|exact p2|(subst p1;exact p2)
  rw [hX] at hr;clear hX
  simp only [Prod.mk.injEq] at hr;obtain ⟨rfl,rfl⟩:=hr
  refine aw aa [8,9,2] 2 rfl rfl rfl rfl rfl rfl ?_ ?_
  all_goals first|rfl|(simp [aD];done)|(simp [aD];omega)
 have hc6':=hc6;try simp only [bA,bW] at hc6'
 refine aU ?_
 refine aH aa 1 rfl ?_
 obtain ⟨e2,hr2⟩:∃ (e2:Int),cb (⟨s.cap,s.used,s.bb++([a])⟩:cG)=e2:=⟨_,rfl⟩
 refine aP 8 [7,6,3,2,1,0] (gF 8 [3,6] (jq (⟨s.cap,s.used,s.bb++([a])⟩:cG) e2 hr2) Au rfl rfl ⟨⟨_,rfl,.g ⟨.d _,.s rfl (by decide) (by first|omega|(simp;done)|(simp;omega)),.s rfl (by decide) (by first|omega|(simp;done)|(simp;omega)),trivial⟩⟩,trivial⟩ rfl trivial rfl rfl rfl rfl) rfl ?_
 refine ad aa 1 rfl ?_
 refine af ?_
 refine ae aa 1 rfl ?_
 refine aY ?_
 refine ae aa 2 rfl ?_
 refine an rfl (fun hc9=>?_) (fun hc9=>?_)
 ·
  have hc9':=of_decide_eq_true hc9
  refine ae aa 3 rfl ?_
  refine aA ?_
  refine bm ?_
  have hX:cx s a=((⟨s.cap,s.used,s.bb++([a])⟩:cG),0):=by
    have hg:=rW (a:=a) (show cb s=0 by omega) (show s.bb.length < 20 by omega) (by omega)
    rw [hr2] at hg
    obtain ⟨p1,p2⟩:=hg
    first|(exfalso;omega)|(subst p1;exact p2)
  rw [hX] at hr;clear hX
  simp only [Prod.mk.injEq] at hr;obtain ⟨rfl,rfl⟩:=hr
  refine aw aa [3,6,2] 2 rfl rfl rfl rfl rfl rfl ?_ ?_
  all_goals first|rfl|(simp [aD];done)|(simp [aD];omega)
 have hc9':=of_decide_eq_false hc9
 refine ae aa 2 rfl ?_
 refine an rfl (fun hc10=>?_) (fun hc10=>?_)
 ·
  have hc10':=of_decide_eq_true hc10
  refine ae aa 3 rfl ?_
  refine aA ?_
  refine bm ?_
  refine cu 2 1 3 1 rfl rfl rfl ?_
  refine cu 2 2 107 4 rfl rfl rfl ?_
  have hX:cx s a=((⟨0,([]:List Int),([]:List cg)⟩:cG),10):=by
    have hg:=rW (a:=a) (show cb s=0 by omega) (show s.bb.length < 20 by omega) (by omega)
    rw [hr2] at hg
    obtain ⟨p1,p2⟩:=hg
    first|(exfalso;omega)|(subst p1;exact p2)
  rw [hX] at hr;clear hX
  simp only [Prod.mk.injEq] at hr;obtain ⟨rfl,rfl⟩:=hr
  refine aw aa [8,9,2] 2 rfl rfl rfl rfl rfl rfl ?_ ?_
  all_goals first|rfl|(simp [aD];done)|(simp [aD];omega)
 have hc10':=of_decide_eq_false hc10
 refine ae aa 4 rfl ?_
 refine aA ?_
 refine bm ?_
 refine cu 2 1 3 1 rfl rfl rfl ?_
 refine cu 2 2 107 4 rfl rfl rfl ?_
 have hX:cx s a=((⟨0,([]:List Int),([]:List cg)⟩:cG),e2):=by
   have hg:=rW (a:=a) (show cb s=0 by omega) (show s.bb.length < 20 by omega) (by omega)
   rw [hr2] at hg
   obtain ⟨p1,p2⟩:=hg
   first|(exfalso;omega)|(subst p1;exact p2)
 rw [hX] at hr;clear hX
 simp only [Prod.mk.injEq] at hr;obtain ⟨rfl,rfl⟩:=hr
 refine aw aa [8,9,2] 2 rfl rfl rfl rfl rfl rfl ?_ ?_
 all_goals first|rfl|(simp [aD];done)|(simp [aD];omega)


def fF:List Int->Int
  |[]=>0
  |x::l=>if x=0 then fF l else x
def iB (a b:au):Int:=fF [eK a.az b.az,eK a.ba b.ba]
theorem CC {l:List Int} {i:Nat} {x:Int} (hx:l[i]?=some x) (h:x=0):fF (l.drop i)=fF (l.drop (i+1)):=by
  obtain ⟨hi,rfl⟩:=List.getElem?_eq_some_iff.1 hx
  rw [List.drop_eq_getElem_cons hi,fF,if_pos h]
theorem vk {l:List Int} {i:Nat} {x:Int} (hx:l[i]?=some x) (h:¬x=0):fF (l.drop i)=x:=by
  obtain ⟨hi,rfl⟩:=List.getElem?_eq_some_iff.1 hx
  rw [List.drop_eq_getElem_cons hi,fF,if_neg h]
theorem mg {a b:au}:iB a b < 0↔hO a b=true:=by
  rw [tb]
  have h1:=sl (a:=a.az) (b:=b.az)
  have h2:=qd (a:=a.az) (b:=b.az)
  have h3:=sl (a:=a.ba) (b:=b.ba)
  have h4:=qd (a:=a.ba) (b:=b.ba)
  unfold iB fF fF fF
  split
  ·split<;>omega
  ·omega
theorem mh {a b:au} (h:¬iB a b < 0):hO a b=false:=by
  cases hb:hO a b with
  |false=>rfl
  |true=>exact absurd (mg.2 hb) h
theorem cD {l:List (Nat×AV)} {t:Nat} {x y:Int} {ρ:Nat->Nat} (h:look l t=some (aI x)) (e:x=y):look l t=some (AV.map ρ (aI y)):=by subst e;exact h

theorem Kg (l:List Int) (r:Int) (hr:fF l=r):Fn Try.prog 59 [(.c (fN l))] (.v (.c (cI r))) []:=by
 refine Fn.mk' 18 [(0,(aC (fN l)))] Try.func59 rfl rfl rfl rfl ?_
 intro W0 T0
 refine dU 0 rfl (fun hlen0=>?_)
 refine ae aa 1 rfl ?_
 refine ae aa 1 rfl ?_
 refine ah ?_
 refine aH aa 1 rfl ?_
 refine aE (cJ rfl rfl rfl rfl rfl Try.underlying30) rfl ?_
 refine ad aa 1 rfl ?_
 refine af ?_
 refine aY ?_
 refine cz (β:=Nat) (fun (i:Nat)=>⟨[(3,(aI 0)),(6,(aC (fN l))),(7,(aI (↑l.length:Int))),(8,(aI (↑i:Int)))],[],0⟩) (fun (i:Nat)=>i<=l.length/\fF (l.drop i)=fF l) (fun (i:Nat)=>l.length - i) 0 ?_ ?_ ?_
 ·exact ⟨by omega,rfl⟩
 ·exact aJ.cc id (by refine ⟨?_,?_,?_,?_,trivial⟩<;>first|rfl|(simp only [bn];done)|(congr 3;omega)|(congr 4;omega)|(simp only [bo];rfl)) (trivial) rfl
 rintro i ⟨hi0_0,hi0_1⟩
 refine ae aa 1 rfl ?_
 refine ah ?_
 refine an rfl (fun hc1=>?_) (fun hc1=>?_)
 ·
  have hc1':=of_decide_eq_true hc1
  refine aU ?_
  refine ah ?_
  refine aY ?_
  refine eZ ?_
  obtain ⟨x1,hx1⟩:=cr (xs:=l) (i:=i) (by first|omega|(simp;done)|(simp;omega))
  refine aE (db (i:=i) rfl rfl rfl Try.underlying30 fO (by first|omega|(simp;done)|(simp;omega)) (bz hx1)) rfl ?_
  refine ad aa 2 rfl ?_
  refine af ?_
  refine ae aa 3 rfl ?_
  refine an rfl (fun hc2=>?_) (fun hc2=>?_)
  ·
   have hc2':=of_decide_eq_true hc2
   refine ae aa 2 rfl ?_
   refine aA ?_
   refine bm ?_
   refine ax ?_
   refine ax ?_
   refine bm ?_
   refine ax ?_
   have hX:fF l=x1:=by
     rw [<-hi0_1];first|exact vk hx1 (by omega)|(rw [List.drop_of_length_le (by omega)];rfl)
   rw [hX] at hr;clear hX
   subst hr
   refine aw aa [] 0 rfl rfl rfl rfl rfl rfl ?_ ?_
   all_goals first|rfl|(simp [aD];done)|(simp [aD];omega)
  have hc2':=of_decide_eq_false hc2
  refine dg ?_
  refine bq ?_
  refine then_ok ?_
  refine ay ?_
  refine aE (aN rfl rfl rfl (aK (by first|omega|(simp;done)|(simp;omega)))) rfl ?_
  refine ad aa 1 rfl ?_
  refine af ?_
  refine ⟨i+1,⟨by omega,by rw [<-CC hx1 (by omega)];exact hi0_1⟩,by first|omega|(simp;done)|(simp;omega),aJ.cc id (by refine ⟨?_,?_,?_,?_,trivial⟩<;>first|rfl|(simp only [bn];done)|(congr 3;omega)|(congr 4;omega)|(simp only [bo];rfl)) (trivial) rfl⟩
 have hc1':=of_decide_eq_false hc1
 refine cp ?_
 refine aR ?_
 refine aR ?_
 refine bM ?_
 refine then_ok ?_
 refine ae aa 2 rfl ?_
 refine aA ?_
 have hX:fF l=0:=by
   rw [<-hi0_1];first|exact vk hx1 (by omega)|(rw [List.drop_of_length_le (by omega)];rfl)
 rw [hX] at hr;clear hX
 subst hr
 refine aw aa [] 0 rfl rfl rfl rfl rfl rfl ?_ ?_
 all_goals first|rfl|(simp [aD];done)|(simp [aD];omega)
theorem zl (x y:au):Fn Try.prog 53 [(.g [(cI x.az),(cI x.ba),(cI x.kind),(cI x.sum)]),(.g [(cI y.az),(cI y.ba),(cI y.kind),(cI y.sum)])] (aI (iB x y)) []:=by
 refine Fn.mk' 17 [(0,(aG [(cI x.az),(cI x.ba),(cI x.kind),(cI x.sum)])),(1,(aG [(cI y.az),(cI y.ba),(cI y.kind),(cI y.sum)]))] Try.func53 rfl rfl rfl rfl ?_
 intro W0 T0
 refine ae aa 3 rfl ?_
 refine ah ?_
 have hr0:eK x.az y.az=eK x.az y.az:=rfl
 have hr1:eK x.ba y.ba=eK x.ba y.ba:=rfl
 have hr2:fF ([eK x.az y.az,eK x.ba y.ba])=fF ([eK x.az y.az,eK x.ba y.ba]):=rfl
 refine bd [2,3] [1,0] mixed rfl rfl ?_
 refine aF (kn:=[]) aa 4 rfl trivial ?_
 refine aX (n':=2) [6,8] [] rfl rfl (.inl ⟨(aq.plain rfl),aM.cast (ch 2 (qj x.az y.az (eK x.az y.az) hr0) Ev rfl rfl ⟨⟨_,rfl,.c (.d _)⟩,⟨_,rfl,.c (.d _)⟩,trivial⟩ trivial trivial rfl rfl rfl rfl) rfl⟩) rfl ?_
 refine aF (kn:=[]) aa 4 rfl trivial ?_
 refine aX (n':=2) [11,13] [] rfl rfl (.inl ⟨(aq.plain rfl),aM.cast (ch 2 (qj x.ba y.ba (eK x.ba y.ba) hr1) Ev rfl rfl ⟨⟨_,rfl,.c (.d _)⟩,⟨_,rfl,.c (.d _)⟩,trivial⟩ trivial trivial rfl rfl rfl rfl) rfl⟩) rfl ?_
 refine aX (n':=3) [9,14] [] rfl rfl (.inl ⟨(aq.plain rfl),aM.cast (ec (ys:=[(0,(.c (cI (eK x.az y.az)))),(1,(.c (cI (eK x.ba y.ba))))]) (rows:=([eK x.az y.az,eK x.ba y.ba]).map rI) 2 nt rfl (by decide) ⟨⟨rfl,rfl⟩,⟨rfl,rfl⟩,trivial⟩ rfl rfl rfl rfl) rfl⟩) rfl ?_
 refine aX (n':=3) [15] [2] rfl rfl (.inl ⟨(aq.plain rfl),aM.cast (gF 3 [2] (Kg ([eK x.az y.az,eK x.ba y.ba]) (fF ([eK x.az y.az,eK x.ba y.ba])) hr2) JT rfl rfl ⟨⟨_,rfl,.c (.s rfl (by decide) (by first|omega|(simp;done)|(simp;omega)))⟩,trivial⟩ rfl trivial rfl rfl rfl rfl) rfl⟩) rfl ?_
 refine aF (kn:=[]) aa 1 rfl trivial ?_
 refine bF [1,0] rfl rfl rfl rfl (by kernel_rfl) ?_
 refine af ?_
 refine aA ?_
 refine aw aa [] 0 rfl rfl rfl rfl rfl rfl ?_ ?_
 all_goals first|rfl|(simp [aD];done)|(simp [aD];omega)

theorem yh (d:List au) (N a b n:Nat) (fn:FuncId) (bh:List (List D)) (hp:∀ x y:au,Fn Try.prog fn ([.g [cI x.az,cI x.ba,cI x.kind,cI x.sum],.g [cI y.az,cI y.ba,cI y.kind,cI y.sum]]++bh.map fun r=>GV.c (.q r 0)) (aI (iB x y)) []) (hen:bp Try.prog fn) (hl:d.length * 32<=140737488355328) (hN:N=d.length) (h0_:a+n<=d.length) (h1_:b+n<=d.length) (r:List au) (hr:gN a b n d=r):cL Try.prog 110 [(.c (.s 0 0 4 N)),(.c (cI (↑a:Int))),(.c (cI (↑b:Int))),(.c (cI (↑n:Int))),(.c (.d (.f fn bh)))] [(0,(cU d))] [0] (.t []) [(0,(cU r))]:=by
 refine cL.mk 38 [(0,(aC (.s 0 0 4 N))),(1,(aI (↑a:Int))),(2,(aI (↑b:Int))),(3,(aI (↑n:Int))),(4,(aC (.d (.f fn bh))))] 1 Try.func110 rfl rfl rfl rfl rfl rfl rfl rfl rfl ?_
 intro W0 F0 T0 pg
 refine gU 0 rfl (fun hlen0=>?_)
 refine ae aa 1 rfl ?_
 refine aY ?_
 refine cz (β:=Nat×List au) (fun (p:Nat×List au)=>match p with|(i,d1)=>⟨[(0,(aC (.s 0 0 4 N))),(1,(aI (↑a:Int))),(2,(aI (↑b:Int))),(3,(aI (↑n:Int))),(10,(aI (↑i:Int)))],[(0,(cU d1))],1⟩) (fun (p:Nat×List au)=>match p with|(i,d1)=>i<=n/\d1=gN a b i d/\d1.length=d.length) (fun (p:Nat×List au)=>match p with|(i,d1)=>n - i) (0,d) ?_ ?_ ?_
 ·exact ⟨by omega,rfl,rfl⟩
 ·exact aJ.cc id (by refine ⟨?_,?_,?_,?_,?_,trivial⟩<;>first|rfl|(simp only [bn];done)|(congr 3;omega)|(congr 4;omega)|(simp only [bo];rfl)|(exact cD rfl (by omega))) (⟨by first|rfl|(simp only [bn];done)|(congr 3;omega)|(congr 4;omega)|(simp only [bo];rfl),trivial⟩) rfl
 rintro ⟨i,d1⟩ ⟨hi0_0,hi0_1,hi0_2⟩
 refine ah ?_
 refine ae aa 3 rfl ?_
 refine an rfl (fun hc1=>?_) (fun hc1=>?_)
 ·
  have hc1':=of_decide_eq_true hc1
  refine aU ?_
  refine ah ?_
  refine aY ?_
  obtain ⟨x1,hx1⟩:=cr (xs:=d1) (i:=(b)+(i)) (by first|omega|(simp;done)|(simp;omega))
  obtain ⟨x2,hx2⟩:=cr (xs:=d1) (i:=(a)+(i)) (by first|omega|(simp;done)|(simp;omega))
  obtain ⟨x3,hx3⟩:=cr (xs:=((d1).set ((a)+(i)) x1)) (i:=(b)+(i)) (by first|omega|(simp;done)|(simp;omega))
  refine dr [0,1,2,3,10] [0] mixed rfl rfl ?_
  refine bU (kn:=[]) aa 3 rfl trivial ?_
  refine ca (n':=1) [17,18] [] rfl rfl (.inl ⟨(aq.plain rfl),aM.cast (aN rfl rfl rfl (aK (by first|omega|(simp;done)|(simp;omega)))) rfl⟩) rfl ?_
  refine bU (kn:=[]) aa 3 rfl trivial ?_
  refine ca (n':=1) [21,22] [] rfl rfl (.inl ⟨(aq.plain rfl),aM.cast (aN rfl rfl rfl (aK (by first|omega|(simp;done)|(simp;omega)))) rfl⟩) rfl ?_
  refine bU (kn:=[]) aa 3 rfl trivial ?_
  refine ca (n':=1) [25,26] [] rfl rfl (.inl ⟨(aq.plain rfl),aM.cast (aN rfl rfl rfl (aK (by first|omega|(simp;done)|(simp;omega)))) rfl⟩) rfl ?_
  refine ca (n':=1) [24,27] [0] rfl rfl (.inl ⟨(aq.plain rfl),aM.cast (br (i:=(b)+(i)) rfl rfl rfl Try.underlying42 dK (by first|omega|(simp;done)|(simp;omega)) (by first|omega|(simp;done)|(simp;omega))) rfl⟩) rfl ?_
  refine ca (n':=1) [28] [0] rfl rfl (.inl ⟨(aq.plain rfl),aM.cast (dy rfl rfl rfl Try.underlying83 rfl dK (bz hx1) rfl) rfl⟩) rfl ?_
  refine bU (kn:=[]) aa 3 rfl trivial ?_
  refine ca (n':=1) [31,32] [] rfl rfl (.inl ⟨(aq.plain rfl),aM.cast (aN rfl rfl rfl (aK (by first|omega|(simp;done)|(simp;omega)))) rfl⟩) rfl ?_
  refine ca (n':=1) [30,33] [0] rfl rfl (.inl ⟨(aq.plain rfl),aM.cast (br (i:=(a)+(i)) rfl rfl rfl Try.underlying42 dK (by first|omega|(simp;done)|(simp;omega)) (by first|omega|(simp;done)|(simp;omega))) rfl⟩) rfl ?_
  refine ca (n':=1) [34] [0] rfl rfl (.inl ⟨(aq.plain rfl),aM.cast (dy rfl rfl rfl Try.underlying83 rfl dK (bz hx2) rfl) rfl⟩) rfl ?_
  refine ca (n':=1) [16,19] [0] rfl rfl (.inl ⟨(aq.plain rfl),aM.cast (br (i:=(a)+(i)) rfl rfl rfl Try.underlying42 dK (by first|omega|(simp;done)|(simp;omega)) (by first|omega|(simp;done)|(simp;omega))) rfl⟩) rfl ?_
  refine ca (n':=1) [36,29] [0] rfl rfl (.inl ⟨(aq.plain rfl),aM.cast (dW (ds:=[(dI x1.az),(dI x1.ba),(dI x1.kind),(dI x1.sum)]) rfl rfl rfl rfl rfl dK rfl (Nat.le_of_ble_eq_true rfl) (bz hx2) rfl (eU (x':=x1) rfl)) rfl⟩) rfl ?_
  refine ca (n':=1) [20,23] [0] rfl rfl (.inl ⟨(aq.plain rfl),aM.cast (br (i:=(b)+(i)) rfl rfl rfl Try.underlying42 dK (by first|omega|(simp;done)|(simp;omega)) (by first|omega|(simp;done)|(simp;omega))) rfl⟩) rfl ?_
  refine ca (n':=1) [37,35] [0] rfl rfl (.inl ⟨(aq.plain rfl),aM.cast (dW (ds:=[(dI x2.az),(dI x2.ba),(dI x2.kind),(dI x2.sum)]) rfl rfl rfl rfl rfl dK rfl (Nat.le_of_ble_eq_true rfl) (bz hx3) rfl (eU (x':=x2) rfl)) rfl⟩) rfl ?_
  refine ef [0,1,2,3,10] [0] rfl rfl (by kernel_rfl) ?_
  refine bq ?_
  refine then_ok ?_
  refine ay ?_
  refine ad aa 1 rfl ?_
  refine aE (aN rfl rfl rfl (aK (by first|omega|(simp;done)|(simp;omega)))) rfl ?_
  refine ad aa 1 rfl ?_
  refine af ?_
  refine ⟨(i+1,((d1).set ((a)+(i)) x1).set ((b)+(i)) x2),⟨by omega,by rw [gN,<-hi0_1];exact (mr hx2 hx1).symm,by simp only [List.length_set];exact hi0_2⟩,by first|omega|(simp;done)|(simp;omega),aJ.cc id (by refine ⟨?_,?_,?_,?_,?_,trivial⟩<;>first|rfl|(simp only [bn];done)|(congr 3;omega)|(congr 4;omega)|(simp only [bo];rfl)|(exact cD rfl (by omega))) (⟨by first|rfl|(simp only [bn];done)|(congr 3;omega)|(congr 4;omega)|(simp only [bo];rfl),trivial⟩) rfl⟩
 have hc1':=of_decide_eq_false hc1
 refine cp ?_
 refine aR ?_
 refine aR ?_
 refine bM ?_
 have hX:gN a b n d=d1:=by
   have:i=n:=by omega
   subst this;exact hi0_1.symm
 rw [hX] at hr;clear hX
 subst hr
 refine cP aa [0] 1 rfl rfl rfl rfl rfl rfl ?_ ?_
 all_goals first|rfl|(simp [aD];done)|(simp [aD];omega)
theorem mD (ai bi ni:Int) (d:List au) (N a b n:Nat) (fn:FuncId) (bh:List (List D)) (hp:∀ x y:au,Fn Try.prog fn ([.g [cI x.az,cI x.ba,cI x.kind,cI x.sum],.g [cI y.az,cI y.ba,cI y.kind,cI y.sum]]++bh.map fun r=>GV.c (.q r 0)) (aI (iB x y)) []) (hen:bp Try.prog fn) (ea_:ai=(↑a:Int)) (eb_:bi=(↑b:Int)) (en_:ni=(↑n:Int)) (hl:d.length * 32<=140737488355328) (hN:N=d.length) (h0_:a+n<=d.length) (h1_:b+n<=d.length) (r:List au) (hr:gN a b n d=r):cL Try.prog 110 [(.c (.s 0 0 4 N)),(.c (cI ai)),(.c (cI bi)),(.c (cI ni)),(.c (.d (.f fn bh)))] [(0,(cU d))] [0] (.t []) [(0,(cU r))]:=by
  subst ea_ eb_ en_
  exact yh d N a b n fn bh hp hen hl hN h0_ h1_ r hr

theorem EH (d:List au) (N a m b:Nat) (fn:FuncId) (bh:List (List D)) (hp:∀ x y:au,Fn Try.prog fn ([.g [cI x.az,cI x.ba,cI x.kind,cI x.sum],.g [cI y.az,cI y.ba,cI y.kind,cI y.sum]]++bh.map fun r=>GV.c (.q r 0)) (aI (iB x y)) []) (hen:bp Try.prog fn) (hl:d.length * 32<=140737488355328) (hN:N=d.length) (h0_:a < m) (h1_:m < b) (h2_:b<=d.length) (r:List au) (hr:ju m (m - a) (b - m) d=r):cL Try.prog 93 [(.c (.s 0 0 4 N)),(.c (cI (↑a:Int))),(.c (cI (↑m:Int))),(.c (cI (↑b:Int))),(.c (.d (.f fn bh)))] [(0,(cU d))] [0] (.t []) [(0,(cU r))]:=by
 refine cL.mk 58 [(0,(aC (.s 0 0 4 N))),(1,(aI (↑a:Int))),(2,(aI (↑m:Int))),(3,(aI (↑b:Int))),(4,(aC (.d (.f fn bh))))] 1 Try.func93 rfl rfl rfl rfl rfl rfl rfl rfl rfl ?_
 intro W0 F0 T0 pg
 refine gU 0 rfl (fun hlen0=>?_)
 refine aH aa 2 rfl ?_
 refine aE (aN rfl rfl rfl (aK (by first|omega|(simp;done)|(simp;omega)))) rfl ?_
 refine ad aa 1 rfl ?_
 refine af ?_
 refine aH aa 2 rfl ?_
 refine aE (aN rfl rfl rfl (aK (by first|omega|(simp;done)|(simp;omega)))) rfl ?_
 refine ad aa 1 rfl ?_
 refine af ?_
 refine ah ?_
 refine aY ?_
 refine cz (β:=Nat×Nat×List au) (fun (p:Nat×Nat×List au)=>match p with|(i,j,d1)=>⟨[(0,(aC (.s 0 0 4 N))),(2,(aI (↑m:Int))),(4,(aC (.d (.f fn bh)))),(10,(aI (↑i:Int))),(11,(aI (↑j:Int)))],[(0,(cU d1))],1⟩) (fun (p:Nat×Nat×List au)=>match p with|(i,j,d1)=>0 < i/\0 < j/\i+a<=m/\m+j<=b/\ju m i j d1=ju m (m - a) (b - m) d/\d1.length=d.length) (fun (p:Nat×Nat×List au)=>match p with|(i,j,d1)=>i+j) (m - a,b - m,d) ?_ ?_ ?_
 ·exact ⟨by omega,by omega,by omega,by omega,rfl,rfl⟩
 ·exact aJ.cc id (by refine ⟨?_,?_,?_,?_,?_,trivial⟩<;>first|rfl|(simp only [bn];done)|(congr 3;omega)|(congr 4;omega)|(simp only [bo];rfl)|(exact cD rfl (by omega))) (⟨by first|rfl|(simp only [bn];done)|(congr 3;omega)|(congr 4;omega)|(simp only [bo];rfl),trivial⟩) rfl
 rintro ⟨i,j,d1⟩ ⟨hi0_0,hi0_1,hi0_2,hi0_3,hi0_4,hi0_5⟩
 refine ah ?_
 refine ae aa 3 rfl ?_
 refine an rfl (fun hc1=>?_) (fun hc1=>?_)
 ·
  have hc1':=of_decide_eq_true hc1
  refine aU ?_
  refine aY ?_
  refine ae aa 3 rfl ?_
  refine an rfl (fun hc2=>?_) (fun hc2=>?_)
  ·
   have hc2':=of_decide_eq_true hc2
   refine aH aa 3 rfl ?_
   refine aE (aN rfl rfl rfl (aK (by first|omega|(simp;done)|(simp;omega)))) rfl ?_
   refine ad aa 3 rfl ?_
   obtain ⟨r0,hr0⟩:∃ (r0:List au),gN ((m) - (i)) m j d1=r0:=⟨_,rfl⟩
   have hlr0:r0.length=d1.length:=by rw [<-hr0];exact jb _ _ _ _
   refine aP 1 [0] (ej id id (mD ((↑m:Int) - (↑i:Int)) (↑m:Int) (↑j:Int) d1 N ((m) - (i)) m j fn bh hp hen (by first|omega|(simp;done)|(simp;omega)) (by first|omega|(simp;done)|(simp;omega)) (by first|omega|(simp;done)|(simp;omega)) (by first|omega|(simp;done)|(simp;omega)) (by first|omega|(simp;done)|(simp;omega)) (by first|omega|(simp;done)|(simp;omega)) (by first|omega|(simp;done)|(simp;omega)) r0 hr0) Ax rfl rfl ⟨⟨_,rfl,.inl ⟨rfl,rfl⟩⟩,⟨_,rfl,.inr (.c (.d _))⟩,⟨_,rfl,.inr (.c (.d _))⟩,⟨_,rfl,.inr (.c (.d _))⟩,⟨_,rfl,.inr (.c (.d _))⟩,trivial⟩ ⟨rfl,trivial⟩ rfl rfl ⟨.inr ⟨_,_,_,rfl,by first|(simp;omega)|(simp only [List.length_map];omega)⟩,trivial⟩ rfl rfl rfl trivial ⟨(fun _ _ _ _=>trivial),trivial⟩ rfl rfl rfl rfl) rfl ?_
   refine af ?_
   refine ay ?_
   refine ad aa 2 rfl ?_
   refine aE (aN rfl rfl rfl (aK (by first|omega|(simp;done)|(simp;omega)))) rfl ?_
   refine ad aa 1 rfl ?_
   refine cf ?_
   refine bq ?_
   refine then_ok ?_
   refine ⟨((i) - (j),j,r0),⟨by omega,by omega,by omega,by omega,by rw [<-hr0,<-BE (by omega) (by omega)];exact hi0_4,by omega⟩,by first|omega|(simp;done)|(simp;omega),aJ.cc id (by refine ⟨?_,?_,?_,?_,?_,trivial⟩<;>first|rfl|(simp only [bn];done)|(congr 3;omega)|(congr 4;omega)|(simp only [bo];rfl)|(exact cD rfl (by omega))) (⟨by first|rfl|(simp only [bn];done)|(congr 3;omega)|(congr 4;omega)|(simp only [bo];rfl),trivial⟩) rfl⟩
  have hc2':=of_decide_eq_false hc2
  refine aH aa 3 rfl ?_
  refine aE (aN rfl rfl rfl (aK (by first|omega|(simp;done)|(simp;omega)))) rfl ?_
  refine ad aa 2 rfl ?_
  refine aE (aN rfl rfl rfl (aK (by first|omega|(simp;done)|(simp;omega)))) rfl ?_
  refine ad aa 1 rfl ?_
  refine aE (aN rfl rfl rfl (aK (by first|omega|(simp;done)|(simp;omega)))) rfl ?_
  refine ad aa 2 rfl ?_
  obtain ⟨r1,hr1⟩:∃ (r1:List au),gN ((m) - (i)) (((m)+(j)) - (i)) i d1=r1:=⟨_,rfl⟩
  have hlr1:r1.length=d1.length:=by rw [<-hr1];exact jb _ _ _ _
  refine aP 1 [0] (ej id id (mD ((↑m:Int) - (↑i:Int)) (((↑m:Int)+(↑j:Int)) - (↑i:Int)) (↑i:Int) d1 N ((m) - (i)) (((m)+(j)) - (i)) i fn bh hp hen (by first|omega|(simp;done)|(simp;omega)) (by first|omega|(simp;done)|(simp;omega)) (by first|omega|(simp;done)|(simp;omega)) (by first|omega|(simp;done)|(simp;omega)) (by first|omega|(simp;done)|(simp;omega)) (by first|omega|(simp;done)|(simp;omega)) (by first|omega|(simp;done)|(simp;omega)) r1 hr1) Ax rfl rfl ⟨⟨_,rfl,.inl ⟨rfl,rfl⟩⟩,⟨_,rfl,.inr (.c (.d _))⟩,⟨_,rfl,.inr (.c (.d _))⟩,⟨_,rfl,.inr (.c (.d _))⟩,⟨_,rfl,.inr (.c (.d _))⟩,trivial⟩ ⟨rfl,trivial⟩ rfl rfl ⟨.inr ⟨_,_,_,rfl,by first|(simp;omega)|(simp only [List.length_map];omega)⟩,trivial⟩ rfl rfl rfl trivial ⟨(fun _ _ _ _=>trivial),trivial⟩ rfl rfl rfl rfl) rfl ?_
  refine af ?_
  refine ay ?_
  refine ad aa 2 rfl ?_
  refine aE (aN rfl rfl rfl (aK (by first|omega|(simp;done)|(simp;omega)))) rfl ?_
  refine ad aa 1 rfl ?_
  refine cf ?_
  refine bq ?_
  refine then_ok ?_
  refine ⟨(i,(j) - (i),r1),⟨by omega,by omega,by omega,by omega,by rw [<-hr1,<-BD (by omega) (by omega)];exact hi0_4,by omega⟩,by first|omega|(simp;done)|(simp;omega),aJ.cc id (by refine ⟨?_,?_,?_,?_,?_,trivial⟩<;>first|rfl|(simp only [bn];done)|(congr 3;omega)|(congr 4;omega)|(simp only [bo];rfl)|(exact cD rfl (by omega))) (⟨by first|rfl|(simp only [bn];done)|(congr 3;omega)|(congr 4;omega)|(simp only [bo];rfl),trivial⟩) rfl⟩
 have hc1':=of_decide_eq_false hc1
 refine cp ?_
 refine aR ?_
 refine aR ?_
 refine bM ?_
 refine then_ok ?_
 refine ay ?_
 refine ad aa 3 rfl ?_
 refine aE (aN rfl rfl rfl (aK (by first|omega|(simp;done)|(simp;omega)))) rfl ?_
 refine ad aa 3 rfl ?_
 obtain ⟨r2,hr2⟩:∃ (r2:List au),gN ((m) - (i)) m i d1=r2:=⟨_,rfl⟩
 have hlr2:r2.length=d1.length:=by rw [<-hr2];exact jb _ _ _ _
 refine aP 1 [0] (ej id id (mD ((↑m:Int) - (↑i:Int)) (↑m:Int) (↑i:Int) d1 N ((m) - (i)) m i fn bh hp hen (by first|omega|(simp;done)|(simp;omega)) (by first|omega|(simp;done)|(simp;omega)) (by first|omega|(simp;done)|(simp;omega)) (by first|omega|(simp;done)|(simp;omega)) (by first|omega|(simp;done)|(simp;omega)) (by first|omega|(simp;done)|(simp;omega)) (by first|omega|(simp;done)|(simp;omega)) r2 hr2) Ax rfl rfl ⟨⟨_,rfl,.inl ⟨rfl,rfl⟩⟩,⟨_,rfl,.inr (.c (.d _))⟩,⟨_,rfl,.inr (.c (.d _))⟩,⟨_,rfl,.inr (.c (.d _))⟩,⟨_,rfl,.inr (.c (.d _))⟩,trivial⟩ ⟨rfl,trivial⟩ rfl rfl ⟨.inr ⟨_,_,_,rfl,by first|(simp;omega)|(simp only [List.length_map];omega)⟩,trivial⟩ rfl rfl rfl trivial ⟨(fun _ _ _ _=>trivial),trivial⟩ rfl rfl rfl rfl) rfl ?_
 refine cf ?_
 have hX:ju m (m - a) (b - m) d=r2:=by
   have hij:i=j:=by omega
   subst hij;rw [<-hi0_4,BF (by omega)];exact hr2
 rw [hX] at hr;clear hX
 subst hr
 refine cP aa [0] 1 rfl rfl rfl rfl rfl rfl ?_ ?_
 all_goals first|rfl|(simp [aD];done)|(simp [aD];omega)
theorem vt (ai mi bi:Int) (d:List au) (N a m b:Nat) (fn:FuncId) (bh:List (List D)) (hp:∀ x y:au,Fn Try.prog fn ([.g [cI x.az,cI x.ba,cI x.kind,cI x.sum],.g [cI y.az,cI y.ba,cI y.kind,cI y.sum]]++bh.map fun r=>GV.c (.q r 0)) (aI (iB x y)) []) (hen:bp Try.prog fn) (ea_:ai=(↑a:Int)) (em_:mi=(↑m:Int)) (eb_:bi=(↑b:Int)) (hl:d.length * 32<=140737488355328) (hN:N=d.length) (h0_:a < m) (h1_:m < b) (h2_:b<=d.length) (r:List au) (hr:ju m (m - a) (b - m) d=r):cL Try.prog 93 [(.c (.s 0 0 4 N)),(.c (cI ai)),(.c (cI mi)),(.c (cI bi)),(.c (.d (.f fn bh)))] [(0,(cU d))] [0] (.t []) [(0,(cU r))]:=by
  subst ea_ em_ eb_
  exact EH d N a m b fn bh hp hen hl hN h0_ h1_ h2_ r hr
end Go.Proofs.Ytegepioggeggaaa.Dev
