/- A part of the proof: Auth2, Stand1, Stand2, Stand4, Stand5, Sort1, Sort2, Sort3. No condition. -/
import Derived.Test.YtegepioggeggaaaD08
set_option linter.unusedVariables false
set_option linter.unusedSimpArgs false
set_option maxHeartbeats 1000000
set_option maxRecDepth 100000
namespace Go.Proofs.Ytegepioggeggaaa.Dev
open Go.RowKit

theorem xc (a:bC) (t:Int) (b:bC) (hr:ep a t=b):Fn Try.prog 104 [(.g [(cI a.aO),(cI a.aE),(cI a.sum),(cI a.captured),(cI a.bB),(cI a.bl),(cI a.dg),(cB a.shut)]),(.c (cI t))] (.v (.g [(cI b.aO),(cI b.aE),(cI b.sum),(cI b.captured),(cI b.bB),(cI b.bl),(cI b.dg),(cB b.shut)])) []:=by
 refine Fn.mk' 11 [(0,(aG [(cI a.aO),(cI a.aE),(cI a.sum),(cI a.captured),(cI a.bB),(cI a.bl),(cI a.dg),(cB a.shut)])),(1,(aI t))] Try.func104 rfl rfl rfl rfl ?_
 intro W0 T0
 refine ae aa 2 rfl ?_
 refine ag ?_
 refine ae aa 4 rfl ?_
 refine aj rfl (fun hc1=>?_) (fun hc1=>?_)
 ·
  have hc1':=of_decide_eq_true hc1
  refine aw ?_
  refine ad aa 2 rfl ?_
  refine af ?_
  refine ae aa 2 rfl ?_
  refine aA ?_
  have hX:ep a t=(⟨a.aO,a.aE,a.sum,a.captured,a.bB,a.bl,a.dg,true⟩:bC):=by
    refine wu rfl rfl rfl rfl rfl rfl rfl ?_;by_cases hT:a.dg<=t<;>first|(exfalso;omega)|simp [ep,hT]
  rw [hX] at hr;clear hX
  subst hr
  refine aq aa [1] 0 rfl rfl rfl rfl rfl rfl ?_ ?_
  all_goals first|rfl|(simp [aD];done)|(simp [aD];omega)
 have hc1':=of_decide_eq_false hc1
 refine aQ ?_
 refine ae aa 2 rfl ?_
 refine aA ?_
 have hX:ep a t=a:=by
   refine wu rfl rfl rfl rfl rfl rfl rfl ?_;by_cases hT:a.dg<=t<;>first|(exfalso;omega)|simp [ep,hT]
 rw [hX] at hr;clear hX
 subst hr
 refine aq aa [1] 0 rfl rfl rfl rfl rfl rfl ?_ ?_
 all_goals first|rfl|(simp [aD];done)|(simp [aD];omega)
theorem kL (a:bC) (ha:bM a=0) (e:Int) (hr:bR a=e):Fn Try.prog 27 [(.g [(cI a.aO),(cI a.aE),(cI a.sum),(cI a.captured),(cI a.bB),(cI a.bl),(cI a.dg),(cB a.shut)])] (.v (.c (cI e))) []:=by
 refine Fn.mk' 10 [(0,(aG [(cI a.aO),(cI a.aE),(cI a.sum),(cI a.captured),(cI a.bB),(cI a.bl),(cI a.dg),(cB a.shut)]))] Try.func27 rfl rfl rfl rfl ?_
 intro W0 T0
 have hw:=eM ha
 refine ae aa 2 rfl ?_
 refine ag ?_
 refine ae aa 2 rfl ?_
 refine aj rfl (fun hc1=>?_) (fun hc1=>?_)
 ·
  have hc1':=hc1;try simp only [bx,bV] at hc1'
  refine ae aa 1 rfl ?_
  refine aA ?_
  refine ax ?_
  have hX:bR a=0:=by
    (unfold bR;try dsimp only);(repeat' split)<;>first|rfl|omega|(exfalso;omega)|(subst_vars;rfl)|(simp_all;done)|(simp_all;omega)
  rw [hX] at hr;clear hX
  subst hr
  refine aq aa [] 0 rfl rfl rfl rfl rfl rfl ?_ ?_
  all_goals first|rfl|(simp [aD];done)|(simp [aD];omega)
 have hc1':=hc1;try simp only [bx,bV] at hc1'
 refine aQ ?_
 refine aH aa 4 rfl ?_
 refine az (aK rfl rfl rfl (aL (by first|omega|(simp;done)|(simp;omega)))) rfl ?_
 refine ad aa 1 rfl ?_
 refine af ?_
 refine aA ?_
 have hX:bR a=(a.sum - a.captured):=by
   (unfold bR;try dsimp only);(repeat' split)<;>first|rfl|omega|(exfalso;omega)|(subst_vars;rfl)|(simp_all;done)|(simp_all;omega)
 rw [hX] at hr;clear hX
 subst hr
 refine aq aa [] 0 rfl rfl rfl rfl rfl rfl ?_ ?_
 all_goals first|rfl|(simp [aD];done)|(simp [aD];omega)
theorem qv (a:bC) (h:bM a=0):cM Try.prog 101 [(.c (.p 0 0 0 0))] [(0,(.box 67 [(cI a.aO),(cI a.aE),(cI a.sum),(cI a.captured),(cI a.bB),(cI a.bl),(cI a.dg),(cB a.shut)]))] [0] (aI (a.captured - a.bB - a.bl)) [(0,(.box 67 [(cI a.aO),(cI a.aE),(cI a.sum),(cI a.captured),(cI a.bB),(cI a.bl),(cI a.dg),(cB a.shut)]))]:=by
 refine cM.mk 17 [(0,(aC (.p 0 0 0 0)))] 1 Try.func101 rfl rfl rfl rfl rfl rfl rfl rfl rfl ?_
 intro W0 F0 T0 pg
 have hw:=eM h
 refine ae aa 1 rfl ?_
 refine ag ?_
 refine aX [0] [0] mixed rfl rfl ?_
 refine ay (kn:=[]) aa 8 rfl trivial ?_
 refine aP (n':=1) [6,10] [] rfl rfl (.inl ⟨(ah.plain rfl),aJ.cast (aK rfl rfl rfl (aL (by first|omega|(simp;done)|(simp;omega)))) rfl⟩) rfl ?_
 refine ay (kn:=[]) aa 4 rfl trivial ?_
 refine aP (n':=1) [11,15] [] rfl rfl (.inl ⟨(ah.plain rfl),aJ.cast (aK rfl rfl rfl (aL (by first|omega|(simp;done)|(simp;omega)))) rfl⟩) rfl ?_
 refine ay (kn:=[]) aa 1 rfl trivial ?_
 refine bw [0] rfl rfl rfl rfl (by kernel_rfl) ?_
 refine af ?_
 refine aA ?_
 refine aq aa [0] 1 rfl rfl rfl rfl rfl rfl ?_ ?_
 all_goals first|rfl|(simp [aD];done)|(simp [aD];omega)
theorem xa (a:bC) (kind n:Int) (h:bM a=0) (h1:1<=n) (h2:n<=1000000) (b:bC) (e:Int) (hr:dR a kind n=(b,e)):cM Try.prog 102 [(.c (.p 0 0 0 0)),(.c (cI kind)),(.c (cI n))] [(0,(.box 67 [(cI a.aO),(cI a.aE),(cI a.sum),(cI a.captured),(cI a.bB),(cI a.bl),(cI a.dg),(cB a.shut)]))] [0] (.v (.c (cI e))) [(0,(.box 67 [(cI b.aO),(cI b.aE),(cI b.sum),(cI b.captured),(cI b.bB),(cI b.bl),(cI b.dg),(cB b.shut)]))]:=by
 refine cM.mk 91 [(0,(aC (.p 0 0 0 0))),(1,(aI kind)),(2,(aI n))] 1 Try.func102 rfl rfl rfl rfl rfl rfl rfl rfl rfl ?_
 intro W0 F0 T0 pg
 have hw:=eM h
 refine ae aa 1 rfl ?_
 refine ag ?_
 refine aX [0,1,2] [0] mixed rfl rfl ?_
 refine ay (kn:=[]) aa 8 rfl trivial ?_
 refine aP (n':=1) [11,15] [] rfl rfl (.inl ⟨(ah.plain rfl),aJ.cast (aK rfl rfl rfl (aL (by first|omega|(simp;done)|(simp;omega)))) rfl⟩) rfl ?_
 refine ay (kn:=[]) aa 1 rfl trivial ?_
 refine bw [0] rfl rfl rfl rfl (by kernel_rfl) ?_
 refine af ?_
 refine ag ?_
 refine aR ?_
 refine ae aa 5 rfl ?_
 refine aj rfl (fun hc1=>?_) (fun hc1=>?_)
 ·
  have hc1':=hc1;try simp only [bx,bV] at hc1'
  refine ae aa 1 rfl ?_
  refine aA ?_
  refine bp ?_
  refine ax ?_
  have hX:dR a kind n=(a,9):=by
    (unfold dR;try dsimp only);(repeat' split)<;>first|rfl|omega|(exfalso;omega)|(subst_vars;rfl)|(simp_all;done)|(simp_all;omega)
  rw [hX] at hr;clear hX
  simp only [Prod.mk.injEq] at hr;obtain ⟨rfl,rfl⟩:=hr
  refine aq aa [0] 1 rfl rfl rfl rfl rfl rfl ?_ ?_
  all_goals first|rfl|(simp [aD];done)|(simp [aD];omega)
 have hc1':=hc1;try simp only [bx,bV] at hc1'
 refine ae aa 3 rfl ?_
 refine aj rfl (fun hc2=>?_) (fun hc2=>?_)
 ·
  have hc2':=of_decide_eq_true hc2
  refine ag ?_
  refine aH aa 5 rfl ?_
  refine az (aK rfl rfl rfl (aL (by first|omega|(simp;done)|(simp;omega)))) rfl ?_
  refine ad aa 1 rfl ?_
  refine af ?_
  refine aj rfl (fun hc3=>?_) (fun hc3=>?_)
  ·
   have hc3':=of_decide_eq_true hc3
   refine ae aa 1 rfl ?_
   refine aA ?_
   refine ax ?_
   refine bp ?_
   refine ax ?_
   have hX:dR a kind n=(a,4):=by
     (unfold dR;try dsimp only);(repeat' split)<;>first|rfl|omega|(exfalso;omega)|(subst_vars;rfl)|(simp_all;done)|(simp_all;omega)
   rw [hX] at hr;clear hX
   simp only [Prod.mk.injEq] at hr;obtain ⟨rfl,rfl⟩:=hr
   refine aq aa [0] 1 rfl rfl rfl rfl rfl rfl ?_ ?_
   all_goals first|rfl|(simp [aD];done)|(simp [aD];omega)
  have hc3':=of_decide_eq_false hc3
  refine aQ ?_
  refine aH aa 5 rfl ?_
  refine az (aK rfl rfl rfl (aL (by first|omega|(simp;done)|(simp;omega)))) rfl ?_
  refine ad aa 3 rfl ?_
  refine af ?_
  refine ae aa 1 rfl ?_
  refine aA ?_
  refine bp ?_
  refine ax ?_
  have hX:dR a kind n=((⟨a.aO,a.aE,a.sum+n,a.captured,a.bB,a.bl,a.dg,a.shut⟩:bC),0):=by
    (unfold dR;try dsimp only);(repeat' split)<;>first|rfl|omega|(exfalso;omega)|(subst_vars;rfl)|(simp_all;done)|(simp_all;omega)
  rw [hX] at hr;clear hX
  simp only [Prod.mk.injEq] at hr;obtain ⟨rfl,rfl⟩:=hr
  refine aq aa [0] 1 rfl rfl rfl rfl rfl rfl ?_ ?_
  all_goals first|rfl|(simp [aD];done)|(simp [aD];omega)
 have hc2':=of_decide_eq_false hc2
 refine ae aa 4 rfl ?_
 refine aj rfl (fun hc4=>?_) (fun hc4=>?_)
 ·
  have hc4':=of_decide_eq_true hc4
  refine ae aa 1 rfl ?_
  refine aA ?_
  refine bp ?_
  refine ax ?_
  have hX:dR a kind n=(a,10):=by
    (unfold dR;try dsimp only);(repeat' split)<;>first|rfl|omega|(exfalso;omega)|(subst_vars;rfl)|(simp_all;done)|(simp_all;omega)
  rw [hX] at hr;clear hX
  simp only [Prod.mk.injEq] at hr;obtain ⟨rfl,rfl⟩:=hr
  refine aq aa [0] 1 rfl rfl rfl rfl rfl rfl ?_ ?_
  all_goals first|rfl|(simp [aD];done)|(simp [aD];omega)
 have hc4':=of_decide_eq_false hc4
 refine ae aa 3 rfl ?_
 refine aj rfl (fun hc5=>?_) (fun hc5=>?_)
 ·
  have hc5':=of_decide_eq_true hc5
  refine aH aa 5 rfl ?_
  refine az (aK rfl rfl rfl (aL (by first|omega|(simp;done)|(simp;omega)))) rfl ?_
  refine ad aa 3 rfl ?_
  refine af ?_
  refine ag ?_
  refine aX [0,1,2] [0] mixed rfl rfl ?_
  refine ay (kn:=[]) aa 12 rfl trivial ?_
  refine bw [0] rfl rfl rfl rfl (by kernel_rfl) ?_
  refine ad aa 1 rfl ?_
  refine af ?_
  refine ae aa 1 rfl ?_
  refine aA ?_
  refine bp ?_
  refine ax ?_
  have hX:dR a kind n=((⟨a.aO,a.aE,a.sum - n,a.captured,a.bB,a.bl,a.dg,decide ((a.sum - n)=a.captured)⟩:bC),0):=by
    (unfold dR;try dsimp only);(repeat' split)<;>first|rfl|omega|(exfalso;omega)|(subst_vars;rfl)|(simp_all;done)|(simp_all;omega)
  rw [hX] at hr;clear hX
  simp only [Prod.mk.injEq] at hr;obtain ⟨rfl,rfl⟩:=hr
  refine aq aa [0] 1 rfl rfl rfl rfl rfl rfl ?_ ?_
  all_goals first|rfl|(simp [aD];done)|(simp [aD];omega)
 have hc5':=of_decide_eq_false hc5
 refine cE ?_
 refine bf ?_
 refine then_ok ?_
 refine aH aa 5 rfl ?_
 refine az (aK rfl rfl rfl (aL (by first|omega|(simp;done)|(simp;omega)))) rfl ?_
 refine ad aa 3 rfl ?_
 refine af ?_
 refine ag ?_
 rcases Bool.eq_false_or_eq_true (decide (kind=3)) with hb6|hb6
 ·
  have hb6':=of_decide_eq_true hb6
  refine aX [0,1] [0] mixed rfl rfl ?_
  refine ay (kn:=[(77,true)]) aa 16 rfl ⟨hb6,trivial⟩ ?_
  refine bw [0] rfl rfl rfl rfl (by kernel_rfl) ?_
  refine ad aa 1 rfl ?_
  refine af ?_
  refine ae aa 1 rfl ?_
  refine aA ?_
  have hX:dR a kind n=((⟨a.aO,a.aE,a.sum,a.captured+n,a.bB,a.bl,a.dg,true⟩:bC),0):=by
    (unfold dR;try dsimp only);(repeat' split)<;>first|rfl|omega|(exfalso;omega)|(subst_vars;rfl)|(simp_all;done)|(simp_all;omega)
  rw [hX] at hr;clear hX
  simp only [Prod.mk.injEq] at hr;obtain ⟨rfl,rfl⟩:=hr
  refine aq aa [0] 1 rfl rfl rfl rfl rfl rfl ?_ ?_
  all_goals first|rfl|(simp [aD];done)|(simp [aD];omega)
 have hb6':=of_decide_eq_false hb6
 refine aX [0,1] [0] mixed rfl rfl ?_
 refine ay (kn:=[(77,false)]) aa 16 rfl ⟨hb6,trivial⟩ ?_
 refine bw [0] rfl rfl rfl rfl (by kernel_rfl) ?_
 refine ad aa 1 rfl ?_
 refine af ?_
 refine ae aa 1 rfl ?_
 refine aA ?_
 have hX:dR a kind n=((⟨a.aO,a.aE,a.sum,a.captured+n,a.bB,a.bl,a.dg,decide ((a.captured+n)=a.sum)⟩:bC),0):=by
   (unfold dR;try dsimp only);(repeat' split)<;>first|rfl|omega|(exfalso;omega)|(subst_vars;rfl)|(simp_all;done)|(simp_all;omega)
 rw [hX] at hr;clear hX
 simp only [Prod.mk.injEq] at hr;obtain ⟨rfl,rfl⟩:=hr
 refine aq aa [0] 1 rfl rfl rfl rfl rfl rfl ?_ ?_
 all_goals first|rfl|(simp [aD];done)|(simp [aD];omega)
theorem xb (a:bC) (kind n:Int) (b:bC) (e:Int) (hr:cq a kind n=(b,e)):Fn Try.prog 81 [(.g [(cI a.aO),(cI a.aE),(cI a.sum),(cI a.captured),(cI a.bB),(cI a.bl),(cI a.dg),(cB a.shut)]),(.c (cI kind)),(.c (cI n))] (.t [(.g [(cI b.aO),(cI b.aE),(cI b.sum),(cI b.captured),(cI b.bB),(cI b.bl),(cI b.dg),(cB b.shut)]),(.c (cI e))]) []:=by
 refine Fn.mk' 76 [(0,(aG [(cI a.aO),(cI a.aE),(cI a.sum),(cI a.captured),(cI a.bB),(cI a.bl),(cI a.dg),(cB a.shut)])),(1,(aI kind)),(2,(aI n))] Try.func81 rfl rfl rfl rfl ?_
 intro W0 T0
 have hw:=@eM a
 refine ae aa 3 rfl ?_
 refine ag ?_
 refine aH aa 1 rfl ?_
 obtain ⟨e0,hr0⟩:∃ (e0:Int),bM a=e0:=⟨_,rfl⟩
 refine aT 2 [1,0] (bU 2 (pw a e0 hr0) EV rfl rfl ⟨⟨_,rfl,.g ⟨.d _,.d _,.d _,.d _,.d _,.d _,.d _,.d _,trivial⟩⟩,trivial⟩ trivial trivial rfl rfl rfl rfl) rfl ?_
 refine ad aa 1 rfl ?_
 refine af ?_
 refine ae aa 2 rfl ?_
 refine aj rfl (fun hc1=>?_) (fun hc1=>?_)
 ·
  have hc1':=of_decide_eq_true hc1
  refine ae aa 4 rfl ?_
  refine aA ?_
  refine ax ?_
  have hX:cq a kind n=((⟨0,0,0,0,0,0,0,false⟩:bC),e0):=by
    (unfold cq;try dsimp only);(try simp only [hr0]);(repeat' split)<;>first|rfl|omega|(exfalso;omega)|(subst_vars;rfl)|(simp_all;done)|(simp_all;omega)
  rw [hX] at hr;clear hX
  simp only [Prod.mk.injEq] at hr;obtain ⟨rfl,rfl⟩:=hr
  refine aq aa [1] 0 rfl rfl rfl rfl rfl rfl ?_ ?_
  all_goals first|rfl|(simp [aD];done)|(simp [aD];omega)
 have hc1':=of_decide_eq_false hc1
 refine aQ ?_
 refine ag ?_
 refine cr 21 ((decide (kind < 1))||(decide (kind > 8))) ?_ ?_
 ·
  refine aw ?_
  refine ad aa 3 rfl ?_
  refine bK (t:=18) rfl (fun hb2=>?_) (fun hb2=>?_)
  ·
   have hb2':=of_decide_eq_true hb2
   refine ad aa 3 rfl ?_
   refine af ?_
   exact aF.bF 7 rfl rfl (by first|(simp [hb2];done)|(simp_all;done)|(exfalso;simp_all;done)|(simp_all;omega)) rfl
  have hb2':=of_decide_eq_false hb2
  refine ad aa 3 rfl ?_
  refine af ?_
  exact aF.bF 7 rfl rfl (by first|(simp [hb2];done)|(simp_all;done)|(exfalso;simp_all;done)|(simp_all;omega)) rfl
 refine aj rfl (fun hc3=>?_) (fun hc3=>?_)
 ·
  have hc3':=hc3;try simp only [bx,bV] at hc3'
  refine ae aa 3 rfl ?_
  refine aA ?_
  refine ax ?_
  have hX:cq a kind n=((⟨0,0,0,0,0,0,0,false⟩:bC),1):=by
    (unfold cq;try dsimp only);(try simp only [hr0]);(repeat' split)<;>first|rfl|omega|(exfalso;omega)|(subst_vars;rfl)|(simp_all;done)|(simp_all;omega)
  rw [hX] at hr;clear hX
  simp only [Prod.mk.injEq] at hr;obtain ⟨rfl,rfl⟩:=hr
  refine aq aa [1] 0 rfl rfl rfl rfl rfl rfl ?_ ?_
  all_goals first|rfl|(simp [aD];done)|(simp [aD];omega)
 have hc3':=hc3;try simp only [bx,bV] at hc3'
 refine aQ ?_
 refine ag ?_
 refine cr 28 ((decide (n < 1))||(decide (n > 1000000))) ?_ ?_
 ·
  refine aw ?_
  refine ad aa 3 rfl ?_
  refine bK (t:=25) rfl (fun hb4=>?_) (fun hb4=>?_)
  ·
   have hb4':=of_decide_eq_true hb4
   refine ad aa 3 rfl ?_
   refine af ?_
   exact aF.bF 7 rfl rfl (by first|(simp [hb4];done)|(simp_all;done)|(exfalso;simp_all;done)|(simp_all;omega)) rfl
  have hb4':=of_decide_eq_false hb4
  refine ad aa 3 rfl ?_
  refine af ?_
  exact aF.bF 7 rfl rfl (by first|(simp [hb4];done)|(simp_all;done)|(exfalso;simp_all;done)|(simp_all;omega)) rfl
 refine aj rfl (fun hc5=>?_) (fun hc5=>?_)
 ·
  have hc5':=hc5;try simp only [bx,bV] at hc5'
  refine ae aa 3 rfl ?_
  refine aA ?_
  refine ax ?_
  have hX:cq a kind n=((⟨0,0,0,0,0,0,0,false⟩:bC),3):=by
    (unfold cq;try dsimp only);(try simp only [hr0]);(repeat' split)<;>first|rfl|omega|(exfalso;omega)|(subst_vars;rfl)|(simp_all;done)|(simp_all;omega)
  rw [hX] at hr;clear hX
  simp only [Prod.mk.injEq] at hr;obtain ⟨rfl,rfl⟩:=hr
  refine aq aa [1] 0 rfl rfl rfl rfl rfl rfl ?_ ?_
  all_goals first|rfl|(simp [aD];done)|(simp [aD];omega)
 have hc5':=hc5;try simp only [bx,bV] at hc5'
 refine aQ ?_
 refine ae aa 1 rfl ?_
 refine ag ?_
 refine ae aa 1 rfl ?_
 refine aR ?_
 refine ag ?_
 refine ae aa 2 rfl ?_
 refine aj rfl (fun hc6=>?_) (fun hc6=>?_)
 ·
  have hc6':=of_decide_eq_true hc6
  refine aQ ?_
  refine aj rfl (fun _=>?_) (fun hno=>absurd (hc6.symm.trans hno) (by decide))
  refine aH aa 1 rfl ?_
  refine aT 2 [0,1] (cO id id (qv a (by first|assumption|omega)) CW rfl rfl ⟨⟨_,rfl,.inl ⟨rfl,rfl⟩⟩,trivial⟩ ⟨rfl,trivial⟩ rfl rfl rfl rfl rfl rfl trivial ⟨⟨trivial,trivial,trivial,trivial,trivial,trivial,trivial,trivial,trivial⟩,trivial⟩ rfl rfl rfl rfl) rfl ?_
  refine ad aa 1 rfl ?_
  refine af ?_
  refine aj rfl (fun hc8=>?_) (fun hc8=>?_)
  ·
   have hc8':=of_decide_eq_true hc8
   refine aw ?_
   refine ad aa 1 rfl ?_
   refine cf ?_
   refine bf ?_
   refine then_ok ?_
   refine ag ?_
   refine aH aa 1 rfl ?_
   refine az (aK rfl rfl rfl (show _=some (Value.bool true) from rfl)) rfl ?_
   refine af ?_
   refine aj rfl (fun _=>?_) (fun hno=>by cases hno)
   refine ae aa 4 rfl ?_
   refine aA ?_
   refine ax ?_
   have hX:cq a kind n=((⟨0,0,0,0,0,0,0,false⟩:bC),10):=by
     (unfold cq;try dsimp only);(try simp only [hr0]);(repeat' split)<;>first|rfl|omega|(exfalso;omega)|(subst_vars;rfl)|(simp_all;done)|(simp_all;omega)
   rw [hX] at hr;clear hX
   simp only [Prod.mk.injEq] at hr;obtain ⟨rfl,rfl⟩:=hr
   refine aq aa [1] 0 rfl rfl rfl rfl rfl rfl ?_ ?_
   all_goals first|rfl|(simp [aD];done)|(simp [aD];omega)
  have hc8':=of_decide_eq_false hc8
  refine ae aa 2 rfl ?_
  refine aj rfl (fun _=>?_) (fun hno=>absurd (hc6.symm.trans hno) (by decide))
  refine aw ?_
  refine ad aa 3 rfl ?_
  refine az (aK rfl rfl rfl (aL (by first|omega|(simp;done)|(simp;omega)))) rfl ?_
  refine ad aa 2 rfl ?_
  refine cf ?_
  refine bf ?_
  refine then_ok ?_
  refine ag ?_
  refine aH aa 1 rfl ?_
  refine az (aK rfl rfl rfl (show _=some (Value.bool false) from rfl)) rfl ?_
  refine af ?_
  refine aj rfl (fun hno=>by cases hno) (fun _=>?_)
  refine aQ ?_
  refine ae aa 3 rfl ?_
  refine aA ?_
  have hX:cq a kind n=((⟨a.aO,a.aE,a.sum,a.captured,a.bB+n,a.bl,a.dg,a.shut⟩:bC),0):=by
    (unfold cq;try dsimp only);(try simp only [hr0]);(repeat' split)<;>first|rfl|omega|(exfalso;omega)|(subst_vars;rfl)|(simp_all;done)|(simp_all;omega)
  rw [hX] at hr;clear hX
  simp only [Prod.mk.injEq] at hr;obtain ⟨rfl,rfl⟩:=hr
  refine aq aa [1] 0 rfl rfl rfl rfl rfl rfl ?_ ?_
  all_goals first|rfl|(simp [aD];done)|(simp [aD];omega)
 have hc6':=of_decide_eq_false hc6
 refine aw ?_
 refine ad aa 2 rfl ?_
 refine af ?_
 refine aj rfl (fun hc12=>?_) (fun hc12=>?_)
 ·
  have hc12':=of_decide_eq_true hc12
  refine aH aa 1 rfl ?_
  refine aT 2 [0,1] (cO id id (qv a (by first|assumption|omega)) CW rfl rfl ⟨⟨_,rfl,.inl ⟨rfl,rfl⟩⟩,trivial⟩ ⟨rfl,trivial⟩ rfl rfl rfl rfl rfl rfl trivial ⟨⟨trivial,trivial,trivial,trivial,trivial,trivial,trivial,trivial,trivial⟩,trivial⟩ rfl rfl rfl rfl) rfl ?_
  refine ad aa 1 rfl ?_
  refine af ?_
  refine aj rfl (fun hc13=>?_) (fun hc13=>?_)
  ·
   have hc13':=of_decide_eq_true hc13
   refine aw ?_
   refine ad aa 1 rfl ?_
   refine cf ?_
   refine bf ?_
   refine then_ok ?_
   refine ag ?_
   refine aH aa 1 rfl ?_
   refine az (aK rfl rfl rfl (show _=some (Value.bool true) from rfl)) rfl ?_
   refine af ?_
   refine aj rfl (fun _=>?_) (fun hno=>by cases hno)
   refine ae aa 4 rfl ?_
   refine aA ?_
   refine ax ?_
   have hX:cq a kind n=((⟨0,0,0,0,0,0,0,false⟩:bC),10):=by
     (unfold cq;try dsimp only);(try simp only [hr0]);(repeat' split)<;>first|rfl|omega|(exfalso;omega)|(subst_vars;rfl)|(simp_all;done)|(simp_all;omega)
   rw [hX] at hr;clear hX
   simp only [Prod.mk.injEq] at hr;obtain ⟨rfl,rfl⟩:=hr
   refine aq aa [1] 0 rfl rfl rfl rfl rfl rfl ?_ ?_
   all_goals first|rfl|(simp [aD];done)|(simp [aD];omega)
  have hc13':=of_decide_eq_false hc13
  refine ae aa 2 rfl ?_
  refine aj rfl (fun hno=>absurd (hc6.symm.trans hno) (by decide)) (fun _=>?_)
  refine aw ?_
  refine ad aa 3 rfl ?_
  refine az (aK rfl rfl rfl (aL (by first|omega|(simp;done)|(simp;omega)))) rfl ?_
  refine ad aa 2 rfl ?_
  refine cf ?_
  refine bf ?_
  refine then_ok ?_
  refine ag ?_
  refine aH aa 1 rfl ?_
  refine az (aK rfl rfl rfl (show _=some (Value.bool false) from rfl)) rfl ?_
  refine af ?_
  refine aj rfl (fun hno=>by cases hno) (fun _=>?_)
  refine aQ ?_
  refine ae aa 3 rfl ?_
  refine aA ?_
  have hX:cq a kind n=((⟨a.aO,a.aE,a.sum,a.captured,a.bB,a.bl+n,a.dg,a.shut⟩:bC),0):=by
    (unfold cq;try dsimp only);(try simp only [hr0]);(repeat' split)<;>first|rfl|omega|(exfalso;omega)|(subst_vars;rfl)|(simp_all;done)|(simp_all;omega)
  rw [hX] at hr;clear hX
  simp only [Prod.mk.injEq] at hr;obtain ⟨rfl,rfl⟩:=hr
  refine aq aa [1] 0 rfl rfl rfl rfl rfl rfl ?_ ?_
  all_goals first|rfl|(simp [aD];done)|(simp [aD];omega)
 have hc12':=of_decide_eq_false hc12
 refine ag ?_
 refine ae aa 2 rfl ?_
 refine aj rfl (fun hc17=>?_) (fun hc17=>?_)
 ·
  have hc17':=of_decide_eq_true hc17
  refine aQ ?_
  refine aj rfl (fun _=>?_) (fun hno=>absurd (hc17.symm.trans hno) (by decide))
  refine ag ?_
  refine ae aa 4 rfl ?_
  refine aj rfl (fun hc19=>?_) (fun hc19=>?_)
  ·
   have hc19':=of_decide_eq_true hc19
   refine ae aa 1 rfl ?_
   refine bT ?_
   refine aN ?_
   refine bA ?_
   refine then_ok ?_
   refine ag ?_
   refine aH aa 1 rfl ?_
   refine az (aK rfl rfl rfl (show _=some (Value.bool true) from rfl)) rfl ?_
   refine af ?_
   refine aj rfl (fun _=>?_) (fun hno=>by cases hno)
   refine ae aa 4 rfl ?_
   refine aA ?_
   refine ax ?_
   have hX:cq a kind n=((⟨0,0,0,0,0,0,0,false⟩:bC),10):=by
     (unfold cq;try dsimp only);(try simp only [hr0]);(repeat' split)<;>first|rfl|omega|(exfalso;omega)|(subst_vars;rfl)|(simp_all;done)|(simp_all;omega)
   rw [hX] at hr;clear hX
   simp only [Prod.mk.injEq] at hr;obtain ⟨rfl,rfl⟩:=hr
   refine aq aa [1] 0 rfl rfl rfl rfl rfl rfl ?_ ?_
   all_goals first|rfl|(simp [aD];done)|(simp [aD];omega)
  have hc19':=of_decide_eq_false hc19
  refine aQ ?_
  refine aH aa 3 rfl ?_
  refine az (aK rfl rfl rfl (aL (by first|omega|(simp;done)|(simp;omega)))) rfl ?_
  refine ad aa 2 rfl ?_
  refine af ?_
  refine ae aa 2 rfl ?_
  refine aj rfl (fun _=>?_) (fun hno=>absurd (hc17.symm.trans hno) (by decide))
  refine aw ?_
  refine ad aa 3 rfl ?_
  refine az (aK rfl rfl rfl (aL (by first|omega|(simp;done)|(simp;omega)))) rfl ?_
  refine ad aa 2 rfl ?_
  refine cf ?_
  refine bf ?_
  refine then_ok ?_
  refine ag ?_
  refine aH aa 1 rfl ?_
  refine az (aK rfl rfl rfl (show _=some (Value.bool false) from rfl)) rfl ?_
  refine af ?_
  refine aj rfl (fun hno=>by cases hno) (fun _=>?_)
  refine aQ ?_
  refine ae aa 3 rfl ?_
  refine aA ?_
  have hX:cq a kind n=((⟨a.aO,a.aE,a.sum,a.captured,a.bB+n,a.bl - n,a.dg,a.shut⟩:bC),0):=by
    (unfold cq;try dsimp only);(try simp only [hr0]);(repeat' split)<;>first|rfl|omega|(exfalso;omega)|(subst_vars;rfl)|(simp_all;done)|(simp_all;omega)
  rw [hX] at hr;clear hX
  simp only [Prod.mk.injEq] at hr;obtain ⟨rfl,rfl⟩:=hr
  refine aq aa [1] 0 rfl rfl rfl rfl rfl rfl ?_ ?_
  all_goals first|rfl|(simp [aD];done)|(simp [aD];omega)
 have hc17':=of_decide_eq_false hc17
 refine aw ?_
 refine ad aa 2 rfl ?_
 refine af ?_
 refine aj rfl (fun hc23=>?_) (fun hc23=>?_)
 ·
  have hc23':=of_decide_eq_true hc23
  refine ag ?_
  refine ae aa 4 rfl ?_
  refine aj rfl (fun hc24=>?_) (fun hc24=>?_)
  ·
   have hc24':=of_decide_eq_true hc24
   refine ae aa 1 rfl ?_
   refine bT ?_
   refine aN ?_
   refine bA ?_
   refine then_ok ?_
   refine ag ?_
   refine aH aa 1 rfl ?_
   refine az (aK rfl rfl rfl (show _=some (Value.bool true) from rfl)) rfl ?_
   refine af ?_
   refine aj rfl (fun _=>?_) (fun hno=>by cases hno)
   refine ae aa 4 rfl ?_
   refine aA ?_
   refine ax ?_
   have hX:cq a kind n=((⟨0,0,0,0,0,0,0,false⟩:bC),10):=by
     (unfold cq;try dsimp only);(try simp only [hr0]);(repeat' split)<;>first|rfl|omega|(exfalso;omega)|(subst_vars;rfl)|(simp_all;done)|(simp_all;omega)
   rw [hX] at hr;clear hX
   simp only [Prod.mk.injEq] at hr;obtain ⟨rfl,rfl⟩:=hr
   refine aq aa [1] 0 rfl rfl rfl rfl rfl rfl ?_ ?_
   all_goals first|rfl|(simp [aD];done)|(simp [aD];omega)
  have hc24':=of_decide_eq_false hc24
  refine aQ ?_
  refine aH aa 3 rfl ?_
  refine az (aK rfl rfl rfl (aL (by first|omega|(simp;done)|(simp;omega)))) rfl ?_
  refine ad aa 2 rfl ?_
  refine af ?_
  refine ae aa 2 rfl ?_
  refine aj rfl (fun hno=>absurd (hc17.symm.trans hno) (by decide)) (fun _=>?_)
  refine cE ?_
  refine bf ?_
  refine then_ok ?_
  refine ag ?_
  refine aH aa 1 rfl ?_
  refine az (aK rfl rfl rfl (show _=some (Value.bool false) from rfl)) rfl ?_
  refine af ?_
  refine aj rfl (fun hno=>by cases hno) (fun _=>?_)
  refine aQ ?_
  refine ae aa 3 rfl ?_
  refine aA ?_
  have hX:cq a kind n=((⟨a.aO,a.aE,a.sum,a.captured,a.bB,a.bl - n,a.dg,a.shut⟩:bC),0):=by
    (unfold cq;try dsimp only);(try simp only [hr0]);(repeat' split)<;>first|rfl|omega|(exfalso;omega)|(subst_vars;rfl)|(simp_all;done)|(simp_all;omega)
  rw [hX] at hr;clear hX
  simp only [Prod.mk.injEq] at hr;obtain ⟨rfl,rfl⟩:=hr
  refine aq aa [1] 0 rfl rfl rfl rfl rfl rfl ?_ ?_
  all_goals first|rfl|(simp [aD];done)|(simp [aD];omega)
 have hc23':=of_decide_eq_false hc23
 refine aw ?_
 refine ad aa 2 rfl ?_
 obtain ⟨b1,e1,hr1⟩:∃ (b1:bC) (e1:Int),dR a kind n=(b1,e1):=⟨_,_,rfl⟩
 refine aT 2 [0,1] (cO id id (xa a kind n (by first|assumption|omega) (by omega) (by omega) b1 e1 hr1) Gh rfl rfl ⟨⟨_,rfl,.inl ⟨rfl,rfl⟩⟩,⟨_,rfl,.inr (.c (.d _))⟩,⟨_,rfl,.inr (.c (.d _))⟩,trivial⟩ ⟨rfl,trivial⟩ rfl rfl rfl rfl rfl rfl trivial ⟨⟨trivial,trivial,trivial,trivial,trivial,trivial,trivial,trivial,trivial⟩,trivial⟩ rfl rfl rfl rfl) rfl ?_
 refine ad aa 1 rfl ?_
 refine cf ?_
 refine bf ?_
 refine then_ok ?_
 refine ag ?_
 refine ae aa 2 rfl ?_
 refine aj rfl (fun hc28=>?_) (fun hc28=>?_)
 ·
  have hc28':=of_decide_eq_true hc28
  refine ae aa 4 rfl ?_
  refine aA ?_
  refine ax ?_
  have hX:cq a kind n=((⟨0,0,0,0,0,0,0,false⟩:bC),e1):=by
    (unfold cq;try dsimp only);(try simp only [hr0]);(try simp only [hr1]);(repeat' split)<;>first|rfl|omega|(exfalso;omega)|(subst_vars;rfl)|(simp_all;done)|(simp_all;omega)
  rw [hX] at hr;clear hX
  simp only [Prod.mk.injEq] at hr;obtain ⟨rfl,rfl⟩:=hr
  refine aq aa [1] 0 rfl rfl rfl rfl rfl rfl ?_ ?_
  all_goals first|rfl|(simp [aD];done)|(simp [aD];omega)
 have hc28':=of_decide_eq_false hc28
 refine aQ ?_
 refine ae aa 3 rfl ?_
 refine aA ?_
 have hX:cq a kind n=(b1,0):=by
   (unfold cq;try dsimp only);(try simp only [hr0]);(try simp only [hr1]);(repeat' split)<;>first|rfl|omega|(exfalso;omega)|(subst_vars;rfl)|(simp_all;done)|(simp_all;omega)
 rw [hX] at hr;clear hX
 simp only [Prod.mk.injEq] at hr;obtain ⟨rfl,rfl⟩:=hr
 refine aq aa [1] 0 rfl rfl rfl rfl rfl rfl ?_ ?_
 all_goals first|rfl|(simp [aD];done)|(simp [aD];omega)

theorem uz (cap:Int) (used:List Int) (advs:List cp):Fn Try.prog 30 [(.g [(cI cap),(df used),(eb advs)])] (aI (ca ⟨cap,used,advs⟩)) []:=by
 refine Fn.mk' 109 [(0,(aG [(cI cap),(df used),(eb advs)]))] Try.func30 rfl rfl rfl rfl ?_
 intro W0 T0
 refine cF 0 1 rfl rfl (fun hlen0_1=>?_)
 refine cF 0 2 rfl rfl (fun hlen0_2=>?_)
 refine ae aa 2 rfl ?_
 refine ag ?_
 refine cr 17 ((decide ((↑used.length:Int) > 8))||(decide ((↑advs.length:Int) > 20))) ?_ ?_
 ·
  refine aw ?_
  refine ad aa 2 rfl ?_
  refine az (bP rfl rfl rfl rfl rfl Try.underlying30) rfl ?_
  refine ad aa 2 rfl ?_
  refine bK (t:=12) rfl (fun hb1=>?_) (fun hb1=>?_)
  ·
   have hb1':=of_decide_eq_true hb1
   refine ad aa 5 rfl ?_
   refine af ?_
   exact aF.bF 11 rfl rfl (by first|(simp [hb1];done)|(simp_all;done)|(exfalso;simp_all;done)|(simp_all;omega)) rfl
  have hb1':=of_decide_eq_false hb1
  refine ad aa 2 rfl ?_
  refine cD (ah.yes rfl rfl rfl) (bP rfl rfl rfl rfl rfl Try.underlying39) rfl rfl ?_
  refine ad aa 2 rfl ?_
  refine af ?_
  exact aF.bF 11 rfl rfl (by first|(simp [hb1];done)|(simp_all;done)|(exfalso;simp_all;done)|(simp_all;omega)) rfl
 refine aj rfl (fun hc2=>?_) (fun hc2=>?_)
 ·
  have hc2':=hc2;try simp only [bx,bV] at hc2'
  refine ae aa 1 rfl ?_
  refine aA ?_
  refine ax ?_
  refine aq aa [] 0 rfl rfl rfl rfl rfl rfl ?_ ?_
  ·(have h:=oB (s:=⟨cap,used,advs⟩) (show 8 < used.length\/20 < advs.length by omega));show aI _=aI _;rw [h]
  ·rfl
 have hc2':=hc2;try simp only [bx,bV] at hc2'
 refine aQ ?_
 refine ag ?_
 refine cr 25 ((decide (cap < 0))||(decide (cap > 1000000))) ?_ ?_
 ·
  refine aw ?_
  refine ad aa 4 rfl ?_
  refine bK (t:=21) rfl (fun hb3=>?_) (fun hb3=>?_)
  ·
   have hb3':=of_decide_eq_true hb3
   refine ad aa 4 rfl ?_
   refine af ?_
   exact aF.bF 9 rfl rfl (by first|(simp [hb3];done)|(simp_all;done)|(exfalso;simp_all;done)|(simp_all;omega)) rfl
  have hb3':=of_decide_eq_false hb3
  refine ad aa 4 rfl ?_
  refine af ?_
  exact aF.bF 9 rfl rfl (by first|(simp [hb3];done)|(simp_all;done)|(exfalso;simp_all;done)|(simp_all;omega)) rfl
 refine aj rfl (fun hc4=>?_) (fun hc4=>?_)
 ·
  have hc4':=hc4;try simp only [bx,bV] at hc4'
  refine ae aa 1 rfl ?_
  refine aA ?_
  refine ax ?_
  refine aq aa [] 0 rfl rfl rfl rfl rfl rfl ?_ ?_
  ·(have h:=mM (s:=⟨cap,used,advs⟩) (show ¬(8 < (⟨cap,used,advs⟩:cH).used.length\/20 < (⟨cap,used,advs⟩:cH).aU.length) by simp only;omega) (show gr cap=false by simp only [gr,decide_eq_false_iff_not];omega));show aI _=aI _;rw [h]
  ·rfl
 have hc4':=hc4;try simp only [bx,bV] at hc4'
 refine aQ ?_
 refine aH aa 2 rfl ?_
 refine az (bP rfl rfl rfl rfl rfl Try.underlying30) rfl ?_
 refine aT 2 [1,0] (pK 1 ns CG rfl rfl rfl (n:=used.length) (by first|omega|(simp;omega)|(simp [dt];omega)) (by first|omega|(simp;omega)|(simp [dt];omega)) (by first|omega|(simp;omega)|(simp [dt];omega)) (by first|omega|(simp;omega)|(simp [dt];omega))) rfl ?_
 refine ad aa 1 rfl ?_
 refine af ?_
 refine ag ?_
 refine aH aa 2 rfl ?_
 refine az (bP rfl rfl rfl rfl rfl Try.underlying39) rfl ?_
 refine ad aa 1 rfl ?_
 refine af ?_
 refine aR ?_
 refine ch (β:=Nat) (fun (q:Nat)=>⟨[(1,(aC (.p 0 0 0 0))),(3,(aC (.s 1 0 1 used.length))),(31,(aC (eb advs))),(32,(aI (↑advs.length:Int))),(33,(aI (↑q:Int)))],[(1,(dL (iU used.length (advs.take q)))),(0,(.box 41 [(cI cap),(df used),(eb advs)]))],2⟩) (fun (q:Nat)=>q<=advs.length/\(advs.take q).all (gI used.length)=true) (fun (q:Nat)=>advs.length - q) 0 ?_ ?_ ?_
 ·exact ⟨by omega,by simp⟩
 ·exact aF.bL id (by refine ⟨?_,?_,?_,?_,?_,trivial⟩<;>first|rfl|(simp only [ba];done)|(congr 3;omega)|(congr 4;omega)|(simp only [bb];rfl)) (by refine ⟨?_,?_,trivial⟩<;>first|rfl|(simp only [ba];done)|(congr 3;omega)|(congr 4;omega)|(simp only [bb];rfl)|((rw [List.take_zero,<-zD];rfl))) rfl
 rintro q ⟨hi0_0,hi0_1⟩
 refine ae aa 1 rfl ?_
 refine ag ?_
 refine aj rfl (fun hc5=>?_) (fun hc5=>?_)
 ·
  have hc5':=of_decide_eq_true hc5
  refine aQ ?_
  refine ag ?_
  refine aR ?_
  refine eK ?_
  obtain ⟨x1,hx1⟩:=cg (xs:=advs) (i:=q) (by first|omega|(simp [dt];omega))
  refine az (bX (i:=q) rfl rfl rfl Try.underlying39 uF (by first|omega|(simp;omega)|(simp [dt];omega)) (bj hx1)) rfl ?_
  refine ad aa 3 rfl ?_
  refine af ?_
  refine ag ?_
  refine cr 77 ((((((((decide (x1.aO < 0))||(decide (x1.aO>=(↑used.length:Int))))||(decide (x1.aE < 0)))||(decide (x1.aE>=8)))||(decide (x1.sum < 1)))||(decide (x1.sum > 1000000)))||(decide (x1.time < 0)))||(decide (x1.time > 1000000))) ?_ ?_
  ·
   refine aw ?_
   refine ad aa 4 rfl ?_
   refine bK (t:=40) rfl (fun hb6=>?_) (fun hb6=>?_)
   ·
    have hb6':=of_decide_eq_true hb6
    refine ad aa 37 rfl ?_
    refine af ?_
    exact aF.bF 42 rfl rfl (by first|(simp [hb6];done)|(simp_all;done)|(exfalso;simp_all;done)|(simp_all;omega)) rfl
   have hb6':=of_decide_eq_false hb6
   refine ad aa 4 rfl ?_
   refine cD (ah.yes rfl rfl rfl) (bP rfl rfl rfl rfl rfl Try.underlying30) rfl rfl ?_
   refine ad aa 3 rfl ?_
   refine bK (t:=48) rfl (fun hb7=>?_) (fun hb7=>?_)
   ·
    have hb7':=of_decide_eq_true hb7
    refine ad aa 29 rfl ?_
    refine af ?_
    exact aF.bF 43 rfl rfl (by first|(simp [hb6,hb7];done)|(simp_all;done)|(exfalso;simp_all;done)|(simp_all;omega)) rfl
   have hb7':=of_decide_eq_false hb7
   refine ad aa 5 rfl ?_
   refine bK (t:=53) rfl (fun hb8=>?_) (fun hb8=>?_)
   ·
    have hb8':=of_decide_eq_true hb8
    refine ad aa 24 rfl ?_
    refine af ?_
    exact aF.bF 44 rfl rfl (by first|(simp [hb6,hb7,hb8];done)|(simp_all;done)|(exfalso;simp_all;done)|(simp_all;omega)) rfl
   have hb8':=of_decide_eq_false hb8
   refine ad aa 5 rfl ?_
   refine bK (t:=58) rfl (fun hb9=>?_) (fun hb9=>?_)
   ·
    have hb9':=of_decide_eq_true hb9
    refine ad aa 19 rfl ?_
    refine af ?_
    exact aF.bF 45 rfl rfl (by first|(simp [hb6,hb7,hb8,hb9];done)|(simp_all;done)|(exfalso;simp_all;done)|(simp_all;omega)) rfl
   have hb9':=of_decide_eq_false hb9
   refine ad aa 5 rfl ?_
   refine bK (t:=63) rfl (fun hb10=>?_) (fun hb10=>?_)
   ·
    have hb10':=of_decide_eq_true hb10
    refine ad aa 14 rfl ?_
    refine af ?_
    exact aF.bF 46 rfl rfl (by first|(simp [hb6,hb7,hb8,hb9,hb10];done)|(simp_all;done)|(exfalso;simp_all;done)|(simp_all;omega)) rfl
   have hb10':=of_decide_eq_false hb10
   refine ad aa 5 rfl ?_
   refine bK (t:=68) rfl (fun hb11=>?_) (fun hb11=>?_)
   ·
    have hb11':=of_decide_eq_true hb11
    refine ad aa 9 rfl ?_
    refine af ?_
    exact aF.bF 47 rfl rfl (by first|(simp [hb6,hb7,hb8,hb9,hb10,hb11];done)|(simp_all;done)|(exfalso;simp_all;done)|(simp_all;omega)) rfl
   have hb11':=of_decide_eq_false hb11
   refine ad aa 5 rfl ?_
   refine bK (t:=73) rfl (fun hb12=>?_) (fun hb12=>?_)
   ·
    have hb12':=of_decide_eq_true hb12
    refine ad aa 4 rfl ?_
    refine af ?_
    exact aF.bF 48 rfl rfl (by first|(simp [hb6,hb7,hb8,hb9,hb10,hb11,hb12];done)|(simp_all;done)|(exfalso;simp_all;done)|(simp_all;omega)) rfl
   have hb12':=of_decide_eq_false hb12
   refine ad aa 4 rfl ?_
   refine af ?_
   exact aF.bF 48 rfl rfl (by first|(simp [hb6,hb7,hb8,hb9,hb10,hb11,hb12];done)|(simp_all;done)|(exfalso;simp_all;done)|(simp_all;omega)) rfl
  refine aj rfl (fun hc13=>?_) (fun hc13=>?_)
  ·
   have hc13':=hc13;try simp only [bx,bV] at hc13'
   refine ae aa 1 rfl ?_
   refine aA ?_
   refine ax ?_
   refine bp ?_
   refine ax ?_
   refine ax ?_
   refine bp ?_
   refine ax ?_
   refine aq aa [] 0 rfl rfl rfl rfl rfl rfl ?_ ?_
   ·(have h:=kh (s:=⟨cap,used,advs⟩) (show ¬(8 < (⟨cap,used,advs⟩:cH).used.length\/20 < (⟨cap,used,advs⟩:cH).aU.length) by simp only;omega) (show gr (⟨cap,used,advs⟩:cH).cap=true by simp only [gr,decide_eq_true_eq];omega) (Fq hx1 (by simp only [gI,decide_eq_false_iff_not];omega)));show aI _=aI _;rw [h]
   ·rfl
  have hc13':=hc13;try simp only [bx,bV] at hc13'
  refine aQ ?_
  obtain ⟨x2,hx2⟩:=cg (xs:=(iU used.length (advs.take q))) (i:=Int.toNat (x1.aO)) (by first|omega|(simp [dt];omega))
  have hx2v:=tk hx2
  have hgb:=qo used.length (x1.aO) (advs.take q) hi0_1
  have hgl:(advs.take q).length<=q:=List.length_take_le _ _
  rw [Int.toNat_of_nonneg (by omega)] at hx2v
  refine aX [1,3,31,32,33,5] [2,1,0] mixed rfl rfl ?_
  refine ay (kn:=[]) aa 3 rfl trivial ?_
  refine aP (n':=3) [78,80] [1] rfl rfl (.inl ⟨(ah.plain rfl),aJ.cast (bz (i:=Int.toNat (x1.aO)) rfl rfl rfl Try.underlying30 fC (by first|omega|(simp;omega)|(simp [dt];omega)) (by first|omega|(simp;omega)|(simp [dt];omega))) rfl⟩) rfl ?_
  refine aP (n':=3) [81] [1] rfl rfl (.inl ⟨(ah.plain rfl),aJ.cast (eQ rfl rfl rfl Try.underlying3 rfl (bj hx2) rfl) rfl⟩) rfl ?_
  refine ay (kn:=[]) aa 2 rfl trivial ?_
  refine aP (n':=3) [82,84] [] rfl rfl (.inl ⟨(ah.plain rfl),aJ.cast (aK rfl rfl rfl (aL (by first|omega|(simp;omega)|(simp [dt];omega)))) rfl⟩) rfl ?_
  refine aP (n':=3) [78,80] [1] rfl rfl (.inl ⟨(ah.plain rfl),aJ.cast (bz (i:=Int.toNat (x1.aO)) rfl rfl rfl Try.underlying30 fC (by first|omega|(simp;omega)|(simp [dt];omega)) (by first|omega|(simp;omega)|(simp [dt];omega))) rfl⟩) rfl ?_
  refine bw [2,1,0] rfl rfl rfl rfl (by kernel_rfl) ?_
  refine gw [2,1,0] (dS (ds:=[(dI (x2+x1.sum))]) rfl rfl rfl rfl rfl fC rfl (Nat.le_of_ble_eq_true rfl) (bj hx2) rfl (eU (x':=x2+x1.sum) rfl)) rfl ?_
  refine cf ?_
  refine bf ?_
  refine then_ok ?_
  refine aw ?_
  refine az (aK rfl rfl rfl (aL (by first|omega|(simp;omega)|(simp [dt];omega)))) rfl ?_
  refine ad aa 1 rfl ?_
  refine af ?_
  refine ⟨q+1,⟨by omega,xW hi0_1 hx1 (by simp only [gI,decide_eq_true_eq];omega)⟩,by first|omega|(simp;done)|(simp;omega),aF.bL id (by refine ⟨?_,?_,?_,?_,?_,trivial⟩<;>first|rfl|(simp only [ba];done)|(congr 3;omega)|(congr 4;omega)|(simp only [bb];rfl)) (by refine ⟨?_,?_,trivial⟩<;>first|rfl|(simp only [ba];done)|(congr 3;omega)|(congr 4;omega)|(simp only [bb];rfl)|((rw [gV hx1,<-zC (i:=Int.toNat x1.aO) (v:=x2+x1.sum) (by omega) (by omega) (by rw [hx2v])];rfl))) rfl⟩
 have hc5':=of_decide_eq_false hc5
 refine bT ?_
 refine aN ?_
 refine aN ?_
 refine bA ?_
 refine then_ok ?_
 refine ag ?_
 refine aH aa 2 rfl ?_
 refine az (bP rfl rfl rfl rfl rfl Try.underlying30) rfl ?_
 refine ad aa 1 rfl ?_
 refine af ?_
 refine aR ?_
 have hta:advs.take q=advs:=List.take_of_length_le (by omega)
 have hall:advs.all (gI used.length)=true:=by rw [<-hta];exact hi0_1
 rw [hta]
 refine ch (β:=Nat) (fun (p:Nat)=>⟨[(1,(aC (.p 0 0 0 0))),(3,(aC (.s 1 0 1 used.length))),(31,(aC (eb advs))),(32,(aI (↑advs.length:Int))),(33,(aI (↑q:Int))),(89,(aC (df used))),(90,(aI (↑used.length:Int))),(91,(aI (↑p:Int)))],[(1,(dL (iU used.length advs))),(0,(.box 41 [(cI cap),(df used),(eb advs)]))],2⟩) (fun (p:Nat)=>p<=used.length/\fc cap advs 0 used=fc cap advs p (used.drop p)) (fun (p:Nat)=>used.length - p) 0 ?_ ?_ ?_
 ·exact ⟨by omega,rfl⟩
 ·exact aF.bL id (by refine ⟨?_,?_,?_,?_,?_,?_,?_,?_,trivial⟩<;>first|rfl|(simp only [ba];done)|(congr 3;omega)|(congr 4;omega)|(simp only [bb];rfl)) (by refine ⟨?_,?_,trivial⟩<;>first|rfl|(simp only [ba];done)|(congr 3;omega)|(congr 4;omega)|(simp only [bb];rfl)) rfl
 rintro p ⟨hi1_0,hi1_1⟩
 refine ae aa 1 rfl ?_
 refine ag ?_
 refine aj rfl (fun hc14=>?_) (fun hc14=>?_)
 ·
  have hc14':=of_decide_eq_true hc14
  refine aQ ?_
  refine ag ?_
  refine aR ?_
  refine aH aa 1 rfl ?_
  obtain ⟨x1,hx1⟩:=cg (xs:=used) (i:=p) (by first|omega|(simp [dt];omega))
  refine az (bX (i:=p) rfl rfl rfl Try.underlying30 fC (by first|omega|(simp;omega)|(simp [dt];omega)) (bj hx1)) rfl ?_
  refine ad aa 3 rfl ?_
  refine af ?_
  refine aH aa 3 rfl ?_
  refine az (bz (i:=p) rfl rfl rfl Try.underlying30 fC (by first|omega|(simp;omega)|(simp [dt];omega)) (by first|omega|(simp;omega)|(simp [dt];omega))) rfl ?_
  obtain ⟨x2,hx2⟩:=cg (xs:=(iU used.length advs)) (i:=p) (by first|omega|(simp [dt];omega))
  have hx2v:=tk hx2
  refine az (eQ rfl rfl rfl Try.underlying3 rfl (bj hx2) rfl) rfl ?_
  refine ad aa 2 rfl ?_
  refine bK (t:=102) rfl (fun hb15=>?_) (fun hb15=>?_)
  ·
   have hb15':=of_decide_eq_true hb15
   refine ad aa 5 rfl ?_
   refine af ?_
   refine aj rfl (fun _=>?_) (fun hno=>by cases hno)
   refine ae aa 1 rfl ?_
   refine aA ?_
   refine bp ?_
   refine ax ?_
   refine ax ?_
   refine bp ?_
   refine ax ?_
   refine aq aa [] 0 rfl rfl rfl rfl rfl rfl ?_ ?_
   ·(have h:=gC (s:=⟨cap,used,advs⟩) (show ¬(8 < (⟨cap,used,advs⟩:cH).used.length\/20 < (⟨cap,used,advs⟩:cH).aU.length) by simp only;omega) (show gr (⟨cap,used,advs⟩:cH).cap=true by simp only [gr,decide_eq_true_eq];omega) hall);show aI _=aI _;rw [h];show aI _=aI (fc cap advs 0 used);rw [hi1_1,qZ hx1,fc,if_neg (by omega)]
   ·rfl
  have hb15':=of_decide_eq_false hb15
  refine ad aa 5 rfl ?_
  refine af ?_
  refine aj rfl (fun hc17=>?_) (fun hc17=>?_)
  ·
   have hc17':=of_decide_eq_true hc17
   refine ae aa 1 rfl ?_
   refine aA ?_
   refine bp ?_
   refine ax ?_
   refine ax ?_
   refine bp ?_
   refine ax ?_
   refine aq aa [] 0 rfl rfl rfl rfl rfl rfl ?_ ?_
   ·(have h:=gC (s:=⟨cap,used,advs⟩) (show ¬(8 < (⟨cap,used,advs⟩:cH).used.length\/20 < (⟨cap,used,advs⟩:cH).aU.length) by simp only;omega) (show gr (⟨cap,used,advs⟩:cH).cap=true by simp only [gr,decide_eq_true_eq];omega) hall);show aI _=aI _;rw [h];show aI _=aI (fc cap advs 0 used);rw [hi1_1,qZ hx1,fc,if_neg (by omega)]
   ·rfl
  have hc17':=of_decide_eq_false hc17
  refine cE ?_
  refine bf ?_
  refine then_ok ?_
  refine aw ?_
  refine az (aK rfl rfl rfl (aL (by first|omega|(simp;omega)|(simp [dt];omega)))) rfl ?_
  refine ad aa 1 rfl ?_
  refine af ?_
  refine ⟨p+1,⟨by omega,by rw [hi1_1,qZ hx1,fc,if_pos (by omega),Int.natCast_add];rfl⟩,by first|omega|(simp;done)|(simp;omega),aF.bL id (by refine ⟨?_,?_,?_,?_,?_,?_,?_,?_,trivial⟩<;>first|rfl|(simp only [ba];done)|(congr 3;omega)|(congr 4;omega)|(simp only [bb];rfl)) (by refine ⟨?_,?_,trivial⟩<;>first|rfl|(simp only [ba];done)|(congr 3;omega)|(congr 4;omega)|(simp only [bb];rfl)) rfl⟩
 have hc14':=of_decide_eq_false hc14
 refine bT ?_
 refine aN ?_
 refine aN ?_
 refine bA ?_
 refine then_ok ?_
 refine ae aa 1 rfl ?_
 refine aA ?_
 refine aq aa [] 0 rfl rfl rfl rfl rfl rfl ?_ ?_
 ·(have h:=gC (s:=⟨cap,used,advs⟩) (show ¬(8 < (⟨cap,used,advs⟩:cH).used.length\/20 < (⟨cap,used,advs⟩:cH).aU.length) by simp only;omega) (show gr (⟨cap,used,advs⟩:cH).cap=true by simp only [gr,decide_eq_true_eq];omega) hall);show aI _=aI _;rw [h];show aI _=aI (fc cap advs 0 used);rw [hi1_1,List.drop_of_length_le (by omega)];rfl
 ·rfl


theorem jc (s:cH) (e:Int) (hr:ca s=e):Fn Try.prog 30 [(.g [cI s.cap,cR 1 (s.used.map rI),cR 4 (s.aU.map iG)])] (.v (.c (cI e))) []:=hr▸uz s.cap s.used s.aU

theorem wT (limit al:Int) (x:cH) (e:Int) (hr:dH limit al=(x,e)):Fn Try.prog 41 [(.c (cI limit)),(.c (cI al))] (.t [(.g [(cI x.cap),(.s 0 0 1 x.used.length),(.s 1 0 4 x.aU.length)]),(.c (cI e))]) [(0,(dL x.used)),(1,(Ba x.aU))]:=by
 refine Fn.mk' 24 [(0,(aI limit)),(1,(aI al))] Try.func41 rfl rfl rfl rfl ?_
 intro W0 T0
 refine ae aa 2 rfl ?_
 refine ag ?_
 refine cr 11 ((decide (al < 0))||(decide (al > 8))) ?_ ?_
 ·
  refine aw ?_
  refine ad aa 3 rfl ?_
  refine bK (t:=8) rfl (fun hb1=>?_) (fun hb1=>?_)
  ·
   have hb1':=of_decide_eq_true hb1
   refine ad aa 3 rfl ?_
   refine af ?_
   exact aF.bF 7 rfl rfl (by first|(simp [hb1];done)|(simp_all;done)|(exfalso;simp_all;done)|(simp_all;omega)) rfl
  have hb1':=of_decide_eq_false hb1
  refine ad aa 3 rfl ?_
  refine af ?_
  exact aF.bF 7 rfl rfl (by first|(simp [hb1];done)|(simp_all;done)|(exfalso;simp_all;done)|(simp_all;omega)) rfl
 refine aj rfl (fun hc2=>?_) (fun hc2=>?_)
 ·
  have hc2':=hc2;try simp only [bx,bV] at hc2'
  refine ae aa 3 rfl ?_
  refine aA ?_
  refine ax ?_
  refine ct 0 1 3 1 rfl rfl rfl ?_
  refine ct 0 2 107 4 rfl rfl rfl ?_
  have hX:dH limit al=((⟨0,([]:List Int),([]:List cp)⟩:cH),5):=by
    exact uu (by omega)
  rw [hX] at hr;clear hX
  simp only [Prod.mk.injEq] at hr;obtain ⟨rfl,rfl⟩:=hr
  refine aq aa [1,2,0] 2 rfl rfl rfl rfl rfl rfl ?_ ?_
  all_goals first|rfl|(simp [aD];done)|(simp [aD];omega)
 have hc2':=hc2;try simp only [bx,bV] at hc2'
 refine aQ ?_
 refine ag ?_
 refine cr 18 ((decide (limit < 0))||(decide (limit > 1000000))) ?_ ?_
 ·
  refine aw ?_
  refine ad aa 3 rfl ?_
  refine bK (t:=15) rfl (fun hb3=>?_) (fun hb3=>?_)
  ·
   have hb3':=of_decide_eq_true hb3
   refine ad aa 3 rfl ?_
   refine af ?_
   exact aF.bF 7 rfl rfl (by first|(simp [hb3];done)|(simp_all;done)|(exfalso;simp_all;done)|(simp_all;omega)) rfl
  have hb3':=of_decide_eq_false hb3
  refine ad aa 3 rfl ?_
  refine af ?_
  exact aF.bF 7 rfl rfl (by first|(simp [hb3];done)|(simp_all;done)|(exfalso;simp_all;done)|(simp_all;omega)) rfl
 refine aj rfl (fun hc4=>?_) (fun hc4=>?_)
 ·
  have hc4':=hc4;try simp only [bx,bV] at hc4'
  refine ae aa 3 rfl ?_
  refine aA ?_
  refine ax ?_
  refine ct 0 1 3 1 rfl rfl rfl ?_
  refine ct 0 2 107 4 rfl rfl rfl ?_
  have hX:dH limit al=((⟨0,([]:List Int),([]:List cp)⟩:cH),3):=by
    exact sK (by omega) (by first|omega|(simp_all [bx];done)|(simp_all [bx];omega))
  rw [hX] at hr;clear hX
  simp only [Prod.mk.injEq] at hr;obtain ⟨rfl,rfl⟩:=hr
  refine aq aa [1,2,0] 2 rfl rfl rfl rfl rfl rfl ?_ ?_
  all_goals first|rfl|(simp [aD];done)|(simp [aD];omega)
 have hc4':=hc4;try simp only [bx,bV] at hc4'
 refine aQ ?_
 refine aH aa 2 rfl ?_
 refine aT 2 [1,0] (pK 1 ns CG rfl rfl rfl (n:=Int.toNat (al)) (by first|omega|(simp;done)|(simp;omega)) (by first|omega|(simp;done)|(simp;omega)) (by first|omega|(simp;done)|(simp;omega)) (by first|omega|(simp;done)|(simp;omega))) rfl ?_
 refine ad aa 3 rfl ?_
 refine af ?_
 refine aA ?_
 refine ct 0 2 107 4 rfl rfl rfl ?_
 have hX:dH limit al=((⟨limit,List.replicate (Int.toNat (al)) 0,([]:List cp)⟩:cH),0):=by
   unfold dH;rw [if_neg (by omega),if_neg (by simp only [gr,decide_eq_true_eq];first|omega|(simp_all [bx];done)|(simp_all [bx];omega))]
 rw [hX] at hr;clear hX
 simp only [Prod.mk.injEq] at hr;obtain ⟨rfl,rfl⟩:=hr
 refine aq aa [1,2,0] 2 rfl rfl rfl rfl rfl rfl ?_ ?_
 all_goals first|rfl|(simp [aD];done)|(simp [aD];omega)
theorem uA (s:cH) (x:cH) (l:List cp) (e:Int) (hr:cX s=(x,l,e)):Fn Try.prog 90 [(.g [(cI s.cap),(df s.used),(eb s.aU)])] (.t [(.g [(cI x.cap),(.s 0 0 1 x.used.length),(.s 1 0 4 x.aU.length)]),(.c (.s 2 0 4 l.length)),(.c (cI e))]) [(0,(dL x.used)),(1,(Ba x.aU)),(2,(Ba l))]:=by
 refine Fn.mk' 22 [(0,(aG [(cI s.cap),(df s.used),(eb s.aU)]))] Try.func90 rfl rfl rfl rfl ?_
 intro W0 T0
 refine cF 0 1 rfl rfl (fun hlen0_1=>?_)
 refine cF 0 2 rfl rfl (fun hlen0_2=>?_)
 have hrp:=@gy s
 refine ae aa 4 rfl ?_
 refine ag ?_
 refine aH aa 1 rfl ?_
 obtain ⟨e0,hr0⟩:∃ (e0:Int),ca s=e0:=⟨_,rfl⟩
 refine aT 2 [1,0] (bU 2 (jc s e0 hr0) yS rfl rfl ⟨⟨_,rfl,.g ⟨.d _,.d _,.d _,trivial⟩⟩,trivial⟩ trivial trivial rfl rfl rfl rfl) rfl ?_
 refine ad aa 1 rfl ?_
 refine af ?_
 refine ae aa 2 rfl ?_
 refine aj rfl (fun hc1=>?_) (fun hc1=>?_)
 ·
  have hc1':=of_decide_eq_true hc1
  refine ae aa 5 rfl ?_
  refine aA ?_
  refine ax ?_
  refine ct 1 1 3 1 rfl rfl rfl ?_
  refine ct 1 2 107 4 rfl rfl rfl ?_
  refine dh (aF.nil 3 107 4 (by decide) rfl) ?_
  have hX:cX s=((⟨0,([]:List Int),([]:List cp)⟩:cH),([]:List cp),e0):=by
    unfold cX;rw [if_pos (by omega),hr0];rfl
  rw [hX] at hr;clear hX
  simp only [Prod.mk.injEq] at hr;obtain ⟨rfl,rfl,rfl⟩:=hr
  refine aq aa [2,3,4,1] 3 rfl rfl rfl rfl rfl rfl ?_ ?_
  all_goals first|rfl|(simp [aD];done)|(simp [aD];omega)
 have hc1':=of_decide_eq_false hc1
 refine aQ ?_
 refine ag ?_
 refine aX [1,2] [1,0] mixed rfl rfl ?_
 refine ay (kn:=[]) aa 4 rfl trivial ?_
 refine aP (n':=2) [15] [] rfl rfl (.inl ⟨(ah.plain rfl),aJ.cast (bP rfl rfl rfl rfl rfl Try.underlying30) rfl⟩) rfl ?_
 refine aP (n':=3) [16] [] rfl rfl (.inl ⟨(ah.plain rfl),aJ.cast (pK 2 ns CG rfl rfl rfl (n:=s.used.length) (by first|omega|(simp;done)|(simp;omega)) (by first|omega|(simp;done)|(simp;omega)) (by first|omega|(simp;done)|(simp;omega)) (by first|omega|(simp;done)|(simp;omega))) rfl⟩) rfl ?_
 refine ay (kn:=[]) aa 3 rfl trivial ?_
 refine aP (n':=4) [20] [] rfl rfl (.inl ⟨(ah.plain rfl),aJ.cast (bU 3 (nc s.aU (by first|omega|(simp;done)|(simp;omega))) EB rfl rfl ⟨⟨_,rfl,.c (.d _)⟩,trivial⟩ trivial ⟨(fun _ _ _ _=>trivial),trivial⟩ rfl rfl rfl rfl) rfl⟩) rfl ?_
 refine bw [3,2,1,0] rfl rfl rfl rfl (by kernel_rfl) ?_
 refine ad aa 3 rfl ?_
 refine af ?_
 refine aA ?_
 refine ct 1 2 107 4 rfl rfl rfl ?_
 have hX:cX s=((⟨s.cap,List.replicate s.used.length 0,([]:List cp)⟩:cH),s.aU,0):=by
   unfold cX;rw [if_neg (by omega)]
 rw [hX] at hr;clear hX
 simp only [Prod.mk.injEq] at hr;obtain ⟨rfl,rfl,rfl⟩:=hr
 refine aq aa [2,4,3,1] 3 rfl rfl rfl rfl rfl rfl ?_ ?_
 all_goals first|rfl|(simp [aD];done)|(simp [aD];omega)

theorem wa (s:cH) (a:cp) (x:cH) (e:Int) (hr:cv s a=(x,e)):Fn Try.prog 78 [(.g [(cI s.cap),(df s.used),(eb s.aU)]),(.g [(cI a.aO),(cI a.aE),(cI a.sum),(cI a.time)])] (.t [(.g [(cI x.cap),(.s 0 0 1 x.used.length),(.s 1 0 4 x.aU.length)]),(.c (cI e))]) [(0,(dL x.used)),(1,(Ba x.aU))]:=by
 refine Fn.mk' 74 [(0,(aG [(cI s.cap),(df s.used),(eb s.aU)])),(1,(aG [(cI a.aO),(cI a.aE),(cI a.sum),(cI a.time)]))] Try.func78 rfl rfl rfl rfl ?_
 intro W0 T0
 refine cF 0 1 rfl rfl (fun hlen0_1=>?_)
 refine cF 0 2 rfl rfl (fun hlen0_2=>?_)
 have hub:=@rn s
 have hrp:=@gy s
 refine ae aa 4 rfl ?_
 refine ag ?_
 refine aH aa 1 rfl ?_
 obtain ⟨e0,hr0⟩:∃ (e0:Int),ca s=e0:=⟨_,rfl⟩
 refine aT 3 [2,1,0] (bU 3 (jc s e0 hr0) yS rfl rfl ⟨⟨_,rfl,.g ⟨.d _,.d _,.d _,trivial⟩⟩,trivial⟩ trivial trivial rfl rfl rfl rfl) rfl ?_
 refine ad aa 1 rfl ?_
 refine af ?_
 refine ae aa 2 rfl ?_
 refine aj rfl (fun hc1=>?_) (fun hc1=>?_)
 ·
  have hc1':=of_decide_eq_true hc1
  refine ae aa 4 rfl ?_
  refine aA ?_
  refine ax ?_
  refine ct 2 1 3 1 rfl rfl rfl ?_
  refine ct 2 2 107 4 rfl rfl rfl ?_
  have hX:cv s a=((⟨0,([]:List Int),([]:List cp)⟩:cH),e0):=by
    rw [yG (by omega),hr0];rfl
  rw [hX] at hr;clear hX
  simp only [Prod.mk.injEq] at hr;obtain ⟨rfl,rfl⟩:=hr
  refine aq aa [3,4,2] 2 rfl rfl rfl rfl rfl rfl ?_ ?_
  all_goals first|rfl|(simp [aD];done)|(simp [aD];omega)
 have hc1':=of_decide_eq_false hc1
 refine aQ ?_
 refine ag ?_
 refine aH aa 2 rfl ?_
 refine az (bP rfl rfl rfl rfl rfl Try.underlying39) rfl ?_
 refine ad aa 1 rfl ?_
 refine af ?_
 refine aj rfl (fun hc2=>?_) (fun hc2=>?_)
 ·
  have hc2':=of_decide_eq_true hc2
  refine ae aa 3 rfl ?_
  refine aA ?_
  refine ax ?_
  refine ct 2 1 3 1 rfl rfl rfl ?_
  refine ct 2 2 107 4 rfl rfl rfl ?_
  have hX:cv s a=((⟨0,([]:List Int),([]:List cp)⟩:cH),5):=by
    exact tW (by omega) (by omega)
  rw [hX] at hr;clear hX
  simp only [Prod.mk.injEq] at hr;obtain ⟨rfl,rfl⟩:=hr
  refine aq aa [3,4,2] 2 rfl rfl rfl rfl rfl rfl ?_ ?_
  all_goals first|rfl|(simp [aD];done)|(simp [aD];omega)
 have hc2':=of_decide_eq_false hc2
 refine aQ ?_
 refine ag ?_
 refine aX [2,3,4] [2,1,0] mixed rfl rfl ?_
 refine ay (kn:=[]) aa 4 rfl trivial ?_
 refine aP (n':=4) [23] [] rfl rfl (.inl ⟨(ah.plain rfl),aJ.cast (bU 3 (qw s.used (by first|omega|(simp;done)|(simp;omega))) EC rfl rfl ⟨⟨_,rfl,.c (.d _)⟩,trivial⟩ trivial ⟨(fun _ _ _ _=>trivial),trivial⟩ rfl rfl rfl rfl) rfl⟩) rfl ?_
 refine ay (kn:=[]) aa 2 rfl trivial ?_
 refine aP (n':=5) [26] [] rfl rfl (.inl ⟨(ah.plain rfl),aJ.cast (bU 4 (nc s.aU (by first|omega|(simp;done)|(simp;omega))) EB rfl rfl ⟨⟨_,rfl,.c (.d _)⟩,trivial⟩ trivial ⟨(fun _ _ _ _=>trivial),trivial⟩ rfl rfl rfl rfl) rfl⟩) rfl ?_
 refine ay (kn:=[]) aa 1 rfl trivial ?_
 refine aP (n':=6) [28] [] rfl rfl (.inl ⟨(ah.plain rfl),aJ.cast (ec (ys:=[(0,(.g [(cI a.aO),(cI a.aE),(cI a.sum),(cI a.time)]))]) (rows:=([a]).map iG) 5 yk rfl (by decide) ⟨⟨rfl,rfl⟩,trivial⟩ rfl rfl rfl rfl) rfl⟩) rfl ?_
 refine aP (n':=7) [27,29] [5,4] rfl rfl (.inl ⟨(ah.plain rfl),aJ.cast (dE (m:=1) (N:=s.aU.length+1) (k2:=6) (ys:=([a]).map iG) yk rfl rfl rfl rfl rfl rfl (by first|omega|(simp;done)|(simp;omega)) rfl (.s rfl (by first|omega|(simp;done)|(simp;omega))) (by first|omega|(simp;done)|(simp;omega)) (by first|omega|(simp;done)|(simp;omega)) fM (by decide) (by first|omega|(simp;done)|(simp;omega)) (by first|omega|(simp;done)|(simp;omega))) rfl⟩) rfl ?_
 refine ay (n':=8) (kn:=[]) aa 2 rfl trivial ?_
 refine bw [7,6,3,2,1,0] rfl rfl rfl rfl (by kernel_rfl) ?_
 refine ad aa 1 rfl ?_
 refine af ?_
 refine ag ?_
 refine cr 52 ((((decide (a.aO>=0)) && (decide (a.aO < (↑s.used.length:Int)))) && (decide (a.sum>=1))) && (decide (a.sum<=1000000))) ?_ ?_
 ·
  refine aw ?_
  refine ad aa 4 rfl ?_
  refine bK (t:=35) rfl (fun hb3=>?_) (fun hb3=>?_)
  ·
   have hb3':=of_decide_eq_true hb3
   refine ad aa 4 rfl ?_
   refine cD (ah.yes rfl rfl rfl) (dy rfl rfl rfl rfl rfl Try.underlying30) rfl rfl ?_
   refine ad aa 3 rfl ?_
   refine bK (t:=43) rfl (fun hb4=>?_) (fun hb4=>?_)
   ·
    have hb4':=of_decide_eq_true hb4
    refine ad aa 5 rfl ?_
    refine bK (t:=48) rfl (fun hb5=>?_) (fun hb5=>?_)
    ·
     have hb5':=of_decide_eq_true hb5
     refine ad aa 4 rfl ?_
     refine af ?_
     exact aF.bF 24 rfl rfl (by first|(simp [hb3,hb4,hb5];done)|(simp_all;done)|(exfalso;simp_all;done)|(simp_all;omega)) rfl
    have hb5':=of_decide_eq_false hb5
    refine ad aa 4 rfl ?_
    refine af ?_
    exact aF.bF 24 rfl rfl (by first|(simp [hb3,hb4,hb5];done)|(simp_all;done)|(exfalso;simp_all;done)|(simp_all;omega)) rfl
   have hb4':=of_decide_eq_false hb4
   refine ad aa 9 rfl ?_
   refine af ?_
   exact aF.bF 23 rfl rfl (by first|(simp [hb3,hb4];done)|(simp_all;done)|(exfalso;simp_all;done)|(simp_all;omega)) rfl
  have hb3':=of_decide_eq_false hb3
  refine ad aa 17 rfl ?_
  refine af ?_
  exact aF.bF 22 rfl rfl (by first|(simp [hb3];done)|(simp_all;done)|(exfalso;simp_all;done)|(simp_all;omega)) rfl
 refine aj rfl (fun hc6=>?_) (fun hc6=>?_)
 ·
  have hc6':=hc6;try simp only [bx,bV] at hc6'
  obtain ⟨x1,hx1⟩:=cg (xs:=s.used) (i:=Int.toNat (a.aO)) (by first|omega|(simp;done)|(simp;omega))
  have hx1b:=rn (s:=s) (by omega) hx1
  refine aX [3,4,7] [7,6,3,2,1] mixed rfl rfl ?_
  refine ay (kn:=[]) aa 4 rfl trivial ?_
  refine aP (n':=8) [54,56] [3] rfl rfl (.inl ⟨(ah.plain rfl),aJ.cast (bz (i:=Int.toNat (a.aO)) rfl rfl rfl Try.underlying30 fC (by first|omega|(simp;done)|(simp;omega)) (by first|omega|(simp;done)|(simp;omega))) rfl⟩) rfl ?_
  refine aP (n':=8) [57] [3] rfl rfl (.inl ⟨(ah.plain rfl),aJ.cast (eQ rfl rfl rfl Try.underlying3 rfl (bj hx1) rfl) rfl⟩) rfl ?_
  refine ay (kn:=[]) aa 2 rfl trivial ?_
  refine aP (n':=8) [58,60] [] rfl rfl (.inl ⟨(ah.plain rfl),aJ.cast (aK rfl rfl rfl (aL (by first|omega|(simp;done)|(simp;omega)))) rfl⟩) rfl ?_
  refine aP (n':=8) [54,56] [3] rfl rfl (.inl ⟨(ah.plain rfl),aJ.cast (bz (i:=Int.toNat (a.aO)) rfl rfl rfl Try.underlying30 fC (by first|omega|(simp;done)|(simp;omega)) (by first|omega|(simp;done)|(simp;omega))) rfl⟩) rfl ?_
  refine bw [7,6,3,2,1] rfl rfl rfl rfl (by kernel_rfl) ?_
  refine gw [7,6,3,2,1] (dS (ds:=[(dI (x1+a.sum))]) rfl rfl rfl rfl rfl fC rfl (Nat.le_of_ble_eq_true rfl) (bj hx1) rfl (eU (x':=x1+a.sum) rfl)) rfl ?_
  refine af ?_
  refine aH aa 1 rfl ?_
  obtain ⟨e1,hr1⟩:∃ (e1:Int),ca (⟨s.cap,(s.used).set (Int.toNat (a.aO)) (x1+a.sum),s.aU++([a])⟩:cH)=e1:=⟨_,rfl⟩
  refine aT 8 [7,6,3,2,1] (ga 8 [3,6] (jc (⟨s.cap,(s.used).set (Int.toNat (a.aO)) (x1+a.sum),s.aU++([a])⟩:cH) e1 hr1) yS rfl rfl ⟨⟨_,rfl,.g ⟨.d _,.s rfl (by decide) (by first|omega|(simp;done)|(simp;omega)),.s rfl (by decide) (by first|omega|(simp;done)|(simp;omega)),trivial⟩⟩,trivial⟩ rfl trivial rfl rfl rfl rfl) rfl ?_
  refine ad aa 1 rfl ?_
  refine af ?_
  refine ae aa 1 rfl ?_
  refine aR ?_
  refine ae aa 2 rfl ?_
  refine aj rfl (fun hc7=>?_) (fun hc7=>?_)
  ·
   have hc7':=of_decide_eq_true hc7
   refine ae aa 3 rfl ?_
   refine aA ?_
   refine bp ?_
   have hX:cv s a=((⟨s.cap,(s.used).set (Int.toNat (a.aO)) (x1+a.sum),s.aU++([a])⟩:cH),0):=by
     have hx:s.used.getD a.aO.toNat 0=x1:=by rw [List.getD_eq_getElem?_getD,hx1];rfl
     have hg:=ly (a:=a) (show ca s=0 by omega) (show s.aU.length < 20 by omega)
     rw [hx,hr1] at hg
     rcases hg with ⟨p1,p2⟩|⟨p1,p2⟩|⟨p1,p2⟩<;>first|(exfalso;omega)|exact p2|(subst p1;exact p2)
   rw [hX] at hr;clear hX
   simp only [Prod.mk.injEq] at hr;obtain ⟨rfl,rfl⟩:=hr
   refine aq aa [3,6,2] 2 rfl rfl rfl rfl rfl rfl ?_ ?_
   all_goals first|rfl|(simp [aD];done)|(simp [aD];omega)
  have hc7':=of_decide_eq_false hc7
  refine ae aa 2 rfl ?_
  refine aj rfl (fun hc8=>?_) (fun hc8=>?_)
  ·
   have hc8':=of_decide_eq_true hc8
   refine ae aa 3 rfl ?_
   refine aA ?_
   refine bp ?_
   refine ct 2 1 3 1 rfl rfl rfl ?_
   refine ct 2 2 107 4 rfl rfl rfl ?_
   have hX:cv s a=((⟨0,([]:List Int),([]:List cp)⟩:cH),10):=by
     have hx:s.used.getD a.aO.toNat 0=x1:=by rw [List.getD_eq_getElem?_getD,hx1];rfl
     have hg:=ly (a:=a) (show ca s=0 by omega) (show s.aU.length < 20 by omega)
     rw [hx,hr1] at hg
     rcases hg with ⟨p1,p2⟩|⟨p1,p2⟩|⟨p1,p2⟩<;>first|(exfalso;omega)|exact p2|(subst p1;exact p2)
   rw [hX] at hr;clear hX
   simp only [Prod.mk.injEq] at hr;obtain ⟨rfl,rfl⟩:=hr
   refine aq aa [8,9,2] 2 rfl rfl rfl rfl rfl rfl ?_ ?_
   all_goals first|rfl|(simp [aD];done)|(simp [aD];omega)
  have hc8':=of_decide_eq_false hc8
  refine ae aa 4 rfl ?_
  refine aA ?_
  refine bp ?_
  refine ct 2 1 3 1 rfl rfl rfl ?_
  refine ct 2 2 107 4 rfl rfl rfl ?_
  have hX:cv s a=((⟨0,([]:List Int),([]:List cp)⟩:cH),e1):=by
    have hx:s.used.getD a.aO.toNat 0=x1:=by rw [List.getD_eq_getElem?_getD,hx1];rfl
    have hg:=ly (a:=a) (show ca s=0 by omega) (show s.aU.length < 20 by omega)
    rw [hx,hr1] at hg
    rcases hg with ⟨p1,p2⟩|⟨p1,p2⟩|⟨p1,p2⟩<;>first|(exfalso;omega)|exact p2|(subst p1;exact p2)
  rw [hX] at hr;clear hX
  simp only [Prod.mk.injEq] at hr;obtain ⟨rfl,rfl⟩:=hr
  refine aq aa [8,9,2] 2 rfl rfl rfl rfl rfl rfl ?_ ?_
  all_goals first|rfl|(simp [aD];done)|(simp [aD];omega)
 have hc6':=hc6;try simp only [bx,bV] at hc6'
 refine aQ ?_
 refine aH aa 1 rfl ?_
 obtain ⟨e2,hr2⟩:∃ (e2:Int),ca (⟨s.cap,s.used,s.aU++([a])⟩:cH)=e2:=⟨_,rfl⟩
 refine aT 8 [7,6,3,2,1,0] (ga 8 [3,6] (jc (⟨s.cap,s.used,s.aU++([a])⟩:cH) e2 hr2) yS rfl rfl ⟨⟨_,rfl,.g ⟨.d _,.s rfl (by decide) (by first|omega|(simp;done)|(simp;omega)),.s rfl (by decide) (by first|omega|(simp;done)|(simp;omega)),trivial⟩⟩,trivial⟩ rfl trivial rfl rfl rfl rfl) rfl ?_
 refine ad aa 1 rfl ?_
 refine af ?_
 refine ae aa 1 rfl ?_
 refine aR ?_
 refine ae aa 2 rfl ?_
 refine aj rfl (fun hc9=>?_) (fun hc9=>?_)
 ·
  have hc9':=of_decide_eq_true hc9
  refine ae aa 3 rfl ?_
  refine aA ?_
  refine bp ?_
  have hX:cv s a=((⟨s.cap,s.used,s.aU++([a])⟩:cH),0):=by
    have hg:=qS (a:=a) (show ca s=0 by omega) (show s.aU.length < 20 by omega) (by omega)
    rw [hr2] at hg
    obtain ⟨p1,p2⟩:=hg
    first|(exfalso;omega)|(subst p1;exact p2)
  rw [hX] at hr;clear hX
  simp only [Prod.mk.injEq] at hr;obtain ⟨rfl,rfl⟩:=hr
  refine aq aa [3,6,2] 2 rfl rfl rfl rfl rfl rfl ?_ ?_
  all_goals first|rfl|(simp [aD];done)|(simp [aD];omega)
 have hc9':=of_decide_eq_false hc9
 refine ae aa 2 rfl ?_
 refine aj rfl (fun hc10=>?_) (fun hc10=>?_)
 ·
  have hc10':=of_decide_eq_true hc10
  refine ae aa 3 rfl ?_
  refine aA ?_
  refine bp ?_
  refine ct 2 1 3 1 rfl rfl rfl ?_
  refine ct 2 2 107 4 rfl rfl rfl ?_
  have hX:cv s a=((⟨0,([]:List Int),([]:List cp)⟩:cH),10):=by
    have hg:=qS (a:=a) (show ca s=0 by omega) (show s.aU.length < 20 by omega) (by omega)
    rw [hr2] at hg
    obtain ⟨p1,p2⟩:=hg
    first|(exfalso;omega)|(subst p1;exact p2)
  rw [hX] at hr;clear hX
  simp only [Prod.mk.injEq] at hr;obtain ⟨rfl,rfl⟩:=hr
  refine aq aa [8,9,2] 2 rfl rfl rfl rfl rfl rfl ?_ ?_
  all_goals first|rfl|(simp [aD];done)|(simp [aD];omega)
 have hc10':=of_decide_eq_false hc10
 refine ae aa 4 rfl ?_
 refine aA ?_
 refine bp ?_
 refine ct 2 1 3 1 rfl rfl rfl ?_
 refine ct 2 2 107 4 rfl rfl rfl ?_
 have hX:cv s a=((⟨0,([]:List Int),([]:List cp)⟩:cH),e2):=by
   have hg:=qS (a:=a) (show ca s=0 by omega) (show s.aU.length < 20 by omega) (by omega)
   rw [hr2] at hg
   obtain ⟨p1,p2⟩:=hg
   first|(exfalso;omega)|(subst p1;exact p2)
 rw [hX] at hr;clear hX
 simp only [Prod.mk.injEq] at hr;obtain ⟨rfl,rfl⟩:=hr
 refine aq aa [8,9,2] 2 rfl rfl rfl rfl rfl rfl ?_ ?_
 all_goals first|rfl|(simp [aD];done)|(simp [aD];omega)


def fq:List Int->Int
  |[]=>0
  |x::l=>if x=0 then fq l else x
def ic (a b:ar):Int:=fq [er a.aE b.aE,er a.bd b.bd]
theorem AA {l:List Int} {i:Nat} {x:Int} (hx:l[i]?=some x) (h:x=0):fq (l.drop i)=fq (l.drop (i+1)):=by
  obtain ⟨hi,rfl⟩:=List.getElem?_eq_some_iff.1 hx
  rw [List.drop_eq_getElem_cons hi,fq,if_pos h]
theorem tZ {l:List Int} {i:Nat} {x:Int} (hx:l[i]?=some x) (h:¬x=0):fq (l.drop i)=x:=by
  obtain ⟨hi,rfl⟩:=List.getElem?_eq_some_iff.1 hx
  rw [List.drop_eq_getElem_cons hi,fq,if_neg h]
theorem lE {a b:ar}:ic a b < 0↔gL a b=true:=by
  rw [rM]
  have h1:=rb (a:=a.aE) (b:=b.aE)
  have h2:=pn (a:=a.aE) (b:=b.aE)
  have h3:=rb (a:=a.bd) (b:=b.bd)
  have h4:=pn (a:=a.bd) (b:=b.bd)
  unfold ic fq fq fq
  split
  ·split<;>omega
  ·omega
theorem lF {a b:ar} (h:¬ic a b < 0):gL a b=false:=by
  cases hb:gL a b with
  |false=>rfl
  |true=>exact absurd (lE.2 hb) h
theorem cL {l:List (Nat×AV)} {t:Nat} {x y:Int} {ρ:Nat->Nat} (h:look l t=some (aI x)) (e:x=y):look l t=some (AV.map ρ (aI y)):=by subst e;exact h

theorem HH (l:List Int) (r:Int) (hr:fq l=r):Fn Try.prog 59 [(.c (df l))] (.v (.c (cI r))) []:=by
 refine Fn.mk' 18 [(0,(aC (df l)))] Try.func59 rfl rfl rfl rfl ?_
 intro W0 T0
 refine dq 0 rfl (fun hlen0=>?_)
 refine ae aa 1 rfl ?_
 refine ae aa 1 rfl ?_
 refine ag ?_
 refine aH aa 1 rfl ?_
 refine az (bP rfl rfl rfl rfl rfl Try.underlying30) rfl ?_
 refine ad aa 1 rfl ?_
 refine af ?_
 refine aR ?_
 refine ch (β:=Nat) (fun (i:Nat)=>⟨[(3,(aI 0)),(6,(aC (df l))),(7,(aI (↑l.length:Int))),(8,(aI (↑i:Int)))],[],0⟩) (fun (i:Nat)=>i<=l.length/\fq (l.drop i)=fq l) (fun (i:Nat)=>l.length - i) 0 ?_ ?_ ?_
 ·exact ⟨by omega,rfl⟩
 ·exact aF.bL id (by refine ⟨?_,?_,?_,?_,trivial⟩<;>first|rfl|(simp only [ba];done)|(congr 3;omega)|(congr 4;omega)|(simp only [bb];rfl)) (trivial) rfl
 rintro i ⟨hi0_0,hi0_1⟩
 refine ae aa 1 rfl ?_
 refine ag ?_
 refine aj rfl (fun hc1=>?_) (fun hc1=>?_)
 ·
  have hc1':=of_decide_eq_true hc1
  refine aQ ?_
  refine ag ?_
  refine aR ?_
  refine eK ?_
  obtain ⟨x1,hx1⟩:=cg (xs:=l) (i:=i) (by first|omega|(simp;done)|(simp;omega))
  refine az (bX (i:=i) rfl rfl rfl Try.underlying30 fC (by first|omega|(simp;done)|(simp;omega)) (bj hx1)) rfl ?_
  refine ad aa 2 rfl ?_
  refine af ?_
  refine ae aa 3 rfl ?_
  refine aj rfl (fun hc2=>?_) (fun hc2=>?_)
  ·
   have hc2':=of_decide_eq_true hc2
   refine ae aa 2 rfl ?_
   refine aA ?_
   refine bp ?_
   refine ax ?_
   refine ax ?_
   refine bp ?_
   refine ax ?_
   have hX:fq l=x1:=by
     rw [<-hi0_1];first|exact tZ hx1 (by omega)|(rw [List.drop_of_length_le (by omega)];rfl)
   rw [hX] at hr;clear hX
   subst hr
   refine aq aa [] 0 rfl rfl rfl rfl rfl rfl ?_ ?_
   all_goals first|rfl|(simp [aD];done)|(simp [aD];omega)
  have hc2':=of_decide_eq_false hc2
  refine cE ?_
  refine bf ?_
  refine then_ok ?_
  refine aw ?_
  refine az (aK rfl rfl rfl (aL (by first|omega|(simp;done)|(simp;omega)))) rfl ?_
  refine ad aa 1 rfl ?_
  refine af ?_
  refine ⟨i+1,⟨by omega,by rw [<-AA hx1 (by omega)];exact hi0_1⟩,by first|omega|(simp;done)|(simp;omega),aF.bL id (by refine ⟨?_,?_,?_,?_,trivial⟩<;>first|rfl|(simp only [ba];done)|(congr 3;omega)|(congr 4;omega)|(simp only [bb];rfl)) (trivial) rfl⟩
 have hc1':=of_decide_eq_false hc1
 refine bT ?_
 refine aN ?_
 refine aN ?_
 refine bA ?_
 refine then_ok ?_
 refine ae aa 2 rfl ?_
 refine aA ?_
 have hX:fq l=0:=by
   rw [<-hi0_1];first|exact tZ hx1 (by omega)|(rw [List.drop_of_length_le (by omega)];rfl)
 rw [hX] at hr;clear hX
 subst hr
 refine aq aa [] 0 rfl rfl rfl rfl rfl rfl ?_ ?_
 all_goals first|rfl|(simp [aD];done)|(simp [aD];omega)
theorem xR (x y:ar):Fn Try.prog 53 [(.g [(cI x.aE),(cI x.bd),(cI x.kind),(cI x.sum)]),(.g [(cI y.aE),(cI y.bd),(cI y.kind),(cI y.sum)])] (aI (ic x y)) []:=by
 refine Fn.mk' 17 [(0,(aG [(cI x.aE),(cI x.bd),(cI x.kind),(cI x.sum)])),(1,(aG [(cI y.aE),(cI y.bd),(cI y.kind),(cI y.sum)]))] Try.func53 rfl rfl rfl rfl ?_
 intro W0 T0
 refine ae aa 3 rfl ?_
 refine ag ?_
 have hr0:er x.aE y.aE=er x.aE y.aE:=rfl
 have hr1:er x.bd y.bd=er x.bd y.bd:=rfl
 have hr2:fq ([er x.aE y.aE,er x.bd y.bd])=fq ([er x.aE y.aE,er x.bd y.bd]):=rfl
 refine aX [2,3] [1,0] mixed rfl rfl ?_
 refine ay (kn:=[]) aa 4 rfl trivial ?_
 refine aP (n':=2) [6,8] [] rfl rfl (.inl ⟨(ah.plain rfl),aJ.cast (bU 2 (py x.aE y.aE (er x.aE y.aE) hr0) Ce rfl rfl ⟨⟨_,rfl,.c (.d _)⟩,⟨_,rfl,.c (.d _)⟩,trivial⟩ trivial trivial rfl rfl rfl rfl) rfl⟩) rfl ?_
 refine ay (kn:=[]) aa 4 rfl trivial ?_
 refine aP (n':=2) [11,13] [] rfl rfl (.inl ⟨(ah.plain rfl),aJ.cast (bU 2 (py x.bd y.bd (er x.bd y.bd) hr1) Ce rfl rfl ⟨⟨_,rfl,.c (.d _)⟩,⟨_,rfl,.c (.d _)⟩,trivial⟩ trivial trivial rfl rfl rfl rfl) rfl⟩) rfl ?_
 refine aP (n':=3) [9,14] [] rfl rfl (.inl ⟨(ah.plain rfl),aJ.cast (ec (ys:=[(0,(.c (cI (er x.aE y.aE)))),(1,(.c (cI (er x.bd y.bd))))]) (rows:=([er x.aE y.aE,er x.bd y.bd]).map rI) 2 ns rfl (by decide) ⟨⟨rfl,rfl⟩,⟨rfl,rfl⟩,trivial⟩ rfl rfl rfl rfl) rfl⟩) rfl ?_
 refine aP (n':=3) [15] [2] rfl rfl (.inl ⟨(ah.plain rfl),aJ.cast (ga 3 [2] (HH ([er x.aE y.aE,er x.bd y.bd]) (fq ([er x.aE y.aE,er x.bd y.bd])) hr2) Hq rfl rfl ⟨⟨_,rfl,.c (.s rfl (by decide) (by first|omega|(simp;done)|(simp;omega)))⟩,trivial⟩ rfl trivial rfl rfl rfl rfl) rfl⟩) rfl ?_
 refine ay (kn:=[]) aa 1 rfl trivial ?_
 refine bw [1,0] rfl rfl rfl rfl (by kernel_rfl) ?_
 refine af ?_
 refine aA ?_
 refine aq aa [] 0 rfl rfl rfl rfl rfl rfl ?_ ?_
 all_goals first|rfl|(simp [aD];done)|(simp [aD];omega)

theorem wS (d:List ar) (N a b n:Nat) (fn:FuncId) (bn:List (List D)) (hp:∀ x y:ar,Fn Try.prog fn ([.g [cI x.aE,cI x.bd,cI x.kind,cI x.sum],.g [cI y.aE,cI y.bd,cI y.kind,cI y.sum]]++bn.map fun r=>GV.c (.q r 0)) (aI (ic x y)) []) (hen:bo Try.prog fn) (hl:d.length * 32<=140737488355328) (hN:N=d.length) (h0_:a+n<=d.length) (h1_:b+n<=d.length) (r:List ar) (hr:gm a b n d=r):cM Try.prog 110 [(.c (.s 0 0 4 N)),(.c (cI (↑a:Int))),(.c (cI (↑b:Int))),(.c (cI (↑n:Int))),(.c (.d (.f fn bn)))] [(0,(cT d))] [0] (.t []) [(0,(cT r))]:=by
 refine cM.mk 38 [(0,(aC (.s 0 0 4 N))),(1,(aI (↑a:Int))),(2,(aI (↑b:Int))),(3,(aI (↑n:Int))),(4,(aC (.d (.f fn bn))))] 1 Try.func110 rfl rfl rfl rfl rfl rfl rfl rfl rfl ?_
 intro W0 F0 T0 pg
 refine gD 0 rfl (fun hlen0=>?_)
 refine ae aa 1 rfl ?_
 refine aR ?_
 refine ch (β:=Nat×List ar) (fun (p:Nat×List ar)=>match p with|(i,d1)=>⟨[(0,(aC (.s 0 0 4 N))),(1,(aI (↑a:Int))),(2,(aI (↑b:Int))),(3,(aI (↑n:Int))),(10,(aI (↑i:Int)))],[(0,(cT d1))],1⟩) (fun (p:Nat×List ar)=>match p with|(i,d1)=>i<=n/\d1=gm a b i d/\d1.length=d.length) (fun (p:Nat×List ar)=>match p with|(i,d1)=>n - i) (0,d) ?_ ?_ ?_
 ·exact ⟨by omega,rfl,rfl⟩
 ·exact aF.bL id (by refine ⟨?_,?_,?_,?_,?_,trivial⟩<;>first|rfl|(simp only [ba];done)|(congr 3;omega)|(congr 4;omega)|(simp only [bb];rfl)|(exact cL rfl (by omega))) (⟨by first|rfl|(simp only [ba];done)|(congr 3;omega)|(congr 4;omega)|(simp only [bb];rfl),trivial⟩) rfl
 rintro ⟨i,d1⟩ ⟨hi0_0,hi0_1,hi0_2⟩
 refine ag ?_
 refine ae aa 3 rfl ?_
 refine aj rfl (fun hc1=>?_) (fun hc1=>?_)
 ·
  have hc1':=of_decide_eq_true hc1
  refine aQ ?_
  refine ag ?_
  refine aR ?_
  obtain ⟨x1,hx1⟩:=cg (xs:=d1) (i:=(b)+(i)) (by first|omega|(simp;done)|(simp;omega))
  obtain ⟨x2,hx2⟩:=cg (xs:=d1) (i:=(a)+(i)) (by first|omega|(simp;done)|(simp;omega))
  obtain ⟨x3,hx3⟩:=cg (xs:=((d1).set ((a)+(i)) x1)) (i:=(b)+(i)) (by first|omega|(simp;done)|(simp;omega))
  refine di [0,1,2,3,10] [0] mixed rfl rfl ?_
  refine bW (kn:=[]) aa 3 rfl trivial ?_
  refine cb (n':=1) [17,18] [] rfl rfl (.inl ⟨(ah.plain rfl),aJ.cast (aK rfl rfl rfl (aL (by first|omega|(simp;done)|(simp;omega)))) rfl⟩) rfl ?_
  refine bW (kn:=[]) aa 3 rfl trivial ?_
  refine cb (n':=1) [21,22] [] rfl rfl (.inl ⟨(ah.plain rfl),aJ.cast (aK rfl rfl rfl (aL (by first|omega|(simp;done)|(simp;omega)))) rfl⟩) rfl ?_
  refine bW (kn:=[]) aa 3 rfl trivial ?_
  refine cb (n':=1) [25,26] [] rfl rfl (.inl ⟨(ah.plain rfl),aJ.cast (aK rfl rfl rfl (aL (by first|omega|(simp;done)|(simp;omega)))) rfl⟩) rfl ?_
  refine cb (n':=1) [24,27] [0] rfl rfl (.inl ⟨(ah.plain rfl),aJ.cast (bz (i:=(b)+(i)) rfl rfl rfl Try.underlying42 dv (by first|omega|(simp;done)|(simp;omega)) (by first|omega|(simp;done)|(simp;omega))) rfl⟩) rfl ?_
  refine cb (n':=1) [28] [0] rfl rfl (.inl ⟨(ah.plain rfl),aJ.cast (dr rfl rfl rfl Try.underlying83 rfl dv (bj hx1) rfl) rfl⟩) rfl ?_
  refine bW (kn:=[]) aa 3 rfl trivial ?_
  refine cb (n':=1) [31,32] [] rfl rfl (.inl ⟨(ah.plain rfl),aJ.cast (aK rfl rfl rfl (aL (by first|omega|(simp;done)|(simp;omega)))) rfl⟩) rfl ?_
  refine cb (n':=1) [30,33] [0] rfl rfl (.inl ⟨(ah.plain rfl),aJ.cast (bz (i:=(a)+(i)) rfl rfl rfl Try.underlying42 dv (by first|omega|(simp;done)|(simp;omega)) (by first|omega|(simp;done)|(simp;omega))) rfl⟩) rfl ?_
  refine cb (n':=1) [34] [0] rfl rfl (.inl ⟨(ah.plain rfl),aJ.cast (dr rfl rfl rfl Try.underlying83 rfl dv (bj hx2) rfl) rfl⟩) rfl ?_
  refine cb (n':=1) [16,19] [0] rfl rfl (.inl ⟨(ah.plain rfl),aJ.cast (bz (i:=(a)+(i)) rfl rfl rfl Try.underlying42 dv (by first|omega|(simp;done)|(simp;omega)) (by first|omega|(simp;done)|(simp;omega))) rfl⟩) rfl ?_
  refine cb (n':=1) [36,29] [0] rfl rfl (.inl ⟨(ah.plain rfl),aJ.cast (dS (ds:=[(dI x1.aE),(dI x1.bd),(dI x1.kind),(dI x1.sum)]) rfl rfl rfl rfl rfl dv rfl (Nat.le_of_ble_eq_true rfl) (bj hx2) rfl (eU (x':=x1) rfl)) rfl⟩) rfl ?_
  refine cb (n':=1) [20,23] [0] rfl rfl (.inl ⟨(ah.plain rfl),aJ.cast (bz (i:=(b)+(i)) rfl rfl rfl Try.underlying42 dv (by first|omega|(simp;done)|(simp;omega)) (by first|omega|(simp;done)|(simp;omega))) rfl⟩) rfl ?_
  refine cb (n':=1) [37,35] [0] rfl rfl (.inl ⟨(ah.plain rfl),aJ.cast (dS (ds:=[(dI x2.aE),(dI x2.bd),(dI x2.kind),(dI x2.sum)]) rfl rfl rfl rfl rfl dv rfl (Nat.le_of_ble_eq_true rfl) (bj hx3) rfl (eU (x':=x2) rfl)) rfl⟩) rfl ?_
  refine dW [0,1,2,3,10] [0] rfl rfl (by kernel_rfl) ?_
  refine bf ?_
  refine then_ok ?_
  refine aw ?_
  refine ad aa 1 rfl ?_
  refine az (aK rfl rfl rfl (aL (by first|omega|(simp;done)|(simp;omega)))) rfl ?_
  refine ad aa 1 rfl ?_
  refine af ?_
  refine ⟨(i+1,((d1).set ((a)+(i)) x1).set ((b)+(i)) x2),⟨by omega,by rw [gm,<-hi0_1];exact (lJ hx2 hx1).symm,by simp only [List.length_set];exact hi0_2⟩,by first|omega|(simp;done)|(simp;omega),aF.bL id (by refine ⟨?_,?_,?_,?_,?_,trivial⟩<;>first|rfl|(simp only [ba];done)|(congr 3;omega)|(congr 4;omega)|(simp only [bb];rfl)|(exact cL rfl (by omega))) (⟨by first|rfl|(simp only [ba];done)|(congr 3;omega)|(congr 4;omega)|(simp only [bb];rfl),trivial⟩) rfl⟩
 have hc1':=of_decide_eq_false hc1
 refine bT ?_
 refine aN ?_
 refine aN ?_
 refine bA ?_
 have hX:gm a b n d=d1:=by
   have:i=n:=by omega
   subst this;exact hi0_1.symm
 rw [hX] at hr;clear hX
 subst hr
 refine cP aa [0] 1 rfl rfl rfl rfl rfl rfl ?_ ?_
 all_goals first|rfl|(simp [aD];done)|(simp [aD];omega)
theorem lR (ai bi ni:Int) (d:List ar) (N a b n:Nat) (fn:FuncId) (bn:List (List D)) (hp:∀ x y:ar,Fn Try.prog fn ([.g [cI x.aE,cI x.bd,cI x.kind,cI x.sum],.g [cI y.aE,cI y.bd,cI y.kind,cI y.sum]]++bn.map fun r=>GV.c (.q r 0)) (aI (ic x y)) []) (hen:bo Try.prog fn) (ea_:ai=(↑a:Int)) (eb_:bi=(↑b:Int)) (en_:ni=(↑n:Int)) (hl:d.length * 32<=140737488355328) (hN:N=d.length) (h0_:a+n<=d.length) (h1_:b+n<=d.length) (r:List ar) (hr:gm a b n d=r):cM Try.prog 110 [(.c (.s 0 0 4 N)),(.c (cI ai)),(.c (cI bi)),(.c (cI ni)),(.c (.d (.f fn bn)))] [(0,(cT d))] [0] (.t []) [(0,(cT r))]:=by
  subst ea_ eb_ en_
  exact wS d N a b n fn bn hp hen hl hN h0_ h1_ r hr

theorem Co (d:List ar) (N a m b:Nat) (fn:FuncId) (bn:List (List D)) (hp:∀ x y:ar,Fn Try.prog fn ([.g [cI x.aE,cI x.bd,cI x.kind,cI x.sum],.g [cI y.aE,cI y.bd,cI y.kind,cI y.sum]]++bn.map fun r=>GV.c (.q r 0)) (aI (ic x y)) []) (hen:bo Try.prog fn) (hl:d.length * 32<=140737488355328) (hN:N=d.length) (h0_:a < m) (h1_:m < b) (h2_:b<=d.length) (r:List ar) (hr:jg m (m - a) (b - m) d=r):cM Try.prog 93 [(.c (.s 0 0 4 N)),(.c (cI (↑a:Int))),(.c (cI (↑m:Int))),(.c (cI (↑b:Int))),(.c (.d (.f fn bn)))] [(0,(cT d))] [0] (.t []) [(0,(cT r))]:=by
 refine cM.mk 58 [(0,(aC (.s 0 0 4 N))),(1,(aI (↑a:Int))),(2,(aI (↑m:Int))),(3,(aI (↑b:Int))),(4,(aC (.d (.f fn bn))))] 1 Try.func93 rfl rfl rfl rfl rfl rfl rfl rfl rfl ?_
 intro W0 F0 T0 pg
 refine gD 0 rfl (fun hlen0=>?_)
 refine aH aa 2 rfl ?_
 refine az (aK rfl rfl rfl (aL (by first|omega|(simp;done)|(simp;omega)))) rfl ?_
 refine ad aa 1 rfl ?_
 refine af ?_
 refine aH aa 2 rfl ?_
 refine az (aK rfl rfl rfl (aL (by first|omega|(simp;done)|(simp;omega)))) rfl ?_
 refine ad aa 1 rfl ?_
 refine af ?_
 refine ag ?_
 refine aR ?_
 refine ch (β:=Nat×Nat×List ar) (fun (p:Nat×Nat×List ar)=>match p with|(i,j,d1)=>⟨[(0,(aC (.s 0 0 4 N))),(2,(aI (↑m:Int))),(4,(aC (.d (.f fn bn)))),(10,(aI (↑i:Int))),(11,(aI (↑j:Int)))],[(0,(cT d1))],1⟩) (fun (p:Nat×Nat×List ar)=>match p with|(i,j,d1)=>0 < i/\0 < j/\i+a<=m/\m+j<=b/\jg m i j d1=jg m (m - a) (b - m) d/\d1.length=d.length) (fun (p:Nat×Nat×List ar)=>match p with|(i,j,d1)=>i+j) (m - a,b - m,d) ?_ ?_ ?_
 ·exact ⟨by omega,by omega,by omega,by omega,rfl,rfl⟩
 ·exact aF.bL id (by refine ⟨?_,?_,?_,?_,?_,trivial⟩<;>first|rfl|(simp only [ba];done)|(congr 3;omega)|(congr 4;omega)|(simp only [bb];rfl)|(exact cL rfl (by omega))) (⟨by first|rfl|(simp only [ba];done)|(congr 3;omega)|(congr 4;omega)|(simp only [bb];rfl),trivial⟩) rfl
 rintro ⟨i,j,d1⟩ ⟨hi0_0,hi0_1,hi0_2,hi0_3,hi0_4,hi0_5⟩
 refine ag ?_
 refine ae aa 3 rfl ?_
 refine aj rfl (fun hc1=>?_) (fun hc1=>?_)
 ·
  have hc1':=of_decide_eq_true hc1
  refine aQ ?_
  refine aR ?_
  refine ae aa 3 rfl ?_
  refine aj rfl (fun hc2=>?_) (fun hc2=>?_)
  ·
   have hc2':=of_decide_eq_true hc2
   refine aH aa 3 rfl ?_
   refine az (aK rfl rfl rfl (aL (by first|omega|(simp;done)|(simp;omega)))) rfl ?_
   refine ad aa 3 rfl ?_
   obtain ⟨r0,hr0⟩:∃ (r0:List ar),gm ((m) - (i)) m j d1=r0:=⟨_,rfl⟩
   have hlr0:r0.length=d1.length:=by rw [<-hr0];exact iO _ _ _ _
   refine aT 1 [0] (dU id id (lR ((↑m:Int) - (↑i:Int)) (↑m:Int) (↑j:Int) d1 N ((m) - (i)) m j fn bn hp hen (by first|omega|(simp;done)|(simp;omega)) (by first|omega|(simp;done)|(simp;omega)) (by first|omega|(simp;done)|(simp;omega)) (by first|omega|(simp;done)|(simp;omega)) (by first|omega|(simp;done)|(simp;omega)) (by first|omega|(simp;done)|(simp;omega)) (by first|omega|(simp;done)|(simp;omega)) r0 hr0) yV rfl rfl ⟨⟨_,rfl,.inl ⟨rfl,rfl⟩⟩,⟨_,rfl,.inr (.c (.d _))⟩,⟨_,rfl,.inr (.c (.d _))⟩,⟨_,rfl,.inr (.c (.d _))⟩,⟨_,rfl,.inr (.c (.d _))⟩,trivial⟩ ⟨rfl,trivial⟩ rfl rfl ⟨.inr ⟨_,_,_,rfl,by first|(simp;omega)|(simp only [List.length_map];omega)⟩,trivial⟩ rfl rfl rfl trivial ⟨(fun _ _ _ _=>trivial),trivial⟩ rfl rfl rfl rfl) rfl ?_
   refine af ?_
   refine aw ?_
   refine ad aa 2 rfl ?_
   refine az (aK rfl rfl rfl (aL (by first|omega|(simp;done)|(simp;omega)))) rfl ?_
   refine ad aa 1 rfl ?_
   refine cf ?_
   refine bf ?_
   refine then_ok ?_
   refine ⟨((i) - (j),j,r0),⟨by omega,by omega,by omega,by omega,by rw [<-hr0,<-zP (by omega) (by omega)];exact hi0_4,by omega⟩,by first|omega|(simp;done)|(simp;omega),aF.bL id (by refine ⟨?_,?_,?_,?_,?_,trivial⟩<;>first|rfl|(simp only [ba];done)|(congr 3;omega)|(congr 4;omega)|(simp only [bb];rfl)|(exact cL rfl (by omega))) (⟨by first|rfl|(simp only [ba];done)|(congr 3;omega)|(congr 4;omega)|(simp only [bb];rfl),trivial⟩) rfl⟩
  have hc2':=of_decide_eq_false hc2
  refine aH aa 3 rfl ?_
  refine az (aK rfl rfl rfl (aL (by first|omega|(simp;done)|(simp;omega)))) rfl ?_
  refine ad aa 2 rfl ?_
  refine az (aK rfl rfl rfl (aL (by first|omega|(simp;done)|(simp;omega)))) rfl ?_
  refine ad aa 1 rfl ?_
  refine az (aK rfl rfl rfl (aL (by first|omega|(simp;done)|(simp;omega)))) rfl ?_
  refine ad aa 2 rfl ?_
  obtain ⟨r1,hr1⟩:∃ (r1:List ar),gm ((m) - (i)) (((m)+(j)) - (i)) i d1=r1:=⟨_,rfl⟩
  have hlr1:r1.length=d1.length:=by rw [<-hr1];exact iO _ _ _ _
  refine aT 1 [0] (dU id id (lR ((↑m:Int) - (↑i:Int)) (((↑m:Int)+(↑j:Int)) - (↑i:Int)) (↑i:Int) d1 N ((m) - (i)) (((m)+(j)) - (i)) i fn bn hp hen (by first|omega|(simp;done)|(simp;omega)) (by first|omega|(simp;done)|(simp;omega)) (by first|omega|(simp;done)|(simp;omega)) (by first|omega|(simp;done)|(simp;omega)) (by first|omega|(simp;done)|(simp;omega)) (by first|omega|(simp;done)|(simp;omega)) (by first|omega|(simp;done)|(simp;omega)) r1 hr1) yV rfl rfl ⟨⟨_,rfl,.inl ⟨rfl,rfl⟩⟩,⟨_,rfl,.inr (.c (.d _))⟩,⟨_,rfl,.inr (.c (.d _))⟩,⟨_,rfl,.inr (.c (.d _))⟩,⟨_,rfl,.inr (.c (.d _))⟩,trivial⟩ ⟨rfl,trivial⟩ rfl rfl ⟨.inr ⟨_,_,_,rfl,by first|(simp;omega)|(simp only [List.length_map];omega)⟩,trivial⟩ rfl rfl rfl trivial ⟨(fun _ _ _ _=>trivial),trivial⟩ rfl rfl rfl rfl) rfl ?_
  refine af ?_
  refine aw ?_
  refine ad aa 2 rfl ?_
  refine az (aK rfl rfl rfl (aL (by first|omega|(simp;done)|(simp;omega)))) rfl ?_
  refine ad aa 1 rfl ?_
  refine cf ?_
  refine bf ?_
  refine then_ok ?_
  refine ⟨(i,(j) - (i),r1),⟨by omega,by omega,by omega,by omega,by rw [<-hr1,<-zO (by omega) (by omega)];exact hi0_4,by omega⟩,by first|omega|(simp;done)|(simp;omega),aF.bL id (by refine ⟨?_,?_,?_,?_,?_,trivial⟩<;>first|rfl|(simp only [ba];done)|(congr 3;omega)|(congr 4;omega)|(simp only [bb];rfl)|(exact cL rfl (by omega))) (⟨by first|rfl|(simp only [ba];done)|(congr 3;omega)|(congr 4;omega)|(simp only [bb];rfl),trivial⟩) rfl⟩
 have hc1':=of_decide_eq_false hc1
 refine bT ?_
 refine aN ?_
 refine aN ?_
 refine bA ?_
 refine then_ok ?_
 refine aw ?_
 refine ad aa 3 rfl ?_
 refine az (aK rfl rfl rfl (aL (by first|omega|(simp;done)|(simp;omega)))) rfl ?_
 refine ad aa 3 rfl ?_
 obtain ⟨r2,hr2⟩:∃ (r2:List ar),gm ((m) - (i)) m i d1=r2:=⟨_,rfl⟩
 have hlr2:r2.length=d1.length:=by rw [<-hr2];exact iO _ _ _ _
 refine aT 1 [0] (dU id id (lR ((↑m:Int) - (↑i:Int)) (↑m:Int) (↑i:Int) d1 N ((m) - (i)) m i fn bn hp hen (by first|omega|(simp;done)|(simp;omega)) (by first|omega|(simp;done)|(simp;omega)) (by first|omega|(simp;done)|(simp;omega)) (by first|omega|(simp;done)|(simp;omega)) (by first|omega|(simp;done)|(simp;omega)) (by first|omega|(simp;done)|(simp;omega)) (by first|omega|(simp;done)|(simp;omega)) r2 hr2) yV rfl rfl ⟨⟨_,rfl,.inl ⟨rfl,rfl⟩⟩,⟨_,rfl,.inr (.c (.d _))⟩,⟨_,rfl,.inr (.c (.d _))⟩,⟨_,rfl,.inr (.c (.d _))⟩,⟨_,rfl,.inr (.c (.d _))⟩,trivial⟩ ⟨rfl,trivial⟩ rfl rfl ⟨.inr ⟨_,_,_,rfl,by first|(simp;omega)|(simp only [List.length_map];omega)⟩,trivial⟩ rfl rfl rfl trivial ⟨(fun _ _ _ _=>trivial),trivial⟩ rfl rfl rfl rfl) rfl ?_
 refine cf ?_
 have hX:jg m (m - a) (b - m) d=r2:=by
   have hij:i=j:=by omega
   subst hij;rw [<-hi0_4,zQ (by omega)];exact hr2
 rw [hX] at hr;clear hX
 subst hr
 refine cP aa [0] 1 rfl rfl rfl rfl rfl rfl ?_ ?_
 all_goals first|rfl|(simp [aD];done)|(simp [aD];omega)
theorem uf (ai mi bi:Int) (d:List ar) (N a m b:Nat) (fn:FuncId) (bn:List (List D)) (hp:∀ x y:ar,Fn Try.prog fn ([.g [cI x.aE,cI x.bd,cI x.kind,cI x.sum],.g [cI y.aE,cI y.bd,cI y.kind,cI y.sum]]++bn.map fun r=>GV.c (.q r 0)) (aI (ic x y)) []) (hen:bo Try.prog fn) (ea_:ai=(↑a:Int)) (em_:mi=(↑m:Int)) (eb_:bi=(↑b:Int)) (hl:d.length * 32<=140737488355328) (hN:N=d.length) (h0_:a < m) (h1_:m < b) (h2_:b<=d.length) (r:List ar) (hr:jg m (m - a) (b - m) d=r):cM Try.prog 93 [(.c (.s 0 0 4 N)),(.c (cI ai)),(.c (cI mi)),(.c (cI bi)),(.c (.d (.f fn bn)))] [(0,(cT d))] [0] (.t []) [(0,(cT r))]:=by
  subst ea_ em_ eb_
  exact Co d N a m b fn bn hp hen hl hN h0_ h1_ h2_ r hr
end Go.Proofs.Ytegepioggeggaaa.Dev
