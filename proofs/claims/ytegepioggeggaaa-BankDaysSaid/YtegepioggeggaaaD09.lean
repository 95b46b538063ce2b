/- A part of the proof: Auth2, Stand1, Stand2, Stand4, Stand5, Sort1, Sort2, Sort3. No condition. -/
import Derived.Test.YtegepioggeggaaaD08
set_option linter.unusedVariables false
set_option linter.unusedSimpArgs false
set_option maxHeartbeats 1000000
set_option maxRecDepth 100000
namespace Go.Proofs.Ytegepioggeggaaa.Dev
open Go.RowKit

theorem xy (a:bC) (t:Int) (b:bC) (hr:eh a t=b):Fn Try.prog 104 [(.g [(cI a.aO),(cI a.aE),(cI a.sum),(cI a.captured),(cI a.bB),(cI a.bq),(cI a.dc),(cB a.shut)]),(.c (cI t))] (.v (.g [(cI b.aO),(cI b.aE),(cI b.sum),(cI b.captured),(cI b.bB),(cI b.bq),(cI b.dc),(cB b.shut)])) []:=by
 refine Fn.mk' 11 [(0,(aG [(cI a.aO),(cI a.aE),(cI a.sum),(cI a.captured),(cI a.bB),(cI a.bq),(cI a.dc),(cB a.shut)])),(1,(aI t))] Try.func104 rfl rfl rfl rfl ?_
 intro W0 T0
 refine ae aa 2 rfl ?_
 refine ag ?_
 refine ae aa 4 rfl ?_
 refine aj rfl (fun hc1=>?_) (fun hc1=>?_)
 ·
  have hc1':=of_decide_eq_true hc1
  refine ax ?_
  refine ad aa 2 rfl ?_
  refine af ?_
  refine ae aa 2 rfl ?_
  refine az ?_
  have hX:eh a t=(⟨a.aO,a.aE,a.sum,a.captured,a.bB,a.bq,a.dc,true⟩:bC):=by
    refine wP rfl rfl rfl rfl rfl rfl rfl ?_;by_cases hT:a.dc<=t<;>first|(exfalso;omega)|simp [eh,hT]
  rw [hX] at hr;clear hX
  subst hr
  refine al aa [1] 0 rfl rfl rfl rfl rfl rfl ?_ ?_
  all_goals first|rfl|(simp [aw];done)|(simp [aw];omega)
 have hc1':=of_decide_eq_false hc1
 refine aS ?_
 refine ae aa 2 rfl ?_
 refine az ?_
 have hX:eh a t=a:=by
   refine wP rfl rfl rfl rfl rfl rfl rfl ?_;by_cases hT:a.dc<=t<;>first|(exfalso;omega)|simp [eh,hT]
 rw [hX] at hr;clear hX
 subst hr
 refine al aa [1] 0 rfl rfl rfl rfl rfl rfl ?_ ?_
 all_goals first|rfl|(simp [aw];done)|(simp [aw];omega)
theorem kS (a:bC) (ha:bL a=0) (e:Int) (hr:bQ a=e):Fn Try.prog 27 [(.g [(cI a.aO),(cI a.aE),(cI a.sum),(cI a.captured),(cI a.bB),(cI a.bq),(cI a.dc),(cB a.shut)])] (.v (.c (cI e))) []:=by
 refine Fn.mk' 10 [(0,(aG [(cI a.aO),(cI a.aE),(cI a.sum),(cI a.captured),(cI a.bB),(cI a.bq),(cI a.dc),(cB a.shut)]))] Try.func27 rfl rfl rfl rfl ?_
 intro W0 T0
 have hw:=eZ ha
 refine ae aa 2 rfl ?_
 refine ag ?_
 refine ae aa 2 rfl ?_
 refine aj rfl (fun hc1=>?_) (fun hc1=>?_)
 ·
  have hc1':=hc1;try simp only [br,bR] at hc1'
  refine ae aa 1 rfl ?_
  refine az ?_
  refine an ?_
  have hX:bQ a=0:=by
    (unfold bQ;try dsimp only);(repeat' split)<;>first|rfl|omega|(exfalso;omega)|(subst_vars;rfl)|(simp_all;done)|(simp_all;omega)
  rw [hX] at hr;clear hX
  subst hr
  refine al aa [] 0 rfl rfl rfl rfl rfl rfl ?_ ?_
  all_goals first|rfl|(simp [aw];done)|(simp [aw];omega)
 have hc1':=hc1;try simp only [br,bR] at hc1'
 refine aS ?_
 refine aF aa 4 rfl ?_
 refine aA (aM rfl rfl rfl (aL (by first|omega|(simp;done)|(simp;omega)))) rfl ?_
 refine ad aa 1 rfl ?_
 refine af ?_
 refine az ?_
 have hX:bQ a=(a.sum - a.captured):=by
   (unfold bQ;try dsimp only);(repeat' split)<;>first|rfl|omega|(exfalso;omega)|(subst_vars;rfl)|(simp_all;done)|(simp_all;omega)
 rw [hX] at hr;clear hX
 subst hr
 refine al aa [] 0 rfl rfl rfl rfl rfl rfl ?_ ?_
 all_goals first|rfl|(simp [aw];done)|(simp [aw];omega)
theorem qy (a:bC) (h:bL a=0):cJ Try.prog 101 [(.c (.p 0 0 0 0))] [(0,(.box 67 [(cI a.aO),(cI a.aE),(cI a.sum),(cI a.captured),(cI a.bB),(cI a.bq),(cI a.dc),(cB a.shut)]))] [0] (aI (a.captured - a.bB - a.bq)) [(0,(.box 67 [(cI a.aO),(cI a.aE),(cI a.sum),(cI a.captured),(cI a.bB),(cI a.bq),(cI a.dc),(cB a.shut)]))]:=by
 refine cJ.mk 17 [(0,(aC (.p 0 0 0 0)))] 1 Try.func101 rfl rfl rfl rfl rfl rfl rfl rfl rfl ?_
 intro W0 F0 T0 pg
 have hw:=eZ h
 refine ae aa 1 rfl ?_
 refine ag ?_
 refine aX [0] [0] mixed rfl rfl ?_
 refine aD (kn:=[]) aa 8 rfl trivial ?_
 refine aT (n':=1) [6,10] [] rfl rfl (.inl ⟨(ak.plain rfl),aK.cast (aM rfl rfl rfl (aL (by first|omega|(simp;done)|(simp;omega)))) rfl⟩) rfl ?_
 refine aD (kn:=[]) aa 4 rfl trivial ?_
 refine aT (n':=1) [11,15] [] rfl rfl (.inl ⟨(ak.plain rfl),aK.cast (aM rfl rfl rfl (aL (by first|omega|(simp;done)|(simp;omega)))) rfl⟩) rfl ?_
 refine aD (kn:=[]) aa 1 rfl trivial ?_
 refine bA [0] rfl rfl rfl rfl (by kernel_rfl) ?_
 refine af ?_
 refine az ?_
 refine al aa [0] 1 rfl rfl rfl rfl rfl rfl ?_ ?_
 all_goals first|rfl|(simp [aw];done)|(simp [aw];omega)
theorem xw (a:bC) (kind n:Int) (h:bL a=0) (h1:1<=n) (h2:n<=1000000) (b:bC) (e:Int) (hr:dQ a kind n=(b,e)):cJ Try.prog 102 [(.c (.p 0 0 0 0)),(.c (cI kind)),(.c (cI n))] [(0,(.box 67 [(cI a.aO),(cI a.aE),(cI a.sum),(cI a.captured),(cI a.bB),(cI a.bq),(cI a.dc),(cB a.shut)]))] [0] (.v (.c (cI e))) [(0,(.box 67 [(cI b.aO),(cI b.aE),(cI b.sum),(cI b.captured),(cI b.bB),(cI b.bq),(cI b.dc),(cB b.shut)]))]:=by
 refine cJ.mk 91 [(0,(aC (.p 0 0 0 0))),(1,(aI kind)),(2,(aI n))] 1 Try.func102 rfl rfl rfl rfl rfl rfl rfl rfl rfl ?_
 intro W0 F0 T0 pg
 have hw:=eZ h
 refine ae aa 1 rfl ?_
 refine ag ?_
 refine aX [0,1,2] [0] mixed rfl rfl ?_
 refine aD (kn:=[]) aa 8 rfl trivial ?_
 refine aT (n':=1) [11,15] [] rfl rfl (.inl ⟨(ak.plain rfl),aK.cast (aM rfl rfl rfl (aL (by first|omega|(simp;done)|(simp;omega)))) rfl⟩) rfl ?_
 refine aD (kn:=[]) aa 1 rfl trivial ?_
 refine bA [0] rfl rfl rfl rfl (by kernel_rfl) ?_
 refine af ?_
 refine ag ?_
 refine aY ?_
 refine ae aa 5 rfl ?_
 refine aj rfl (fun hc1=>?_) (fun hc1=>?_)
 ·
  have hc1':=hc1;try simp only [br,bR] at hc1'
  refine ae aa 1 rfl ?_
  refine az ?_
  refine bc ?_
  refine an ?_
  have hX:dQ a kind n=(a,9):=by
    (unfold dQ;try dsimp only);(repeat' split)<;>first|rfl|omega|(exfalso;omega)|(subst_vars;rfl)|(simp_all;done)|(simp_all;omega)
  rw [hX] at hr;clear hX
  simp only [Prod.mk.injEq] at hr;obtain ⟨rfl,rfl⟩:=hr
  refine al aa [0] 1 rfl rfl rfl rfl rfl rfl ?_ ?_
  all_goals first|rfl|(simp [aw];done)|(simp [aw];omega)
 have hc1':=hc1;try simp only [br,bR] at hc1'
 refine ae aa 3 rfl ?_
 refine aj rfl (fun hc2=>?_) (fun hc2=>?_)
 ·
  have hc2':=of_decide_eq_true hc2
  refine ag ?_
  refine aF aa 5 rfl ?_
  refine aA (aM rfl rfl rfl (aL (by first|omega|(simp;done)|(simp;omega)))) rfl ?_
  refine ad aa 1 rfl ?_
  refine af ?_
  refine aj rfl (fun hc3=>?_) (fun hc3=>?_)
  ·
   have hc3':=of_decide_eq_true hc3
   refine ae aa 1 rfl ?_
   refine az ?_
   refine an ?_
   refine bc ?_
   refine an ?_
   have hX:dQ a kind n=(a,4):=by
     (unfold dQ;try dsimp only);(repeat' split)<;>first|rfl|omega|(exfalso;omega)|(subst_vars;rfl)|(simp_all;done)|(simp_all;omega)
   rw [hX] at hr;clear hX
   simp only [Prod.mk.injEq] at hr;obtain ⟨rfl,rfl⟩:=hr
   refine al aa [0] 1 rfl rfl rfl rfl rfl rfl ?_ ?_
   all_goals first|rfl|(simp [aw];done)|(simp [aw];omega)
  have hc3':=of_decide_eq_false hc3
  refine aS ?_
  refine aF aa 5 rfl ?_
  refine aA (aM rfl rfl rfl (aL (by first|omega|(simp;done)|(simp;omega)))) rfl ?_
  refine ad aa 3 rfl ?_
  refine af ?_
  refine ae aa 1 rfl ?_
  refine az ?_
  refine bc ?_
  refine an ?_
  have hX:dQ a kind n=((⟨a.aO,a.aE,a.sum+n,a.captured,a.bB,a.bq,a.dc,a.shut⟩:bC),0):=by
    (unfold dQ;try dsimp only);(repeat' split)<;>first|rfl|omega|(exfalso;omega)|(subst_vars;rfl)|(simp_all;done)|(simp_all;omega)
  rw [hX] at hr;clear hX
  simp only [Prod.mk.injEq] at hr;obtain ⟨rfl,rfl⟩:=hr
  refine al aa [0] 1 rfl rfl rfl rfl rfl rfl ?_ ?_
  all_goals first|rfl|(simp [aw];done)|(simp [aw];omega)
 have hc2':=of_decide_eq_false hc2
 refine ae aa 4 rfl ?_
 refine aj rfl (fun hc4=>?_) (fun hc4=>?_)
 ·
  have hc4':=of_decide_eq_true hc4
  refine ae aa 1 rfl ?_
  refine az ?_
  refine bc ?_
  refine an ?_
  have hX:dQ a kind n=(a,10):=by
    (unfold dQ;try dsimp only);(repeat' split)<;>first|rfl|omega|(exfalso;omega)|(subst_vars;rfl)|(simp_all;done)|(simp_all;omega)
  rw [hX] at hr;clear hX
  simp only [Prod.mk.injEq] at hr;obtain ⟨rfl,rfl⟩:=hr
  refine al aa [0] 1 rfl rfl rfl rfl rfl rfl ?_ ?_
  all_goals first|rfl|(simp [aw];done)|(simp [aw];omega)
 have hc4':=of_decide_eq_false hc4
 refine ae aa 3 rfl ?_
 refine aj rfl (fun hc5=>?_) (fun hc5=>?_)
 ·
  have hc5':=of_decide_eq_true hc5
  refine aF aa 5 rfl ?_
  refine aA (aM rfl rfl rfl (aL (by first|omega|(simp;done)|(simp;omega)))) rfl ?_
  refine ad aa 3 rfl ?_
  refine af ?_
  refine ag ?_
  refine aX [0,1,2] [0] mixed rfl rfl ?_
  refine aD (kn:=[]) aa 12 rfl trivial ?_
  refine bA [0] rfl rfl rfl rfl (by kernel_rfl) ?_
  refine ad aa 1 rfl ?_
  refine af ?_
  refine ae aa 1 rfl ?_
  refine az ?_
  refine bc ?_
  refine an ?_
  have hX:dQ a kind n=((⟨a.aO,a.aE,a.sum - n,a.captured,a.bB,a.bq,a.dc,decide ((a.sum - n)=a.captured)⟩:bC),0):=by
    (unfold dQ;try dsimp only);(repeat' split)<;>first|rfl|omega|(exfalso;omega)|(subst_vars;rfl)|(simp_all;done)|(simp_all;omega)
  rw [hX] at hr;clear hX
  simp only [Prod.mk.injEq] at hr;obtain ⟨rfl,rfl⟩:=hr
  refine al aa [0] 1 rfl rfl rfl rfl rfl rfl ?_ ?_
  all_goals first|rfl|(simp [aw];done)|(simp [aw];omega)
 have hc5':=of_decide_eq_false hc5
 refine da ?_
 refine bm ?_
 refine then_ok ?_
 refine aF aa 5 rfl ?_
 refine aA (aM rfl rfl rfl (aL (by first|omega|(simp;done)|(simp;omega)))) rfl ?_
 refine ad aa 3 rfl ?_
 refine af ?_
 refine ag ?_
 rcases Bool.eq_false_or_eq_true (decide (kind=3)) with hb6|hb6
 ·
  have hb6':=of_decide_eq_true hb6
  refine aX [0,1] [0] mixed rfl rfl ?_
  refine aD (kn:=[(77,true)]) aa 16 rfl ⟨hb6,trivial⟩ ?_
  refine bA [0] rfl rfl rfl rfl (by kernel_rfl) ?_
  refine ad aa 1 rfl ?_
  refine af ?_
  refine ae aa 1 rfl ?_
  refine az ?_
  have hX:dQ a kind n=((⟨a.aO,a.aE,a.sum,a.captured+n,a.bB,a.bq,a.dc,true⟩:bC),0):=by
    (unfold dQ;try dsimp only);(repeat' split)<;>first|rfl|omega|(exfalso;omega)|(subst_vars;rfl)|(simp_all;done)|(simp_all;omega)
  rw [hX] at hr;clear hX
  simp only [Prod.mk.injEq] at hr;obtain ⟨rfl,rfl⟩:=hr
  refine al aa [0] 1 rfl rfl rfl rfl rfl rfl ?_ ?_
  all_goals first|rfl|(simp [aw];done)|(simp [aw];omega)
 have hb6':=of_decide_eq_false hb6
 refine aX [0,1] [0] mixed rfl rfl ?_
 refine aD (kn:=[(77,false)]) aa 16 rfl ⟨hb6,trivial⟩ ?_
 refine bA [0] rfl rfl rfl rfl (by kernel_rfl) ?_
 refine ad aa 1 rfl ?_
 refine af ?_
 refine ae aa 1 rfl ?_
 refine az ?_
 have hX:dQ a kind n=((⟨a.aO,a.aE,a.sum,a.captured+n,a.bB,a.bq,a.dc,decide ((a.captured+n)=a.sum)⟩:bC),0):=by
   (unfold dQ;try dsimp only);(repeat' split)<;>first|rfl|omega|(exfalso;omega)|(subst_vars;rfl)|(simp_all;done)|(simp_all;omega)
 rw [hX] at hr;clear hX
 simp only [Prod.mk.injEq] at hr;obtain ⟨rfl,rfl⟩:=hr
 refine al aa [0] 1 rfl rfl rfl rfl rfl rfl ?_ ?_
 all_goals first|rfl|(simp [aw];done)|(simp [aw];omega)
theorem xx (a:bC) (kind n:Int) (b:bC) (e:Int) (hr:ck a kind n=(b,e)):Fn Try.prog 81 [(.g [(cI a.aO),(cI a.aE),(cI a.sum),(cI a.captured),(cI a.bB),(cI a.bq),(cI a.dc),(cB a.shut)]),(.c (cI kind)),(.c (cI n))] (.t [(.g [(cI b.aO),(cI b.aE),(cI b.sum),(cI b.captured),(cI b.bB),(cI b.bq),(cI b.dc),(cB b.shut)]),(.c (cI e))]) []:=by
 refine Fn.mk' 76 [(0,(aG [(cI a.aO),(cI a.aE),(cI a.sum),(cI a.captured),(cI a.bB),(cI a.bq),(cI a.dc),(cB a.shut)])),(1,(aI kind)),(2,(aI n))] Try.func81 rfl rfl rfl rfl ?_
 intro W0 T0
 have hw:=@eZ a
 refine ae aa 3 rfl ?_
 refine ag ?_
 refine aF aa 1 rfl ?_
 obtain ⟨e0,hr0⟩:∃ (e0:Int),bL a=e0:=⟨_,rfl⟩
 refine aQ 2 [1,0] (cb 2 (ph a e0 hr0) FX rfl rfl ⟨⟨_,rfl,.g ⟨.d _,.d _,.d _,.d _,.d _,.d _,.d _,.d _,trivial⟩⟩,trivial⟩ trivial trivial rfl rfl rfl rfl) rfl ?_
 refine ad aa 1 rfl ?_
 refine af ?_
 refine ae aa 2 rfl ?_
 refine aj rfl (fun hc1=>?_) (fun hc1=>?_)
 ·
  have hc1':=of_decide_eq_true hc1
  refine ae aa 4 rfl ?_
  refine az ?_
  refine an ?_
  have hX:ck a kind n=((⟨0,0,0,0,0,0,0,false⟩:bC),e0):=by
    (unfold ck;try dsimp only);(try simp only [hr0]);(repeat' split)<;>first|rfl|omega|(exfalso;omega)|(subst_vars;rfl)|(simp_all;done)|(simp_all;omega)
  rw [hX] at hr;clear hX
  simp only [Prod.mk.injEq] at hr;obtain ⟨rfl,rfl⟩:=hr
  refine al aa [1] 0 rfl rfl rfl rfl rfl rfl ?_ ?_
  all_goals first|rfl|(simp [aw];done)|(simp [aw];omega)
 have hc1':=of_decide_eq_false hc1
 refine aS ?_
 refine ag ?_
 refine cw 21 ((decide (kind < 1))||(decide (kind > 8))) ?_ ?_
 ·
  refine ax ?_
  refine ad aa 3 rfl ?_
  refine bE (t:=18) rfl (fun hb2=>?_) (fun hb2=>?_)
  ·
   have hb2':=of_decide_eq_true hb2
   refine ad aa 3 rfl ?_
   refine af ?_
   exact aH.bD 7 rfl rfl (by first|(simp [hb2];done)|(simp_all;done)|(exfalso;simp_all;done)|(simp_all;omega)) rfl
  have hb2':=of_decide_eq_false hb2
  refine ad aa 3 rfl ?_
  refine af ?_
  exact aH.bD 7 rfl rfl (by first|(simp [hb2];done)|(simp_all;done)|(exfalso;simp_all;done)|(simp_all;omega)) rfl
 refine aj rfl (fun hc3=>?_) (fun hc3=>?_)
 ·
  have hc3':=hc3;try simp only [br,bR] at hc3'
  refine ae aa 3 rfl ?_
  refine az ?_
  refine an ?_
  have hX:ck a kind n=((⟨0,0,0,0,0,0,0,false⟩:bC),1):=by
    (unfold ck;try dsimp only);(try simp only [hr0]);(repeat' split)<;>first|rfl|omega|(exfalso;omega)|(subst_vars;rfl)|(simp_all;done)|(simp_all;omega)
  rw [hX] at hr;clear hX
  simp only [Prod.mk.injEq] at hr;obtain ⟨rfl,rfl⟩:=hr
  refine al aa [1] 0 rfl rfl rfl rfl rfl rfl ?_ ?_
  all_goals first|rfl|(simp [aw];done)|(simp [aw];omega)
 have hc3':=hc3;try simp only [br,bR] at hc3'
 refine aS ?_
 refine ag ?_
 refine cw 28 ((decide (n < 1))||(decide (n > 1000000))) ?_ ?_
 ·
  refine ax ?_
  refine ad aa 3 rfl ?_
  refine bE (t:=25) rfl (fun hb4=>?_) (fun hb4=>?_)
  ·
   have hb4':=of_decide_eq_true hb4
   refine ad aa 3 rfl ?_
   refine af ?_
   exact aH.bD 7 rfl rfl (by first|(simp [hb4];done)|(simp_all;done)|(exfalso;simp_all;done)|(simp_all;omega)) rfl
  have hb4':=of_decide_eq_false hb4
  refine ad aa 3 rfl ?_
  refine af ?_
  exact aH.bD 7 rfl rfl (by first|(simp [hb4];done)|(simp_all;done)|(exfalso;simp_all;done)|(simp_all;omega)) rfl
 refine aj rfl (fun hc5=>?_) (fun hc5=>?_)
 ·
  have hc5':=hc5;try simp only [br,bR] at hc5'
  refine ae aa 3 rfl ?_
  refine az ?_
  refine an ?_
  have hX:ck a kind n=((⟨0,0,0,0,0,0,0,false⟩:bC),3):=by
    (unfold ck;try dsimp only);(try simp only [hr0]);(repeat' split)<;>first|rfl|omega|(exfalso;omega)|(subst_vars;rfl)|(simp_all;done)|(simp_all;omega)
  rw [hX] at hr;clear hX
  simp only [Prod.mk.injEq] at hr;obtain ⟨rfl,rfl⟩:=hr
  refine al aa [1] 0 rfl rfl rfl rfl rfl rfl ?_ ?_
  all_goals first|rfl|(simp [aw];done)|(simp [aw];omega)
 have hc5':=hc5;try simp only [br,bR] at hc5'
 refine aS ?_
 refine ae aa 1 rfl ?_
 refine ag ?_
 refine ae aa 1 rfl ?_
 refine aY ?_
 refine ag ?_
 refine ae aa 2 rfl ?_
 refine aj rfl (fun hc6=>?_) (fun hc6=>?_)
 ·
  have hc6':=of_decide_eq_true hc6
  refine aS ?_
  refine aj rfl (fun _=>?_) (fun hno=>absurd (hc6.symm.trans hno) (by decide))
  refine aF aa 1 rfl ?_
  refine aQ 2 [0,1] (cL id id (qy a (by first|assumption|omega)) DN rfl rfl ⟨⟨_,rfl,.inl ⟨rfl,rfl⟩⟩,trivial⟩ ⟨rfl,trivial⟩ rfl rfl rfl rfl rfl rfl trivial ⟨⟨trivial,trivial,trivial,trivial,trivial,trivial,trivial,trivial,trivial⟩,trivial⟩ rfl rfl rfl rfl) rfl ?_
  refine ad aa 1 rfl ?_
  refine af ?_
  refine aj rfl (fun hc8=>?_) (fun hc8=>?_)
  ·
   have hc8':=of_decide_eq_true hc8
   refine ax ?_
   refine ad aa 1 rfl ?_
   refine bZ ?_
   refine bm ?_
   refine then_ok ?_
   refine ag ?_
   refine aF aa 1 rfl ?_
   refine aA (aM rfl rfl rfl (show _=some (Value.bool true) from rfl)) rfl ?_
   refine af ?_
   refine aj rfl (fun _=>?_) (fun hno=>by cases hno)
   refine ae aa 4 rfl ?_
   refine az ?_
   refine an ?_
   have hX:ck a kind n=((⟨0,0,0,0,0,0,0,false⟩:bC),10):=by
     (unfold ck;try dsimp only);(try simp only [hr0]);(repeat' split)<;>first|rfl|omega|(exfalso;omega)|(subst_vars;rfl)|(simp_all;done)|(simp_all;omega)
   rw [hX] at hr;clear hX
   simp only [Prod.mk.injEq] at hr;obtain ⟨rfl,rfl⟩:=hr
   refine al aa [1] 0 rfl rfl rfl rfl rfl rfl ?_ ?_
   all_goals first|rfl|(simp [aw];done)|(simp [aw];omega)
  have hc8':=of_decide_eq_false hc8
  refine ae aa 2 rfl ?_
  refine aj rfl (fun _=>?_) (fun hno=>absurd (hc6.symm.trans hno) (by decide))
  refine ax ?_
  refine ad aa 3 rfl ?_
  refine aA (aM rfl rfl rfl (aL (by first|omega|(simp;done)|(simp;omega)))) rfl ?_
  refine ad aa 2 rfl ?_
  refine bZ ?_
  refine bm ?_
  refine then_ok ?_
  refine ag ?_
  refine aF aa 1 rfl ?_
  refine aA (aM rfl rfl rfl (show _=some (Value.bool false) from rfl)) rfl ?_
  refine af ?_
  refine aj rfl (fun hno=>by cases hno) (fun _=>?_)
  refine aS ?_
  refine ae aa 3 rfl ?_
  refine az ?_
  have hX:ck a kind n=((⟨a.aO,a.aE,a.sum,a.captured,a.bB+n,a.bq,a.dc,a.shut⟩:bC),0):=by
    (unfold ck;try dsimp only);(try simp only [hr0]);(repeat' split)<;>first|rfl|omega|(exfalso;omega)|(subst_vars;rfl)|(simp_all;done)|(simp_all;omega)
  rw [hX] at hr;clear hX
  simp only [Prod.mk.injEq] at hr;obtain ⟨rfl,rfl⟩:=hr
  refine al aa [1] 0 rfl rfl rfl rfl rfl rfl ?_ ?_
  all_goals first|rfl|(simp [aw];done)|(simp [aw];omega)
 have hc6':=of_decide_eq_false hc6
 refine ax ?_
 refine ad aa 2 rfl ?_
 refine af ?_
 refine aj rfl (fun hc12=>?_) (fun hc12=>?_)
 ·
  have hc12':=of_decide_eq_true hc12
  refine aF aa 1 rfl ?_
  refine aQ 2 [0,1] (cL id id (qy a (by first|assumption|omega)) DN rfl rfl ⟨⟨_,rfl,.inl ⟨rfl,rfl⟩⟩,trivial⟩ ⟨rfl,trivial⟩ rfl rfl rfl rfl rfl rfl trivial ⟨⟨trivial,trivial,trivial,trivial,trivial,trivial,trivial,trivial,trivial⟩,trivial⟩ rfl rfl rfl rfl) rfl ?_
  refine ad aa 1 rfl ?_
  refine af ?_
  refine aj rfl (fun hc13=>?_) (fun hc13=>?_)
  ·
   have hc13':=of_decide_eq_true hc13
   refine ax ?_
   refine ad aa 1 rfl ?_
   refine bZ ?_
   refine bm ?_
   refine then_ok ?_
   refine ag ?_
   refine aF aa 1 rfl ?_
   refine aA (aM rfl rfl rfl (show _=some (Value.bool true) from rfl)) rfl ?_
   refine af ?_
   refine aj rfl (fun _=>?_) (fun hno=>by cases hno)
   refine ae aa 4 rfl ?_
   refine az ?_
   refine an ?_
   have hX:ck a kind n=((⟨0,0,0,0,0,0,0,false⟩:bC),10):=by
     (unfold ck;try dsimp only);(try simp only [hr0]);(repeat' split)<;>first|rfl|omega|(exfalso;omega)|(subst_vars;rfl)|(simp_all;done)|(simp_all;omega)
   rw [hX] at hr;clear hX
   simp only [Prod.mk.injEq] at hr;obtain ⟨rfl,rfl⟩:=hr
   refine al aa [1] 0 rfl rfl rfl rfl rfl rfl ?_ ?_
   all_goals first|rfl|(simp [aw];done)|(simp [aw];omega)
  have hc13':=of_decide_eq_false hc13
  refine ae aa 2 rfl ?_
  refine aj rfl (fun hno=>absurd (hc6.symm.trans hno) (by decide)) (fun _=>?_)
  refine ax ?_
  refine ad aa 3 rfl ?_
  refine aA (aM rfl rfl rfl (aL (by first|omega|(simp;done)|(simp;omega)))) rfl ?_
  refine ad aa 2 rfl ?_
  refine bZ ?_
  refine bm ?_
  refine then_ok ?_
  refine ag ?_
  refine aF aa 1 rfl ?_
  refine aA (aM rfl rfl rfl (show _=some (Value.bool false) from rfl)) rfl ?_
  refine af ?_
  refine aj rfl (fun hno=>by cases hno) (fun _=>?_)
  refine aS ?_
  refine ae aa 3 rfl ?_
  refine az ?_
  have hX:ck a kind n=((⟨a.aO,a.aE,a.sum,a.captured,a.bB,a.bq+n,a.dc,a.shut⟩:bC),0):=by
    (unfold ck;try dsimp only);(try simp only [hr0]);(repeat' split)<;>first|rfl|omega|(exfalso;omega)|(subst_vars;rfl)|(simp_all;done)|(simp_all;omega)
  rw [hX] at hr;clear hX
  simp only [Prod.mk.injEq] at hr;obtain ⟨rfl,rfl⟩:=hr
  refine al aa [1] 0 rfl rfl rfl rfl rfl rfl ?_ ?_
  all_goals first|rfl|(simp [aw];done)|(simp [aw];omega)
 have hc12':=of_decide_eq_false hc12
 refine ag ?_
 refine ae aa 2 rfl ?_
 refine aj rfl (fun hc17=>?_) (fun hc17=>?_)
 ·
  have hc17':=of_decide_eq_true hc17
  refine aS ?_
  refine aj rfl (fun _=>?_) (fun hno=>absurd (hc17.symm.trans hno) (by decide))
  refine ag ?_
  refine ae aa 4 rfl ?_
  refine aj rfl (fun hc19=>?_) (fun hc19=>?_)
  ·
   have hc19':=of_decide_eq_true hc19
   refine ae aa 1 rfl ?_
   refine cv ?_
   refine aU ?_
   refine bS ?_
   refine then_ok ?_
   refine ag ?_
   refine aF aa 1 rfl ?_
   refine aA (aM rfl rfl rfl (show _=some (Value.bool true) from rfl)) rfl ?_
   refine af ?_
   refine aj rfl (fun _=>?_) (fun hno=>by cases hno)
   refine ae aa 4 rfl ?_
   refine az ?_
   refine an ?_
   have hX:ck a kind n=((⟨0,0,0,0,0,0,0,false⟩:bC),10):=by
     (unfold ck;try dsimp only);(try simp only [hr0]);(repeat' split)<;>first|rfl|omega|(exfalso;omega)|(subst_vars;rfl)|(simp_all;done)|(simp_all;omega)
   rw [hX] at hr;clear hX
   simp only [Prod.mk.injEq] at hr;obtain ⟨rfl,rfl⟩:=hr
   refine al aa [1] 0 rfl rfl rfl rfl rfl rfl ?_ ?_
   all_goals first|rfl|(simp [aw];done)|(simp [aw];omega)
  have hc19':=of_decide_eq_false hc19
  refine aS ?_
  refine aF aa 3 rfl ?_
  refine aA (aM rfl rfl rfl (aL (by first|omega|(simp;done)|(simp;omega)))) rfl ?_
  refine ad aa 2 rfl ?_
  refine af ?_
  refine ae aa 2 rfl ?_
  refine aj rfl (fun _=>?_) (fun hno=>absurd (hc17.symm.trans hno) (by decide))
  refine ax ?_
  refine ad aa 3 rfl ?_
  refine aA (aM rfl rfl rfl (aL (by first|omega|(simp;done)|(simp;omega)))) rfl ?_
  refine ad aa 2 rfl ?_
  refine bZ ?_
  refine bm ?_
  refine then_ok ?_
  refine ag ?_
  refine aF aa 1 rfl ?_
  refine aA (aM rfl rfl rfl (show _=some (Value.bool false) from rfl)) rfl ?_
  refine af ?_
  refine aj rfl (fun hno=>by cases hno) (fun _=>?_)
  refine aS ?_
  refine ae aa 3 rfl ?_
  refine az ?_
  have hX:ck a kind n=((⟨a.aO,a.aE,a.sum,a.captured,a.bB+n,a.bq - n,a.dc,a.shut⟩:bC),0):=by
    (unfold ck;try dsimp only);(try simp only [hr0]);(repeat' split)<;>first|rfl|omega|(exfalso;omega)|(subst_vars;rfl)|(simp_all;done)|(simp_all;omega)
  rw [hX] at hr;clear hX
  simp only [Prod.mk.injEq] at hr;obtain ⟨rfl,rfl⟩:=hr
  refine al aa [1] 0 rfl rfl rfl rfl rfl rfl ?_ ?_
  all_goals first|rfl|(simp [aw];done)|(simp [aw];omega)
 have hc17':=of_decide_eq_false hc17
 refine ax ?_
 refine ad aa 2 rfl ?_
 refine af ?_
 refine aj rfl (fun hc23=>?_) (fun hc23=>?_)
 ·
  have hc23':=of_decide_eq_true hc23
  refine ag ?_
  refine ae aa 4 rfl ?_
  refine aj rfl (fun hc24=>?_) (fun hc24=>?_)
  ·
   have hc24':=of_decide_eq_true hc24
   refine ae aa 1 rfl ?_
   refine cv ?_
   refine aU ?_
   refine bS ?_
   refine then_ok ?_
   refine ag ?_
   refine aF aa 1 rfl ?_
   refine aA (aM rfl rfl rfl (show _=some (Value.bool true) from rfl)) rfl ?_
   refine af ?_
   refine aj rfl (fun _=>?_) (fun hno=>by cases hno)
   refine ae aa 4 rfl ?_
   refine az ?_
   refine an ?_
   have hX:ck a kind n=((⟨0,0,0,0,0,0,0,false⟩:bC),10):=by
     (unfold ck;try dsimp only);(try simp only [hr0]);(repeat' split)<;>first|rfl|omega|(exfalso;omega)|(subst_vars;rfl)|(simp_all;done)|(simp_all;omega)
   rw [hX] at hr;clear hX
   simp only [Prod.mk.injEq] at hr;obtain ⟨rfl,rfl⟩:=hr
   refine al aa [1] 0 rfl rfl rfl rfl rfl rfl ?_ ?_
   all_goals first|rfl|(simp [aw];done)|(simp [aw];omega)
  have hc24':=of_decide_eq_false hc24
  refine aS ?_
  refine aF aa 3 rfl ?_
  refine aA (aM rfl rfl rfl (aL (by first|omega|(simp;done)|(simp;omega)))) rfl ?_
  refine ad aa 2 rfl ?_
  refine af ?_
  refine ae aa 2 rfl ?_
  refine aj rfl (fun hno=>absurd (hc17.symm.trans hno) (by decide)) (fun _=>?_)
  refine da ?_
  refine bm ?_
  refine then_ok ?_
  refine ag ?_
  refine aF aa 1 rfl ?_
  refine aA (aM rfl rfl rfl (show _=some (Value.bool false) from rfl)) rfl ?_
  refine af ?_
  refine aj rfl (fun hno=>by cases hno) (fun _=>?_)
  refine aS ?_
  refine ae aa 3 rfl ?_
  refine az ?_
  have hX:ck a kind n=((⟨a.aO,a.aE,a.sum,a.captured,a.bB,a.bq - n,a.dc,a.shut⟩:bC),0):=by
    (unfold ck;try dsimp only);(try simp only [hr0]);(repeat' split)<;>first|rfl|omega|(exfalso;omega)|(subst_vars;rfl)|(simp_all;done)|(simp_all;omega)
  rw [hX] at hr;clear hX
  simp only [Prod.mk.injEq] at hr;obtain ⟨rfl,rfl⟩:=hr
  refine al aa [1] 0 rfl rfl rfl rfl rfl rfl ?_ ?_
  all_goals first|rfl|(simp [aw];done)|(simp [aw];omega)
 have hc23':=of_decide_eq_false hc23
 refine ax ?_
 refine ad aa 2 rfl ?_
 obtain ⟨b1,e1,hr1⟩:∃ (b1:bC) (e1:Int),dQ a kind n=(b1,e1):=⟨_,_,rfl⟩
 refine aQ 2 [0,1] (cL id id (xw a kind n (by first|assumption|omega) (by omega) (by omega) b1 e1 hr1) Hf rfl rfl ⟨⟨_,rfl,.inl ⟨rfl,rfl⟩⟩,⟨_,rfl,.inr (.c (.d _))⟩,⟨_,rfl,.inr (.c (.d _))⟩,trivial⟩ ⟨rfl,trivial⟩ rfl rfl rfl rfl rfl rfl trivial ⟨⟨trivial,trivial,trivial,trivial,trivial,trivial,trivial,trivial,trivial⟩,trivial⟩ rfl rfl rfl rfl) rfl ?_
 refine ad aa 1 rfl ?_
 refine bZ ?_
 refine bm ?_
 refine then_ok ?_
 refine ag ?_
 refine ae aa 2 rfl ?_
 refine aj rfl (fun hc28=>?_) (fun hc28=>?_)
 ·
  have hc28':=of_decide_eq_true hc28
  refine ae aa 4 rfl ?_
  refine az ?_
  refine an ?_
  have hX:ck a kind n=((⟨0,0,0,0,0,0,0,false⟩:bC),e1):=by
    (unfold ck;try dsimp only);(try simp only [hr0]);(try simp only [hr1]);(repeat' split)<;>first|rfl|omega|(exfalso;omega)|(subst_vars;rfl)|(simp_all;done)|(simp_all;omega)
  rw [hX] at hr;clear hX
  simp only [Prod.mk.injEq] at hr;obtain ⟨rfl,rfl⟩:=hr
  refine al aa [1] 0 rfl rfl rfl rfl rfl rfl ?_ ?_
  all_goals first|rfl|(simp [aw];done)|(simp [aw];omega)
 have hc28':=of_decide_eq_false hc28
 refine aS ?_
 refine ae aa 3 rfl ?_
 refine az ?_
 have hX:ck a kind n=(b1,0):=by
   (unfold ck;try dsimp only);(try simp only [hr0]);(try simp only [hr1]);(repeat' split)<;>first|rfl|omega|(exfalso;omega)|(subst_vars;rfl)|(simp_all;done)|(simp_all;omega)
 rw [hX] at hr;clear hX
 simp only [Prod.mk.injEq] at hr;obtain ⟨rfl,rfl⟩:=hr
 refine al aa [1] 0 rfl rfl rfl rfl rfl rfl ?_ ?_
 all_goals first|rfl|(simp [aw];done)|(simp [aw];omega)

theorem uM (cap:Int) (used:List Int) (advs:List ch):Fn Try.prog 30 [(.g [(cI cap),(gM used),(iq advs)])] (aI (bU ⟨cap,used,advs⟩)) []:=by
 refine Fn.mk' 109 [(0,(aG [(cI cap),(gM used),(iq advs)]))] Try.func30 rfl rfl rfl rfl ?_
 intro W0 T0
 refine fr 0 1 rfl rfl (fun hlen0_1=>?_)
 refine fr 0 2 rfl rfl (fun hlen0_2=>?_)
 refine ae aa 2 rfl ?_
 refine ag ?_
 refine cw 17 ((decide ((↑used.length:Int) > 8))||(decide ((↑advs.length:Int) > 20))) ?_ ?_
 ·
  refine ax ?_
  refine ad aa 2 rfl ?_
  refine aA (cF rfl rfl rfl rfl rfl Try.underlying30) rfl ?_
  refine ad aa 2 rfl ?_
  refine bE (t:=12) rfl (fun hb1=>?_) (fun hb1=>?_)
  ·
   have hb1':=of_decide_eq_true hb1
   refine ad aa 5 rfl ?_
   refine af ?_
   exact aH.bD 11 rfl rfl (by first|(simp [hb1];done)|(simp_all;done)|(exfalso;simp_all;done)|(simp_all;omega)) rfl
  have hb1':=of_decide_eq_false hb1
  refine ad aa 2 rfl ?_
  refine dA (ak.yes rfl rfl rfl) (cF rfl rfl rfl rfl rfl Try.underlying39) rfl rfl ?_
  refine ad aa 2 rfl ?_
  refine af ?_
  exact aH.bD 11 rfl rfl (by first|(simp [hb1];done)|(simp_all;done)|(exfalso;simp_all;done)|(simp_all;omega)) rfl
 refine aj rfl (fun hc2=>?_) (fun hc2=>?_)
 ·
  have hc2':=hc2;try simp only [br,bR] at hc2'
  refine ae aa 1 rfl ?_
  refine az ?_
  refine an ?_
  refine al aa [] 0 rfl rfl rfl rfl rfl rfl ?_ ?_
  ·(have h:=oe (s:=⟨cap,used,advs⟩) (show 8 < used.length\/20 < advs.length by omega));show aI _=aI _;rw [h]
  ·rfl
 have hc2':=hc2;try simp only [br,bR] at hc2'
 refine aS ?_
 refine ag ?_
 refine cw 25 ((decide (cap < 0))||(decide (cap > 1000000))) ?_ ?_
 ·
  refine ax ?_
  refine ad aa 4 rfl ?_
  refine bE (t:=21) rfl (fun hb3=>?_) (fun hb3=>?_)
  ·
   have hb3':=of_decide_eq_true hb3
   refine ad aa 4 rfl ?_
   refine af ?_
   exact aH.bD 9 rfl rfl (by first|(simp [hb3];done)|(simp_all;done)|(exfalso;simp_all;done)|(simp_all;omega)) rfl
  have hb3':=of_decide_eq_false hb3
  refine ad aa 4 rfl ?_
  refine af ?_
  exact aH.bD 9 rfl rfl (by first|(simp [hb3];done)|(simp_all;done)|(exfalso;simp_all;done)|(simp_all;omega)) rfl
 refine aj rfl (fun hc4=>?_) (fun hc4=>?_)
 ·
  have hc4':=hc4;try simp only [br,bR] at hc4'
  refine ae aa 1 rfl ?_
  refine az ?_
  refine an ?_
  refine al aa [] 0 rfl rfl rfl rfl rfl rfl ?_ ?_
  ·(have h:=mO (s:=⟨cap,used,advs⟩) (show ¬(8 < (⟨cap,used,advs⟩:cC).used.length\/20 < (⟨cap,used,advs⟩:cC).bd.length) by simp only;omega) (show gS cap=false by simp only [gS,decide_eq_false_iff_not];omega));show aI _=aI _;rw [h]
  ·rfl
 have hc4':=hc4;try simp only [br,bR] at hc4'
 refine aS ?_
 refine aF aa 2 rfl ?_
 refine aA (cF rfl rfl rfl rfl rfl Try.underlying30) rfl ?_
 refine aQ 2 [1,0] (pK 1 nm Dv rfl rfl rfl (n:=used.length) (by first|omega|(simp;omega)|(simp [dp];omega)) (by first|omega|(simp;omega)|(simp [dp];omega)) (by first|omega|(simp;omega)|(simp [dp];omega)) (by first|omega|(simp;omega)|(simp [dp];omega))) rfl ?_
 refine ad aa 1 rfl ?_
 refine af ?_
 refine ag ?_
 refine aF aa 2 rfl ?_
 refine aA (cF rfl rfl rfl rfl rfl Try.underlying39) rfl ?_
 refine ad aa 1 rfl ?_
 refine af ?_
 refine aY ?_
 refine cE (β:=Nat) (fun (q:Nat)=>⟨[(1,(aC (.p 0 0 0 0))),(3,(aC (.s 1 0 1 used.length))),(31,(aC (iq advs))),(32,(aI (↑advs.length:Int))),(33,(aI (↑q:Int)))],[(1,(dM (jf used.length (advs.take q)))),(0,(.box 41 [(cI cap),(gM used),(iq advs)]))],2⟩) (fun (q:Nat)=>q<=advs.length/\(advs.take q).all (gU used.length)=true) (fun (q:Nat)=>advs.length - q) 0 ?_ ?_ ?_
 ·exact ⟨by omega,by simp⟩
 ·exact aH.ca id (by refine ⟨?_,?_,?_,?_,?_,trivial⟩<;>first|rfl|(simp only [bu];done)|(congr 3;omega)|(congr 4;omega)|(simp only [bw];rfl)) (by refine ⟨?_,?_,trivial⟩<;>first|rfl|(simp only [bu];done)|(congr 3;omega)|(congr 4;omega)|(simp only [bw];rfl)|((rw [List.take_zero,<-zP];rfl))) rfl
 rintro q ⟨hi0_0,hi0_1⟩
 refine ae aa 1 rfl ?_
 refine ag ?_
 refine aj rfl (fun hc5=>?_) (fun hc5=>?_)
 ·
  have hc5':=of_decide_eq_true hc5
  refine aS ?_
  refine ag ?_
  refine aY ?_
  refine eR ?_
  obtain ⟨x1,hx1⟩:=cf (xs:=advs) (i:=q) (by first|omega|(simp [dp];omega))
  refine aA (cD (i:=q) rfl rfl rfl Try.underlying39 DB (by first|omega|(simp;omega)|(simp [dp];omega)) (bp hx1)) rfl ?_
  refine ad aa 3 rfl ?_
  refine af ?_
  refine ag ?_
  refine cw 77 ((((((((decide (x1.aO < 0))||(decide (x1.aO>=(↑used.length:Int))))||(decide (x1.aE < 0)))||(decide (x1.aE>=8)))||(decide (x1.sum < 1)))||(decide (x1.sum > 1000000)))||(decide (x1.time < 0)))||(decide (x1.time > 1000000))) ?_ ?_
  ·
   refine ax ?_
   refine ad aa 4 rfl ?_
   refine bE (t:=40) rfl (fun hb6=>?_) (fun hb6=>?_)
   ·
    have hb6':=of_decide_eq_true hb6
    refine ad aa 37 rfl ?_
    refine af ?_
    exact aH.bD 42 rfl rfl (by first|(simp [hb6];done)|(simp_all;done)|(exfalso;simp_all;done)|(simp_all;omega)) rfl
   have hb6':=of_decide_eq_false hb6
   refine ad aa 4 rfl ?_
   refine dA (ak.yes rfl rfl rfl) (cF rfl rfl rfl rfl rfl Try.underlying30) rfl rfl ?_
   refine ad aa 3 rfl ?_
   refine bE (t:=48) rfl (fun hb7=>?_) (fun hb7=>?_)
   ·
    have hb7':=of_decide_eq_true hb7
    refine ad aa 29 rfl ?_
    refine af ?_
    exact aH.bD 43 rfl rfl (by first|(simp [hb6,hb7];done)|(simp_all;done)|(exfalso;simp_all;done)|(simp_all;omega)) rfl
   have hb7':=of_decide_eq_false hb7
   refine ad aa 5 rfl ?_
   refine bE (t:=53) rfl (fun hb8=>?_) (fun hb8=>?_)
   ·
    have hb8':=of_decide_eq_true hb8
    refine ad aa 24 rfl ?_
    refine af ?_
    exact aH.bD 44 rfl rfl (by first|(simp [hb6,hb7,hb8];done)|(simp_all;done)|(exfalso;simp_all;done)|(simp_all;omega)) rfl
   have hb8':=of_decide_eq_false hb8
   refine ad aa 5 rfl ?_
   refine bE (t:=58) rfl (fun hb9=>?_) (fun hb9=>?_)
   ·
    have hb9':=of_decide_eq_true hb9
    refine ad aa 19 rfl ?_
    refine af ?_
    exact aH.bD 45 rfl rfl (by first|(simp [hb6,hb7,hb8,hb9];done)|(simp_all;done)|(exfalso;simp_all;done)|(simp_all;omega)) rfl
   have hb9':=of_decide_eq_false hb9
   refine ad aa 5 rfl ?_
   refine bE (t:=63) rfl (fun hb10=>?_) (fun hb10=>?_)
   ·
    have hb10':=of_decide_eq_true hb10
    refine ad aa 14 rfl ?_
    refine af ?_
    exact aH.bD 46 rfl rfl (by first|(simp [hb6,hb7,hb8,hb9,hb10];done)|(simp_all;done)|(exfalso;simp_all;done)|(simp_all;omega)) rfl
   have hb10':=of_decide_eq_false hb10
   refine ad aa 5 rfl ?_
   refine bE (t:=68) rfl (fun hb11=>?_) (fun hb11=>?_)
   ·
    have hb11':=of_decide_eq_true hb11
    refine ad aa 9 rfl ?_
    refine af ?_
    exact aH.bD 47 rfl rfl (by first|(simp [hb6,hb7,hb8,hb9,hb10,hb11];done)|(simp_all;done)|(exfalso;simp_all;done)|(simp_all;omega)) rfl
   have hb11':=of_decide_eq_false hb11
   refine ad aa 5 rfl ?_
   refine bE (t:=73) rfl (fun hb12=>?_) (fun hb12=>?_)
   ·
    have hb12':=of_decide_eq_true hb12
    refine ad aa 4 rfl ?_
    refine af ?_
    exact aH.bD 48 rfl rfl (by first|(simp [hb6,hb7,hb8,hb9,hb10,hb11,hb12];done)|(simp_all;done)|(exfalso;simp_all;done)|(simp_all;omega)) rfl
   have hb12':=of_decide_eq_false hb12
   refine ad aa 4 rfl ?_
   refine af ?_
   exact aH.bD 48 rfl rfl (by first|(simp [hb6,hb7,hb8,hb9,hb10,hb11,hb12];done)|(simp_all;done)|(exfalso;simp_all;done)|(simp_all;omega)) rfl
  refine aj rfl (fun hc13=>?_) (fun hc13=>?_)
  ·
   have hc13':=hc13;try simp only [br,bR] at hc13'
   refine ae aa 1 rfl ?_
   refine az ?_
   refine an ?_
   refine bc ?_
   refine an ?_
   refine an ?_
   refine bc ?_
   refine an ?_
   refine al aa [] 0 rfl rfl rfl rfl rfl rfl ?_ ?_
   ·(have h:=kr (s:=⟨cap,used,advs⟩) (show ¬(8 < (⟨cap,used,advs⟩:cC).used.length\/20 < (⟨cap,used,advs⟩:cC).bd.length) by simp only;omega) (show gS (⟨cap,used,advs⟩:cC).cap=true by simp only [gS,decide_eq_true_eq];omega) (Gm hx1 (by simp only [gU,decide_eq_false_iff_not];omega)));show aI _=aI _;rw [h]
   ·rfl
  have hc13':=hc13;try simp only [br,bR] at hc13'
  refine aS ?_
  obtain ⟨x2,hx2⟩:=cf (xs:=(jf used.length (advs.take q))) (i:=Int.toNat (x1.aO)) (by first|omega|(simp [dp];omega))
  have hx2v:=tH hx2
  have hgb:=qp used.length (x1.aO) (advs.take q) hi0_1
  have hgl:(advs.take q).length<=q:=List.length_take_le _ _
  rw [Int.toNat_of_nonneg (by omega)] at hx2v
  refine aX [1,3,31,32,33,5] [2,1,0] mixed rfl rfl ?_
  refine aD (kn:=[]) aa 3 rfl trivial ?_
  refine aT (n':=3) [78,80] [1] rfl rfl (.inl ⟨(ak.plain rfl),aK.cast (bz (i:=Int.toNat (x1.aO)) rfl rfl rfl Try.underlying30 gF (by first|omega|(simp;omega)|(simp [dp];omega)) (by first|omega|(simp;omega)|(simp [dp];omega))) rfl⟩) rfl ?_
  refine aT (n':=3) [81] [1] rfl rfl (.inl ⟨(ak.plain rfl),aK.cast (eS rfl rfl rfl Try.underlying3 rfl (bp hx2) rfl) rfl⟩) rfl ?_
  refine aD (kn:=[]) aa 2 rfl trivial ?_
  refine aT (n':=3) [82,84] [] rfl rfl (.inl ⟨(ak.plain rfl),aK.cast (aM rfl rfl rfl (aL (by first|omega|(simp;omega)|(simp [dp];omega)))) rfl⟩) rfl ?_
  refine aT (n':=3) [78,80] [1] rfl rfl (.inl ⟨(ak.plain rfl),aK.cast (bz (i:=Int.toNat (x1.aO)) rfl rfl rfl Try.underlying30 gF (by first|omega|(simp;omega)|(simp [dp];omega)) (by first|omega|(simp;omega)|(simp [dp];omega))) rfl⟩) rfl ?_
  refine bA [2,1,0] rfl rfl rfl rfl (by kernel_rfl) ?_
  refine gj [2,1,0] (dR (ds:=[(dI (x2+x1.sum))]) rfl rfl rfl rfl rfl gF rfl (Nat.le_of_ble_eq_true rfl) (bp hx2) rfl (eX (x':=x2+x1.sum) rfl)) rfl ?_
  refine bZ ?_
  refine bm ?_
  refine then_ok ?_
  refine ax ?_
  refine aA (aM rfl rfl rfl (aL (by first|omega|(simp;omega)|(simp [dp];omega)))) rfl ?_
  refine ad aa 1 rfl ?_
  refine af ?_
  refine ⟨q+1,⟨by omega,ym hi0_1 hx1 (by simp only [gU,decide_eq_true_eq];omega)⟩,by first|omega|(simp;done)|(simp;omega),aH.ca id (by refine ⟨?_,?_,?_,?_,?_,trivial⟩<;>first|rfl|(simp only [bu];done)|(congr 3;omega)|(congr 4;omega)|(simp only [bw];rfl)) (by refine ⟨?_,?_,trivial⟩<;>first|rfl|(simp only [bu];done)|(congr 3;omega)|(congr 4;omega)|(simp only [bw];rfl)|((rw [gN hx1,<-zO (i:=Int.toNat x1.aO) (v:=x2+x1.sum) (by omega) (by omega) (by rw [hx2v])];rfl))) rfl⟩
 have hc5':=of_decide_eq_false hc5
 refine cv ?_
 refine aU ?_
 refine aU ?_
 refine bS ?_
 refine then_ok ?_
 refine ag ?_
 refine aF aa 2 rfl ?_
 refine aA (cF rfl rfl rfl rfl rfl Try.underlying30) rfl ?_
 refine ad aa 1 rfl ?_
 refine af ?_
 refine aY ?_
 have hta:advs.take q=advs:=List.take_of_length_le (by omega)
 have hall:advs.all (gU used.length)=true:=by rw [<-hta];exact hi0_1
 rw [hta]
 refine cE (β:=Nat) (fun (p:Nat)=>⟨[(1,(aC (.p 0 0 0 0))),(3,(aC (.s 1 0 1 used.length))),(31,(aC (iq advs))),(32,(aI (↑advs.length:Int))),(33,(aI (↑q:Int))),(89,(aC (gM used))),(90,(aI (↑used.length:Int))),(91,(aI (↑p:Int)))],[(1,(dM (jf used.length advs))),(0,(.box 41 [(cI cap),(gM used),(iq advs)]))],2⟩) (fun (p:Nat)=>p<=used.length/\ff cap advs 0 used=ff cap advs p (used.drop p)) (fun (p:Nat)=>used.length - p) 0 ?_ ?_ ?_
 ·exact ⟨by omega,rfl⟩
 ·exact aH.ca id (by refine ⟨?_,?_,?_,?_,?_,?_,?_,?_,trivial⟩<;>first|rfl|(simp only [bu];done)|(congr 3;omega)|(congr 4;omega)|(simp only [bw];rfl)) (by refine ⟨?_,?_,trivial⟩<;>first|rfl|(simp only [bu];done)|(congr 3;omega)|(congr 4;omega)|(simp only [bw];rfl)) rfl
 rintro p ⟨hi1_0,hi1_1⟩
 refine ae aa 1 rfl ?_
 refine ag ?_
 refine aj rfl (fun hc14=>?_) (fun hc14=>?_)
 ·
  have hc14':=of_decide_eq_true hc14
  refine aS ?_
  refine ag ?_
  refine aY ?_
  refine aF aa 1 rfl ?_
  obtain ⟨x1,hx1⟩:=cf (xs:=used) (i:=p) (by first|omega|(simp [dp];omega))
  refine aA (cD (i:=p) rfl rfl rfl Try.underlying30 gF (by first|omega|(simp;omega)|(simp [dp];omega)) (bp hx1)) rfl ?_
  refine ad aa 3 rfl ?_
  refine af ?_
  refine aF aa 3 rfl ?_
  refine aA (bz (i:=p) rfl rfl rfl Try.underlying30 gF (by first|omega|(simp;omega)|(simp [dp];omega)) (by first|omega|(simp;omega)|(simp [dp];omega))) rfl ?_
  obtain ⟨x2,hx2⟩:=cf (xs:=(jf used.length advs)) (i:=p) (by first|omega|(simp [dp];omega))
  have hx2v:=tH hx2
  refine aA (eS rfl rfl rfl Try.underlying3 rfl (bp hx2) rfl) rfl ?_
  refine ad aa 2 rfl ?_
  refine bE (t:=102) rfl (fun hb15=>?_) (fun hb15=>?_)
  ·
   have hb15':=of_decide_eq_true hb15
   refine ad aa 5 rfl ?_
   refine af ?_
   refine aj rfl (fun _=>?_) (fun hno=>by cases hno)
   refine ae aa 1 rfl ?_
   refine az ?_
   refine bc ?_
   refine an ?_
   refine an ?_
   refine bc ?_
   refine an ?_
   refine al aa [] 0 rfl rfl rfl rfl rfl rfl ?_ ?_
   ·(have h:=gH (s:=⟨cap,used,advs⟩) (show ¬(8 < (⟨cap,used,advs⟩:cC).used.length\/20 < (⟨cap,used,advs⟩:cC).bd.length) by simp only;omega) (show gS (⟨cap,used,advs⟩:cC).cap=true by simp only [gS,decide_eq_true_eq];omega) hall);show aI _=aI _;rw [h];show aI _=aI (ff cap advs 0 used);rw [hi1_1,re hx1,ff,if_neg (by omega)]
   ·rfl
  have hb15':=of_decide_eq_false hb15
  refine ad aa 5 rfl ?_
  refine af ?_
  refine aj rfl (fun hc17=>?_) (fun hc17=>?_)
  ·
   have hc17':=of_decide_eq_true hc17
   refine ae aa 1 rfl ?_
   refine az ?_
   refine bc ?_
   refine an ?_
   refine an ?_
   refine bc ?_
   refine an ?_
   refine al aa [] 0 rfl rfl rfl rfl rfl rfl ?_ ?_
   ·(have h:=gH (s:=⟨cap,used,advs⟩) (show ¬(8 < (⟨cap,used,advs⟩:cC).used.length\/20 < (⟨cap,used,advs⟩:cC).bd.length) by simp only;omega) (show gS (⟨cap,used,advs⟩:cC).cap=true by simp only [gS,decide_eq_true_eq];omega) hall);show aI _=aI _;rw [h];show aI _=aI (ff cap advs 0 used);rw [hi1_1,re hx1,ff,if_neg (by omega)]
   ·rfl
  have hc17':=of_decide_eq_false hc17
  refine da ?_
  refine bm ?_
  refine then_ok ?_
  refine ax ?_
  refine aA (aM rfl rfl rfl (aL (by first|omega|(simp;omega)|(simp [dp];omega)))) rfl ?_
  refine ad aa 1 rfl ?_
  refine af ?_
  refine ⟨p+1,⟨by omega,by rw [hi1_1,re hx1,ff,if_pos (by omega),Int.natCast_add];rfl⟩,by first|omega|(simp;done)|(simp;omega),aH.ca id (by refine ⟨?_,?_,?_,?_,?_,?_,?_,?_,trivial⟩<;>first|rfl|(simp only [bu];done)|(congr 3;omega)|(congr 4;omega)|(simp only [bw];rfl)) (by refine ⟨?_,?_,trivial⟩<;>first|rfl|(simp only [bu];done)|(congr 3;omega)|(congr 4;omega)|(simp only [bw];rfl)) rfl⟩
 have hc14':=of_decide_eq_false hc14
 refine cv ?_
 refine aU ?_
 refine aU ?_
 refine bS ?_
 refine then_ok ?_
 refine ae aa 1 rfl ?_
 refine az ?_
 refine al aa [] 0 rfl rfl rfl rfl rfl rfl ?_ ?_
 ·(have h:=gH (s:=⟨cap,used,advs⟩) (show ¬(8 < (⟨cap,used,advs⟩:cC).used.length\/20 < (⟨cap,used,advs⟩:cC).bd.length) by simp only;omega) (show gS (⟨cap,used,advs⟩:cC).cap=true by simp only [gS,decide_eq_true_eq];omega) hall);show aI _=aI _;rw [h];show aI _=aI (ff cap advs 0 used);rw [hi1_1,List.drop_of_length_le (by omega)];rfl
 ·rfl


theorem ji (s:cC) (e:Int) (hr:bU s=e):Fn Try.prog 30 [(.g [cI s.cap,cR 1 (s.used.map rI),cR 4 (s.bd.map iK)])] (.v (.c (cI e))) []:=hr▸uM s.cap s.used s.bd

theorem xn (limit ay:Int) (x:cC) (e:Int) (hr:dL limit ay=(x,e)):Fn Try.prog 41 [(.c (cI limit)),(.c (cI ay))] (.t [(.g [(cI x.cap),(.s 0 0 1 x.used.length),(.s 1 0 4 x.bd.length)]),(.c (cI e))]) [(0,(dM x.used)),(1,(Bv x.bd))]:=by
 refine Fn.mk' 24 [(0,(aI limit)),(1,(aI ay))] Try.func41 rfl rfl rfl rfl ?_
 intro W0 T0
 refine ae aa 2 rfl ?_
 refine ag ?_
 refine cw 11 ((decide (ay < 0))||(decide (ay > 8))) ?_ ?_
 ·
  refine ax ?_
  refine ad aa 3 rfl ?_
  refine bE (t:=8) rfl (fun hb1=>?_) (fun hb1=>?_)
  ·
   have hb1':=of_decide_eq_true hb1
   refine ad aa 3 rfl ?_
   refine af ?_
   exact aH.bD 7 rfl rfl (by first|(simp [hb1];done)|(simp_all;done)|(exfalso;simp_all;done)|(simp_all;omega)) rfl
  have hb1':=of_decide_eq_false hb1
  refine ad aa 3 rfl ?_
  refine af ?_
  exact aH.bD 7 rfl rfl (by first|(simp [hb1];done)|(simp_all;done)|(exfalso;simp_all;done)|(simp_all;omega)) rfl
 refine aj rfl (fun hc2=>?_) (fun hc2=>?_)
 ·
  have hc2':=hc2;try simp only [br,bR] at hc2'
  refine ae aa 3 rfl ?_
  refine az ?_
  refine an ?_
  refine cm 0 1 3 1 rfl rfl rfl ?_
  refine cm 0 2 107 4 rfl rfl rfl ?_
  have hX:dL limit ay=((⟨0,([]:List Int),([]:List ch)⟩:cC),5):=by
    exact uH (by omega)
  rw [hX] at hr;clear hX
  simp only [Prod.mk.injEq] at hr;obtain ⟨rfl,rfl⟩:=hr
  refine al aa [1,2,0] 2 rfl rfl rfl rfl rfl rfl ?_ ?_
  all_goals first|rfl|(simp [aw];done)|(simp [aw];omega)
 have hc2':=hc2;try simp only [br,bR] at hc2'
 refine aS ?_
 refine ag ?_
 refine cw 18 ((decide (limit < 0))||(decide (limit > 1000000))) ?_ ?_
 ·
  refine ax ?_
  refine ad aa 3 rfl ?_
  refine bE (t:=15) rfl (fun hb3=>?_) (fun hb3=>?_)
  ·
   have hb3':=of_decide_eq_true hb3
   refine ad aa 3 rfl ?_
   refine af ?_
   exact aH.bD 7 rfl rfl (by first|(simp [hb3];done)|(simp_all;done)|(exfalso;simp_all;done)|(simp_all;omega)) rfl
  have hb3':=of_decide_eq_false hb3
  refine ad aa 3 rfl ?_
  refine af ?_
  exact aH.bD 7 rfl rfl (by first|(simp [hb3];done)|(simp_all;done)|(exfalso;simp_all;done)|(simp_all;omega)) rfl
 refine aj rfl (fun hc4=>?_) (fun hc4=>?_)
 ·
  have hc4':=hc4;try simp only [br,bR] at hc4'
  refine ae aa 3 rfl ?_
  refine az ?_
  refine an ?_
  refine cm 0 1 3 1 rfl rfl rfl ?_
  refine cm 0 2 107 4 rfl rfl rfl ?_
  have hX:dL limit ay=((⟨0,([]:List Int),([]:List ch)⟩:cC),3):=by
    exact sW (by omega) (by first|omega|(simp_all [br];done)|(simp_all [br];omega))
  rw [hX] at hr;clear hX
  simp only [Prod.mk.injEq] at hr;obtain ⟨rfl,rfl⟩:=hr
  refine al aa [1,2,0] 2 rfl rfl rfl rfl rfl rfl ?_ ?_
  all_goals first|rfl|(simp [aw];done)|(simp [aw];omega)
 have hc4':=hc4;try simp only [br,bR] at hc4'
 refine aS ?_
 refine aF aa 2 rfl ?_
 refine aQ 2 [1,0] (pK 1 nm Dv rfl rfl rfl (n:=Int.toNat (ay)) (by first|omega|(simp;done)|(simp;omega)) (by first|omega|(simp;done)|(simp;omega)) (by first|omega|(simp;done)|(simp;omega)) (by first|omega|(simp;done)|(simp;omega))) rfl ?_
 refine ad aa 3 rfl ?_
 refine af ?_
 refine az ?_
 refine cm 0 2 107 4 rfl rfl rfl ?_
 have hX:dL limit ay=((⟨limit,List.replicate (Int.toNat (ay)) 0,([]:List ch)⟩:cC),0):=by
   unfold dL;rw [if_neg (by omega),if_neg (by simp only [gS,decide_eq_true_eq];first|omega|(simp_all [br];done)|(simp_all [br];omega))]
 rw [hX] at hr;clear hX
 simp only [Prod.mk.injEq] at hr;obtain ⟨rfl,rfl⟩:=hr
 refine al aa [1,2,0] 2 rfl rfl rfl rfl rfl rfl ?_ ?_
 all_goals first|rfl|(simp [aw];done)|(simp [aw];omega)
theorem uN (s:cC) (x:cC) (l:List ch) (e:Int) (hr:cU s=(x,l,e)):Fn Try.prog 90 [(.g [(cI s.cap),(gM s.used),(iq s.bd)])] (.t [(.g [(cI x.cap),(.s 0 0 1 x.used.length),(.s 1 0 4 x.bd.length)]),(.c (.s 2 0 4 l.length)),(.c (cI e))]) [(0,(dM x.used)),(1,(Bv x.bd)),(2,(Bv l))]:=by
 refine Fn.mk' 22 [(0,(aG [(cI s.cap),(gM s.used),(iq s.bd)]))] Try.func90 rfl rfl rfl rfl ?_
 intro W0 T0
 refine fr 0 1 rfl rfl (fun hlen0_1=>?_)
 refine fr 0 2 rfl rfl (fun hlen0_2=>?_)
 have hrp:=@ib s
 refine ae aa 4 rfl ?_
 refine ag ?_
 refine aF aa 1 rfl ?_
 obtain ⟨e0,hr0⟩:∃ (e0:Int),bU s=e0:=⟨_,rfl⟩
 refine aQ 2 [1,0] (cb 2 (ji s e0 hr0) zj rfl rfl ⟨⟨_,rfl,.g ⟨.d _,.d _,.d _,trivial⟩⟩,trivial⟩ trivial trivial rfl rfl rfl rfl) rfl ?_
 refine ad aa 1 rfl ?_
 refine af ?_
 refine ae aa 2 rfl ?_
 refine aj rfl (fun hc1=>?_) (fun hc1=>?_)
 ·
  have hc1':=of_decide_eq_true hc1
  refine ae aa 5 rfl ?_
  refine az ?_
  refine an ?_
  refine cm 1 1 3 1 rfl rfl rfl ?_
  refine cm 1 2 107 4 rfl rfl rfl ?_
  refine cS (aH.nil 3 107 4 (by decide) rfl) ?_
  have hX:cU s=((⟨0,([]:List Int),([]:List ch)⟩:cC),([]:List ch),e0):=by
    unfold cU;rw [if_pos (by omega),hr0];rfl
  rw [hX] at hr;clear hX
  simp only [Prod.mk.injEq] at hr;obtain ⟨rfl,rfl,rfl⟩:=hr
  refine al aa [2,3,4,1] 3 rfl rfl rfl rfl rfl rfl ?_ ?_
  all_goals first|rfl|(simp [aw];done)|(simp [aw];omega)
 have hc1':=of_decide_eq_false hc1
 refine aS ?_
 refine ag ?_
 refine aX [1,2] [1,0] mixed rfl rfl ?_
 refine aD (kn:=[]) aa 4 rfl trivial ?_
 refine aT (n':=2) [15] [] rfl rfl (.inl ⟨(ak.plain rfl),aK.cast (cF rfl rfl rfl rfl rfl Try.underlying30) rfl⟩) rfl ?_
 refine aT (n':=3) [16] [] rfl rfl (.inl ⟨(ak.plain rfl),aK.cast (pK 2 nm Dv rfl rfl rfl (n:=s.used.length) (by first|omega|(simp;done)|(simp;omega)) (by first|omega|(simp;done)|(simp;omega)) (by first|omega|(simp;done)|(simp;omega)) (by first|omega|(simp;done)|(simp;omega))) rfl⟩) rfl ?_
 refine aD (kn:=[]) aa 3 rfl trivial ?_
 refine aT (n':=4) [20] [] rfl rfl (.inl ⟨(ak.plain rfl),aK.cast (cb 3 (nc s.bd (by first|omega|(simp;done)|(simp;omega))) FD rfl rfl ⟨⟨_,rfl,.c (.d _)⟩,trivial⟩ trivial ⟨(fun _ _ _ _=>trivial),trivial⟩ rfl rfl rfl rfl) rfl⟩) rfl ?_
 refine bA [3,2,1,0] rfl rfl rfl rfl (by kernel_rfl) ?_
 refine ad aa 3 rfl ?_
 refine af ?_
 refine az ?_
 refine cm 1 2 107 4 rfl rfl rfl ?_
 have hX:cU s=((⟨s.cap,List.replicate s.used.length 0,([]:List ch)⟩:cC),s.bd,0):=by
   unfold cU;rw [if_neg (by omega)]
 rw [hX] at hr;clear hX
 simp only [Prod.mk.injEq] at hr;obtain ⟨rfl,rfl,rfl⟩:=hr
 refine al aa [2,4,3,1] 3 rfl rfl rfl rfl rfl rfl ?_ ?_
 all_goals first|rfl|(simp [aw];done)|(simp [aw];omega)

theorem wA (s:cC) (a:ch) (x:cC) (e:Int) (hr:ct s a=(x,e)):Fn Try.prog 78 [(.g [(cI s.cap),(gM s.used),(iq s.bd)]),(.g [(cI a.aO),(cI a.aE),(cI a.sum),(cI a.time)])] (.t [(.g [(cI x.cap),(.s 0 0 1 x.used.length),(.s 1 0 4 x.bd.length)]),(.c (cI e))]) [(0,(dM x.used)),(1,(Bv x.bd))]:=by
 refine Fn.mk' 74 [(0,(aG [(cI s.cap),(gM s.used),(iq s.bd)])),(1,(aG [(cI a.aO),(cI a.aE),(cI a.sum),(cI a.time)]))] Try.func78 rfl rfl rfl rfl ?_
 intro W0 T0
 refine fr 0 1 rfl rfl (fun hlen0_1=>?_)
 refine fr 0 2 rfl rfl (fun hlen0_2=>?_)
 have hub:=@rB s
 have hrp:=@ib s
 refine ae aa 4 rfl ?_
 refine ag ?_
 refine aF aa 1 rfl ?_
 obtain ⟨e0,hr0⟩:∃ (e0:Int),bU s=e0:=⟨_,rfl⟩
 refine aQ 3 [2,1,0] (cb 3 (ji s e0 hr0) zj rfl rfl ⟨⟨_,rfl,.g ⟨.d _,.d _,.d _,trivial⟩⟩,trivial⟩ trivial trivial rfl rfl rfl rfl) rfl ?_
 refine ad aa 1 rfl ?_
 refine af ?_
 refine ae aa 2 rfl ?_
 refine aj rfl (fun hc1=>?_) (fun hc1=>?_)
 ·
  have hc1':=of_decide_eq_true hc1
  refine ae aa 4 rfl ?_
  refine az ?_
  refine an ?_
  refine cm 2 1 3 1 rfl rfl rfl ?_
  refine cm 2 2 107 4 rfl rfl rfl ?_
  have hX:ct s a=((⟨0,([]:List Int),([]:List ch)⟩:cC),e0):=by
    rw [yY (by omega),hr0];rfl
  rw [hX] at hr;clear hX
  simp only [Prod.mk.injEq] at hr;obtain ⟨rfl,rfl⟩:=hr
  refine al aa [3,4,2] 2 rfl rfl rfl rfl rfl rfl ?_ ?_
  all_goals first|rfl|(simp [aw];done)|(simp [aw];omega)
 have hc1':=of_decide_eq_false hc1
 refine aS ?_
 refine ag ?_
 refine aF aa 2 rfl ?_
 refine aA (cF rfl rfl rfl rfl rfl Try.underlying39) rfl ?_
 refine ad aa 1 rfl ?_
 refine af ?_
 refine aj rfl (fun hc2=>?_) (fun hc2=>?_)
 ·
  have hc2':=of_decide_eq_true hc2
  refine ae aa 3 rfl ?_
  refine az ?_
  refine an ?_
  refine cm 2 1 3 1 rfl rfl rfl ?_
  refine cm 2 2 107 4 rfl rfl rfl ?_
  have hX:ct s a=((⟨0,([]:List Int),([]:List ch)⟩:cC),5):=by
    exact uj (by omega) (by omega)
  rw [hX] at hr;clear hX
  simp only [Prod.mk.injEq] at hr;obtain ⟨rfl,rfl⟩:=hr
  refine al aa [3,4,2] 2 rfl rfl rfl rfl rfl rfl ?_ ?_
  all_goals first|rfl|(simp [aw];done)|(simp [aw];omega)
 have hc2':=of_decide_eq_false hc2
 refine aS ?_
 refine ag ?_
 refine aX [2,3,4] [2,1,0] mixed rfl rfl ?_
 refine aD (kn:=[]) aa 4 rfl trivial ?_
 refine aT (n':=4) [23] [] rfl rfl (.inl ⟨(ak.plain rfl),aK.cast (cb 3 (qz s.used (by first|omega|(simp;done)|(simp;omega))) FE rfl rfl ⟨⟨_,rfl,.c (.d _)⟩,trivial⟩ trivial ⟨(fun _ _ _ _=>trivial),trivial⟩ rfl rfl rfl rfl) rfl⟩) rfl ?_
 refine aD (kn:=[]) aa 2 rfl trivial ?_
 refine aT (n':=5) [26] [] rfl rfl (.inl ⟨(ak.plain rfl),aK.cast (cb 4 (nc s.bd (by first|omega|(simp;done)|(simp;omega))) FD rfl rfl ⟨⟨_,rfl,.c (.d _)⟩,trivial⟩ trivial ⟨(fun _ _ _ _=>trivial),trivial⟩ rfl rfl rfl rfl) rfl⟩) rfl ?_
 refine aD (kn:=[]) aa 1 rfl trivial ?_
 refine aT (n':=6) [28] [] rfl rfl (.inl ⟨(ak.plain rfl),aK.cast (dV (ys:=[(0,(.g [(cI a.aO),(cI a.aE),(cI a.sum),(cI a.time)]))]) (rows:=([a]).map iK) 5 yC rfl (by decide) ⟨⟨rfl,rfl⟩,trivial⟩ rfl rfl rfl rfl) rfl⟩) rfl ?_
 refine aT (n':=7) [27,29] [5,4] rfl rfl (.inl ⟨(ak.plain rfl),aK.cast (dw (m:=1) (N:=s.bd.length+1) (k2:=6) (ys:=([a]).map iK) yC rfl rfl rfl rfl rfl rfl (by first|omega|(simp;done)|(simp;omega)) rfl (.s rfl (by first|omega|(simp;done)|(simp;omega))) (by first|omega|(simp;done)|(simp;omega)) (by first|omega|(simp;done)|(simp;omega)) fz (by decide) (by first|omega|(simp;done)|(simp;omega)) (by first|omega|(simp;done)|(simp;omega))) rfl⟩) rfl ?_
 refine aD (n':=8) (kn:=[]) aa 2 rfl trivial ?_
 refine bA [7,6,3,2,1,0] rfl rfl rfl rfl (by kernel_rfl) ?_
 refine ad aa 1 rfl ?_
 refine af ?_
 refine ag ?_
 refine cw 52 ((((decide (a.aO>=0)) && (decide (a.aO < (↑s.used.length:Int)))) && (decide (a.sum>=1))) && (decide (a.sum<=1000000))) ?_ ?_
 ·
  refine ax ?_
  refine ad aa 4 rfl ?_
  refine bE (t:=35) rfl (fun hb3=>?_) (fun hb3=>?_)
  ·
   have hb3':=of_decide_eq_true hb3
   refine ad aa 4 rfl ?_
   refine dA (ak.yes rfl rfl rfl) (dz rfl rfl rfl rfl rfl Try.underlying30) rfl rfl ?_
   refine ad aa 3 rfl ?_
   refine bE (t:=43) rfl (fun hb4=>?_) (fun hb4=>?_)
   ·
    have hb4':=of_decide_eq_true hb4
    refine ad aa 5 rfl ?_
    refine bE (t:=48) rfl (fun hb5=>?_) (fun hb5=>?_)
    ·
     have hb5':=of_decide_eq_true hb5
     refine ad aa 4 rfl ?_
     refine af ?_
     exact aH.bD 24 rfl rfl (by first|(simp [hb3,hb4,hb5];done)|(simp_all;done)|(exfalso;simp_all;done)|(simp_all;omega)) rfl
    have hb5':=of_decide_eq_false hb5
    refine ad aa 4 rfl ?_
    refine af ?_
    exact aH.bD 24 rfl rfl (by first|(simp [hb3,hb4,hb5];done)|(simp_all;done)|(exfalso;simp_all;done)|(simp_all;omega)) rfl
   have hb4':=of_decide_eq_false hb4
   refine ad aa 9 rfl ?_
   refine af ?_
   exact aH.bD 23 rfl rfl (by first|(simp [hb3,hb4];done)|(simp_all;done)|(exfalso;simp_all;done)|(simp_all;omega)) rfl
  have hb3':=of_decide_eq_false hb3
  refine ad aa 17 rfl ?_
  refine af ?_
  exact aH.bD 22 rfl rfl (by first|(simp [hb3];done)|(simp_all;done)|(exfalso;simp_all;done)|(simp_all;omega)) rfl
 refine aj rfl (fun hc6=>?_) (fun hc6=>?_)
 ·
  have hc6':=hc6;try simp only [br,bR] at hc6'
  obtain ⟨x1,hx1⟩:=cf (xs:=s.used) (i:=Int.toNat (a.aO)) (by first|omega|(simp;done)|(simp;omega))
  have hx1b:=rB (s:=s) (by omega) hx1
  refine aX [3,4,7] [7,6,3,2,1] mixed rfl rfl ?_
  refine aD (kn:=[]) aa 4 rfl trivial ?_
  refine aT (n':=8) [54,56] [3] rfl rfl (.inl ⟨(ak.plain rfl),aK.cast (bz (i:=Int.toNat (a.aO)) rfl rfl rfl Try.underlying30 gF (by first|omega|(simp;done)|(simp;omega)) (by first|omega|(simp;done)|(simp;omega))) rfl⟩) rfl ?_
  refine aT (n':=8) [57] [3] rfl rfl (.inl ⟨(ak.plain rfl),aK.cast (eS rfl rfl rfl Try.underlying3 rfl (bp hx1) rfl) rfl⟩) rfl ?_
  refine aD (kn:=[]) aa 2 rfl trivial ?_
  refine aT (n':=8) [58,60] [] rfl rfl (.inl ⟨(ak.plain rfl),aK.cast (aM rfl rfl rfl (aL (by first|omega|(simp;done)|(simp;omega)))) rfl⟩) rfl ?_
  refine aT (n':=8) [54,56] [3] rfl rfl (.inl ⟨(ak.plain rfl),aK.cast (bz (i:=Int.toNat (a.aO)) rfl rfl rfl Try.underlying30 gF (by first|omega|(simp;done)|(simp;omega)) (by first|omega|(simp;done)|(simp;omega))) rfl⟩) rfl ?_
  refine bA [7,6,3,2,1] rfl rfl rfl rfl (by kernel_rfl) ?_
  refine gj [7,6,3,2,1] (dR (ds:=[(dI (x1+a.sum))]) rfl rfl rfl rfl rfl gF rfl (Nat.le_of_ble_eq_true rfl) (bp hx1) rfl (eX (x':=x1+a.sum) rfl)) rfl ?_
  refine af ?_
  refine aF aa 1 rfl ?_
  obtain ⟨e1,hr1⟩:∃ (e1:Int),bU (⟨s.cap,(s.used).set (Int.toNat (a.aO)) (x1+a.sum),s.bd++([a])⟩:cC)=e1:=⟨_,rfl⟩
  refine aQ 8 [7,6,3,2,1] (fe 8 [3,6] (ji (⟨s.cap,(s.used).set (Int.toNat (a.aO)) (x1+a.sum),s.bd++([a])⟩:cC) e1 hr1) zj rfl rfl ⟨⟨_,rfl,.g ⟨.d _,.s rfl (by decide) (by first|omega|(simp;done)|(simp;omega)),.s rfl (by decide) (by first|omega|(simp;done)|(simp;omega)),trivial⟩⟩,trivial⟩ rfl trivial rfl rfl rfl rfl) rfl ?_
  refine ad aa 1 rfl ?_
  refine af ?_
  refine ae aa 1 rfl ?_
  refine aY ?_
  refine ae aa 2 rfl ?_
  refine aj rfl (fun hc7=>?_) (fun hc7=>?_)
  ·
   have hc7':=of_decide_eq_true hc7
   refine ae aa 3 rfl ?_
   refine az ?_
   refine bc ?_
   have hX:ct s a=((⟨s.cap,(s.used).set (Int.toNat (a.aO)) (x1+a.sum),s.bd++([a])⟩:cC),0):=by
     have hx:s.used.getD a.aO.toNat 0=x1:=by rw [List.getD_eq_getElem?_getD,hx1];rfl
     have hg:=lK (a:=a) (show bU s=0 by omega) (show s.bd.length < 20 by omega)
     rw [hx,hr1] at hg
     rcases hg with ⟨p1,p2⟩|⟨p1,p2⟩|⟨p1,p2⟩<;>first|(exfalso;omega)|exact p2|(subst p1;exact p2)
   rw [hX] at hr;clear hX
   simp only [Prod.mk.injEq] at hr;obtain ⟨rfl,rfl⟩:=hr
   refine al aa [3,6,2] 2 rfl rfl rfl rfl rfl rfl ?_ ?_
   all_goals first|rfl|(simp [aw];done)|(simp [aw];omega)
  have hc7':=of_decide_eq_false hc7
  refine ae aa 2 rfl ?_
  refine aj rfl (fun hc8=>?_) (fun hc8=>?_)
  ·
   have hc8':=of_decide_eq_true hc8
   refine ae aa 3 rfl ?_
   refine az ?_
   refine bc ?_
   refine cm 2 1 3 1 rfl rfl rfl ?_
   refine cm 2 2 107 4 rfl rfl rfl ?_
   have hX:ct s a=((⟨0,([]:List Int),([]:List ch)⟩:cC),10):=by
     have hx:s.used.getD a.aO.toNat 0=x1:=by rw [List.getD_eq_getElem?_getD,hx1];rfl
     have hg:=lK (a:=a) (show bU s=0 by omega) (show s.bd.length < 20 by omega)
     rw [hx,hr1] at hg
     rcases hg with ⟨p1,p2⟩|⟨p1,p2⟩|⟨p1,p2⟩<;>first|(exfalso;omega)|exact p2|(subst p1;exact p2)
   rw [hX] at hr;clear hX
   simp only [Prod.mk.injEq] at hr;obtain ⟨rfl,rfl⟩:=hr
   refine al aa [8,9,2] 2 rfl rfl rfl rfl rfl rfl ?_ ?_
   all_goals first|rfl|(simp [aw];done)|(simp [aw];omega)
  have hc8':=of_decide_eq_false hc8
  refine ae aa 4 rfl ?_
  refine az ?_
  refine bc ?_
  refine cm 2 1 3 1 rfl rfl rfl ?_
  refine cm 2 2 107 4 rfl rfl rfl ?_
  have hX:ct s a=((⟨0,([]:List Int),([]:List ch)⟩:cC),e1):=by
    have hx:s.used.getD a.aO.toNat 0=x1:=by rw [List.getD_eq_getElem?_getD,hx1];rfl
    have hg:=lK (a:=a) (show bU s=0 by omega) (show s.bd.length < 20 by omega)
    rw [hx,hr1] at hg
    rcases hg with ⟨p1,p2⟩|⟨p1,p2⟩|⟨p1,p2⟩<;>first|(exfalso;omega)|exact p2|(subst p1;exact p2)
  rw [hX] at hr;clear hX
  simp only [Prod.mk.injEq] at hr;obtain ⟨rfl,rfl⟩:=hr
  refine al aa [8,9,2] 2 rfl rfl rfl rfl rfl rfl ?_ ?_
  all_goals first|rfl|(simp [aw];done)|(simp [aw];omega)
 have hc6':=hc6;try simp only [br,bR] at hc6'
 refine aS ?_
 refine aF aa 1 rfl ?_
 obtain ⟨e2,hr2⟩:∃ (e2:Int),bU (⟨s.cap,s.used,s.bd++([a])⟩:cC)=e2:=⟨_,rfl⟩
 refine aQ 8 [7,6,3,2,1,0] (fe 8 [3,6] (ji (⟨s.cap,s.used,s.bd++([a])⟩:cC) e2 hr2) zj rfl rfl ⟨⟨_,rfl,.g ⟨.d _,.s rfl (by decide) (by first|omega|(simp;done)|(simp;omega)),.s rfl (by decide) (by first|omega|(simp;done)|(simp;omega)),trivial⟩⟩,trivial⟩ rfl trivial rfl rfl rfl rfl) rfl ?_
 refine ad aa 1 rfl ?_
 refine af ?_
 refine ae aa 1 rfl ?_
 refine aY ?_
 refine ae aa 2 rfl ?_
 refine aj rfl (fun hc9=>?_) (fun hc9=>?_)
 ·
  have hc9':=of_decide_eq_true hc9
  refine ae aa 3 rfl ?_
  refine az ?_
  refine bc ?_
  have hX:ct s a=((⟨s.cap,s.used,s.bd++([a])⟩:cC),0):=by
    have hg:=qV (a:=a) (show bU s=0 by omega) (show s.bd.length < 20 by omega) (by omega)
    rw [hr2] at hg
    obtain ⟨p1,p2⟩:=hg
    first|(exfalso;omega)|(subst p1;exact p2)
  rw [hX] at hr;clear hX
  simp only [Prod.mk.injEq] at hr;obtain ⟨rfl,rfl⟩:=hr
  refine al aa [3,6,2] 2 rfl rfl rfl rfl rfl rfl ?_ ?_
  all_goals first|rfl|(simp [aw];done)|(simp [aw];omega)
 have hc9':=of_decide_eq_false hc9
 refine ae aa 2 rfl ?_
 refine aj rfl (fun hc10=>?_) (fun hc10=>?_)
 ·
  have hc10':=of_decide_eq_true hc10
  refine ae aa 3 rfl ?_
  refine az ?_
  refine bc ?_
  refine cm 2 1 3 1 rfl rfl rfl ?_
  refine cm 2 2 107 4 rfl rfl rfl ?_
  have hX:ct s a=((⟨0,([]:List Int),([]:List ch)⟩:cC),10):=by
    have hg:=qV (a:=a) (show bU s=0 by omega) (show s.bd.length < 20 by omega) (by omega)
    rw [hr2] at hg
    obtain ⟨p1,p2⟩:=hg
    first|(exfalso;omega)|(subst p1;exact p2)
  rw [hX] at hr;clear hX
  simp only [Prod.mk.injEq] at hr;obtain ⟨rfl,rfl⟩:=hr
  refine al aa [8,9,2] 2 rfl rfl rfl rfl rfl rfl ?_ ?_
  all_goals first|rfl|(simp [aw];done)|(simp [aw];omega)
 have hc10':=of_decide_eq_false hc10
 refine ae aa 4 rfl ?_
 refine az ?_
 refine bc ?_
 refine cm 2 1 3 1 rfl rfl rfl ?_
 refine cm 2 2 107 4 rfl rfl rfl ?_
 have hX:ct s a=((⟨0,([]:List Int),([]:List ch)⟩:cC),e2):=by
   have hg:=qV (a:=a) (show bU s=0 by omega) (show s.bd.length < 20 by omega) (by omega)
   rw [hr2] at hg
   obtain ⟨p1,p2⟩:=hg
   first|(exfalso;omega)|(subst p1;exact p2)
 rw [hX] at hr;clear hX
 simp only [Prod.mk.injEq] at hr;obtain ⟨rfl,rfl⟩:=hr
 refine al aa [8,9,2] 2 rfl rfl rfl rfl rfl rfl ?_ ?_
 all_goals first|rfl|(simp [aw];done)|(simp [aw];omega)


def fo:List Int->Int
  |[]=>0
  |x::l=>if x=0 then fo l else x
def ic (a b:ah):Int:=fo [ez a.aE b.aE,ez a.ba b.ba]
theorem AY {l:List Int} {i:Nat} {x:Int} (hx:l[i]?=some x) (h:x=0):fo (l.drop i)=fo (l.drop (i+1)):=by
  obtain ⟨hi,rfl⟩:=List.getElem?_eq_some_iff.1 hx
  rw [List.drop_eq_getElem_cons hi,fo,if_pos h]
theorem uq {l:List Int} {i:Nat} {x:Int} (hx:l[i]?=some x) (h:¬x=0):fo (l.drop i)=x:=by
  obtain ⟨hi,rfl⟩:=List.getElem?_eq_some_iff.1 hx
  rw [List.drop_eq_getElem_cons hi,fo,if_neg h]
theorem kB {a b:ah}:ic a b < 0↔gQ a b=true:=by
  rw [pH]
  have h1:=rh (a:=a.aE) (b:=b.aE)
  have h2:=pc (a:=a.aE) (b:=b.aE)
  have h3:=rh (a:=a.ba) (b:=b.ba)
  have h4:=pc (a:=a.ba) (b:=b.ba)
  unfold ic fo fo fo
  split
  ·split<;>omega
  ·omega
theorem kC {a b:ah} (h:¬ic a b < 0):gQ a b=false:=by
  cases hb:gQ a b with
  |false=>rfl
  |true=>exact absurd (kB.2 hb) h
theorem cK {l:List (Nat×AV)} {t:Nat} {x y:Int} {ρ:Nat->Nat} (h:look l t=some (aI x)) (e:x=y):look l t=some (AV.map ρ (aI y)):=by subst e;exact h

theorem Iw (l:List Int) (r:Int) (hr:fo l=r):Fn Try.prog 59 [(.c (gM l))] (.v (.c (cI r))) []:=by
 refine Fn.mk' 18 [(0,(aC (gM l)))] Try.func59 rfl rfl rfl rfl ?_
 intro W0 T0
 refine dt 0 rfl (fun hlen0=>?_)
 refine ae aa 1 rfl ?_
 refine ae aa 1 rfl ?_
 refine ag ?_
 refine aF aa 1 rfl ?_
 refine aA (cF rfl rfl rfl rfl rfl Try.underlying30) rfl ?_
 refine ad aa 1 rfl ?_
 refine af ?_
 refine aY ?_
 refine cE (β:=Nat) (fun (i:Nat)=>⟨[(3,(aI 0)),(6,(aC (gM l))),(7,(aI (↑l.length:Int))),(8,(aI (↑i:Int)))],[],0⟩) (fun (i:Nat)=>i<=l.length/\fo (l.drop i)=fo l) (fun (i:Nat)=>l.length - i) 0 ?_ ?_ ?_
 ·exact ⟨by omega,rfl⟩
 ·exact aH.ca id (by refine ⟨?_,?_,?_,?_,trivial⟩<;>first|rfl|(simp only [bu];done)|(congr 3;omega)|(congr 4;omega)|(simp only [bw];rfl)) (trivial) rfl
 rintro i ⟨hi0_0,hi0_1⟩
 refine ae aa 1 rfl ?_
 refine ag ?_
 refine aj rfl (fun hc1=>?_) (fun hc1=>?_)
 ·
  have hc1':=of_decide_eq_true hc1
  refine aS ?_
  refine ag ?_
  refine aY ?_
  refine eR ?_
  obtain ⟨x1,hx1⟩:=cf (xs:=l) (i:=i) (by first|omega|(simp;done)|(simp;omega))
  refine aA (cD (i:=i) rfl rfl rfl Try.underlying30 gF (by first|omega|(simp;done)|(simp;omega)) (bp hx1)) rfl ?_
  refine ad aa 2 rfl ?_
  refine af ?_
  refine ae aa 3 rfl ?_
  refine aj rfl (fun hc2=>?_) (fun hc2=>?_)
  ·
   have hc2':=of_decide_eq_true hc2
   refine ae aa 2 rfl ?_
   refine az ?_
   refine bc ?_
   refine an ?_
   refine an ?_
   refine bc ?_
   refine an ?_
   have hX:fo l=x1:=by
     rw [<-hi0_1];first|exact uq hx1 (by omega)|(rw [List.drop_of_length_le (by omega)];rfl)
   rw [hX] at hr;clear hX
   subst hr
   refine al aa [] 0 rfl rfl rfl rfl rfl rfl ?_ ?_
   all_goals first|rfl|(simp [aw];done)|(simp [aw];omega)
  have hc2':=of_decide_eq_false hc2
  refine da ?_
  refine bm ?_
  refine then_ok ?_
  refine ax ?_
  refine aA (aM rfl rfl rfl (aL (by first|omega|(simp;done)|(simp;omega)))) rfl ?_
  refine ad aa 1 rfl ?_
  refine af ?_
  refine ⟨i+1,⟨by omega,by rw [<-AY hx1 (by omega)];exact hi0_1⟩,by first|omega|(simp;done)|(simp;omega),aH.ca id (by refine ⟨?_,?_,?_,?_,trivial⟩<;>first|rfl|(simp only [bu];done)|(congr 3;omega)|(congr 4;omega)|(simp only [bw];rfl)) (trivial) rfl⟩
 have hc1':=of_decide_eq_false hc1
 refine cv ?_
 refine aU ?_
 refine aU ?_
 refine bS ?_
 refine then_ok ?_
 refine ae aa 2 rfl ?_
 refine az ?_
 have hX:fo l=0:=by
   rw [<-hi0_1];first|exact uq hx1 (by omega)|(rw [List.drop_of_length_le (by omega)];rfl)
 rw [hX] at hr;clear hX
 subst hr
 refine al aa [] 0 rfl rfl rfl rfl rfl rfl ?_ ?_
 all_goals first|rfl|(simp [aw];done)|(simp [aw];omega)
theorem tk (x y:ah):Fn Try.prog 53 [(.g [(cI x.aE),(cI x.ba),(cI x.kind),(cI x.sum)]),(.g [(cI y.aE),(cI y.ba),(cI y.kind),(cI y.sum)])] (aI (ic x y)) []:=by
 refine Fn.mk' 17 [(0,(aG [(cI x.aE),(cI x.ba),(cI x.kind),(cI x.sum)])),(1,(aG [(cI y.aE),(cI y.ba),(cI y.kind),(cI y.sum)]))] Try.func53 rfl rfl rfl rfl ?_
 intro W0 T0
 refine ae aa 3 rfl ?_
 refine ag ?_
 have hr0:ez x.aE y.aE=ez x.aE y.aE:=rfl
 have hr1:ez x.ba y.ba=ez x.ba y.ba:=rfl
 have hr2:fo ([ez x.aE y.aE,ez x.ba y.ba])=fo ([ez x.aE y.aE,ez x.ba y.ba]):=rfl
 refine aX [2,3] [1,0] mixed rfl rfl ?_
 refine aD (kn:=[]) aa 4 rfl trivial ?_
 refine aT (n':=2) [6,8] [] rfl rfl (.inl ⟨(ak.plain rfl),aK.cast (cb 2 (pj x.aE y.aE (ez x.aE y.aE) hr0) CL rfl rfl ⟨⟨_,rfl,.c (.d _)⟩,⟨_,rfl,.c (.d _)⟩,trivial⟩ trivial trivial rfl rfl rfl rfl) rfl⟩) rfl ?_
 refine aD (kn:=[]) aa 4 rfl trivial ?_
 refine aT (n':=2) [11,13] [] rfl rfl (.inl ⟨(ak.plain rfl),aK.cast (cb 2 (pj x.ba y.ba (ez x.ba y.ba) hr1) CL rfl rfl ⟨⟨_,rfl,.c (.d _)⟩,⟨_,rfl,.c (.d _)⟩,trivial⟩ trivial trivial rfl rfl rfl rfl) rfl⟩) rfl ?_
 refine aT (n':=3) [9,14] [] rfl rfl (.inl ⟨(ak.plain rfl),aK.cast (dV (ys:=[(0,(.c (cI (ez x.aE y.aE)))),(1,(.c (cI (ez x.ba y.ba))))]) (rows:=([ez x.aE y.aE,ez x.ba y.ba]).map rI) 2 nm rfl (by decide) ⟨⟨rfl,rfl⟩,⟨rfl,rfl⟩,trivial⟩ rfl rfl rfl rfl) rfl⟩) rfl ?_
 refine aT (n':=3) [15] [2] rfl rfl (.inl ⟨(ak.plain rfl),aK.cast (fe 3 [2] (Iw ([ez x.aE y.aE,ez x.ba y.ba]) (fo ([ez x.aE y.aE,ez x.ba y.ba])) hr2) Ih rfl rfl ⟨⟨_,rfl,.c (.s rfl (by decide) (by first|omega|(simp;done)|(simp;omega)))⟩,trivial⟩ rfl trivial rfl rfl rfl rfl) rfl⟩) rfl ?_
 refine aD (kn:=[]) aa 1 rfl trivial ?_
 refine bA [1,0] rfl rfl rfl rfl (by kernel_rfl) ?_
 refine af ?_
 refine az ?_
 refine al aa [] 0 rfl rfl rfl rfl rfl rfl ?_ ?_
 all_goals first|rfl|(simp [aw];done)|(simp [aw];omega)

theorem xm (d:List ah) (N a b n:Nat) (fn:FuncId) (bg:List (List D)) (hp:∀ x y:ah,Fn Try.prog fn ([.g [cI x.aE,cI x.ba,cI x.kind,cI x.sum],.g [cI y.aE,cI y.ba,cI y.kind,cI y.sum]]++bg.map fun r=>GV.c (.q r 0)) (aI (ic x y)) []) (hen:bl Try.prog fn) (hl:d.length * 32<=140737488355328) (hN:N=d.length) (h0_:a+n<=d.length) (h1_:b+n<=d.length) (r:List ah) (hr:gw a b n d=r):cJ Try.prog 110 [(.c (.s 0 0 4 N)),(.c (cI (↑a:Int))),(.c (cI (↑b:Int))),(.c (cI (↑n:Int))),(.c (.d (.f fn bg)))] [(0,(cM d))] [0] (.t []) [(0,(cM r))]:=by
 refine cJ.mk 38 [(0,(aC (.s 0 0 4 N))),(1,(aI (↑a:Int))),(2,(aI (↑b:Int))),(3,(aI (↑n:Int))),(4,(aC (.d (.f fn bg))))] 1 Try.func110 rfl rfl rfl rfl rfl rfl rfl rfl rfl ?_
 intro W0 F0 T0 pg
 refine gJ 0 rfl (fun hlen0=>?_)
 refine ae aa 1 rfl ?_
 refine aY ?_
 refine cE (β:=Nat×List ah) (fun (p:Nat×List ah)=>match p with|(i,d1)=>⟨[(0,(aC (.s 0 0 4 N))),(1,(aI (↑a:Int))),(2,(aI (↑b:Int))),(3,(aI (↑n:Int))),(10,(aI (↑i:Int)))],[(0,(cM d1))],1⟩) (fun (p:Nat×List ah)=>match p with|(i,d1)=>i<=n/\d1=gw a b i d/\d1.length=d.length) (fun (p:Nat×List ah)=>match p with|(i,d1)=>n - i) (0,d) ?_ ?_ ?_
 ·exact ⟨by omega,rfl,rfl⟩
 ·exact aH.ca id (by refine ⟨?_,?_,?_,?_,?_,trivial⟩<;>first|rfl|(simp only [bu];done)|(congr 3;omega)|(congr 4;omega)|(simp only [bw];rfl)|(exact cK rfl (by omega))) (⟨by first|rfl|(simp only [bu];done)|(congr 3;omega)|(congr 4;omega)|(simp only [bw];rfl),trivial⟩) rfl
 rintro ⟨i,d1⟩ ⟨hi0_0,hi0_1,hi0_2⟩
 refine ag ?_
 refine ae aa 3 rfl ?_
 refine aj rfl (fun hc1=>?_) (fun hc1=>?_)
 ·
  have hc1':=of_decide_eq_true hc1
  refine aS ?_
  refine ag ?_
  refine aY ?_
  obtain ⟨x1,hx1⟩:=cf (xs:=d1) (i:=(b)+(i)) (by first|omega|(simp;done)|(simp;omega))
  obtain ⟨x2,hx2⟩:=cf (xs:=d1) (i:=(a)+(i)) (by first|omega|(simp;done)|(simp;omega))
  obtain ⟨x3,hx3⟩:=cf (xs:=((d1).set ((a)+(i)) x1)) (i:=(b)+(i)) (by first|omega|(simp;done)|(simp;omega))
  refine df [0,1,2,3,10] [0] mixed rfl rfl ?_
  refine bT (kn:=[]) aa 3 rfl trivial ?_
  refine bW (n':=1) [17,18] [] rfl rfl (.inl ⟨(ak.plain rfl),aK.cast (aM rfl rfl rfl (aL (by first|omega|(simp;done)|(simp;omega)))) rfl⟩) rfl ?_
  refine bT (kn:=[]) aa 3 rfl trivial ?_
  refine bW (n':=1) [21,22] [] rfl rfl (.inl ⟨(ak.plain rfl),aK.cast (aM rfl rfl rfl (aL (by first|omega|(simp;done)|(simp;omega)))) rfl⟩) rfl ?_
  refine bT (kn:=[]) aa 3 rfl trivial ?_
  refine bW (n':=1) [25,26] [] rfl rfl (.inl ⟨(ak.plain rfl),aK.cast (aM rfl rfl rfl (aL (by first|omega|(simp;done)|(simp;omega)))) rfl⟩) rfl ?_
  refine bW (n':=1) [24,27] [0] rfl rfl (.inl ⟨(ak.plain rfl),aK.cast (bz (i:=(b)+(i)) rfl rfl rfl Try.underlying42 dn (by first|omega|(simp;done)|(simp;omega)) (by first|omega|(simp;done)|(simp;omega))) rfl⟩) rfl ?_
  refine bW (n':=1) [28] [0] rfl rfl (.inl ⟨(ak.plain rfl),aK.cast (dm rfl rfl rfl Try.underlying83 rfl dn (bp hx1) rfl) rfl⟩) rfl ?_
  refine bT (kn:=[]) aa 3 rfl trivial ?_
  refine bW (n':=1) [31,32] [] rfl rfl (.inl ⟨(ak.plain rfl),aK.cast (aM rfl rfl rfl (aL (by first|omega|(simp;done)|(simp;omega)))) rfl⟩) rfl ?_
  refine bW (n':=1) [30,33] [0] rfl rfl (.inl ⟨(ak.plain rfl),aK.cast (bz (i:=(a)+(i)) rfl rfl rfl Try.underlying42 dn (by first|omega|(simp;done)|(simp;omega)) (by first|omega|(simp;done)|(simp;omega))) rfl⟩) rfl ?_
  refine bW (n':=1) [34] [0] rfl rfl (.inl ⟨(ak.plain rfl),aK.cast (dm rfl rfl rfl Try.underlying83 rfl dn (bp hx2) rfl) rfl⟩) rfl ?_
  refine bW (n':=1) [16,19] [0] rfl rfl (.inl ⟨(ak.plain rfl),aK.cast (bz (i:=(a)+(i)) rfl rfl rfl Try.underlying42 dn (by first|omega|(simp;done)|(simp;omega)) (by first|omega|(simp;done)|(simp;omega))) rfl⟩) rfl ?_
  refine bW (n':=1) [36,29] [0] rfl rfl (.inl ⟨(ak.plain rfl),aK.cast (dR (ds:=[(dI x1.aE),(dI x1.ba),(dI x1.kind),(dI x1.sum)]) rfl rfl rfl rfl rfl dn rfl (Nat.le_of_ble_eq_true rfl) (bp hx2) rfl (eX (x':=x1) rfl)) rfl⟩) rfl ?_
  refine bW (n':=1) [20,23] [0] rfl rfl (.inl ⟨(ak.plain rfl),aK.cast (bz (i:=(b)+(i)) rfl rfl rfl Try.underlying42 dn (by first|omega|(simp;done)|(simp;omega)) (by first|omega|(simp;done)|(simp;omega))) rfl⟩) rfl ?_
  refine bW (n':=1) [37,35] [0] rfl rfl (.inl ⟨(ak.plain rfl),aK.cast (dR (ds:=[(dI x2.aE),(dI x2.ba),(dI x2.kind),(dI x2.sum)]) rfl rfl rfl rfl rfl dn rfl (Nat.le_of_ble_eq_true rfl) (bp hx3) rfl (eX (x':=x2) rfl)) rfl⟩) rfl ?_
  refine dU [0,1,2,3,10] [0] rfl rfl (by kernel_rfl) ?_
  refine bm ?_
  refine then_ok ?_
  refine ax ?_
  refine ad aa 1 rfl ?_
  refine aA (aM rfl rfl rfl (aL (by first|omega|(simp;done)|(simp;omega)))) rfl ?_
  refine ad aa 1 rfl ?_
  refine af ?_
  refine ⟨(i+1,((d1).set ((a)+(i)) x1).set ((b)+(i)) x2),⟨by omega,by rw [gw,<-hi0_1];exact (lT hx2 hx1).symm,by simp only [List.length_set];exact hi0_2⟩,by first|omega|(simp;done)|(simp;omega),aH.ca id (by refine ⟨?_,?_,?_,?_,?_,trivial⟩<;>first|rfl|(simp only [bu];done)|(congr 3;omega)|(congr 4;omega)|(simp only [bw];rfl)|(exact cK rfl (by omega))) (⟨by first|rfl|(simp only [bu];done)|(congr 3;omega)|(congr 4;omega)|(simp only [bw];rfl),trivial⟩) rfl⟩
 have hc1':=of_decide_eq_false hc1
 refine cv ?_
 refine aU ?_
 refine aU ?_
 refine bS ?_
 have hX:gw a b n d=d1:=by
   have:i=n:=by omega
   subst this;exact hi0_1.symm
 rw [hX] at hr;clear hX
 subst hr
 refine cO aa [0] 1 rfl rfl rfl rfl rfl rfl ?_ ?_
 all_goals first|rfl|(simp [aw];done)|(simp [aw];omega)
theorem lY (ai bi ni:Int) (d:List ah) (N a b n:Nat) (fn:FuncId) (bg:List (List D)) (hp:∀ x y:ah,Fn Try.prog fn ([.g [cI x.aE,cI x.ba,cI x.kind,cI x.sum],.g [cI y.aE,cI y.ba,cI y.kind,cI y.sum]]++bg.map fun r=>GV.c (.q r 0)) (aI (ic x y)) []) (hen:bl Try.prog fn) (ea_:ai=(↑a:Int)) (eb_:bi=(↑b:Int)) (en_:ni=(↑n:Int)) (hl:d.length * 32<=140737488355328) (hN:N=d.length) (h0_:a+n<=d.length) (h1_:b+n<=d.length) (r:List ah) (hr:gw a b n d=r):cJ Try.prog 110 [(.c (.s 0 0 4 N)),(.c (cI ai)),(.c (cI bi)),(.c (cI ni)),(.c (.d (.f fn bg)))] [(0,(cM d))] [0] (.t []) [(0,(cM r))]:=by
  subst ea_ eb_ en_
  exact xm d N a b n fn bg hp hen hl hN h0_ h1_ r hr

theorem Db (d:List ah) (N a m b:Nat) (fn:FuncId) (bg:List (List D)) (hp:∀ x y:ah,Fn Try.prog fn ([.g [cI x.aE,cI x.ba,cI x.kind,cI x.sum],.g [cI y.aE,cI y.ba,cI y.kind,cI y.sum]]++bg.map fun r=>GV.c (.q r 0)) (aI (ic x y)) []) (hen:bl Try.prog fn) (hl:d.length * 32<=140737488355328) (hN:N=d.length) (h0_:a < m) (h1_:m < b) (h2_:b<=d.length) (r:List ah) (hr:jm m (m - a) (b - m) d=r):cJ Try.prog 93 [(.c (.s 0 0 4 N)),(.c (cI (↑a:Int))),(.c (cI (↑m:Int))),(.c (cI (↑b:Int))),(.c (.d (.f fn bg)))] [(0,(cM d))] [0] (.t []) [(0,(cM r))]:=by
 refine cJ.mk 58 [(0,(aC (.s 0 0 4 N))),(1,(aI (↑a:Int))),(2,(aI (↑m:Int))),(3,(aI (↑b:Int))),(4,(aC (.d (.f fn bg))))] 1 Try.func93 rfl rfl rfl rfl rfl rfl rfl rfl rfl ?_
 intro W0 F0 T0 pg
 refine gJ 0 rfl (fun hlen0=>?_)
 refine aF aa 2 rfl ?_
 refine aA (aM rfl rfl rfl (aL (by first|omega|(simp;done)|(simp;omega)))) rfl ?_
 refine ad aa 1 rfl ?_
 refine af ?_
 refine aF aa 2 rfl ?_
 refine aA (aM rfl rfl rfl (aL (by first|omega|(simp;done)|(simp;omega)))) rfl ?_
 refine ad aa 1 rfl ?_
 refine af ?_
 refine ag ?_
 refine aY ?_
 refine cE (β:=Nat×Nat×List ah) (fun (p:Nat×Nat×List ah)=>match p with|(i,j,d1)=>⟨[(0,(aC (.s 0 0 4 N))),(2,(aI (↑m:Int))),(4,(aC (.d (.f fn bg)))),(10,(aI (↑i:Int))),(11,(aI (↑j:Int)))],[(0,(cM d1))],1⟩) (fun (p:Nat×Nat×List ah)=>match p with|(i,j,d1)=>0 < i/\0 < j/\i+a<=m/\m+j<=b/\jm m i j d1=jm m (m - a) (b - m) d/\d1.length=d.length) (fun (p:Nat×Nat×List ah)=>match p with|(i,j,d1)=>i+j) (m - a,b - m,d) ?_ ?_ ?_
 ·exact ⟨by omega,by omega,by omega,by omega,rfl,rfl⟩
 ·exact aH.ca id (by refine ⟨?_,?_,?_,?_,?_,trivial⟩<;>first|rfl|(simp only [bu];done)|(congr 3;omega)|(congr 4;omega)|(simp only [bw];rfl)|(exact cK rfl (by omega))) (⟨by first|rfl|(simp only [bu];done)|(congr 3;omega)|(congr 4;omega)|(simp only [bw];rfl),trivial⟩) rfl
 rintro ⟨i,j,d1⟩ ⟨hi0_0,hi0_1,hi0_2,hi0_3,hi0_4,hi0_5⟩
 refine ag ?_
 refine ae aa 3 rfl ?_
 refine aj rfl (fun hc1=>?_) (fun hc1=>?_)
 ·
  have hc1':=of_decide_eq_true hc1
  refine aS ?_
  refine aY ?_
  refine ae aa 3 rfl ?_
  refine aj rfl (fun hc2=>?_) (fun hc2=>?_)
  ·
   have hc2':=of_decide_eq_true hc2
   refine aF aa 3 rfl ?_
   refine aA (aM rfl rfl rfl (aL (by first|omega|(simp;done)|(simp;omega)))) rfl ?_
   refine ad aa 3 rfl ?_
   obtain ⟨r0,hr0⟩:∃ (r0:List ah),gw ((m) - (i)) m j d1=r0:=⟨_,rfl⟩
   have hlr0:r0.length=d1.length:=by rw [<-hr0];exact iV _ _ _ _
   refine aQ 1 [0] (dS id id (lY ((↑m:Int) - (↑i:Int)) (↑m:Int) (↑j:Int) d1 N ((m) - (i)) m j fn bg hp hen (by first|omega|(simp;done)|(simp;omega)) (by first|omega|(simp;done)|(simp;omega)) (by first|omega|(simp;done)|(simp;omega)) (by first|omega|(simp;done)|(simp;omega)) (by first|omega|(simp;done)|(simp;omega)) (by first|omega|(simp;done)|(simp;omega)) (by first|omega|(simp;done)|(simp;omega)) r0 hr0) zm rfl rfl ⟨⟨_,rfl,.inl ⟨rfl,rfl⟩⟩,⟨_,rfl,.inr (.c (.d _))⟩,⟨_,rfl,.inr (.c (.d _))⟩,⟨_,rfl,.inr (.c (.d _))⟩,⟨_,rfl,.inr (.c (.d _))⟩,trivial⟩ ⟨rfl,trivial⟩ rfl rfl ⟨.inr ⟨_,_,_,rfl,by first|(simp;omega)|(simp only [List.length_map];omega)⟩,trivial⟩ rfl rfl rfl trivial ⟨(fun _ _ _ _=>trivial),trivial⟩ rfl rfl rfl rfl) rfl ?_
   refine af ?_
   refine ax ?_
   refine ad aa 2 rfl ?_
   refine aA (aM rfl rfl rfl (aL (by first|omega|(simp;done)|(simp;omega)))) rfl ?_
   refine ad aa 1 rfl ?_
   refine bZ ?_
   refine bm ?_
   refine then_ok ?_
   refine ⟨((i) - (j),j,r0),⟨by omega,by omega,by omega,by omega,by rw [<-hr0,<-Ac (by omega) (by omega)];exact hi0_4,by omega⟩,by first|omega|(simp;done)|(simp;omega),aH.ca id (by refine ⟨?_,?_,?_,?_,?_,trivial⟩<;>first|rfl|(simp only [bu];done)|(congr 3;omega)|(congr 4;omega)|(simp only [bw];rfl)|(exact cK rfl (by omega))) (⟨by first|rfl|(simp only [bu];done)|(congr 3;omega)|(congr 4;omega)|(simp only [bw];rfl),trivial⟩) rfl⟩
  have hc2':=of_decide_eq_false hc2
  refine aF aa 3 rfl ?_
  refine aA (aM rfl rfl rfl (aL (by first|omega|(simp;done)|(simp;omega)))) rfl ?_
  refine ad aa 2 rfl ?_
  refine aA (aM rfl rfl rfl (aL (by first|omega|(simp;done)|(simp;omega)))) rfl ?_
  refine ad aa 1 rfl ?_
  refine aA (aM rfl rfl rfl (aL (by first|omega|(simp;done)|(simp;omega)))) rfl ?_
  refine ad aa 2 rfl ?_
  obtain ⟨r1,hr1⟩:∃ (r1:List ah),gw ((m) - (i)) (((m)+(j)) - (i)) i d1=r1:=⟨_,rfl⟩
  have hlr1:r1.length=d1.length:=by rw [<-hr1];exact iV _ _ _ _
  refine aQ 1 [0] (dS id id (lY ((↑m:Int) - (↑i:Int)) (((↑m:Int)+(↑j:Int)) - (↑i:Int)) (↑i:Int) d1 N ((m) - (i)) (((m)+(j)) - (i)) i fn bg hp hen (by first|omega|(simp;done)|(simp;omega)) (by first|omega|(simp;done)|(simp;omega)) (by first|omega|(simp;done)|(simp;omega)) (by first|omega|(simp;done)|(simp;omega)) (by first|omega|(simp;done)|(simp;omega)) (by first|omega|(simp;done)|(simp;omega)) (by first|omega|(simp;done)|(simp;omega)) r1 hr1) zm rfl rfl ⟨⟨_,rfl,.inl ⟨rfl,rfl⟩⟩,⟨_,rfl,.inr (.c (.d _))⟩,⟨_,rfl,.inr (.c (.d _))⟩,⟨_,rfl,.inr (.c (.d _))⟩,⟨_,rfl,.inr (.c (.d _))⟩,trivial⟩ ⟨rfl,trivial⟩ rfl rfl ⟨.inr ⟨_,_,_,rfl,by first|(simp;omega)|(simp only [List.length_map];omega)⟩,trivial⟩ rfl rfl rfl trivial ⟨(fun _ _ _ _=>trivial),trivial⟩ rfl rfl rfl rfl) rfl ?_
  refine af ?_
  refine ax ?_
  refine ad aa 2 rfl ?_
  refine aA (aM rfl rfl rfl (aL (by first|omega|(simp;done)|(simp;omega)))) rfl ?_
  refine ad aa 1 rfl ?_
  refine bZ ?_
  refine bm ?_
  refine then_ok ?_
  refine ⟨(i,(j) - (i),r1),⟨by omega,by omega,by omega,by omega,by rw [<-hr1,<-Ab (by omega) (by omega)];exact hi0_4,by omega⟩,by first|omega|(simp;done)|(simp;omega),aH.ca id (by refine ⟨?_,?_,?_,?_,?_,trivial⟩<;>first|rfl|(simp only [bu];done)|(congr 3;omega)|(congr 4;omega)|(simp only [bw];rfl)|(exact cK rfl (by omega))) (⟨by first|rfl|(simp only [bu];done)|(congr 3;omega)|(congr 4;omega)|(simp only [bw];rfl),trivial⟩) rfl⟩
 have hc1':=of_decide_eq_false hc1
 refine cv ?_
 refine aU ?_
 refine aU ?_
 refine bS ?_
 refine then_ok ?_
 refine ax ?_
 refine ad aa 3 rfl ?_
 refine aA (aM rfl rfl rfl (aL (by first|omega|(simp;done)|(simp;omega)))) rfl ?_
 refine ad aa 3 rfl ?_
 obtain ⟨r2,hr2⟩:∃ (r2:List ah),gw ((m) - (i)) m i d1=r2:=⟨_,rfl⟩
 have hlr2:r2.length=d1.length:=by rw [<-hr2];exact iV _ _ _ _
 refine aQ 1 [0] (dS id id (lY ((↑m:Int) - (↑i:Int)) (↑m:Int) (↑i:Int) d1 N ((m) - (i)) m i fn bg hp hen (by first|omega|(simp;done)|(simp;omega)) (by first|omega|(simp;done)|(simp;omega)) (by first|omega|(simp;done)|(simp;omega)) (by first|omega|(simp;done)|(simp;omega)) (by first|omega|(simp;done)|(simp;omega)) (by first|omega|(simp;done)|(simp;omega)) (by first|omega|(simp;done)|(simp;omega)) r2 hr2) zm rfl rfl ⟨⟨_,rfl,.inl ⟨rfl,rfl⟩⟩,⟨_,rfl,.inr (.c (.d _))⟩,⟨_,rfl,.inr (.c (.d _))⟩,⟨_,rfl,.inr (.c (.d _))⟩,⟨_,rfl,.inr (.c (.d _))⟩,trivial⟩ ⟨rfl,trivial⟩ rfl rfl ⟨.inr ⟨_,_,_,rfl,by first|(simp;omega)|(simp only [List.length_map];omega)⟩,trivial⟩ rfl rfl rfl trivial ⟨(fun _ _ _ _=>trivial),trivial⟩ rfl rfl rfl rfl) rfl ?_
 refine bZ ?_
 have hX:jm m (m - a) (b - m) d=r2:=by
   have hij:i=j:=by omega
   subst hij;rw [<-hi0_4,Ad (by omega)];exact hr2
 rw [hX] at hr;clear hX
 subst hr
 refine cO aa [0] 1 rfl rfl rfl rfl rfl rfl ?_ ?_
 all_goals first|rfl|(simp [aw];done)|(simp [aw];omega)
theorem uy (ai mi bi:Int) (d:List ah) (N a m b:Nat) (fn:FuncId) (bg:List (List D)) (hp:∀ x y:ah,Fn Try.prog fn ([.g [cI x.aE,cI x.ba,cI x.kind,cI x.sum],.g [cI y.aE,cI y.ba,cI y.kind,cI y.sum]]++bg.map fun r=>GV.c (.q r 0)) (aI (ic x y)) []) (hen:bl Try.prog fn) (ea_:ai=(↑a:Int)) (em_:mi=(↑m:Int)) (eb_:bi=(↑b:Int)) (hl:d.length * 32<=140737488355328) (hN:N=d.length) (h0_:a < m) (h1_:m < b) (h2_:b<=d.length) (r:List ah) (hr:jm m (m - a) (b - m) d=r):cJ Try.prog 93 [(.c (.s 0 0 4 N)),(.c (cI ai)),(.c (cI mi)),(.c (cI bi)),(.c (.d (.f fn bg)))] [(0,(cM d))] [0] (.t []) [(0,(cM r))]:=by
  subst ea_ em_ eb_
  exact Db d N a m b fn bg hp hen hl hN h0_ h1_ h2_ r hr
end Go.Proofs.Ytegepioggeggaaa.Dev
