/- A part of the proof: Auth2, Stand1, Stand2, Stand4, Stand5, Sort1, Sort2, Sort3. No condition. -/
import Derived.Test.YtegepioggeggaaaD08
set_option linter.unusedVariables false
set_option linter.unusedSimpArgs false
set_option maxHeartbeats 1000000
set_option maxRecDepth 100000
namespace Go.Proofs.Ytegepioggeggaaa.Dev
open Go.RowKit

theorem wa (a:bz) (t:Int) (b:bz) (hr:dT a t=b):Fn Try.prog 104 [(.g [(cI a.aK),(cI a.ay),(cI a.sum),(cI a.captured),(cI a.bw),(cI a.bm),(cI a.cP),(cB a.shut)]),(.c (cI t))] (.v (.g [(cI b.aK),(cI b.ay),(cI b.sum),(cI b.captured),(cI b.bw),(cI b.bm),(cI b.cP),(cB b.shut)])) []:=by
 refine Fn.mk' 11 [(0,(aG [(cI a.aK),(cI a.ay),(cI a.sum),(cI a.captured),(cI a.bw),(cI a.bm),(cI a.cP),(cB a.shut)])),(1,(aI t))] Try.func104 rfl rfl rfl rfl ?_
 intro W0 T0
 refine ad aa 2 rfl ?_
 refine af ?_
 refine ad aa 4 rfl ?_
 refine ag rfl (fun hc1=>?_) (fun hc1=>?_)
 ·
  have hc1':=of_decide_eq_true hc1
  refine aw ?_
  refine ab aa 2 rfl ?_
  refine ae ?_
  refine ad aa 2 rfl ?_
  refine aq ?_
  have hX:dT a t=(⟨a.aK,a.ay,a.sum,a.captured,a.bw,a.bm,a.cP,true⟩:bz):=by
    refine vz rfl rfl rfl rfl rfl rfl rfl ?_;by_cases hT:a.cP<=t<;>first|(exfalso;omega)|simp [dT,hT]
  rw [hX] at hr;clear hX
  subst hr
  refine aj aa [1] 0 rfl rfl rfl rfl rfl rfl ?_ ?_
  all_goals first|rfl|(simp [ar];done)|(simp [ar];omega)
 have hc1':=of_decide_eq_false hc1
 refine aN ?_
 refine ad aa 2 rfl ?_
 refine aq ?_
 have hX:dT a t=a:=by
   refine vz rfl rfl rfl rfl rfl rfl rfl ?_;by_cases hT:a.cP<=t<;>first|(exfalso;omega)|simp [dT,hT]
 rw [hX] at hr;clear hX
 subst hr
 refine aj aa [1] 0 rfl rfl rfl rfl rfl rfl ?_ ?_
 all_goals first|rfl|(simp [ar];done)|(simp [ar];omega)
theorem kb (a:bz) (ha:bG a=0) (e:Int) (hr:bJ a=e):Fn Try.prog 27 [(.g [(cI a.aK),(cI a.ay),(cI a.sum),(cI a.captured),(cI a.bw),(cI a.bm),(cI a.cP),(cB a.shut)])] (.v (.c (cI e))) []:=by
 refine Fn.mk' 10 [(0,(aG [(cI a.aK),(cI a.ay),(cI a.sum),(cI a.captured),(cI a.bw),(cI a.bm),(cI a.cP),(cB a.shut)]))] Try.func27 rfl rfl rfl rfl ?_
 intro W0 T0
 have hw:=eI ha
 refine ad aa 2 rfl ?_
 refine af ?_
 refine ad aa 2 rfl ?_
 refine ag rfl (fun hc1=>?_) (fun hc1=>?_)
 ·
  have hc1':=hc1;try simp only [bd,bF] at hc1'
  refine ad aa 1 rfl ?_
  refine aq ?_
  refine an ?_
  have hX:bJ a=0:=by
    (unfold bJ;try dsimp only);(repeat' split)<;>first|rfl|omega|(exfalso;omega)|(subst_vars;rfl)|(simp_all;done)|(simp_all;omega)
  rw [hX] at hr;clear hX
  subst hr
  refine aj aa [] 0 rfl rfl rfl rfl rfl rfl ?_ ?_
  all_goals first|rfl|(simp [ar];done)|(simp [ar];omega)
 have hc1':=hc1;try simp only [bd,bF] at hc1'
 refine aN ?_
 refine az aa 4 rfl ?_
 refine ax (aJ rfl rfl rfl (aE (by first|omega|(simp;done)|(simp;omega)))) rfl ?_
 refine ab aa 1 rfl ?_
 refine ae ?_
 refine aq ?_
 have hX:bJ a=(a.sum - a.captured):=by
   (unfold bJ;try dsimp only);(repeat' split)<;>first|rfl|omega|(exfalso;omega)|(subst_vars;rfl)|(simp_all;done)|(simp_all;omega)
 rw [hX] at hr;clear hX
 subst hr
 refine aj aa [] 0 rfl rfl rfl rfl rfl rfl ?_ ?_
 all_goals first|rfl|(simp [ar];done)|(simp [ar];omega)
theorem pK (a:bz) (h:bG a=0):cz Try.prog 101 [(.c (.p 0 0 0 0))] [(0,(.box 67 [(cI a.aK),(cI a.ay),(cI a.sum),(cI a.captured),(cI a.bw),(cI a.bm),(cI a.cP),(cB a.shut)]))] [0] (aI (a.captured - a.bw - a.bm)) [(0,(.box 67 [(cI a.aK),(cI a.ay),(cI a.sum),(cI a.captured),(cI a.bw),(cI a.bm),(cI a.cP),(cB a.shut)]))]:=by
 refine cz.mk 17 [(0,(aC (.p 0 0 0 0)))] 1 Try.func101 rfl rfl rfl rfl rfl rfl rfl rfl rfl ?_
 intro W0 F0 T0 pg
 have hw:=eI h
 refine ad aa 1 rfl ?_
 refine af ?_
 refine bb [0] [0] mixed rfl rfl ?_
 refine aA (kn:=[]) aa 8 rfl trivial ?_
 refine aS (n':=1) [6,10] [] rfl rfl (.inl ⟨(ah.plain rfl),aH.cast (aJ rfl rfl rfl (aE (by first|omega|(simp;done)|(simp;omega)))) rfl⟩) rfl ?_
 refine aA (kn:=[]) aa 4 rfl trivial ?_
 refine aS (n':=1) [11,15] [] rfl rfl (.inl ⟨(ah.plain rfl),aH.cast (aJ rfl rfl rfl (aE (by first|omega|(simp;done)|(simp;omega)))) rfl⟩) rfl ?_
 refine aA (kn:=[]) aa 1 rfl trivial ?_
 refine bx [0] rfl rfl rfl rfl (by kernel_rfl) ?_
 refine ae ?_
 refine aq ?_
 refine aj aa [0] 1 rfl rfl rfl rfl rfl rfl ?_ ?_
 all_goals first|rfl|(simp [ar];done)|(simp [ar];omega)
theorem vY (a:bz) (kind n:Int) (h:bG a=0) (h1:1<=n) (h2:n<=1000000) (b:bz) (e:Int) (hr:dF a kind n=(b,e)):cz Try.prog 102 [(.c (.p 0 0 0 0)),(.c (cI kind)),(.c (cI n))] [(0,(.box 67 [(cI a.aK),(cI a.ay),(cI a.sum),(cI a.captured),(cI a.bw),(cI a.bm),(cI a.cP),(cB a.shut)]))] [0] (.v (.c (cI e))) [(0,(.box 67 [(cI b.aK),(cI b.ay),(cI b.sum),(cI b.captured),(cI b.bw),(cI b.bm),(cI b.cP),(cB b.shut)]))]:=by
 refine cz.mk 91 [(0,(aC (.p 0 0 0 0))),(1,(aI kind)),(2,(aI n))] 1 Try.func102 rfl rfl rfl rfl rfl rfl rfl rfl rfl ?_
 intro W0 F0 T0 pg
 have hw:=eI h
 refine ad aa 1 rfl ?_
 refine af ?_
 refine bb [0,1,2] [0] mixed rfl rfl ?_
 refine aA (kn:=[]) aa 8 rfl trivial ?_
 refine aS (n':=1) [11,15] [] rfl rfl (.inl ⟨(ah.plain rfl),aH.cast (aJ rfl rfl rfl (aE (by first|omega|(simp;done)|(simp;omega)))) rfl⟩) rfl ?_
 refine aA (kn:=[]) aa 1 rfl trivial ?_
 refine bx [0] rfl rfl rfl rfl (by kernel_rfl) ?_
 refine ae ?_
 refine af ?_
 refine aV ?_
 refine ad aa 5 rfl ?_
 refine ag rfl (fun hc1=>?_) (fun hc1=>?_)
 ·
  have hc1':=hc1;try simp only [bd,bF] at hc1'
  refine ad aa 1 rfl ?_
  refine aq ?_
  refine bg ?_
  refine an ?_
  have hX:dF a kind n=(a,9):=by
    (unfold dF;try dsimp only);(repeat' split)<;>first|rfl|omega|(exfalso;omega)|(subst_vars;rfl)|(simp_all;done)|(simp_all;omega)
  rw [hX] at hr;clear hX
  simp only [Prod.mk.injEq] at hr;obtain ⟨rfl,rfl⟩:=hr
  refine aj aa [0] 1 rfl rfl rfl rfl rfl rfl ?_ ?_
  all_goals first|rfl|(simp [ar];done)|(simp [ar];omega)
 have hc1':=hc1;try simp only [bd,bF] at hc1'
 refine ad aa 3 rfl ?_
 refine ag rfl (fun hc2=>?_) (fun hc2=>?_)
 ·
  have hc2':=of_decide_eq_true hc2
  refine af ?_
  refine az aa 5 rfl ?_
  refine ax (aJ rfl rfl rfl (aE (by first|omega|(simp;done)|(simp;omega)))) rfl ?_
  refine ab aa 1 rfl ?_
  refine ae ?_
  refine ag rfl (fun hc3=>?_) (fun hc3=>?_)
  ·
   have hc3':=of_decide_eq_true hc3
   refine ad aa 1 rfl ?_
   refine aq ?_
   refine an ?_
   refine bg ?_
   refine an ?_
   have hX:dF a kind n=(a,4):=by
     (unfold dF;try dsimp only);(repeat' split)<;>first|rfl|omega|(exfalso;omega)|(subst_vars;rfl)|(simp_all;done)|(simp_all;omega)
   rw [hX] at hr;clear hX
   simp only [Prod.mk.injEq] at hr;obtain ⟨rfl,rfl⟩:=hr
   refine aj aa [0] 1 rfl rfl rfl rfl rfl rfl ?_ ?_
   all_goals first|rfl|(simp [ar];done)|(simp [ar];omega)
  have hc3':=of_decide_eq_false hc3
  refine aN ?_
  refine az aa 5 rfl ?_
  refine ax (aJ rfl rfl rfl (aE (by first|omega|(simp;done)|(simp;omega)))) rfl ?_
  refine ab aa 3 rfl ?_
  refine ae ?_
  refine ad aa 1 rfl ?_
  refine aq ?_
  refine bg ?_
  refine an ?_
  have hX:dF a kind n=((⟨a.aK,a.ay,a.sum+n,a.captured,a.bw,a.bm,a.cP,a.shut⟩:bz),0):=by
    (unfold dF;try dsimp only);(repeat' split)<;>first|rfl|omega|(exfalso;omega)|(subst_vars;rfl)|(simp_all;done)|(simp_all;omega)
  rw [hX] at hr;clear hX
  simp only [Prod.mk.injEq] at hr;obtain ⟨rfl,rfl⟩:=hr
  refine aj aa [0] 1 rfl rfl rfl rfl rfl rfl ?_ ?_
  all_goals first|rfl|(simp [ar];done)|(simp [ar];omega)
 have hc2':=of_decide_eq_false hc2
 refine ad aa 4 rfl ?_
 refine ag rfl (fun hc4=>?_) (fun hc4=>?_)
 ·
  have hc4':=of_decide_eq_true hc4
  refine ad aa 1 rfl ?_
  refine aq ?_
  refine bg ?_
  refine an ?_
  have hX:dF a kind n=(a,10):=by
    (unfold dF;try dsimp only);(repeat' split)<;>first|rfl|omega|(exfalso;omega)|(subst_vars;rfl)|(simp_all;done)|(simp_all;omega)
  rw [hX] at hr;clear hX
  simp only [Prod.mk.injEq] at hr;obtain ⟨rfl,rfl⟩:=hr
  refine aj aa [0] 1 rfl rfl rfl rfl rfl rfl ?_ ?_
  all_goals first|rfl|(simp [ar];done)|(simp [ar];omega)
 have hc4':=of_decide_eq_false hc4
 refine ad aa 3 rfl ?_
 refine ag rfl (fun hc5=>?_) (fun hc5=>?_)
 ·
  have hc5':=of_decide_eq_true hc5
  refine az aa 5 rfl ?_
  refine ax (aJ rfl rfl rfl (aE (by first|omega|(simp;done)|(simp;omega)))) rfl ?_
  refine ab aa 3 rfl ?_
  refine ae ?_
  refine af ?_
  refine bb [0,1,2] [0] mixed rfl rfl ?_
  refine aA (kn:=[]) aa 12 rfl trivial ?_
  refine bx [0] rfl rfl rfl rfl (by kernel_rfl) ?_
  refine ab aa 1 rfl ?_
  refine ae ?_
  refine ad aa 1 rfl ?_
  refine aq ?_
  refine bg ?_
  refine an ?_
  have hX:dF a kind n=((⟨a.aK,a.ay,a.sum - n,a.captured,a.bw,a.bm,a.cP,decide ((a.sum - n)=a.captured)⟩:bz),0):=by
    (unfold dF;try dsimp only);(repeat' split)<;>first|rfl|omega|(exfalso;omega)|(subst_vars;rfl)|(simp_all;done)|(simp_all;omega)
  rw [hX] at hr;clear hX
  simp only [Prod.mk.injEq] at hr;obtain ⟨rfl,rfl⟩:=hr
  refine aj aa [0] 1 rfl rfl rfl rfl rfl rfl ?_ ?_
  all_goals first|rfl|(simp [ar];done)|(simp [ar];omega)
 have hc5':=of_decide_eq_false hc5
 refine cW ?_
 refine bn ?_
 refine then_ok ?_
 refine az aa 5 rfl ?_
 refine ax (aJ rfl rfl rfl (aE (by first|omega|(simp;done)|(simp;omega)))) rfl ?_
 refine ab aa 3 rfl ?_
 refine ae ?_
 refine af ?_
 rcases Bool.eq_false_or_eq_true (decide (kind=3)) with hb6|hb6
 ·
  have hb6':=of_decide_eq_true hb6
  refine bb [0,1] [0] mixed rfl rfl ?_
  refine aA (kn:=[(77,true)]) aa 16 rfl ⟨hb6,trivial⟩ ?_
  refine bx [0] rfl rfl rfl rfl (by kernel_rfl) ?_
  refine ab aa 1 rfl ?_
  refine ae ?_
  refine ad aa 1 rfl ?_
  refine aq ?_
  have hX:dF a kind n=((⟨a.aK,a.ay,a.sum,a.captured+n,a.bw,a.bm,a.cP,true⟩:bz),0):=by
    (unfold dF;try dsimp only);(repeat' split)<;>first|rfl|omega|(exfalso;omega)|(subst_vars;rfl)|(simp_all;done)|(simp_all;omega)
  rw [hX] at hr;clear hX
  simp only [Prod.mk.injEq] at hr;obtain ⟨rfl,rfl⟩:=hr
  refine aj aa [0] 1 rfl rfl rfl rfl rfl rfl ?_ ?_
  all_goals first|rfl|(simp [ar];done)|(simp [ar];omega)
 have hb6':=of_decide_eq_false hb6
 refine bb [0,1] [0] mixed rfl rfl ?_
 refine aA (kn:=[(77,false)]) aa 16 rfl ⟨hb6,trivial⟩ ?_
 refine bx [0] rfl rfl rfl rfl (by kernel_rfl) ?_
 refine ab aa 1 rfl ?_
 refine ae ?_
 refine ad aa 1 rfl ?_
 refine aq ?_
 have hX:dF a kind n=((⟨a.aK,a.ay,a.sum,a.captured+n,a.bw,a.bm,a.cP,decide ((a.captured+n)=a.sum)⟩:bz),0):=by
   (unfold dF;try dsimp only);(repeat' split)<;>first|rfl|omega|(exfalso;omega)|(subst_vars;rfl)|(simp_all;done)|(simp_all;omega)
 rw [hX] at hr;clear hX
 simp only [Prod.mk.injEq] at hr;obtain ⟨rfl,rfl⟩:=hr
 refine aj aa [0] 1 rfl rfl rfl rfl rfl rfl ?_ ?_
 all_goals first|rfl|(simp [ar];done)|(simp [ar];omega)
theorem vZ (a:bz) (kind n:Int) (b:bz) (e:Int) (hr:ck a kind n=(b,e)):Fn Try.prog 81 [(.g [(cI a.aK),(cI a.ay),(cI a.sum),(cI a.captured),(cI a.bw),(cI a.bm),(cI a.cP),(cB a.shut)]),(.c (cI kind)),(.c (cI n))] (.t [(.g [(cI b.aK),(cI b.ay),(cI b.sum),(cI b.captured),(cI b.bw),(cI b.bm),(cI b.cP),(cB b.shut)]),(.c (cI e))]) []:=by
 refine Fn.mk' 76 [(0,(aG [(cI a.aK),(cI a.ay),(cI a.sum),(cI a.captured),(cI a.bw),(cI a.bm),(cI a.cP),(cB a.shut)])),(1,(aI kind)),(2,(aI n))] Try.func81 rfl rfl rfl rfl ?_
 intro W0 T0
 have hw:=@eI a
 refine ad aa 3 rfl ?_
 refine af ?_
 refine az aa 1 rfl ?_
 obtain ⟨e0,hr0⟩:∃ (e0:Int),bG a=e0:=⟨_,rfl⟩
 refine aL 2 [1,0] (bI 2 (oO a e0 hr0) DS rfl rfl ⟨⟨_,rfl,.g ⟨.d _,.d _,.d _,.d _,.d _,.d _,.d _,.d _,trivial⟩⟩,trivial⟩ trivial trivial rfl rfl rfl rfl) rfl ?_
 refine ab aa 1 rfl ?_
 refine ae ?_
 refine ad aa 2 rfl ?_
 refine ag rfl (fun hc1=>?_) (fun hc1=>?_)
 ·
  have hc1':=of_decide_eq_true hc1
  refine ad aa 4 rfl ?_
  refine aq ?_
  refine an ?_
  have hX:ck a kind n=((⟨0,0,0,0,0,0,0,false⟩:bz),e0):=by
    (unfold ck;try dsimp only);(try simp only [hr0]);(repeat' split)<;>first|rfl|omega|(exfalso;omega)|(subst_vars;rfl)|(simp_all;done)|(simp_all;omega)
  rw [hX] at hr;clear hX
  simp only [Prod.mk.injEq] at hr;obtain ⟨rfl,rfl⟩:=hr
  refine aj aa [1] 0 rfl rfl rfl rfl rfl rfl ?_ ?_
  all_goals first|rfl|(simp [ar];done)|(simp [ar];omega)
 have hc1':=of_decide_eq_false hc1
 refine aN ?_
 refine af ?_
 refine cm 21 ((decide (kind < 1))||(decide (kind > 8))) ?_ ?_
 ·
  refine aw ?_
  refine ab aa 3 rfl ?_
  refine bj (t:=18) rfl (fun hb2=>?_) (fun hb2=>?_)
  ·
   have hb2':=of_decide_eq_true hb2
   refine ab aa 3 rfl ?_
   refine ae ?_
   exact aD.bB 7 rfl rfl (by first|(simp [hb2];done)|(simp_all;done)|(exfalso;simp_all;done)|(simp_all;omega)) rfl
  have hb2':=of_decide_eq_false hb2
  refine ab aa 3 rfl ?_
  refine ae ?_
  exact aD.bB 7 rfl rfl (by first|(simp [hb2];done)|(simp_all;done)|(exfalso;simp_all;done)|(simp_all;omega)) rfl
 refine ag rfl (fun hc3=>?_) (fun hc3=>?_)
 ·
  have hc3':=hc3;try simp only [bd,bF] at hc3'
  refine ad aa 3 rfl ?_
  refine aq ?_
  refine an ?_
  have hX:ck a kind n=((⟨0,0,0,0,0,0,0,false⟩:bz),1):=by
    (unfold ck;try dsimp only);(try simp only [hr0]);(repeat' split)<;>first|rfl|omega|(exfalso;omega)|(subst_vars;rfl)|(simp_all;done)|(simp_all;omega)
  rw [hX] at hr;clear hX
  simp only [Prod.mk.injEq] at hr;obtain ⟨rfl,rfl⟩:=hr
  refine aj aa [1] 0 rfl rfl rfl rfl rfl rfl ?_ ?_
  all_goals first|rfl|(simp [ar];done)|(simp [ar];omega)
 have hc3':=hc3;try simp only [bd,bF] at hc3'
 refine aN ?_
 refine af ?_
 refine cm 28 ((decide (n < 1))||(decide (n > 1000000))) ?_ ?_
 ·
  refine aw ?_
  refine ab aa 3 rfl ?_
  refine bj (t:=25) rfl (fun hb4=>?_) (fun hb4=>?_)
  ·
   have hb4':=of_decide_eq_true hb4
   refine ab aa 3 rfl ?_
   refine ae ?_
   exact aD.bB 7 rfl rfl (by first|(simp [hb4];done)|(simp_all;done)|(exfalso;simp_all;done)|(simp_all;omega)) rfl
  have hb4':=of_decide_eq_false hb4
  refine ab aa 3 rfl ?_
  refine ae ?_
  exact aD.bB 7 rfl rfl (by first|(simp [hb4];done)|(simp_all;done)|(exfalso;simp_all;done)|(simp_all;omega)) rfl
 refine ag rfl (fun hc5=>?_) (fun hc5=>?_)
 ·
  have hc5':=hc5;try simp only [bd,bF] at hc5'
  refine ad aa 3 rfl ?_
  refine aq ?_
  refine an ?_
  have hX:ck a kind n=((⟨0,0,0,0,0,0,0,false⟩:bz),3):=by
    (unfold ck;try dsimp only);(try simp only [hr0]);(repeat' split)<;>first|rfl|omega|(exfalso;omega)|(subst_vars;rfl)|(simp_all;done)|(simp_all;omega)
  rw [hX] at hr;clear hX
  simp only [Prod.mk.injEq] at hr;obtain ⟨rfl,rfl⟩:=hr
  refine aj aa [1] 0 rfl rfl rfl rfl rfl rfl ?_ ?_
  all_goals first|rfl|(simp [ar];done)|(simp [ar];omega)
 have hc5':=hc5;try simp only [bd,bF] at hc5'
 refine aN ?_
 refine ad aa 1 rfl ?_
 refine af ?_
 refine ad aa 1 rfl ?_
 refine aV ?_
 refine af ?_
 refine ad aa 2 rfl ?_
 refine ag rfl (fun hc6=>?_) (fun hc6=>?_)
 ·
  have hc6':=of_decide_eq_true hc6
  refine aN ?_
  refine ag rfl (fun _=>?_) (fun hno=>absurd (hc6.symm.trans hno) (by decide))
  refine az aa 1 rfl ?_
  refine aL 2 [0,1] (cA id id (pK a (by first|assumption|omega)) BR rfl rfl ⟨⟨_,rfl,.inl ⟨rfl,rfl⟩⟩,trivial⟩ ⟨rfl,trivial⟩ rfl rfl rfl rfl rfl rfl trivial ⟨⟨trivial,trivial,trivial,trivial,trivial,trivial,trivial,trivial,trivial⟩,trivial⟩ rfl rfl rfl rfl) rfl ?_
  refine ab aa 1 rfl ?_
  refine ae ?_
  refine ag rfl (fun hc8=>?_) (fun hc8=>?_)
  ·
   have hc8':=of_decide_eq_true hc8
   refine aw ?_
   refine ab aa 1 rfl ?_
   refine bX ?_
   refine bn ?_
   refine then_ok ?_
   refine af ?_
   refine az aa 1 rfl ?_
   refine ax (aJ rfl rfl rfl (show _=some (Value.bool true) from rfl)) rfl ?_
   refine ae ?_
   refine ag rfl (fun _=>?_) (fun hno=>by cases hno)
   refine ad aa 4 rfl ?_
   refine aq ?_
   refine an ?_
   have hX:ck a kind n=((⟨0,0,0,0,0,0,0,false⟩:bz),10):=by
     (unfold ck;try dsimp only);(try simp only [hr0]);(repeat' split)<;>first|rfl|omega|(exfalso;omega)|(subst_vars;rfl)|(simp_all;done)|(simp_all;omega)
   rw [hX] at hr;clear hX
   simp only [Prod.mk.injEq] at hr;obtain ⟨rfl,rfl⟩:=hr
   refine aj aa [1] 0 rfl rfl rfl rfl rfl rfl ?_ ?_
   all_goals first|rfl|(simp [ar];done)|(simp [ar];omega)
  have hc8':=of_decide_eq_false hc8
  refine ad aa 2 rfl ?_
  refine ag rfl (fun _=>?_) (fun hno=>absurd (hc6.symm.trans hno) (by decide))
  refine aw ?_
  refine ab aa 3 rfl ?_
  refine ax (aJ rfl rfl rfl (aE (by first|omega|(simp;done)|(simp;omega)))) rfl ?_
  refine ab aa 2 rfl ?_
  refine bX ?_
  refine bn ?_
  refine then_ok ?_
  refine af ?_
  refine az aa 1 rfl ?_
  refine ax (aJ rfl rfl rfl (show _=some (Value.bool false) from rfl)) rfl ?_
  refine ae ?_
  refine ag rfl (fun hno=>by cases hno) (fun _=>?_)
  refine aN ?_
  refine ad aa 3 rfl ?_
  refine aq ?_
  have hX:ck a kind n=((⟨a.aK,a.ay,a.sum,a.captured,a.bw+n,a.bm,a.cP,a.shut⟩:bz),0):=by
    (unfold ck;try dsimp only);(try simp only [hr0]);(repeat' split)<;>first|rfl|omega|(exfalso;omega)|(subst_vars;rfl)|(simp_all;done)|(simp_all;omega)
  rw [hX] at hr;clear hX
  simp only [Prod.mk.injEq] at hr;obtain ⟨rfl,rfl⟩:=hr
  refine aj aa [1] 0 rfl rfl rfl rfl rfl rfl ?_ ?_
  all_goals first|rfl|(simp [ar];done)|(simp [ar];omega)
 have hc6':=of_decide_eq_false hc6
 refine aw ?_
 refine ab aa 2 rfl ?_
 refine ae ?_
 refine ag rfl (fun hc12=>?_) (fun hc12=>?_)
 ·
  have hc12':=of_decide_eq_true hc12
  refine az aa 1 rfl ?_
  refine aL 2 [0,1] (cA id id (pK a (by first|assumption|omega)) BR rfl rfl ⟨⟨_,rfl,.inl ⟨rfl,rfl⟩⟩,trivial⟩ ⟨rfl,trivial⟩ rfl rfl rfl rfl rfl rfl trivial ⟨⟨trivial,trivial,trivial,trivial,trivial,trivial,trivial,trivial,trivial⟩,trivial⟩ rfl rfl rfl rfl) rfl ?_
  refine ab aa 1 rfl ?_
  refine ae ?_
  refine ag rfl (fun hc13=>?_) (fun hc13=>?_)
  ·
   have hc13':=of_decide_eq_true hc13
   refine aw ?_
   refine ab aa 1 rfl ?_
   refine bX ?_
   refine bn ?_
   refine then_ok ?_
   refine af ?_
   refine az aa 1 rfl ?_
   refine ax (aJ rfl rfl rfl (show _=some (Value.bool true) from rfl)) rfl ?_
   refine ae ?_
   refine ag rfl (fun _=>?_) (fun hno=>by cases hno)
   refine ad aa 4 rfl ?_
   refine aq ?_
   refine an ?_
   have hX:ck a kind n=((⟨0,0,0,0,0,0,0,false⟩:bz),10):=by
     (unfold ck;try dsimp only);(try simp only [hr0]);(repeat' split)<;>first|rfl|omega|(exfalso;omega)|(subst_vars;rfl)|(simp_all;done)|(simp_all;omega)
   rw [hX] at hr;clear hX
   simp only [Prod.mk.injEq] at hr;obtain ⟨rfl,rfl⟩:=hr
   refine aj aa [1] 0 rfl rfl rfl rfl rfl rfl ?_ ?_
   all_goals first|rfl|(simp [ar];done)|(simp [ar];omega)
  have hc13':=of_decide_eq_false hc13
  refine ad aa 2 rfl ?_
  refine ag rfl (fun hno=>absurd (hc6.symm.trans hno) (by decide)) (fun _=>?_)
  refine aw ?_
  refine ab aa 3 rfl ?_
  refine ax (aJ rfl rfl rfl (aE (by first|omega|(simp;done)|(simp;omega)))) rfl ?_
  refine ab aa 2 rfl ?_
  refine bX ?_
  refine bn ?_
  refine then_ok ?_
  refine af ?_
  refine az aa 1 rfl ?_
  refine ax (aJ rfl rfl rfl (show _=some (Value.bool false) from rfl)) rfl ?_
  refine ae ?_
  refine ag rfl (fun hno=>by cases hno) (fun _=>?_)
  refine aN ?_
  refine ad aa 3 rfl ?_
  refine aq ?_
  have hX:ck a kind n=((⟨a.aK,a.ay,a.sum,a.captured,a.bw,a.bm+n,a.cP,a.shut⟩:bz),0):=by
    (unfold ck;try dsimp only);(try simp only [hr0]);(repeat' split)<;>first|rfl|omega|(exfalso;omega)|(subst_vars;rfl)|(simp_all;done)|(simp_all;omega)
  rw [hX] at hr;clear hX
  simp only [Prod.mk.injEq] at hr;obtain ⟨rfl,rfl⟩:=hr
  refine aj aa [1] 0 rfl rfl rfl rfl rfl rfl ?_ ?_
  all_goals first|rfl|(simp [ar];done)|(simp [ar];omega)
 have hc12':=of_decide_eq_false hc12
 refine af ?_
 refine ad aa 2 rfl ?_
 refine ag rfl (fun hc17=>?_) (fun hc17=>?_)
 ·
  have hc17':=of_decide_eq_true hc17
  refine aN ?_
  refine ag rfl (fun _=>?_) (fun hno=>absurd (hc17.symm.trans hno) (by decide))
  refine af ?_
  refine ad aa 4 rfl ?_
  refine ag rfl (fun hc19=>?_) (fun hc19=>?_)
  ·
   have hc19':=of_decide_eq_true hc19
   refine ad aa 1 rfl ?_
   refine cp ?_
   refine aP ?_
   refine bP ?_
   refine then_ok ?_
   refine af ?_
   refine az aa 1 rfl ?_
   refine ax (aJ rfl rfl rfl (show _=some (Value.bool true) from rfl)) rfl ?_
   refine ae ?_
   refine ag rfl (fun _=>?_) (fun hno=>by cases hno)
   refine ad aa 4 rfl ?_
   refine aq ?_
   refine an ?_
   have hX:ck a kind n=((⟨0,0,0,0,0,0,0,false⟩:bz),10):=by
     (unfold ck;try dsimp only);(try simp only [hr0]);(repeat' split)<;>first|rfl|omega|(exfalso;omega)|(subst_vars;rfl)|(simp_all;done)|(simp_all;omega)
   rw [hX] at hr;clear hX
   simp only [Prod.mk.injEq] at hr;obtain ⟨rfl,rfl⟩:=hr
   refine aj aa [1] 0 rfl rfl rfl rfl rfl rfl ?_ ?_
   all_goals first|rfl|(simp [ar];done)|(simp [ar];omega)
  have hc19':=of_decide_eq_false hc19
  refine aN ?_
  refine az aa 3 rfl ?_
  refine ax (aJ rfl rfl rfl (aE (by first|omega|(simp;done)|(simp;omega)))) rfl ?_
  refine ab aa 2 rfl ?_
  refine ae ?_
  refine ad aa 2 rfl ?_
  refine ag rfl (fun _=>?_) (fun hno=>absurd (hc17.symm.trans hno) (by decide))
  refine aw ?_
  refine ab aa 3 rfl ?_
  refine ax (aJ rfl rfl rfl (aE (by first|omega|(simp;done)|(simp;omega)))) rfl ?_
  refine ab aa 2 rfl ?_
  refine bX ?_
  refine bn ?_
  refine then_ok ?_
  refine af ?_
  refine az aa 1 rfl ?_
  refine ax (aJ rfl rfl rfl (show _=some (Value.bool false) from rfl)) rfl ?_
  refine ae ?_
  refine ag rfl (fun hno=>by cases hno) (fun _=>?_)
  refine aN ?_
  refine ad aa 3 rfl ?_
  refine aq ?_
  have hX:ck a kind n=((⟨a.aK,a.ay,a.sum,a.captured,a.bw+n,a.bm - n,a.cP,a.shut⟩:bz),0):=by
    (unfold ck;try dsimp only);(try simp only [hr0]);(repeat' split)<;>first|rfl|omega|(exfalso;omega)|(subst_vars;rfl)|(simp_all;done)|(simp_all;omega)
  rw [hX] at hr;clear hX
  simp only [Prod.mk.injEq] at hr;obtain ⟨rfl,rfl⟩:=hr
  refine aj aa [1] 0 rfl rfl rfl rfl rfl rfl ?_ ?_
  all_goals first|rfl|(simp [ar];done)|(simp [ar];omega)
 have hc17':=of_decide_eq_false hc17
 refine aw ?_
 refine ab aa 2 rfl ?_
 refine ae ?_
 refine ag rfl (fun hc23=>?_) (fun hc23=>?_)
 ·
  have hc23':=of_decide_eq_true hc23
  refine af ?_
  refine ad aa 4 rfl ?_
  refine ag rfl (fun hc24=>?_) (fun hc24=>?_)
  ·
   have hc24':=of_decide_eq_true hc24
   refine ad aa 1 rfl ?_
   refine cp ?_
   refine aP ?_
   refine bP ?_
   refine then_ok ?_
   refine af ?_
   refine az aa 1 rfl ?_
   refine ax (aJ rfl rfl rfl (show _=some (Value.bool true) from rfl)) rfl ?_
   refine ae ?_
   refine ag rfl (fun _=>?_) (fun hno=>by cases hno)
   refine ad aa 4 rfl ?_
   refine aq ?_
   refine an ?_
   have hX:ck a kind n=((⟨0,0,0,0,0,0,0,false⟩:bz),10):=by
     (unfold ck;try dsimp only);(try simp only [hr0]);(repeat' split)<;>first|rfl|omega|(exfalso;omega)|(subst_vars;rfl)|(simp_all;done)|(simp_all;omega)
   rw [hX] at hr;clear hX
   simp only [Prod.mk.injEq] at hr;obtain ⟨rfl,rfl⟩:=hr
   refine aj aa [1] 0 rfl rfl rfl rfl rfl rfl ?_ ?_
   all_goals first|rfl|(simp [ar];done)|(simp [ar];omega)
  have hc24':=of_decide_eq_false hc24
  refine aN ?_
  refine az aa 3 rfl ?_
  refine ax (aJ rfl rfl rfl (aE (by first|omega|(simp;done)|(simp;omega)))) rfl ?_
  refine ab aa 2 rfl ?_
  refine ae ?_
  refine ad aa 2 rfl ?_
  refine ag rfl (fun hno=>absurd (hc17.symm.trans hno) (by decide)) (fun _=>?_)
  refine cW ?_
  refine bn ?_
  refine then_ok ?_
  refine af ?_
  refine az aa 1 rfl ?_
  refine ax (aJ rfl rfl rfl (show _=some (Value.bool false) from rfl)) rfl ?_
  refine ae ?_
  refine ag rfl (fun hno=>by cases hno) (fun _=>?_)
  refine aN ?_
  refine ad aa 3 rfl ?_
  refine aq ?_
  have hX:ck a kind n=((⟨a.aK,a.ay,a.sum,a.captured,a.bw,a.bm - n,a.cP,a.shut⟩:bz),0):=by
    (unfold ck;try dsimp only);(try simp only [hr0]);(repeat' split)<;>first|rfl|omega|(exfalso;omega)|(subst_vars;rfl)|(simp_all;done)|(simp_all;omega)
  rw [hX] at hr;clear hX
  simp only [Prod.mk.injEq] at hr;obtain ⟨rfl,rfl⟩:=hr
  refine aj aa [1] 0 rfl rfl rfl rfl rfl rfl ?_ ?_
  all_goals first|rfl|(simp [ar];done)|(simp [ar];omega)
 have hc23':=of_decide_eq_false hc23
 refine aw ?_
 refine ab aa 2 rfl ?_
 obtain ⟨b1,e1,hr1⟩:∃ (b1:bz) (e1:Int),dF a kind n=(b1,e1):=⟨_,_,rfl⟩
 refine aL 2 [0,1] (cA id id (vY a kind n (by first|assumption|omega) (by omega) (by omega) b1 e1 hr1) EY rfl rfl ⟨⟨_,rfl,.inl ⟨rfl,rfl⟩⟩,⟨_,rfl,.inr (.c (.d _))⟩,⟨_,rfl,.inr (.c (.d _))⟩,trivial⟩ ⟨rfl,trivial⟩ rfl rfl rfl rfl rfl rfl trivial ⟨⟨trivial,trivial,trivial,trivial,trivial,trivial,trivial,trivial,trivial⟩,trivial⟩ rfl rfl rfl rfl) rfl ?_
 refine ab aa 1 rfl ?_
 refine bX ?_
 refine bn ?_
 refine then_ok ?_
 refine af ?_
 refine ad aa 2 rfl ?_
 refine ag rfl (fun hc28=>?_) (fun hc28=>?_)
 ·
  have hc28':=of_decide_eq_true hc28
  refine ad aa 4 rfl ?_
  refine aq ?_
  refine an ?_
  have hX:ck a kind n=((⟨0,0,0,0,0,0,0,false⟩:bz),e1):=by
    (unfold ck;try dsimp only);(try simp only [hr0]);(try simp only [hr1]);(repeat' split)<;>first|rfl|omega|(exfalso;omega)|(subst_vars;rfl)|(simp_all;done)|(simp_all;omega)
  rw [hX] at hr;clear hX
  simp only [Prod.mk.injEq] at hr;obtain ⟨rfl,rfl⟩:=hr
  refine aj aa [1] 0 rfl rfl rfl rfl rfl rfl ?_ ?_
  all_goals first|rfl|(simp [ar];done)|(simp [ar];omega)
 have hc28':=of_decide_eq_false hc28
 refine aN ?_
 refine ad aa 3 rfl ?_
 refine aq ?_
 have hX:ck a kind n=(b1,0):=by
   (unfold ck;try dsimp only);(try simp only [hr0]);(try simp only [hr1]);(repeat' split)<;>first|rfl|omega|(exfalso;omega)|(subst_vars;rfl)|(simp_all;done)|(simp_all;omega)
 rw [hX] at hr;clear hX
 simp only [Prod.mk.injEq] at hr;obtain ⟨rfl,rfl⟩:=hr
 refine aj aa [1] 0 rfl rfl rfl rfl rfl rfl ?_ ?_
 all_goals first|rfl|(simp [ar];done)|(simp [ar];omega)

theorem tI (cap:Int) (used:List Int) (advs:List bS):Fn Try.prog 30 [(.g [(cI cap),(fF used),(gH advs)])] (aI (bO ⟨cap,used,advs⟩)) []:=by
 refine Fn.mk' 109 [(0,(aG [(cI cap),(fF used),(gH advs)]))] Try.func30 rfl rfl rfl rfl ?_
 intro W0 T0
 refine fc 0 1 rfl rfl (fun hlen0_1=>?_)
 refine fc 0 2 rfl rfl (fun hlen0_2=>?_)
 refine ad aa 2 rfl ?_
 refine af ?_
 refine cm 17 ((decide ((↑used.length:Int) > 8))||(decide ((↑advs.length:Int) > 20))) ?_ ?_
 ·
  refine aw ?_
  refine ab aa 2 rfl ?_
  refine ax (cT rfl rfl rfl rfl rfl Try.underlying30) rfl ?_
  refine ab aa 2 rfl ?_
  refine bj (t:=12) rfl (fun hb1=>?_) (fun hb1=>?_)
  ·
   have hb1':=of_decide_eq_true hb1
   refine ab aa 5 rfl ?_
   refine ae ?_
   exact aD.bB 11 rfl rfl (by first|(simp [hb1];done)|(simp_all;done)|(exfalso;simp_all;done)|(simp_all;omega)) rfl
  have hb1':=of_decide_eq_false hb1
  refine ab aa 2 rfl ?_
  refine cJ (ah.yes rfl rfl rfl) (cT rfl rfl rfl rfl rfl Try.underlying39) rfl rfl ?_
  refine ab aa 2 rfl ?_
  refine ae ?_
  exact aD.bB 11 rfl rfl (by first|(simp [hb1];done)|(simp_all;done)|(exfalso;simp_all;done)|(simp_all;omega)) rfl
 refine ag rfl (fun hc2=>?_) (fun hc2=>?_)
 ·
  have hc2':=hc2;try simp only [bd,bF] at hc2'
  refine ad aa 1 rfl ?_
  refine aq ?_
  refine an ?_
  refine aj aa [] 0 rfl rfl rfl rfl rfl rfl ?_ ?_
  ·(have h:=nS (s:=⟨cap,used,advs⟩) (show 8 < used.length\/20 < advs.length by omega));show aI _=aI _;rw [h]
  ·rfl
 have hc2':=hc2;try simp only [bd,bF] at hc2'
 refine aN ?_
 refine af ?_
 refine cm 25 ((decide (cap < 0))||(decide (cap > 1000000))) ?_ ?_
 ·
  refine aw ?_
  refine ab aa 4 rfl ?_
  refine bj (t:=21) rfl (fun hb3=>?_) (fun hb3=>?_)
  ·
   have hb3':=of_decide_eq_true hb3
   refine ab aa 4 rfl ?_
   refine ae ?_
   exact aD.bB 9 rfl rfl (by first|(simp [hb3];done)|(simp_all;done)|(exfalso;simp_all;done)|(simp_all;omega)) rfl
  have hb3':=of_decide_eq_false hb3
  refine ab aa 4 rfl ?_
  refine ae ?_
  exact aD.bB 9 rfl rfl (by first|(simp [hb3];done)|(simp_all;done)|(exfalso;simp_all;done)|(simp_all;omega)) rfl
 refine ag rfl (fun hc4=>?_) (fun hc4=>?_)
 ·
  have hc4':=hc4;try simp only [bd,bF] at hc4'
  refine ad aa 1 rfl ?_
  refine aq ?_
  refine an ?_
  refine aj aa [] 0 rfl rfl rfl rfl rfl rfl ?_ ?_
  ·(have h:=mv (s:=⟨cap,used,advs⟩) (show ¬(8 < (⟨cap,used,advs⟩:cr).used.length\/20 < (⟨cap,used,advs⟩:cr).aU.length) by simp only;omega) (show fZ cap=false by simp only [fZ,decide_eq_false_iff_not];omega));show aI _=aI _;rw [h]
  ·rfl
 have hc4':=hc4;try simp only [bd,bF] at hc4'
 refine aN ?_
 refine az aa 2 rfl ?_
 refine ax (cT rfl rfl rfl rfl rfl Try.underlying30) rfl ?_
 refine aL 2 [1,0] (pc 1 mf BC rfl rfl rfl (n:=used.length) (by first|omega|(simp;omega)|(simp [de];omega)) (by first|omega|(simp;omega)|(simp [de];omega)) (by first|omega|(simp;omega)|(simp [de];omega)) (by first|omega|(simp;omega)|(simp [de];omega))) rfl ?_
 refine ab aa 1 rfl ?_
 refine ae ?_
 refine af ?_
 refine az aa 2 rfl ?_
 refine ax (cT rfl rfl rfl rfl rfl Try.underlying39) rfl ?_
 refine ab aa 1 rfl ?_
 refine ae ?_
 refine aV ?_
 refine cu (β:=Nat) (fun (q:Nat)=>⟨[(1,(aC (.p 0 0 0 0))),(3,(aC (.s 1 0 1 used.length))),(31,(aC (gH advs))),(32,(aI (↑advs.length:Int))),(33,(aI (↑q:Int)))],[(1,(dx (iz used.length (advs.take q)))),(0,(.box 41 [(cI cap),(fF used),(gH advs)]))],2⟩) (fun (q:Nat)=>q<=advs.length/\(advs.take q).all (fH used.length)=true) (fun (q:Nat)=>advs.length - q) 0 ?_ ?_ ?_
 ·exact ⟨by omega,by simp⟩
 ·exact aD.bZ id (by refine ⟨?_,?_,?_,?_,?_,trivial⟩<;>first|rfl|(simp only [bq];done)|(congr 3;omega)|(congr 4;omega)|(simp only [br];rfl)) (by refine ⟨?_,?_,trivial⟩<;>first|rfl|(simp only [bq];done)|(congr 3;omega)|(congr 4;omega)|(simp only [br];rfl)|((rw [List.take_zero,<-yr];rfl))) rfl
 rintro q ⟨hi0_0,hi0_1⟩
 refine ad aa 1 rfl ?_
 refine af ?_
 refine ag rfl (fun hc5=>?_) (fun hc5=>?_)
 ·
  have hc5':=of_decide_eq_true hc5
  refine aN ?_
  refine af ?_
  refine aV ?_
  refine eM ?_
  obtain ⟨x1,hx1⟩:=bY (xs:=advs) (i:=q) (by first|omega|(simp [de];omega))
  refine ax (cf (i:=q) rfl rfl rfl Try.underlying39 BG (by first|omega|(simp;omega)|(simp [de];omega)) (bf hx1)) rfl ?_
  refine ab aa 3 rfl ?_
  refine ae ?_
  refine af ?_
  refine cm 77 ((((((((decide (x1.aK < 0))||(decide (x1.aK>=(↑used.length:Int))))||(decide (x1.ay < 0)))||(decide (x1.ay>=8)))||(decide (x1.sum < 1)))||(decide (x1.sum > 1000000)))||(decide (x1.time < 0)))||(decide (x1.time > 1000000))) ?_ ?_
  ·
   refine aw ?_
   refine ab aa 4 rfl ?_
   refine bj (t:=40) rfl (fun hb6=>?_) (fun hb6=>?_)
   ·
    have hb6':=of_decide_eq_true hb6
    refine ab aa 37 rfl ?_
    refine ae ?_
    exact aD.bB 42 rfl rfl (by first|(simp [hb6];done)|(simp_all;done)|(exfalso;simp_all;done)|(simp_all;omega)) rfl
   have hb6':=of_decide_eq_false hb6
   refine ab aa 4 rfl ?_
   refine cJ (ah.yes rfl rfl rfl) (cT rfl rfl rfl rfl rfl Try.underlying30) rfl rfl ?_
   refine ab aa 3 rfl ?_
   refine bj (t:=48) rfl (fun hb7=>?_) (fun hb7=>?_)
   ·
    have hb7':=of_decide_eq_true hb7
    refine ab aa 29 rfl ?_
    refine ae ?_
    exact aD.bB 43 rfl rfl (by first|(simp [hb6,hb7];done)|(simp_all;done)|(exfalso;simp_all;done)|(simp_all;omega)) rfl
   have hb7':=of_decide_eq_false hb7
   refine ab aa 5 rfl ?_
   refine bj (t:=53) rfl (fun hb8=>?_) (fun hb8=>?_)
   ·
    have hb8':=of_decide_eq_true hb8
    refine ab aa 24 rfl ?_
    refine ae ?_
    exact aD.bB 44 rfl rfl (by first|(simp [hb6,hb7,hb8];done)|(simp_all;done)|(exfalso;simp_all;done)|(simp_all;omega)) rfl
   have hb8':=of_decide_eq_false hb8
   refine ab aa 5 rfl ?_
   refine bj (t:=58) rfl (fun hb9=>?_) (fun hb9=>?_)
   ·
    have hb9':=of_decide_eq_true hb9
    refine ab aa 19 rfl ?_
    refine ae ?_
    exact aD.bB 45 rfl rfl (by first|(simp [hb6,hb7,hb8,hb9];done)|(simp_all;done)|(exfalso;simp_all;done)|(simp_all;omega)) rfl
   have hb9':=of_decide_eq_false hb9
   refine ab aa 5 rfl ?_
   refine bj (t:=63) rfl (fun hb10=>?_) (fun hb10=>?_)
   ·
    have hb10':=of_decide_eq_true hb10
    refine ab aa 14 rfl ?_
    refine ae ?_
    exact aD.bB 46 rfl rfl (by first|(simp [hb6,hb7,hb8,hb9,hb10];done)|(simp_all;done)|(exfalso;simp_all;done)|(simp_all;omega)) rfl
   have hb10':=of_decide_eq_false hb10
   refine ab aa 5 rfl ?_
   refine bj (t:=68) rfl (fun hb11=>?_) (fun hb11=>?_)
   ·
    have hb11':=of_decide_eq_true hb11
    refine ab aa 9 rfl ?_
    refine ae ?_
    exact aD.bB 47 rfl rfl (by first|(simp [hb6,hb7,hb8,hb9,hb10,hb11];done)|(simp_all;done)|(exfalso;simp_all;done)|(simp_all;omega)) rfl
   have hb11':=of_decide_eq_false hb11
   refine ab aa 5 rfl ?_
   refine bj (t:=73) rfl (fun hb12=>?_) (fun hb12=>?_)
   ·
    have hb12':=of_decide_eq_true hb12
    refine ab aa 4 rfl ?_
    refine ae ?_
    exact aD.bB 48 rfl rfl (by first|(simp [hb6,hb7,hb8,hb9,hb10,hb11,hb12];done)|(simp_all;done)|(exfalso;simp_all;done)|(simp_all;omega)) rfl
   have hb12':=of_decide_eq_false hb12
   refine ab aa 4 rfl ?_
   refine ae ?_
   exact aD.bB 48 rfl rfl (by first|(simp [hb6,hb7,hb8,hb9,hb10,hb11,hb12];done)|(simp_all;done)|(exfalso;simp_all;done)|(simp_all;omega)) rfl
  refine ag rfl (fun hc13=>?_) (fun hc13=>?_)
  ·
   have hc13':=hc13;try simp only [bd,bF] at hc13'
   refine ad aa 1 rfl ?_
   refine aq ?_
   refine an ?_
   refine bg ?_
   refine an ?_
   refine an ?_
   refine bg ?_
   refine an ?_
   refine aj aa [] 0 rfl rfl rfl rfl rfl rfl ?_ ?_
   ·(have h:=jG (s:=⟨cap,used,advs⟩) (show ¬(8 < (⟨cap,used,advs⟩:cr).used.length\/20 < (⟨cap,used,advs⟩:cr).aU.length) by simp only;omega) (show fZ (⟨cap,used,advs⟩:cr).cap=true by simp only [fZ,decide_eq_true_eq];omega) (Ei hx1 (by simp only [fH,decide_eq_false_iff_not];omega)));show aI _=aI _;rw [h]
   ·rfl
  have hc13':=hc13;try simp only [bd,bF] at hc13'
  refine aN ?_
  obtain ⟨x2,hx2⟩:=bY (xs:=(iz used.length (advs.take q))) (i:=Int.toNat (x1.aK)) (by first|omega|(simp [de];omega))
  have hx2v:=sE hx2
  have hgb:=pG used.length (x1.aK) (advs.take q) hi0_1
  have hgl:(advs.take q).length<=q:=List.length_take_le _ _
  rw [Int.toNat_of_nonneg (by omega)] at hx2v
  refine bb [1,3,31,32,33,5] [2,1,0] mixed rfl rfl ?_
  refine aA (kn:=[]) aa 3 rfl trivial ?_
  refine aS (n':=3) [78,80] [1] rfl rfl (.inl ⟨(ah.plain rfl),aH.cast (bo (i:=Int.toNat (x1.aK)) rfl rfl rfl Try.underlying30 fT (by first|omega|(simp;omega)|(simp [de];omega)) (by first|omega|(simp;omega)|(simp [de];omega))) rfl⟩) rfl ?_
  refine aS (n':=3) [81] [1] rfl rfl (.inl ⟨(ah.plain rfl),aH.cast (eD rfl rfl rfl Try.underlying3 rfl (bf hx2) rfl) rfl⟩) rfl ?_
  refine aA (kn:=[]) aa 2 rfl trivial ?_
  refine aS (n':=3) [82,84] [] rfl rfl (.inl ⟨(ah.plain rfl),aH.cast (aJ rfl rfl rfl (aE (by first|omega|(simp;omega)|(simp [de];omega)))) rfl⟩) rfl ?_
  refine aS (n':=3) [78,80] [1] rfl rfl (.inl ⟨(ah.plain rfl),aH.cast (bo (i:=Int.toNat (x1.aK)) rfl rfl rfl Try.underlying30 fT (by first|omega|(simp;omega)|(simp [de];omega)) (by first|omega|(simp;omega)|(simp [de];omega))) rfl⟩) rfl ?_
  refine bx [2,1,0] rfl rfl rfl rfl (by kernel_rfl) ?_
  refine gb [2,1,0] (dG (ds:=[(dI (x2+x1.sum))]) rfl rfl rfl rfl rfl fT rfl (Nat.le_of_ble_eq_true rfl) (bf hx2) rfl (eG (x':=x2+x1.sum) rfl)) rfl ?_
  refine bX ?_
  refine bn ?_
  refine then_ok ?_
  refine aw ?_
  refine ax (aJ rfl rfl rfl (aE (by first|omega|(simp;omega)|(simp [de];omega)))) rfl ?_
  refine ab aa 1 rfl ?_
  refine ae ?_
  refine ⟨q+1,⟨by omega,wX hi0_1 hx1 (by simp only [fH,decide_eq_true_eq];omega)⟩,by first|omega|(simp;done)|(simp;omega),aD.bZ id (by refine ⟨?_,?_,?_,?_,?_,trivial⟩<;>first|rfl|(simp only [bq];done)|(congr 3;omega)|(congr 4;omega)|(simp only [br];rfl)) (by refine ⟨?_,?_,trivial⟩<;>first|rfl|(simp only [bq];done)|(congr 3;omega)|(congr 4;omega)|(simp only [br];rfl)|((rw [im hx1,<-yq (i:=Int.toNat x1.aK) (v:=x2+x1.sum) (by omega) (by omega) (by rw [hx2v])];rfl))) rfl⟩
 have hc5':=of_decide_eq_false hc5
 refine cp ?_
 refine aP ?_
 refine aP ?_
 refine bP ?_
 refine then_ok ?_
 refine af ?_
 refine az aa 2 rfl ?_
 refine ax (cT rfl rfl rfl rfl rfl Try.underlying30) rfl ?_
 refine ab aa 1 rfl ?_
 refine ae ?_
 refine aV ?_
 have hta:advs.take q=advs:=List.take_of_length_le (by omega)
 have hall:advs.all (fH used.length)=true:=by rw [<-hta];exact hi0_1
 rw [hta]
 refine cu (β:=Nat) (fun (p:Nat)=>⟨[(1,(aC (.p 0 0 0 0))),(3,(aC (.s 1 0 1 used.length))),(31,(aC (gH advs))),(32,(aI (↑advs.length:Int))),(33,(aI (↑q:Int))),(89,(aC (fF used))),(90,(aI (↑used.length:Int))),(91,(aI (↑p:Int)))],[(1,(dx (iz used.length advs))),(0,(.box 41 [(cI cap),(fF used),(gH advs)]))],2⟩) (fun (p:Nat)=>p<=used.length/\eK cap advs 0 used=eK cap advs p (used.drop p)) (fun (p:Nat)=>used.length - p) 0 ?_ ?_ ?_
 ·exact ⟨by omega,rfl⟩
 ·exact aD.bZ id (by refine ⟨?_,?_,?_,?_,?_,?_,?_,?_,trivial⟩<;>first|rfl|(simp only [bq];done)|(congr 3;omega)|(congr 4;omega)|(simp only [br];rfl)) (by refine ⟨?_,?_,trivial⟩<;>first|rfl|(simp only [bq];done)|(congr 3;omega)|(congr 4;omega)|(simp only [br];rfl)) rfl
 rintro p ⟨hi1_0,hi1_1⟩
 refine ad aa 1 rfl ?_
 refine af ?_
 refine ag rfl (fun hc14=>?_) (fun hc14=>?_)
 ·
  have hc14':=of_decide_eq_true hc14
  refine aN ?_
  refine af ?_
  refine aV ?_
  refine az aa 1 rfl ?_
  obtain ⟨x1,hx1⟩:=bY (xs:=used) (i:=p) (by first|omega|(simp [de];omega))
  refine ax (cf (i:=p) rfl rfl rfl Try.underlying30 fT (by first|omega|(simp;omega)|(simp [de];omega)) (bf hx1)) rfl ?_
  refine ab aa 3 rfl ?_
  refine ae ?_
  refine az aa 3 rfl ?_
  refine ax (bo (i:=p) rfl rfl rfl Try.underlying30 fT (by first|omega|(simp;omega)|(simp [de];omega)) (by first|omega|(simp;omega)|(simp [de];omega))) rfl ?_
  obtain ⟨x2,hx2⟩:=bY (xs:=(iz used.length advs)) (i:=p) (by first|omega|(simp [de];omega))
  have hx2v:=sE hx2
  refine ax (eD rfl rfl rfl Try.underlying3 rfl (bf hx2) rfl) rfl ?_
  refine ab aa 2 rfl ?_
  refine bj (t:=102) rfl (fun hb15=>?_) (fun hb15=>?_)
  ·
   have hb15':=of_decide_eq_true hb15
   refine ab aa 5 rfl ?_
   refine ae ?_
   refine ag rfl (fun _=>?_) (fun hno=>by cases hno)
   refine ad aa 1 rfl ?_
   refine aq ?_
   refine bg ?_
   refine an ?_
   refine an ?_
   refine bg ?_
   refine an ?_
   refine aj aa [] 0 rfl rfl rfl rfl rfl rfl ?_ ?_
   ·(have h:=gi (s:=⟨cap,used,advs⟩) (show ¬(8 < (⟨cap,used,advs⟩:cr).used.length\/20 < (⟨cap,used,advs⟩:cr).aU.length) by simp only;omega) (show fZ (⟨cap,used,advs⟩:cr).cap=true by simp only [fZ,decide_eq_true_eq];omega) hall);show aI _=aI _;rw [h];show aI _=aI (eK cap advs 0 used);rw [hi1_1,qo hx1,eK,if_neg (by omega)]
   ·rfl
  have hb15':=of_decide_eq_false hb15
  refine ab aa 5 rfl ?_
  refine ae ?_
  refine ag rfl (fun hc17=>?_) (fun hc17=>?_)
  ·
   have hc17':=of_decide_eq_true hc17
   refine ad aa 1 rfl ?_
   refine aq ?_
   refine bg ?_
   refine an ?_
   refine an ?_
   refine bg ?_
   refine an ?_
   refine aj aa [] 0 rfl rfl rfl rfl rfl rfl ?_ ?_
   ·(have h:=gi (s:=⟨cap,used,advs⟩) (show ¬(8 < (⟨cap,used,advs⟩:cr).used.length\/20 < (⟨cap,used,advs⟩:cr).aU.length) by simp only;omega) (show fZ (⟨cap,used,advs⟩:cr).cap=true by simp only [fZ,decide_eq_true_eq];omega) hall);show aI _=aI _;rw [h];show aI _=aI (eK cap advs 0 used);rw [hi1_1,qo hx1,eK,if_neg (by omega)]
   ·rfl
  have hc17':=of_decide_eq_false hc17
  refine cW ?_
  refine bn ?_
  refine then_ok ?_
  refine aw ?_
  refine ax (aJ rfl rfl rfl (aE (by first|omega|(simp;omega)|(simp [de];omega)))) rfl ?_
  refine ab aa 1 rfl ?_
  refine ae ?_
  refine ⟨p+1,⟨by omega,by rw [hi1_1,qo hx1,eK,if_pos (by omega),Int.natCast_add];rfl⟩,by first|omega|(simp;done)|(simp;omega),aD.bZ id (by refine ⟨?_,?_,?_,?_,?_,?_,?_,?_,trivial⟩<;>first|rfl|(simp only [bq];done)|(congr 3;omega)|(congr 4;omega)|(simp only [br];rfl)) (by refine ⟨?_,?_,trivial⟩<;>first|rfl|(simp only [bq];done)|(congr 3;omega)|(congr 4;omega)|(simp only [br];rfl)) rfl⟩
 have hc14':=of_decide_eq_false hc14
 refine cp ?_
 refine aP ?_
 refine aP ?_
 refine bP ?_
 refine then_ok ?_
 refine ad aa 1 rfl ?_
 refine aq ?_
 refine aj aa [] 0 rfl rfl rfl rfl rfl rfl ?_ ?_
 ·(have h:=gi (s:=⟨cap,used,advs⟩) (show ¬(8 < (⟨cap,used,advs⟩:cr).used.length\/20 < (⟨cap,used,advs⟩:cr).aU.length) by simp only;omega) (show fZ (⟨cap,used,advs⟩:cr).cap=true by simp only [fZ,decide_eq_true_eq];omega) hall);show aI _=aI _;rw [h];show aI _=aI (eK cap advs 0 used);rw [hi1_1,List.drop_of_length_le (by omega)];rfl
 ·rfl


theorem iE (s:cr) (e:Int) (hr:bO s=e):Fn Try.prog 30 [(.g [cI s.cap,cR 1 (s.used.map rI),cR 4 (s.aU.map hP)])] (.v (.c (cI e))) []:=hr▸tI s.cap s.used s.aU

theorem vR (bA ao:Int) (x:cr) (e:Int) (hr:dq bA ao=(x,e)):Fn Try.prog 41 [(.c (cI bA)),(.c (cI ao))] (.t [(.g [(cI x.cap),(.s 0 0 1 x.used.length),(.s 1 0 4 x.aU.length)]),(.c (cI e))]) [(0,(dx x.used)),(1,(zO x.aU))]:=by
 refine Fn.mk' 24 [(0,(aI bA)),(1,(aI ao))] Try.func41 rfl rfl rfl rfl ?_
 intro W0 T0
 refine ad aa 2 rfl ?_
 refine af ?_
 refine cm 11 ((decide (ao < 0))||(decide (ao > 8))) ?_ ?_
 ·
  refine aw ?_
  refine ab aa 3 rfl ?_
  refine bj (t:=8) rfl (fun hb1=>?_) (fun hb1=>?_)
  ·
   have hb1':=of_decide_eq_true hb1
   refine ab aa 3 rfl ?_
   refine ae ?_
   exact aD.bB 7 rfl rfl (by first|(simp [hb1];done)|(simp_all;done)|(exfalso;simp_all;done)|(simp_all;omega)) rfl
  have hb1':=of_decide_eq_false hb1
  refine ab aa 3 rfl ?_
  refine ae ?_
  exact aD.bB 7 rfl rfl (by first|(simp [hb1];done)|(simp_all;done)|(exfalso;simp_all;done)|(simp_all;omega)) rfl
 refine ag rfl (fun hc2=>?_) (fun hc2=>?_)
 ·
  have hc2':=hc2;try simp only [bd,bF] at hc2'
  refine ad aa 3 rfl ?_
  refine aq ?_
  refine an ?_
  refine cb 0 1 3 1 rfl rfl rfl ?_
  refine cb 0 2 107 4 rfl rfl rfl ?_
  have hX:dq bA ao=((⟨0,([]:List Int),([]:List bS)⟩:cr),5):=by
    exact tD (by omega)
  rw [hX] at hr;clear hX
  simp only [Prod.mk.injEq] at hr;obtain ⟨rfl,rfl⟩:=hr
  refine aj aa [1,2,0] 2 rfl rfl rfl rfl rfl rfl ?_ ?_
  all_goals first|rfl|(simp [ar];done)|(simp [ar];omega)
 have hc2':=hc2;try simp only [bd,bF] at hc2'
 refine aN ?_
 refine af ?_
 refine cm 18 ((decide (bA < 0))||(decide (bA > 1000000))) ?_ ?_
 ·
  refine aw ?_
  refine ab aa 3 rfl ?_
  refine bj (t:=15) rfl (fun hb3=>?_) (fun hb3=>?_)
  ·
   have hb3':=of_decide_eq_true hb3
   refine ab aa 3 rfl ?_
   refine ae ?_
   exact aD.bB 7 rfl rfl (by first|(simp [hb3];done)|(simp_all;done)|(exfalso;simp_all;done)|(simp_all;omega)) rfl
  have hb3':=of_decide_eq_false hb3
  refine ab aa 3 rfl ?_
  refine ae ?_
  exact aD.bB 7 rfl rfl (by first|(simp [hb3];done)|(simp_all;done)|(exfalso;simp_all;done)|(simp_all;omega)) rfl
 refine ag rfl (fun hc4=>?_) (fun hc4=>?_)
 ·
  have hc4':=hc4;try simp only [bd,bF] at hc4'
  refine ad aa 3 rfl ?_
  refine aq ?_
  refine an ?_
  refine cb 0 1 3 1 rfl rfl rfl ?_
  refine cb 0 2 107 4 rfl rfl rfl ?_
  have hX:dq bA ao=((⟨0,([]:List Int),([]:List bS)⟩:cr),3):=by
    exact rW (by omega) (by first|omega|(simp_all [bd];done)|(simp_all [bd];omega))
  rw [hX] at hr;clear hX
  simp only [Prod.mk.injEq] at hr;obtain ⟨rfl,rfl⟩:=hr
  refine aj aa [1,2,0] 2 rfl rfl rfl rfl rfl rfl ?_ ?_
  all_goals first|rfl|(simp [ar];done)|(simp [ar];omega)
 have hc4':=hc4;try simp only [bd,bF] at hc4'
 refine aN ?_
 refine az aa 2 rfl ?_
 refine aL 2 [1,0] (pc 1 mf BC rfl rfl rfl (n:=Int.toNat (ao)) (by first|omega|(simp;done)|(simp;omega)) (by first|omega|(simp;done)|(simp;omega)) (by first|omega|(simp;done)|(simp;omega)) (by first|omega|(simp;done)|(simp;omega))) rfl ?_
 refine ab aa 3 rfl ?_
 refine ae ?_
 refine aq ?_
 refine cb 0 2 107 4 rfl rfl rfl ?_
 have hX:dq bA ao=((⟨bA,List.replicate (Int.toNat (ao)) 0,([]:List bS)⟩:cr),0):=by
   unfold dq;rw [if_neg (by omega),if_neg (by simp only [fZ,decide_eq_true_eq];first|omega|(simp_all [bd];done)|(simp_all [bd];omega))]
 rw [hX] at hr;clear hX
 simp only [Prod.mk.injEq] at hr;obtain ⟨rfl,rfl⟩:=hr
 refine aj aa [1,2,0] 2 rfl rfl rfl rfl rfl rfl ?_ ?_
 all_goals first|rfl|(simp [ar];done)|(simp [ar];omega)
theorem tJ (s:cr) (x:cr) (l:List bS) (e:Int) (hr:cM s=(x,l,e)):Fn Try.prog 90 [(.g [(cI s.cap),(fF s.used),(gH s.aU)])] (.t [(.g [(cI x.cap),(.s 0 0 1 x.used.length),(.s 1 0 4 x.aU.length)]),(.c (.s 2 0 4 l.length)),(.c (cI e))]) [(0,(dx x.used)),(1,(zO x.aU)),(2,(zO l))]:=by
 refine Fn.mk' 22 [(0,(aG [(cI s.cap),(fF s.used),(gH s.aU)]))] Try.func90 rfl rfl rfl rfl ?_
 intro W0 T0
 refine fc 0 1 rfl rfl (fun hlen0_1=>?_)
 refine fc 0 2 rfl rfl (fun hlen0_2=>?_)
 have hrp:=@gd s
 refine ad aa 4 rfl ?_
 refine af ?_
 refine az aa 1 rfl ?_
 obtain ⟨e0,hr0⟩:∃ (e0:Int),bO s=e0:=⟨_,rfl⟩
 refine aL 2 [1,0] (bI 2 (iE s e0 hr0) xQ rfl rfl ⟨⟨_,rfl,.g ⟨.d _,.d _,.d _,trivial⟩⟩,trivial⟩ trivial trivial rfl rfl rfl rfl) rfl ?_
 refine ab aa 1 rfl ?_
 refine ae ?_
 refine ad aa 2 rfl ?_
 refine ag rfl (fun hc1=>?_) (fun hc1=>?_)
 ·
  have hc1':=of_decide_eq_true hc1
  refine ad aa 5 rfl ?_
  refine aq ?_
  refine an ?_
  refine cb 1 1 3 1 rfl rfl rfl ?_
  refine cb 1 2 107 4 rfl rfl rfl ?_
  refine cQ (aD.nil 3 107 4 (by decide) rfl) ?_
  have hX:cM s=((⟨0,([]:List Int),([]:List bS)⟩:cr),([]:List bS),e0):=by
    unfold cM;rw [if_pos (by omega),hr0];rfl
  rw [hX] at hr;clear hX
  simp only [Prod.mk.injEq] at hr;obtain ⟨rfl,rfl,rfl⟩:=hr
  refine aj aa [2,3,4,1] 3 rfl rfl rfl rfl rfl rfl ?_ ?_
  all_goals first|rfl|(simp [ar];done)|(simp [ar];omega)
 have hc1':=of_decide_eq_false hc1
 refine aN ?_
 refine af ?_
 refine bb [1,2] [1,0] mixed rfl rfl ?_
 refine aA (kn:=[]) aa 4 rfl trivial ?_
 refine aS (n':=2) [15] [] rfl rfl (.inl ⟨(ah.plain rfl),aH.cast (cT rfl rfl rfl rfl rfl Try.underlying30) rfl⟩) rfl ?_
 refine aS (n':=3) [16] [] rfl rfl (.inl ⟨(ah.plain rfl),aH.cast (pc 2 mf BC rfl rfl rfl (n:=s.used.length) (by first|omega|(simp;done)|(simp;omega)) (by first|omega|(simp;done)|(simp;omega)) (by first|omega|(simp;done)|(simp;omega)) (by first|omega|(simp;done)|(simp;omega))) rfl⟩) rfl ?_
 refine aA (kn:=[]) aa 3 rfl trivial ?_
 refine aS (n':=4) [20] [] rfl rfl (.inl ⟨(ah.plain rfl),aH.cast (bI 3 (mL s.aU (by first|omega|(simp;done)|(simp;omega))) DC rfl rfl ⟨⟨_,rfl,.c (.d _)⟩,trivial⟩ trivial ⟨(fun _ _ _ _=>trivial),trivial⟩ rfl rfl rfl rfl) rfl⟩) rfl ?_
 refine bx [3,2,1,0] rfl rfl rfl rfl (by kernel_rfl) ?_
 refine ab aa 3 rfl ?_
 refine ae ?_
 refine aq ?_
 refine cb 1 2 107 4 rfl rfl rfl ?_
 have hX:cM s=((⟨s.cap,List.replicate s.used.length 0,([]:List bS)⟩:cr),s.aU,0):=by
   unfold cM;rw [if_neg (by omega)]
 rw [hX] at hr;clear hX
 simp only [Prod.mk.injEq] at hr;obtain ⟨rfl,rfl,rfl⟩:=hr
 refine aj aa [2,4,3,1] 3 rfl rfl rfl rfl rfl rfl ?_ ?_
 all_goals first|rfl|(simp [ar];done)|(simp [ar];omega)

theorem vj (s:cr) (a:bS) (x:cr) (e:Int) (hr:bW s a=(x,e)):Fn Try.prog 78 [(.g [(cI s.cap),(fF s.used),(gH s.aU)]),(.g [(cI a.aK),(cI a.ay),(cI a.sum),(cI a.time)])] (.t [(.g [(cI x.cap),(.s 0 0 1 x.used.length),(.s 1 0 4 x.aU.length)]),(.c (cI e))]) [(0,(dx x.used)),(1,(zO x.aU))]:=by
 refine Fn.mk' 74 [(0,(aG [(cI s.cap),(fF s.used),(gH s.aU)])),(1,(aG [(cI a.aK),(cI a.ay),(cI a.sum),(cI a.time)]))] Try.func78 rfl rfl rfl rfl ?_
 intro W0 T0
 refine fc 0 1 rfl rfl (fun hlen0_1=>?_)
 refine fc 0 2 rfl rfl (fun hlen0_2=>?_)
 have hub:=@mQ s
 have hrp:=@gd s
 refine ad aa 4 rfl ?_
 refine af ?_
 refine az aa 1 rfl ?_
 obtain ⟨e0,hr0⟩:∃ (e0:Int),bO s=e0:=⟨_,rfl⟩
 refine aL 3 [2,1,0] (bI 3 (iE s e0 hr0) xQ rfl rfl ⟨⟨_,rfl,.g ⟨.d _,.d _,.d _,trivial⟩⟩,trivial⟩ trivial trivial rfl rfl rfl rfl) rfl ?_
 refine ab aa 1 rfl ?_
 refine ae ?_
 refine ad aa 2 rfl ?_
 refine ag rfl (fun hc1=>?_) (fun hc1=>?_)
 ·
  have hc1':=of_decide_eq_true hc1
  refine ad aa 4 rfl ?_
  refine aq ?_
  refine an ?_
  refine cb 2 1 3 1 rfl rfl rfl ?_
  refine cb 2 2 107 4 rfl rfl rfl ?_
  have hX:bW s a=((⟨0,([]:List Int),([]:List bS)⟩:cr),e0):=by
    rw [xH (by omega),hr0];rfl
  rw [hX] at hr;clear hX
  simp only [Prod.mk.injEq] at hr;obtain ⟨rfl,rfl⟩:=hr
  refine aj aa [3,4,2] 2 rfl rfl rfl rfl rfl rfl ?_ ?_
  all_goals first|rfl|(simp [ar];done)|(simp [ar];omega)
 have hc1':=of_decide_eq_false hc1
 refine aN ?_
 refine af ?_
 refine az aa 2 rfl ?_
 refine ax (cT rfl rfl rfl rfl rfl Try.underlying39) rfl ?_
 refine ab aa 1 rfl ?_
 refine ae ?_
 refine ag rfl (fun hc2=>?_) (fun hc2=>?_)
 ·
  have hc2':=of_decide_eq_true hc2
  refine ad aa 3 rfl ?_
  refine aq ?_
  refine an ?_
  refine cb 2 1 3 1 rfl rfl rfl ?_
  refine cb 2 2 107 4 rfl rfl rfl ?_
  have hX:bW s a=((⟨0,([]:List Int),([]:List bS)⟩:cr),5):=by
    exact te (by omega) (by omega)
  rw [hX] at hr;clear hX
  simp only [Prod.mk.injEq] at hr;obtain ⟨rfl,rfl⟩:=hr
  refine aj aa [3,4,2] 2 rfl rfl rfl rfl rfl rfl ?_ ?_
  all_goals first|rfl|(simp [ar];done)|(simp [ar];omega)
 have hc2':=of_decide_eq_false hc2
 refine aN ?_
 refine af ?_
 refine bb [2,3,4] [2,1,0] mixed rfl rfl ?_
 refine aA (kn:=[]) aa 4 rfl trivial ?_
 refine aS (n':=4) [23] [] rfl rfl (.inl ⟨(ah.plain rfl),aH.cast (bI 3 (pL s.used (by first|omega|(simp;done)|(simp;omega))) DD rfl rfl ⟨⟨_,rfl,.c (.d _)⟩,trivial⟩ trivial ⟨(fun _ _ _ _=>trivial),trivial⟩ rfl rfl rfl rfl) rfl⟩) rfl ?_
 refine aA (kn:=[]) aa 2 rfl trivial ?_
 refine aS (n':=5) [26] [] rfl rfl (.inl ⟨(ah.plain rfl),aH.cast (bI 4 (mL s.aU (by first|omega|(simp;done)|(simp;omega))) DC rfl rfl ⟨⟨_,rfl,.c (.d _)⟩,trivial⟩ trivial ⟨(fun _ _ _ _=>trivial),trivial⟩ rfl rfl rfl rfl) rfl⟩) rfl ?_
 refine aA (kn:=[]) aa 1 rfl trivial ?_
 refine aS (n':=6) [28] [] rfl rfl (.inl ⟨(ah.plain rfl),aH.cast (dD (ys:=[(0,(.g [(cI a.aK),(cI a.ay),(cI a.sum),(cI a.time)]))]) (rows:=([a]).map hP) 5 xm rfl (by decide) ⟨⟨rfl,rfl⟩,trivial⟩ rfl rfl rfl rfl) rfl⟩) rfl ?_
 refine aS (n':=7) [27,29] [5,4] rfl rfl (.inl ⟨(ah.plain rfl),aH.cast (dh (m:=1) (N:=s.aU.length+1) (k2:=6) (ys:=([a]).map hP) xm rfl rfl rfl rfl rfl rfl (by first|omega|(simp;done)|(simp;omega)) rfl (.s rfl (by first|omega|(simp;done)|(simp;omega))) (by first|omega|(simp;done)|(simp;omega)) (by first|omega|(simp;done)|(simp;omega)) fb (by decide) (by first|omega|(simp;done)|(simp;omega)) (by first|omega|(simp;done)|(simp;omega))) rfl⟩) rfl ?_
 refine aA (n':=8) (kn:=[]) aa 2 rfl trivial ?_
 refine bx [7,6,3,2,1,0] rfl rfl rfl rfl (by kernel_rfl) ?_
 refine ab aa 1 rfl ?_
 refine ae ?_
 refine af ?_
 refine cm 52 ((((decide (a.aK>=0)) && (decide (a.aK < (↑s.used.length:Int)))) && (decide (a.sum>=1))) && (decide (a.sum<=1000000))) ?_ ?_
 ·
  refine aw ?_
  refine ab aa 4 rfl ?_
  refine bj (t:=35) rfl (fun hb3=>?_) (fun hb3=>?_)
  ·
   have hb3':=of_decide_eq_true hb3
   refine ab aa 4 rfl ?_
   refine cJ (ah.yes rfl rfl rfl) (dk rfl rfl rfl rfl rfl Try.underlying30) rfl rfl ?_
   refine ab aa 3 rfl ?_
   refine bj (t:=43) rfl (fun hb4=>?_) (fun hb4=>?_)
   ·
    have hb4':=of_decide_eq_true hb4
    refine ab aa 5 rfl ?_
    refine bj (t:=48) rfl (fun hb5=>?_) (fun hb5=>?_)
    ·
     have hb5':=of_decide_eq_true hb5
     refine ab aa 4 rfl ?_
     refine ae ?_
     exact aD.bB 24 rfl rfl (by first|(simp [hb3,hb4,hb5];done)|(simp_all;done)|(exfalso;simp_all;done)|(simp_all;omega)) rfl
    have hb5':=of_decide_eq_false hb5
    refine ab aa 4 rfl ?_
    refine ae ?_
    exact aD.bB 24 rfl rfl (by first|(simp [hb3,hb4,hb5];done)|(simp_all;done)|(exfalso;simp_all;done)|(simp_all;omega)) rfl
   have hb4':=of_decide_eq_false hb4
   refine ab aa 9 rfl ?_
   refine ae ?_
   exact aD.bB 23 rfl rfl (by first|(simp [hb3,hb4];done)|(simp_all;done)|(exfalso;simp_all;done)|(simp_all;omega)) rfl
  have hb3':=of_decide_eq_false hb3
  refine ab aa 17 rfl ?_
  refine ae ?_
  exact aD.bB 22 rfl rfl (by first|(simp [hb3];done)|(simp_all;done)|(exfalso;simp_all;done)|(simp_all;omega)) rfl
 refine ag rfl (fun hc6=>?_) (fun hc6=>?_)
 ·
  have hc6':=hc6;try simp only [bd,bF] at hc6'
  obtain ⟨x1,hx1⟩:=bY (xs:=s.used) (i:=Int.toNat (a.aK)) (by first|omega|(simp;done)|(simp;omega))
  have hx1b:=mQ (s:=s) (by omega) hx1
  refine bb [3,4,7] [7,6,3,2,1] mixed rfl rfl ?_
  refine aA (kn:=[]) aa 4 rfl trivial ?_
  refine aS (n':=8) [54,56] [3] rfl rfl (.inl ⟨(ah.plain rfl),aH.cast (bo (i:=Int.toNat (a.aK)) rfl rfl rfl Try.underlying30 fT (by first|omega|(simp;done)|(simp;omega)) (by first|omega|(simp;done)|(simp;omega))) rfl⟩) rfl ?_
  refine aS (n':=8) [57] [3] rfl rfl (.inl ⟨(ah.plain rfl),aH.cast (eD rfl rfl rfl Try.underlying3 rfl (bf hx1) rfl) rfl⟩) rfl ?_
  refine aA (kn:=[]) aa 2 rfl trivial ?_
  refine aS (n':=8) [58,60] [] rfl rfl (.inl ⟨(ah.plain rfl),aH.cast (aJ rfl rfl rfl (aE (by first|omega|(simp;done)|(simp;omega)))) rfl⟩) rfl ?_
  refine aS (n':=8) [54,56] [3] rfl rfl (.inl ⟨(ah.plain rfl),aH.cast (bo (i:=Int.toNat (a.aK)) rfl rfl rfl Try.underlying30 fT (by first|omega|(simp;done)|(simp;omega)) (by first|omega|(simp;done)|(simp;omega))) rfl⟩) rfl ?_
  refine bx [7,6,3,2,1] rfl rfl rfl rfl (by kernel_rfl) ?_
  refine gb [7,6,3,2,1] (dG (ds:=[(dI (x1+a.sum))]) rfl rfl rfl rfl rfl fT rfl (Nat.le_of_ble_eq_true rfl) (bf hx1) rfl (eG (x':=x1+a.sum) rfl)) rfl ?_
  refine ae ?_
  refine az aa 1 rfl ?_
  obtain ⟨e1,hr1⟩:∃ (e1:Int),bO (⟨s.cap,(s.used).set (Int.toNat (a.aK)) (x1+a.sum),s.aU++([a])⟩:cr)=e1:=⟨_,rfl⟩
  refine aL 8 [7,6,3,2,1] (fK 8 [3,6] (iE (⟨s.cap,(s.used).set (Int.toNat (a.aK)) (x1+a.sum),s.aU++([a])⟩:cr) e1 hr1) xQ rfl rfl ⟨⟨_,rfl,.g ⟨.d _,.s rfl (by decide) (by first|omega|(simp;done)|(simp;omega)),.s rfl (by decide) (by first|omega|(simp;done)|(simp;omega)),trivial⟩⟩,trivial⟩ rfl trivial rfl rfl rfl rfl) rfl ?_
  refine ab aa 1 rfl ?_
  refine ae ?_
  refine ad aa 1 rfl ?_
  refine aV ?_
  refine ad aa 2 rfl ?_
  refine ag rfl (fun hc7=>?_) (fun hc7=>?_)
  ·
   have hc7':=of_decide_eq_true hc7
   refine ad aa 3 rfl ?_
   refine aq ?_
   refine bg ?_
   have hX:bW s a=((⟨s.cap,(s.used).set (Int.toNat (a.aK)) (x1+a.sum),s.aU++([a])⟩:cr),0):=by
     have hx:s.used.getD a.aK.toNat 0=x1:=by rw [List.getD_eq_getElem?_getD,hx1];rfl
     have hg:=kP (a:=a) (show bO s=0 by omega) (show s.aU.length < 20 by omega)
     rw [hx,hr1] at hg
     rcases hg with ⟨p1,p2⟩|⟨p1,p2⟩|⟨p1,p2⟩<;>first|(exfalso;omega)|exact p2|(subst p1;exact p2)
   rw [hX] at hr;clear hX
   simp only [Prod.mk.injEq] at hr;obtain ⟨rfl,rfl⟩:=hr
   refine aj aa [3,6,2] 2 rfl rfl rfl rfl rfl rfl ?_ ?_
   all_goals first|rfl|(simp [ar];done)|(simp [ar];omega)
  have hc7':=of_decide_eq_false hc7
  refine ad aa 2 rfl ?_
  refine ag rfl (fun hc8=>?_) (fun hc8=>?_)
  ·
   have hc8':=of_decide_eq_true hc8
   refine ad aa 3 rfl ?_
   refine aq ?_
   refine bg ?_
   refine cb 2 1 3 1 rfl rfl rfl ?_
   refine cb 2 2 107 4 rfl rfl rfl ?_
   have hX:bW s a=((⟨0,([]:List Int),([]:List bS)⟩:cr),10):=by
     have hx:s.used.getD a.aK.toNat 0=x1:=by rw [List.getD_eq_getElem?_getD,hx1];rfl
     have hg:=kP (a:=a) (show bO s=0 by omega) (show s.aU.length < 20 by omega)
     rw [hx,hr1] at hg
     rcases hg with ⟨p1,p2⟩|⟨p1,p2⟩|⟨p1,p2⟩<;>first|(exfalso;omega)|exact p2|(subst p1;exact p2)
   rw [hX] at hr;clear hX
   simp only [Prod.mk.injEq] at hr;obtain ⟨rfl,rfl⟩:=hr
   refine aj aa [8,9,2] 2 rfl rfl rfl rfl rfl rfl ?_ ?_
   all_goals first|rfl|(simp [ar];done)|(simp [ar];omega)
  have hc8':=of_decide_eq_false hc8
  refine ad aa 4 rfl ?_
  refine aq ?_
  refine bg ?_
  refine cb 2 1 3 1 rfl rfl rfl ?_
  refine cb 2 2 107 4 rfl rfl rfl ?_
  have hX:bW s a=((⟨0,([]:List Int),([]:List bS)⟩:cr),e1):=by
    have hx:s.used.getD a.aK.toNat 0=x1:=by rw [List.getD_eq_getElem?_getD,hx1];rfl
    have hg:=kP (a:=a) (show bO s=0 by omega) (show s.aU.length < 20 by omega)
    rw [hx,hr1] at hg
    rcases hg with ⟨p1,p2⟩|⟨p1,p2⟩|⟨p1,p2⟩<;>first|(exfalso;omega)|exact p2|(subst p1;exact p2)
  rw [hX] at hr;clear hX
  simp only [Prod.mk.injEq] at hr;obtain ⟨rfl,rfl⟩:=hr
  refine aj aa [8,9,2] 2 rfl rfl rfl rfl rfl rfl ?_ ?_
  all_goals first|rfl|(simp [ar];done)|(simp [ar];omega)
 have hc6':=hc6;try simp only [bd,bF] at hc6'
 refine aN ?_
 refine az aa 1 rfl ?_
 obtain ⟨e2,hr2⟩:∃ (e2:Int),bO (⟨s.cap,s.used,s.aU++([a])⟩:cr)=e2:=⟨_,rfl⟩
 refine aL 8 [7,6,3,2,1,0] (fK 8 [3,6] (iE (⟨s.cap,s.used,s.aU++([a])⟩:cr) e2 hr2) xQ rfl rfl ⟨⟨_,rfl,.g ⟨.d _,.s rfl (by decide) (by first|omega|(simp;done)|(simp;omega)),.s rfl (by decide) (by first|omega|(simp;done)|(simp;omega)),trivial⟩⟩,trivial⟩ rfl trivial rfl rfl rfl rfl) rfl ?_
 refine ab aa 1 rfl ?_
 refine ae ?_
 refine ad aa 1 rfl ?_
 refine aV ?_
 refine ad aa 2 rfl ?_
 refine ag rfl (fun hc9=>?_) (fun hc9=>?_)
 ·
  have hc9':=of_decide_eq_true hc9
  refine ad aa 3 rfl ?_
  refine aq ?_
  refine bg ?_
  have hX:bW s a=((⟨s.cap,s.used,s.aU++([a])⟩:cr),0):=by
    have hg:=qg (a:=a) (show bO s=0 by omega) (show s.aU.length < 20 by omega) (by omega)
    rw [hr2] at hg
    obtain ⟨p1,p2⟩:=hg
    first|(exfalso;omega)|(subst p1;exact p2)
  rw [hX] at hr;clear hX
  simp only [Prod.mk.injEq] at hr;obtain ⟨rfl,rfl⟩:=hr
  refine aj aa [3,6,2] 2 rfl rfl rfl rfl rfl rfl ?_ ?_
  all_goals first|rfl|(simp [ar];done)|(simp [ar];omega)
 have hc9':=of_decide_eq_false hc9
 refine ad aa 2 rfl ?_
 refine ag rfl (fun hc10=>?_) (fun hc10=>?_)
 ·
  have hc10':=of_decide_eq_true hc10
  refine ad aa 3 rfl ?_
  refine aq ?_
  refine bg ?_
  refine cb 2 1 3 1 rfl rfl rfl ?_
  refine cb 2 2 107 4 rfl rfl rfl ?_
  have hX:bW s a=((⟨0,([]:List Int),([]:List bS)⟩:cr),10):=by
    have hg:=qg (a:=a) (show bO s=0 by omega) (show s.aU.length < 20 by omega) (by omega)
    rw [hr2] at hg
    obtain ⟨p1,p2⟩:=hg
    first|(exfalso;omega)|(subst p1;exact p2)
  rw [hX] at hr;clear hX
  simp only [Prod.mk.injEq] at hr;obtain ⟨rfl,rfl⟩:=hr
  refine aj aa [8,9,2] 2 rfl rfl rfl rfl rfl rfl ?_ ?_
  all_goals first|rfl|(simp [ar];done)|(simp [ar];omega)
 have hc10':=of_decide_eq_false hc10
 refine ad aa 4 rfl ?_
 refine aq ?_
 refine bg ?_
 refine cb 2 1 3 1 rfl rfl rfl ?_
 refine cb 2 2 107 4 rfl rfl rfl ?_
 have hX:bW s a=((⟨0,([]:List Int),([]:List bS)⟩:cr),e2):=by
   have hg:=qg (a:=a) (show bO s=0 by omega) (show s.aU.length < 20 by omega) (by omega)
   rw [hr2] at hg
   obtain ⟨p1,p2⟩:=hg
   first|(exfalso;omega)|(subst p1;exact p2)
 rw [hX] at hr;clear hX
 simp only [Prod.mk.injEq] at hr;obtain ⟨rfl,rfl⟩:=hr
 refine aj aa [8,9,2] 2 rfl rfl rfl rfl rfl rfl ?_ ?_
 all_goals first|rfl|(simp [ar];done)|(simp [ar];omega)


def eS:List Int->Int
  |[]=>0
  |x::l=>if x=0 then eS l else x
def gM (a b:al):Int:=eS [ec a.ay b.ay,ec a.ba b.ba]
theorem zq {l:List Int} {i:Nat} {x:Int} (hx:l[i]?=some x) (h:x=0):eS (l.drop i)=eS (l.drop (i+1)):=by
  obtain ⟨hi,rfl⟩:=List.getElem?_eq_some_iff.1 hx
  rw [List.drop_eq_getElem_cons hi,eS,if_pos h]
theorem tg {l:List Int} {i:Nat} {x:Int} (hx:l[i]?=some x) (h:¬x=0):eS (l.drop i)=x:=by
  obtain ⟨hi,rfl⟩:=List.getElem?_eq_some_iff.1 hx
  rw [List.drop_eq_getElem_cons hi,eS,if_neg h]
theorem kU {a b:al}:gM a b < 0↔gp a b=true:=by
  rw [qU]
  have h1:=qq (a:=a.ay) (b:=b.ay)
  have h2:=oL (a:=a.ay) (b:=b.ay)
  have h3:=qq (a:=a.ba) (b:=b.ba)
  have h4:=oL (a:=a.ba) (b:=b.ba)
  unfold gM eS eS eS
  split
  ·split<;>omega
  ·omega
theorem kV {a b:al} (h:¬gM a b < 0):gp a b=false:=by
  cases hb:gp a b with
  |false=>rfl
  |true=>exact absurd (kU.2 hb) h
theorem cG {l:List (Nat×AV)} {t:Nat} {x y:Int} {ρ:Nat->Nat} (h:look l t=some (aI x)) (e:x=y):look l t=some (AV.map ρ (aI y)):=by subst e;exact h

theorem Gr (l:List Int) (r:Int) (hr:eS l=r):Fn Try.prog 59 [(.c (fF l))] (.v (.c (cI r))) []:=by
 refine Fn.mk' 18 [(0,(aC (fF l)))] Try.func59 rfl rfl rfl rfl ?_
 intro W0 T0
 refine dz 0 rfl (fun hlen0=>?_)
 refine ad aa 1 rfl ?_
 refine ad aa 1 rfl ?_
 refine af ?_
 refine az aa 1 rfl ?_
 refine ax (cT rfl rfl rfl rfl rfl Try.underlying30) rfl ?_
 refine ab aa 1 rfl ?_
 refine ae ?_
 refine aV ?_
 refine cu (β:=Nat) (fun (i:Nat)=>⟨[(3,(aI 0)),(6,(aC (fF l))),(7,(aI (↑l.length:Int))),(8,(aI (↑i:Int)))],[],0⟩) (fun (i:Nat)=>i<=l.length/\eS (l.drop i)=eS l) (fun (i:Nat)=>l.length - i) 0 ?_ ?_ ?_
 ·exact ⟨by omega,rfl⟩
 ·exact aD.bZ id (by refine ⟨?_,?_,?_,?_,trivial⟩<;>first|rfl|(simp only [bq];done)|(congr 3;omega)|(congr 4;omega)|(simp only [br];rfl)) (trivial) rfl
 rintro i ⟨hi0_0,hi0_1⟩
 refine ad aa 1 rfl ?_
 refine af ?_
 refine ag rfl (fun hc1=>?_) (fun hc1=>?_)
 ·
  have hc1':=of_decide_eq_true hc1
  refine aN ?_
  refine af ?_
  refine aV ?_
  refine eM ?_
  obtain ⟨x1,hx1⟩:=bY (xs:=l) (i:=i) (by first|omega|(simp;done)|(simp;omega))
  refine ax (cf (i:=i) rfl rfl rfl Try.underlying30 fT (by first|omega|(simp;done)|(simp;omega)) (bf hx1)) rfl ?_
  refine ab aa 2 rfl ?_
  refine ae ?_
  refine ad aa 3 rfl ?_
  refine ag rfl (fun hc2=>?_) (fun hc2=>?_)
  ·
   have hc2':=of_decide_eq_true hc2
   refine ad aa 2 rfl ?_
   refine aq ?_
   refine bg ?_
   refine an ?_
   refine an ?_
   refine bg ?_
   refine an ?_
   have hX:eS l=x1:=by
     rw [<-hi0_1];first|exact tg hx1 (by omega)|(rw [List.drop_of_length_le (by omega)];rfl)
   rw [hX] at hr;clear hX
   subst hr
   refine aj aa [] 0 rfl rfl rfl rfl rfl rfl ?_ ?_
   all_goals first|rfl|(simp [ar];done)|(simp [ar];omega)
  have hc2':=of_decide_eq_false hc2
  refine cW ?_
  refine bn ?_
  refine then_ok ?_
  refine aw ?_
  refine ax (aJ rfl rfl rfl (aE (by first|omega|(simp;done)|(simp;omega)))) rfl ?_
  refine ab aa 1 rfl ?_
  refine ae ?_
  refine ⟨i+1,⟨by omega,by rw [<-zq hx1 (by omega)];exact hi0_1⟩,by first|omega|(simp;done)|(simp;omega),aD.bZ id (by refine ⟨?_,?_,?_,?_,trivial⟩<;>first|rfl|(simp only [bq];done)|(congr 3;omega)|(congr 4;omega)|(simp only [br];rfl)) (trivial) rfl⟩
 have hc1':=of_decide_eq_false hc1
 refine cp ?_
 refine aP ?_
 refine aP ?_
 refine bP ?_
 refine then_ok ?_
 refine ad aa 2 rfl ?_
 refine aq ?_
 have hX:eS l=0:=by
   rw [<-hi0_1];first|exact tg hx1 (by omega)|(rw [List.drop_of_length_le (by omega)];rfl)
 rw [hX] at hr;clear hX
 subst hr
 refine aj aa [] 0 rfl rfl rfl rfl rfl rfl ?_ ?_
 all_goals first|rfl|(simp [ar];done)|(simp [ar];omega)
theorem wS (x y:al):Fn Try.prog 53 [(.g [(cI x.ay),(cI x.ba),(cI x.kind),(cI x.sum)]),(.g [(cI y.ay),(cI y.ba),(cI y.kind),(cI y.sum)])] (aI (gM x y)) []:=by
 refine Fn.mk' 17 [(0,(aG [(cI x.ay),(cI x.ba),(cI x.kind),(cI x.sum)])),(1,(aG [(cI y.ay),(cI y.ba),(cI y.kind),(cI y.sum)]))] Try.func53 rfl rfl rfl rfl ?_
 intro W0 T0
 refine ad aa 3 rfl ?_
 refine af ?_
 have hr0:ec x.ay y.ay=ec x.ay y.ay:=rfl
 have hr1:ec x.ba y.ba=ec x.ba y.ba:=rfl
 have hr2:eS ([ec x.ay y.ay,ec x.ba y.ba])=eS ([ec x.ay y.ay,ec x.ba y.ba]):=rfl
 refine bb [2,3] [1,0] mixed rfl rfl ?_
 refine aA (kn:=[]) aa 4 rfl trivial ?_
 refine aS (n':=2) [6,8] [] rfl rfl (.inl ⟨(ah.plain rfl),aH.cast (bI 2 (oP x.ay y.ay (ec x.ay y.ay) hr0) AU rfl rfl ⟨⟨_,rfl,.c (.d _)⟩,⟨_,rfl,.c (.d _)⟩,trivial⟩ trivial trivial rfl rfl rfl rfl) rfl⟩) rfl ?_
 refine aA (kn:=[]) aa 4 rfl trivial ?_
 refine aS (n':=2) [11,13] [] rfl rfl (.inl ⟨(ah.plain rfl),aH.cast (bI 2 (oP x.ba y.ba (ec x.ba y.ba) hr1) AU rfl rfl ⟨⟨_,rfl,.c (.d _)⟩,⟨_,rfl,.c (.d _)⟩,trivial⟩ trivial trivial rfl rfl rfl rfl) rfl⟩) rfl ?_
 refine aS (n':=3) [9,14] [] rfl rfl (.inl ⟨(ah.plain rfl),aH.cast (dD (ys:=[(0,(.c (cI (ec x.ay y.ay)))),(1,(.c (cI (ec x.ba y.ba))))]) (rows:=([ec x.ay y.ay,ec x.ba y.ba]).map rI) 2 mf rfl (by decide) ⟨⟨rfl,rfl⟩,⟨rfl,rfl⟩,trivial⟩ rfl rfl rfl rfl) rfl⟩) rfl ?_
 refine aS (n':=3) [15] [2] rfl rfl (.inl ⟨(ah.plain rfl),aH.cast (fK 3 [2] (Gr ([ec x.ay y.ay,ec x.ba y.ba]) (eS ([ec x.ay y.ay,ec x.ba y.ba])) hr2) Gc rfl rfl ⟨⟨_,rfl,.c (.s rfl (by decide) (by first|omega|(simp;done)|(simp;omega)))⟩,trivial⟩ rfl trivial rfl rfl rfl rfl) rfl⟩) rfl ?_
 refine aA (kn:=[]) aa 1 rfl trivial ?_
 refine bx [1,0] rfl rfl rfl rfl (by kernel_rfl) ?_
 refine ae ?_
 refine aq ?_
 refine aj aa [] 0 rfl rfl rfl rfl rfl rfl ?_ ?_
 all_goals first|rfl|(simp [ar];done)|(simp [ar];omega)

theorem vQ (d:List al) (N a b n:Nat) (fn:FuncId) (aT:List (List D)) (hp:∀ x y:al,Fn Try.prog fn ([.g [cI x.ay,cI x.ba,cI x.kind,cI x.sum],.g [cI y.ay,cI y.ba,cI y.kind,cI y.sum]]++aT.map fun r=>GV.c (.q r 0)) (aI (gM x y)) []) (hen:bc Try.prog fn) (hl:d.length * 32<=140737488355328) (hN:N=d.length) (h0_:a+n<=d.length) (h1_:b+n<=d.length) (r:List al) (hr:fV a b n d=r):cz Try.prog 110 [(.c (.s 0 0 4 N)),(.c (cI (↑a:Int))),(.c (cI (↑b:Int))),(.c (cI (↑n:Int))),(.c (.d (.f fn aT)))] [(0,(cF d))] [0] (.t []) [(0,(cF r))]:=by
 refine cz.mk 38 [(0,(aC (.s 0 0 4 N))),(1,(aI (↑a:Int))),(2,(aI (↑b:Int))),(3,(aI (↑n:Int))),(4,(aC (.d (.f fn aT))))] 1 Try.func110 rfl rfl rfl rfl rfl rfl rfl rfl rfl ?_
 intro W0 F0 T0 pg
 refine fO 0 rfl (fun hlen0=>?_)
 refine ad aa 1 rfl ?_
 refine aV ?_
 refine cu (β:=Nat×List al) (fun (p:Nat×List al)=>match p with|(i,d1)=>⟨[(0,(aC (.s 0 0 4 N))),(1,(aI (↑a:Int))),(2,(aI (↑b:Int))),(3,(aI (↑n:Int))),(10,(aI (↑i:Int)))],[(0,(cF d1))],1⟩) (fun (p:Nat×List al)=>match p with|(i,d1)=>i<=n/\d1=fV a b i d/\d1.length=d.length) (fun (p:Nat×List al)=>match p with|(i,d1)=>n - i) (0,d) ?_ ?_ ?_
 ·exact ⟨by omega,rfl,rfl⟩
 ·exact aD.bZ id (by refine ⟨?_,?_,?_,?_,?_,trivial⟩<;>first|rfl|(simp only [bq];done)|(congr 3;omega)|(congr 4;omega)|(simp only [br];rfl)|(exact cG rfl (by omega))) (⟨by first|rfl|(simp only [bq];done)|(congr 3;omega)|(congr 4;omega)|(simp only [br];rfl),trivial⟩) rfl
 rintro ⟨i,d1⟩ ⟨hi0_0,hi0_1,hi0_2⟩
 refine af ?_
 refine ad aa 3 rfl ?_
 refine ag rfl (fun hc1=>?_) (fun hc1=>?_)
 ·
  have hc1':=of_decide_eq_true hc1
  refine aN ?_
  refine af ?_
  refine aV ?_
  obtain ⟨x1,hx1⟩:=bY (xs:=d1) (i:=(b)+(i)) (by first|omega|(simp;done)|(simp;omega))
  obtain ⟨x2,hx2⟩:=bY (xs:=d1) (i:=(a)+(i)) (by first|omega|(simp;done)|(simp;omega))
  obtain ⟨x3,hx3⟩:=bY (xs:=((d1).set ((a)+(i)) x1)) (i:=(b)+(i)) (by first|omega|(simp;done)|(simp;omega))
  refine cX [0,1,2,3,10] [0] mixed rfl rfl ?_
  refine bQ (kn:=[]) aa 3 rfl trivial ?_
  refine bT (n':=1) [17,18] [] rfl rfl (.inl ⟨(ah.plain rfl),aH.cast (aJ rfl rfl rfl (aE (by first|omega|(simp;done)|(simp;omega)))) rfl⟩) rfl ?_
  refine bQ (kn:=[]) aa 3 rfl trivial ?_
  refine bT (n':=1) [21,22] [] rfl rfl (.inl ⟨(ah.plain rfl),aH.cast (aJ rfl rfl rfl (aE (by first|omega|(simp;done)|(simp;omega)))) rfl⟩) rfl ?_
  refine bQ (kn:=[]) aa 3 rfl trivial ?_
  refine bT (n':=1) [25,26] [] rfl rfl (.inl ⟨(ah.plain rfl),aH.cast (aJ rfl rfl rfl (aE (by first|omega|(simp;done)|(simp;omega)))) rfl⟩) rfl ?_
  refine bT (n':=1) [24,27] [0] rfl rfl (.inl ⟨(ah.plain rfl),aH.cast (bo (i:=(b)+(i)) rfl rfl rfl Try.underlying42 dj (by first|omega|(simp;done)|(simp;omega)) (by first|omega|(simp;done)|(simp;omega))) rfl⟩) rfl ?_
  refine bT (n':=1) [28] [0] rfl rfl (.inl ⟨(ah.plain rfl),aH.cast (db rfl rfl rfl Try.underlying83 rfl dj (bf hx1) rfl) rfl⟩) rfl ?_
  refine bQ (kn:=[]) aa 3 rfl trivial ?_
  refine bT (n':=1) [31,32] [] rfl rfl (.inl ⟨(ah.plain rfl),aH.cast (aJ rfl rfl rfl (aE (by first|omega|(simp;done)|(simp;omega)))) rfl⟩) rfl ?_
  refine bT (n':=1) [30,33] [0] rfl rfl (.inl ⟨(ah.plain rfl),aH.cast (bo (i:=(a)+(i)) rfl rfl rfl Try.underlying42 dj (by first|omega|(simp;done)|(simp;omega)) (by first|omega|(simp;done)|(simp;omega))) rfl⟩) rfl ?_
  refine bT (n':=1) [34] [0] rfl rfl (.inl ⟨(ah.plain rfl),aH.cast (db rfl rfl rfl Try.underlying83 rfl dj (bf hx2) rfl) rfl⟩) rfl ?_
  refine bT (n':=1) [16,19] [0] rfl rfl (.inl ⟨(ah.plain rfl),aH.cast (bo (i:=(a)+(i)) rfl rfl rfl Try.underlying42 dj (by first|omega|(simp;done)|(simp;omega)) (by first|omega|(simp;done)|(simp;omega))) rfl⟩) rfl ?_
  refine bT (n':=1) [36,29] [0] rfl rfl (.inl ⟨(ah.plain rfl),aH.cast (dG (ds:=[(dI x1.ay),(dI x1.ba),(dI x1.kind),(dI x1.sum)]) rfl rfl rfl rfl rfl dj rfl (Nat.le_of_ble_eq_true rfl) (bf hx2) rfl (eG (x':=x1) rfl)) rfl⟩) rfl ?_
  refine bT (n':=1) [20,23] [0] rfl rfl (.inl ⟨(ah.plain rfl),aH.cast (bo (i:=(b)+(i)) rfl rfl rfl Try.underlying42 dj (by first|omega|(simp;done)|(simp;omega)) (by first|omega|(simp;done)|(simp;omega))) rfl⟩) rfl ?_
  refine bT (n':=1) [37,35] [0] rfl rfl (.inl ⟨(ah.plain rfl),aH.cast (dG (ds:=[(dI x2.ay),(dI x2.ba),(dI x2.kind),(dI x2.sum)]) rfl rfl rfl rfl rfl dj rfl (Nat.le_of_ble_eq_true rfl) (bf hx3) rfl (eG (x':=x2) rfl)) rfl⟩) rfl ?_
  refine dK [0,1,2,3,10] [0] rfl rfl (by kernel_rfl) ?_
  refine bn ?_
  refine then_ok ?_
  refine aw ?_
  refine ab aa 1 rfl ?_
  refine ax (aJ rfl rfl rfl (aE (by first|omega|(simp;done)|(simp;omega)))) rfl ?_
  refine ab aa 1 rfl ?_
  refine ae ?_
  refine ⟨(i+1,((d1).set ((a)+(i)) x1).set ((b)+(i)) x2),⟨by omega,by rw [fV,<-hi0_1];exact (kZ hx2 hx1).symm,by simp only [List.length_set];exact hi0_2⟩,by first|omega|(simp;done)|(simp;omega),aD.bZ id (by refine ⟨?_,?_,?_,?_,?_,trivial⟩<;>first|rfl|(simp only [bq];done)|(congr 3;omega)|(congr 4;omega)|(simp only [br];rfl)|(exact cG rfl (by omega))) (⟨by first|rfl|(simp only [bq];done)|(congr 3;omega)|(congr 4;omega)|(simp only [br];rfl),trivial⟩) rfl⟩
 have hc1':=of_decide_eq_false hc1
 refine cp ?_
 refine aP ?_
 refine aP ?_
 refine bP ?_
 have hX:fV a b n d=d1:=by
   have:i=n:=by omega
   subst this;exact hi0_1.symm
 rw [hX] at hr;clear hX
 subst hr
 refine cC aa [0] 1 rfl rfl rfl rfl rfl rfl ?_ ?_
 all_goals first|rfl|(simp [ar];done)|(simp [ar];omega)
theorem lk (ai bi ni:Int) (d:List al) (N a b n:Nat) (fn:FuncId) (aT:List (List D)) (hp:∀ x y:al,Fn Try.prog fn ([.g [cI x.ay,cI x.ba,cI x.kind,cI x.sum],.g [cI y.ay,cI y.ba,cI y.kind,cI y.sum]]++aT.map fun r=>GV.c (.q r 0)) (aI (gM x y)) []) (hen:bc Try.prog fn) (ea_:ai=(↑a:Int)) (eb_:bi=(↑b:Int)) (en_:ni=(↑n:Int)) (hl:d.length * 32<=140737488355328) (hN:N=d.length) (h0_:a+n<=d.length) (h1_:b+n<=d.length) (r:List al) (hr:fV a b n d=r):cz Try.prog 110 [(.c (.s 0 0 4 N)),(.c (cI ai)),(.c (cI bi)),(.c (cI ni)),(.c (.d (.f fn aT)))] [(0,(cF d))] [0] (.t []) [(0,(cF r))]:=by
  subst ea_ eb_ en_
  exact vQ d N a b n fn aT hp hen hl hN h0_ h1_ r hr

theorem Bl (d:List al) (N a m b:Nat) (fn:FuncId) (aT:List (List D)) (hp:∀ x y:al,Fn Try.prog fn ([.g [cI x.ay,cI x.ba,cI x.kind,cI x.sum],.g [cI y.ay,cI y.ba,cI y.kind,cI y.sum]]++aT.map fun r=>GV.c (.q r 0)) (aI (gM x y)) []) (hen:bc Try.prog fn) (hl:d.length * 32<=140737488355328) (hN:N=d.length) (h0_:a < m) (h1_:m < b) (h2_:b<=d.length) (r:List al) (hr:iI m (m - a) (b - m) d=r):cz Try.prog 93 [(.c (.s 0 0 4 N)),(.c (cI (↑a:Int))),(.c (cI (↑m:Int))),(.c (cI (↑b:Int))),(.c (.d (.f fn aT)))] [(0,(cF d))] [0] (.t []) [(0,(cF r))]:=by
 refine cz.mk 58 [(0,(aC (.s 0 0 4 N))),(1,(aI (↑a:Int))),(2,(aI (↑m:Int))),(3,(aI (↑b:Int))),(4,(aC (.d (.f fn aT))))] 1 Try.func93 rfl rfl rfl rfl rfl rfl rfl rfl rfl ?_
 intro W0 F0 T0 pg
 refine fO 0 rfl (fun hlen0=>?_)
 refine az aa 2 rfl ?_
 refine ax (aJ rfl rfl rfl (aE (by first|omega|(simp;done)|(simp;omega)))) rfl ?_
 refine ab aa 1 rfl ?_
 refine ae ?_
 refine az aa 2 rfl ?_
 refine ax (aJ rfl rfl rfl (aE (by first|omega|(simp;done)|(simp;omega)))) rfl ?_
 refine ab aa 1 rfl ?_
 refine ae ?_
 refine af ?_
 refine aV ?_
 refine cu (β:=Nat×Nat×List al) (fun (p:Nat×Nat×List al)=>match p with|(i,j,d1)=>⟨[(0,(aC (.s 0 0 4 N))),(2,(aI (↑m:Int))),(4,(aC (.d (.f fn aT)))),(10,(aI (↑i:Int))),(11,(aI (↑j:Int)))],[(0,(cF d1))],1⟩) (fun (p:Nat×Nat×List al)=>match p with|(i,j,d1)=>0 < i/\0 < j/\i+a<=m/\m+j<=b/\iI m i j d1=iI m (m - a) (b - m) d/\d1.length=d.length) (fun (p:Nat×Nat×List al)=>match p with|(i,j,d1)=>i+j) (m - a,b - m,d) ?_ ?_ ?_
 ·exact ⟨by omega,by omega,by omega,by omega,rfl,rfl⟩
 ·exact aD.bZ id (by refine ⟨?_,?_,?_,?_,?_,trivial⟩<;>first|rfl|(simp only [bq];done)|(congr 3;omega)|(congr 4;omega)|(simp only [br];rfl)|(exact cG rfl (by omega))) (⟨by first|rfl|(simp only [bq];done)|(congr 3;omega)|(congr 4;omega)|(simp only [br];rfl),trivial⟩) rfl
 rintro ⟨i,j,d1⟩ ⟨hi0_0,hi0_1,hi0_2,hi0_3,hi0_4,hi0_5⟩
 refine af ?_
 refine ad aa 3 rfl ?_
 refine ag rfl (fun hc1=>?_) (fun hc1=>?_)
 ·
  have hc1':=of_decide_eq_true hc1
  refine aN ?_
  refine aV ?_
  refine ad aa 3 rfl ?_
  refine ag rfl (fun hc2=>?_) (fun hc2=>?_)
  ·
   have hc2':=of_decide_eq_true hc2
   refine az aa 3 rfl ?_
   refine ax (aJ rfl rfl rfl (aE (by first|omega|(simp;done)|(simp;omega)))) rfl ?_
   refine ab aa 3 rfl ?_
   obtain ⟨r0,hr0⟩:∃ (r0:List al),fV ((m) - (i)) m j d1=r0:=⟨_,rfl⟩
   have hlr0:r0.length=d1.length:=by rw [<-hr0];exact iq _ _ _ _
   refine aL 1 [0] (dH id id (lk ((↑m:Int) - (↑i:Int)) (↑m:Int) (↑j:Int) d1 N ((m) - (i)) m j fn aT hp hen (by first|omega|(simp;done)|(simp;omega)) (by first|omega|(simp;done)|(simp;omega)) (by first|omega|(simp;done)|(simp;omega)) (by first|omega|(simp;done)|(simp;omega)) (by first|omega|(simp;done)|(simp;omega)) (by first|omega|(simp;done)|(simp;omega)) (by first|omega|(simp;done)|(simp;omega)) r0 hr0) xT rfl rfl ⟨⟨_,rfl,.inl ⟨rfl,rfl⟩⟩,⟨_,rfl,.inr (.c (.d _))⟩,⟨_,rfl,.inr (.c (.d _))⟩,⟨_,rfl,.inr (.c (.d _))⟩,⟨_,rfl,.inr (.c (.d _))⟩,trivial⟩ ⟨rfl,trivial⟩ rfl rfl ⟨.inr ⟨_,_,_,rfl,by first|(simp;omega)|(simp only [List.length_map];omega)⟩,trivial⟩ rfl rfl rfl trivial ⟨(fun _ _ _ _=>trivial),trivial⟩ rfl rfl rfl rfl) rfl ?_
   refine ae ?_
   refine aw ?_
   refine ab aa 2 rfl ?_
   refine ax (aJ rfl rfl rfl (aE (by first|omega|(simp;done)|(simp;omega)))) rfl ?_
   refine ab aa 1 rfl ?_
   refine bX ?_
   refine bn ?_
   refine then_ok ?_
   refine ⟨((i) - (j),j,r0),⟨by omega,by omega,by omega,by omega,by rw [<-hr0,<-yH (by omega) (by omega)];exact hi0_4,by omega⟩,by first|omega|(simp;done)|(simp;omega),aD.bZ id (by refine ⟨?_,?_,?_,?_,?_,trivial⟩<;>first|rfl|(simp only [bq];done)|(congr 3;omega)|(congr 4;omega)|(simp only [br];rfl)|(exact cG rfl (by omega))) (⟨by first|rfl|(simp only [bq];done)|(congr 3;omega)|(congr 4;omega)|(simp only [br];rfl),trivial⟩) rfl⟩
  have hc2':=of_decide_eq_false hc2
  refine az aa 3 rfl ?_
  refine ax (aJ rfl rfl rfl (aE (by first|omega|(simp;done)|(simp;omega)))) rfl ?_
  refine ab aa 2 rfl ?_
  refine ax (aJ rfl rfl rfl (aE (by first|omega|(simp;done)|(simp;omega)))) rfl ?_
  refine ab aa 1 rfl ?_
  refine ax (aJ rfl rfl rfl (aE (by first|omega|(simp;done)|(simp;omega)))) rfl ?_
  refine ab aa 2 rfl ?_
  obtain ⟨r1,hr1⟩:∃ (r1:List al),fV ((m) - (i)) (((m)+(j)) - (i)) i d1=r1:=⟨_,rfl⟩
  have hlr1:r1.length=d1.length:=by rw [<-hr1];exact iq _ _ _ _
  refine aL 1 [0] (dH id id (lk ((↑m:Int) - (↑i:Int)) (((↑m:Int)+(↑j:Int)) - (↑i:Int)) (↑i:Int) d1 N ((m) - (i)) (((m)+(j)) - (i)) i fn aT hp hen (by first|omega|(simp;done)|(simp;omega)) (by first|omega|(simp;done)|(simp;omega)) (by first|omega|(simp;done)|(simp;omega)) (by first|omega|(simp;done)|(simp;omega)) (by first|omega|(simp;done)|(simp;omega)) (by first|omega|(simp;done)|(simp;omega)) (by first|omega|(simp;done)|(simp;omega)) r1 hr1) xT rfl rfl ⟨⟨_,rfl,.inl ⟨rfl,rfl⟩⟩,⟨_,rfl,.inr (.c (.d _))⟩,⟨_,rfl,.inr (.c (.d _))⟩,⟨_,rfl,.inr (.c (.d _))⟩,⟨_,rfl,.inr (.c (.d _))⟩,trivial⟩ ⟨rfl,trivial⟩ rfl rfl ⟨.inr ⟨_,_,_,rfl,by first|(simp;omega)|(simp only [List.length_map];omega)⟩,trivial⟩ rfl rfl rfl trivial ⟨(fun _ _ _ _=>trivial),trivial⟩ rfl rfl rfl rfl) rfl ?_
  refine ae ?_
  refine aw ?_
  refine ab aa 2 rfl ?_
  refine ax (aJ rfl rfl rfl (aE (by first|omega|(simp;done)|(simp;omega)))) rfl ?_
  refine ab aa 1 rfl ?_
  refine bX ?_
  refine bn ?_
  refine then_ok ?_
  refine ⟨(i,(j) - (i),r1),⟨by omega,by omega,by omega,by omega,by rw [<-hr1,<-yG (by omega) (by omega)];exact hi0_4,by omega⟩,by first|omega|(simp;done)|(simp;omega),aD.bZ id (by refine ⟨?_,?_,?_,?_,?_,trivial⟩<;>first|rfl|(simp only [bq];done)|(congr 3;omega)|(congr 4;omega)|(simp only [br];rfl)|(exact cG rfl (by omega))) (⟨by first|rfl|(simp only [bq];done)|(congr 3;omega)|(congr 4;omega)|(simp only [br];rfl),trivial⟩) rfl⟩
 have hc1':=of_decide_eq_false hc1
 refine cp ?_
 refine aP ?_
 refine aP ?_
 refine bP ?_
 refine then_ok ?_
 refine aw ?_
 refine ab aa 3 rfl ?_
 refine ax (aJ rfl rfl rfl (aE (by first|omega|(simp;done)|(simp;omega)))) rfl ?_
 refine ab aa 3 rfl ?_
 obtain ⟨r2,hr2⟩:∃ (r2:List al),fV ((m) - (i)) m i d1=r2:=⟨_,rfl⟩
 have hlr2:r2.length=d1.length:=by rw [<-hr2];exact iq _ _ _ _
 refine aL 1 [0] (dH id id (lk ((↑m:Int) - (↑i:Int)) (↑m:Int) (↑i:Int) d1 N ((m) - (i)) m i fn aT hp hen (by first|omega|(simp;done)|(simp;omega)) (by first|omega|(simp;done)|(simp;omega)) (by first|omega|(simp;done)|(simp;omega)) (by first|omega|(simp;done)|(simp;omega)) (by first|omega|(simp;done)|(simp;omega)) (by first|omega|(simp;done)|(simp;omega)) (by first|omega|(simp;done)|(simp;omega)) r2 hr2) xT rfl rfl ⟨⟨_,rfl,.inl ⟨rfl,rfl⟩⟩,⟨_,rfl,.inr (.c (.d _))⟩,⟨_,rfl,.inr (.c (.d _))⟩,⟨_,rfl,.inr (.c (.d _))⟩,⟨_,rfl,.inr (.c (.d _))⟩,trivial⟩ ⟨rfl,trivial⟩ rfl rfl ⟨.inr ⟨_,_,_,rfl,by first|(simp;omega)|(simp only [List.length_map];omega)⟩,trivial⟩ rfl rfl rfl trivial ⟨(fun _ _ _ _=>trivial),trivial⟩ rfl rfl rfl rfl) rfl ?_
 refine bX ?_
 have hX:iI m (m - a) (b - m) d=r2:=by
   have hij:i=j:=by omega
   subst hij;rw [<-hi0_4,yI (by omega)];exact hr2
 rw [hX] at hr;clear hX
 subst hr
 refine cC aa [0] 1 rfl rfl rfl rfl rfl rfl ?_ ?_
 all_goals first|rfl|(simp [ar];done)|(simp [ar];omega)
theorem tp (ai mi bi:Int) (d:List al) (N a m b:Nat) (fn:FuncId) (aT:List (List D)) (hp:∀ x y:al,Fn Try.prog fn ([.g [cI x.ay,cI x.ba,cI x.kind,cI x.sum],.g [cI y.ay,cI y.ba,cI y.kind,cI y.sum]]++aT.map fun r=>GV.c (.q r 0)) (aI (gM x y)) []) (hen:bc Try.prog fn) (ea_:ai=(↑a:Int)) (em_:mi=(↑m:Int)) (eb_:bi=(↑b:Int)) (hl:d.length * 32<=140737488355328) (hN:N=d.length) (h0_:a < m) (h1_:m < b) (h2_:b<=d.length) (r:List al) (hr:iI m (m - a) (b - m) d=r):cz Try.prog 93 [(.c (.s 0 0 4 N)),(.c (cI ai)),(.c (cI mi)),(.c (cI bi)),(.c (.d (.f fn aT)))] [(0,(cF d))] [0] (.t []) [(0,(cF r))]:=by
  subst ea_ em_ eb_
  exact Bl d N a m b fn aT hp hen hl hN h0_ h1_ h2_ r hr
end Go.Proofs.Ytegepioggeggaaa.Dev
