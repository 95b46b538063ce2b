/- A part of the proof: Auth2, Stand1, Stand2, Stand4, Stand5, Sort1, Sort2, Sort3. No condition. -/
import Derived.Test.YtegepioggeggaaaD08
set_option linter.unusedVariables false
set_option linter.unusedSimpArgs false
set_option maxHeartbeats 1000000
set_option maxRecDepth 100000
namespace Go.Proofs.Ytegepioggeggaaa.Dev
open Go.RowKit

theorem wv (a:bH) (t:Int) (b:bH) (hr:eh a t=b):Fn Try.prog 104 [(.g [(cI a.aO),(cI a.aD),(cI a.sum),(cI a.captured),(cI a.bA),(cI a.bp),(cI a.db),(cB a.shut)]),(.c (cI t))] (.v (.g [(cI b.aO),(cI b.aD),(cI b.sum),(cI b.captured),(cI b.bA),(cI b.bp),(cI b.db),(cB b.shut)])) []:=by
 refine Fn.mk' 11 [(0,(aG [(cI a.aO),(cI a.aD),(cI a.sum),(cI a.captured),(cI a.bA),(cI a.bp),(cI a.db),(cB a.shut)])),(1,(aI t))] Try.func104 rfl rfl rfl rfl ?_
 intro W0 T0
 refine ae aa 2 rfl ?_
 refine ag ?_
 refine ae aa 4 rfl ?_
 refine aj rfl (fun hc1=>?_) (fun hc1=>?_)
 ·
  have hc1':=of_decide_eq_true hc1
  refine au ?_
  refine ad aa 2 rfl ?_
  refine af ?_
  refine ae aa 2 rfl ?_
  refine az ?_
  have hX:eh a t=(⟨a.aO,a.aD,a.sum,a.captured,a.bA,a.bp,a.db,true⟩:bH):=by
    refine vK rfl rfl rfl rfl rfl rfl rfl ?_;by_cases hT:a.db<=t<;>first|(exfalso;omega)|simp [eh,hT]
  rw [hX] at hr;clear hX
  subst hr
  refine an aa [1] 0 rfl rfl rfl rfl rfl rfl ?_ ?_
  all_goals first|rfl|(simp [aA];done)|(simp [aA];omega)
 have hc1':=of_decide_eq_false hc1
 refine aP ?_
 refine ae aa 2 rfl ?_
 refine az ?_
 have hX:eh a t=a:=by
   refine vK rfl rfl rfl rfl rfl rfl rfl ?_;by_cases hT:a.db<=t<;>first|(exfalso;omega)|simp [eh,hT]
 rw [hX] at hr;clear hX
 subst hr
 refine an aa [1] 0 rfl rfl rfl rfl rfl rfl ?_ ?_
 all_goals first|rfl|(simp [aA];done)|(simp [aA];omega)
theorem kr (a:bH) (ha:bK a=0) (e:Int) (hr:bP a=e):Fn Try.prog 27 [(.g [(cI a.aO),(cI a.aD),(cI a.sum),(cI a.captured),(cI a.bA),(cI a.bp),(cI a.db),(cB a.shut)])] (.v (.c (cI e))) []:=by
 refine Fn.mk' 10 [(0,(aG [(cI a.aO),(cI a.aD),(cI a.sum),(cI a.captured),(cI a.bA),(cI a.bp),(cI a.db),(cB a.shut)]))] Try.func27 rfl rfl rfl rfl ?_
 intro W0 T0
 have hw:=eN ha
 refine ae aa 2 rfl ?_
 refine ag ?_
 refine ae aa 2 rfl ?_
 refine aj rfl (fun hc1=>?_) (fun hc1=>?_)
 ·
  have hc1':=hc1;try simp only [bq,bM] at hc1'
  refine ae aa 1 rfl ?_
  refine az ?_
  refine ar ?_
  have hX:bP a=0:=by
    (unfold bP;try dsimp only);(repeat' split)<;>first|rfl|omega|(exfalso;omega)|(subst_vars;rfl)|(simp_all;done)|(simp_all;omega)
  rw [hX] at hr;clear hX
  subst hr
  refine an aa [] 0 rfl rfl rfl rfl rfl rfl ?_ ?_
  all_goals first|rfl|(simp [aA];done)|(simp [aA];omega)
 have hc1':=hc1;try simp only [bq,bM] at hc1'
 refine aP ?_
 refine aH aa 4 rfl ?_
 refine ay (aJ rfl rfl rfl (aL (by first|omega|(simp;done)|(simp;omega)))) rfl ?_
 refine ad aa 1 rfl ?_
 refine af ?_
 refine az ?_
 have hX:bP a=(a.sum - a.captured):=by
   (unfold bP;try dsimp only);(repeat' split)<;>first|rfl|omega|(exfalso;omega)|(subst_vars;rfl)|(simp_all;done)|(simp_all;omega)
 rw [hX] at hr;clear hX
 subst hr
 refine an aa [] 0 rfl rfl rfl rfl rfl rfl ?_ ?_
 all_goals first|rfl|(simp [aA];done)|(simp [aA];omega)
theorem pL (a:bH) (h:bK a=0):cJ Try.prog 101 [(.c (.p 0 0 0 0))] [(0,(.box 67 [(cI a.aO),(cI a.aD),(cI a.sum),(cI a.captured),(cI a.bA),(cI a.bp),(cI a.db),(cB a.shut)]))] [0] (aI (a.captured - a.bA - a.bp)) [(0,(.box 67 [(cI a.aO),(cI a.aD),(cI a.sum),(cI a.captured),(cI a.bA),(cI a.bp),(cI a.db),(cB a.shut)]))]:=by
 refine cJ.mk 17 [(0,(aC (.p 0 0 0 0)))] 1 Try.func101 rfl rfl rfl rfl rfl rfl rfl rfl rfl ?_
 intro W0 F0 T0 pg
 have hw:=eN h
 refine ae aa 1 rfl ?_
 refine ag ?_
 refine aW [0] [0] mixed rfl rfl ?_
 refine aw (kn:=[]) aa 8 rfl trivial ?_
 refine aM (n':=1) [6,10] [] rfl rfl (.inl ⟨(ah.plain rfl),aF.cast (aJ rfl rfl rfl (aL (by first|omega|(simp;done)|(simp;omega)))) rfl⟩) rfl ?_
 refine aw (kn:=[]) aa 4 rfl trivial ?_
 refine aM (n':=1) [11,15] [] rfl rfl (.inl ⟨(ah.plain rfl),aF.cast (aJ rfl rfl rfl (aL (by first|omega|(simp;done)|(simp;omega)))) rfl⟩) rfl ?_
 refine aw (kn:=[]) aa 1 rfl trivial ?_
 refine bw [0] rfl rfl rfl rfl (by kernel_rfl) ?_
 refine af ?_
 refine az ?_
 refine an aa [0] 1 rfl rfl rfl rfl rfl rfl ?_ ?_
 all_goals first|rfl|(simp [aA];done)|(simp [aA];omega)
theorem wq (a:bH) (kind n:Int) (h:bK a=0) (h1:1<=n) (h2:n<=1000000) (b:bH) (e:Int) (hr:dK a kind n=(b,e)):cJ Try.prog 102 [(.c (.p 0 0 0 0)),(.c (cI kind)),(.c (cI n))] [(0,(.box 67 [(cI a.aO),(cI a.aD),(cI a.sum),(cI a.captured),(cI a.bA),(cI a.bp),(cI a.db),(cB a.shut)]))] [0] (.v (.c (cI e))) [(0,(.box 67 [(cI b.aO),(cI b.aD),(cI b.sum),(cI b.captured),(cI b.bA),(cI b.bp),(cI b.db),(cB b.shut)]))]:=by
 refine cJ.mk 91 [(0,(aC (.p 0 0 0 0))),(1,(aI kind)),(2,(aI n))] 1 Try.func102 rfl rfl rfl rfl rfl rfl rfl rfl rfl ?_
 intro W0 F0 T0 pg
 have hw:=eN h
 refine ae aa 1 rfl ?_
 refine ag ?_
 refine aW [0,1,2] [0] mixed rfl rfl ?_
 refine aw (kn:=[]) aa 8 rfl trivial ?_
 refine aM (n':=1) [11,15] [] rfl rfl (.inl ⟨(ah.plain rfl),aF.cast (aJ rfl rfl rfl (aL (by first|omega|(simp;done)|(simp;omega)))) rfl⟩) rfl ?_
 refine aw (kn:=[]) aa 1 rfl trivial ?_
 refine bw [0] rfl rfl rfl rfl (by kernel_rfl) ?_
 refine af ?_
 refine ag ?_
 refine aU ?_
 refine ae aa 5 rfl ?_
 refine aj rfl (fun hc1=>?_) (fun hc1=>?_)
 ·
  have hc1':=hc1;try simp only [bq,bM] at hc1'
  refine ae aa 1 rfl ?_
  refine az ?_
  refine bo ?_
  refine ar ?_
  have hX:dK a kind n=(a,9):=by
    (unfold dK;try dsimp only);(repeat' split)<;>first|rfl|omega|(exfalso;omega)|(subst_vars;rfl)|(simp_all;done)|(simp_all;omega)
  rw [hX] at hr;clear hX
  simp only [Prod.mk.injEq] at hr;obtain ⟨rfl,rfl⟩:=hr
  refine an aa [0] 1 rfl rfl rfl rfl rfl rfl ?_ ?_
  all_goals first|rfl|(simp [aA];done)|(simp [aA];omega)
 have hc1':=hc1;try simp only [bq,bM] at hc1'
 refine ae aa 3 rfl ?_
 refine aj rfl (fun hc2=>?_) (fun hc2=>?_)
 ·
  have hc2':=of_decide_eq_true hc2
  refine ag ?_
  refine aH aa 5 rfl ?_
  refine ay (aJ rfl rfl rfl (aL (by first|omega|(simp;done)|(simp;omega)))) rfl ?_
  refine ad aa 1 rfl ?_
  refine af ?_
  refine aj rfl (fun hc3=>?_) (fun hc3=>?_)
  ·
   have hc3':=of_decide_eq_true hc3
   refine ae aa 1 rfl ?_
   refine az ?_
   refine ar ?_
   refine bo ?_
   refine ar ?_
   have hX:dK a kind n=(a,4):=by
     (unfold dK;try dsimp only);(repeat' split)<;>first|rfl|omega|(exfalso;omega)|(subst_vars;rfl)|(simp_all;done)|(simp_all;omega)
   rw [hX] at hr;clear hX
   simp only [Prod.mk.injEq] at hr;obtain ⟨rfl,rfl⟩:=hr
   refine an aa [0] 1 rfl rfl rfl rfl rfl rfl ?_ ?_
   all_goals first|rfl|(simp [aA];done)|(simp [aA];omega)
  have hc3':=of_decide_eq_false hc3
  refine aP ?_
  refine aH aa 5 rfl ?_
  refine ay (aJ rfl rfl rfl (aL (by first|omega|(simp;done)|(simp;omega)))) rfl ?_
  refine ad aa 3 rfl ?_
  refine af ?_
  refine ae aa 1 rfl ?_
  refine az ?_
  refine bo ?_
  refine ar ?_
  have hX:dK a kind n=((⟨a.aO,a.aD,a.sum+n,a.captured,a.bA,a.bp,a.db,a.shut⟩:bH),0):=by
    (unfold dK;try dsimp only);(repeat' split)<;>first|rfl|omega|(exfalso;omega)|(subst_vars;rfl)|(simp_all;done)|(simp_all;omega)
  rw [hX] at hr;clear hX
  simp only [Prod.mk.injEq] at hr;obtain ⟨rfl,rfl⟩:=hr
  refine an aa [0] 1 rfl rfl rfl rfl rfl rfl ?_ ?_
  all_goals first|rfl|(simp [aA];done)|(simp [aA];omega)
 have hc2':=of_decide_eq_false hc2
 refine ae aa 4 rfl ?_
 refine aj rfl (fun hc4=>?_) (fun hc4=>?_)
 ·
  have hc4':=of_decide_eq_true hc4
  refine ae aa 1 rfl ?_
  refine az ?_
  refine bo ?_
  refine ar ?_
  have hX:dK a kind n=(a,10):=by
    (unfold dK;try dsimp only);(repeat' split)<;>first|rfl|omega|(exfalso;omega)|(subst_vars;rfl)|(simp_all;done)|(simp_all;omega)
  rw [hX] at hr;clear hX
  simp only [Prod.mk.injEq] at hr;obtain ⟨rfl,rfl⟩:=hr
  refine an aa [0] 1 rfl rfl rfl rfl rfl rfl ?_ ?_
  all_goals first|rfl|(simp [aA];done)|(simp [aA];omega)
 have hc4':=of_decide_eq_false hc4
 refine ae aa 3 rfl ?_
 refine aj rfl (fun hc5=>?_) (fun hc5=>?_)
 ·
  have hc5':=of_decide_eq_true hc5
  refine aH aa 5 rfl ?_
  refine ay (aJ rfl rfl rfl (aL (by first|omega|(simp;done)|(simp;omega)))) rfl ?_
  refine ad aa 3 rfl ?_
  refine af ?_
  refine ag ?_
  refine aW [0,1,2] [0] mixed rfl rfl ?_
  refine aw (kn:=[]) aa 12 rfl trivial ?_
  refine bw [0] rfl rfl rfl rfl (by kernel_rfl) ?_
  refine ad aa 1 rfl ?_
  refine af ?_
  refine ae aa 1 rfl ?_
  refine az ?_
  refine bo ?_
  refine ar ?_
  have hX:dK a kind n=((⟨a.aO,a.aD,a.sum - n,a.captured,a.bA,a.bp,a.db,decide ((a.sum - n)=a.captured)⟩:bH),0):=by
    (unfold dK;try dsimp only);(repeat' split)<;>first|rfl|omega|(exfalso;omega)|(subst_vars;rfl)|(simp_all;done)|(simp_all;omega)
  rw [hX] at hr;clear hX
  simp only [Prod.mk.injEq] at hr;obtain ⟨rfl,rfl⟩:=hr
  refine an aa [0] 1 rfl rfl rfl rfl rfl rfl ?_ ?_
  all_goals first|rfl|(simp [aA];done)|(simp [aA];omega)
 have hc5':=of_decide_eq_false hc5
 refine cD ?_
 refine bl ?_
 refine then_ok ?_
 refine aH aa 5 rfl ?_
 refine ay (aJ rfl rfl rfl (aL (by first|omega|(simp;done)|(simp;omega)))) rfl ?_
 refine ad aa 3 rfl ?_
 refine af ?_
 refine ag ?_
 rcases Bool.eq_false_or_eq_true (decide (kind=3)) with hb6|hb6
 ·
  have hb6':=of_decide_eq_true hb6
  refine aW [0,1] [0] mixed rfl rfl ?_
  refine aw (kn:=[(77,true)]) aa 16 rfl ⟨hb6,trivial⟩ ?_
  refine bw [0] rfl rfl rfl rfl (by kernel_rfl) ?_
  refine ad aa 1 rfl ?_
  refine af ?_
  refine ae aa 1 rfl ?_
  refine az ?_
  have hX:dK a kind n=((⟨a.aO,a.aD,a.sum,a.captured+n,a.bA,a.bp,a.db,true⟩:bH),0):=by
    (unfold dK;try dsimp only);(repeat' split)<;>first|rfl|omega|(exfalso;omega)|(subst_vars;rfl)|(simp_all;done)|(simp_all;omega)
  rw [hX] at hr;clear hX
  simp only [Prod.mk.injEq] at hr;obtain ⟨rfl,rfl⟩:=hr
  refine an aa [0] 1 rfl rfl rfl rfl rfl rfl ?_ ?_
  all_goals first|rfl|(simp [aA];done)|(simp [aA];omega)
 have hb6':=of_decide_eq_false hb6
 refine aW [0,1] [0] mixed rfl rfl ?_
 refine aw (kn:=[(77,false)]) aa 16 rfl ⟨hb6,trivial⟩ ?_
 refine bw [0] rfl rfl rfl rfl (by kernel_rfl) ?_
 refine ad aa 1 rfl ?_
 refine af ?_
 refine ae aa 1 rfl ?_
 refine az ?_
 have hX:dK a kind n=((⟨a.aO,a.aD,a.sum,a.captured+n,a.bA,a.bp,a.db,decide ((a.captured+n)=a.sum)⟩:bH),0):=by
   (unfold dK;try dsimp only);(repeat' split)<;>first|rfl|omega|(exfalso;omega)|(subst_vars;rfl)|(simp_all;done)|(simp_all;omega)
 rw [hX] at hr;clear hX
 simp only [Prod.mk.injEq] at hr;obtain ⟨rfl,rfl⟩:=hr
 refine an aa [0] 1 rfl rfl rfl rfl rfl rfl ?_ ?_
 all_goals first|rfl|(simp [aA];done)|(simp [aA];omega)
theorem wu (a:bH) (kind n:Int) (b:bH) (e:Int) (hr:cv a kind n=(b,e)):Fn Try.prog 81 [(.g [(cI a.aO),(cI a.aD),(cI a.sum),(cI a.captured),(cI a.bA),(cI a.bp),(cI a.db),(cB a.shut)]),(.c (cI kind)),(.c (cI n))] (.t [(.g [(cI b.aO),(cI b.aD),(cI b.sum),(cI b.captured),(cI b.bA),(cI b.bp),(cI b.db),(cB b.shut)]),(.c (cI e))]) []:=by
 refine Fn.mk' 76 [(0,(aG [(cI a.aO),(cI a.aD),(cI a.sum),(cI a.captured),(cI a.bA),(cI a.bp),(cI a.db),(cB a.shut)])),(1,(aI kind)),(2,(aI n))] Try.func81 rfl rfl rfl rfl ?_
 intro W0 T0
 have hw:=@eN a
 refine ae aa 3 rfl ?_
 refine ag ?_
 refine aH aa 1 rfl ?_
 obtain ⟨e0,hr0⟩:∃ (e0:Int),bK a=e0:=⟨_,rfl⟩
 refine aR 2 [1,0] (bX 2 (oJ a e0 hr0) Eu rfl rfl ⟨⟨_,rfl,.g ⟨.d _,.d _,.d _,.d _,.d _,.d _,.d _,.d _,trivial⟩⟩,trivial⟩ trivial trivial rfl rfl rfl rfl) rfl ?_
 refine ad aa 1 rfl ?_
 refine af ?_
 refine ae aa 2 rfl ?_
 refine aj rfl (fun hc1=>?_) (fun hc1=>?_)
 ·
  have hc1':=of_decide_eq_true hc1
  refine ae aa 4 rfl ?_
  refine az ?_
  refine ar ?_
  have hX:cv a kind n=((⟨0,0,0,0,0,0,0,false⟩:bH),e0):=by
    (unfold cv;try dsimp only);(try simp only [hr0]);(repeat' split)<;>first|rfl|omega|(exfalso;omega)|(subst_vars;rfl)|(simp_all;done)|(simp_all;omega)
  rw [hX] at hr;clear hX
  simp only [Prod.mk.injEq] at hr;obtain ⟨rfl,rfl⟩:=hr
  refine an aa [1] 0 rfl rfl rfl rfl rfl rfl ?_ ?_
  all_goals first|rfl|(simp [aA];done)|(simp [aA];omega)
 have hc1':=of_decide_eq_false hc1
 refine aP ?_
 refine ag ?_
 refine ch 21 ((decide (kind < 1))||(decide (kind > 8))) ?_ ?_
 ·
  refine au ?_
  refine ad aa 3 rfl ?_
  refine bE (t:=18) rfl (fun hb2=>?_) (fun hb2=>?_)
  ·
   have hb2':=of_decide_eq_true hb2
   refine ad aa 3 rfl ?_
   refine af ?_
   exact aE.bB 7 rfl rfl (by first|(simp [hb2];done)|(simp_all;done)|(exfalso;simp_all;done)|(simp_all;omega)) rfl
  have hb2':=of_decide_eq_false hb2
  refine ad aa 3 rfl ?_
  refine af ?_
  exact aE.bB 7 rfl rfl (by first|(simp [hb2];done)|(simp_all;done)|(exfalso;simp_all;done)|(simp_all;omega)) rfl
 refine aj rfl (fun hc3=>?_) (fun hc3=>?_)
 ·
  have hc3':=hc3;try simp only [bq,bM] at hc3'
  refine ae aa 3 rfl ?_
  refine az ?_
  refine ar ?_
  have hX:cv a kind n=((⟨0,0,0,0,0,0,0,false⟩:bH),1):=by
    (unfold cv;try dsimp only);(try simp only [hr0]);(repeat' split)<;>first|rfl|omega|(exfalso;omega)|(subst_vars;rfl)|(simp_all;done)|(simp_all;omega)
  rw [hX] at hr;clear hX
  simp only [Prod.mk.injEq] at hr;obtain ⟨rfl,rfl⟩:=hr
  refine an aa [1] 0 rfl rfl rfl rfl rfl rfl ?_ ?_
  all_goals first|rfl|(simp [aA];done)|(simp [aA];omega)
 have hc3':=hc3;try simp only [bq,bM] at hc3'
 refine aP ?_
 refine ag ?_
 refine ch 28 ((decide (n < 1))||(decide (n > 1000000))) ?_ ?_
 ·
  refine au ?_
  refine ad aa 3 rfl ?_
  refine bE (t:=25) rfl (fun hb4=>?_) (fun hb4=>?_)
  ·
   have hb4':=of_decide_eq_true hb4
   refine ad aa 3 rfl ?_
   refine af ?_
   exact aE.bB 7 rfl rfl (by first|(simp [hb4];done)|(simp_all;done)|(exfalso;simp_all;done)|(simp_all;omega)) rfl
  have hb4':=of_decide_eq_false hb4
  refine ad aa 3 rfl ?_
  refine af ?_
  exact aE.bB 7 rfl rfl (by first|(simp [hb4];done)|(simp_all;done)|(exfalso;simp_all;done)|(simp_all;omega)) rfl
 refine aj rfl (fun hc5=>?_) (fun hc5=>?_)
 ·
  have hc5':=hc5;try simp only [bq,bM] at hc5'
  refine ae aa 3 rfl ?_
  refine az ?_
  refine ar ?_
  have hX:cv a kind n=((⟨0,0,0,0,0,0,0,false⟩:bH),3):=by
    (unfold cv;try dsimp only);(try simp only [hr0]);(repeat' split)<;>first|rfl|omega|(exfalso;omega)|(subst_vars;rfl)|(simp_all;done)|(simp_all;omega)
  rw [hX] at hr;clear hX
  simp only [Prod.mk.injEq] at hr;obtain ⟨rfl,rfl⟩:=hr
  refine an aa [1] 0 rfl rfl rfl rfl rfl rfl ?_ ?_
  all_goals first|rfl|(simp [aA];done)|(simp [aA];omega)
 have hc5':=hc5;try simp only [bq,bM] at hc5'
 refine aP ?_
 refine ae aa 1 rfl ?_
 refine ag ?_
 refine ae aa 1 rfl ?_
 refine aU ?_
 refine ag ?_
 refine ae aa 2 rfl ?_
 refine aj rfl (fun hc6=>?_) (fun hc6=>?_)
 ·
  have hc6':=of_decide_eq_true hc6
  refine aP ?_
  refine aj rfl (fun _=>?_) (fun hno=>absurd (hc6.symm.trans hno) (by decide))
  refine aH aa 1 rfl ?_
  refine aR 2 [0,1] (cK id id (pL a (by first|assumption|omega)) Cu rfl rfl ⟨⟨_,rfl,.inl ⟨rfl,rfl⟩⟩,trivial⟩ ⟨rfl,trivial⟩ rfl rfl rfl rfl rfl rfl trivial ⟨⟨trivial,trivial,trivial,trivial,trivial,trivial,trivial,trivial,trivial⟩,trivial⟩ rfl rfl rfl rfl) rfl ?_
  refine ad aa 1 rfl ?_
  refine af ?_
  refine aj rfl (fun hc8=>?_) (fun hc8=>?_)
  ·
   have hc8':=of_decide_eq_true hc8
   refine au ?_
   refine ad aa 1 rfl ?_
   refine cc ?_
   refine bl ?_
   refine then_ok ?_
   refine ag ?_
   refine aH aa 1 rfl ?_
   refine ay (aJ rfl rfl rfl (show _=some (Value.bool true) from rfl)) rfl ?_
   refine af ?_
   refine aj rfl (fun _=>?_) (fun hno=>by cases hno)
   refine ae aa 4 rfl ?_
   refine az ?_
   refine ar ?_
   have hX:cv a kind n=((⟨0,0,0,0,0,0,0,false⟩:bH),10):=by
     (unfold cv;try dsimp only);(try simp only [hr0]);(repeat' split)<;>first|rfl|omega|(exfalso;omega)|(subst_vars;rfl)|(simp_all;done)|(simp_all;omega)
   rw [hX] at hr;clear hX
   simp only [Prod.mk.injEq] at hr;obtain ⟨rfl,rfl⟩:=hr
   refine an aa [1] 0 rfl rfl rfl rfl rfl rfl ?_ ?_
   all_goals first|rfl|(simp [aA];done)|(simp [aA];omega)
  have hc8':=of_decide_eq_false hc8
  refine ae aa 2 rfl ?_
  refine aj rfl (fun _=>?_) (fun hno=>absurd (hc6.symm.trans hno) (by decide))
  refine au ?_
  refine ad aa 3 rfl ?_
  refine ay (aJ rfl rfl rfl (aL (by first|omega|(simp;done)|(simp;omega)))) rfl ?_
  refine ad aa 2 rfl ?_
  refine cc ?_
  refine bl ?_
  refine then_ok ?_
  refine ag ?_
  refine aH aa 1 rfl ?_
  refine ay (aJ rfl rfl rfl (show _=some (Value.bool false) from rfl)) rfl ?_
  refine af ?_
  refine aj rfl (fun hno=>by cases hno) (fun _=>?_)
  refine aP ?_
  refine ae aa 3 rfl ?_
  refine az ?_
  have hX:cv a kind n=((⟨a.aO,a.aD,a.sum,a.captured,a.bA+n,a.bp,a.db,a.shut⟩:bH),0):=by
    (unfold cv;try dsimp only);(try simp only [hr0]);(repeat' split)<;>first|rfl|omega|(exfalso;omega)|(subst_vars;rfl)|(simp_all;done)|(simp_all;omega)
  rw [hX] at hr;clear hX
  simp only [Prod.mk.injEq] at hr;obtain ⟨rfl,rfl⟩:=hr
  refine an aa [1] 0 rfl rfl rfl rfl rfl rfl ?_ ?_
  all_goals first|rfl|(simp [aA];done)|(simp [aA];omega)
 have hc6':=of_decide_eq_false hc6
 refine au ?_
 refine ad aa 2 rfl ?_
 refine af ?_
 refine aj rfl (fun hc12=>?_) (fun hc12=>?_)
 ·
  have hc12':=of_decide_eq_true hc12
  refine aH aa 1 rfl ?_
  refine aR 2 [0,1] (cK id id (pL a (by first|assumption|omega)) Cu rfl rfl ⟨⟨_,rfl,.inl ⟨rfl,rfl⟩⟩,trivial⟩ ⟨rfl,trivial⟩ rfl rfl rfl rfl rfl rfl trivial ⟨⟨trivial,trivial,trivial,trivial,trivial,trivial,trivial,trivial,trivial⟩,trivial⟩ rfl rfl rfl rfl) rfl ?_
  refine ad aa 1 rfl ?_
  refine af ?_
  refine aj rfl (fun hc13=>?_) (fun hc13=>?_)
  ·
   have hc13':=of_decide_eq_true hc13
   refine au ?_
   refine ad aa 1 rfl ?_
   refine cc ?_
   refine bl ?_
   refine then_ok ?_
   refine ag ?_
   refine aH aa 1 rfl ?_
   refine ay (aJ rfl rfl rfl (show _=some (Value.bool true) from rfl)) rfl ?_
   refine af ?_
   refine aj rfl (fun _=>?_) (fun hno=>by cases hno)
   refine ae aa 4 rfl ?_
   refine az ?_
   refine ar ?_
   have hX:cv a kind n=((⟨0,0,0,0,0,0,0,false⟩:bH),10):=by
     (unfold cv;try dsimp only);(try simp only [hr0]);(repeat' split)<;>first|rfl|omega|(exfalso;omega)|(subst_vars;rfl)|(simp_all;done)|(simp_all;omega)
   rw [hX] at hr;clear hX
   simp only [Prod.mk.injEq] at hr;obtain ⟨rfl,rfl⟩:=hr
   refine an aa [1] 0 rfl rfl rfl rfl rfl rfl ?_ ?_
   all_goals first|rfl|(simp [aA];done)|(simp [aA];omega)
  have hc13':=of_decide_eq_false hc13
  refine ae aa 2 rfl ?_
  refine aj rfl (fun hno=>absurd (hc6.symm.trans hno) (by decide)) (fun _=>?_)
  refine au ?_
  refine ad aa 3 rfl ?_
  refine ay (aJ rfl rfl rfl (aL (by first|omega|(simp;done)|(simp;omega)))) rfl ?_
  refine ad aa 2 rfl ?_
  refine cc ?_
  refine bl ?_
  refine then_ok ?_
  refine ag ?_
  refine aH aa 1 rfl ?_
  refine ay (aJ rfl rfl rfl (show _=some (Value.bool false) from rfl)) rfl ?_
  refine af ?_
  refine aj rfl (fun hno=>by cases hno) (fun _=>?_)
  refine aP ?_
  refine ae aa 3 rfl ?_
  refine az ?_
  have hX:cv a kind n=((⟨a.aO,a.aD,a.sum,a.captured,a.bA,a.bp+n,a.db,a.shut⟩:bH),0):=by
    (unfold cv;try dsimp only);(try simp only [hr0]);(repeat' split)<;>first|rfl|omega|(exfalso;omega)|(subst_vars;rfl)|(simp_all;done)|(simp_all;omega)
  rw [hX] at hr;clear hX
  simp only [Prod.mk.injEq] at hr;obtain ⟨rfl,rfl⟩:=hr
  refine an aa [1] 0 rfl rfl rfl rfl rfl rfl ?_ ?_
  all_goals first|rfl|(simp [aA];done)|(simp [aA];omega)
 have hc12':=of_decide_eq_false hc12
 refine ag ?_
 refine ae aa 2 rfl ?_
 refine aj rfl (fun hc17=>?_) (fun hc17=>?_)
 ·
  have hc17':=of_decide_eq_true hc17
  refine aP ?_
  refine aj rfl (fun _=>?_) (fun hno=>absurd (hc17.symm.trans hno) (by decide))
  refine ag ?_
  refine ae aa 4 rfl ?_
  refine aj rfl (fun hc19=>?_) (fun hc19=>?_)
  ·
   have hc19':=of_decide_eq_true hc19
   refine ae aa 1 rfl ?_
   refine bZ ?_
   refine aN ?_
   refine bC ?_
   refine then_ok ?_
   refine ag ?_
   refine aH aa 1 rfl ?_
   refine ay (aJ rfl rfl rfl (show _=some (Value.bool true) from rfl)) rfl ?_
   refine af ?_
   refine aj rfl (fun _=>?_) (fun hno=>by cases hno)
   refine ae aa 4 rfl ?_
   refine az ?_
   refine ar ?_
   have hX:cv a kind n=((⟨0,0,0,0,0,0,0,false⟩:bH),10):=by
     (unfold cv;try dsimp only);(try simp only [hr0]);(repeat' split)<;>first|rfl|omega|(exfalso;omega)|(subst_vars;rfl)|(simp_all;done)|(simp_all;omega)
   rw [hX] at hr;clear hX
   simp only [Prod.mk.injEq] at hr;obtain ⟨rfl,rfl⟩:=hr
   refine an aa [1] 0 rfl rfl rfl rfl rfl rfl ?_ ?_
   all_goals first|rfl|(simp [aA];done)|(simp [aA];omega)
  have hc19':=of_decide_eq_false hc19
  refine aP ?_
  refine aH aa 3 rfl ?_
  refine ay (aJ rfl rfl rfl (aL (by first|omega|(simp;done)|(simp;omega)))) rfl ?_
  refine ad aa 2 rfl ?_
  refine af ?_
  refine ae aa 2 rfl ?_
  refine aj rfl (fun _=>?_) (fun hno=>absurd (hc17.symm.trans hno) (by decide))
  refine au ?_
  refine ad aa 3 rfl ?_
  refine ay (aJ rfl rfl rfl (aL (by first|omega|(simp;done)|(simp;omega)))) rfl ?_
  refine ad aa 2 rfl ?_
  refine cc ?_
  refine bl ?_
  refine then_ok ?_
  refine ag ?_
  refine aH aa 1 rfl ?_
  refine ay (aJ rfl rfl rfl (show _=some (Value.bool false) from rfl)) rfl ?_
  refine af ?_
  refine aj rfl (fun hno=>by cases hno) (fun _=>?_)
  refine aP ?_
  refine ae aa 3 rfl ?_
  refine az ?_
  have hX:cv a kind n=((⟨a.aO,a.aD,a.sum,a.captured,a.bA+n,a.bp - n,a.db,a.shut⟩:bH),0):=by
    (unfold cv;try dsimp only);(try simp only [hr0]);(repeat' split)<;>first|rfl|omega|(exfalso;omega)|(subst_vars;rfl)|(simp_all;done)|(simp_all;omega)
  rw [hX] at hr;clear hX
  simp only [Prod.mk.injEq] at hr;obtain ⟨rfl,rfl⟩:=hr
  refine an aa [1] 0 rfl rfl rfl rfl rfl rfl ?_ ?_
  all_goals first|rfl|(simp [aA];done)|(simp [aA];omega)
 have hc17':=of_decide_eq_false hc17
 refine au ?_
 refine ad aa 2 rfl ?_
 refine af ?_
 refine aj rfl (fun hc23=>?_) (fun hc23=>?_)
 ·
  have hc23':=of_decide_eq_true hc23
  refine ag ?_
  refine ae aa 4 rfl ?_
  refine aj rfl (fun hc24=>?_) (fun hc24=>?_)
  ·
   have hc24':=of_decide_eq_true hc24
   refine ae aa 1 rfl ?_
   refine bZ ?_
   refine aN ?_
   refine bC ?_
   refine then_ok ?_
   refine ag ?_
   refine aH aa 1 rfl ?_
   refine ay (aJ rfl rfl rfl (show _=some (Value.bool true) from rfl)) rfl ?_
   refine af ?_
   refine aj rfl (fun _=>?_) (fun hno=>by cases hno)
   refine ae aa 4 rfl ?_
   refine az ?_
   refine ar ?_
   have hX:cv a kind n=((⟨0,0,0,0,0,0,0,false⟩:bH),10):=by
     (unfold cv;try dsimp only);(try simp only [hr0]);(repeat' split)<;>first|rfl|omega|(exfalso;omega)|(subst_vars;rfl)|(simp_all;done)|(simp_all;omega)
   rw [hX] at hr;clear hX
   simp only [Prod.mk.injEq] at hr;obtain ⟨rfl,rfl⟩:=hr
   refine an aa [1] 0 rfl rfl rfl rfl rfl rfl ?_ ?_
   all_goals first|rfl|(simp [aA];done)|(simp [aA];omega)
  have hc24':=of_decide_eq_false hc24
  refine aP ?_
  refine aH aa 3 rfl ?_
  refine ay (aJ rfl rfl rfl (aL (by first|omega|(simp;done)|(simp;omega)))) rfl ?_
  refine ad aa 2 rfl ?_
  refine af ?_
  refine ae aa 2 rfl ?_
  refine aj rfl (fun hno=>absurd (hc17.symm.trans hno) (by decide)) (fun _=>?_)
  refine cD ?_
  refine bl ?_
  refine then_ok ?_
  refine ag ?_
  refine aH aa 1 rfl ?_
  refine ay (aJ rfl rfl rfl (show _=some (Value.bool false) from rfl)) rfl ?_
  refine af ?_
  refine aj rfl (fun hno=>by cases hno) (fun _=>?_)
  refine aP ?_
  refine ae aa 3 rfl ?_
  refine az ?_
  have hX:cv a kind n=((⟨a.aO,a.aD,a.sum,a.captured,a.bA,a.bp - n,a.db,a.shut⟩:bH),0):=by
    (unfold cv;try dsimp only);(try simp only [hr0]);(repeat' split)<;>first|rfl|omega|(exfalso;omega)|(subst_vars;rfl)|(simp_all;done)|(simp_all;omega)
  rw [hX] at hr;clear hX
  simp only [Prod.mk.injEq] at hr;obtain ⟨rfl,rfl⟩:=hr
  refine an aa [1] 0 rfl rfl rfl rfl rfl rfl ?_ ?_
  all_goals first|rfl|(simp [aA];done)|(simp [aA];omega)
 have hc23':=of_decide_eq_false hc23
 refine au ?_
 refine ad aa 2 rfl ?_
 obtain ⟨b1,e1,hr1⟩:∃ (b1:bH) (e1:Int),dK a kind n=(b1,e1):=⟨_,_,rfl⟩
 refine aR 2 [0,1] (cK id id (wq a kind n (by first|assumption|omega) (by omega) (by omega) b1 e1 hr1) FF rfl rfl ⟨⟨_,rfl,.inl ⟨rfl,rfl⟩⟩,⟨_,rfl,.inr (.c (.d _))⟩,⟨_,rfl,.inr (.c (.d _))⟩,trivial⟩ ⟨rfl,trivial⟩ rfl rfl rfl rfl rfl rfl trivial ⟨⟨trivial,trivial,trivial,trivial,trivial,trivial,trivial,trivial,trivial⟩,trivial⟩ rfl rfl rfl rfl) rfl ?_
 refine ad aa 1 rfl ?_
 refine cc ?_
 refine bl ?_
 refine then_ok ?_
 refine ag ?_
 refine ae aa 2 rfl ?_
 refine aj rfl (fun hc28=>?_) (fun hc28=>?_)
 ·
  have hc28':=of_decide_eq_true hc28
  refine ae aa 4 rfl ?_
  refine az ?_
  refine ar ?_
  have hX:cv a kind n=((⟨0,0,0,0,0,0,0,false⟩:bH),e1):=by
    (unfold cv;try dsimp only);(try simp only [hr0]);(try simp only [hr1]);(repeat' split)<;>first|rfl|omega|(exfalso;omega)|(subst_vars;rfl)|(simp_all;done)|(simp_all;omega)
  rw [hX] at hr;clear hX
  simp only [Prod.mk.injEq] at hr;obtain ⟨rfl,rfl⟩:=hr
  refine an aa [1] 0 rfl rfl rfl rfl rfl rfl ?_ ?_
  all_goals first|rfl|(simp [aA];done)|(simp [aA];omega)
 have hc28':=of_decide_eq_false hc28
 refine aP ?_
 refine ae aa 3 rfl ?_
 refine az ?_
 have hX:cv a kind n=(b1,0):=by
   (unfold cv;try dsimp only);(try simp only [hr0]);(try simp only [hr1]);(repeat' split)<;>first|rfl|omega|(exfalso;omega)|(subst_vars;rfl)|(simp_all;done)|(simp_all;omega)
 rw [hX] at hr;clear hX
 simp only [Prod.mk.injEq] at hr;obtain ⟨rfl,rfl⟩:=hr
 refine an aa [1] 0 rfl rfl rfl rfl rfl rfl ?_ ?_
 all_goals first|rfl|(simp [aA];done)|(simp [aA];omega)

theorem tK (cap:Int) (used:List Int) (advs:List cj):Fn Try.prog 30 [(.g [(cI cap),(cX used),(dV advs)])] (aI (bW ⟨cap,used,advs⟩)) []:=by
 refine Fn.mk' 109 [(0,(aG [(cI cap),(cX used),(dV advs)]))] Try.func30 rfl rfl rfl rfl ?_
 intro W0 T0
 refine cA 0 1 rfl rfl (fun hlen0_1=>?_)
 refine cA 0 2 rfl rfl (fun hlen0_2=>?_)
 refine ae aa 2 rfl ?_
 refine ag ?_
 refine ch 17 ((decide ((↑used.length:Int) > 8))||(decide ((↑advs.length:Int) > 20))) ?_ ?_
 ·
  refine au ?_
  refine ad aa 2 rfl ?_
  refine ay (bN rfl rfl rfl rfl rfl Try.underlying30) rfl ?_
  refine ad aa 2 rfl ?_
  refine bE (t:=12) rfl (fun hb1=>?_) (fun hb1=>?_)
  ·
   have hb1':=of_decide_eq_true hb1
   refine ad aa 5 rfl ?_
   refine af ?_
   exact aE.bB 11 rfl rfl (by first|(simp [hb1];done)|(simp_all;done)|(exfalso;simp_all;done)|(simp_all;omega)) rfl
  have hb1':=of_decide_eq_false hb1
  refine ad aa 2 rfl ?_
  refine cz (ah.yes rfl rfl rfl) (bN rfl rfl rfl rfl rfl Try.underlying39) rfl rfl ?_
  refine ad aa 2 rfl ?_
  refine af ?_
  exact aE.bB 11 rfl rfl (by first|(simp [hb1];done)|(simp_all;done)|(exfalso;simp_all;done)|(simp_all;omega)) rfl
 refine aj rfl (fun hc2=>?_) (fun hc2=>?_)
 ·
  have hc2':=hc2;try simp only [bq,bM] at hc2'
  refine ae aa 1 rfl ?_
  refine az ?_
  refine ar ?_
  refine an aa [] 0 rfl rfl rfl rfl rfl rfl ?_ ?_
  ·(have h:=nR (s:=⟨cap,used,advs⟩) (show 8 < used.length\/20 < advs.length by omega));show aI _=aI _;rw [h]
  ·rfl
 have hc2':=hc2;try simp only [bq,bM] at hc2'
 refine aP ?_
 refine ag ?_
 refine ch 25 ((decide (cap < 0))||(decide (cap > 1000000))) ?_ ?_
 ·
  refine au ?_
  refine ad aa 4 rfl ?_
  refine bE (t:=21) rfl (fun hb3=>?_) (fun hb3=>?_)
  ·
   have hb3':=of_decide_eq_true hb3
   refine ad aa 4 rfl ?_
   refine af ?_
   exact aE.bB 9 rfl rfl (by first|(simp [hb3];done)|(simp_all;done)|(exfalso;simp_all;done)|(simp_all;omega)) rfl
  have hb3':=of_decide_eq_false hb3
  refine ad aa 4 rfl ?_
  refine af ?_
  exact aE.bB 9 rfl rfl (by first|(simp [hb3];done)|(simp_all;done)|(exfalso;simp_all;done)|(simp_all;omega)) rfl
 refine aj rfl (fun hc4=>?_) (fun hc4=>?_)
 ·
  have hc4':=hc4;try simp only [bq,bM] at hc4'
  refine ae aa 1 rfl ?_
  refine az ?_
  refine ar ?_
  refine an aa [] 0 rfl rfl rfl rfl rfl rfl ?_ ?_
  ·(have h:=mB (s:=⟨cap,used,advs⟩) (show ¬(8 < (⟨cap,used,advs⟩:cC).used.length\/20 < (⟨cap,used,advs⟩:cC).aQ.length) by simp only;omega) (show gr cap=false by simp only [gr,decide_eq_false_iff_not];omega));show aI _=aI _;rw [h]
  ·rfl
 have hc4':=hc4;try simp only [bq,bM] at hc4'
 refine aP ?_
 refine aH aa 2 rfl ?_
 refine ay (bN rfl rfl rfl rfl rfl Try.underlying30) rfl ?_
 refine aR 2 [1,0] (oY 1 mW Cd rfl rfl rfl (n:=used.length) (by first|omega|(simp;omega)|(simp [dn];omega)) (by first|omega|(simp;omega)|(simp [dn];omega)) (by first|omega|(simp;omega)|(simp [dn];omega)) (by first|omega|(simp;omega)|(simp [dn];omega))) rfl ?_
 refine ad aa 1 rfl ?_
 refine af ?_
 refine ag ?_
 refine aH aa 2 rfl ?_
 refine ay (bN rfl rfl rfl rfl rfl Try.underlying39) rfl ?_
 refine ad aa 1 rfl ?_
 refine af ?_
 refine aU ?_
 refine cg (β:=Nat) (fun (q:Nat)=>⟨[(1,(aC (.p 0 0 0 0))),(3,(aC (.s 1 0 1 used.length))),(31,(aC (dV advs))),(32,(aI (↑advs.length:Int))),(33,(aI (↑q:Int)))],[(1,(dD (iI used.length (advs.take q)))),(0,(.box 41 [(cI cap),(cX used),(dV advs)]))],2⟩) (fun (q:Nat)=>q<=advs.length/\(advs.take q).all (gw used.length)=true) (fun (q:Nat)=>advs.length - q) 0 ?_ ?_ ?_
 ·exact ⟨by omega,by simp⟩
 ·exact aE.bR id (by refine ⟨?_,?_,?_,?_,?_,trivial⟩<;>first|rfl|(simp only [bc];done)|(congr 3;omega)|(congr 4;omega)|(simp only [bd];rfl)) (by refine ⟨?_,?_,trivial⟩<;>first|rfl|(simp only [bc];done)|(congr 3;omega)|(congr 4;omega)|(simp only [bd];rfl)|((rw [List.take_zero,<-yT];rfl))) rfl
 rintro q ⟨hi0_0,hi0_1⟩
 refine ae aa 1 rfl ?_
 refine ag ?_
 refine aj rfl (fun hc5=>?_) (fun hc5=>?_)
 ·
  have hc5':=of_decide_eq_true hc5
  refine aP ?_
  refine ag ?_
  refine aU ?_
  refine eV ?_
  obtain ⟨x1,hx1⟩:=cb (xs:=advs) (i:=q) (by first|omega|(simp [dn];omega))
  refine ay (bV (i:=q) rfl rfl rfl Try.underlying39 tQ (by first|omega|(simp;omega)|(simp [dn];omega)) (bf hx1)) rfl ?_
  refine ad aa 3 rfl ?_
  refine af ?_
  refine ag ?_
  refine ch 77 ((((((((decide (x1.aO < 0))||(decide (x1.aO>=(↑used.length:Int))))||(decide (x1.aD < 0)))||(decide (x1.aD>=8)))||(decide (x1.sum < 1)))||(decide (x1.sum > 1000000)))||(decide (x1.time < 0)))||(decide (x1.time > 1000000))) ?_ ?_
  ·
   refine au ?_
   refine ad aa 4 rfl ?_
   refine bE (t:=40) rfl (fun hb6=>?_) (fun hb6=>?_)
   ·
    have hb6':=of_decide_eq_true hb6
    refine ad aa 37 rfl ?_
    refine af ?_
    exact aE.bB 42 rfl rfl (by first|(simp [hb6];done)|(simp_all;done)|(exfalso;simp_all;done)|(simp_all;omega)) rfl
   have hb6':=of_decide_eq_false hb6
   refine ad aa 4 rfl ?_
   refine cz (ah.yes rfl rfl rfl) (bN rfl rfl rfl rfl rfl Try.underlying30) rfl rfl ?_
   refine ad aa 3 rfl ?_
   refine bE (t:=48) rfl (fun hb7=>?_) (fun hb7=>?_)
   ·
    have hb7':=of_decide_eq_true hb7
    refine ad aa 29 rfl ?_
    refine af ?_
    exact aE.bB 43 rfl rfl (by first|(simp [hb6,hb7];done)|(simp_all;done)|(exfalso;simp_all;done)|(simp_all;omega)) rfl
   have hb7':=of_decide_eq_false hb7
   refine ad aa 5 rfl ?_
   refine bE (t:=53) rfl (fun hb8=>?_) (fun hb8=>?_)
   ·
    have hb8':=of_decide_eq_true hb8
    refine ad aa 24 rfl ?_
    refine af ?_
    exact aE.bB 44 rfl rfl (by first|(simp [hb6,hb7,hb8];done)|(simp_all;done)|(exfalso;simp_all;done)|(simp_all;omega)) rfl
   have hb8':=of_decide_eq_false hb8
   refine ad aa 5 rfl ?_
   refine bE (t:=58) rfl (fun hb9=>?_) (fun hb9=>?_)
   ·
    have hb9':=of_decide_eq_true hb9
    refine ad aa 19 rfl ?_
    refine af ?_
    exact aE.bB 45 rfl rfl (by first|(simp [hb6,hb7,hb8,hb9];done)|(simp_all;done)|(exfalso;simp_all;done)|(simp_all;omega)) rfl
   have hb9':=of_decide_eq_false hb9
   refine ad aa 5 rfl ?_
   refine bE (t:=63) rfl (fun hb10=>?_) (fun hb10=>?_)
   ·
    have hb10':=of_decide_eq_true hb10
    refine ad aa 14 rfl ?_
    refine af ?_
    exact aE.bB 46 rfl rfl (by first|(simp [hb6,hb7,hb8,hb9,hb10];done)|(simp_all;done)|(exfalso;simp_all;done)|(simp_all;omega)) rfl
   have hb10':=of_decide_eq_false hb10
   refine ad aa 5 rfl ?_
   refine bE (t:=68) rfl (fun hb11=>?_) (fun hb11=>?_)
   ·
    have hb11':=of_decide_eq_true hb11
    refine ad aa 9 rfl ?_
    refine af ?_
    exact aE.bB 47 rfl rfl (by first|(simp [hb6,hb7,hb8,hb9,hb10,hb11];done)|(simp_all;done)|(exfalso;simp_all;done)|(simp_all;omega)) rfl
   have hb11':=of_decide_eq_false hb11
   refine ad aa 5 rfl ?_
   refine bE (t:=73) rfl (fun hb12=>?_) (fun hb12=>?_)
   ·
    have hb12':=of_decide_eq_true hb12
    refine ad aa 4 rfl ?_
    refine af ?_
    exact aE.bB 48 rfl rfl (by first|(simp [hb6,hb7,hb8,hb9,hb10,hb11,hb12];done)|(simp_all;done)|(exfalso;simp_all;done)|(simp_all;omega)) rfl
   have hb12':=of_decide_eq_false hb12
   refine ad aa 4 rfl ?_
   refine af ?_
   exact aE.bB 48 rfl rfl (by first|(simp [hb6,hb7,hb8,hb9,hb10,hb11,hb12];done)|(simp_all;done)|(exfalso;simp_all;done)|(simp_all;omega)) rfl
  refine aj rfl (fun hc13=>?_) (fun hc13=>?_)
  ·
   have hc13':=hc13;try simp only [bq,bM] at hc13'
   refine ae aa 1 rfl ?_
   refine az ?_
   refine ar ?_
   refine bo ?_
   refine ar ?_
   refine ar ?_
   refine bo ?_
   refine ar ?_
   refine an aa [] 0 rfl rfl rfl rfl rfl rfl ?_ ?_
   ·(have h:=jR (s:=⟨cap,used,advs⟩) (show ¬(8 < (⟨cap,used,advs⟩:cC).used.length\/20 < (⟨cap,used,advs⟩:cC).aQ.length) by simp only;omega) (show gr (⟨cap,used,advs⟩:cC).cap=true by simp only [gr,decide_eq_true_eq];omega) (EN hx1 (by simp only [gw,decide_eq_false_iff_not];omega)));show aI _=aI _;rw [h]
   ·rfl
  have hc13':=hc13;try simp only [bq,bM] at hc13'
  refine aP ?_
  obtain ⟨x2,hx2⟩:=cb (xs:=(iI used.length (advs.take q))) (i:=Int.toNat (x1.aO)) (by first|omega|(simp [dn];omega))
  have hx2v:=sw hx2
  have hgb:=pF used.length (x1.aO) (advs.take q) hi0_1
  have hgl:(advs.take q).length<=q:=List.length_take_le _ _
  rw [Int.toNat_of_nonneg (by omega)] at hx2v
  refine aW [1,3,31,32,33,5] [2,1,0] mixed rfl rfl ?_
  refine aw (kn:=[]) aa 3 rfl trivial ?_
  refine aM (n':=3) [78,80] [1] rfl rfl (.inl ⟨(ah.plain rfl),aF.cast (bx (i:=Int.toNat (x1.aO)) rfl rfl rfl Try.underlying30 fE (by first|omega|(simp;omega)|(simp [dn];omega)) (by first|omega|(simp;omega)|(simp [dn];omega))) rfl⟩) rfl ?_
  refine aM (n':=3) [81] [1] rfl rfl (.inl ⟨(ah.plain rfl),aF.cast (eI rfl rfl rfl Try.underlying3 rfl (bf hx2) rfl) rfl⟩) rfl ?_
  refine aw (kn:=[]) aa 2 rfl trivial ?_
  refine aM (n':=3) [82,84] [] rfl rfl (.inl ⟨(ah.plain rfl),aF.cast (aJ rfl rfl rfl (aL (by first|omega|(simp;omega)|(simp [dn];omega)))) rfl⟩) rfl ?_
  refine aM (n':=3) [78,80] [1] rfl rfl (.inl ⟨(ah.plain rfl),aF.cast (bx (i:=Int.toNat (x1.aO)) rfl rfl rfl Try.underlying30 fE (by first|omega|(simp;omega)|(simp [dn];omega)) (by first|omega|(simp;omega)|(simp [dn];omega))) rfl⟩) rfl ?_
  refine bw [2,1,0] rfl rfl rfl rfl (by kernel_rfl) ?_
  refine gh [2,1,0] (dL (ds:=[(dI (x2+x1.sum))]) rfl rfl rfl rfl rfl fE rfl (Nat.le_of_ble_eq_true rfl) (bf hx2) rfl (eL (x':=x2+x1.sum) rfl)) rfl ?_
  refine cc ?_
  refine bl ?_
  refine then_ok ?_
  refine au ?_
  refine ay (aJ rfl rfl rfl (aL (by first|omega|(simp;omega)|(simp [dn];omega)))) rfl ?_
  refine ad aa 1 rfl ?_
  refine af ?_
  refine ⟨q+1,⟨by omega,xq hi0_1 hx1 (by simp only [gw,decide_eq_true_eq];omega)⟩,by first|omega|(simp;done)|(simp;omega),aE.bR id (by refine ⟨?_,?_,?_,?_,?_,trivial⟩<;>first|rfl|(simp only [bc];done)|(congr 3;omega)|(congr 4;omega)|(simp only [bd];rfl)) (by refine ⟨?_,?_,trivial⟩<;>first|rfl|(simp only [bc];done)|(congr 3;omega)|(congr 4;omega)|(simp only [bd];rfl)|((rw [fV hx1,<-yS (i:=Int.toNat x1.aO) (v:=x2+x1.sum) (by omega) (by omega) (by rw [hx2v])];rfl))) rfl⟩
 have hc5':=of_decide_eq_false hc5
 refine bZ ?_
 refine aN ?_
 refine aN ?_
 refine bC ?_
 refine then_ok ?_
 refine ag ?_
 refine aH aa 2 rfl ?_
 refine ay (bN rfl rfl rfl rfl rfl Try.underlying30) rfl ?_
 refine ad aa 1 rfl ?_
 refine af ?_
 refine aU ?_
 have hta:advs.take q=advs:=List.take_of_length_le (by omega)
 have hall:advs.all (gw used.length)=true:=by rw [<-hta];exact hi0_1
 rw [hta]
 refine cg (β:=Nat) (fun (p:Nat)=>⟨[(1,(aC (.p 0 0 0 0))),(3,(aC (.s 1 0 1 used.length))),(31,(aC (dV advs))),(32,(aI (↑advs.length:Int))),(33,(aI (↑q:Int))),(89,(aC (cX used))),(90,(aI (↑used.length:Int))),(91,(aI (↑p:Int)))],[(1,(dD (iI used.length advs))),(0,(.box 41 [(cI cap),(cX used),(dV advs)]))],2⟩) (fun (p:Nat)=>p<=used.length/\eS cap advs 0 used=eS cap advs p (used.drop p)) (fun (p:Nat)=>used.length - p) 0 ?_ ?_ ?_
 ·exact ⟨by omega,rfl⟩
 ·exact aE.bR id (by refine ⟨?_,?_,?_,?_,?_,?_,?_,?_,trivial⟩<;>first|rfl|(simp only [bc];done)|(congr 3;omega)|(congr 4;omega)|(simp only [bd];rfl)) (by refine ⟨?_,?_,trivial⟩<;>first|rfl|(simp only [bc];done)|(congr 3;omega)|(congr 4;omega)|(simp only [bd];rfl)) rfl
 rintro p ⟨hi1_0,hi1_1⟩
 refine ae aa 1 rfl ?_
 refine ag ?_
 refine aj rfl (fun hc14=>?_) (fun hc14=>?_)
 ·
  have hc14':=of_decide_eq_true hc14
  refine aP ?_
  refine ag ?_
  refine aU ?_
  refine aH aa 1 rfl ?_
  obtain ⟨x1,hx1⟩:=cb (xs:=used) (i:=p) (by first|omega|(simp [dn];omega))
  refine ay (bV (i:=p) rfl rfl rfl Try.underlying30 fE (by first|omega|(simp;omega)|(simp [dn];omega)) (bf hx1)) rfl ?_
  refine ad aa 3 rfl ?_
  refine af ?_
  refine aH aa 3 rfl ?_
  refine ay (bx (i:=p) rfl rfl rfl Try.underlying30 fE (by first|omega|(simp;omega)|(simp [dn];omega)) (by first|omega|(simp;omega)|(simp [dn];omega))) rfl ?_
  obtain ⟨x2,hx2⟩:=cb (xs:=(iI used.length advs)) (i:=p) (by first|omega|(simp [dn];omega))
  have hx2v:=sw hx2
  refine ay (eI rfl rfl rfl Try.underlying3 rfl (bf hx2) rfl) rfl ?_
  refine ad aa 2 rfl ?_
  refine bE (t:=102) rfl (fun hb15=>?_) (fun hb15=>?_)
  ·
   have hb15':=of_decide_eq_true hb15
   refine ad aa 5 rfl ?_
   refine af ?_
   refine aj rfl (fun _=>?_) (fun hno=>by cases hno)
   refine ae aa 1 rfl ?_
   refine az ?_
   refine bo ?_
   refine ar ?_
   refine ar ?_
   refine bo ?_
   refine ar ?_
   refine an aa [] 0 rfl rfl rfl rfl rfl rfl ?_ ?_
   ·(have h:=gk (s:=⟨cap,used,advs⟩) (show ¬(8 < (⟨cap,used,advs⟩:cC).used.length\/20 < (⟨cap,used,advs⟩:cC).aQ.length) by simp only;omega) (show gr (⟨cap,used,advs⟩:cC).cap=true by simp only [gr,decide_eq_true_eq];omega) hall);show aI _=aI _;rw [h];show aI _=aI (eS cap advs 0 used);rw [hi1_1,qq hx1,eS,if_neg (by omega)]
   ·rfl
  have hb15':=of_decide_eq_false hb15
  refine ad aa 5 rfl ?_
  refine af ?_
  refine aj rfl (fun hc17=>?_) (fun hc17=>?_)
  ·
   have hc17':=of_decide_eq_true hc17
   refine ae aa 1 rfl ?_
   refine az ?_
   refine bo ?_
   refine ar ?_
   refine ar ?_
   refine bo ?_
   refine ar ?_
   refine an aa [] 0 rfl rfl rfl rfl rfl rfl ?_ ?_
   ·(have h:=gk (s:=⟨cap,used,advs⟩) (show ¬(8 < (⟨cap,used,advs⟩:cC).used.length\/20 < (⟨cap,used,advs⟩:cC).aQ.length) by simp only;omega) (show gr (⟨cap,used,advs⟩:cC).cap=true by simp only [gr,decide_eq_true_eq];omega) hall);show aI _=aI _;rw [h];show aI _=aI (eS cap advs 0 used);rw [hi1_1,qq hx1,eS,if_neg (by omega)]
   ·rfl
  have hc17':=of_decide_eq_false hc17
  refine cD ?_
  refine bl ?_
  refine then_ok ?_
  refine au ?_
  refine ay (aJ rfl rfl rfl (aL (by first|omega|(simp;omega)|(simp [dn];omega)))) rfl ?_
  refine ad aa 1 rfl ?_
  refine af ?_
  refine ⟨p+1,⟨by omega,by rw [hi1_1,qq hx1,eS,if_pos (by omega),Int.natCast_add];rfl⟩,by first|omega|(simp;done)|(simp;omega),aE.bR id (by refine ⟨?_,?_,?_,?_,?_,?_,?_,?_,trivial⟩<;>first|rfl|(simp only [bc];done)|(congr 3;omega)|(congr 4;omega)|(simp only [bd];rfl)) (by refine ⟨?_,?_,trivial⟩<;>first|rfl|(simp only [bc];done)|(congr 3;omega)|(congr 4;omega)|(simp only [bd];rfl)) rfl⟩
 have hc14':=of_decide_eq_false hc14
 refine bZ ?_
 refine aN ?_
 refine aN ?_
 refine bC ?_
 refine then_ok ?_
 refine ae aa 1 rfl ?_
 refine az ?_
 refine an aa [] 0 rfl rfl rfl rfl rfl rfl ?_ ?_
 ·(have h:=gk (s:=⟨cap,used,advs⟩) (show ¬(8 < (⟨cap,used,advs⟩:cC).used.length\/20 < (⟨cap,used,advs⟩:cC).aQ.length) by simp only;omega) (show gr (⟨cap,used,advs⟩:cC).cap=true by simp only [gr,decide_eq_true_eq];omega) hall);show aI _=aI _;rw [h];show aI _=aI (eS cap advs 0 used);rw [hi1_1,List.drop_of_length_le (by omega)];rfl
 ·rfl


theorem iN (s:cC) (e:Int) (hr:bW s=e):Fn Try.prog 30 [(.g [cI s.cap,cR 1 (s.used.map rI),cR 4 (s.aQ.map iq)])] (.v (.c (cI e))) []:=hr▸tK s.cap s.used s.aQ

theorem wg (limit aq:Int) (x:cC) (e:Int) (hr:dA limit aq=(x,e)):Fn Try.prog 41 [(.c (cI limit)),(.c (cI aq))] (.t [(.g [(cI x.cap),(.s 0 0 1 x.used.length),(.s 1 0 4 x.aQ.length)]),(.c (cI e))]) [(0,(dD x.used)),(1,(Ak x.aQ))]:=by
 refine Fn.mk' 24 [(0,(aI limit)),(1,(aI aq))] Try.func41 rfl rfl rfl rfl ?_
 intro W0 T0
 refine ae aa 2 rfl ?_
 refine ag ?_
 refine ch 11 ((decide (aq < 0))||(decide (aq > 8))) ?_ ?_
 ·
  refine au ?_
  refine ad aa 3 rfl ?_
  refine bE (t:=8) rfl (fun hb1=>?_) (fun hb1=>?_)
  ·
   have hb1':=of_decide_eq_true hb1
   refine ad aa 3 rfl ?_
   refine af ?_
   exact aE.bB 7 rfl rfl (by first|(simp [hb1];done)|(simp_all;done)|(exfalso;simp_all;done)|(simp_all;omega)) rfl
  have hb1':=of_decide_eq_false hb1
  refine ad aa 3 rfl ?_
  refine af ?_
  exact aE.bB 7 rfl rfl (by first|(simp [hb1];done)|(simp_all;done)|(exfalso;simp_all;done)|(simp_all;omega)) rfl
 refine aj rfl (fun hc2=>?_) (fun hc2=>?_)
 ·
  have hc2':=hc2;try simp only [bq,bM] at hc2'
  refine ae aa 3 rfl ?_
  refine az ?_
  refine ar ?_
  refine cp 0 1 3 1 rfl rfl rfl ?_
  refine cp 0 2 107 4 rfl rfl rfl ?_
  have hX:dA limit aq=((⟨0,([]:List Int),([]:List cj)⟩:cC),5):=by
    exact tF (by omega)
  rw [hX] at hr;clear hX
  simp only [Prod.mk.injEq] at hr;obtain ⟨rfl,rfl⟩:=hr
  refine an aa [1,2,0] 2 rfl rfl rfl rfl rfl rfl ?_ ?_
  all_goals first|rfl|(simp [aA];done)|(simp [aA];omega)
 have hc2':=hc2;try simp only [bq,bM] at hc2'
 refine aP ?_
 refine ag ?_
 refine ch 18 ((decide (limit < 0))||(decide (limit > 1000000))) ?_ ?_
 ·
  refine au ?_
  refine ad aa 3 rfl ?_
  refine bE (t:=15) rfl (fun hb3=>?_) (fun hb3=>?_)
  ·
   have hb3':=of_decide_eq_true hb3
   refine ad aa 3 rfl ?_
   refine af ?_
   exact aE.bB 7 rfl rfl (by first|(simp [hb3];done)|(simp_all;done)|(exfalso;simp_all;done)|(simp_all;omega)) rfl
  have hb3':=of_decide_eq_false hb3
  refine ad aa 3 rfl ?_
  refine af ?_
  exact aE.bB 7 rfl rfl (by first|(simp [hb3];done)|(simp_all;done)|(exfalso;simp_all;done)|(simp_all;omega)) rfl
 refine aj rfl (fun hc4=>?_) (fun hc4=>?_)
 ·
  have hc4':=hc4;try simp only [bq,bM] at hc4'
  refine ae aa 3 rfl ?_
  refine az ?_
  refine ar ?_
  refine cp 0 1 3 1 rfl rfl rfl ?_
  refine cp 0 2 107 4 rfl rfl rfl ?_
  have hX:dA limit aq=((⟨0,([]:List Int),([]:List cj)⟩:cC),3):=by
    exact rS (by omega) (by first|omega|(simp_all [bq];done)|(simp_all [bq];omega))
  rw [hX] at hr;clear hX
  simp only [Prod.mk.injEq] at hr;obtain ⟨rfl,rfl⟩:=hr
  refine an aa [1,2,0] 2 rfl rfl rfl rfl rfl rfl ?_ ?_
  all_goals first|rfl|(simp [aA];done)|(simp [aA];omega)
 have hc4':=hc4;try simp only [bq,bM] at hc4'
 refine aP ?_
 refine aH aa 2 rfl ?_
 refine aR 2 [1,0] (oY 1 mW Cd rfl rfl rfl (n:=Int.toNat (aq)) (by first|omega|(simp;done)|(simp;omega)) (by first|omega|(simp;done)|(simp;omega)) (by first|omega|(simp;done)|(simp;omega)) (by first|omega|(simp;done)|(simp;omega))) rfl ?_
 refine ad aa 3 rfl ?_
 refine af ?_
 refine az ?_
 refine cp 0 2 107 4 rfl rfl rfl ?_
 have hX:dA limit aq=((⟨limit,List.replicate (Int.toNat (aq)) 0,([]:List cj)⟩:cC),0):=by
   unfold dA;rw [if_neg (by omega),if_neg (by simp only [gr,decide_eq_true_eq];first|omega|(simp_all [bq];done)|(simp_all [bq];omega))]
 rw [hX] at hr;clear hX
 simp only [Prod.mk.injEq] at hr;obtain ⟨rfl,rfl⟩:=hr
 refine an aa [1,2,0] 2 rfl rfl rfl rfl rfl rfl ?_ ?_
 all_goals first|rfl|(simp [aA];done)|(simp [aA];omega)
theorem tL (s:cC) (x:cC) (l:List cj) (e:Int) (hr:dd s=(x,l,e)):Fn Try.prog 90 [(.g [(cI s.cap),(cX s.used),(dV s.aQ)])] (.t [(.g [(cI x.cap),(.s 0 0 1 x.used.length),(.s 1 0 4 x.aQ.length)]),(.c (.s 2 0 4 l.length)),(.c (cI e))]) [(0,(dD x.used)),(1,(Ak x.aQ)),(2,(Ak l))]:=by
 refine Fn.mk' 22 [(0,(aG [(cI s.cap),(cX s.used),(dV s.aQ)]))] Try.func90 rfl rfl rfl rfl ?_
 intro W0 T0
 refine cA 0 1 rfl rfl (fun hlen0_1=>?_)
 refine cA 0 2 rfl rfl (fun hlen0_2=>?_)
 have hrp:=@gL s
 refine ae aa 4 rfl ?_
 refine ag ?_
 refine aH aa 1 rfl ?_
 obtain ⟨e0,hr0⟩:∃ (e0:Int),bW s=e0:=⟨_,rfl⟩
 refine aR 2 [1,0] (bX 2 (iN s e0 hr0) yn rfl rfl ⟨⟨_,rfl,.g ⟨.d _,.d _,.d _,trivial⟩⟩,trivial⟩ trivial trivial rfl rfl rfl rfl) rfl ?_
 refine ad aa 1 rfl ?_
 refine af ?_
 refine ae aa 2 rfl ?_
 refine aj rfl (fun hc1=>?_) (fun hc1=>?_)
 ·
  have hc1':=of_decide_eq_true hc1
  refine ae aa 5 rfl ?_
  refine az ?_
  refine ar ?_
  refine cp 1 1 3 1 rfl rfl rfl ?_
  refine cp 1 2 107 4 rfl rfl rfl ?_
  refine dc (aE.nil 3 107 4 (by decide) rfl) ?_
  have hX:dd s=((⟨0,([]:List Int),([]:List cj)⟩:cC),([]:List cj),e0):=by
    unfold dd;rw [if_pos (by omega),hr0];rfl
  rw [hX] at hr;clear hX
  simp only [Prod.mk.injEq] at hr;obtain ⟨rfl,rfl,rfl⟩:=hr
  refine an aa [2,3,4,1] 3 rfl rfl rfl rfl rfl rfl ?_ ?_
  all_goals first|rfl|(simp [aA];done)|(simp [aA];omega)
 have hc1':=of_decide_eq_false hc1
 refine aP ?_
 refine ag ?_
 refine aW [1,2] [1,0] mixed rfl rfl ?_
 refine aw (kn:=[]) aa 4 rfl trivial ?_
 refine aM (n':=2) [15] [] rfl rfl (.inl ⟨(ah.plain rfl),aF.cast (bN rfl rfl rfl rfl rfl Try.underlying30) rfl⟩) rfl ?_
 refine aM (n':=3) [16] [] rfl rfl (.inl ⟨(ah.plain rfl),aF.cast (oY 2 mW Cd rfl rfl rfl (n:=s.used.length) (by first|omega|(simp;done)|(simp;omega)) (by first|omega|(simp;done)|(simp;omega)) (by first|omega|(simp;done)|(simp;omega)) (by first|omega|(simp;done)|(simp;omega))) rfl⟩) rfl ?_
 refine aw (kn:=[]) aa 3 rfl trivial ?_
 refine aM (n':=4) [20] [] rfl rfl (.inl ⟨(ah.plain rfl),aF.cast (bX 3 (mN s.aQ (by first|omega|(simp;done)|(simp;omega))) Ec rfl rfl ⟨⟨_,rfl,.c (.d _)⟩,trivial⟩ trivial ⟨(fun _ _ _ _=>trivial),trivial⟩ rfl rfl rfl rfl) rfl⟩) rfl ?_
 refine bw [3,2,1,0] rfl rfl rfl rfl (by kernel_rfl) ?_
 refine ad aa 3 rfl ?_
 refine af ?_
 refine az ?_
 refine cp 1 2 107 4 rfl rfl rfl ?_
 have hX:dd s=((⟨s.cap,List.replicate s.used.length 0,([]:List cj)⟩:cC),s.aQ,0):=by
   unfold dd;rw [if_neg (by omega)]
 rw [hX] at hr;clear hX
 simp only [Prod.mk.injEq] at hr;obtain ⟨rfl,rfl,rfl⟩:=hr
 refine an aa [2,4,3,1] 3 rfl rfl rfl rfl rfl rfl ?_ ?_
 all_goals first|rfl|(simp [aA];done)|(simp [aA];omega)

theorem vw (s:cC) (a:cj) (x:cC) (e:Int) (hr:ct s a=(x,e)):Fn Try.prog 78 [(.g [(cI s.cap),(cX s.used),(dV s.aQ)]),(.g [(cI a.aO),(cI a.aD),(cI a.sum),(cI a.time)])] (.t [(.g [(cI x.cap),(.s 0 0 1 x.used.length),(.s 1 0 4 x.aQ.length)]),(.c (cI e))]) [(0,(dD x.used)),(1,(Ak x.aQ))]:=by
 refine Fn.mk' 74 [(0,(aG [(cI s.cap),(cX s.used),(dV s.aQ)])),(1,(aG [(cI a.aO),(cI a.aD),(cI a.sum),(cI a.time)]))] Try.func78 rfl rfl rfl rfl ?_
 intro W0 T0
 refine cA 0 1 rfl rfl (fun hlen0_1=>?_)
 refine cA 0 2 rfl rfl (fun hlen0_2=>?_)
 have hub:=@qD s
 have hrp:=@gL s
 refine ae aa 4 rfl ?_
 refine ag ?_
 refine aH aa 1 rfl ?_
 obtain ⟨e0,hr0⟩:∃ (e0:Int),bW s=e0:=⟨_,rfl⟩
 refine aR 3 [2,1,0] (bX 3 (iN s e0 hr0) yn rfl rfl ⟨⟨_,rfl,.g ⟨.d _,.d _,.d _,trivial⟩⟩,trivial⟩ trivial trivial rfl rfl rfl rfl) rfl ?_
 refine ad aa 1 rfl ?_
 refine af ?_
 refine ae aa 2 rfl ?_
 refine aj rfl (fun hc1=>?_) (fun hc1=>?_)
 ·
  have hc1':=of_decide_eq_true hc1
  refine ae aa 4 rfl ?_
  refine az ?_
  refine ar ?_
  refine cp 2 1 3 1 rfl rfl rfl ?_
  refine cp 2 2 107 4 rfl rfl rfl ?_
  have hX:ct s a=((⟨0,([]:List Int),([]:List cj)⟩:cC),e0):=by
    rw [yd (by omega),hr0];rfl
  rw [hX] at hr;clear hX
  simp only [Prod.mk.injEq] at hr;obtain ⟨rfl,rfl⟩:=hr
  refine an aa [3,4,2] 2 rfl rfl rfl rfl rfl rfl ?_ ?_
  all_goals first|rfl|(simp [aA];done)|(simp [aA];omega)
 have hc1':=of_decide_eq_false hc1
 refine aP ?_
 refine ag ?_
 refine aH aa 2 rfl ?_
 refine ay (bN rfl rfl rfl rfl rfl Try.underlying39) rfl ?_
 refine ad aa 1 rfl ?_
 refine af ?_
 refine aj rfl (fun hc2=>?_) (fun hc2=>?_)
 ·
  have hc2':=of_decide_eq_true hc2
  refine ae aa 3 rfl ?_
  refine az ?_
  refine ar ?_
  refine cp 2 1 3 1 rfl rfl rfl ?_
  refine cp 2 2 107 4 rfl rfl rfl ?_
  have hX:ct s a=((⟨0,([]:List Int),([]:List cj)⟩:cC),5):=by
    exact tf (by omega) (by omega)
  rw [hX] at hr;clear hX
  simp only [Prod.mk.injEq] at hr;obtain ⟨rfl,rfl⟩:=hr
  refine an aa [3,4,2] 2 rfl rfl rfl rfl rfl rfl ?_ ?_
  all_goals first|rfl|(simp [aA];done)|(simp [aA];omega)
 have hc2':=of_decide_eq_false hc2
 refine aP ?_
 refine ag ?_
 refine aW [2,3,4] [2,1,0] mixed rfl rfl ?_
 refine aw (kn:=[]) aa 4 rfl trivial ?_
 refine aM (n':=4) [23] [] rfl rfl (.inl ⟨(ah.plain rfl),aF.cast (bX 3 (pM s.used (by first|omega|(simp;done)|(simp;omega))) Ed rfl rfl ⟨⟨_,rfl,.c (.d _)⟩,trivial⟩ trivial ⟨(fun _ _ _ _=>trivial),trivial⟩ rfl rfl rfl rfl) rfl⟩) rfl ?_
 refine aw (kn:=[]) aa 2 rfl trivial ?_
 refine aM (n':=5) [26] [] rfl rfl (.inl ⟨(ah.plain rfl),aF.cast (bX 4 (mN s.aQ (by first|omega|(simp;done)|(simp;omega))) Ec rfl rfl ⟨⟨_,rfl,.c (.d _)⟩,trivial⟩ trivial ⟨(fun _ _ _ _=>trivial),trivial⟩ rfl rfl rfl rfl) rfl⟩) rfl ?_
 refine aw (kn:=[]) aa 1 rfl trivial ?_
 refine aM (n':=6) [28] [] rfl rfl (.inl ⟨(ah.plain rfl),aF.cast (dJ (ys:=[(0,(.g [(cI a.aO),(cI a.aD),(cI a.sum),(cI a.time)]))]) (rows:=([a]).map iq) 5 xI rfl (by decide) ⟨⟨rfl,rfl⟩,trivial⟩ rfl rfl rfl rfl) rfl⟩) rfl ?_
 refine aM (n':=7) [27,29] [5,4] rfl rfl (.inl ⟨(ah.plain rfl),aF.cast (dp (m:=1) (N:=s.aQ.length+1) (k2:=6) (ys:=([a]).map iq) xI rfl rfl rfl rfl rfl rfl (by first|omega|(simp;done)|(simp;omega)) rfl (.s rfl (by first|omega|(simp;done)|(simp;omega))) (by first|omega|(simp;done)|(simp;omega)) (by first|omega|(simp;done)|(simp;omega)) ff (by decide) (by first|omega|(simp;done)|(simp;omega)) (by first|omega|(simp;done)|(simp;omega))) rfl⟩) rfl ?_
 refine aw (n':=8) (kn:=[]) aa 2 rfl trivial ?_
 refine bw [7,6,3,2,1,0] rfl rfl rfl rfl (by kernel_rfl) ?_
 refine ad aa 1 rfl ?_
 refine af ?_
 refine ag ?_
 refine ch 52 ((((decide (a.aO>=0)) && (decide (a.aO < (↑s.used.length:Int)))) && (decide (a.sum>=1))) && (decide (a.sum<=1000000))) ?_ ?_
 ·
  refine au ?_
  refine ad aa 4 rfl ?_
  refine bE (t:=35) rfl (fun hb3=>?_) (fun hb3=>?_)
  ·
   have hb3':=of_decide_eq_true hb3
   refine ad aa 4 rfl ?_
   refine cz (ah.yes rfl rfl rfl) (du rfl rfl rfl rfl rfl Try.underlying30) rfl rfl ?_
   refine ad aa 3 rfl ?_
   refine bE (t:=43) rfl (fun hb4=>?_) (fun hb4=>?_)
   ·
    have hb4':=of_decide_eq_true hb4
    refine ad aa 5 rfl ?_
    refine bE (t:=48) rfl (fun hb5=>?_) (fun hb5=>?_)
    ·
     have hb5':=of_decide_eq_true hb5
     refine ad aa 4 rfl ?_
     refine af ?_
     exact aE.bB 24 rfl rfl (by first|(simp [hb3,hb4,hb5];done)|(simp_all;done)|(exfalso;simp_all;done)|(simp_all;omega)) rfl
    have hb5':=of_decide_eq_false hb5
    refine ad aa 4 rfl ?_
    refine af ?_
    exact aE.bB 24 rfl rfl (by first|(simp [hb3,hb4,hb5];done)|(simp_all;done)|(exfalso;simp_all;done)|(simp_all;omega)) rfl
   have hb4':=of_decide_eq_false hb4
   refine ad aa 9 rfl ?_
   refine af ?_
   exact aE.bB 23 rfl rfl (by first|(simp [hb3,hb4];done)|(simp_all;done)|(exfalso;simp_all;done)|(simp_all;omega)) rfl
  have hb3':=of_decide_eq_false hb3
  refine ad aa 17 rfl ?_
  refine af ?_
  exact aE.bB 22 rfl rfl (by first|(simp [hb3];done)|(simp_all;done)|(exfalso;simp_all;done)|(simp_all;omega)) rfl
 refine aj rfl (fun hc6=>?_) (fun hc6=>?_)
 ·
  have hc6':=hc6;try simp only [bq,bM] at hc6'
  obtain ⟨x1,hx1⟩:=cb (xs:=s.used) (i:=Int.toNat (a.aO)) (by first|omega|(simp;done)|(simp;omega))
  have hx1b:=qD (s:=s) (by omega) hx1
  refine aW [3,4,7] [7,6,3,2,1] mixed rfl rfl ?_
  refine aw (kn:=[]) aa 4 rfl trivial ?_
  refine aM (n':=8) [54,56] [3] rfl rfl (.inl ⟨(ah.plain rfl),aF.cast (bx (i:=Int.toNat (a.aO)) rfl rfl rfl Try.underlying30 fE (by first|omega|(simp;done)|(simp;omega)) (by first|omega|(simp;done)|(simp;omega))) rfl⟩) rfl ?_
  refine aM (n':=8) [57] [3] rfl rfl (.inl ⟨(ah.plain rfl),aF.cast (eI rfl rfl rfl Try.underlying3 rfl (bf hx1) rfl) rfl⟩) rfl ?_
  refine aw (kn:=[]) aa 2 rfl trivial ?_
  refine aM (n':=8) [58,60] [] rfl rfl (.inl ⟨(ah.plain rfl),aF.cast (aJ rfl rfl rfl (aL (by first|omega|(simp;done)|(simp;omega)))) rfl⟩) rfl ?_
  refine aM (n':=8) [54,56] [3] rfl rfl (.inl ⟨(ah.plain rfl),aF.cast (bx (i:=Int.toNat (a.aO)) rfl rfl rfl Try.underlying30 fE (by first|omega|(simp;done)|(simp;omega)) (by first|omega|(simp;done)|(simp;omega))) rfl⟩) rfl ?_
  refine bw [7,6,3,2,1] rfl rfl rfl rfl (by kernel_rfl) ?_
  refine gh [7,6,3,2,1] (dL (ds:=[(dI (x1+a.sum))]) rfl rfl rfl rfl rfl fE rfl (Nat.le_of_ble_eq_true rfl) (bf hx1) rfl (eL (x':=x1+a.sum) rfl)) rfl ?_
  refine af ?_
  refine aH aa 1 rfl ?_
  obtain ⟨e1,hr1⟩:∃ (e1:Int),bW (⟨s.cap,(s.used).set (Int.toNat (a.aO)) (x1+a.sum),s.aQ++([a])⟩:cC)=e1:=⟨_,rfl⟩
  refine aR 8 [7,6,3,2,1] (fR 8 [3,6] (iN (⟨s.cap,(s.used).set (Int.toNat (a.aO)) (x1+a.sum),s.aQ++([a])⟩:cC) e1 hr1) yn rfl rfl ⟨⟨_,rfl,.g ⟨.d _,.s rfl (by decide) (by first|omega|(simp;done)|(simp;omega)),.s rfl (by decide) (by first|omega|(simp;done)|(simp;omega)),trivial⟩⟩,trivial⟩ rfl trivial rfl rfl rfl rfl) rfl ?_
  refine ad aa 1 rfl ?_
  refine af ?_
  refine ae aa 1 rfl ?_
  refine aU ?_
  refine ae aa 2 rfl ?_
  refine aj rfl (fun hc7=>?_) (fun hc7=>?_)
  ·
   have hc7':=of_decide_eq_true hc7
   refine ae aa 3 rfl ?_
   refine az ?_
   refine bo ?_
   have hX:ct s a=((⟨s.cap,(s.used).set (Int.toNat (a.aO)) (x1+a.sum),s.aQ++([a])⟩:cC),0):=by
     have hx:s.used.getD a.aO.toNat 0=x1:=by rw [List.getD_eq_getElem?_getD,hx1];rfl
     have hg:=lg (a:=a) (show bW s=0 by omega) (show s.aQ.length < 20 by omega)
     rw [hx,hr1] at hg
     rcases hg with ⟨p1,p2⟩|⟨p1,p2⟩|⟨p1,p2⟩<;>first|(exfalso;omega)|exact p2|(subst p1;exact p2)
   rw [hX] at hr;clear hX
   simp only [Prod.mk.injEq] at hr;obtain ⟨rfl,rfl⟩:=hr
   refine an aa [3,6,2] 2 rfl rfl rfl rfl rfl rfl ?_ ?_
   all_goals first|rfl|(simp [aA];done)|(simp [aA];omega)
  have hc7':=of_decide_eq_false hc7
  refine ae aa 2 rfl ?_
  refine aj rfl (fun hc8=>?_) (fun hc8=>?_)
  ·
   have hc8':=of_decide_eq_true hc8
   refine ae aa 3 rfl ?_
   refine az ?_
   refine bo ?_
   refine cp 2 1 3 1 rfl rfl rfl ?_
   refine cp 2 2 107 4 rfl rfl rfl ?_
   have hX:ct s a=((⟨0,([]:List Int),([]:List cj)⟩:cC),10):=by
     have hx:s.used.getD a.aO.toNat 0=x1:=by rw [List.getD_eq_getElem?_getD,hx1];rfl
     have hg:=lg (a:=a) (show bW s=0 by omega) (show s.aQ.length < 20 by omega)
     rw [hx,hr1] at hg
     rcases hg with ⟨p1,p2⟩|⟨p1,p2⟩|⟨p1,p2⟩<;>first|(exfalso;omega)|exact p2|(subst p1;exact p2)
   rw [hX] at hr;clear hX
   simp only [Prod.mk.injEq] at hr;obtain ⟨rfl,rfl⟩:=hr
   refine an aa [8,9,2] 2 rfl rfl rfl rfl rfl rfl ?_ ?_
   all_goals first|rfl|(simp [aA];done)|(simp [aA];omega)
  have hc8':=of_decide_eq_false hc8
  refine ae aa 4 rfl ?_
  refine az ?_
  refine bo ?_
  refine cp 2 1 3 1 rfl rfl rfl ?_
  refine cp 2 2 107 4 rfl rfl rfl ?_
  have hX:ct s a=((⟨0,([]:List Int),([]:List cj)⟩:cC),e1):=by
    have hx:s.used.getD a.aO.toNat 0=x1:=by rw [List.getD_eq_getElem?_getD,hx1];rfl
    have hg:=lg (a:=a) (show bW s=0 by omega) (show s.aQ.length < 20 by omega)
    rw [hx,hr1] at hg
    rcases hg with ⟨p1,p2⟩|⟨p1,p2⟩|⟨p1,p2⟩<;>first|(exfalso;omega)|exact p2|(subst p1;exact p2)
  rw [hX] at hr;clear hX
  simp only [Prod.mk.injEq] at hr;obtain ⟨rfl,rfl⟩:=hr
  refine an aa [8,9,2] 2 rfl rfl rfl rfl rfl rfl ?_ ?_
  all_goals first|rfl|(simp [aA];done)|(simp [aA];omega)
 have hc6':=hc6;try simp only [bq,bM] at hc6'
 refine aP ?_
 refine aH aa 1 rfl ?_
 obtain ⟨e2,hr2⟩:∃ (e2:Int),bW (⟨s.cap,s.used,s.aQ++([a])⟩:cC)=e2:=⟨_,rfl⟩
 refine aR 8 [7,6,3,2,1,0] (fR 8 [3,6] (iN (⟨s.cap,s.used,s.aQ++([a])⟩:cC) e2 hr2) yn rfl rfl ⟨⟨_,rfl,.g ⟨.d _,.s rfl (by decide) (by first|omega|(simp;done)|(simp;omega)),.s rfl (by decide) (by first|omega|(simp;done)|(simp;omega)),trivial⟩⟩,trivial⟩ rfl trivial rfl rfl rfl rfl) rfl ?_
 refine ad aa 1 rfl ?_
 refine af ?_
 refine ae aa 1 rfl ?_
 refine aU ?_
 refine ae aa 2 rfl ?_
 refine aj rfl (fun hc9=>?_) (fun hc9=>?_)
 ·
  have hc9':=of_decide_eq_true hc9
  refine ae aa 3 rfl ?_
  refine az ?_
  refine bo ?_
  have hX:ct s a=((⟨s.cap,s.used,s.aQ++([a])⟩:cC),0):=by
    have hg:=qj (a:=a) (show bW s=0 by omega) (show s.aQ.length < 20 by omega) (by omega)
    rw [hr2] at hg
    obtain ⟨p1,p2⟩:=hg
    first|(exfalso;omega)|(subst p1;exact p2)
  rw [hX] at hr;clear hX
  simp only [Prod.mk.injEq] at hr;obtain ⟨rfl,rfl⟩:=hr
  refine an aa [3,6,2] 2 rfl rfl rfl rfl rfl rfl ?_ ?_
  all_goals first|rfl|(simp [aA];done)|(simp [aA];omega)
 have hc9':=of_decide_eq_false hc9
 refine ae aa 2 rfl ?_
 refine aj rfl (fun hc10=>?_) (fun hc10=>?_)
 ·
  have hc10':=of_decide_eq_true hc10
  refine ae aa 3 rfl ?_
  refine az ?_
  refine bo ?_
  refine cp 2 1 3 1 rfl rfl rfl ?_
  refine cp 2 2 107 4 rfl rfl rfl ?_
  have hX:ct s a=((⟨0,([]:List Int),([]:List cj)⟩:cC),10):=by
    have hg:=qj (a:=a) (show bW s=0 by omega) (show s.aQ.length < 20 by omega) (by omega)
    rw [hr2] at hg
    obtain ⟨p1,p2⟩:=hg
    first|(exfalso;omega)|(subst p1;exact p2)
  rw [hX] at hr;clear hX
  simp only [Prod.mk.injEq] at hr;obtain ⟨rfl,rfl⟩:=hr
  refine an aa [8,9,2] 2 rfl rfl rfl rfl rfl rfl ?_ ?_
  all_goals first|rfl|(simp [aA];done)|(simp [aA];omega)
 have hc10':=of_decide_eq_false hc10
 refine ae aa 4 rfl ?_
 refine az ?_
 refine bo ?_
 refine cp 2 1 3 1 rfl rfl rfl ?_
 refine cp 2 2 107 4 rfl rfl rfl ?_
 have hX:ct s a=((⟨0,([]:List Int),([]:List cj)⟩:cC),e2):=by
   have hg:=qj (a:=a) (show bW s=0 by omega) (show s.aQ.length < 20 by omega) (by omega)
   rw [hr2] at hg
   obtain ⟨p1,p2⟩:=hg
   first|(exfalso;omega)|(subst p1;exact p2)
 rw [hX] at hr;clear hX
 simp only [Prod.mk.injEq] at hr;obtain ⟨rfl,rfl⟩:=hr
 refine an aa [8,9,2] 2 rfl rfl rfl rfl rfl rfl ?_ ?_
 all_goals first|rfl|(simp [aA];done)|(simp [aA];omega)


def fc:List Int->Int
  |[]=>0
  |x::l=>if x=0 then fc l else x
def hG (a b:al):Int:=fc [ei a.aD b.aD,ei a.ba b.ba]
theorem zT {l:List Int} {i:Nat} {x:Int} (hx:l[i]?=some x) (h:x=0):fc (l.drop i)=fc (l.drop (i+1)):=by
  obtain ⟨hi,rfl⟩:=List.getElem?_eq_some_iff.1 hx
  rw [List.drop_eq_getElem_cons hi,fc,if_pos h]
theorem th {l:List Int} {i:Nat} {x:Int} (hx:l[i]?=some x) (h:¬x=0):fc (l.drop i)=x:=by
  obtain ⟨hi,rfl⟩:=List.getElem?_eq_some_iff.1 hx
  rw [List.drop_eq_getElem_cons hi,fc,if_neg h]
theorem ll {a b:al}:hG a b < 0↔gz a b=true:=by
  rw [qS]
  have h1:=qu (a:=a.aD) (b:=b.aD)
  have h2:=oF (a:=a.aD) (b:=b.aD)
  have h3:=qu (a:=a.ba) (b:=b.ba)
  have h4:=oF (a:=a.ba) (b:=b.ba)
  unfold hG fc fc fc
  split
  ·split<;>omega
  ·omega
theorem ln {a b:al} (h:¬hG a b < 0):gz a b=false:=by
  cases hb:gz a b with
  |false=>rfl
  |true=>exact absurd (ll.2 hb) h
theorem cM {l:List (Nat×AV)} {t:Nat} {x y:Int} {ρ:Nat->Nat} (h:look l t=some (aI x)) (e:x=y):look l t=some (AV.map ρ (aI y)):=by subst e;exact h

theorem Hf (l:List Int) (r:Int) (hr:fc l=r):Fn Try.prog 59 [(.c (cX l))] (.v (.c (cI r))) []:=by
 refine Fn.mk' 18 [(0,(aC (cX l)))] Try.func59 rfl rfl rfl rfl ?_
 intro W0 T0
 refine dk 0 rfl (fun hlen0=>?_)
 refine ae aa 1 rfl ?_
 refine ae aa 1 rfl ?_
 refine ag ?_
 refine aH aa 1 rfl ?_
 refine ay (bN rfl rfl rfl rfl rfl Try.underlying30) rfl ?_
 refine ad aa 1 rfl ?_
 refine af ?_
 refine aU ?_
 refine cg (β:=Nat) (fun (i:Nat)=>⟨[(3,(aI 0)),(6,(aC (cX l))),(7,(aI (↑l.length:Int))),(8,(aI (↑i:Int)))],[],0⟩) (fun (i:Nat)=>i<=l.length/\fc (l.drop i)=fc l) (fun (i:Nat)=>l.length - i) 0 ?_ ?_ ?_
 ·exact ⟨by omega,rfl⟩
 ·exact aE.bR id (by refine ⟨?_,?_,?_,?_,trivial⟩<;>first|rfl|(simp only [bc];done)|(congr 3;omega)|(congr 4;omega)|(simp only [bd];rfl)) (trivial) rfl
 rintro i ⟨hi0_0,hi0_1⟩
 refine ae aa 1 rfl ?_
 refine ag ?_
 refine aj rfl (fun hc1=>?_) (fun hc1=>?_)
 ·
  have hc1':=of_decide_eq_true hc1
  refine aP ?_
  refine ag ?_
  refine aU ?_
  refine eV ?_
  obtain ⟨x1,hx1⟩:=cb (xs:=l) (i:=i) (by first|omega|(simp;done)|(simp;omega))
  refine ay (bV (i:=i) rfl rfl rfl Try.underlying30 fE (by first|omega|(simp;done)|(simp;omega)) (bf hx1)) rfl ?_
  refine ad aa 2 rfl ?_
  refine af ?_
  refine ae aa 3 rfl ?_
  refine aj rfl (fun hc2=>?_) (fun hc2=>?_)
  ·
   have hc2':=of_decide_eq_true hc2
   refine ae aa 2 rfl ?_
   refine az ?_
   refine bo ?_
   refine ar ?_
   refine ar ?_
   refine bo ?_
   refine ar ?_
   have hX:fc l=x1:=by
     rw [<-hi0_1];first|exact th hx1 (by omega)|(rw [List.drop_of_length_le (by omega)];rfl)
   rw [hX] at hr;clear hX
   subst hr
   refine an aa [] 0 rfl rfl rfl rfl rfl rfl ?_ ?_
   all_goals first|rfl|(simp [aA];done)|(simp [aA];omega)
  have hc2':=of_decide_eq_false hc2
  refine cD ?_
  refine bl ?_
  refine then_ok ?_
  refine au ?_
  refine ay (aJ rfl rfl rfl (aL (by first|omega|(simp;done)|(simp;omega)))) rfl ?_
  refine ad aa 1 rfl ?_
  refine af ?_
  refine ⟨i+1,⟨by omega,by rw [<-zT hx1 (by omega)];exact hi0_1⟩,by first|omega|(simp;done)|(simp;omega),aE.bR id (by refine ⟨?_,?_,?_,?_,trivial⟩<;>first|rfl|(simp only [bc];done)|(congr 3;omega)|(congr 4;omega)|(simp only [bd];rfl)) (trivial) rfl⟩
 have hc1':=of_decide_eq_false hc1
 refine bZ ?_
 refine aN ?_
 refine aN ?_
 refine bC ?_
 refine then_ok ?_
 refine ae aa 2 rfl ?_
 refine az ?_
 have hX:fc l=0:=by
   rw [<-hi0_1];first|exact th hx1 (by omega)|(rw [List.drop_of_length_le (by omega)];rfl)
 rw [hX] at hr;clear hX
 subst hr
 refine an aa [] 0 rfl rfl rfl rfl rfl rfl ?_ ?_
 all_goals first|rfl|(simp [aA];done)|(simp [aA];omega)
theorem xk (x y:al):Fn Try.prog 53 [(.g [(cI x.aD),(cI x.ba),(cI x.kind),(cI x.sum)]),(.g [(cI y.aD),(cI y.ba),(cI y.kind),(cI y.sum)])] (aI (hG x y)) []:=by
 refine Fn.mk' 17 [(0,(aG [(cI x.aD),(cI x.ba),(cI x.kind),(cI x.sum)])),(1,(aG [(cI y.aD),(cI y.ba),(cI y.kind),(cI y.sum)]))] Try.func53 rfl rfl rfl rfl ?_
 intro W0 T0
 refine ae aa 3 rfl ?_
 refine ag ?_
 have hr0:ei x.aD y.aD=ei x.aD y.aD:=rfl
 have hr1:ei x.ba y.ba=ei x.ba y.ba:=rfl
 have hr2:fc ([ei x.aD y.aD,ei x.ba y.ba])=fc ([ei x.aD y.aD,ei x.ba y.ba]):=rfl
 refine aW [2,3] [1,0] mixed rfl rfl ?_
 refine aw (kn:=[]) aa 4 rfl trivial ?_
 refine aM (n':=2) [6,8] [] rfl rfl (.inl ⟨(ah.plain rfl),aF.cast (bX 2 (oL x.aD y.aD (ei x.aD y.aD) hr0) Bx rfl rfl ⟨⟨_,rfl,.c (.d _)⟩,⟨_,rfl,.c (.d _)⟩,trivial⟩ trivial trivial rfl rfl rfl rfl) rfl⟩) rfl ?_
 refine aw (kn:=[]) aa 4 rfl trivial ?_
 refine aM (n':=2) [11,13] [] rfl rfl (.inl ⟨(ah.plain rfl),aF.cast (bX 2 (oL x.ba y.ba (ei x.ba y.ba) hr1) Bx rfl rfl ⟨⟨_,rfl,.c (.d _)⟩,⟨_,rfl,.c (.d _)⟩,trivial⟩ trivial trivial rfl rfl rfl rfl) rfl⟩) rfl ?_
 refine aM (n':=3) [9,14] [] rfl rfl (.inl ⟨(ah.plain rfl),aF.cast (dJ (ys:=[(0,(.c (cI (ei x.aD y.aD)))),(1,(.c (cI (ei x.ba y.ba))))]) (rows:=([ei x.aD y.aD,ei x.ba y.ba]).map rI) 2 mW rfl (by decide) ⟨⟨rfl,rfl⟩,⟨rfl,rfl⟩,trivial⟩ rfl rfl rfl rfl) rfl⟩) rfl ?_
 refine aM (n':=3) [15] [2] rfl rfl (.inl ⟨(ah.plain rfl),aF.cast (fR 3 [2] (Hf ([ei x.aD y.aD,ei x.ba y.ba]) (fc ([ei x.aD y.aD,ei x.ba y.ba])) hr2) GL rfl rfl ⟨⟨_,rfl,.c (.s rfl (by decide) (by first|omega|(simp;done)|(simp;omega)))⟩,trivial⟩ rfl trivial rfl rfl rfl rfl) rfl⟩) rfl ?_
 refine aw (kn:=[]) aa 1 rfl trivial ?_
 refine bw [1,0] rfl rfl rfl rfl (by kernel_rfl) ?_
 refine af ?_
 refine az ?_
 refine an aa [] 0 rfl rfl rfl rfl rfl rfl ?_ ?_
 all_goals first|rfl|(simp [aA];done)|(simp [aA];omega)

theorem we (d:List al) (N a b n:Nat) (fn:FuncId) (bj:List (List D)) (hp:∀ x y:al,Fn Try.prog fn ([.g [cI x.aD,cI x.ba,cI x.kind,cI x.sum],.g [cI y.aD,cI y.ba,cI y.kind,cI y.sum]]++bj.map fun r=>GV.c (.q r 0)) (aI (hG x y)) []) (hen:bm Try.prog fn) (hl:d.length * 32<=140737488355328) (hN:N=d.length) (h0_:a+n<=d.length) (h1_:b+n<=d.length) (r:List al) (hr:ga a b n d=r):cJ Try.prog 110 [(.c (.s 0 0 4 N)),(.c (cI (↑a:Int))),(.c (cI (↑b:Int))),(.c (cI (↑n:Int))),(.c (.d (.f fn bj)))] [(0,(cS d))] [0] (.t []) [(0,(cS r))]:=by
 refine cJ.mk 38 [(0,(aC (.s 0 0 4 N))),(1,(aI (↑a:Int))),(2,(aI (↑b:Int))),(3,(aI (↑n:Int))),(4,(aC (.d (.f fn bj))))] 1 Try.func110 rfl rfl rfl rfl rfl rfl rfl rfl rfl ?_
 intro W0 F0 T0 pg
 refine gm 0 rfl (fun hlen0=>?_)
 refine ae aa 1 rfl ?_
 refine aU ?_
 refine cg (β:=Nat×List al) (fun (p:Nat×List al)=>match p with|(i,d1)=>⟨[(0,(aC (.s 0 0 4 N))),(1,(aI (↑a:Int))),(2,(aI (↑b:Int))),(3,(aI (↑n:Int))),(10,(aI (↑i:Int)))],[(0,(cS d1))],1⟩) (fun (p:Nat×List al)=>match p with|(i,d1)=>i<=n/\d1=ga a b i d/\d1.length=d.length) (fun (p:Nat×List al)=>match p with|(i,d1)=>n - i) (0,d) ?_ ?_ ?_
 ·exact ⟨by omega,rfl,rfl⟩
 ·exact aE.bR id (by refine ⟨?_,?_,?_,?_,?_,trivial⟩<;>first|rfl|(simp only [bc];done)|(congr 3;omega)|(congr 4;omega)|(simp only [bd];rfl)|(exact cM rfl (by omega))) (⟨by first|rfl|(simp only [bc];done)|(congr 3;omega)|(congr 4;omega)|(simp only [bd];rfl),trivial⟩) rfl
 rintro ⟨i,d1⟩ ⟨hi0_0,hi0_1,hi0_2⟩
 refine ag ?_
 refine ae aa 3 rfl ?_
 refine aj rfl (fun hc1=>?_) (fun hc1=>?_)
 ·
  have hc1':=of_decide_eq_true hc1
  refine aP ?_
  refine ag ?_
  refine aU ?_
  obtain ⟨x1,hx1⟩:=cb (xs:=d1) (i:=(b)+(i)) (by first|omega|(simp;done)|(simp;omega))
  obtain ⟨x2,hx2⟩:=cb (xs:=d1) (i:=(a)+(i)) (by first|omega|(simp;done)|(simp;omega))
  obtain ⟨x3,hx3⟩:=cb (xs:=((d1).set ((a)+(i)) x1)) (i:=(b)+(i)) (by first|omega|(simp;done)|(simp;omega))
  refine dh [0,1,2,3,10] [0] mixed rfl rfl ?_
  refine bS (kn:=[]) aa 3 rfl trivial ?_
  refine bY (n':=1) [17,18] [] rfl rfl (.inl ⟨(ah.plain rfl),aF.cast (aJ rfl rfl rfl (aL (by first|omega|(simp;done)|(simp;omega)))) rfl⟩) rfl ?_
  refine bS (kn:=[]) aa 3 rfl trivial ?_
  refine bY (n':=1) [21,22] [] rfl rfl (.inl ⟨(ah.plain rfl),aF.cast (aJ rfl rfl rfl (aL (by first|omega|(simp;done)|(simp;omega)))) rfl⟩) rfl ?_
  refine bS (kn:=[]) aa 3 rfl trivial ?_
  refine bY (n':=1) [25,26] [] rfl rfl (.inl ⟨(ah.plain rfl),aF.cast (aJ rfl rfl rfl (aL (by first|omega|(simp;done)|(simp;omega)))) rfl⟩) rfl ?_
  refine bY (n':=1) [24,27] [0] rfl rfl (.inl ⟨(ah.plain rfl),aF.cast (bx (i:=(b)+(i)) rfl rfl rfl Try.underlying42 dt (by first|omega|(simp;done)|(simp;omega)) (by first|omega|(simp;done)|(simp;omega))) rfl⟩) rfl ?_
  refine bY (n':=1) [28] [0] rfl rfl (.inl ⟨(ah.plain rfl),aF.cast (dg rfl rfl rfl Try.underlying83 rfl dt (bf hx1) rfl) rfl⟩) rfl ?_
  refine bS (kn:=[]) aa 3 rfl trivial ?_
  refine bY (n':=1) [31,32] [] rfl rfl (.inl ⟨(ah.plain rfl),aF.cast (aJ rfl rfl rfl (aL (by first|omega|(simp;done)|(simp;omega)))) rfl⟩) rfl ?_
  refine bY (n':=1) [30,33] [0] rfl rfl (.inl ⟨(ah.plain rfl),aF.cast (bx (i:=(a)+(i)) rfl rfl rfl Try.underlying42 dt (by first|omega|(simp;done)|(simp;omega)) (by first|omega|(simp;done)|(simp;omega))) rfl⟩) rfl ?_
  refine bY (n':=1) [34] [0] rfl rfl (.inl ⟨(ah.plain rfl),aF.cast (dg rfl rfl rfl Try.underlying83 rfl dt (bf hx2) rfl) rfl⟩) rfl ?_
  refine bY (n':=1) [16,19] [0] rfl rfl (.inl ⟨(ah.plain rfl),aF.cast (bx (i:=(a)+(i)) rfl rfl rfl Try.underlying42 dt (by first|omega|(simp;done)|(simp;omega)) (by first|omega|(simp;done)|(simp;omega))) rfl⟩) rfl ?_
  refine bY (n':=1) [36,29] [0] rfl rfl (.inl ⟨(ah.plain rfl),aF.cast (dL (ds:=[(dI x1.aD),(dI x1.ba),(dI x1.kind),(dI x1.sum)]) rfl rfl rfl rfl rfl dt rfl (Nat.le_of_ble_eq_true rfl) (bf hx2) rfl (eL (x':=x1) rfl)) rfl⟩) rfl ?_
  refine bY (n':=1) [20,23] [0] rfl rfl (.inl ⟨(ah.plain rfl),aF.cast (bx (i:=(b)+(i)) rfl rfl rfl Try.underlying42 dt (by first|omega|(simp;done)|(simp;omega)) (by first|omega|(simp;done)|(simp;omega))) rfl⟩) rfl ?_
  refine bY (n':=1) [37,35] [0] rfl rfl (.inl ⟨(ah.plain rfl),aF.cast (dL (ds:=[(dI x2.aD),(dI x2.ba),(dI x2.kind),(dI x2.sum)]) rfl rfl rfl rfl rfl dt rfl (Nat.le_of_ble_eq_true rfl) (bf hx3) rfl (eL (x':=x2) rfl)) rfl⟩) rfl ?_
  refine dO [0,1,2,3,10] [0] rfl rfl (by kernel_rfl) ?_
  refine bl ?_
  refine then_ok ?_
  refine au ?_
  refine ad aa 1 rfl ?_
  refine ay (aJ rfl rfl rfl (aL (by first|omega|(simp;done)|(simp;omega)))) rfl ?_
  refine ad aa 1 rfl ?_
  refine af ?_
  refine ⟨(i+1,((d1).set ((a)+(i)) x1).set ((b)+(i)) x2),⟨by omega,by rw [ga,<-hi0_1];exact (lx hx2 hx1).symm,by simp only [List.length_set];exact hi0_2⟩,by first|omega|(simp;done)|(simp;omega),aE.bR id (by refine ⟨?_,?_,?_,?_,?_,trivial⟩<;>first|rfl|(simp only [bc];done)|(congr 3;omega)|(congr 4;omega)|(simp only [bd];rfl)|(exact cM rfl (by omega))) (⟨by first|rfl|(simp only [bc];done)|(congr 3;omega)|(congr 4;omega)|(simp only [bd];rfl),trivial⟩) rfl⟩
 have hc1':=of_decide_eq_false hc1
 refine bZ ?_
 refine aN ?_
 refine aN ?_
 refine bC ?_
 have hX:ga a b n d=d1:=by
   have:i=n:=by omega
   subst this;exact hi0_1.symm
 rw [hX] at hr;clear hX
 subst hr
 refine cL aa [0] 1 rfl rfl rfl rfl rfl rfl ?_ ?_
 all_goals first|rfl|(simp [aA];done)|(simp [aA];omega)
theorem lD (ai bi ni:Int) (d:List al) (N a b n:Nat) (fn:FuncId) (bj:List (List D)) (hp:∀ x y:al,Fn Try.prog fn ([.g [cI x.aD,cI x.ba,cI x.kind,cI x.sum],.g [cI y.aD,cI y.ba,cI y.kind,cI y.sum]]++bj.map fun r=>GV.c (.q r 0)) (aI (hG x y)) []) (hen:bm Try.prog fn) (ea_:ai=(↑a:Int)) (eb_:bi=(↑b:Int)) (en_:ni=(↑n:Int)) (hl:d.length * 32<=140737488355328) (hN:N=d.length) (h0_:a+n<=d.length) (h1_:b+n<=d.length) (r:List al) (hr:ga a b n d=r):cJ Try.prog 110 [(.c (.s 0 0 4 N)),(.c (cI ai)),(.c (cI bi)),(.c (cI ni)),(.c (.d (.f fn bj)))] [(0,(cS d))] [0] (.t []) [(0,(cS r))]:=by
  subst ea_ eb_ en_
  exact we d N a b n fn bj hp hen hl hN h0_ h1_ r hr

theorem BK (d:List al) (N a m b:Nat) (fn:FuncId) (bj:List (List D)) (hp:∀ x y:al,Fn Try.prog fn ([.g [cI x.aD,cI x.ba,cI x.kind,cI x.sum],.g [cI y.aD,cI y.ba,cI y.kind,cI y.sum]]++bj.map fun r=>GV.c (.q r 0)) (aI (hG x y)) []) (hen:bm Try.prog fn) (hl:d.length * 32<=140737488355328) (hN:N=d.length) (h0_:a < m) (h1_:m < b) (h2_:b<=d.length) (r:List al) (hr:iR m (m - a) (b - m) d=r):cJ Try.prog 93 [(.c (.s 0 0 4 N)),(.c (cI (↑a:Int))),(.c (cI (↑m:Int))),(.c (cI (↑b:Int))),(.c (.d (.f fn bj)))] [(0,(cS d))] [0] (.t []) [(0,(cS r))]:=by
 refine cJ.mk 58 [(0,(aC (.s 0 0 4 N))),(1,(aI (↑a:Int))),(2,(aI (↑m:Int))),(3,(aI (↑b:Int))),(4,(aC (.d (.f fn bj))))] 1 Try.func93 rfl rfl rfl rfl rfl rfl rfl rfl rfl ?_
 intro W0 F0 T0 pg
 refine gm 0 rfl (fun hlen0=>?_)
 refine aH aa 2 rfl ?_
 refine ay (aJ rfl rfl rfl (aL (by first|omega|(simp;done)|(simp;omega)))) rfl ?_
 refine ad aa 1 rfl ?_
 refine af ?_
 refine aH aa 2 rfl ?_
 refine ay (aJ rfl rfl rfl (aL (by first|omega|(simp;done)|(simp;omega)))) rfl ?_
 refine ad aa 1 rfl ?_
 refine af ?_
 refine ag ?_
 refine aU ?_
 refine cg (β:=Nat×Nat×List al) (fun (p:Nat×Nat×List al)=>match p with|(i,j,d1)=>⟨[(0,(aC (.s 0 0 4 N))),(2,(aI (↑m:Int))),(4,(aC (.d (.f fn bj)))),(10,(aI (↑i:Int))),(11,(aI (↑j:Int)))],[(0,(cS d1))],1⟩) (fun (p:Nat×Nat×List al)=>match p with|(i,j,d1)=>0 < i/\0 < j/\i+a<=m/\m+j<=b/\iR m i j d1=iR m (m - a) (b - m) d/\d1.length=d.length) (fun (p:Nat×Nat×List al)=>match p with|(i,j,d1)=>i+j) (m - a,b - m,d) ?_ ?_ ?_
 ·exact ⟨by omega,by omega,by omega,by omega,rfl,rfl⟩
 ·exact aE.bR id (by refine ⟨?_,?_,?_,?_,?_,trivial⟩<;>first|rfl|(simp only [bc];done)|(congr 3;omega)|(congr 4;omega)|(simp only [bd];rfl)|(exact cM rfl (by omega))) (⟨by first|rfl|(simp only [bc];done)|(congr 3;omega)|(congr 4;omega)|(simp only [bd];rfl),trivial⟩) rfl
 rintro ⟨i,j,d1⟩ ⟨hi0_0,hi0_1,hi0_2,hi0_3,hi0_4,hi0_5⟩
 refine ag ?_
 refine ae aa 3 rfl ?_
 refine aj rfl (fun hc1=>?_) (fun hc1=>?_)
 ·
  have hc1':=of_decide_eq_true hc1
  refine aP ?_
  refine aU ?_
  refine ae aa 3 rfl ?_
  refine aj rfl (fun hc2=>?_) (fun hc2=>?_)
  ·
   have hc2':=of_decide_eq_true hc2
   refine aH aa 3 rfl ?_
   refine ay (aJ rfl rfl rfl (aL (by first|omega|(simp;done)|(simp;omega)))) rfl ?_
   refine ad aa 3 rfl ?_
   obtain ⟨r0,hr0⟩:∃ (r0:List al),ga ((m) - (i)) m j d1=r0:=⟨_,rfl⟩
   have hlr0:r0.length=d1.length:=by rw [<-hr0];exact iA _ _ _ _
   refine aR 1 [0] (dM id id (lD ((↑m:Int) - (↑i:Int)) (↑m:Int) (↑j:Int) d1 N ((m) - (i)) m j fn bj hp hen (by first|omega|(simp;done)|(simp;omega)) (by first|omega|(simp;done)|(simp;omega)) (by first|omega|(simp;done)|(simp;omega)) (by first|omega|(simp;done)|(simp;omega)) (by first|omega|(simp;done)|(simp;omega)) (by first|omega|(simp;done)|(simp;omega)) (by first|omega|(simp;done)|(simp;omega)) r0 hr0) yq rfl rfl ⟨⟨_,rfl,.inl ⟨rfl,rfl⟩⟩,⟨_,rfl,.inr (.c (.d _))⟩,⟨_,rfl,.inr (.c (.d _))⟩,⟨_,rfl,.inr (.c (.d _))⟩,⟨_,rfl,.inr (.c (.d _))⟩,trivial⟩ ⟨rfl,trivial⟩ rfl rfl ⟨.inr ⟨_,_,_,rfl,by first|(simp;omega)|(simp only [List.length_map];omega)⟩,trivial⟩ rfl rfl rfl trivial ⟨(fun _ _ _ _=>trivial),trivial⟩ rfl rfl rfl rfl) rfl ?_
   refine af ?_
   refine au ?_
   refine ad aa 2 rfl ?_
   refine ay (aJ rfl rfl rfl (aL (by first|omega|(simp;done)|(simp;omega)))) rfl ?_
   refine ad aa 1 rfl ?_
   refine cc ?_
   refine bl ?_
   refine then_ok ?_
   refine ⟨((i) - (j),j,r0),⟨by omega,by omega,by omega,by omega,by rw [<-hr0,<-ze (by omega) (by omega)];exact hi0_4,by omega⟩,by first|omega|(simp;done)|(simp;omega),aE.bR id (by refine ⟨?_,?_,?_,?_,?_,trivial⟩<;>first|rfl|(simp only [bc];done)|(congr 3;omega)|(congr 4;omega)|(simp only [bd];rfl)|(exact cM rfl (by omega))) (⟨by first|rfl|(simp only [bc];done)|(congr 3;omega)|(congr 4;omega)|(simp only [bd];rfl),trivial⟩) rfl⟩
  have hc2':=of_decide_eq_false hc2
  refine aH aa 3 rfl ?_
  refine ay (aJ rfl rfl rfl (aL (by first|omega|(simp;done)|(simp;omega)))) rfl ?_
  refine ad aa 2 rfl ?_
  refine ay (aJ rfl rfl rfl (aL (by first|omega|(simp;done)|(simp;omega)))) rfl ?_
  refine ad aa 1 rfl ?_
  refine ay (aJ rfl rfl rfl (aL (by first|omega|(simp;done)|(simp;omega)))) rfl ?_
  refine ad aa 2 rfl ?_
  obtain ⟨r1,hr1⟩:∃ (r1:List al),ga ((m) - (i)) (((m)+(j)) - (i)) i d1=r1:=⟨_,rfl⟩
  have hlr1:r1.length=d1.length:=by rw [<-hr1];exact iA _ _ _ _
  refine aR 1 [0] (dM id id (lD ((↑m:Int) - (↑i:Int)) (((↑m:Int)+(↑j:Int)) - (↑i:Int)) (↑i:Int) d1 N ((m) - (i)) (((m)+(j)) - (i)) i fn bj hp hen (by first|omega|(simp;done)|(simp;omega)) (by first|omega|(simp;done)|(simp;omega)) (by first|omega|(simp;done)|(simp;omega)) (by first|omega|(simp;done)|(simp;omega)) (by first|omega|(simp;done)|(simp;omega)) (by first|omega|(simp;done)|(simp;omega)) (by first|omega|(simp;done)|(simp;omega)) r1 hr1) yq rfl rfl ⟨⟨_,rfl,.inl ⟨rfl,rfl⟩⟩,⟨_,rfl,.inr (.c (.d _))⟩,⟨_,rfl,.inr (.c (.d _))⟩,⟨_,rfl,.inr (.c (.d _))⟩,⟨_,rfl,.inr (.c (.d _))⟩,trivial⟩ ⟨rfl,trivial⟩ rfl rfl ⟨.inr ⟨_,_,_,rfl,by first|(simp;omega)|(simp only [List.length_map];omega)⟩,trivial⟩ rfl rfl rfl trivial ⟨(fun _ _ _ _=>trivial),trivial⟩ rfl rfl rfl rfl) rfl ?_
  refine af ?_
  refine au ?_
  refine ad aa 2 rfl ?_
  refine ay (aJ rfl rfl rfl (aL (by first|omega|(simp;done)|(simp;omega)))) rfl ?_
  refine ad aa 1 rfl ?_
  refine cc ?_
  refine bl ?_
  refine then_ok ?_
  refine ⟨(i,(j) - (i),r1),⟨by omega,by omega,by omega,by omega,by rw [<-hr1,<-zd (by omega) (by omega)];exact hi0_4,by omega⟩,by first|omega|(simp;done)|(simp;omega),aE.bR id (by refine ⟨?_,?_,?_,?_,?_,trivial⟩<;>first|rfl|(simp only [bc];done)|(congr 3;omega)|(congr 4;omega)|(simp only [bd];rfl)|(exact cM rfl (by omega))) (⟨by first|rfl|(simp only [bc];done)|(congr 3;omega)|(congr 4;omega)|(simp only [bd];rfl),trivial⟩) rfl⟩
 have hc1':=of_decide_eq_false hc1
 refine bZ ?_
 refine aN ?_
 refine aN ?_
 refine bC ?_
 refine then_ok ?_
 refine au ?_
 refine ad aa 3 rfl ?_
 refine ay (aJ rfl rfl rfl (aL (by first|omega|(simp;done)|(simp;omega)))) rfl ?_
 refine ad aa 3 rfl ?_
 obtain ⟨r2,hr2⟩:∃ (r2:List al),ga ((m) - (i)) m i d1=r2:=⟨_,rfl⟩
 have hlr2:r2.length=d1.length:=by rw [<-hr2];exact iA _ _ _ _
 refine aR 1 [0] (dM id id (lD ((↑m:Int) - (↑i:Int)) (↑m:Int) (↑i:Int) d1 N ((m) - (i)) m i fn bj hp hen (by first|omega|(simp;done)|(simp;omega)) (by first|omega|(simp;done)|(simp;omega)) (by first|omega|(simp;done)|(simp;omega)) (by first|omega|(simp;done)|(simp;omega)) (by first|omega|(simp;done)|(simp;omega)) (by first|omega|(simp;done)|(simp;omega)) (by first|omega|(simp;done)|(simp;omega)) r2 hr2) yq rfl rfl ⟨⟨_,rfl,.inl ⟨rfl,rfl⟩⟩,⟨_,rfl,.inr (.c (.d _))⟩,⟨_,rfl,.inr (.c (.d _))⟩,⟨_,rfl,.inr (.c (.d _))⟩,⟨_,rfl,.inr (.c (.d _))⟩,trivial⟩ ⟨rfl,trivial⟩ rfl rfl ⟨.inr ⟨_,_,_,rfl,by first|(simp;omega)|(simp only [List.length_map];omega)⟩,trivial⟩ rfl rfl rfl trivial ⟨(fun _ _ _ _=>trivial),trivial⟩ rfl rfl rfl rfl) rfl ?_
 refine cc ?_
 have hX:iR m (m - a) (b - m) d=r2:=by
   have hij:i=j:=by omega
   subst hij;rw [<-hi0_4,zf (by omega)];exact hr2
 rw [hX] at hr;clear hX
 subst hr
 refine cL aa [0] 1 rfl rfl rfl rfl rfl rfl ?_ ?_
 all_goals first|rfl|(simp [aA];done)|(simp [aA];omega)
theorem tq (ai mi bi:Int) (d:List al) (N a m b:Nat) (fn:FuncId) (bj:List (List D)) (hp:∀ x y:al,Fn Try.prog fn ([.g [cI x.aD,cI x.ba,cI x.kind,cI x.sum],.g [cI y.aD,cI y.ba,cI y.kind,cI y.sum]]++bj.map fun r=>GV.c (.q r 0)) (aI (hG x y)) []) (hen:bm Try.prog fn) (ea_:ai=(↑a:Int)) (em_:mi=(↑m:Int)) (eb_:bi=(↑b:Int)) (hl:d.length * 32<=140737488355328) (hN:N=d.length) (h0_:a < m) (h1_:m < b) (h2_:b<=d.length) (r:List al) (hr:iR m (m - a) (b - m) d=r):cJ Try.prog 93 [(.c (.s 0 0 4 N)),(.c (cI ai)),(.c (cI mi)),(.c (cI bi)),(.c (.d (.f fn bj)))] [(0,(cS d))] [0] (.t []) [(0,(cS r))]:=by
  subst ea_ em_ eb_
  exact BK d N a m b fn bj hp hen hl hN h0_ h1_ h2_ r hr
end Go.Proofs.Ytegepioggeggaaa.Dev
