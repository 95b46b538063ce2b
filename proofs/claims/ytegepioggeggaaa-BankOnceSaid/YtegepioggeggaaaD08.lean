/- A part of the proof: Card1, Card2, Card3, Del2, Post1, Post2, Post3, Auth1. No condition. -/
import Derived.Test.YtegepioggeggaaaD07
set_option linter.unusedVariables false
set_option linter.unusedSimpArgs false
set_option maxHeartbeats 1000000
set_option maxRecDepth 100000
namespace Go.Proofs.Ytegepioggeggaaa.Dev
open Go.RowKit

theorem jM (c:bI) (e:Int) (hr:cZ c=e):Fn Try.prog 28 [(.g [(cI c.bJ),(cI c.held),(cI c.bU.cE),(cI c.bU.count),(cI c.bU.sum),(eD c.cW)])] (.v (.c (cI e))) []:=by
 refine Fn.mk' 32 [(0,(aG [(cI c.bJ),(cI c.held),(cI c.bU.cE),(cI c.bU.count),(cI c.bU.sum),(eD c.cW)]))] Try.func28 rfl rfl rfl rfl ?_
 intro W0 T0
 refine cA 0 5 rfl rfl (fun hlen0_5=>?_)
 refine ae aa 2 rfl ?_
 refine ag ?_
 refine ch 21 ((((decide (c.bJ < (-1000000000000)))||(decide (c.bJ > 1000000000000)))||(decide (c.held < 0)))||(decide (c.held > 1000000000000))) ?_ ?_
 ·
  refine au ?_
  refine ad aa 4 rfl ?_
  refine bE (t:=7) rfl (fun hb1=>?_) (fun hb1=>?_)
  ·
   have hb1':=of_decide_eq_true hb1
   refine ad aa 14 rfl ?_
   refine af ?_
   exact aE.bB 19 rfl rfl (by first|(simp [hb1];done)|(simp_all;done)|(exfalso;simp_all;done)|(simp_all;omega)) rfl
  have hb1':=of_decide_eq_false hb1
  refine ad aa 5 rfl ?_
  refine bE (t:=12) rfl (fun hb2=>?_) (fun hb2=>?_)
  ·
   have hb2':=of_decide_eq_true hb2
   refine ad aa 9 rfl ?_
   refine af ?_
   exact aE.bB 20 rfl rfl (by first|(simp [hb1,hb2];done)|(simp_all;done)|(exfalso;simp_all;done)|(simp_all;omega)) rfl
  have hb2':=of_decide_eq_false hb2
  refine ad aa 5 rfl ?_
  refine bE (t:=17) rfl (fun hb3=>?_) (fun hb3=>?_)
  ·
   have hb3':=of_decide_eq_true hb3
   refine ad aa 4 rfl ?_
   refine af ?_
   exact aE.bB 21 rfl rfl (by first|(simp [hb1,hb2,hb3];done)|(simp_all;done)|(exfalso;simp_all;done)|(simp_all;omega)) rfl
  have hb3':=of_decide_eq_false hb3
  refine ad aa 4 rfl ?_
  refine af ?_
  exact aE.bB 21 rfl rfl (by first|(simp [hb1,hb2,hb3];done)|(simp_all;done)|(exfalso;simp_all;done)|(simp_all;omega)) rfl
 refine aj rfl (fun hc4=>?_) (fun hc4=>?_)
 ·
  have hc4':=hc4;try simp only [bq,bM] at hc4'
  refine ae aa 1 rfl ?_
  refine az ?_
  refine ar ?_
  have hX:cZ c=3:=by
    unfold cZ;rw [if_pos (by omega)]
  rw [hX] at hr;clear hX
  subst hr
  refine an aa [] 0 rfl rfl rfl rfl rfl rfl ?_ ?_
  all_goals first|rfl|(simp [aA];done)|(simp [aA];omega)
 have hc4':=hc4;try simp only [bq,bM] at hc4'
 refine aP ?_
 refine ag ?_
 refine aH aa 2 rfl ?_
 obtain ⟨e0,hr0⟩:∃ (e0:Int),fu c.bU=e0:=⟨_,rfl⟩
 refine aR 1 [0] (bX 1 (kR c.bU e0 hr0) Bz rfl rfl ⟨⟨_,rfl,.g ⟨.d _,.d _,.d _,trivial⟩⟩,trivial⟩ trivial trivial rfl rfl rfl rfl) rfl ?_
 refine ad aa 1 rfl ?_
 refine af ?_
 refine ae aa 2 rfl ?_
 refine aj rfl (fun hc5=>?_) (fun hc5=>?_)
 ·
  have hc5':=of_decide_eq_true hc5
  refine ae aa 2 rfl ?_
  refine az ?_
  refine ar ?_
  have hX:cZ c=e0:=by
    unfold cZ;rw [if_neg (by omega),if_pos (by omega),hr0]
  rw [hX] at hr;clear hX
  subst hr
  refine an aa [] 0 rfl rfl rfl rfl rfl rfl ?_ ?_
  all_goals first|rfl|(simp [aA];done)|(simp [aA];omega)
 have hc5':=of_decide_eq_false hc5
 refine aP ?_
 refine aH aa 2 rfl ?_
 obtain ⟨f1,hr1⟩:∃ (f1:df),fC c.cW=f1:=⟨_,rfl⟩
 refine aR 1 [0] (bX 1 (oH c.cW f1 hr1) Et rfl rfl ⟨⟨_,rfl,.c (.d _)⟩,trivial⟩ ⟨trivial,trivial,trivial⟩ trivial rfl rfl rfl rfl) rfl ?_
 refine ay (Bq rfl rfl Try.underlying50 rfl Try.underlying48 rfl rfl) rfl ?_
 refine ad aa 1 rfl ?_
 refine af ?_
 refine az ?_
 have hX:cZ c=f1.err:=by
   unfold cZ;rw [if_neg (by omega),if_neg (by omega),hr1]
 rw [hX] at hr;clear hX
 subst hr
 refine an aa [] 0 rfl rfl rfl rfl rfl rfl ?_ ?_
 all_goals first|rfl|(simp [aA];done)|(simp [aA];omega)
theorem pK (c:bI) (hb:-9223372036854775808<=c.bJ - c.held/\c.bJ - c.held<=9223372036854775807):Fn Try.prog 24 [(.g [(cI c.bJ),(cI c.held),(cI c.bU.cE),(cI c.bU.count),(cI c.bU.sum),(eD c.cW)])] (aI (c.bJ - c.held)) []:=by
 refine Fn.mk' 8 [(0,(aG [(cI c.bJ),(cI c.held),(cI c.bU.cE),(cI c.bU.count),(cI c.bU.sum),(eD c.cW)]))] Try.func24 rfl rfl rfl rfl ?_
 intro W0 T0
 refine cA 0 5 rfl rfl (fun hlen0_5=>?_)
 obtain ⟨hb1,hb2⟩:=hb
 refine ae aa 2 rfl ?_
 refine aH aa 4 rfl ?_
 refine ay (aJ rfl rfl rfl (aL (by first|omega|(simp;done)|(simp;omega)))) rfl ?_
 refine ad aa 1 rfl ?_
 refine af ?_
 refine az ?_
 refine an aa [] 0 rfl rfl rfl rfl rfl rfl ?_ ?_
 all_goals first|rfl|(simp [aA];done)|(simp [aA];omega)
theorem rp (c:bI) (hl:c.cW.length<=1048576):Fn Try.prog 108 [(.g [(cI c.bJ),(cI c.held),(cI c.bU.cE),(cI c.bU.count),(cI c.bU.sum),(eD c.cW)])] (.v (.g [cI c.bJ,cI c.held,cI c.bU.cE,cI c.bU.count,cI c.bU.sum,.s 0 0 2 c.cW.length])) [(0,.arr 125 2 (c.cW.map gX))]:=by
 refine Fn.mk' 8 [(0,(aG [(cI c.bJ),(cI c.held),(cI c.bU.cE),(cI c.bU.count),(cI c.bU.sum),(eD c.cW)]))] Try.func108 rfl rfl rfl rfl ?_
 intro W0 T0
 refine cA 0 5 rfl rfl (fun hlen0_5=>?_)
 refine ae aa 2 rfl ?_
 refine aH aa 2 rfl ?_
 refine aR 3 [2,1,0] (bX 2 (pN c.cW (by first|omega|(simp;done)|(simp;omega))) Cn rfl rfl ⟨⟨_,rfl,.c (.d _)⟩,trivial⟩ trivial ⟨(fun _ _ _ _=>trivial),trivial⟩ rfl rfl rfl rfl) rfl ?_
 refine ad aa 2 rfl ?_
 refine af ?_
 refine ae aa 2 rfl ?_
 refine az ?_
 refine an aa [2,1] 1 rfl rfl rfl rfl rfl rfl ?_ ?_
 all_goals first|rfl|(simp [aA];done)|(simp [aA];omega)

theorem vB (c:bI) (n time:Int) (x:bI) (e:Int) (hr:dR c n time=(x,e)):Fn Try.prog 80 [(.g [(cI c.bJ),(cI c.held),(cI c.bU.cE),(cI c.bU.count),(cI c.bU.sum),(eD c.cW)]),(.c (cI n)),(.c (cI time))] (.t [(.g [(cI x.bJ),(cI x.held),(cI x.bU.cE),(cI x.bU.count),(cI x.bU.sum),(.s 0 0 2 x.cW.length)]),(.c (cI e))]) [(0,(oN x.cW))]:=by
 refine Fn.mk' 60 [(0,(aG [(cI c.bJ),(cI c.held),(cI c.bU.cE),(cI c.bU.count),(cI c.bU.sum),(eD c.cW)])),(1,(aI n)),(2,(aI time))] Try.func80 rfl rfl rfl rfl ?_
 intro W0 T0
 refine cA 0 5 rfl rfl (fun hlen0_5=>?_)
 have hrc:=@iY c
 have hrl:=@nf c
 refine ae aa 3 rfl ?_
 refine ag ?_
 refine aH aa 1 rfl ?_
 obtain ⟨e0,hr0⟩:∃ (e0:Int),cZ c=e0:=⟨_,rfl⟩
 refine aR 2 [1,0] (bX 2 (jM c e0 hr0) yo rfl rfl ⟨⟨_,rfl,.g ⟨.d _,.d _,.d _,.d _,.d _,.d _,trivial⟩⟩,trivial⟩ trivial trivial rfl rfl rfl rfl) rfl ?_
 refine ad aa 1 rfl ?_
 refine af ?_
 refine ae aa 2 rfl ?_
 refine aj rfl (fun hc1=>?_) (fun hc1=>?_)
 ·
  have hc1':=of_decide_eq_true hc1
  refine ae aa 4 rfl ?_
  refine az ?_
  refine ar ?_
  refine cp 1 5 125 2 rfl rfl rfl ?_
  have hX:dR c n time=((⟨0,0,(⟨0,0,0⟩:eu),([]:List de)⟩:bI),e0):=by
    unfold dR;rw [if_pos (by omega),hr0];rfl
  rw [hX] at hr;clear hX
  simp only [Prod.mk.injEq] at hr;obtain ⟨rfl,rfl⟩:=hr
  refine an aa [2,1] 1 rfl rfl rfl rfl rfl rfl ?_ ?_
  all_goals first|rfl|(simp [aA];done)|(simp [aA];omega)
 have hc1':=of_decide_eq_false hc1
 refine aP ?_
 refine ag ?_
 refine ch 30 ((((decide (n < 1))||(decide (n > 1000000)))||(decide (time < 0)))||(decide (time > 1000000))) ?_ ?_
 ·
  refine au ?_
  refine ad aa 3 rfl ?_
  refine bE (t:=19) rfl (fun hb2=>?_) (fun hb2=>?_)
  ·
   have hb2':=of_decide_eq_true hb2
   refine ad aa 11 rfl ?_
   refine af ?_
   exact aE.bB 15 rfl rfl (by first|(simp [hb2];done)|(simp_all;done)|(exfalso;simp_all;done)|(simp_all;omega)) rfl
  have hb2':=of_decide_eq_false hb2
  refine ad aa 4 rfl ?_
  refine bE (t:=23) rfl (fun hb3=>?_) (fun hb3=>?_)
  ·
   have hb3':=of_decide_eq_true hb3
   refine ad aa 7 rfl ?_
   refine af ?_
   exact aE.bB 16 rfl rfl (by first|(simp [hb2,hb3];done)|(simp_all;done)|(exfalso;simp_all;done)|(simp_all;omega)) rfl
  have hb3':=of_decide_eq_false hb3
  refine ad aa 4 rfl ?_
  refine bE (t:=27) rfl (fun hb4=>?_) (fun hb4=>?_)
  ·
   have hb4':=of_decide_eq_true hb4
   refine ad aa 3 rfl ?_
   refine af ?_
   exact aE.bB 17 rfl rfl (by first|(simp [hb2,hb3,hb4];done)|(simp_all;done)|(exfalso;simp_all;done)|(simp_all;omega)) rfl
  have hb4':=of_decide_eq_false hb4
  refine ad aa 3 rfl ?_
  refine af ?_
  exact aE.bB 17 rfl rfl (by first|(simp [hb2,hb3,hb4];done)|(simp_all;done)|(exfalso;simp_all;done)|(simp_all;omega)) rfl
 refine aj rfl (fun hc5=>?_) (fun hc5=>?_)
 ·
  have hc5':=hc5;try simp only [bq,bM] at hc5'
  refine ae aa 3 rfl ?_
  refine az ?_
  refine ar ?_
  refine cp 1 5 125 2 rfl rfl rfl ?_
  have hX:dR c n time=((⟨0,0,(⟨0,0,0⟩:eu),([]:List de)⟩:bI),3):=by
    unfold dR;rw [if_neg (by omega),if_pos (by omega)];rfl
  rw [hX] at hr;clear hX
  simp only [Prod.mk.injEq] at hr;obtain ⟨rfl,rfl⟩:=hr
  refine an aa [2,1] 1 rfl rfl rfl rfl rfl rfl ?_ ?_
  all_goals first|rfl|(simp [aA];done)|(simp [aA];omega)
 have hc5':=hc5;try simp only [bq,bM] at hc5'
 refine aP ?_
 refine ag ?_
 refine aH aa 2 rfl ?_
 refine aR 2 [1,0] (bX 2 (pK c (by first|assumption|omega|(constructor<;>decide)|(have hz:=iY (by first|assumption|omega);omega))) Ev rfl rfl ⟨⟨_,rfl,.g ⟨.d _,.d _,.d _,.d _,.d _,.d _,trivial⟩⟩,trivial⟩ trivial trivial rfl rfl rfl rfl) rfl ?_
 refine ad aa 1 rfl ?_
 refine af ?_
 refine aj rfl (fun hc6=>?_) (fun hc6=>?_)
 ·
  have hc6':=of_decide_eq_true hc6
  refine ae aa 3 rfl ?_
  refine az ?_
  refine ar ?_
  refine cp 1 5 125 2 rfl rfl rfl ?_
  have hX:dR c n time=((⟨0,0,(⟨0,0,0⟩:eu),([]:List de)⟩:bI),10):=by
    unfold dR;rw [if_neg (by omega),if_neg (by omega),if_pos (by omega)];rfl
  rw [hX] at hr;clear hX
  simp only [Prod.mk.injEq] at hr;obtain ⟨rfl,rfl⟩:=hr
  refine an aa [2,1] 1 rfl rfl rfl rfl rfl rfl ?_ ?_
  all_goals first|rfl|(simp [aA];done)|(simp [aA];omega)
 have hc6':=of_decide_eq_false hc6
 refine aP ?_
 refine aH aa 7 rfl ?_
 obtain ⟨r1,e1,hr1⟩:∃ (r1:List de) (e1:Int),ez c.bU c.cW (⟨time,n⟩:de)=(r1,e1):=⟨_,_,rfl⟩
 refine aR 3 [2,1,0] (bX 2 (yw c.bU c.cW (⟨time,n⟩:de) r1 e1 hr1) FG rfl rfl ⟨⟨_,rfl,.g ⟨.d _,.d _,.d _,trivial⟩⟩,⟨_,rfl,.c (.d _)⟩,⟨_,rfl,.g ⟨.d _,.d _,trivial⟩⟩,trivial⟩ ⟨trivial,trivial,trivial⟩ ⟨(fun _ _ _ _=>trivial),trivial⟩ rfl rfl rfl rfl) rfl ?_
 refine ad aa 5 rfl ?_
 refine af ?_
 refine ag ?_
 refine ae aa 2 rfl ?_
 refine aj rfl (fun hc7=>?_) (fun hc7=>?_)
 ·
  have hc7':=of_decide_eq_true hc7
  refine ae aa 4 rfl ?_
  refine az ?_
  refine ar ?_
  refine cp 1 5 125 2 rfl rfl rfl ?_
  have hX:dR c n time=((⟨0,0,(⟨0,0,0⟩:eu),([]:List de)⟩:bI),e1):=by
    have ha:=hr1
    unfold dR;rw [if_neg (by omega),if_neg (by omega),if_neg (by omega),if_pos (by rw [ha];dsimp only;omega),ha];rfl
  rw [hX] at hr;clear hX
  simp only [Prod.mk.injEq] at hr;obtain ⟨rfl,rfl⟩:=hr
  refine an aa [3,1] 1 rfl rfl rfl rfl rfl rfl ?_ ?_
  all_goals first|rfl|(simp [aA];done)|(simp [aA];omega)
 have hc7':=of_decide_eq_false hc7
 refine aP ?_
 refine ae aa 3 rfl ?_
 refine aH aa 3 rfl ?_
 refine ay (aJ rfl rfl rfl (aL (by first|omega|(simp;done)|(simp;omega)))) rfl ?_
 refine ad aa 2 rfl ?_
 refine af ?_
 refine ae aa 3 rfl ?_
 refine az ?_
 have hX:dR c n time=((⟨c.bJ,c.held+n,c.bU,r1⟩:bI),0):=by
   have ha:=hr1
   unfold dR;rw [if_neg (by omega),if_neg (by omega),if_neg (by omega),if_neg (by rw [ha];dsimp only;omega),ha]
 rw [hX] at hr;clear hX
 simp only [Prod.mk.injEq] at hr;obtain ⟨rfl,rfl⟩:=hr
 refine an aa [2,1] 1 rfl rfl rfl rfl rfl rfl ?_ ?_
 all_goals first|rfl|(simp [aA];done)|(simp [aA];omega)
theorem vA (c:bI) (n:Int) (x:bI) (e:Int) (hr:eP c n=(x,e)):Fn Try.prog 91 [(.g [(cI c.bJ),(cI c.held),(cI c.bU.cE),(cI c.bU.count),(cI c.bU.sum),(eD c.cW)]),(.c (cI n))] (.t [(.g [(cI x.bJ),(cI x.held),(cI x.bU.cE),(cI x.bU.count),(cI x.bU.sum),(.s 0 0 2 x.cW.length)]),(.c (cI e))]) [(0,(oN x.cW))]:=by
 refine Fn.mk' 35 [(0,(aG [(cI c.bJ),(cI c.held),(cI c.bU.cE),(cI c.bU.count),(cI c.bU.sum),(eD c.cW)])),(1,(aI n))] Try.func91 rfl rfl rfl rfl ?_
 intro W0 T0
 refine cA 0 5 rfl rfl (fun hlen0_5=>?_)
 have hrc:=@iY c
 have hrl:=@nf c
 refine ae aa 3 rfl ?_
 refine ag ?_
 refine aH aa 1 rfl ?_
 obtain ⟨e0,hr0⟩:∃ (e0:Int),cZ c=e0:=⟨_,rfl⟩
 refine aR 2 [1,0] (bX 2 (jM c e0 hr0) yo rfl rfl ⟨⟨_,rfl,.g ⟨.d _,.d _,.d _,.d _,.d _,.d _,trivial⟩⟩,trivial⟩ trivial trivial rfl rfl rfl rfl) rfl ?_
 refine ad aa 1 rfl ?_
 refine af ?_
 refine ae aa 2 rfl ?_
 refine aj rfl (fun hc1=>?_) (fun hc1=>?_)
 ·
  have hc1':=of_decide_eq_true hc1
  refine ae aa 4 rfl ?_
  refine az ?_
  refine ar ?_
  refine cp 1 5 125 2 rfl rfl rfl ?_
  have hX:eP c n=((⟨0,0,(⟨0,0,0⟩:eu),([]:List de)⟩:bI),e0):=by
    unfold eP;rw [if_pos (by omega),hr0];rfl
  rw [hX] at hr;clear hX
  simp only [Prod.mk.injEq] at hr;obtain ⟨rfl,rfl⟩:=hr
  refine an aa [2,1] 1 rfl rfl rfl rfl rfl rfl ?_ ?_
  all_goals first|rfl|(simp [aA];done)|(simp [aA];omega)
 have hc1':=of_decide_eq_false hc1
 refine aP ?_
 refine ag ?_
 refine ch 25 (((decide (n < 1))||(decide (n > 1000000)))||(decide (n > (1000000000000 - c.held)))) ?_ ?_
 ·
  refine au ?_
  refine ad aa 3 rfl ?_
  refine bE (t:=15) rfl (fun hb2=>?_) (fun hb2=>?_)
  ·
   have hb2':=of_decide_eq_true hb2
   refine ad aa 10 rfl ?_
   refine af ?_
   exact aE.bB 14 rfl rfl (by first|(simp [hb2];done)|(simp_all;done)|(exfalso;simp_all;done)|(simp_all;omega)) rfl
  have hb2':=of_decide_eq_false hb2
  refine ad aa 4 rfl ?_
  refine bE (t:=19) rfl (fun hb3=>?_) (fun hb3=>?_)
  ·
   have hb3':=of_decide_eq_true hb3
   refine ad aa 6 rfl ?_
   refine af ?_
   exact aE.bB 15 rfl rfl (by first|(simp [hb2,hb3];done)|(simp_all;done)|(exfalso;simp_all;done)|(simp_all;omega)) rfl
  have hb3':=of_decide_eq_false hb3
  refine ad aa 3 rfl ?_
  refine cz (ah.yes rfl rfl rfl) (aJ rfl rfl rfl (aL (by first|omega|(simp;done)|(simp;omega)))) rfl rfl ?_
  refine ad aa 2 rfl ?_
  refine af ?_
  exact aE.bB 15 rfl rfl (by first|(simp [hb2,hb3];done)|(simp_all;done)|(exfalso;simp_all;done)|(simp_all;omega)) rfl
 refine aj rfl (fun hc4=>?_) (fun hc4=>?_)
 ·
  have hc4':=hc4;try simp only [bq,bM] at hc4'
  refine ae aa 3 rfl ?_
  refine az ?_
  refine ar ?_
  refine cp 1 5 125 2 rfl rfl rfl ?_
  have hX:eP c n=((⟨0,0,(⟨0,0,0⟩:eu),([]:List de)⟩:bI),3):=by
    unfold eP;rw [if_neg (by omega),if_pos (by omega)];rfl
  rw [hX] at hr;clear hX
  simp only [Prod.mk.injEq] at hr;obtain ⟨rfl,rfl⟩:=hr
  refine an aa [2,1] 1 rfl rfl rfl rfl rfl rfl ?_ ?_
  all_goals first|rfl|(simp [aA];done)|(simp [aA];omega)
 have hc4':=hc4;try simp only [bq,bM] at hc4'
 refine aP ?_
 refine aH aa 1 rfl ?_
 refine aR 3 [2,1,0] (bX 2 (rp c (by first|assumption|omega)) Cq rfl rfl ⟨⟨_,rfl,.g ⟨.d _,.d _,.d _,.d _,.d _,.d _,trivial⟩⟩,trivial⟩ ⟨trivial,trivial,trivial,trivial,trivial,trivial,trivial⟩ ⟨(fun _ _ _ _=>trivial),trivial⟩ rfl rfl rfl rfl) rfl ?_
 refine ad aa 1 rfl ?_
 refine af ?_
 refine aH aa 3 rfl ?_
 refine ay (aJ rfl rfl rfl (aL (by first|omega|(simp;done)|(simp;omega)))) rfl ?_
 refine ad aa 2 rfl ?_
 refine af ?_
 refine ae aa 3 rfl ?_
 refine az ?_
 have hX:eP c n=((⟨c.bJ,c.held+n,c.bU,c.cW⟩:bI),0):=by
   unfold eP;rw [if_neg (by omega),if_neg (by omega)]
 rw [hX] at hr;clear hX
 simp only [Prod.mk.injEq] at hr;obtain ⟨rfl,rfl⟩:=hr
 refine an aa [2,1] 1 rfl rfl rfl rfl rfl rfl ?_ ?_
 all_goals first|rfl|(simp [aA];done)|(simp [aA];omega)

theorem vz (c:bI) (held bJ:Int) (x:bI) (e:Int) (hr:ec c held bJ=(x,e)):Fn Try.prog 97 [(.g [(cI c.bJ),(cI c.held),(cI c.bU.cE),(cI c.bU.count),(cI c.bU.sum),(eD c.cW)]),(.c (cI held)),(.c (cI bJ))] (.t [(.g [(cI x.bJ),(cI x.held),(cI x.bU.cE),(cI x.bU.count),(cI x.bU.sum),(.s 0 0 2 x.cW.length)]),(.c (cI e))]) [(0,(oN x.cW))]:=by
 refine Fn.mk' 52 [(0,(aG [(cI c.bJ),(cI c.held),(cI c.bU.cE),(cI c.bU.count),(cI c.bU.sum),(eD c.cW)])),(1,(aI held)),(2,(aI bJ))] Try.func97 rfl rfl rfl rfl ?_
 intro W0 T0
 refine cA 0 5 rfl rfl (fun hlen0_5=>?_)
 have hrc:=@iY c
 have hrl:=@nf c
 refine ae aa 3 rfl ?_
 refine ag ?_
 refine aH aa 1 rfl ?_
 obtain ⟨e0,hr0⟩:∃ (e0:Int),cZ c=e0:=⟨_,rfl⟩
 refine aR 2 [1,0] (bX 2 (jM c e0 hr0) yo rfl rfl ⟨⟨_,rfl,.g ⟨.d _,.d _,.d _,.d _,.d _,.d _,trivial⟩⟩,trivial⟩ trivial trivial rfl rfl rfl rfl) rfl ?_
 refine ad aa 1 rfl ?_
 refine af ?_
 refine ae aa 2 rfl ?_
 refine aj rfl (fun hc1=>?_) (fun hc1=>?_)
 ·
  have hc1':=of_decide_eq_true hc1
  refine ae aa 4 rfl ?_
  refine az ?_
  refine ar ?_
  refine cp 1 5 125 2 rfl rfl rfl ?_
  have hX:ec c held bJ=((⟨0,0,(⟨0,0,0⟩:eu),([]:List de)⟩:bI),e0):=by
    unfold ec;rw [if_pos (by omega),hr0];rfl
  rw [hX] at hr;clear hX
  simp only [Prod.mk.injEq] at hr;obtain ⟨rfl,rfl⟩:=hr
  refine an aa [2,1] 1 rfl rfl rfl rfl rfl rfl ?_ ?_
  all_goals first|rfl|(simp [aA];done)|(simp [aA];omega)
 have hc1':=of_decide_eq_false hc1
 refine aP ?_
 refine ag ?_
 refine aH aa 2 rfl ?_
 refine aR 3 [2,1,0] (dJ (ys:=[(0,(.c (cI held))),(1,(.c (cI bJ)))]) (rows:=([held,bJ]).map rI) 2 mW rfl (by decide) ⟨⟨rfl,rfl⟩,⟨rfl,rfl⟩,trivial⟩ rfl rfl rfl rfl) rfl ?_
 refine ay (du rfl rfl rfl rfl rfl Try.underlying30) rfl ?_
 refine ad aa 1 rfl ?_
 refine af ?_
 refine aU ?_
 refine cg (β:=Nat) (fun (q:Nat)=>⟨[(1,(aI held)),(2,(aI bJ)),(3,(aC (.p 0 0 0 0))),(6,(aC (.p 1 0 0 0))),(20,(aC (.s 2 0 1 2))),(21,(aI 2)),(22,(aI (↑q:Int)))],[(2,(dD ([held,bJ]))),(1,(.box 61 [(cI 0),(cI 0),(cI 0),(cI 0),(cI 0),cN])),(0,(.box 61 [(cI c.bJ),(cI c.held),(cI c.bU.cE),(cI c.bU.count),(cI c.bU.sum),(eD c.cW)]))],3⟩) (fun (q:Nat)=>q<=2/\(0 < q->-1000000000000<=held/\held<=1000000000000)/\(1 < q->-1000000000000<=bJ/\bJ<=1000000000000)) (fun (q:Nat)=>2 - q) 0 ?_ ?_ ?_
 ·exact ⟨by omega,by omega,by omega⟩
 ·exact aE.bR id (by refine ⟨?_,?_,?_,?_,?_,?_,?_,trivial⟩<;>first|rfl|(simp only [bc];done)|(congr 3;omega)|(congr 4;omega)|(simp only [bd];rfl)) (by refine ⟨?_,?_,?_,trivial⟩<;>first|rfl|(simp only [bc];done)|(congr 3;omega)|(congr 4;omega)|(simp only [bd];rfl)) rfl
 rintro q ⟨hi0_0,hi0_1,hi0_2⟩
 refine ae aa 1 rfl ?_
 refine ag ?_
 refine aj rfl (fun hc2=>?_) (fun hc2=>?_)
 ·
  have hc2':=of_decide_eq_true hc2
  refine aP ?_
  refine ag ?_
  refine aU ?_
  refine eV ?_
  refine ay (bx (i:=q) rfl rfl rfl Try.underlying30 fE (by first|omega|(simp;done)|(simp;omega)) (by first|omega|(simp;done)|(simp;omega))) rfl ?_
  obtain ⟨x1,hx1⟩:=cb (xs:=([held,bJ]:List Int)) (i:=q) (by first|omega|(simp;done)|(simp;omega))
  have hx1v:=DM hx1
  refine ay (eI rfl rfl rfl Try.underlying3 rfl (bf hx1) rfl) rfl ?_
  refine ad aa 1 rfl ?_
  refine af ?_
  refine ch 31 ((decide (x1 < (-1000000000000)))||(decide (x1 > 1000000000000))) ?_ ?_
  ·
   refine au ?_
   refine ad aa 3 rfl ?_
   refine bE (t:=28) rfl (fun hb3=>?_) (fun hb3=>?_)
   ·
    have hb3':=of_decide_eq_true hb3
    refine ad aa 3 rfl ?_
    refine af ?_
    exact aE.bB 7 rfl rfl (by first|(simp [hb3];done)|(simp_all;done)|(exfalso;simp_all;done)|(simp_all;omega)) rfl
   have hb3':=of_decide_eq_false hb3
   refine ad aa 3 rfl ?_
   refine af ?_
   exact aE.bB 7 rfl rfl (by first|(simp [hb3];done)|(simp_all;done)|(exfalso;simp_all;done)|(simp_all;omega)) rfl
  refine aj rfl (fun hc4=>?_) (fun hc4=>?_)
  ·
   have hc4':=hc4;try simp only [bq,bM] at hc4'
   refine ae aa 3 rfl ?_
   refine az ?_
   refine bo ?_
   refine ar ?_
   refine ar ?_
   refine bo ?_
   refine ar ?_
   refine cp 1 5 125 2 rfl rfl rfl ?_
   have hX:ec c held bJ=((⟨0,0,(⟨0,0,0⟩:eu),([]:List de)⟩:bI),3):=by
     unfold ec;rw [if_neg (by omega),if_pos (by omega)];rfl
   rw [hX] at hr;clear hX
   simp only [Prod.mk.injEq] at hr;obtain ⟨rfl,rfl⟩:=hr
   refine an aa [3,1] 1 rfl rfl rfl rfl rfl rfl ?_ ?_
   all_goals first|rfl|(simp [aA];done)|(simp [aA];omega)
  have hc4':=hc4;try simp only [bq,bM] at hc4'
  refine cD ?_
  refine bl ?_
  refine then_ok ?_
  refine au ?_
  refine ay (aJ rfl rfl rfl (aL (by first|omega|(simp;done)|(simp;omega)))) rfl ?_
  refine ad aa 1 rfl ?_
  refine af ?_
  refine ⟨q+1,⟨by omega,by omega,by omega⟩,by first|omega|(simp;done)|(simp;omega),aE.bR id (by refine ⟨?_,?_,?_,?_,?_,?_,?_,trivial⟩<;>first|rfl|(simp only [bc];done)|(congr 3;omega)|(congr 4;omega)|(simp only [bd];rfl)) (by refine ⟨?_,?_,?_,trivial⟩<;>first|rfl|(simp only [bc];done)|(congr 3;omega)|(congr 4;omega)|(simp only [bd];rfl)) rfl⟩
 have hc2':=of_decide_eq_false hc2
 refine bZ ?_
 refine aN ?_
 refine aN ?_
 refine bC ?_
 refine then_ok ?_
 refine aH aa 1 rfl ?_
 refine aR 4 [3,2,1,0] (bX 3 (rp c (by first|assumption|omega)) Cq rfl rfl ⟨⟨_,rfl,.g ⟨.d _,.d _,.d _,.d _,.d _,.d _,trivial⟩⟩,trivial⟩ ⟨trivial,trivial,trivial,trivial,trivial,trivial,trivial⟩ ⟨(fun _ _ _ _=>trivial),trivial⟩ rfl rfl rfl rfl) rfl ?_
 refine ad aa 1 rfl ?_
 refine af ?_
 refine aH aa 3 rfl ?_
 refine ay (aJ rfl rfl rfl (aL (by first|omega|(simp;done)|(simp;omega)))) rfl ?_
 refine ad aa 2 rfl ?_
 refine af ?_
 refine aH aa 3 rfl ?_
 refine ay (aJ rfl rfl rfl (aL (by first|omega|(simp;done)|(simp;omega)))) rfl ?_
 refine ad aa 2 rfl ?_
 refine af ?_
 refine ag ?_
 refine aH aa 1 rfl ?_
 obtain ⟨e1,hr1⟩:∃ (e1:Int),cZ (⟨c.bJ+bJ,c.held+held,c.bU,c.cW⟩:bI)=e1:=⟨_,rfl⟩
 refine aR 4 [3,2,1,0] (fR 4 [3] (jM (⟨c.bJ+bJ,c.held+held,c.bU,c.cW⟩:bI) e1 hr1) yo rfl rfl ⟨⟨_,rfl,.g ⟨.d _,.d _,.d _,.d _,.d _,.s rfl (by decide) (by first|omega|(simp;done)|(simp;omega)),trivial⟩⟩,trivial⟩ rfl trivial rfl rfl rfl rfl) rfl ?_
 refine ad aa 1 rfl ?_
 refine af ?_
 refine ae aa 2 rfl ?_
 refine aj rfl (fun hc5=>?_) (fun hc5=>?_)
 ·
  have hc5':=of_decide_eq_true hc5
  refine ae aa 3 rfl ?_
  refine az ?_
  refine ar ?_
  refine cp 1 5 125 2 rfl rfl rfl ?_
  have hX:ec c held bJ=((⟨0,0,(⟨0,0,0⟩:eu),([]:List de)⟩:bI),10):=by
    unfold ec;rw [if_neg (by omega),if_neg (by omega),if_pos (by first|omega|(intro hz;have hy:=iY hz;dsimp only at hy;omega))];rfl
  rw [hX] at hr;clear hX
  simp only [Prod.mk.injEq] at hr;obtain ⟨rfl,rfl⟩:=hr
  refine an aa [4,1] 1 rfl rfl rfl rfl rfl rfl ?_ ?_
  all_goals first|rfl|(simp [aA];done)|(simp [aA];omega)
 have hc5':=of_decide_eq_false hc5
 refine aP ?_
 refine ae aa 3 rfl ?_
 refine az ?_
 have hX:ec c held bJ=((⟨c.bJ+bJ,c.held+held,c.bU,c.cW⟩:bI),0):=by
   unfold ec;rw [if_neg (by omega),if_neg (by omega),if_neg (by first|omega|(have hz:=oT (c:=⟨c.bJ+bJ,c.held+held,c.bU,c.cW⟩) (by dsimp only;omega) (hrc (by omega)).2.2.2.2.1 (hrc (by omega)).2.2.2.2.2;omega))]
 rw [hX] at hr;clear hX
 simp only [Prod.mk.injEq] at hr;obtain ⟨rfl,rfl⟩:=hr
 refine an aa [3,1] 1 rfl rfl rfl rfl rfl rfl ?_ ?_
 all_goals first|rfl|(simp [aA];done)|(simp [aA];omega)

theorem qw (l:List bu) (fn:FuncId) (bj:List (List D)) (pr:bu->Bool) (hp:∀ x:bu,Fn Try.prog fn ([.g [cI x.number,cI x.kind,cI x.ba,cI x.sum]]++bj.map fun r=>GV.c (.q r 0)) (aB (pr x)) []) (hen:bm Try.prog fn) (r:Int) (hr:gO pr l=r):Fn Try.prog 113 [(.c (cm l)),(.c (.d (.f fn bj)))] (.v (.c (cI r))) []:=by
 refine Fn.mk' 19 [(0,(aC (cm l))),(1,(aC (.d (.f fn bj))))] Try.func113 rfl rfl rfl rfl ?_
 intro W0 T0
 refine dk 0 rfl (fun hlen0=>?_)
 refine ae aa 1 rfl ?_
 refine ag ?_
 refine aH aa 1 rfl ?_
 refine ay (bN rfl rfl rfl rfl rfl Try.underlying32) rfl ?_
 refine ad aa 1 rfl ?_
 refine af ?_
 refine aU ?_
 refine cg (β:=Nat) (fun (q:Nat)=>⟨[(0,(aC (cm l))),(1,(aC (.d (.f fn bj)))),(7,(aI (↑l.length:Int))),(8,(aI (↑q:Int)))],[],0⟩) (fun (q:Nat)=>q<=l.length/\(l.take q).all (fun y=>!pr y)=true) (fun (q:Nat)=>l.length - q) 0 ?_ ?_ ?_
 ·exact ⟨by omega,by simp⟩
 ·exact aE.bR id (by refine ⟨?_,?_,?_,?_,trivial⟩<;>first|rfl|(simp only [bc];done)|(congr 3;omega)|(congr 4;omega)|(simp only [bd];rfl)) (trivial) rfl
 rintro q ⟨hi0_0,hi0_1⟩
 refine ae aa 1 rfl ?_
 refine ag ?_
 refine aj rfl (fun hc1=>?_) (fun hc1=>?_)
 ·
  have hc1':=of_decide_eq_true hc1
  refine aP ?_
  refine ag ?_
  refine aU ?_
  refine ae aa 2 rfl ?_
  refine aH aa 3 rfl ?_
  obtain ⟨x1,hx1⟩:=cb (xs:=l) (i:=q) (by first|omega|(simp;done)|(simp;omega))
  refine ay (bV (i:=q) rfl rfl rfl Try.underlying32 jS (by first|omega|(simp;done)|(simp;omega)) (bf hx1)) rfl ?_
  refine ad aa 1 rfl ?_
  refine ay (hM 0 (hp x1) hen rfl rfl rfl ⟨⟨_,rfl,.g ⟨.d _,.d _,.d _,.d _,trivial⟩⟩,trivial⟩ trivial trivial rfl rfl rfl rfl) rfl ?_
  refine af ?_
  refine aj rfl (fun hc2=>?_) (fun hc2=>?_)
  ·
   have hc2':=hc2;try simp only [bq,bM] at hc2'
   refine ae aa 2 rfl ?_
   refine az ?_
   refine bo ?_
   refine ar ?_
   refine ar ?_
   refine bo ?_
   refine ar ?_
   have hX:gO pr l=(↑q:Int):=by
     exact td hi0_1 hx1 hc2
   rw [hX] at hr;clear hX
   subst hr
   refine an aa [] 0 rfl rfl rfl rfl rfl rfl ?_ ?_
   all_goals first|rfl|(simp [aA];done)|(simp [aA];omega)
  have hc2':=hc2;try simp only [bq,bM] at hc2'
  refine cD ?_
  refine bl ?_
  refine then_ok ?_
  refine au ?_
  refine ay (aJ rfl rfl rfl (aL (by first|omega|(simp;done)|(simp;omega)))) rfl ?_
  refine ad aa 1 rfl ?_
  refine af ?_
  refine ⟨q+1,⟨by omega,vM hi0_1 hx1 hc2⟩,by first|omega|(simp;done)|(simp;omega),aE.bR id (by refine ⟨?_,?_,?_,?_,trivial⟩<;>first|rfl|(simp only [bc];done)|(congr 3;omega)|(congr 4;omega)|(simp only [bd];rfl)) (trivial) rfl⟩
 have hc1':=of_decide_eq_false hc1
 refine bZ ?_
 refine aN ?_
 refine aN ?_
 refine bC ?_
 refine then_ok ?_
 refine ae aa 1 rfl ?_
 refine az ?_
 have hX:gO pr l=(-1):=by
   exact uZ (by rw [<-List.take_of_length_le (l:=l) (i:=q) (by omega)];exact hi0_1)
 rw [hX] at hr;clear hX
 subst hr
 refine an aa [] 0 rfl rfl rfl rfl rfl rfl ?_ ?_
 all_goals first|rfl|(simp [aA];done)|(simp [aA];omega)
theorem pn (l:List bu) (fn:FuncId) (bj:List (List D)) (pr:bu->Bool) (hp:∀ x:bu,Fn Try.prog fn ([.g [cI x.number,cI x.kind,cI x.ba,cI x.sum]]++bj.map fun r=>GV.c (.q r 0)) (aB (pr x)) []) (hen:bm Try.prog fn) (r:List bu) (hr:dH pr l=r):cJ Try.prog 105 [(.c (.s 0 0 4 l.length)),(.c (.d (.f fn bj)))] [(0,(xr l))] [] (.v (.c (.s 0 0 4 r.length))) [(0,(xr r))]:=by
 refine cJ.mk 42 [(0,(aC (.s 0 0 4 l.length))),(1,(aC (.d (.f fn bj))))] 1 Try.func105 rfl rfl rfl rfl rfl rfl rfl rfl rfl ?_
 intro W0 F0 T0 pg
 refine gm 0 rfl (fun hlen0=>?_)
 have hic:=te pr l
 have hib:gO pr l<=l.length/\-1<=gO pr l:=by rcases hic with ⟨h,_⟩|⟨i,h,h1,_⟩<;>omega
 refine ae aa 1 rfl ?_
 refine aH aa 2 rfl ?_
 obtain ⟨r0,hr0⟩:∃ (r0:Int),gO pr l=r0:=⟨_,rfl⟩
 refine aR 1 [0] (fR 1 [0] (qw l fn bj pr hp hen r0 hr0) FA rfl rfl ⟨⟨_,rfl,.c (.s rfl (by decide) (by first|omega|(simp;done)|(simp;omega)))⟩,⟨_,rfl,.c (.d _)⟩,trivial⟩ rfl trivial rfl rfl rfl rfl) rfl ?_
 refine ad aa 1 rfl ?_
 refine af ?_
 refine ag ?_
 refine ae aa 2 rfl ?_
 refine aj rfl (fun hc1=>?_) (fun hc1=>?_)
 ·
  have hc1':=of_decide_eq_true hc1
  refine ae aa 2 rfl ?_
  refine az ?_
  refine ar ?_
  have hX:dH pr l=l:=by
    rcases hic with ⟨_,h⟩|⟨i0,h,_⟩
    ·exact h
    ·exfalso;omega
  rw [hX] at hr;clear hX
  subst hr
  refine an aa [0] 1 rfl rfl rfl rfl rfl rfl ?_ ?_
  all_goals first|rfl|(simp [aA];done)|(simp [aA];omega)
 have hc1':=of_decide_eq_false hc1
 refine aP ?_
 refine ag ?_
 refine aH aa 1 rfl ?_
 refine ay (aJ rfl rfl rfl (aL (by first|omega|(simp;done)|(simp;omega)))) rfl ?_
 refine ad aa 1 rfl ?_
 refine af ?_
 refine aU ?_
 obtain ⟨i0,hi0,hil,x0,hx0,hp0,hk0⟩:∃ i:Nat,gO pr l=i/\i < l.length/\∃ x,l[i]?=some x/\pr x=true/\dH pr (l.take i)=l.take i:=by
     rcases hic with ⟨h,_⟩|h
     ·exfalso;omega
     ·exact h
 obtain rfl:r0=(i0:Int):=by omega
 refine cg (β:=Nat×Nat×List bu) (fun (p:Nat×Nat×List bu)=>match p with|(j,i,c)=>⟨[(0,(aC (.s 0 0 4 l.length))),(1,(aC (.d (.f fn bj)))),(4,(aC cN)),(5,(aI (↑i:Int))),(6,(aI (↑j:Int)))],[(0,(xr c))],1⟩) (fun (p:Nat×Nat×List bu)=>match p with|(j,i,c)=>kX pr l c i j) (fun (p:Nat×Nat×List bu)=>match p with|(j,i,c)=>l.length - j) (i0+1,i0,l) ?_ ?_ ?_
 ·exact kX.start hx0 hp0 hk0
 ·exact aE.bR id (by refine ⟨?_,?_,?_,?_,?_,trivial⟩<;>first|rfl|(simp only [bc];done)|(congr 3;omega)|(congr 4;omega)|(simp only [bd];rfl)) (⟨by first|rfl|(simp only [bc];done)|(congr 3;omega)|(congr 4;omega)|(simp only [bd];rfl),trivial⟩) rfl
 rintro ⟨j,i,c⟩ hd
 have hdl:=hd.len;have hdi:=hd.ij;have hdj:=hd.jl
 refine ag ?_
 refine aH aa 2 rfl ?_
 refine ay (du rfl rfl rfl rfl rfl Try.underlying32) rfl ?_
 refine ad aa 1 rfl ?_
 refine af ?_
 refine aj rfl (fun hc2=>?_) (fun hc2=>?_)
 ·
  have hc2':=of_decide_eq_true hc2
  refine aP ?_
  refine ag ?_
  refine aU ?_
  refine aH aa 2 rfl ?_
  refine ay (bx (i:=j) rfl rfl rfl Try.underlying32 jS (by first|omega|(simp;done)|(simp;omega)) (by first|omega|(simp;done)|(simp;omega))) rfl ?_
  obtain ⟨x1,hx1⟩:=cb (xs:=c) (i:=j) (by first|omega|(simp;done)|(simp;omega))
  refine ay (dg rfl rfl rfl Try.underlying80 rfl jS (bf hx1) rfl) rfl ?_
  refine ad aa 2 rfl ?_
  refine af ?_
  refine aH aa 2 rfl ?_
  refine ay (hM 2 (hp x1) hen rfl rfl rfl ⟨⟨_,rfl,.g ⟨.d _,.d _,.d _,.d _,trivial⟩⟩,trivial⟩ trivial trivial rfl rfl rfl rfl) rfl ?_
  refine ad aa 1 rfl ?_
  refine af ?_
  refine aj rfl (fun hc3=>?_) (fun hc3=>?_)
  ·
   have hc3':=hc3;try simp only [bq,bM] at hc3'
   refine aH aa 3 rfl ?_
   refine ay (bx (i:=i) rfl rfl rfl Try.underlying32 jS (by first|omega|(simp;done)|(simp;omega)) (by first|omega|(simp;done)|(simp;omega))) rfl ?_
   obtain ⟨x2,hx2⟩:=cb (xs:=c) (i:=i) (by first|omega|(simp;done)|(simp;omega))
   refine gh [1,0] (dL (ds:=[(dI x1.number),(dI x1.kind),(dI x1.ba),(dI x1.sum)]) rfl rfl rfl rfl rfl jS rfl (Nat.le_of_ble_eq_true rfl) (bf hx2) rfl (eL (x':=x1) rfl)) rfl ?_
   refine af ?_
   refine au ?_
   refine ad aa 1 rfl ?_
   refine ay (aJ rfl rfl rfl (aL (by first|omega|(simp;done)|(simp;omega)))) rfl ?_
   refine ad aa 1 rfl ?_
   refine cc ?_
   refine bl ?_
   refine then_ok ?_
   refine au ?_
   refine ad aa 1 rfl ?_
   refine ay (aJ rfl rfl rfl (aL (by first|omega|(simp;done)|(simp;omega)))) rfl ?_
   refine ad aa 1 rfl ?_
   refine af ?_
   refine ⟨(j+1,(i)+1,(c).set i x1),hd.cO hx1 (by simpa using hc3),by first|omega|(simp;done)|(simp;omega),aE.bR id (by refine ⟨?_,?_,?_,?_,?_,trivial⟩<;>first|rfl|(simp only [bc];done)|(congr 3;omega)|(congr 4;omega)|(simp only [bd];rfl)) (⟨by first|rfl|(simp only [bc];done)|(congr 3;omega)|(congr 4;omega)|(simp only [bd];rfl),trivial⟩) rfl⟩
  have hc3':=hc3;try simp only [bq,bM] at hc3'
  refine cD ?_
  refine bl ?_
  refine then_ok ?_
  refine au ?_
  refine ad aa 1 rfl ?_
  refine ay (aJ rfl rfl rfl (aL (by first|omega|(simp;done)|(simp;omega)))) rfl ?_
  refine ad aa 1 rfl ?_
  refine af ?_
  refine ⟨(j+1,i,c),hd.skip hx1 (by simpa using hc3),by first|omega|(simp;done)|(simp;omega),aE.bR id (by refine ⟨?_,?_,?_,?_,?_,trivial⟩<;>first|rfl|(simp only [bc];done)|(congr 3;omega)|(congr 4;omega)|(simp only [bd];rfl)) (⟨by first|rfl|(simp only [bc];done)|(congr 3;omega)|(congr 4;omega)|(simp only [bd];rfl),trivial⟩) rfl⟩
 have hc2':=of_decide_eq_false hc2
 refine bZ ?_
 refine aN ?_
 refine aN ?_
 refine bC ?_
 refine then_ok ?_
 refine aH aa 2 rfl ?_
 refine ay (nv (l:=i) (h:=l.length) rfl Try.underlying32 jS rfl (.inr ⟨_,rfl,rfl⟩) (.inl ⟨rfl,rfl⟩) (by first|omega|(simp;done)|(simp;omega)) (by first|omega|(simp;done)|(simp;omega)) (by first|omega|(simp;done)|(simp;omega)) rfl) rfl ?_
 refine gh [0] (rV (rows':=(c.take i).map fy) uo Gd rfl rfl rfl rfl rfl rfl rfl rfl rfl (by simp [List.map_take])) rfl ?_
 refine af ?_
 refine aH aa 2 rfl ?_
 refine ay (nv (l:=0) (h:=i) rfl Try.underlying32 jS rfl (.inl ⟨rfl,rfl⟩) (.inr ⟨_,rfl,rfl⟩) (by first|omega|(simp;done)|(simp;omega)) (by first|omega|(simp;done)|(simp;omega)) (by first|omega|(simp;done)|(simp;omega)) rfl) rfl ?_
 refine ad aa 1 rfl ?_
 refine af ?_
 refine az ?_
 have hX:dH pr l=(c.take i):=by
   have hdone:=hd.done (by omega)
   rw [<-hdone]
 rw [hX] at hr;clear hX
 subst hr
 refine an aa [0] 1 rfl rfl rfl rfl rfl rfl ?_ ?_
 all_goals first|rfl|(simp [aA];done)|(simp [aA];omega)


theorem ke {s : ca} {t : bu} (hI : ∀ t ∈ s.kept, eY t.number) (h : 0 ≤ s.bz ∧ s.bz ≤ 1000000) : ∀ u ∈ s.kept ++ [(⟨s.bz + 1, t.kind, t.ba, t.sum⟩ : bu)], eY u.number := by
  intro u hu
  rcases List.mem_append.1 hu with hu | hu
  · exact hI u hu
  · have : u = ⟨s.bz + 1, t.kind, t.ba, t.sum⟩ := by simpa using hu
    subst this; unfold eY; dsimp only; omega
theorem ji {s x:ca} {seen e:Int} (hI:∀ t∈s.kept,eY t.number) (h:ea s seen=(x,e)):∀ u∈x.kept,eY u.number:=by
  intro u hu
  rcases pf h with ⟨_,rfl⟩|⟨_,_,_,_,rfl⟩
  ·simp [wS] at hu
  ·exact hI u (ka hu)

theorem lE (s:ca) (hI:∀ t∈s.kept,eY t.number) (f:df) (hr:cP s=f):Fn Try.prog 29 [(.g [(cI s.bz),(cm s.kept)])] (.v (.g [(cI f.err),(cI f.at_)])) []:=by
 refine Fn.mk' 79 [(0,(aG [(cI s.bz),(cm s.kept)]))] Try.func29 rfl rfl rfl rfl ?_
 intro W0 T0
 refine cA 0 1 rfl rfl (fun hlen0_1=>?_)
 refine ae aa 2 rfl ?_
 refine ag ?_
 refine aH aa 2 rfl ?_
 refine ay (bN rfl rfl rfl rfl rfl Try.underlying32) rfl ?_
 refine ad aa 1 rfl ?_
 refine af ?_
 refine aj rfl (fun hc1=>?_) (fun hc1=>?_)
 ·
  have hc1':=of_decide_eq_true hc1
  refine ae aa 2 rfl ?_
  refine az ?_
  refine ar ?_
  have hX:cP s=(⟨5,0⟩:df):=by
    unfold cP jt;rw [if_pos (by omega)]
  rw [hX] at hr;clear hX
  subst hr
  refine an aa [1] 0 rfl rfl rfl rfl rfl rfl ?_ ?_
  all_goals first|rfl|(simp [aA];done)|(simp [aA];omega)
 have hc1':=of_decide_eq_false hc1
 refine aP ?_
 refine ag ?_
 refine ch 20 ((decide (s.bz < (↑s.kept.length:Int)))||(decide (s.bz > 1000000))) ?_ ?_
 ·
  refine au ?_
  refine ad aa 4 rfl ?_
  refine ay (bN rfl rfl rfl rfl rfl Try.underlying32) rfl ?_
  refine ad aa 2 rfl ?_
  refine bE (t:=16) rfl (fun hb2=>?_) (fun hb2=>?_)
  ·
   have hb2':=of_decide_eq_true hb2
   refine ad aa 4 rfl ?_
   refine af ?_
   exact aE.bB 12 rfl rfl (by first|(simp [hb2];done)|(simp_all;done)|(exfalso;simp_all;done)|(simp_all;omega)) rfl
  have hb2':=of_decide_eq_false hb2
  refine ad aa 4 rfl ?_
  refine af ?_
  exact aE.bB 12 rfl rfl (by first|(simp [hb2];done)|(simp_all;done)|(exfalso;simp_all;done)|(simp_all;omega)) rfl
 refine aj rfl (fun hc3=>?_) (fun hc3=>?_)
 ·
  have hc3':=hc3;try simp only [bq,bM] at hc3'
  refine ae aa 2 rfl ?_
  refine az ?_
  refine ar ?_
  have hX:cP s=(⟨3,0⟩:df):=by
    unfold cP jt;rw [if_neg (by omega),if_pos (by omega)]
  rw [hX] at hr;clear hX
  subst hr
  refine an aa [1] 0 rfl rfl rfl rfl rfl rfl ?_ ?_
  all_goals first|rfl|(simp [aA];done)|(simp [aA];omega)
 have hc3':=hc3;try simp only [bq,bM] at hc3'
 refine aP ?_
 refine ag ?_
 refine aH aa 2 rfl ?_
 refine ay (bN rfl rfl rfl rfl rfl Try.underlying32) rfl ?_
 refine ad aa 1 rfl ?_
 refine af ?_
 refine aU ?_
 refine cg (β:=Nat) (fun (q:Nat)=>⟨[(1,(aC (.p 0 0 0 0))),(2,(aC (.p 1 0 0 0))),(23,(aC (cm s.kept))),(24,(aI (↑s.kept.length:Int))),(25,(aI (↑q:Int)))],[(1,(.box 50 [(cI 0),(cI 0)])),(0,(.box 34 [(cI s.bz),(cm s.kept)]))],2⟩) (fun (q:Nat)=>q<=s.kept.length/\scan (mm s) 0 s.kept.length=scan (mm s) q (s.kept.length - q)) (fun (q:Nat)=>s.kept.length - q) 0 ?_ ?_ ?_
 ·exact ⟨by omega,rfl⟩
 ·exact aE.bR id (by refine ⟨?_,?_,?_,?_,?_,trivial⟩<;>first|rfl|(simp only [bc];done)|(congr 3;omega)|(congr 4;omega)|(simp only [bd];rfl)) (by refine ⟨?_,?_,trivial⟩<;>first|rfl|(simp only [bc];done)|(congr 3;omega)|(congr 4;omega)|(simp only [bd];rfl)) rfl
 rintro q ⟨hi0_0,hi0_1⟩
 refine ae aa 1 rfl ?_
 refine ag ?_
 refine aj rfl (fun hc4=>?_) (fun hc4=>?_)
 ·
  have hc4':=of_decide_eq_true hc4
  refine aP ?_
  refine ag ?_
  refine aU ?_
  refine aH aa 1 rfl ?_
  obtain ⟨x1,hx1⟩:=cb (xs:=s.kept) (i:=q) (by first|omega|(simp;done)|(simp;omega))
  have hx1b:=hI x1 (List.mem_of_getElem? hx1)
  unfold eY at hx1b
  refine ay (bV (i:=q) rfl rfl rfl Try.underlying32 jS (by first|omega|(simp;done)|(simp;omega)) (bf hx1)) rfl ?_
  refine ad aa 4 rfl ?_
  refine af ?_
  refine aU ?_
  refine ch 30 ((decide (x1.kind < 1))||(decide (x1.kind > 3))) ?_ ?_
  ·
   refine au ?_
   refine ad aa 4 rfl ?_
   refine bE (t:=34) rfl (fun hb5=>?_) (fun hb5=>?_)
   ·
    have hb5':=of_decide_eq_true hb5
    refine ad aa 5 rfl ?_
    refine af ?_
    exact aE.bB 10 rfl rfl (by first|(simp [hb5];done)|(simp_all;done)|(exfalso;simp_all;done)|(simp_all;omega)) rfl
   have hb5':=of_decide_eq_false hb5
   refine ad aa 5 rfl ?_
   refine af ?_
   exact aE.bB 10 rfl rfl (by first|(simp [hb5];done)|(simp_all;done)|(exfalso;simp_all;done)|(simp_all;omega)) rfl
  refine aj rfl (fun hc6=>?_) (fun hc6=>?_)
  ·
   have hc6':=hc6;try simp only [bq,bM] at hc6'
   refine ae aa 3 rfl ?_
   refine az ?_
   refine bo ?_
   refine bo ?_
   refine ar ?_
   refine ar ?_
   refine bo ?_
   refine ar ?_
   have hX:cP s=(⟨1,(↑q:Int)⟩:df):=by
     unfold cP jt;rw [if_neg (by omega),if_neg (by omega),hi0_1,ib (c:=1) (by omega) (by unfold mm;simp only [hx1];rw [if_pos (by omega)]) (by decide)]
   rw [hX] at hr;clear hX
   subst hr
   refine an aa [1] 0 rfl rfl rfl rfl rfl rfl ?_ ?_
   all_goals first|rfl|(simp [aA];done)|(simp [aA];omega)
  have hc6':=hc6;try simp only [bq,bM] at hc6'
  refine ch 41 ((((decide (x1.ba < 0))||(decide (x1.ba>=30)))||(decide (x1.sum < 1)))||(decide (x1.sum > 1000000))) ?_ ?_
  ·
   refine au ?_
   refine ad aa 4 rfl ?_
   refine bE (t:=45) rfl (fun hb7=>?_) (fun hb7=>?_)
   ·
    have hb7':=of_decide_eq_true hb7
    refine ad aa 15 rfl ?_
    refine af ?_
    exact aE.bB 20 rfl rfl (by first|(simp [hb7];done)|(simp_all;done)|(exfalso;simp_all;done)|(simp_all;omega)) rfl
   have hb7':=of_decide_eq_false hb7
   refine ad aa 5 rfl ?_
   refine bE (t:=50) rfl (fun hb8=>?_) (fun hb8=>?_)
   ·
    have hb8':=of_decide_eq_true hb8
    refine ad aa 10 rfl ?_
    refine af ?_
    exact aE.bB 21 rfl rfl (by first|(simp [hb7,hb8];done)|(simp_all;done)|(exfalso;simp_all;done)|(simp_all;omega)) rfl
   have hb8':=of_decide_eq_false hb8
   refine ad aa 5 rfl ?_
   refine bE (t:=55) rfl (fun hb9=>?_) (fun hb9=>?_)
   ·
    have hb9':=of_decide_eq_true hb9
    refine ad aa 5 rfl ?_
    refine af ?_
    exact aE.bB 22 rfl rfl (by first|(simp [hb7,hb8,hb9];done)|(simp_all;done)|(exfalso;simp_all;done)|(simp_all;omega)) rfl
   have hb9':=of_decide_eq_false hb9
   refine ad aa 5 rfl ?_
   refine af ?_
   exact aE.bB 22 rfl rfl (by first|(simp [hb7,hb8,hb9];done)|(simp_all;done)|(exfalso;simp_all;done)|(simp_all;omega)) rfl
  refine aj rfl (fun hc10=>?_) (fun hc10=>?_)
  ·
   have hc10':=hc10;try simp only [bq,bM] at hc10'
   refine ae aa 3 rfl ?_
   refine az ?_
   refine bo ?_
   refine bo ?_
   refine ar ?_
   refine ar ?_
   refine bo ?_
   refine ar ?_
   have hX:cP s=(⟨3,(↑q:Int)⟩:df):=by
     unfold cP jt;rw [if_neg (by omega),if_neg (by omega),hi0_1,ib (c:=3) (by omega) (by unfold mm;simp only [hx1];rw [if_neg (by omega),if_pos (by omega)]) (by decide)]
   rw [hX] at hr;clear hX
   subst hr
   refine an aa [1] 0 rfl rfl rfl rfl rfl rfl ?_ ?_
   all_goals first|rfl|(simp [aA];done)|(simp [aA];omega)
  have hc10':=hc10;try simp only [bq,bM] at hc10'
  refine aH aa 6 rfl ?_
  refine ay (bN rfl rfl rfl rfl rfl Try.underlying32) rfl ?_
  refine ay (aJ rfl rfl rfl (aL (by first|omega|(simp;done)|(simp;omega)))) rfl ?_
  refine ay (aJ rfl rfl rfl (aL (by first|omega|(simp;done)|(simp;omega)))) rfl ?_
  refine ad aa 1 rfl ?_
  refine ay (aJ rfl rfl rfl (aL (by first|omega|(simp;done)|(simp;omega)))) rfl ?_
  refine ad aa 2 rfl ?_
  refine af ?_
  refine aj rfl (fun hc11=>?_) (fun hc11=>?_)
  ·
   have hc11':=of_decide_eq_true hc11
   refine ae aa 3 rfl ?_
   refine az ?_
   refine bo ?_
   refine bo ?_
   refine ar ?_
   refine ar ?_
   refine bo ?_
   refine ar ?_
   have hX:cP s=(⟨2,(↑q:Int)⟩:df):=by
     unfold cP jt;rw [if_neg (by omega),if_neg (by omega),hi0_1,ib (c:=2) (by omega) (by unfold mm;simp only [hx1];rw [if_neg (by omega),if_neg (by omega),if_pos (by omega)]) (by decide)]
   rw [hX] at hr;clear hX
   subst hr
   refine an aa [1] 0 rfl rfl rfl rfl rfl rfl ?_ ?_
   all_goals first|rfl|(simp [aA];done)|(simp [aA];omega)
  have hc11':=of_decide_eq_false hc11
  refine cD ?_
  refine bl ?_
  refine bl ?_
  refine then_ok ?_
  refine au ?_
  refine ay (aJ rfl rfl rfl (aL (by first|omega|(simp;done)|(simp;omega)))) rfl ?_
  refine ad aa 1 rfl ?_
  refine af ?_
  refine ⟨q+1,⟨by omega,by rw [hi0_1];exact mE (by omega) (by unfold mm;simp only [hx1];rw [if_neg (by omega),if_neg (by omega),if_neg (by omega)])⟩,by first|omega|(simp;done)|(simp;omega),aE.bR id (by refine ⟨?_,?_,?_,?_,?_,trivial⟩<;>first|rfl|(simp only [bc];done)|(congr 3;omega)|(congr 4;omega)|(simp only [bd];rfl)) (by refine ⟨?_,?_,trivial⟩<;>first|rfl|(simp only [bc];done)|(congr 3;omega)|(congr 4;omega)|(simp only [bd];rfl)) rfl⟩
 have hc4':=of_decide_eq_false hc4
 refine bZ ?_
 refine aN ?_
 refine aN ?_
 refine bC ?_
 refine then_ok ?_
 refine ae aa 2 rfl ?_
 refine az ?_
 have hX:cP s=(⟨0,0⟩:df):=by
   unfold cP jt;rw [if_neg (by omega),if_neg (by omega),hi0_1,mY (by omega)]
 rw [hX] at hr;clear hX
 subst hr
 refine an aa [1] 0 rfl rfl rfl rfl rfl rfl ?_ ?_
 all_goals first|rfl|(simp [aA];done)|(simp [aA];omega)

theorem rn (s:ca) (t:bu) (hI:∀ t∈s.kept,eY t.number) (x:ca) (e:Int) (hr:gq s t=(x,e)):Fn Try.prog 103 [(.g [(cI s.bz),(cm s.kept)]),(.g [(cI t.number),(cI t.kind),(cI t.ba),(cI t.sum)])] (.t [(.g [(cI x.bz),(.s 0 0 4 x.kept.length)]),(.c (cI e))]) [(0,(xr x.kept))]:=by
 refine Fn.mk' 40 [(0,(aG [(cI s.bz),(cm s.kept)])),(1,(aG [(cI t.number),(cI t.kind),(cI t.ba),(cI t.sum)]))] Try.func103 rfl rfl rfl rfl ?_
 intro W0 T0
 refine cA 0 1 rfl rfl (fun hlen0_1=>?_)
 have hrs:=@kY s
 refine ae aa 4 rfl ?_
 refine ag ?_
 refine aH aa 1 rfl ?_
 obtain ⟨f0,hr0⟩:∃ (f0:df),cP s=f0:=⟨_,rfl⟩
 have hq0:(cP s).err=f0.err:=by rw [hr0]
 refine aR 3 [2,1,0] (bX 3 (lE s (by first|assumption|exact ke (by assumption) (by omega)|exact ji (by assumption) (by assumption)|(simp [eY];done)) f0 hr0) BA rfl rfl ⟨⟨_,rfl,.g ⟨.d _,.d _,trivial⟩⟩,trivial⟩ ⟨trivial,trivial,trivial⟩ trivial rfl rfl rfl rfl) rfl ?_
 refine ad aa 2 rfl ?_
 refine af ?_
 refine ae aa 3 rfl ?_
 refine aj rfl (fun hc1=>?_) (fun hc1=>?_)
 ·
  have hc1':=of_decide_eq_true hc1
  refine ag ?_
  refine dh [2,3,4,6] [3,2,1,0] mixed rfl rfl ?_
  refine bS (kn:=[]) aa 5 rfl trivial ?_
  refine dO [2,3,4,5] [2,1,0] rfl rfl (by kernel_rfl) ?_
  refine then_ok ?_
  refine az ?_
  refine ar ?_
  refine cp 2 1 80 4 rfl rfl rfl ?_
  have hX:gq s t=((⟨0,([]:List bu)⟩:ca),f0.err):=by
    unfold gq;rw [if_pos (by omega),hr0];rfl
  rw [hX] at hr;clear hX
  simp only [Prod.mk.injEq] at hr;obtain ⟨rfl,rfl⟩:=hr
  refine an aa [4,2] 1 rfl rfl rfl rfl rfl rfl ?_ ?_
  all_goals first|rfl|(simp [aA];done)|(simp [aA];omega)
 have hc1':=of_decide_eq_false hc1
 refine aP ?_
 refine aH aa 2 rfl ?_
 refine ay (aJ rfl rfl rfl (aL (by first|omega|(simp;done)|(simp;omega)))) rfl ?_
 refine ad aa 2 rfl ?_
 refine af ?_
 refine ag ?_
 refine aW [2,3,4] [2,1,0] mixed rfl rfl ?_
 refine aw (kn:=[]) aa 2 rfl trivial ?_
 refine aM (n':=4) [22] [] rfl rfl (.inl ⟨(ah.plain rfl),aF.cast (aJ rfl rfl rfl (aL (by first|omega|(simp;done)|(simp;omega)))) rfl⟩) rfl ?_
 refine aw (kn:=[]) aa 2 rfl trivial ?_
 refine aM (n':=5) [25] [] rfl rfl (.inl ⟨(ah.plain rfl),aF.cast (bX 4 (lF s.kept (by first|omega|(simp;done)|(simp;omega))) Cs rfl rfl ⟨⟨_,rfl,.c (.d _)⟩,trivial⟩ trivial ⟨(fun _ _ _ _=>trivial),trivial⟩ rfl rfl rfl rfl) rfl⟩) rfl ?_
 refine aw (kn:=[]) aa 1 rfl trivial ?_
 refine aM (n':=6) [27] [] rfl rfl (.inl ⟨(ah.plain rfl),aF.cast (dJ (ys:=[(0,(.g [(cI (s.bz+1)),(cI t.kind),(cI t.ba),(cI t.sum)]))]) (rows:=([(⟨s.bz+1,t.kind,t.ba,t.sum⟩:bu)]).map fy) 5 uo rfl (by decide) ⟨⟨rfl,rfl⟩,trivial⟩ rfl rfl rfl rfl) rfl⟩) rfl ?_
 refine aM (n':=7) [26,28] [5,4] rfl rfl (.inl ⟨(ah.plain rfl),aF.cast (dp (m:=1) (N:=s.kept.length+1) (k2:=6) (ys:=([(⟨s.bz+1,t.kind,t.ba,t.sum⟩:bu)]).map fy) uo rfl rfl rfl rfl rfl rfl (by first|omega|(simp;done)|(simp;omega)) rfl (.s rfl (by first|omega|(simp;done)|(simp;omega))) (by first|omega|(simp;done)|(simp;omega)) (by first|omega|(simp;done)|(simp;omega)) ff (by decide) (by first|omega|(simp;done)|(simp;omega)) (by first|omega|(simp;done)|(simp;omega))) rfl⟩) rfl ?_
 refine aw (n':=8) (kn:=[]) aa 2 rfl trivial ?_
 refine bw [7,6,2,1,0] rfl rfl rfl rfl (by kernel_rfl) ?_
 refine ad aa 1 rfl ?_
 refine af ?_
 refine ag ?_
 refine aH aa 1 rfl ?_
 obtain ⟨f1,hr1⟩:∃ (f1:df),cP (⟨s.bz+1,s.kept++([(⟨s.bz+1,t.kind,t.ba,t.sum⟩:bu)])⟩:ca)=f1:=⟨_,rfl⟩
 have hq1:(cP (⟨s.bz+1,s.kept++([(⟨s.bz+1,t.kind,t.ba,t.sum⟩:bu)])⟩:ca)).err=f1.err:=by rw [hr1]
 refine aR 8 [7,6,2,1,0] (fR 8 [6] (lE (⟨s.bz+1,s.kept++([(⟨s.bz+1,t.kind,t.ba,t.sum⟩:bu)])⟩:ca) (by first|assumption|exact ke (by assumption) (by omega)|exact ji (by assumption) (by assumption)|(simp [eY];done)) f1 hr1) BA rfl rfl ⟨⟨_,rfl,.g ⟨.d _,.s rfl (by decide) (by first|omega|(simp;done)|(simp;omega)),trivial⟩⟩,trivial⟩ ⟨rfl,rfl,trivial⟩ trivial rfl rfl rfl rfl) rfl ?_
 refine ad aa 2 rfl ?_
 refine af ?_
 refine ae aa 3 rfl ?_
 refine aj rfl (fun hc2=>?_) (fun hc2=>?_)
 ·
  have hc2':=of_decide_eq_true hc2
  refine ag ?_
  refine dh [4,7,8] [8,7,6,2] mixed rfl rfl ?_
  refine bS (kn:=[]) aa 5 rfl trivial ?_
  refine dO [4,7,5] [2,7,6] rfl rfl (by kernel_rfl) ?_
  refine then_ok ?_
  refine az ?_
  refine ar ?_
  refine cp 2 1 80 4 rfl rfl rfl ?_
  have hX:gq s t=((⟨0,([]:List bu)⟩:ca),f1.err):=by
    have hout:cP (lA s t)=f1:=hr1
    unfold gq;rw [if_neg (by omega),if_pos (by rw [hout];omega),hout];rfl
  rw [hX] at hr;clear hX
  simp only [Prod.mk.injEq] at hr;obtain ⟨rfl,rfl⟩:=hr
  refine an aa [9,2] 1 rfl rfl rfl rfl rfl rfl ?_ ?_
  all_goals first|rfl|(simp [aA];done)|(simp [aA];omega)
 have hc2':=of_decide_eq_false hc2
 refine aP ?_
 refine ae aa 3 rfl ?_
 refine az ?_
 have hX:gq s t=((⟨s.bz+1,s.kept++([(⟨s.bz+1,t.kind,t.ba,t.sum⟩:bu)])⟩:ca),0):=by
   have hout:cP (lA s t)=f1:=hr1
   unfold gq;rw [if_neg (by omega),if_neg (by rw [hout];omega)];rfl
 rw [hX] at hr;clear hX
 simp only [Prod.mk.injEq] at hr;obtain ⟨rfl,rfl⟩:=hr
 refine an aa [6,2] 1 rfl rfl rfl rfl rfl rfl ?_ ?_
 all_goals first|rfl|(simp [aA];done)|(simp [aA];omega)
theorem pI (seen:Int) (t:bu) (n:Int) (ok:Bool) (hr:ia seen t=(n,ok)):Fn Try.prog 88 [(.c (cI seen)),(.g [(cI t.number),(cI t.kind),(cI t.ba),(cI t.sum)])] (.t [(.c (cI n)),(.c (cB ok))]) []:=by
 refine Fn.mk' 22 [(0,(aI seen)),(1,(aG [(cI t.number),(cI t.kind),(cI t.ba),(cI t.sum)]))] Try.func88 rfl rfl rfl rfl ?_
 intro W0 T0
 refine ae aa 3 rfl ?_
 refine ag ?_
 refine ch 18 (((decide (seen < 0))||(decide (seen>=1000000)))||(decide (¬t.number=(seen+1)))) ?_ ?_
 ·
  refine au ?_
  refine ad aa 3 rfl ?_
  refine bE (t:=8) rfl (fun hb1=>?_) (fun hb1=>?_)
  ·
   have hb1':=of_decide_eq_true hb1
   refine ad aa 10 rfl ?_
   refine af ?_
   exact aE.bB 14 rfl rfl (by first|(simp [hb1];done)|(simp_all;done)|(exfalso;simp_all;done)|(simp_all;omega)) rfl
  have hb1':=of_decide_eq_false hb1
  refine ad aa 4 rfl ?_
  refine bE (t:=12) rfl (fun hb2=>?_) (fun hb2=>?_)
  ·
   have hb2':=of_decide_eq_true hb2
   refine ad aa 6 rfl ?_
   refine af ?_
   exact aE.bB 15 rfl rfl (by first|(simp [hb1,hb2];done)|(simp_all;done)|(exfalso;simp_all;done)|(simp_all;omega)) rfl
  have hb2':=of_decide_eq_false hb2
  refine ad aa 3 rfl ?_
  refine cz (ah.yes rfl rfl rfl) (aJ rfl rfl rfl (aL (by first|omega|(simp;done)|(simp;omega)))) rfl rfl ?_
  refine ad aa 2 rfl ?_
  refine af ?_
  exact aE.bB 15 rfl rfl (by first|(simp [hb1,hb2];done)|(simp_all;done)|(exfalso;simp_all;done)|(simp_all;omega)) rfl
 refine aj rfl (fun hc3=>?_) (fun hc3=>?_)
 ·
  have hc3':=hc3;try simp only [bq,bM] at hc3'
  refine ae aa 3 rfl ?_
  refine az ?_
  refine ar ?_
  have hX:ia seen t=(seen,false):=by
    (unfold ia;try dsimp only);(repeat' split)<;>first|rfl|omega|(exfalso;omega)|(subst_vars;rfl)|(simp_all;done)|(simp_all;omega)
  rw [hX] at hr;clear hX
  simp only [Prod.mk.injEq] at hr;obtain ⟨rfl,rfl⟩:=hr
  refine an aa [] 0 rfl rfl rfl rfl rfl rfl ?_ ?_
  all_goals first|rfl|(simp [aA];done)|(simp [aA];omega)
 have hc3':=hc3;try simp only [bq,bM] at hc3'
 refine aP ?_
 refine aH aa 1 rfl ?_
 refine ay (aJ rfl rfl rfl (aL (by first|omega|(simp;done)|(simp;omega)))) rfl ?_
 refine ad aa 2 rfl ?_
 refine af ?_
 refine az ?_
 have hX:ia seen t=(seen+1,true):=by
   (unfold ia;try dsimp only);(repeat' split)<;>first|rfl|omega|(exfalso;omega)|(subst_vars;rfl)|(simp_all;done)|(simp_all;omega)
 rw [hX] at hr;clear hX
 simp only [Prod.mk.injEq] at hr;obtain ⟨rfl,rfl⟩:=hr
 refine an aa [] 0 rfl rfl rfl rfl rfl rfl ?_ ?_
 all_goals first|rfl|(simp [aA];done)|(simp [aA];omega)

theorem Dc (t:bu) (seen:Int):Fn Try.prog 107 [(.g [(cI t.number),(cI t.kind),(cI t.ba),(cI t.sum)]),(.c (.q ([dI seen]) 0))] (aB (came seen t)) []:=by
 refine Fn.mk' 8 [(0,(aG [(cI t.number),(cI t.kind),(cI t.ba),(cI t.sum)])),(1,(aC (.q ([dI seen]) 0)))] Try.func107 rfl rfl rfl rfl ?_
 intro W0 T0
 refine ae aa 2 rfl ?_
 refine ae aa 5 rfl ?_
 refine az ?_
 refine an aa [] 0 rfl rfl rfl rfl rfl rfl ?_ ?_
 all_goals first|rfl|(simp [aA];done)|(simp [aA];omega)
theorem pJ (s:ca) (seen:Int) (hI:∀ t∈s.kept,eY t.number) (x:ca) (e:Int) (hr:ea s seen=(x,e)):Fn Try.prog 86 [(.g [(cI s.bz),(cm s.kept)]),(.c (cI seen))] (.t [(.g [(cI x.bz),(.s 0 0 4 x.kept.length)]),(.c (cI e))]) [(0,(xr x.kept))]:=by
 refine Fn.mk' 32 [(0,(aG [(cI s.bz),(cm s.kept)])),(1,(aI seen))] Try.func86 rfl rfl rfl rfl ?_
 intro W0 T0
 refine cA 0 1 rfl rfl (fun hlen0_1=>?_)
 have hrs:=@kY s
 refine ae aa 4 rfl ?_
 refine ag ?_
 refine aH aa 1 rfl ?_
 obtain ⟨f0,hr0⟩:∃ (f0:df),cP s=f0:=⟨_,rfl⟩
 have hq0:(cP s).err=f0.err:=by rw [hr0]
 refine aR 3 [2,1,0] (bX 3 (lE s (by first|assumption|exact ke (by assumption) (by omega)|exact ji (by assumption) (by assumption)|(simp [eY];done)) f0 hr0) BA rfl rfl ⟨⟨_,rfl,.g ⟨.d _,.d _,trivial⟩⟩,trivial⟩ ⟨trivial,trivial,trivial⟩ trivial rfl rfl rfl rfl) rfl ?_
 refine ad aa 2 rfl ?_
 refine af ?_
 refine ae aa 3 rfl ?_
 refine aj rfl (fun hc1=>?_) (fun hc1=>?_)
 ·
  have hc1':=of_decide_eq_true hc1
  refine ag ?_
  refine dh [2,3,4,6] [3,2,1,0] mixed rfl rfl ?_
  refine bS (kn:=[]) aa 5 rfl trivial ?_
  refine dO [2,3,4,5] [2,1,0] rfl rfl (by kernel_rfl) ?_
  refine then_ok ?_
  refine az ?_
  refine ar ?_
  refine cp 2 1 80 4 rfl rfl rfl ?_
  have hX:ea s seen=((⟨0,([]:List bu)⟩:ca),f0.err):=by
    unfold ea;rw [if_pos (by omega),hr0];rfl
  rw [hX] at hr;clear hX
  simp only [Prod.mk.injEq] at hr;obtain ⟨rfl,rfl⟩:=hr
  refine an aa [4,2] 1 rfl rfl rfl rfl rfl rfl ?_ ?_
  all_goals first|rfl|(simp [aA];done)|(simp [aA];omega)
 have hc1':=of_decide_eq_false hc1
 refine aP ?_
 refine ag ?_
 refine ch 22 ((decide (seen < 0))||(decide (seen > s.bz))) ?_ ?_
 ·
  refine au ?_
  refine ad aa 3 rfl ?_
  refine bE (t:=17) rfl (fun hb2=>?_) (fun hb2=>?_)
  ·
   have hb2':=of_decide_eq_true hb2
   refine ad aa 5 rfl ?_
   refine af ?_
   exact aE.bB 9 rfl rfl (by first|(simp [hb2];done)|(simp_all;done)|(exfalso;simp_all;done)|(simp_all;omega)) rfl
  have hb2':=of_decide_eq_false hb2
  refine ad aa 5 rfl ?_
  refine af ?_
  exact aE.bB 9 rfl rfl (by first|(simp [hb2];done)|(simp_all;done)|(exfalso;simp_all;done)|(simp_all;omega)) rfl
 refine aj rfl (fun hc3=>?_) (fun hc3=>?_)
 ·
  have hc3':=hc3;try simp only [bq,bM] at hc3'
  refine ae aa 3 rfl ?_
  refine az ?_
  refine ar ?_
  refine cp 2 1 80 4 rfl rfl rfl ?_
  have hX:ea s seen=((⟨0,([]:List bu)⟩:ca),3):=by
    unfold ea;rw [if_neg (by omega),if_pos (by omega)];rfl
  rw [hX] at hr;clear hX
  simp only [Prod.mk.injEq] at hr;obtain ⟨rfl,rfl⟩:=hr
  refine an aa [4,2] 1 rfl rfl rfl rfl rfl rfl ?_ ?_
  all_goals first|rfl|(simp [aA];done)|(simp [aA];omega)
 have hc3':=hc3;try simp only [bq,bM] at hc3'
 refine aP ?_
 refine ag ?_
 obtain ⟨r1,hr1⟩:∃ (r1:List bu),dH (came seen) s.kept=r1:=⟨_,rfl⟩
 refine aW [2,3,4] [2,1,0] mixed rfl rfl ?_
 refine aw (kn:=[]) aa 4 rfl trivial ?_
 refine aM (n':=5) [27] [] rfl rfl (.inl ⟨(ah.plain rfl),aF.cast (bX 4 (lF s.kept (by first|omega|(simp;done)|(simp;omega))) Cs rfl rfl ⟨⟨_,rfl,.c (.d _)⟩,trivial⟩ trivial ⟨(fun _ _ _ _=>trivial),trivial⟩ rfl rfl rfl rfl) rfl⟩) rfl ?_
 refine aM (n':=5) [3] [] rfl rfl (.inl ⟨(ah.plain rfl),aF.cast (zR (ks:=[1]) rfl ⟨rfl,trivial⟩) rfl⟩) rfl ?_
 refine aM (n':=6) [28,29] [1,4] rfl rfl (.inl ⟨(ah.plain rfl),aF.cast (vi (bb [4]) (bb [5]) [1] (pn s.kept 107 ([[(dI seen)]]) (came seen) (fun x=>Dc x seen) FC r1 hr1) FD rfl rfl ⟨⟨_,rfl,.inl ⟨rfl,rfl⟩⟩,⟨_,rfl,.inr (.c (.fn ⟨⟨by decide,_,rfl⟩,trivial⟩))⟩,trivial⟩ ⟨rfl,trivial⟩ rfl rfl rfl rfl rfl rfl rfl rfl trivial ⟨(tG _),trivial⟩ rfl rfl rfl rfl) rfl⟩) rfl ?_
 refine aw (kn:=[]) aa 1 rfl trivial ?_
 refine bw [5,2,1,0] rfl rfl rfl rfl (by kernel_rfl) ?_
 refine ad aa 2 rfl ?_
 refine af ?_
 refine az ?_
 have hX:ea s seen=((⟨s.bz,r1⟩:ca),0):=by
   unfold ea;rw [if_neg (by omega),if_neg (by omega),hr1]
 rw [hX] at hr;clear hX
 simp only [Prod.mk.injEq] at hr;obtain ⟨rfl,rfl⟩:=hr
 refine an aa [5,2] 1 rfl rfl rfl rfl rfl rfl ?_ ?_
 all_goals first|rfl|(simp [aA];done)|(simp [aA];omega)


theorem Gq {a b c d x:Int} {q:Nat} (h:[a,b,c,d][q]?=some x):(q=0/\x=a)\/(q=1/\x=b)\/(q=2/\x=c)\/(q=3/\x=d):=by
  match q with
  |0=>left;simp_all
  |1=>right;left;simp_all
  |2=>right;right;left;simp_all
  |3=>right;right;right;simp_all
  |q+4=>simp at h

theorem oJ (a:bH) (e:Int) (hr:bK a=e):Fn Try.prog 26 [(.g [(cI a.aO),(cI a.aD),(cI a.sum),(cI a.captured),(cI a.bA),(cI a.bp),(cI a.db),(cB a.shut)])] (.v (.c (cI e))) []:=by
 refine Fn.mk' 71 [(0,(aG [(cI a.aO),(cI a.aD),(cI a.sum),(cI a.captured),(cI a.bA),(cI a.bp),(cI a.db),(cB a.shut)]))] Try.func26 rfl rfl rfl rfl ?_
 intro W0 T0
 refine ae aa 2 rfl ?_
 refine ag ?_
 refine aH aa 8 rfl ?_
 refine aR 2 [1,0] (dJ (ys:=[(0,(.c (cI a.sum))),(1,(.c (cI a.captured))),(2,(.c (cI a.bA))),(3,(.c (cI a.bp)))]) (rows:=([a.sum,a.captured,a.bA,a.bp]).map rI) 1 mW rfl (by decide) ⟨⟨rfl,rfl⟩,⟨rfl,rfl⟩,⟨rfl,rfl⟩,⟨rfl,rfl⟩,trivial⟩ rfl rfl rfl rfl) rfl ?_
 refine ay (du rfl rfl rfl rfl rfl Try.underlying30) rfl ?_
 refine ad aa 1 rfl ?_
 refine af ?_
 refine aU ?_
 refine cg (β:=Nat) (fun (q:Nat)=>⟨[(1,(aC (.p 0 0 0 0))),(13,(aC (.s 1 0 1 4))),(14,(aI 4)),(15,(aI (↑q:Int)))],[(1,(dD ([a.sum,a.captured,a.bA,a.bp]))),(0,(.box 67 [(cI a.aO),(cI a.aD),(cI a.sum),(cI a.captured),(cI a.bA),(cI a.bp),(cI a.db),(cB a.shut)]))],2⟩) (fun (q:Nat)=>q<=4/\(0 < q->0<=a.sum/\a.sum<=1000000)/\(1 < q->0<=a.captured/\a.captured<=1000000)/\(2 < q->0<=a.bA/\a.bA<=1000000)/\(3 < q->0<=a.bp/\a.bp<=1000000)) (fun (q:Nat)=>4 - q) 0 ?_ ?_ ?_
 ·exact ⟨by omega,by omega,by omega,by omega,by omega⟩
 ·exact aE.bR id (by refine ⟨?_,?_,?_,?_,trivial⟩<;>first|rfl|(simp only [bc];done)|(congr 3;omega)|(congr 4;omega)|(simp only [bd];rfl)) (by refine ⟨?_,?_,trivial⟩<;>first|rfl|(simp only [bc];done)|(congr 3;omega)|(congr 4;omega)|(simp only [bd];rfl)) rfl
 rintro q ⟨hi0_0,hi0_1,hi0_2,hi0_3,hi0_4⟩
 refine ae aa 1 rfl ?_
 refine ag ?_
 refine aj rfl (fun hc1=>?_) (fun hc1=>?_)
 ·
  have hc1':=of_decide_eq_true hc1
  refine aP ?_
  refine ag ?_
  refine aU ?_
  refine eV ?_
  refine ay (bx (i:=q) rfl rfl rfl Try.underlying30 fE (by first|omega|(simp;done)|(simp;omega)) (by first|omega|(simp;done)|(simp;omega))) rfl ?_
  obtain ⟨x1,hx1⟩:=cb (xs:=([a.sum,a.captured,a.bA,a.bp]:List Int)) (i:=q) (by first|omega|(simp;done)|(simp;omega))
  have hx1v:=Gq hx1
  refine ay (eI rfl rfl rfl Try.underlying3 rfl (bf hx1) rfl) rfl ?_
  refine ad aa 1 rfl ?_
  refine af ?_
  refine ch 24 ((decide (x1 < 0))||(decide (x1 > 1000000))) ?_ ?_
  ·
   refine au ?_
   refine ad aa 3 rfl ?_
   refine bE (t:=21) rfl (fun hb2=>?_) (fun hb2=>?_)
   ·
    have hb2':=of_decide_eq_true hb2
    refine ad aa 3 rfl ?_
    refine af ?_
    exact aE.bB 7 rfl rfl (by first|(simp [hb2];done)|(simp_all;done)|(exfalso;simp_all;done)|(simp_all;omega)) rfl
   have hb2':=of_decide_eq_false hb2
   refine ad aa 3 rfl ?_
   refine af ?_
   exact aE.bB 7 rfl rfl (by first|(simp [hb2];done)|(simp_all;done)|(exfalso;simp_all;done)|(simp_all;omega)) rfl
  refine aj rfl (fun hc3=>?_) (fun hc3=>?_)
  ·
   have hc3':=hc3;try simp only [bq,bM] at hc3'
   refine ae aa 1 rfl ?_
   refine az ?_
   refine bo ?_
   refine ar ?_
   refine ar ?_
   refine bo ?_
   refine ar ?_
   have hX:bK a=3:=by
     (unfold bK;try dsimp only);(repeat' split)<;>first|rfl|omega|(exfalso;omega)|(subst_vars;rfl)|(simp_all;done)|(simp_all;omega)
   rw [hX] at hr;clear hX
   subst hr
   refine an aa [] 0 rfl rfl rfl rfl rfl rfl ?_ ?_
   all_goals first|rfl|(simp [aA];done)|(simp [aA];omega)
  have hc3':=hc3;try simp only [bq,bM] at hc3'
  refine cD ?_
  refine bl ?_
  refine then_ok ?_
  refine au ?_
  refine ay (aJ rfl rfl rfl (aL (by first|omega|(simp;done)|(simp;omega)))) rfl ?_
  refine ad aa 1 rfl ?_
  refine af ?_
  refine ⟨q+1,⟨by omega,by omega,by omega,by omega,by omega⟩,by first|omega|(simp;done)|(simp;omega),aE.bR id (by refine ⟨?_,?_,?_,?_,trivial⟩<;>first|rfl|(simp only [bc];done)|(congr 3;omega)|(congr 4;omega)|(simp only [bd];rfl)) (by refine ⟨?_,?_,trivial⟩<;>first|rfl|(simp only [bc];done)|(congr 3;omega)|(congr 4;omega)|(simp only [bd];rfl)) rfl⟩
 have hc1':=of_decide_eq_false hc1
 refine bZ ?_
 refine aN ?_
 refine aN ?_
 refine bC ?_
 refine then_ok ?_
 refine ag ?_
 refine aU ?_
 refine ch 26 ((((((decide (a.aO < 0))||(decide (a.aO>=8)))||(decide (a.aD < 0)))||(decide (a.aD>=8)))||(decide (a.db < 0)))||(decide (a.db > 1000100))) ?_ ?_
 ·
  refine au ?_
  refine ad aa 4 rfl ?_
  refine bE (t:=30) rfl (fun hb4=>?_) (fun hb4=>?_)
  ·
   have hb4':=of_decide_eq_true hb4
   refine ad aa 25 rfl ?_
   refine af ?_
   exact aE.bB 30 rfl rfl (by first|(simp [hb4];done)|(simp_all;done)|(exfalso;simp_all;done)|(simp_all;omega)) rfl
  have hb4':=of_decide_eq_false hb4
  refine ad aa 5 rfl ?_
  refine bE (t:=35) rfl (fun hb5=>?_) (fun hb5=>?_)
  ·
   have hb5':=of_decide_eq_true hb5
   refine ad aa 20 rfl ?_
   refine af ?_
   exact aE.bB 31 rfl rfl (by first|(simp [hb4,hb5];done)|(simp_all;done)|(exfalso;simp_all;done)|(simp_all;omega)) rfl
  have hb5':=of_decide_eq_false hb5
  refine ad aa 5 rfl ?_
  refine bE (t:=40) rfl (fun hb6=>?_) (fun hb6=>?_)
  ·
   have hb6':=of_decide_eq_true hb6
   refine ad aa 15 rfl ?_
   refine af ?_
   exact aE.bB 32 rfl rfl (by first|(simp [hb4,hb5,hb6];done)|(simp_all;done)|(exfalso;simp_all;done)|(simp_all;omega)) rfl
  have hb6':=of_decide_eq_false hb6
  refine ad aa 5 rfl ?_
  refine bE (t:=45) rfl (fun hb7=>?_) (fun hb7=>?_)
  ·
   have hb7':=of_decide_eq_true hb7
   refine ad aa 10 rfl ?_
   refine af ?_
   exact aE.bB 33 rfl rfl (by first|(simp [hb4,hb5,hb6,hb7];done)|(simp_all;done)|(exfalso;simp_all;done)|(simp_all;omega)) rfl
  have hb7':=of_decide_eq_false hb7
  refine ad aa 5 rfl ?_
  refine bE (t:=50) rfl (fun hb8=>?_) (fun hb8=>?_)
  ·
   have hb8':=of_decide_eq_true hb8
   refine ad aa 5 rfl ?_
   refine af ?_
   exact aE.bB 34 rfl rfl (by first|(simp [hb4,hb5,hb6,hb7,hb8];done)|(simp_all;done)|(exfalso;simp_all;done)|(simp_all;omega)) rfl
  have hb8':=of_decide_eq_false hb8
  refine ad aa 5 rfl ?_
  refine af ?_
  exact aE.bB 34 rfl rfl (by first|(simp [hb4,hb5,hb6,hb7,hb8];done)|(simp_all;done)|(exfalso;simp_all;done)|(simp_all;omega)) rfl
 refine aj rfl (fun hc9=>?_) (fun hc9=>?_)
 ·
  have hc9':=hc9;try simp only [bq,bM] at hc9'
  refine ae aa 1 rfl ?_
  refine az ?_
  refine bo ?_
  refine ar ?_
  have hX:bK a=3:=by
    (unfold bK;try dsimp only);(repeat' split)<;>first|rfl|omega|(exfalso;omega)|(subst_vars;rfl)|(simp_all;done)|(simp_all;omega)
  rw [hX] at hr;clear hX
  subst hr
  refine an aa [] 0 rfl rfl rfl rfl rfl rfl ?_ ?_
  all_goals first|rfl|(simp [aA];done)|(simp [aA];omega)
 have hc9':=hc9;try simp only [bq,bM] at hc9'
 refine ch 55 ((decide (a.captured > a.sum))||(decide ((a.bA+a.bp) > a.captured))) ?_ ?_
 ·
  refine au ?_
  refine ad aa 6 rfl ?_
  refine bE (t:=61) rfl (fun hb10=>?_) (fun hb10=>?_)
  ·
   have hb10':=of_decide_eq_true hb10
   refine ad aa 10 rfl ?_
   refine af ?_
   exact aE.bB 17 rfl rfl (by first|(simp [hb10];done)|(simp_all;done)|(exfalso;simp_all;done)|(simp_all;omega)) rfl
  have hb10':=of_decide_eq_false hb10
  refine ad aa 4 rfl ?_
  refine cz (ah.yes rfl rfl rfl) (aJ rfl rfl rfl (aL (by first|omega|(simp;done)|(simp;omega)))) rfl rfl ?_
  refine ad aa 5 rfl ?_
  refine af ?_
  exact aE.bB 17 rfl rfl (by first|(simp [hb10];done)|(simp_all;done)|(exfalso;simp_all;done)|(simp_all;omega)) rfl
 refine aj rfl (fun hc11=>?_) (fun hc11=>?_)
 ·
  have hc11':=hc11;try simp only [bq,bM] at hc11'
  refine ae aa 1 rfl ?_
  refine az ?_
  refine bo ?_
  refine ar ?_
  have hX:bK a=8:=by
    (unfold bK;try dsimp only);(repeat' split)<;>first|rfl|omega|(exfalso;omega)|(subst_vars;rfl)|(simp_all;done)|(simp_all;omega)
  rw [hX] at hr;clear hX
  subst hr
  refine an aa [] 0 rfl rfl rfl rfl rfl rfl ?_ ?_
  all_goals first|rfl|(simp [aA];done)|(simp [aA];omega)
 have hc11':=hc11;try simp only [bq,bM] at hc11'
 refine cD ?_
 refine bl ?_
 refine then_ok ?_
 refine ae aa 1 rfl ?_
 refine az ?_
 have hX:bK a=0:=by
   (unfold bK;try dsimp only);(repeat' split)<;>first|rfl|omega|(exfalso;omega)|(subst_vars;rfl)|(simp_all;done)|(simp_all;omega)
 rw [hX] at hr;clear hX
 subst hr
 refine an aa [] 0 rfl rfl rfl rfl rfl rfl ?_ ?_
 all_goals first|rfl|(simp [aA];done)|(simp [aA];omega)
theorem rq (aO aD n time:Int) (b:bH) (e:Int) (hr:dq aO aD n time=(b,e)):Fn Try.prog 79 [(.c (cI aO)),(.c (cI aD)),(.c (cI n)),(.c (cI time))] (.t [(.g [(cI b.aO),(cI b.aD),(cI b.sum),(cI b.captured),(cI b.bA),(cI b.bp),(cI b.db),(cB b.shut)]),(.c (cI e))]) []:=by
 refine Fn.mk' 40 [(0,(aI aO)),(1,(aI aD)),(2,(aI n)),(3,(aI time))] Try.func79 rfl rfl rfl rfl ?_
 intro W0 T0
 refine ae aa 2 rfl ?_
 refine ag ?_
 refine ch 25 ((((decide (n < 1))||(decide (n > 1000000)))||(decide (time < 0)))||(decide (time > 1000000))) ?_ ?_
 ·
  refine au ?_
  refine ad aa 3 rfl ?_
  refine bE (t:=14) rfl (fun hb1=>?_) (fun hb1=>?_)
  ·
   have hb1':=of_decide_eq_true hb1
   refine ad aa 11 rfl ?_
   refine af ?_
   exact aE.bB 15 rfl rfl (by first|(simp [hb1];done)|(simp_all;done)|(exfalso;simp_all;done)|(simp_all;omega)) rfl
  have hb1':=of_decide_eq_false hb1
  refine ad aa 4 rfl ?_
  refine bE (t:=18) rfl (fun hb2=>?_) (fun hb2=>?_)
  ·
   have hb2':=of_decide_eq_true hb2
   refine ad aa 7 rfl ?_
   refine af ?_
   exact aE.bB 16 rfl rfl (by first|(simp [hb1,hb2];done)|(simp_all;done)|(exfalso;simp_all;done)|(simp_all;omega)) rfl
  have hb2':=of_decide_eq_false hb2
  refine ad aa 4 rfl ?_
  refine bE (t:=22) rfl (fun hb3=>?_) (fun hb3=>?_)
  ·
   have hb3':=of_decide_eq_true hb3
   refine ad aa 3 rfl ?_
   refine af ?_
   exact aE.bB 17 rfl rfl (by first|(simp [hb1,hb2,hb3];done)|(simp_all;done)|(exfalso;simp_all;done)|(simp_all;omega)) rfl
  have hb3':=of_decide_eq_false hb3
  refine ad aa 3 rfl ?_
  refine af ?_
  exact aE.bB 17 rfl rfl (by first|(simp [hb1,hb2,hb3];done)|(simp_all;done)|(exfalso;simp_all;done)|(simp_all;omega)) rfl
 refine aj rfl (fun hc4=>?_) (fun hc4=>?_)
 ·
  have hc4':=hc4;try simp only [bq,bM] at hc4'
  refine ae aa 3 rfl ?_
  refine az ?_
  refine ar ?_
  have hX:dq aO aD n time=((⟨0,0,0,0,0,0,0,false⟩:bH),3):=by
    (try (unfold bK at hr0;dsimp only at hr0;(repeat' split at hr0)))<;>((unfold dq;try dsimp only);(repeat' split)<;>first|rfl|omega|(exfalso;omega)|(subst_vars;rfl)|(simp_all;done)|(simp_all;omega))
  rw [hX] at hr;clear hX
  simp only [Prod.mk.injEq] at hr;obtain ⟨rfl,rfl⟩:=hr
  refine an aa [0] 0 rfl rfl rfl rfl rfl rfl ?_ ?_
  all_goals first|rfl|(simp [aA];done)|(simp [aA];omega)
 have hc4':=hc4;try simp only [bq,bM] at hc4'
 refine aP ?_
 refine aH aa 4 rfl ?_
 refine ay (aJ rfl rfl rfl (aL (by first|omega|(simp;done)|(simp;omega)))) rfl ?_
 refine ad aa 3 rfl ?_
 refine af ?_
 refine ag ?_
 refine aH aa 1 rfl ?_
 obtain ⟨e0,hr0⟩:∃ (e0:Int),bK (⟨aO,aD,n,0,0,0,time+100,false⟩:bH)=e0:=⟨_,rfl⟩
 refine aR 2 [1,0] (bX 2 (oJ (⟨aO,aD,n,0,0,0,time+100,false⟩:bH) e0 hr0) Eu rfl rfl ⟨⟨_,rfl,.g ⟨.d _,.d _,.d _,.d _,.d _,.d _,.d _,.d _,trivial⟩⟩,trivial⟩ trivial trivial rfl rfl rfl rfl) rfl ?_
 refine ad aa 1 rfl ?_
 refine af ?_
 refine ae aa 2 rfl ?_
 refine aj rfl (fun hc5=>?_) (fun hc5=>?_)
 ·
  have hc5':=of_decide_eq_true hc5
  refine ae aa 4 rfl ?_
  refine az ?_
  refine ar ?_
  have hX:dq aO aD n time=((⟨0,0,0,0,0,0,0,false⟩:bH),e0):=by
    (try (unfold bK at hr0;dsimp only at hr0;(repeat' split at hr0)))<;>((unfold dq;try dsimp only);(repeat' split)<;>first|rfl|omega|(exfalso;omega)|(subst_vars;rfl)|(simp_all;done)|(simp_all;omega))
  rw [hX] at hr;clear hX
  simp only [Prod.mk.injEq] at hr;obtain ⟨rfl,rfl⟩:=hr
  refine an aa [0] 0 rfl rfl rfl rfl rfl rfl ?_ ?_
  all_goals first|rfl|(simp [aA];done)|(simp [aA];omega)
 have hc5':=of_decide_eq_false hc5
 refine aP ?_
 refine ae aa 3 rfl ?_
 refine az ?_
 have hX:dq aO aD n time=((⟨aO,aD,n,0,0,0,time+100,false⟩:bH),0):=by
   (try (unfold bK at hr0;dsimp only at hr0;(repeat' split at hr0)))<;>((unfold dq;try dsimp only);(repeat' split)<;>first|rfl|omega|(exfalso;omega)|(subst_vars;rfl)|(simp_all;done)|(simp_all;omega))
 rw [hX] at hr;clear hX
 simp only [Prod.mk.injEq] at hr;obtain ⟨rfl,rfl⟩:=hr
 refine an aa [0] 0 rfl rfl rfl rfl rfl rfl ?_ ?_
 all_goals first|rfl|(simp [aA];done)|(simp [aA];omega)
end Go.Proofs.Ytegepioggeggaaa.Dev
