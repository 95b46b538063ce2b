/- A part of the proof: Stand4, Stand5, Sort1, Sort2, Sort3. No condition. -/
import Derived.Test.YtegepioggeggaaaD08
set_option linter.unusedVariables false
set_option linter.unusedSimpArgs false
set_option maxHeartbeats 1000000
set_option maxRecDepth 100000
namespace Go.Proofs.Ytegepioggeggaaa.Dev
open Go.RowKit

theorem vP (limit ao:Int) (x:cv) (e:Int) (hr:dy limit ao=(x,e)):Fn Try.prog 41 [(.c (cI limit)),(.c (cI ao))] (.t [(.g [(cI x.cap),(.s 0 0 1 x.used.length),(.s 1 0 4 x.aY.length)]),(.c (cI e))]) [(0,(dC x.used)),(1,(zK x.aY))]:=by
 refine Fn.mk' 24 [(0,(aI limit)),(1,(aI ao))] Try.func41 rfl rfl rfl rfl ?_
 intro W0 T0
 refine ad aa 2 rfl ?_
 refine af ?_
 refine cp 11 ((decide (ao < 0))||(decide (ao > 8))) ?_ ?_
 ·
  refine aw ?_
  refine ab aa 3 rfl ?_
  refine bw (t:=8) rfl (fun hb1=>?_) (fun hb1=>?_)
  ·
   have hb1':=of_decide_eq_true hb1
   refine ab aa 3 rfl ?_
   refine ae ?_
   exact aD.bA 7 rfl rfl (by first|(simp [hb1];done)|(simp_all;done)|(exfalso;simp_all;done)|(simp_all;omega)) rfl
  have hb1':=of_decide_eq_false hb1
  refine ab aa 3 rfl ?_
  refine ae ?_
  exact aD.bA 7 rfl rfl (by first|(simp [hb1];done)|(simp_all;done)|(exfalso;simp_all;done)|(simp_all;omega)) rfl
 refine ag rfl (fun hc2=>?_) (fun hc2=>?_)
 ·
  have hc2':=hc2;try simp only [bl,bJ] at hc2'
  refine ad aa 3 rfl ?_
  refine ax ?_
  refine an ?_
  refine cb 0 1 3 1 rfl rfl rfl ?_
  refine cb 0 2 107 4 rfl rfl rfl ?_
  have hX:dy limit ao=((⟨0,([]:List Int),([]:List ca)⟩:cv),5):=by
    exact tz (by omega)
  rw [hX] at hr;clear hX
  simp only [Prod.mk.injEq] at hr;obtain ⟨rfl,rfl⟩:=hr
  refine al aa [1,2,0] 2 rfl rfl rfl rfl rfl rfl ?_ ?_
  all_goals first|rfl|(simp [ar];done)|(simp [ar];omega)
 have hc2':=hc2;try simp only [bl,bJ] at hc2'
 refine aP ?_
 refine af ?_
 refine cp 18 ((decide (limit < 0))||(decide (limit > 1000000))) ?_ ?_
 ·
  refine aw ?_
  refine ab aa 3 rfl ?_
  refine bw (t:=15) rfl (fun hb3=>?_) (fun hb3=>?_)
  ·
   have hb3':=of_decide_eq_true hb3
   refine ab aa 3 rfl ?_
   refine ae ?_
   exact aD.bA 7 rfl rfl (by first|(simp [hb3];done)|(simp_all;done)|(exfalso;simp_all;done)|(simp_all;omega)) rfl
  have hb3':=of_decide_eq_false hb3
  refine ab aa 3 rfl ?_
  refine ae ?_
  exact aD.bA 7 rfl rfl (by first|(simp [hb3];done)|(simp_all;done)|(exfalso;simp_all;done)|(simp_all;omega)) rfl
 refine ag rfl (fun hc4=>?_) (fun hc4=>?_)
 ·
  have hc4':=hc4;try simp only [bl,bJ] at hc4'
  refine ad aa 3 rfl ?_
  refine ax ?_
  refine an ?_
  refine cb 0 1 3 1 rfl rfl rfl ?_
  refine cb 0 2 107 4 rfl rfl rfl ?_
  have hX:dy limit ao=((⟨0,([]:List Int),([]:List ca)⟩:cv),3):=by
    exact rQ (by omega) (by first|omega|(simp_all [bl];done)|(simp_all [bl];omega))
  rw [hX] at hr;clear hX
  simp only [Prod.mk.injEq] at hr;obtain ⟨rfl,rfl⟩:=hr
  refine al aa [1,2,0] 2 rfl rfl rfl rfl rfl rfl ?_ ?_
  all_goals first|rfl|(simp [ar];done)|(simp [ar];omega)
 have hc4':=hc4;try simp only [bl,bJ] at hc4'
 refine aP ?_
 refine aE aa 2 rfl ?_
 refine aM 2 [1,0] (oT 1 mM Bx rfl rfl rfl (n:=Int.toNat (ao)) (by first|omega|(simp;done)|(simp;omega)) (by first|omega|(simp;done)|(simp;omega)) (by first|omega|(simp;done)|(simp;omega)) (by first|omega|(simp;done)|(simp;omega))) rfl ?_
 refine ab aa 3 rfl ?_
 refine ae ?_
 refine ax ?_
 refine cb 0 2 107 4 rfl rfl rfl ?_
 have hX:dy limit ao=((⟨limit,List.replicate (Int.toNat (ao)) 0,([]:List ca)⟩:cv),0):=by
   unfold dy;rw [if_neg (by omega),if_neg (by simp only [gh,decide_eq_true_eq];first|omega|(simp_all [bl];done)|(simp_all [bl];omega))]
 rw [hX] at hr;clear hX
 simp only [Prod.mk.injEq] at hr;obtain ⟨rfl,rfl⟩:=hr
 refine al aa [1,2,0] 2 rfl rfl rfl rfl rfl rfl ?_ ?_
 all_goals first|rfl|(simp [ar];done)|(simp [ar];omega)
theorem tH (s:cv) (x:cv) (l:List ca) (e:Int) (hr:cU s=(x,l,e)):Fn Try.prog 90 [(.g [(cI s.cap),(gn s.used),(gI s.aY)])] (.t [(.g [(cI x.cap),(.s 0 0 1 x.used.length),(.s 1 0 4 x.aY.length)]),(.c (.s 2 0 4 l.length)),(.c (cI e))]) [(0,(dC x.used)),(1,(zK x.aY)),(2,(zK l))]:=by
 refine Fn.mk' 22 [(0,(aG [(cI s.cap),(gn s.used),(gI s.aY)]))] Try.func90 rfl rfl rfl rfl ?_
 intro W0 T0
 refine ff 0 1 rfl rfl (fun hlen0_1=>?_)
 refine ff 0 2 rfl rfl (fun hlen0_2=>?_)
 have hrp:=@gC s
 refine ad aa 4 rfl ?_
 refine af ?_
 refine aE aa 1 rfl ?_
 obtain ⟨e0,hr0⟩:∃ (e0:Int),bT s=e0:=⟨_,rfl⟩
 refine aM 2 [1,0] (bP 2 (iB s e0 hr0) xN rfl rfl ⟨⟨_,rfl,.g ⟨.d _,.d _,.d _,trivial⟩⟩,trivial⟩ trivial trivial rfl rfl rfl rfl) rfl ?_
 refine ab aa 1 rfl ?_
 refine ae ?_
 refine ad aa 2 rfl ?_
 refine ag rfl (fun hc1=>?_) (fun hc1=>?_)
 ·
  have hc1':=of_decide_eq_true hc1
  refine ad aa 5 rfl ?_
  refine ax ?_
  refine an ?_
  refine cb 1 1 3 1 rfl rfl rfl ?_
  refine cb 1 2 107 4 rfl rfl rfl ?_
  refine cT (aD.nil 3 107 4 (by decide) rfl) ?_
  have hX:cU s=((⟨0,([]:List Int),([]:List ca)⟩:cv),([]:List ca),e0):=by
    unfold cU;rw [if_pos (by omega),hr0];rfl
  rw [hX] at hr;clear hX
  simp only [Prod.mk.injEq] at hr;obtain ⟨rfl,rfl,rfl⟩:=hr
  refine al aa [2,3,4,1] 3 rfl rfl rfl rfl rfl rfl ?_ ?_
  all_goals first|rfl|(simp [ar];done)|(simp [ar];omega)
 have hc1':=of_decide_eq_false hc1
 refine aP ?_
 refine af ?_
 refine bc [1,2] [1,0] mixed rfl rfl ?_
 refine aA (kn:=[]) aa 4 rfl trivial ?_
 refine aT (n':=2) [15] [] rfl rfl (.inl ⟨(ah.plain rfl),aJ.cast (cY rfl rfl rfl rfl rfl Try.underlying30) rfl⟩) rfl ?_
 refine aT (n':=3) [16] [] rfl rfl (.inl ⟨(ah.plain rfl),aJ.cast (oT 2 mM Bx rfl rfl rfl (n:=s.used.length) (by first|omega|(simp;done)|(simp;omega)) (by first|omega|(simp;done)|(simp;omega)) (by first|omega|(simp;done)|(simp;omega)) (by first|omega|(simp;done)|(simp;omega))) rfl⟩) rfl ?_
 refine aA (kn:=[]) aa 3 rfl trivial ?_
 refine aT (n':=4) [20] [] rfl rfl (.inl ⟨(ah.plain rfl),aJ.cast (bP 3 (mB s.aY (by first|omega|(simp;done)|(simp;omega))) Dz rfl rfl ⟨⟨_,rfl,.c (.d _)⟩,trivial⟩ trivial ⟨(fun _ _ _ _=>trivial),trivial⟩ rfl rfl rfl rfl) rfl⟩) rfl ?_
 refine bC [3,2,1,0] rfl rfl rfl rfl (by kernel_rfl) ?_
 refine ab aa 3 rfl ?_
 refine ae ?_
 refine ax ?_
 refine cb 1 2 107 4 rfl rfl rfl ?_
 have hX:cU s=((⟨s.cap,List.replicate s.used.length 0,([]:List ca)⟩:cv),s.aY,0):=by
   unfold cU;rw [if_neg (by omega)]
 rw [hX] at hr;clear hX
 simp only [Prod.mk.injEq] at hr;obtain ⟨rfl,rfl,rfl⟩:=hr
 refine al aa [2,4,3,1] 3 rfl rfl rfl rfl rfl rfl ?_ ?_
 all_goals first|rfl|(simp [ar];done)|(simp [ar];omega)

theorem vi (s:cv) (a:ca) (x:cv) (e:Int) (hr:cg s a=(x,e)):Fn Try.prog 78 [(.g [(cI s.cap),(gn s.used),(gI s.aY)]),(.g [(cI a.aL),(cI a.az),(cI a.sum),(cI a.time)])] (.t [(.g [(cI x.cap),(.s 0 0 1 x.used.length),(.s 1 0 4 x.aY.length)]),(.c (cI e))]) [(0,(dC x.used)),(1,(zK x.aY))]:=by
 refine Fn.mk' 74 [(0,(aG [(cI s.cap),(gn s.used),(gI s.aY)])),(1,(aG [(cI a.aL),(cI a.az),(cI a.sum),(cI a.time)]))] Try.func78 rfl rfl rfl rfl ?_
 intro W0 T0
 refine ff 0 1 rfl rfl (fun hlen0_1=>?_)
 refine ff 0 2 rfl rfl (fun hlen0_2=>?_)
 have hub:=@qw s
 have hrp:=@gC s
 refine ad aa 4 rfl ?_
 refine af ?_
 refine aE aa 1 rfl ?_
 obtain ⟨e0,hr0⟩:∃ (e0:Int),bT s=e0:=⟨_,rfl⟩
 refine aM 3 [2,1,0] (bP 3 (iB s e0 hr0) xN rfl rfl ⟨⟨_,rfl,.g ⟨.d _,.d _,.d _,trivial⟩⟩,trivial⟩ trivial trivial rfl rfl rfl rfl) rfl ?_
 refine ab aa 1 rfl ?_
 refine ae ?_
 refine ad aa 2 rfl ?_
 refine ag rfl (fun hc1=>?_) (fun hc1=>?_)
 ·
  have hc1':=of_decide_eq_true hc1
  refine ad aa 4 rfl ?_
  refine ax ?_
  refine an ?_
  refine cb 2 1 3 1 rfl rfl rfl ?_
  refine cb 2 2 107 4 rfl rfl rfl ?_
  have hX:cg s a=((⟨0,([]:List Int),([]:List ca)⟩:cv),e0):=by
    rw [xD (by omega),hr0];rfl
  rw [hX] at hr;clear hX
  simp only [Prod.mk.injEq] at hr;obtain ⟨rfl,rfl⟩:=hr
  refine al aa [3,4,2] 2 rfl rfl rfl rfl rfl rfl ?_ ?_
  all_goals first|rfl|(simp [ar];done)|(simp [ar];omega)
 have hc1':=of_decide_eq_false hc1
 refine aP ?_
 refine af ?_
 refine aE aa 2 rfl ?_
 refine ay (cY rfl rfl rfl rfl rfl Try.underlying39) rfl ?_
 refine ab aa 1 rfl ?_
 refine ae ?_
 refine ag rfl (fun hc2=>?_) (fun hc2=>?_)
 ·
  have hc2':=of_decide_eq_true hc2
  refine ad aa 3 rfl ?_
  refine ax ?_
  refine an ?_
  refine cb 2 1 3 1 rfl rfl rfl ?_
  refine cb 2 2 107 4 rfl rfl rfl ?_
  have hX:cg s a=((⟨0,([]:List Int),([]:List ca)⟩:cv),5):=by
    exact tb (by omega) (by omega)
  rw [hX] at hr;clear hX
  simp only [Prod.mk.injEq] at hr;obtain ⟨rfl,rfl⟩:=hr
  refine al aa [3,4,2] 2 rfl rfl rfl rfl rfl rfl ?_ ?_
  all_goals first|rfl|(simp [ar];done)|(simp [ar];omega)
 have hc2':=of_decide_eq_false hc2
 refine aP ?_
 refine af ?_
 refine bc [2,3,4] [2,1,0] mixed rfl rfl ?_
 refine aA (kn:=[]) aa 4 rfl trivial ?_
 refine aT (n':=4) [23] [] rfl rfl (.inl ⟨(ah.plain rfl),aJ.cast (bP 3 (pF s.used (by first|omega|(simp;done)|(simp;omega))) DA rfl rfl ⟨⟨_,rfl,.c (.d _)⟩,trivial⟩ trivial ⟨(fun _ _ _ _=>trivial),trivial⟩ rfl rfl rfl rfl) rfl⟩) rfl ?_
 refine aA (kn:=[]) aa 2 rfl trivial ?_
 refine aT (n':=5) [26] [] rfl rfl (.inl ⟨(ah.plain rfl),aJ.cast (bP 4 (mB s.aY (by first|omega|(simp;done)|(simp;omega))) Dz rfl rfl ⟨⟨_,rfl,.c (.d _)⟩,trivial⟩ trivial ⟨(fun _ _ _ _=>trivial),trivial⟩ rfl rfl rfl rfl) rfl⟩) rfl ?_
 refine aA (kn:=[]) aa 1 rfl trivial ?_
 refine aT (n':=6) [28] [] rfl rfl (.inl ⟨(ah.plain rfl),aJ.cast (dv (ys:=[(0,(.g [(cI a.aL),(cI a.az),(cI a.sum),(cI a.time)]))]) (rows:=([a]).map hP) 5 xh rfl (by decide) ⟨⟨rfl,rfl⟩,trivial⟩ rfl rfl rfl rfl) rfl⟩) rfl ?_
 refine aT (n':=7) [27,29] [5,4] rfl rfl (.inl ⟨(ah.plain rfl),aJ.cast (dd (m:=1) (N:=s.aY.length+1) (k2:=6) (ys:=([a]).map hP) xh rfl rfl rfl rfl rfl rfl (by first|omega|(simp;done)|(simp;omega)) rfl (.s rfl (by first|omega|(simp;done)|(simp;omega))) (by first|omega|(simp;done)|(simp;omega)) (by first|omega|(simp;done)|(simp;omega)) eP (by decide) (by first|omega|(simp;done)|(simp;omega)) (by first|omega|(simp;done)|(simp;omega))) rfl⟩) rfl ?_
 refine aA (n':=8) (kn:=[]) aa 2 rfl trivial ?_
 refine bC [7,6,3,2,1,0] rfl rfl rfl rfl (by kernel_rfl) ?_
 refine ab aa 1 rfl ?_
 refine ae ?_
 refine af ?_
 refine cp 52 ((((decide (a.aL>=0)) && (decide (a.aL < (↑s.used.length:Int)))) && (decide (a.sum>=1))) && (decide (a.sum<=1000000))) ?_ ?_
 ·
  refine aw ?_
  refine ab aa 4 rfl ?_
  refine bw (t:=35) rfl (fun hb3=>?_) (fun hb3=>?_)
  ·
   have hb3':=of_decide_eq_true hb3
   refine ab aa 4 rfl ?_
   refine dD (ah.yes rfl rfl rfl) (dm rfl rfl rfl rfl rfl Try.underlying30) rfl rfl ?_
   refine ab aa 3 rfl ?_
   refine bw (t:=43) rfl (fun hb4=>?_) (fun hb4=>?_)
   ·
    have hb4':=of_decide_eq_true hb4
    refine ab aa 5 rfl ?_
    refine bw (t:=48) rfl (fun hb5=>?_) (fun hb5=>?_)
    ·
     have hb5':=of_decide_eq_true hb5
     refine ab aa 4 rfl ?_
     refine ae ?_
     exact aD.bA 24 rfl rfl (by first|(simp [hb3,hb4,hb5];done)|(simp_all;done)|(exfalso;simp_all;done)|(simp_all;omega)) rfl
    have hb5':=of_decide_eq_false hb5
    refine ab aa 4 rfl ?_
    refine ae ?_
    exact aD.bA 24 rfl rfl (by first|(simp [hb3,hb4,hb5];done)|(simp_all;done)|(exfalso;simp_all;done)|(simp_all;omega)) rfl
   have hb4':=of_decide_eq_false hb4
   refine ab aa 9 rfl ?_
   refine ae ?_
   exact aD.bA 23 rfl rfl (by first|(simp [hb3,hb4];done)|(simp_all;done)|(exfalso;simp_all;done)|(simp_all;omega)) rfl
  have hb3':=of_decide_eq_false hb3
  refine ab aa 17 rfl ?_
  refine ae ?_
  exact aD.bA 22 rfl rfl (by first|(simp [hb3];done)|(simp_all;done)|(exfalso;simp_all;done)|(simp_all;omega)) rfl
 refine ag rfl (fun hc6=>?_) (fun hc6=>?_)
 ·
  have hc6':=hc6;try simp only [bl,bJ] at hc6'
  obtain ⟨x1,hx1⟩:=cq (xs:=s.used) (i:=Int.toNat (a.aL)) (by first|omega|(simp;done)|(simp;omega))
  have hx1b:=qw (s:=s) (by omega) hx1
  refine bc [3,4,7] [7,6,3,2,1] mixed rfl rfl ?_
  refine aA (kn:=[]) aa 4 rfl trivial ?_
  refine aT (n':=8) [54,56] [3] rfl rfl (.inl ⟨(ah.plain rfl),aJ.cast (br (i:=Int.toNat (a.aL)) rfl rfl rfl Try.underlying30 fX (by first|omega|(simp;done)|(simp;omega)) (by first|omega|(simp;done)|(simp;omega))) rfl⟩) rfl ?_
  refine aT (n':=8) [57] [3] rfl rfl (.inl ⟨(ah.plain rfl),aJ.cast (eB rfl rfl rfl Try.underlying3 rfl (bu hx1) rfl) rfl⟩) rfl ?_
  refine aA (kn:=[]) aa 2 rfl trivial ?_
  refine aT (n':=8) [58,60] [] rfl rfl (.inl ⟨(ah.plain rfl),aJ.cast (aK rfl rfl rfl (aH (by first|omega|(simp;done)|(simp;omega)))) rfl⟩) rfl ?_
  refine aT (n':=8) [54,56] [3] rfl rfl (.inl ⟨(ah.plain rfl),aJ.cast (br (i:=Int.toNat (a.aL)) rfl rfl rfl Try.underlying30 fX (by first|omega|(simp;done)|(simp;omega)) (by first|omega|(simp;done)|(simp;omega))) rfl⟩) rfl ?_
  refine bC [7,6,3,2,1] rfl rfl rfl rfl (by kernel_rfl) ?_
  refine fV [7,6,3,2,1] (dH (ds:=[(dI (x1+a.sum))]) rfl rfl rfl rfl rfl fX rfl (Nat.le_of_ble_eq_true rfl) (bu hx1) rfl (eG (x':=x1+a.sum) rfl)) rfl ?_
  refine ae ?_
  refine aE aa 1 rfl ?_
  obtain ⟨e1,hr1⟩:∃ (e1:Int),bT (⟨s.cap,(s.used).set (Int.toNat (a.aL)) (x1+a.sum),s.aY++([a])⟩:cv)=e1:=⟨_,rfl⟩
  refine aM 8 [7,6,3,2,1] (fH 8 [3,6] (iB (⟨s.cap,(s.used).set (Int.toNat (a.aL)) (x1+a.sum),s.aY++([a])⟩:cv) e1 hr1) xN rfl rfl ⟨⟨_,rfl,.g ⟨.d _,.s rfl (by decide) (by first|omega|(simp;done)|(simp;omega)),.s rfl (by decide) (by first|omega|(simp;done)|(simp;omega)),trivial⟩⟩,trivial⟩ rfl trivial rfl rfl rfl rfl) rfl ?_
  refine ab aa 1 rfl ?_
  refine ae ?_
  refine ad aa 1 rfl ?_
  refine aW ?_
  refine ad aa 2 rfl ?_
  refine ag rfl (fun hc7=>?_) (fun hc7=>?_)
  ·
   have hc7':=of_decide_eq_true hc7
   refine ad aa 3 rfl ?_
   refine ax ?_
   refine bf ?_
   have hX:cg s a=((⟨s.cap,(s.used).set (Int.toNat (a.aL)) (x1+a.sum),s.aY++([a])⟩:cv),0):=by
     have hx:s.used.getD a.aL.toNat 0=x1:=by rw [List.getD_eq_getElem?_getD,hx1];rfl
     have hg:=kL (a:=a) (show bT s=0 by omega) (show s.aY.length < 20 by omega)
     rw [hx,hr1] at hg
     rcases hg with ⟨p1,p2⟩|⟨p1,p2⟩|⟨p1,p2⟩<;>first|(exfalso;omega)|exact p2|(subst p1;exact p2)
   rw [hX] at hr;clear hX
   simp only [Prod.mk.injEq] at hr;obtain ⟨rfl,rfl⟩:=hr
   refine al aa [3,6,2] 2 rfl rfl rfl rfl rfl rfl ?_ ?_
   all_goals first|rfl|(simp [ar];done)|(simp [ar];omega)
  have hc7':=of_decide_eq_false hc7
  refine ad aa 2 rfl ?_
  refine ag rfl (fun hc8=>?_) (fun hc8=>?_)
  ·
   have hc8':=of_decide_eq_true hc8
   refine ad aa 3 rfl ?_
   refine ax ?_
   refine bf ?_
   refine cb 2 1 3 1 rfl rfl rfl ?_
   refine cb 2 2 107 4 rfl rfl rfl ?_
   have hX:cg s a=((⟨0,([]:List Int),([]:List ca)⟩:cv),10):=by
     have hx:s.used.getD a.aL.toNat 0=x1:=by rw [List.getD_eq_getElem?_getD,hx1];rfl
     have hg:=kL (a:=a) (show bT s=0 by omega) (show s.aY.length < 20 by omega)
     rw [hx,hr1] at hg
     rcases hg with ⟨p1,p2⟩|⟨p1,p2⟩|⟨p1,p2⟩<;>first|(exfalso;omega)|exact p2|(subst p1;exact p2)
   rw [hX] at hr;clear hX
   simp only [Prod.mk.injEq] at hr;obtain ⟨rfl,rfl⟩:=hr
   refine al aa [8,9,2] 2 rfl rfl rfl rfl rfl rfl ?_ ?_
   all_goals first|rfl|(simp [ar];done)|(simp [ar];omega)
  have hc8':=of_decide_eq_false hc8
  refine ad aa 4 rfl ?_
  refine ax ?_
  refine bf ?_
  refine cb 2 1 3 1 rfl rfl rfl ?_
  refine cb 2 2 107 4 rfl rfl rfl ?_
  have hX:cg s a=((⟨0,([]:List Int),([]:List ca)⟩:cv),e1):=by
    have hx:s.used.getD a.aL.toNat 0=x1:=by rw [List.getD_eq_getElem?_getD,hx1];rfl
    have hg:=kL (a:=a) (show bT s=0 by omega) (show s.aY.length < 20 by omega)
    rw [hx,hr1] at hg
    rcases hg with ⟨p1,p2⟩|⟨p1,p2⟩|⟨p1,p2⟩<;>first|(exfalso;omega)|exact p2|(subst p1;exact p2)
  rw [hX] at hr;clear hX
  simp only [Prod.mk.injEq] at hr;obtain ⟨rfl,rfl⟩:=hr
  refine al aa [8,9,2] 2 rfl rfl rfl rfl rfl rfl ?_ ?_
  all_goals first|rfl|(simp [ar];done)|(simp [ar];omega)
 have hc6':=hc6;try simp only [bl,bJ] at hc6'
 refine aP ?_
 refine aE aa 1 rfl ?_
 obtain ⟨e2,hr2⟩:∃ (e2:Int),bT (⟨s.cap,s.used,s.aY++([a])⟩:cv)=e2:=⟨_,rfl⟩
 refine aM 8 [7,6,3,2,1,0] (fH 8 [3,6] (iB (⟨s.cap,s.used,s.aY++([a])⟩:cv) e2 hr2) xN rfl rfl ⟨⟨_,rfl,.g ⟨.d _,.s rfl (by decide) (by first|omega|(simp;done)|(simp;omega)),.s rfl (by decide) (by first|omega|(simp;done)|(simp;omega)),trivial⟩⟩,trivial⟩ rfl trivial rfl rfl rfl rfl) rfl ?_
 refine ab aa 1 rfl ?_
 refine ae ?_
 refine ad aa 1 rfl ?_
 refine aW ?_
 refine ad aa 2 rfl ?_
 refine ag rfl (fun hc9=>?_) (fun hc9=>?_)
 ·
  have hc9':=of_decide_eq_true hc9
  refine ad aa 3 rfl ?_
  refine ax ?_
  refine bf ?_
  have hX:cg s a=((⟨s.cap,s.used,s.aY++([a])⟩:cv),0):=by
    have hg:=qb (a:=a) (show bT s=0 by omega) (show s.aY.length < 20 by omega) (by omega)
    rw [hr2] at hg
    obtain ⟨p1,p2⟩:=hg
    first|(exfalso;omega)|(subst p1;exact p2)
  rw [hX] at hr;clear hX
  simp only [Prod.mk.injEq] at hr;obtain ⟨rfl,rfl⟩:=hr
  refine al aa [3,6,2] 2 rfl rfl rfl rfl rfl rfl ?_ ?_
  all_goals first|rfl|(simp [ar];done)|(simp [ar];omega)
 have hc9':=of_decide_eq_false hc9
 refine ad aa 2 rfl ?_
 refine ag rfl (fun hc10=>?_) (fun hc10=>?_)
 ·
  have hc10':=of_decide_eq_true hc10
  refine ad aa 3 rfl ?_
  refine ax ?_
  refine bf ?_
  refine cb 2 1 3 1 rfl rfl rfl ?_
  refine cb 2 2 107 4 rfl rfl rfl ?_
  have hX:cg s a=((⟨0,([]:List Int),([]:List ca)⟩:cv),10):=by
    have hg:=qb (a:=a) (show bT s=0 by omega) (show s.aY.length < 20 by omega) (by omega)
    rw [hr2] at hg
    obtain ⟨p1,p2⟩:=hg
    first|(exfalso;omega)|(subst p1;exact p2)
  rw [hX] at hr;clear hX
  simp only [Prod.mk.injEq] at hr;obtain ⟨rfl,rfl⟩:=hr
  refine al aa [8,9,2] 2 rfl rfl rfl rfl rfl rfl ?_ ?_
  all_goals first|rfl|(simp [ar];done)|(simp [ar];omega)
 have hc10':=of_decide_eq_false hc10
 refine ad aa 4 rfl ?_
 refine ax ?_
 refine bf ?_
 refine cb 2 1 3 1 rfl rfl rfl ?_
 refine cb 2 2 107 4 rfl rfl rfl ?_
 have hX:cg s a=((⟨0,([]:List Int),([]:List ca)⟩:cv),e2):=by
   have hg:=qb (a:=a) (show bT s=0 by omega) (show s.aY.length < 20 by omega) (by omega)
   rw [hr2] at hg
   obtain ⟨p1,p2⟩:=hg
   first|(exfalso;omega)|(subst p1;exact p2)
 rw [hX] at hr;clear hX
 simp only [Prod.mk.injEq] at hr;obtain ⟨rfl,rfl⟩:=hr
 refine al aa [8,9,2] 2 rfl rfl rfl rfl rfl rfl ?_ ?_
 all_goals first|rfl|(simp [ar];done)|(simp [ar];omega)


def eW:List Int->Int
  |[]=>0
  |x::l=>if x=0 then eW l else x
def gM (a b:ak):Int:=eW [ed a.az b.az,ed a.ba b.ba]
theorem zo {l:List Int} {i:Nat} {x:Int} (hx:l[i]?=some x) (h:x=0):eW (l.drop i)=eW (l.drop (i+1)):=by
  obtain ⟨hi,rfl⟩:=List.getElem?_eq_some_iff.1 hx
  rw [List.drop_eq_getElem_cons hi,eW,if_pos h]
theorem td {l:List Int} {i:Nat} {x:Int} (hx:l[i]?=some x) (h:¬x=0):eW (l.drop i)=x:=by
  obtain ⟨hi,rfl⟩:=List.getElem?_eq_some_iff.1 hx
  rw [List.drop_eq_getElem_cons hi,eW,if_neg h]
theorem kS {a b:ak}:gM a b < 0↔gl a b=true:=by
  rw [qP]
  have h1:=ql (a:=a.az) (b:=b.az)
  have h2:=oy (a:=a.az) (b:=b.az)
  have h3:=ql (a:=a.ba) (b:=b.ba)
  have h4:=oy (a:=a.ba) (b:=b.ba)
  unfold gM eW eW eW
  split
  ·split<;>omega
  ·omega
theorem kT {a b:ak} (h:¬gM a b < 0):gl a b=false:=by
  cases hb:gl a b with
  |false=>rfl
  |true=>exact absurd (kS.2 hb) h
theorem cC {l:List (Nat×AV)} {t:Nat} {x y:Int} {ρ:Nat->Nat} (h:look l t=some (aI x)) (e:x=y):look l t=some (AV.map ρ (aI y)):=by subst e;exact h

theorem Gk (l:List Int) (r:Int) (hr:eW l=r):Fn Try.prog 59 [(.c (gn l))] (.v (.c (cI r))) []:=by
 refine Fn.mk' 18 [(0,(aC (gn l)))] Try.func59 rfl rfl rfl rfl ?_
 intro W0 T0
 refine dF 0 rfl (fun hlen0=>?_)
 refine ad aa 1 rfl ?_
 refine ad aa 1 rfl ?_
 refine af ?_
 refine aE aa 1 rfl ?_
 refine ay (cY rfl rfl rfl rfl rfl Try.underlying30) rfl ?_
 refine ab aa 1 rfl ?_
 refine ae ?_
 refine aW ?_
 refine cw (β:=Nat) (fun (i:Nat)=>⟨[(3,(aI 0)),(6,(aC (gn l))),(7,(aI (↑l.length:Int))),(8,(aI (↑i:Int)))],[],0⟩) (fun (i:Nat)=>i<=l.length/\eW (l.drop i)=eW l) (fun (i:Nat)=>l.length - i) 0 ?_ ?_ ?_
 ·exact ⟨by omega,rfl⟩
 ·exact aD.bY id (by refine ⟨?_,?_,?_,?_,trivial⟩<;>first|rfl|(simp only [bo];done)|(congr 3;omega)|(congr 4;omega)|(simp only [bp];rfl)) (trivial) rfl
 rintro i ⟨hi0_0,hi0_1⟩
 refine ad aa 1 rfl ?_
 refine af ?_
 refine ag rfl (fun hc1=>?_) (fun hc1=>?_)
 ·
  have hc1':=of_decide_eq_true hc1
  refine aP ?_
  refine af ?_
  refine aW ?_
  refine eN ?_
  obtain ⟨x1,hx1⟩:=cq (xs:=l) (i:=i) (by first|omega|(simp;done)|(simp;omega))
  refine ay (cS (i:=i) rfl rfl rfl Try.underlying30 fX (by first|omega|(simp;done)|(simp;omega)) (bu hx1)) rfl ?_
  refine ab aa 2 rfl ?_
  refine ae ?_
  refine ad aa 3 rfl ?_
  refine ag rfl (fun hc2=>?_) (fun hc2=>?_)
  ·
   have hc2':=of_decide_eq_true hc2
   refine ad aa 2 rfl ?_
   refine ax ?_
   refine bf ?_
   refine an ?_
   refine an ?_
   refine bf ?_
   refine an ?_
   have hX:eW l=x1:=by
     rw [<-hi0_1];first|exact td hx1 (by omega)|(rw [List.drop_of_length_le (by omega)];rfl)
   rw [hX] at hr;clear hX
   subst hr
   refine al aa [] 0 rfl rfl rfl rfl rfl rfl ?_ ?_
   all_goals first|rfl|(simp [ar];done)|(simp [ar];omega)
  have hc2':=of_decide_eq_false hc2
  refine cW ?_
  refine bn ?_
  refine then_ok ?_
  refine aw ?_
  refine ay (aK rfl rfl rfl (aH (by first|omega|(simp;done)|(simp;omega)))) rfl ?_
  refine ab aa 1 rfl ?_
  refine ae ?_
  refine ⟨i+1,⟨by omega,by rw [<-zo hx1 (by omega)];exact hi0_1⟩,by first|omega|(simp;done)|(simp;omega),aD.bY id (by refine ⟨?_,?_,?_,?_,trivial⟩<;>first|rfl|(simp only [bo];done)|(congr 3;omega)|(congr 4;omega)|(simp only [bp];rfl)) (trivial) rfl⟩
 have hc1':=of_decide_eq_false hc1
 refine cm ?_
 refine aQ ?_
 refine aQ ?_
 refine bO ?_
 refine then_ok ?_
 refine ad aa 2 rfl ?_
 refine ax ?_
 have hX:eW l=0:=by
   rw [<-hi0_1];first|exact td hx1 (by omega)|(rw [List.drop_of_length_le (by omega)];rfl)
 rw [hX] at hr;clear hX
 subst hr
 refine al aa [] 0 rfl rfl rfl rfl rfl rfl ?_ ?_
 all_goals first|rfl|(simp [ar];done)|(simp [ar];omega)
theorem wQ (x y:ak):Fn Try.prog 53 [(.g [(cI x.az),(cI x.ba),(cI x.kind),(cI x.sum)]),(.g [(cI y.az),(cI y.ba),(cI y.kind),(cI y.sum)])] (aI (gM x y)) []:=by
 refine Fn.mk' 17 [(0,(aG [(cI x.az),(cI x.ba),(cI x.kind),(cI x.sum)])),(1,(aG [(cI y.az),(cI y.ba),(cI y.kind),(cI y.sum)]))] Try.func53 rfl rfl rfl rfl ?_
 intro W0 T0
 refine ad aa 3 rfl ?_
 refine af ?_
 have hr0:ed x.az y.az=ed x.az y.az:=rfl
 have hr1:ed x.ba y.ba=ed x.ba y.ba:=rfl
 have hr2:eW ([ed x.az y.az,ed x.ba y.ba])=eW ([ed x.az y.az,ed x.ba y.ba]):=rfl
 refine bc [2,3] [1,0] mixed rfl rfl ?_
 refine aA (kn:=[]) aa 4 rfl trivial ?_
 refine aT (n':=2) [6,8] [] rfl rfl (.inl ⟨(ah.plain rfl),aJ.cast (bP 2 (oE x.az y.az (ed x.az y.az) hr0) AQ rfl rfl ⟨⟨_,rfl,.c (.d _)⟩,⟨_,rfl,.c (.d _)⟩,trivial⟩ trivial trivial rfl rfl rfl rfl) rfl⟩) rfl ?_
 refine aA (kn:=[]) aa 4 rfl trivial ?_
 refine aT (n':=2) [11,13] [] rfl rfl (.inl ⟨(ah.plain rfl),aJ.cast (bP 2 (oE x.ba y.ba (ed x.ba y.ba) hr1) AQ rfl rfl ⟨⟨_,rfl,.c (.d _)⟩,⟨_,rfl,.c (.d _)⟩,trivial⟩ trivial trivial rfl rfl rfl rfl) rfl⟩) rfl ?_
 refine aT (n':=3) [9,14] [] rfl rfl (.inl ⟨(ah.plain rfl),aJ.cast (dv (ys:=[(0,(.c (cI (ed x.az y.az)))),(1,(.c (cI (ed x.ba y.ba))))]) (rows:=([ed x.az y.az,ed x.ba y.ba]).map rI) 2 mM rfl (by decide) ⟨⟨rfl,rfl⟩,⟨rfl,rfl⟩,trivial⟩ rfl rfl rfl rfl) rfl⟩) rfl ?_
 refine aT (n':=3) [15] [2] rfl rfl (.inl ⟨(ah.plain rfl),aJ.cast (fH 3 [2] (Gk ([ed x.az y.az,ed x.ba y.ba]) (eW ([ed x.az y.az,ed x.ba y.ba])) hr2) FW rfl rfl ⟨⟨_,rfl,.c (.s rfl (by decide) (by first|omega|(simp;done)|(simp;omega)))⟩,trivial⟩ rfl trivial rfl rfl rfl rfl) rfl⟩) rfl ?_
 refine aA (kn:=[]) aa 1 rfl trivial ?_
 refine bC [1,0] rfl rfl rfl rfl (by kernel_rfl) ?_
 refine ae ?_
 refine ax ?_
 refine al aa [] 0 rfl rfl rfl rfl rfl rfl ?_ ?_
 all_goals first|rfl|(simp [ar];done)|(simp [ar];omega)

theorem vO (d:List ak) (N a b n:Nat) (fn:FuncId) (bd:List (List D)) (hp:∀ x y:ak,Fn Try.prog fn ([.g [cI x.az,cI x.ba,cI x.kind,cI x.sum],.g [cI y.az,cI y.ba,cI y.kind,cI y.sum]]++bd.map fun r=>GV.c (.q r 0)) (aI (gM x y)) []) (hen:bg Try.prog fn) (hl:d.length * 32<=140737488355328) (hN:N=d.length) (h0_:a+n<=d.length) (h1_:b+n<=d.length) (r:List ak) (hr:fQ a b n d=r):cA Try.prog 110 [(.c (.s 0 0 4 N)),(.c (cI (↑a:Int))),(.c (cI (↑b:Int))),(.c (cI (↑n:Int))),(.c (.d (.f fn bd)))] [(0,(cK d))] [0] (.t []) [(0,(cK r))]:=by
 refine cA.mk 38 [(0,(aC (.s 0 0 4 N))),(1,(aI (↑a:Int))),(2,(aI (↑b:Int))),(3,(aI (↑n:Int))),(4,(aC (.d (.f fn bd))))] 1 Try.func110 rfl rfl rfl rfl rfl rfl rfl rfl rfl ?_
 intro W0 F0 T0 pg
 refine fK 0 rfl (fun hlen0=>?_)
 refine ad aa 1 rfl ?_
 refine aW ?_
 refine cw (β:=Nat×List ak) (fun (p:Nat×List ak)=>match p with|(i,d1)=>⟨[(0,(aC (.s 0 0 4 N))),(1,(aI (↑a:Int))),(2,(aI (↑b:Int))),(3,(aI (↑n:Int))),(10,(aI (↑i:Int)))],[(0,(cK d1))],1⟩) (fun (p:Nat×List ak)=>match p with|(i,d1)=>i<=n/\d1=fQ a b i d/\d1.length=d.length) (fun (p:Nat×List ak)=>match p with|(i,d1)=>n - i) (0,d) ?_ ?_ ?_
 ·exact ⟨by omega,rfl,rfl⟩
 ·exact aD.bY id (by refine ⟨?_,?_,?_,?_,?_,trivial⟩<;>first|rfl|(simp only [bo];done)|(congr 3;omega)|(congr 4;omega)|(simp only [bp];rfl)|(exact cC rfl (by omega))) (⟨by first|rfl|(simp only [bo];done)|(congr 3;omega)|(congr 4;omega)|(simp only [bp];rfl),trivial⟩) rfl
 rintro ⟨i,d1⟩ ⟨hi0_0,hi0_1,hi0_2⟩
 refine af ?_
 refine ad aa 3 rfl ?_
 refine ag rfl (fun hc1=>?_) (fun hc1=>?_)
 ·
  have hc1':=of_decide_eq_true hc1
  refine aP ?_
  refine af ?_
  refine aW ?_
  obtain ⟨x1,hx1⟩:=cq (xs:=d1) (i:=(b)+(i)) (by first|omega|(simp;done)|(simp;omega))
  obtain ⟨x2,hx2⟩:=cq (xs:=d1) (i:=(a)+(i)) (by first|omega|(simp;done)|(simp;omega))
  obtain ⟨x3,hx3⟩:=cq (xs:=((d1).set ((a)+(i)) x1)) (i:=(b)+(i)) (by first|omega|(simp;done)|(simp;omega))
  refine cZ [0,1,2,3,10] [0] mixed rfl rfl ?_
  refine bQ (kn:=[]) aa 3 rfl trivial ?_
  refine bU (n':=1) [17,18] [] rfl rfl (.inl ⟨(ah.plain rfl),aJ.cast (aK rfl rfl rfl (aH (by first|omega|(simp;done)|(simp;omega)))) rfl⟩) rfl ?_
  refine bQ (kn:=[]) aa 3 rfl trivial ?_
  refine bU (n':=1) [21,22] [] rfl rfl (.inl ⟨(ah.plain rfl),aJ.cast (aK rfl rfl rfl (aH (by first|omega|(simp;done)|(simp;omega)))) rfl⟩) rfl ?_
  refine bQ (kn:=[]) aa 3 rfl trivial ?_
  refine bU (n':=1) [25,26] [] rfl rfl (.inl ⟨(ah.plain rfl),aJ.cast (aK rfl rfl rfl (aH (by first|omega|(simp;done)|(simp;omega)))) rfl⟩) rfl ?_
  refine bU (n':=1) [24,27] [0] rfl rfl (.inl ⟨(ah.plain rfl),aJ.cast (br (i:=(b)+(i)) rfl rfl rfl Try.underlying42 dk (by first|omega|(simp;done)|(simp;omega)) (by first|omega|(simp;done)|(simp;omega))) rfl⟩) rfl ?_
  refine bU (n':=1) [28] [0] rfl rfl (.inl ⟨(ah.plain rfl),aJ.cast (dc rfl rfl rfl Try.underlying83 rfl dk (bu hx1) rfl) rfl⟩) rfl ?_
  refine bQ (kn:=[]) aa 3 rfl trivial ?_
  refine bU (n':=1) [31,32] [] rfl rfl (.inl ⟨(ah.plain rfl),aJ.cast (aK rfl rfl rfl (aH (by first|omega|(simp;done)|(simp;omega)))) rfl⟩) rfl ?_
  refine bU (n':=1) [30,33] [0] rfl rfl (.inl ⟨(ah.plain rfl),aJ.cast (br (i:=(a)+(i)) rfl rfl rfl Try.underlying42 dk (by first|omega|(simp;done)|(simp;omega)) (by first|omega|(simp;done)|(simp;omega))) rfl⟩) rfl ?_
  refine bU (n':=1) [34] [0] rfl rfl (.inl ⟨(ah.plain rfl),aJ.cast (dc rfl rfl rfl Try.underlying83 rfl dk (bu hx2) rfl) rfl⟩) rfl ?_
  refine bU (n':=1) [16,19] [0] rfl rfl (.inl ⟨(ah.plain rfl),aJ.cast (br (i:=(a)+(i)) rfl rfl rfl Try.underlying42 dk (by first|omega|(simp;done)|(simp;omega)) (by first|omega|(simp;done)|(simp;omega))) rfl⟩) rfl ?_
  refine bU (n':=1) [36,29] [0] rfl rfl (.inl ⟨(ah.plain rfl),aJ.cast (dH (ds:=[(dI x1.az),(dI x1.ba),(dI x1.kind),(dI x1.sum)]) rfl rfl rfl rfl rfl dk rfl (Nat.le_of_ble_eq_true rfl) (bu hx2) rfl (eG (x':=x1) rfl)) rfl⟩) rfl ?_
  refine bU (n':=1) [20,23] [0] rfl rfl (.inl ⟨(ah.plain rfl),aJ.cast (br (i:=(b)+(i)) rfl rfl rfl Try.underlying42 dk (by first|omega|(simp;done)|(simp;omega)) (by first|omega|(simp;done)|(simp;omega))) rfl⟩) rfl ?_
  refine bU (n':=1) [37,35] [0] rfl rfl (.inl ⟨(ah.plain rfl),aJ.cast (dH (ds:=[(dI x2.az),(dI x2.ba),(dI x2.kind),(dI x2.sum)]) rfl rfl rfl rfl rfl dk rfl (Nat.le_of_ble_eq_true rfl) (bu hx3) rfl (eG (x':=x2) rfl)) rfl⟩) rfl ?_
  refine dL [0,1,2,3,10] [0] rfl rfl (by kernel_rfl) ?_
  refine bn ?_
  refine then_ok ?_
  refine aw ?_
  refine ab aa 1 rfl ?_
  refine ay (aK rfl rfl rfl (aH (by first|omega|(simp;done)|(simp;omega)))) rfl ?_
  refine ab aa 1 rfl ?_
  refine ae ?_
  refine ⟨(i+1,((d1).set ((a)+(i)) x1).set ((b)+(i)) x2),⟨by omega,by rw [fQ,<-hi0_1];exact (kX hx2 hx1).symm,by simp only [List.length_set];exact hi0_2⟩,by first|omega|(simp;done)|(simp;omega),aD.bY id (by refine ⟨?_,?_,?_,?_,?_,trivial⟩<;>first|rfl|(simp only [bo];done)|(congr 3;omega)|(congr 4;omega)|(simp only [bp];rfl)|(exact cC rfl (by omega))) (⟨by first|rfl|(simp only [bo];done)|(congr 3;omega)|(congr 4;omega)|(simp only [bp];rfl),trivial⟩) rfl⟩
 have hc1':=of_decide_eq_false hc1
 refine cm ?_
 refine aQ ?_
 refine aQ ?_
 refine bO ?_
 have hX:fQ a b n d=d1:=by
   have:i=n:=by omega
   subst this;exact hi0_1.symm
 rw [hX] at hr;clear hX
 subst hr
 refine cG aa [0] 1 rfl rfl rfl rfl rfl rfl ?_ ?_
 all_goals first|rfl|(simp [ar];done)|(simp [ar];omega)
theorem lh (ai bi ni:Int) (d:List ak) (N a b n:Nat) (fn:FuncId) (bd:List (List D)) (hp:∀ x y:ak,Fn Try.prog fn ([.g [cI x.az,cI x.ba,cI x.kind,cI x.sum],.g [cI y.az,cI y.ba,cI y.kind,cI y.sum]]++bd.map fun r=>GV.c (.q r 0)) (aI (gM x y)) []) (hen:bg Try.prog fn) (ea_:ai=(↑a:Int)) (eb_:bi=(↑b:Int)) (en_:ni=(↑n:Int)) (hl:d.length * 32<=140737488355328) (hN:N=d.length) (h0_:a+n<=d.length) (h1_:b+n<=d.length) (r:List ak) (hr:fQ a b n d=r):cA Try.prog 110 [(.c (.s 0 0 4 N)),(.c (cI ai)),(.c (cI bi)),(.c (cI ni)),(.c (.d (.f fn bd)))] [(0,(cK d))] [0] (.t []) [(0,(cK r))]:=by
  subst ea_ eb_ en_
  exact vO d N a b n fn bd hp hen hl hN h0_ h1_ r hr

theorem Bf (d:List ak) (N a m b:Nat) (fn:FuncId) (bd:List (List D)) (hp:∀ x y:ak,Fn Try.prog fn ([.g [cI x.az,cI x.ba,cI x.kind,cI x.sum],.g [cI y.az,cI y.ba,cI y.kind,cI y.sum]]++bd.map fun r=>GV.c (.q r 0)) (aI (gM x y)) []) (hen:bg Try.prog fn) (hl:d.length * 32<=140737488355328) (hN:N=d.length) (h0_:a < m) (h1_:m < b) (h2_:b<=d.length) (r:List ak) (hr:iE m (m - a) (b - m) d=r):cA Try.prog 93 [(.c (.s 0 0 4 N)),(.c (cI (↑a:Int))),(.c (cI (↑m:Int))),(.c (cI (↑b:Int))),(.c (.d (.f fn bd)))] [(0,(cK d))] [0] (.t []) [(0,(cK r))]:=by
 refine cA.mk 58 [(0,(aC (.s 0 0 4 N))),(1,(aI (↑a:Int))),(2,(aI (↑m:Int))),(3,(aI (↑b:Int))),(4,(aC (.d (.f fn bd))))] 1 Try.func93 rfl rfl rfl rfl rfl rfl rfl rfl rfl ?_
 intro W0 F0 T0 pg
 refine fK 0 rfl (fun hlen0=>?_)
 refine aE aa 2 rfl ?_
 refine ay (aK rfl rfl rfl (aH (by first|omega|(simp;done)|(simp;omega)))) rfl ?_
 refine ab aa 1 rfl ?_
 refine ae ?_
 refine aE aa 2 rfl ?_
 refine ay (aK rfl rfl rfl (aH (by first|omega|(simp;done)|(simp;omega)))) rfl ?_
 refine ab aa 1 rfl ?_
 refine ae ?_
 refine af ?_
 refine aW ?_
 refine cw (β:=Nat×Nat×List ak) (fun (p:Nat×Nat×List ak)=>match p with|(i,j,d1)=>⟨[(0,(aC (.s 0 0 4 N))),(2,(aI (↑m:Int))),(4,(aC (.d (.f fn bd)))),(10,(aI (↑i:Int))),(11,(aI (↑j:Int)))],[(0,(cK d1))],1⟩) (fun (p:Nat×Nat×List ak)=>match p with|(i,j,d1)=>0 < i/\0 < j/\i+a<=m/\m+j<=b/\iE m i j d1=iE m (m - a) (b - m) d/\d1.length=d.length) (fun (p:Nat×Nat×List ak)=>match p with|(i,j,d1)=>i+j) (m - a,b - m,d) ?_ ?_ ?_
 ·exact ⟨by omega,by omega,by omega,by omega,rfl,rfl⟩
 ·exact aD.bY id (by refine ⟨?_,?_,?_,?_,?_,trivial⟩<;>first|rfl|(simp only [bo];done)|(congr 3;omega)|(congr 4;omega)|(simp only [bp];rfl)|(exact cC rfl (by omega))) (⟨by first|rfl|(simp only [bo];done)|(congr 3;omega)|(congr 4;omega)|(simp only [bp];rfl),trivial⟩) rfl
 rintro ⟨i,j,d1⟩ ⟨hi0_0,hi0_1,hi0_2,hi0_3,hi0_4,hi0_5⟩
 refine af ?_
 refine ad aa 3 rfl ?_
 refine ag rfl (fun hc1=>?_) (fun hc1=>?_)
 ·
  have hc1':=of_decide_eq_true hc1
  refine aP ?_
  refine aW ?_
  refine ad aa 3 rfl ?_
  refine ag rfl (fun hc2=>?_) (fun hc2=>?_)
  ·
   have hc2':=of_decide_eq_true hc2
   refine aE aa 3 rfl ?_
   refine ay (aK rfl rfl rfl (aH (by first|omega|(simp;done)|(simp;omega)))) rfl ?_
   refine ab aa 3 rfl ?_
   obtain ⟨r0,hr0⟩:∃ (r0:List ak),fQ ((m) - (i)) m j d1=r0:=⟨_,rfl⟩
   have hlr0:r0.length=d1.length:=by rw [<-hr0];exact im _ _ _ _
   refine aM 1 [0] (dJ id id (lh ((↑m:Int) - (↑i:Int)) (↑m:Int) (↑j:Int) d1 N ((m) - (i)) m j fn bd hp hen (by first|omega|(simp;done)|(simp;omega)) (by first|omega|(simp;done)|(simp;omega)) (by first|omega|(simp;done)|(simp;omega)) (by first|omega|(simp;done)|(simp;omega)) (by first|omega|(simp;done)|(simp;omega)) (by first|omega|(simp;done)|(simp;omega)) (by first|omega|(simp;done)|(simp;omega)) r0 hr0) xQ rfl rfl ⟨⟨_,rfl,.inl ⟨rfl,rfl⟩⟩,⟨_,rfl,.inr (.c (.d _))⟩,⟨_,rfl,.inr (.c (.d _))⟩,⟨_,rfl,.inr (.c (.d _))⟩,⟨_,rfl,.inr (.c (.d _))⟩,trivial⟩ ⟨rfl,trivial⟩ rfl rfl ⟨.inr ⟨_,_,_,rfl,by first|(simp;omega)|(simp only [List.length_map];omega)⟩,trivial⟩ rfl rfl rfl trivial ⟨(fun _ _ _ _=>trivial),trivial⟩ rfl rfl rfl rfl) rfl ?_
   refine ae ?_
   refine aw ?_
   refine ab aa 2 rfl ?_
   refine ay (aK rfl rfl rfl (aH (by first|omega|(simp;done)|(simp;omega)))) rfl ?_
   refine ab aa 1 rfl ?_
   refine bX ?_
   refine bn ?_
   refine then_ok ?_
   refine ⟨((i) - (j),j,r0),⟨by omega,by omega,by omega,by omega,by rw [<-hr0,<-yG (by omega) (by omega)];exact hi0_4,by omega⟩,by first|omega|(simp;done)|(simp;omega),aD.bY id (by refine ⟨?_,?_,?_,?_,?_,trivial⟩<;>first|rfl|(simp only [bo];done)|(congr 3;omega)|(congr 4;omega)|(simp only [bp];rfl)|(exact cC rfl (by omega))) (⟨by first|rfl|(simp only [bo];done)|(congr 3;omega)|(congr 4;omega)|(simp only [bp];rfl),trivial⟩) rfl⟩
  have hc2':=of_decide_eq_false hc2
  refine aE aa 3 rfl ?_
  refine ay (aK rfl rfl rfl (aH (by first|omega|(simp;done)|(simp;omega)))) rfl ?_
  refine ab aa 2 rfl ?_
  refine ay (aK rfl rfl rfl (aH (by first|omega|(simp;done)|(simp;omega)))) rfl ?_
  refine ab aa 1 rfl ?_
  refine ay (aK rfl rfl rfl (aH (by first|omega|(simp;done)|(simp;omega)))) rfl ?_
  refine ab aa 2 rfl ?_
  obtain ⟨r1,hr1⟩:∃ (r1:List ak),fQ ((m) - (i)) (((m)+(j)) - (i)) i d1=r1:=⟨_,rfl⟩
  have hlr1:r1.length=d1.length:=by rw [<-hr1];exact im _ _ _ _
  refine aM 1 [0] (dJ id id (lh ((↑m:Int) - (↑i:Int)) (((↑m:Int)+(↑j:Int)) - (↑i:Int)) (↑i:Int) d1 N ((m) - (i)) (((m)+(j)) - (i)) i fn bd hp hen (by first|omega|(simp;done)|(simp;omega)) (by first|omega|(simp;done)|(simp;omega)) (by first|omega|(simp;done)|(simp;omega)) (by first|omega|(simp;done)|(simp;omega)) (by first|omega|(simp;done)|(simp;omega)) (by first|omega|(simp;done)|(simp;omega)) (by first|omega|(simp;done)|(simp;omega)) r1 hr1) xQ rfl rfl ⟨⟨_,rfl,.inl ⟨rfl,rfl⟩⟩,⟨_,rfl,.inr (.c (.d _))⟩,⟨_,rfl,.inr (.c (.d _))⟩,⟨_,rfl,.inr (.c (.d _))⟩,⟨_,rfl,.inr (.c (.d _))⟩,trivial⟩ ⟨rfl,trivial⟩ rfl rfl ⟨.inr ⟨_,_,_,rfl,by first|(simp;omega)|(simp only [List.length_map];omega)⟩,trivial⟩ rfl rfl rfl trivial ⟨(fun _ _ _ _=>trivial),trivial⟩ rfl rfl rfl rfl) rfl ?_
  refine ae ?_
  refine aw ?_
  refine ab aa 2 rfl ?_
  refine ay (aK rfl rfl rfl (aH (by first|omega|(simp;done)|(simp;omega)))) rfl ?_
  refine ab aa 1 rfl ?_
  refine bX ?_
  refine bn ?_
  refine then_ok ?_
  refine ⟨(i,(j) - (i),r1),⟨by omega,by omega,by omega,by omega,by rw [<-hr1,<-yF (by omega) (by omega)];exact hi0_4,by omega⟩,by first|omega|(simp;done)|(simp;omega),aD.bY id (by refine ⟨?_,?_,?_,?_,?_,trivial⟩<;>first|rfl|(simp only [bo];done)|(congr 3;omega)|(congr 4;omega)|(simp only [bp];rfl)|(exact cC rfl (by omega))) (⟨by first|rfl|(simp only [bo];done)|(congr 3;omega)|(congr 4;omega)|(simp only [bp];rfl),trivial⟩) rfl⟩
 have hc1':=of_decide_eq_false hc1
 refine cm ?_
 refine aQ ?_
 refine aQ ?_
 refine bO ?_
 refine then_ok ?_
 refine aw ?_
 refine ab aa 3 rfl ?_
 refine ay (aK rfl rfl rfl (aH (by first|omega|(simp;done)|(simp;omega)))) rfl ?_
 refine ab aa 3 rfl ?_
 obtain ⟨r2,hr2⟩:∃ (r2:List ak),fQ ((m) - (i)) m i d1=r2:=⟨_,rfl⟩
 have hlr2:r2.length=d1.length:=by rw [<-hr2];exact im _ _ _ _
 refine aM 1 [0] (dJ id id (lh ((↑m:Int) - (↑i:Int)) (↑m:Int) (↑i:Int) d1 N ((m) - (i)) m i fn bd hp hen (by first|omega|(simp;done)|(simp;omega)) (by first|omega|(simp;done)|(simp;omega)) (by first|omega|(simp;done)|(simp;omega)) (by first|omega|(simp;done)|(simp;omega)) (by first|omega|(simp;done)|(simp;omega)) (by first|omega|(simp;done)|(simp;omega)) (by first|omega|(simp;done)|(simp;omega)) r2 hr2) xQ rfl rfl ⟨⟨_,rfl,.inl ⟨rfl,rfl⟩⟩,⟨_,rfl,.inr (.c (.d _))⟩,⟨_,rfl,.inr (.c (.d _))⟩,⟨_,rfl,.inr (.c (.d _))⟩,⟨_,rfl,.inr (.c (.d _))⟩,trivial⟩ ⟨rfl,trivial⟩ rfl rfl ⟨.inr ⟨_,_,_,rfl,by first|(simp;omega)|(simp only [List.length_map];omega)⟩,trivial⟩ rfl rfl rfl trivial ⟨(fun _ _ _ _=>trivial),trivial⟩ rfl rfl rfl rfl) rfl ?_
 refine bX ?_
 have hX:iE m (m - a) (b - m) d=r2:=by
   have hij:i=j:=by omega
   subst hij;rw [<-hi0_4,yH (by omega)];exact hr2
 rw [hX] at hr;clear hX
 subst hr
 refine cG aa [0] 1 rfl rfl rfl rfl rfl rfl ?_ ?_
 all_goals first|rfl|(simp [ar];done)|(simp [ar];omega)
theorem tk (ai mi bi:Int) (d:List ak) (N a m b:Nat) (fn:FuncId) (bd:List (List D)) (hp:∀ x y:ak,Fn Try.prog fn ([.g [cI x.az,cI x.ba,cI x.kind,cI x.sum],.g [cI y.az,cI y.ba,cI y.kind,cI y.sum]]++bd.map fun r=>GV.c (.q r 0)) (aI (gM x y)) []) (hen:bg Try.prog fn) (ea_:ai=(↑a:Int)) (em_:mi=(↑m:Int)) (eb_:bi=(↑b:Int)) (hl:d.length * 32<=140737488355328) (hN:N=d.length) (h0_:a < m) (h1_:m < b) (h2_:b<=d.length) (r:List ak) (hr:iE m (m - a) (b - m) d=r):cA Try.prog 93 [(.c (.s 0 0 4 N)),(.c (cI ai)),(.c (cI mi)),(.c (cI bi)),(.c (.d (.f fn bd)))] [(0,(cK d))] [0] (.t []) [(0,(cK r))]:=by
  subst ea_ em_ eb_
  exact Bf d N a m b fn bd hp hen hl hN h0_ h1_ h2_ r hr
end Go.Proofs.Ytegepioggeggaaa.Dev
