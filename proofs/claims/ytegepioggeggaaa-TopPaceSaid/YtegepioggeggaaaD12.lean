/- A part of the proof: Bank10, Bank11, Bank5, Bank6. No condition. -/
import Derived.Test.YtegepioggeggaaaD11
set_option linter.unusedVariables false
set_option linter.unusedSimpArgs false
set_option maxHeartbeats 8000000
set_option maxRecDepth 100000
namespace Go.Proofs.Ytegepioggeggaaa.Dev
open Go.RowKit

theorem zE (x:Nat->Value) (hx:∀ i,(x i).oneCell'=true) (b:Bk) (idn kind az move sum:Int) (ok:cj b) (b2:Bk) (a2:Answer) (hr:cr b (⟨idn,kind,0,az,move,sum⟩:aV)=(b2,a2)):cA Try.prog 67 [(.c (.p 0 0 0 0)),(.c (.q (cP (⟨idn,kind,0,az,move,sum⟩:aV)) 0))] [(0,(.box 98 (aU b 1 2 3 4 (.d (.v (x 17))) (.d (.v (x 19)))))),(1,(dK b.ao)),(2,(dC b.due)),(3,(dS b.aq)),(4,(cK b.aS))] [0] (.v (.g [cI a2.err,cI a2.ba])) [(0,(.box 98 (aU b2 1 2 3 4 (.d (.v (x 17))) (.d (.v (x 19)))))),(1,(dK b2.ao)),(2,(dC b2.due)),(3,(dS b2.aq)),(4,(cK b2.aS))]:=by
 refine cA.mk 153 [(0,(aC (.p 0 0 0 0))),(1,(aC (.q (cP (⟨idn,kind,0,az,move,sum⟩:aV)) 0)))] 5 Try.func67 rfl rfl rfl rfl rfl rfl rfl rfl rfl ?_
 intro W0 F0 T0 pg
 obtain ⟨okt,okc,okd,oka,oky,okw0,okw1,okp,okv,okk0,okk1,okg,okl0,okl1,okp0,okp1,okn0,okn1,okq⟩:=id ok
 refine ad aa 1 rfl ?_
 refine af ?_
 refine af ?_
 refine bc [0,1,4] [5,0,1,2,3,4] mixed rfl rfl ?_
 refine aA (kn:=[(15,false)]) aa 21 rfl ⟨rfl,trivial⟩ ?_
 refine aT (n':=6) [31,28,23] [0] rfl rfl (.inl ⟨(ah.yes rfl rfl rfl),aJ.cast (dj (i:=0) rfl rfl rfl Try.underlying38 ku rfl (by decide)) rfl⟩) rfl ?_
 refine aA (kn:=[]) aa 1 rfl trivial ?_
 refine aT (n':=6) [33,23] [] rfl rfl (.inl ⟨(ah.yes rfl rfl rfl),aJ.cast (cY rfl rfl rfl rfl rfl Try.underlying37) rfl⟩) rfl ?_
 refine aA (kn:=[]) aa 2 rfl trivial ?_
 refine bC [5,0,1,2,3,4] rfl rfl rfl rfl (by kernel_rfl) ?_
 refine ae ?_
 refine ag rfl (fun hc1=>?_) (fun hc1=>?_)
 ·
  have hc1':=of_decide_eq_true hc1
  refine ad aa 2 rfl ?_
  refine ax ?_
  refine an ?_
  have hX:cr b (⟨idn,kind,0,az,move,sum⟩:aV)=(b,(⟨6,0⟩:Answer)):=by
    unfold cr;dsimp only;rw [if_pos rfl];unfold fJ;rw [List.getElem?_eq_none (by omega)]
  rw [hX] at hr;clear hX
  simp only [Prod.mk.injEq] at hr;obtain ⟨rfl,rfl⟩:=hr
  refine al aa [0,1,2,3,4,5] 5 rfl rfl rfl rfl rfl rfl ?_ ?_
  all_goals first|rfl|(simp [ar,aU,bb];done)|(simp [ar,aU,bb];omega)
 have hc1':=of_decide_eq_false hc1
 refine aP ?_
 refine af ?_
 obtain ⟨x1,hx1⟩:=cq (xs:=b.w0) (i:=0) (by first|omega|(simp;done)|(simp;omega))
 refine bc [0,1,4] [5,0,1,2,3,4] mixed rfl rfl ?_
 refine aA (kn:=[]) aa 8 rfl trivial ?_
 refine aT (n':=6) [45,42] [0] rfl rfl (.inl ⟨(ah.plain rfl),aJ.cast (dj (i:=0) rfl rfl rfl Try.underlying38 ku rfl (by decide)) rfl⟩) rfl ?_
 refine aA (kn:=[]) aa 1 rfl trivial ?_
 refine aT (n':=6) [47] [] rfl rfl (.inl ⟨(ah.plain rfl),aJ.cast (cS (i:=0) rfl rfl rfl Try.underlying37 tL (by first|omega|(simp;done)|(simp;omega)) (bu hx1)) rfl⟩) rfl ?_
 refine aA (n':=7) (kn:=[]) aa 2 rfl trivial ?_
 refine bC [6,5,0,1,2,3,4] rfl rfl rfl rfl (by kernel_rfl) ?_
 refine ab aa 1 rfl ?_
 refine ae ?_
 have hpk:=okp0 x1 (List.mem_of_getElem? hx1)
 have hI0:∀ t∈b.s0.kept,fz t.number:=fun t ht=>(okk0 t ht).1
 have hI1:∀ t∈b.s1.kept,fz t.number:=fun t ht=>(okk1 t ht).1
 have hA:∀ a∈b.aq,0<=a.aL/\a.aL < b.ao.length/\0<=a.az/\a.az < b.due.length:=fun a ha=>(okp a ha).2
 refine aE aa 1 rfl ?_
 refine aM 16 [0,7,8,9,10,11,12,13,14,15,6,5] (cE id (aX [0,7,8,9,10,11,12,13,14,15]) (jS (x 17) (x 19) b (by first|omega|(simp;done)|(simp;omega)) (by first|omega|(simp;done)|(simp;omega)) (by first|omega|(simp;done)|(simp;omega)) (by first|omega|(simp;done)|(simp;omega))) qi rfl rfl ⟨⟨_,rfl,.inl ⟨rfl,rfl⟩⟩,trivial⟩ ⟨rfl,rfl,rfl,rfl,rfl,trivial⟩ rfl rfl rfl rfl rfl rfl trivial ⟨⟨trivial,trivial,trivial,trivial,trivial,trivial,trivial,trivial,trivial,trivial,trivial,trivial,trivial,trivial,trivial,trivial,trivial,trivial,trivial,trivial,trivial⟩,⟨trivial,trivial,trivial,trivial,trivial,trivial,trivial,trivial,trivial,trivial,trivial,trivial,trivial,trivial,trivial,trivial,trivial,trivial,trivial,trivial,trivial⟩,(fun _ _ _ _=>trivial),(fun _ _ _ _=>trivial),(fun _ _ _ _=>trivial),(fun _ _ _ _=>trivial),(fun _ _ _ _=>trivial),(fun _ _ _ _=>trivial),(fun _ _ _ _=>trivial),(fun _ _ _ _=>trivial),trivial⟩ rfl rfl rfl rfl) rfl ?_
 refine ab aa 1 rfl ?_
 refine ae ?_
 refine af ?_
 refine bc [0,1,4,5,6] [0,7,8,9,10,11,12,13,14,15,6,5] mixed rfl rfl ?_
 refine aA (kn:=[]) aa 13 rfl trivial ?_
 refine aT (n':=16) [64,61] [0] rfl rfl (.inl ⟨(ah.plain rfl),aJ.cast (dj (i:=0) rfl rfl rfl Try.underlying38 ku rfl (by decide)) rfl⟩) rfl ?_
 refine aA (kn:=[]) aa 1 rfl trivial ?_
 refine aT (n':=16) [66] [] rfl rfl (.inl ⟨(ah.plain rfl),aJ.cast (uU (l:=1) (h:=b.w0.length) (ys:=((b.w0).drop 1).map fc) rfl Try.underlying37 tL rfl (.inr ⟨_,rfl,rfl⟩) (.inl ⟨rfl,by simp⟩) (by first|omega|(simp;done)|(simp;omega)) (by first|omega|(simp;done)|(simp;omega)) (by first|(simp;done)|(rw [List.map_drop];exact List.take_of_length_le (by simp)))) rfl⟩) rfl ?_
 refine aA (kn:=[]) aa 3 rfl trivial ?_
 refine aT (n':=16) [70,56] [7] rfl rfl (.inl ⟨(ah.plain rfl),aJ.cast (dj (i:=0) rfl rfl rfl Try.underlying38 ku rfl (by decide)) rfl⟩) rfl ?_
 refine bC [0,7,8,9,10,11,12,13,14,15,6,5] rfl rfl rfl rfl (by kernel_rfl) ?_
 refine ab aa 1 rfl ?_
 refine ae ?_
 refine af ?_
 refine ad aa 5 rfl ?_
 refine ag rfl (fun hc2=>?_) (fun hc2=>?_)
 ·
  have hc2':=of_decide_eq_true hc2
  refine aE aa 2 rfl ?_
  refine aM 20 [0,16,17,18,19,6,5] (cE (aX [0,7,8,9,10,11,12,13,14,15]) (aX [0,16,17,18,19]) (fb (x 17) (x 19) b (⟨b.time,b.down,b.ao,b.due,b.aq,b.s0,b.s1,b.n0,b.n1,(b.w0).drop 1,b.w1,b.bF,b.aS,b.book⟩:Bk) 0 (by first|assumption|omega)) fx rfl rfl ⟨⟨_,rfl,.inl ⟨rfl,rfl⟩⟩,⟨_,rfl,.inl ⟨rfl,rfl⟩⟩,trivial⟩ ⟨rfl,rfl,rfl,rfl,rfl,rfl,rfl,rfl,rfl,rfl,trivial⟩ rfl rfl rfl rfl rfl rfl trivial ⟨⟨trivial,trivial,trivial,trivial,trivial,trivial,trivial,trivial,trivial,trivial,trivial,trivial,trivial,trivial,trivial,trivial,trivial,trivial,trivial,trivial,trivial⟩,(fun _ _ _ _=>trivial),(fun _ _ _ _=>trivial),(fun _ _ _ _=>trivial),(fun _ _ _ _=>trivial),trivial⟩ rfl rfl rfl rfl) rfl ?_
  refine ab aa 2 rfl ?_
  refine ae ?_
  refine ax ?_
  refine an ?_
  have hX:cr b (⟨idn,kind,0,az,move,sum⟩:aV)=((⟨b.time,b.down,b.ao,b.due,b.aq,b.s0,b.s1,b.n0,b.n1,(b.w0).drop 1,b.w1,b.bF,b.aS,b.book⟩:Bk),(⟨0,0⟩:Answer)):=by
    unfold cr;dsimp only;rw [if_pos rfl];unfold fJ;rw [hx1];dsimp only;(try simp only [dt]);(try unfold dt);(repeat' split)<;>first|rfl|omega|(exfalso;omega)|(simp_all;done)|(simp_all;omega)
  rw [hX] at hr;clear hX
  simp only [Prod.mk.injEq] at hr;obtain ⟨rfl,rfl⟩:=hr
  refine al aa [0,16,17,18,19,5] 5 rfl rfl rfl rfl rfl rfl ?_ ?_
  all_goals first|rfl|(simp [ar,aU,bb];done)|(simp [ar,aU,bb];omega)
 have hc2':=of_decide_eq_false hc2
 refine aP ?_
 refine af ?_
 refine ad aa 3 rfl ?_
 refine ag rfl (fun hc3=>?_) (fun hc3=>?_)
 ·
  have hc3':=of_decide_eq_true hc3
  refine af ?_
  obtain ⟨xr0,e0,hr0⟩:∃ (xr0:bV) (e0:Int),dW b.s0 x1.seen=(xr0,e0):=⟨_,_,rfl⟩
  refine cZ [0,1,4,5,6] [0,7,8,9,10,11,12,13,14,15,6,5] mixed rfl rfl ?_
  refine bQ (kn:=[]) aa 8 rfl trivial ?_
  refine bU (n':=16) [92,89] [7] rfl rfl (.inl ⟨(ah.plain rfl),aJ.cast (dj (i:=0) rfl rfl rfl Try.underlying35 lV rfl (by decide)) rfl⟩) rfl ?_
  refine bQ (kn:=[]) aa 3 rfl trivial ?_
  refine bU (n':=16) [94,96] [] rfl rfl (.inl ⟨(ah.plain rfl),aJ.cast (bP 16 (Fn.frozen (av':=(.t [(.g [(cI xr0.bW),(de xr0.kept)]),(.c (cI e0))])) (pC b.s0 x1.seen (by first|assumption|exact jO (by assumption) (by omega)|exact ja (by assumption) (by assumption)|(simp [fz];done)) xr0 e0 hr0) ⟨⟨.inl ⟨_,rfl,rfl⟩,.inr ⟨_,_,_,_,_,rfl,rfl,rfl,by simp⟩,trivial⟩,.inl ⟨_,rfl,rfl⟩,trivial⟩) DE rfl rfl ⟨⟨_,rfl,.g ⟨.d _,.d _,trivial⟩⟩,⟨_,rfl,.c (.d _)⟩,trivial⟩ ⟨⟨trivial,trivial,trivial⟩,trivial,trivial⟩ trivial rfl rfl rfl rfl) rfl⟩) rfl ?_
  refine bQ (n':=17) (kn:=[]) aa 6 rfl trivial ?_
  refine dL [0,1,4,5,6,7,8] [16,0,7,8,9,10,11,12,13,14,15,6,5] rfl rfl (by kernel_rfl) ?_
  refine then_ok ?_
  refine af ?_
  refine aE aa 2 rfl ?_
  obtain ⟨e21,hr1⟩:∃ (e21:Int),dw 0 e0=e21:=⟨_,rfl⟩
  refine aM 17 [7,16,0,8,9,10,11,12,13,14,15,6,5] (cf (aX [7]) (aX [7]) (ms:=(dq.set 19 (some (cI 0)))) (ms':=(dq.set 19 (some (cI e21)))) (fun x hx=>jA x hx 0 e0 e21 hr1) nm rfl rfl ⟨⟨_,rfl,.inl ⟨rfl,rfl⟩⟩,⟨_,rfl,.inr (.c (.d _))⟩,trivial⟩ rfl rfl rfl rfl rfl rfl rfl trivial rfl rfl rfl rfl rfl rfl rfl rfl rfl rfl rfl rfl rfl) rfl ?_
  refine ab aa 1 rfl ?_
  refine ae ?_
  refine ag rfl (fun hc4=>?_) (fun hc4=>?_)
  ·
   have hc4':=hc4;try simp only [bl,bJ] at hc4'
   refine bc [0,1,4,5,6,7] [7,16,0,8,9,10,11,12,13,14,15,6,5] mixed rfl rfl ?_
   refine aA (kn:=[]) aa 9 rfl trivial ?_
   refine aT (n':=17) [112,108] [7] rfl rfl (.inl ⟨(ah.plain rfl),aJ.cast (dj (i:=0) rfl rfl rfl Try.underlying35 lV rfl (by decide)) rfl⟩) rfl ?_
   refine bC [7,16,0,8,9,10,11,12,13,14,15,6,5] rfl rfl rfl rfl (by kernel_rfl) ?_
   refine ab aa 1 rfl ?_
   refine ae ?_
   rcases (show e21=0\/¬e21=0 from by omega) with hs5|hs5
   ·
    refine aE aa 2 rfl ?_
    refine aM 21 [0,17,18,19,20,16,6,5] (cE (aX [0,7,8,9,10,11,12,13,14,15]) (aX [0,17,18,19,20]) (fb (x 17) (x 19) b (⟨b.time,b.down,b.ao,b.due,b.aq,xr0,b.s1,b.n0,b.n1,(b.w0).drop 1,b.w1,b.bF,b.aS,b.book⟩:Bk) e21 (by first|assumption|omega)) fx rfl rfl ⟨⟨_,rfl,.inl ⟨rfl,rfl⟩⟩,⟨_,rfl,.inl ⟨rfl,rfl⟩⟩,trivial⟩ ⟨rfl,rfl,rfl,rfl,rfl,rfl,rfl,rfl,rfl,rfl,trivial⟩ rfl rfl rfl rfl rfl rfl trivial ⟨⟨trivial,trivial,trivial,trivial,trivial,trivial,trivial,trivial,trivial,trivial,trivial,trivial,trivial,trivial,trivial,trivial,trivial,trivial,trivial,trivial,trivial⟩,(fun _ _ _ _=>trivial),(fun _ _ _ _=>trivial),(fun _ _ _ _=>trivial),(fun _ _ _ _=>trivial),trivial⟩ rfl rfl rfl rfl) rfl ?_
    refine ab aa 2 rfl ?_
    refine ae ?_
    refine ax ?_
    refine an ?_
    have hX:cr b (⟨idn,kind,0,az,move,sum⟩:aV)=((⟨b.time,b.down,b.ao,b.due,b.aq,xr0,b.s1,b.n0,b.n1,(b.w0).drop 1,b.w1,b.bF,b.aS,b.book⟩:Bk),(⟨e21,0⟩:Answer)):=by
      unfold cr;dsimp only;rw [if_pos rfl];unfold fJ;rw [hx1];dsimp only;unfold dw at hr1;simp only [if_true] at hr1;(try simp only [hr0]);(try unfold dt);(repeat' split)<;>first|rfl|omega|(exfalso;omega)|(simp_all;done)|(simp_all;omega)
    rw [hX] at hr;clear hX
    simp only [Prod.mk.injEq] at hr;obtain ⟨rfl,rfl⟩:=hr
    refine al aa [0,17,18,19,20,5] 5 rfl rfl rfl rfl rfl rfl ?_ ?_
    all_goals first|rfl|(simp [ar,aU,bb];done)|(simp [ar,aU,bb];omega)
   refine aE aa 2 rfl ?_
   refine aM 21 [0,17,18,19,20,16,6,5] (cE (aX [0,7,8,9,10,11,12,13,14,15]) (aX [0,17,18,19,20]) (fN (x 17) (x 19) b (⟨b.time,b.down,b.ao,b.due,b.aq,xr0,b.s1,b.n0,b.n1,(b.w0).drop 1,b.w1,b.bF,b.aS,b.book⟩:Bk) e21 (by first|assumption|omega)) fx rfl rfl ⟨⟨_,rfl,.inl ⟨rfl,rfl⟩⟩,⟨_,rfl,.inl ⟨rfl,rfl⟩⟩,trivial⟩ ⟨rfl,rfl,rfl,rfl,rfl,rfl,rfl,rfl,rfl,rfl,trivial⟩ rfl rfl rfl rfl rfl rfl trivial ⟨⟨trivial,trivial,trivial,trivial,trivial,trivial,trivial,trivial,trivial,trivial,trivial,trivial,trivial,trivial,trivial,trivial,trivial,trivial,trivial,trivial,trivial⟩,(fun _ _ _ _=>trivial),(fun _ _ _ _=>trivial),(fun _ _ _ _=>trivial),(fun _ _ _ _=>trivial),trivial⟩ rfl rfl rfl rfl) rfl ?_
   refine ab aa 2 rfl ?_
   refine ae ?_
   refine ax ?_
   refine an ?_
   have hX:cr b (⟨idn,kind,0,az,move,sum⟩:aV)=(b,(⟨e21,0⟩:Answer)):=by
     unfold cr;dsimp only;rw [if_pos rfl];unfold fJ;rw [hx1];dsimp only;unfold dw at hr1;simp only [if_true] at hr1;(try simp only [hr0]);(try unfold dt);(repeat' split)<;>first|rfl|omega|(exfalso;omega)|(simp_all;done)|(simp_all;omega)
   rw [hX] at hr;clear hX
   simp only [Prod.mk.injEq] at hr;obtain ⟨rfl,rfl⟩:=hr
   refine al aa [0,17,18,19,20,5] 5 rfl rfl rfl rfl rfl rfl ?_ ?_
   all_goals first|rfl|(simp [ar,aU,bb];done)|(simp [ar,aU,bb];omega)
  have hc4':=hc4;try simp only [bl,bJ] at hc4'
  refine aP ?_
  rcases (show e21=0\/¬e21=0 from by omega) with hs6|hs6
  ·
   refine aE aa 2 rfl ?_
   refine aM 21 [0,17,18,19,20,16,6,5] (cE (aX [0,7,8,9,10,11,12,13,14,15]) (aX [0,17,18,19,20]) (fb (x 17) (x 19) b (⟨b.time,b.down,b.ao,b.due,b.aq,b.s0,b.s1,b.n0,b.n1,(b.w0).drop 1,b.w1,b.bF,b.aS,b.book⟩:Bk) e21 (by first|assumption|omega)) fx rfl rfl ⟨⟨_,rfl,.inl ⟨rfl,rfl⟩⟩,⟨_,rfl,.inl ⟨rfl,rfl⟩⟩,trivial⟩ ⟨rfl,rfl,rfl,rfl,rfl,rfl,rfl,rfl,rfl,rfl,trivial⟩ rfl rfl rfl rfl rfl rfl trivial ⟨⟨trivial,trivial,trivial,trivial,trivial,trivial,trivial,trivial,trivial,trivial,trivial,trivial,trivial,trivial,trivial,trivial,trivial,trivial,trivial,trivial,trivial⟩,(fun _ _ _ _=>trivial),(fun _ _ _ _=>trivial),(fun _ _ _ _=>trivial),(fun _ _ _ _=>trivial),trivial⟩ rfl rfl rfl rfl) rfl ?_
   refine ab aa 2 rfl ?_
   refine ae ?_
   refine ax ?_
   refine an ?_
   have hX:cr b (⟨idn,kind,0,az,move,sum⟩:aV)=((⟨b.time,b.down,b.ao,b.due,b.aq,b.s0,b.s1,b.n0,b.n1,(b.w0).drop 1,b.w1,b.bF,b.aS,b.book⟩:Bk),(⟨e21,0⟩:Answer)):=by
     unfold cr;dsimp only;rw [if_pos rfl];unfold fJ;rw [hx1];dsimp only;unfold dw at hr1;simp only [if_true] at hr1;(try simp only [hr0]);(try unfold dt);(repeat' split)<;>first|rfl|omega|(exfalso;omega)|(simp_all;done)|(simp_all;omega)
   rw [hX] at hr;clear hX
   simp only [Prod.mk.injEq] at hr;obtain ⟨rfl,rfl⟩:=hr
   refine al aa [0,17,18,19,20,5] 5 rfl rfl rfl rfl rfl rfl ?_ ?_
   all_goals first|rfl|(simp [ar,aU,bb];done)|(simp [ar,aU,bb];omega)
  refine aE aa 2 rfl ?_
  refine aM 21 [0,17,18,19,20,16,6,5] (cE (aX [0,7,8,9,10,11,12,13,14,15]) (aX [0,17,18,19,20]) (fN (x 17) (x 19) b (⟨b.time,b.down,b.ao,b.due,b.aq,b.s0,b.s1,b.n0,b.n1,(b.w0).drop 1,b.w1,b.bF,b.aS,b.book⟩:Bk) e21 (by first|assumption|omega)) fx rfl rfl ⟨⟨_,rfl,.inl ⟨rfl,rfl⟩⟩,⟨_,rfl,.inl ⟨rfl,rfl⟩⟩,trivial⟩ ⟨rfl,rfl,rfl,rfl,rfl,rfl,rfl,rfl,rfl,rfl,trivial⟩ rfl rfl rfl rfl rfl rfl trivial ⟨⟨trivial,trivial,trivial,trivial,trivial,trivial,trivial,trivial,trivial,trivial,trivial,trivial,trivial,trivial,trivial,trivial,trivial,trivial,trivial,trivial,trivial⟩,(fun _ _ _ _=>trivial),(fun _ _ _ _=>trivial),(fun _ _ _ _=>trivial),(fun _ _ _ _=>trivial),trivial⟩ rfl rfl rfl rfl) rfl ?_
  refine ab aa 2 rfl ?_
  refine ae ?_
  refine ax ?_
  refine an ?_
  have hX:cr b (⟨idn,kind,0,az,move,sum⟩:aV)=(b,(⟨e21,0⟩:Answer)):=by
    unfold cr;dsimp only;rw [if_pos rfl];unfold fJ;rw [hx1];dsimp only;unfold dw at hr1;simp only [if_true] at hr1;(try simp only [hr0]);(try unfold dt);(repeat' split)<;>first|rfl|omega|(exfalso;omega)|(simp_all;done)|(simp_all;omega)
  rw [hX] at hr;clear hX
  simp only [Prod.mk.injEq] at hr;obtain ⟨rfl,rfl⟩:=hr
  refine al aa [0,17,18,19,20,5] 5 rfl rfl rfl rfl rfl rfl ?_ ?_
  all_goals first|rfl|(simp [ar,aU,bb];done)|(simp [ar,aU,bb];omega)
 have hc3':=of_decide_eq_false hc3
 refine aP ?_
 refine af ?_
 obtain ⟨n2,ok2,hr2⟩:∃ (n2:Int) (ok2:Bool),gV b.n0 x1.cu=(n2,ok2):=⟨_,_,rfl⟩
 refine bc [0,1,4,5,6] [0,7,8,9,10,11,12,13,14,15,6,5] mixed rfl rfl ?_
 refine aA (kn:=[]) aa 8 rfl trivial ?_
 refine aT (n':=16) [126,123] [7] rfl rfl (.inl ⟨(ah.plain rfl),aJ.cast (dj (i:=0) rfl rfl rfl Try.underlying36 fX rfl (by decide)) rfl⟩) rfl ?_
 refine aA (kn:=[]) aa 3 rfl trivial ?_
 refine aT (n':=16) [128,130] [] rfl rfl (.inl ⟨(ah.plain rfl),aJ.cast (bP 16 (pB b.n0 x1.cu n2 ok2 hr2) DD rfl rfl ⟨⟨_,rfl,.c (.d _)⟩,⟨_,rfl,.g ⟨.d _,.d _,.d _,.d _,trivial⟩⟩,trivial⟩ ⟨trivial,trivial,trivial⟩ trivial rfl rfl rfl rfl) rfl⟩) rfl ?_
 refine aA (kn:=[]) aa 5 rfl trivial ?_
 refine bC [0,7,8,9,10,11,12,13,14,15,6,5] rfl rfl rfl rfl (by kernel_rfl) ?_
 refine ae ?_
 refine af ?_
 refine bc [0,1,4,5,6,9,10] [0,7,8,9,10,11,12,13,14,15,6,5] mixed rfl rfl ?_
 refine aA (kn:=[]) aa 9 rfl trivial ?_
 refine aT (n':=16) [142,138] [7] rfl rfl (.inl ⟨(ah.plain rfl),aJ.cast (dj (i:=0) rfl rfl rfl Try.underlying36 fX rfl (by decide)) rfl⟩) rfl ?_
 refine bC [0,7,8,9,10,11,12,13,14,15,6,5] rfl rfl rfl rfl (by kernel_rfl) ?_
 refine ab aa 1 rfl ?_
 refine ae ?_
 refine af ?_
 refine ad aa 1 rfl ?_
 refine ag rfl (fun hc7=>?_) (fun hc7=>?_)
 ·
  have hc7':=hc7;try simp only [bl,bJ] at hc7'
  have hpk2:=hpk (by omega)
  refine aw ?_
  refine ab aa 3 rfl ?_
  obtain ⟨due23,cards23,book23,e23,hr3⟩:∃ (due23:List Int) (cards23:List bD) (book23:List Entry) (e23:Int),ez b.aq b.due b.ao b.book 0 x1.cu=(due23,cards23,book23,e23):=⟨_,_,_,_,rfl⟩
  refine aM 19 [7,16,17,18,0,8,9,10,11,15,6,5] (cf (aX [7,12,13,14]) (aX [7,16,17,18]) (ms:=(((((dq.set 2 (some (.s 1 0 6 b.ao.length))).set 3 (some (.s 2 0 1 b.due.length))).set 4 (some (.s 3 0 8 b.aq.length))).set 18 (some (dP b.book))).set 19 (some (cI 0)))) (ms':=(((((dq.set 2 (some (.s 1 0 6 cards23.length))).set 3 (some (.s 2 0 1 due23.length))).set 4 (some (.s 3 0 8 b.aq.length))).set 18 (some (dP book23))).set 19 (some (cI e23)))) (fun x hx=>zu x hx b.aq b.due b.ao b.book 0 x1.cu (by first|omega|(simp;done)|(simp;omega)) (by assumption) (by first|omega|(simp;done)|(simp;omega)) (by first|omega|(simp;done)|(simp;omega)) due23 cards23 book23 e23 hr3) DC rfl rfl ⟨⟨_,rfl,.inl ⟨rfl,rfl⟩⟩,⟨_,rfl,.inr (.g ⟨.d _,.d _,.d _,.d _,trivial⟩)⟩,trivial⟩ rfl rfl rfl rfl rfl rfl rfl ⟨rfl,rfl,rfl,trivial⟩ rfl rfl rfl rfl rfl rfl rfl rfl rfl rfl rfl rfl rfl) rfl ?_
  refine ae ?_
  rcases (show e23=0\/¬e23=0 from by omega) with hs8|hs8
  ·
   refine aE aa 2 rfl ?_
   refine aM 23 [0,19,20,21,22,6,5] (cE (aX [0,7,8,9,10,11,16,17,18,15]) (aX [0,19,20,21,22]) (fb (x 17) (x 19) b (⟨b.time,b.down,cards23,due23,b.aq,b.s0,b.s1,n2,b.n1,(b.w0).drop 1,b.w1,b.bF,b.aS,book23⟩:Bk) e23 (by first|assumption|omega)) fx rfl rfl ⟨⟨_,rfl,.inl ⟨rfl,rfl⟩⟩,⟨_,rfl,.inl ⟨rfl,rfl⟩⟩,trivial⟩ ⟨rfl,rfl,rfl,rfl,rfl,rfl,rfl,rfl,rfl,rfl,trivial⟩ rfl rfl rfl rfl rfl rfl trivial ⟨⟨trivial,trivial,trivial,trivial,trivial,trivial,trivial,trivial,trivial,trivial,trivial,trivial,trivial,trivial,trivial,trivial,trivial,trivial,trivial,trivial,trivial⟩,(fun _ _ _ _=>trivial),(fun _ _ _ _=>trivial),(fun _ _ _ _=>trivial),(fun _ _ _ _=>trivial),trivial⟩ rfl rfl rfl rfl) rfl ?_
   refine ab aa 2 rfl ?_
   refine ae ?_
   refine ax ?_
   have hX:cr b (⟨idn,kind,0,az,move,sum⟩:aV)=((⟨b.time,b.down,cards23,due23,b.aq,b.s0,b.s1,n2,b.n1,(b.w0).drop 1,b.w1,b.bF,b.aS,book23⟩:Bk),(⟨e23,0⟩:Answer)):=by
     unfold cr;dsimp only;rw [if_pos rfl];unfold fJ;rw [hx1];dsimp only;(try simp only [hr2,hr3]);(try unfold dt);(repeat' split)<;>first|rfl|omega|(exfalso;omega)|(simp_all;done)|(simp_all;omega)
   rw [hX] at hr;clear hX
   simp only [Prod.mk.injEq] at hr;obtain ⟨rfl,rfl⟩:=hr
   refine al aa [0,19,20,21,22,5] 5 rfl rfl rfl rfl rfl rfl ?_ ?_
   all_goals first|rfl|(simp [ar,aU,bb];done)|(simp [ar,aU,bb];omega)
  refine aE aa 2 rfl ?_
  refine aM 23 [0,19,20,21,22,6,5] (cE (aX [0,7,8,9,10,11,16,17,18,15]) (aX [0,19,20,21,22]) (fN (x 17) (x 19) b (⟨b.time,b.down,cards23,due23,b.aq,b.s0,b.s1,n2,b.n1,(b.w0).drop 1,b.w1,b.bF,b.aS,book23⟩:Bk) e23 (by first|assumption|omega)) fx rfl rfl ⟨⟨_,rfl,.inl ⟨rfl,rfl⟩⟩,⟨_,rfl,.inl ⟨rfl,rfl⟩⟩,trivial⟩ ⟨rfl,rfl,rfl,rfl,rfl,rfl,rfl,rfl,rfl,rfl,trivial⟩ rfl rfl rfl rfl rfl rfl trivial ⟨⟨trivial,trivial,trivial,trivial,trivial,trivial,trivial,trivial,trivial,trivial,trivial,trivial,trivial,trivial,trivial,trivial,trivial,trivial,trivial,trivial,trivial⟩,(fun _ _ _ _=>trivial),(fun _ _ _ _=>trivial),(fun _ _ _ _=>trivial),(fun _ _ _ _=>trivial),trivial⟩ rfl rfl rfl rfl) rfl ?_
  refine ab aa 2 rfl ?_
  refine ae ?_
  refine ax ?_
  have hX:cr b (⟨idn,kind,0,az,move,sum⟩:aV)=(b,(⟨e23,0⟩:Answer)):=by
    unfold cr;dsimp only;rw [if_pos rfl];unfold fJ;rw [hx1];dsimp only;(try simp only [hr2,hr3]);(try unfold dt);(repeat' split)<;>first|rfl|omega|(exfalso;omega)|(simp_all;done)|(simp_all;omega)
  rw [hX] at hr;clear hX
  simp only [Prod.mk.injEq] at hr;obtain ⟨rfl,rfl⟩:=hr
  refine al aa [0,19,20,21,22,5] 5 rfl rfl rfl rfl rfl rfl ?_ ?_
  all_goals first|rfl|(simp [ar,aU,bb];done)|(simp [ar,aU,bb];omega)
 have hc7':=hc7;try simp only [bl,bJ] at hc7'
 refine aP ?_
 refine aE aa 2 rfl ?_
 refine aM 20 [0,16,17,18,19,6,5] (cE (aX [0,7,8,9,10,11,12,13,14,15]) (aX [0,16,17,18,19]) (fb (x 17) (x 19) b (⟨b.time,b.down,b.ao,b.due,b.aq,b.s0,b.s1,n2,b.n1,(b.w0).drop 1,b.w1,b.bF,b.aS,b.book⟩:Bk) 0 (by first|assumption|omega)) fx rfl rfl ⟨⟨_,rfl,.inl ⟨rfl,rfl⟩⟩,⟨_,rfl,.inl ⟨rfl,rfl⟩⟩,trivial⟩ ⟨rfl,rfl,rfl,rfl,rfl,rfl,rfl,rfl,rfl,rfl,trivial⟩ rfl rfl rfl rfl rfl rfl trivial ⟨⟨trivial,trivial,trivial,trivial,trivial,trivial,trivial,trivial,trivial,trivial,trivial,trivial,trivial,trivial,trivial,trivial,trivial,trivial,trivial,trivial,trivial⟩,(fun _ _ _ _=>trivial),(fun _ _ _ _=>trivial),(fun _ _ _ _=>trivial),(fun _ _ _ _=>trivial),trivial⟩ rfl rfl rfl rfl) rfl ?_
 refine ab aa 2 rfl ?_
 refine ae ?_
 refine ax ?_
 have hX:cr b (⟨idn,kind,0,az,move,sum⟩:aV)=((⟨b.time,b.down,b.ao,b.due,b.aq,b.s0,b.s1,n2,b.n1,(b.w0).drop 1,b.w1,b.bF,b.aS,b.book⟩:Bk),(⟨0,0⟩:Answer)):=by
   unfold cr;dsimp only;rw [if_pos rfl];unfold fJ;rw [hx1];dsimp only;(try simp only [hr2]);(try unfold dt);(repeat' split)<;>first|rfl|omega|(exfalso;omega)|(simp_all;done)|(simp_all;omega)
 rw [hX] at hr;clear hX
 simp only [Prod.mk.injEq] at hr;obtain ⟨rfl,rfl⟩:=hr
 refine al aa [0,16,17,18,19,5] 5 rfl rfl rfl rfl rfl rfl ?_ ?_
 all_goals first|rfl|(simp [ar,aU,bb];done)|(simp [ar,aU,bb];omega)
theorem zD (x:Nat->Value) (hx:∀ i,(x i).oneCell'=true) (b:Bk) (idn kind az move sum:Int) (ok:cj b) (b2:Bk) (a2:Answer) (hr:cr b (⟨idn,kind,1,az,move,sum⟩:aV)=(b2,a2)):cA Try.prog 67 [(.c (.p 0 0 0 0)),(.c (.q (cP (⟨idn,kind,1,az,move,sum⟩:aV)) 0))] [(0,(.box 98 (aU b 1 2 3 4 (.d (.v (x 17))) (.d (.v (x 19)))))),(1,(dK b.ao)),(2,(dC b.due)),(3,(dS b.aq)),(4,(cK b.aS))] [0] (.v (.g [cI a2.err,cI a2.ba])) [(0,(.box 98 (aU b2 1 2 3 4 (.d (.v (x 17))) (.d (.v (x 19)))))),(1,(dK b2.ao)),(2,(dC b2.due)),(3,(dS b2.aq)),(4,(cK b2.aS))]:=by
 refine cA.mk 153 [(0,(aC (.p 0 0 0 0))),(1,(aC (.q (cP (⟨idn,kind,1,az,move,sum⟩:aV)) 0)))] 5 Try.func67 rfl rfl rfl rfl rfl rfl rfl rfl rfl ?_
 intro W0 F0 T0 pg
 obtain ⟨okt,okc,okd,oka,oky,okw0,okw1,okp,okv,okk0,okk1,okg,okl0,okl1,okp0,okp1,okn0,okn1,okq⟩:=id ok
 refine ad aa 1 rfl ?_
 refine af ?_
 refine af ?_
 refine bc [0,1,4] [5,0,1,2,3,4] mixed rfl rfl ?_
 refine aA (kn:=[(15,true),(21,false)]) aa 21 rfl ⟨rfl,rfl,trivial⟩ ?_
 refine aT (n':=6) [31,28,23] [0] rfl rfl (.inl ⟨(ah.yes rfl rfl rfl),aJ.cast (dj (i:=1) rfl rfl rfl Try.underlying38 ku rfl (by decide)) rfl⟩) rfl ?_
 refine aA (kn:=[]) aa 1 rfl trivial ?_
 refine aT (n':=6) [33,23] [] rfl rfl (.inl ⟨(ah.yes rfl rfl rfl),aJ.cast (cY rfl rfl rfl rfl rfl Try.underlying37) rfl⟩) rfl ?_
 refine aA (kn:=[]) aa 2 rfl trivial ?_
 refine bC [5,0,1,2,3,4] rfl rfl rfl rfl (by kernel_rfl) ?_
 refine ae ?_
 refine ag rfl (fun hc1=>?_) (fun hc1=>?_)
 ·
  have hc1':=of_decide_eq_true hc1
  refine ad aa 2 rfl ?_
  refine ax ?_
  refine an ?_
  have hX:cr b (⟨idn,kind,1,az,move,sum⟩:aV)=(b,(⟨6,0⟩:Answer)):=by
    unfold cr;dsimp only;rw [if_neg (by decide),if_pos rfl];unfold fI;rw [List.getElem?_eq_none (by omega)]
  rw [hX] at hr;clear hX
  simp only [Prod.mk.injEq] at hr;obtain ⟨rfl,rfl⟩:=hr
  refine al aa [0,1,2,3,4,5] 5 rfl rfl rfl rfl rfl rfl ?_ ?_
  all_goals first|rfl|(simp [ar,aU,bb];done)|(simp [ar,aU,bb];omega)
 have hc1':=of_decide_eq_false hc1
 refine aP ?_
 refine af ?_
 obtain ⟨x1,hx1⟩:=cq (xs:=b.w1) (i:=0) (by first|omega|(simp;done)|(simp;omega))
 refine bc [0,1,4] [5,0,1,2,3,4] mixed rfl rfl ?_
 refine aA (kn:=[]) aa 8 rfl trivial ?_
 refine aT (n':=6) [45,42] [0] rfl rfl (.inl ⟨(ah.plain rfl),aJ.cast (dj (i:=1) rfl rfl rfl Try.underlying38 ku rfl (by decide)) rfl⟩) rfl ?_
 refine aA (kn:=[]) aa 1 rfl trivial ?_
 refine aT (n':=6) [47] [] rfl rfl (.inl ⟨(ah.plain rfl),aJ.cast (cS (i:=0) rfl rfl rfl Try.underlying37 tL (by first|omega|(simp;done)|(simp;omega)) (bu hx1)) rfl⟩) rfl ?_
 refine aA (n':=7) (kn:=[]) aa 2 rfl trivial ?_
 refine bC [6,5,0,1,2,3,4] rfl rfl rfl rfl (by kernel_rfl) ?_
 refine ab aa 1 rfl ?_
 refine ae ?_
 have hpk:=okp1 x1 (List.mem_of_getElem? hx1)
 have hI0:∀ t∈b.s0.kept,fz t.number:=fun t ht=>(okk0 t ht).1
 have hI1:∀ t∈b.s1.kept,fz t.number:=fun t ht=>(okk1 t ht).1
 have hA:∀ a∈b.aq,0<=a.aL/\a.aL < b.ao.length/\0<=a.az/\a.az < b.due.length:=fun a ha=>(okp a ha).2
 refine aE aa 1 rfl ?_
 refine aM 16 [0,7,8,9,10,11,12,13,14,15,6,5] (cE id (aX [0,7,8,9,10,11,12,13,14,15]) (jS (x 17) (x 19) b (by first|omega|(simp;done)|(simp;omega)) (by first|omega|(simp;done)|(simp;omega)) (by first|omega|(simp;done)|(simp;omega)) (by first|omega|(simp;done)|(simp;omega))) qi rfl rfl ⟨⟨_,rfl,.inl ⟨rfl,rfl⟩⟩,trivial⟩ ⟨rfl,rfl,rfl,rfl,rfl,trivial⟩ rfl rfl rfl rfl rfl rfl trivial ⟨⟨trivial,trivial,trivial,trivial,trivial,trivial,trivial,trivial,trivial,trivial,trivial,trivial,trivial,trivial,trivial,trivial,trivial,trivial,trivial,trivial,trivial⟩,⟨trivial,trivial,trivial,trivial,trivial,trivial,trivial,trivial,trivial,trivial,trivial,trivial,trivial,trivial,trivial,trivial,trivial,trivial,trivial,trivial,trivial⟩,(fun _ _ _ _=>trivial),(fun _ _ _ _=>trivial),(fun _ _ _ _=>trivial),(fun _ _ _ _=>trivial),(fun _ _ _ _=>trivial),(fun _ _ _ _=>trivial),(fun _ _ _ _=>trivial),(fun _ _ _ _=>trivial),trivial⟩ rfl rfl rfl rfl) rfl ?_
 refine ab aa 1 rfl ?_
 refine ae ?_
 refine af ?_
 refine bc [0,1,4,5,6] [0,7,8,9,10,11,12,13,14,15,6,5] mixed rfl rfl ?_
 refine aA (kn:=[]) aa 13 rfl trivial ?_
 refine aT (n':=16) [64,61] [0] rfl rfl (.inl ⟨(ah.plain rfl),aJ.cast (dj (i:=1) rfl rfl rfl Try.underlying38 ku rfl (by decide)) rfl⟩) rfl ?_
 refine aA (kn:=[]) aa 1 rfl trivial ?_
 refine aT (n':=16) [66] [] rfl rfl (.inl ⟨(ah.plain rfl),aJ.cast (uU (l:=1) (h:=b.w1.length) (ys:=((b.w1).drop 1).map fc) rfl Try.underlying37 tL rfl (.inr ⟨_,rfl,rfl⟩) (.inl ⟨rfl,by simp⟩) (by first|omega|(simp;done)|(simp;omega)) (by first|omega|(simp;done)|(simp;omega)) (by first|(simp;done)|(rw [List.map_drop];exact List.take_of_length_le (by simp)))) rfl⟩) rfl ?_
 refine aA (kn:=[]) aa 3 rfl trivial ?_
 refine aT (n':=16) [70,56] [7] rfl rfl (.inl ⟨(ah.plain rfl),aJ.cast (dj (i:=1) rfl rfl rfl Try.underlying38 ku rfl (by decide)) rfl⟩) rfl ?_
 refine bC [0,7,8,9,10,11,12,13,14,15,6,5] rfl rfl rfl rfl (by kernel_rfl) ?_
 refine ab aa 1 rfl ?_
 refine ae ?_
 refine af ?_
 refine ad aa 5 rfl ?_
 refine ag rfl (fun hc2=>?_) (fun hc2=>?_)
 ·
  have hc2':=of_decide_eq_true hc2
  refine aE aa 2 rfl ?_
  refine aM 20 [0,16,17,18,19,6,5] (cE (aX [0,7,8,9,10,11,12,13,14,15]) (aX [0,16,17,18,19]) (fb (x 17) (x 19) b (⟨b.time,b.down,b.ao,b.due,b.aq,b.s0,b.s1,b.n0,b.n1,b.w0,(b.w1).drop 1,b.bF,b.aS,b.book⟩:Bk) 0 (by first|assumption|omega)) fx rfl rfl ⟨⟨_,rfl,.inl ⟨rfl,rfl⟩⟩,⟨_,rfl,.inl ⟨rfl,rfl⟩⟩,trivial⟩ ⟨rfl,rfl,rfl,rfl,rfl,rfl,rfl,rfl,rfl,rfl,trivial⟩ rfl rfl rfl rfl rfl rfl trivial ⟨⟨trivial,trivial,trivial,trivial,trivial,trivial,trivial,trivial,trivial,trivial,trivial,trivial,trivial,trivial,trivial,trivial,trivial,trivial,trivial,trivial,trivial⟩,(fun _ _ _ _=>trivial),(fun _ _ _ _=>trivial),(fun _ _ _ _=>trivial),(fun _ _ _ _=>trivial),trivial⟩ rfl rfl rfl rfl) rfl ?_
  refine ab aa 2 rfl ?_
  refine ae ?_
  refine ax ?_
  refine an ?_
  have hX:cr b (⟨idn,kind,1,az,move,sum⟩:aV)=((⟨b.time,b.down,b.ao,b.due,b.aq,b.s0,b.s1,b.n0,b.n1,b.w0,(b.w1).drop 1,b.bF,b.aS,b.book⟩:Bk),(⟨0,0⟩:Answer)):=by
    unfold cr;dsimp only;rw [if_neg (by decide),if_pos rfl];unfold fI;rw [hx1];dsimp only;(try simp only [dt]);(try unfold dt);(repeat' split)<;>first|rfl|omega|(exfalso;omega)|(simp_all;done)|(simp_all;omega)
  rw [hX] at hr;clear hX
  simp only [Prod.mk.injEq] at hr;obtain ⟨rfl,rfl⟩:=hr
  refine al aa [0,16,17,18,19,5] 5 rfl rfl rfl rfl rfl rfl ?_ ?_
  all_goals first|rfl|(simp [ar,aU,bb];done)|(simp [ar,aU,bb];omega)
 have hc2':=of_decide_eq_false hc2
 refine aP ?_
 refine af ?_
 refine ad aa 3 rfl ?_
 refine ag rfl (fun hc3=>?_) (fun hc3=>?_)
 ·
  have hc3':=of_decide_eq_true hc3
  refine af ?_
  obtain ⟨xr0,e0,hr0⟩:∃ (xr0:bV) (e0:Int),dW b.s1 x1.seen=(xr0,e0):=⟨_,_,rfl⟩
  refine cZ [0,1,4,5,6] [0,7,8,9,10,11,12,13,14,15,6,5] mixed rfl rfl ?_
  refine bQ (kn:=[]) aa 8 rfl trivial ?_
  refine bU (n':=16) [92,89] [7] rfl rfl (.inl ⟨(ah.plain rfl),aJ.cast (dj (i:=1) rfl rfl rfl Try.underlying35 lV rfl (by decide)) rfl⟩) rfl ?_
  refine bQ (kn:=[]) aa 3 rfl trivial ?_
  refine bU (n':=16) [94,96] [] rfl rfl (.inl ⟨(ah.plain rfl),aJ.cast (bP 16 (Fn.frozen (av':=(.t [(.g [(cI xr0.bW),(de xr0.kept)]),(.c (cI e0))])) (pC b.s1 x1.seen (by first|assumption|exact jO (by assumption) (by omega)|exact ja (by assumption) (by assumption)|(simp [fz];done)) xr0 e0 hr0) ⟨⟨.inl ⟨_,rfl,rfl⟩,.inr ⟨_,_,_,_,_,rfl,rfl,rfl,by simp⟩,trivial⟩,.inl ⟨_,rfl,rfl⟩,trivial⟩) DE rfl rfl ⟨⟨_,rfl,.g ⟨.d _,.d _,trivial⟩⟩,⟨_,rfl,.c (.d _)⟩,trivial⟩ ⟨⟨trivial,trivial,trivial⟩,trivial,trivial⟩ trivial rfl rfl rfl rfl) rfl⟩) rfl ?_
  refine bQ (n':=17) (kn:=[]) aa 6 rfl trivial ?_
  refine dL [0,1,4,5,6,7,8] [16,0,7,8,9,10,11,12,13,14,15,6,5] rfl rfl (by kernel_rfl) ?_
  refine then_ok ?_
  refine af ?_
  refine aE aa 2 rfl ?_
  obtain ⟨e21,hr1⟩:∃ (e21:Int),dw 0 e0=e21:=⟨_,rfl⟩
  refine aM 17 [7,16,0,8,9,10,11,12,13,14,15,6,5] (cf (aX [7]) (aX [7]) (ms:=(dq.set 19 (some (cI 0)))) (ms':=(dq.set 19 (some (cI e21)))) (fun x hx=>jA x hx 0 e0 e21 hr1) nm rfl rfl ⟨⟨_,rfl,.inl ⟨rfl,rfl⟩⟩,⟨_,rfl,.inr (.c (.d _))⟩,trivial⟩ rfl rfl rfl rfl rfl rfl rfl trivial rfl rfl rfl rfl rfl rfl rfl rfl rfl rfl rfl rfl rfl) rfl ?_
  refine ab aa 1 rfl ?_
  refine ae ?_
  refine ag rfl (fun hc4=>?_) (fun hc4=>?_)
  ·
   have hc4':=hc4;try simp only [bl,bJ] at hc4'
   refine bc [0,1,4,5,6,7] [7,16,0,8,9,10,11,12,13,14,15,6,5] mixed rfl rfl ?_
   refine aA (kn:=[]) aa 9 rfl trivial ?_
   refine aT (n':=17) [112,108] [7] rfl rfl (.inl ⟨(ah.plain rfl),aJ.cast (dj (i:=1) rfl rfl rfl Try.underlying35 lV rfl (by decide)) rfl⟩) rfl ?_
   refine bC [7,16,0,8,9,10,11,12,13,14,15,6,5] rfl rfl rfl rfl (by kernel_rfl) ?_
   refine ab aa 1 rfl ?_
   refine ae ?_
   rcases (show e21=0\/¬e21=0 from by omega) with hs5|hs5
   ·
    refine aE aa 2 rfl ?_
    refine aM 21 [0,17,18,19,20,16,6,5] (cE (aX [0,7,8,9,10,11,12,13,14,15]) (aX [0,17,18,19,20]) (fb (x 17) (x 19) b (⟨b.time,b.down,b.ao,b.due,b.aq,b.s0,xr0,b.n0,b.n1,b.w0,(b.w1).drop 1,b.bF,b.aS,b.book⟩:Bk) e21 (by first|assumption|omega)) fx rfl rfl ⟨⟨_,rfl,.inl ⟨rfl,rfl⟩⟩,⟨_,rfl,.inl ⟨rfl,rfl⟩⟩,trivial⟩ ⟨rfl,rfl,rfl,rfl,rfl,rfl,rfl,rfl,rfl,rfl,trivial⟩ rfl rfl rfl rfl rfl rfl trivial ⟨⟨trivial,trivial,trivial,trivial,trivial,trivial,trivial,trivial,trivial,trivial,trivial,trivial,trivial,trivial,trivial,trivial,trivial,trivial,trivial,trivial,trivial⟩,(fun _ _ _ _=>trivial),(fun _ _ _ _=>trivial),(fun _ _ _ _=>trivial),(fun _ _ _ _=>trivial),trivial⟩ rfl rfl rfl rfl) rfl ?_
    refine ab aa 2 rfl ?_
    refine ae ?_
    refine ax ?_
    refine an ?_
    have hX:cr b (⟨idn,kind,1,az,move,sum⟩:aV)=((⟨b.time,b.down,b.ao,b.due,b.aq,b.s0,xr0,b.n0,b.n1,b.w0,(b.w1).drop 1,b.bF,b.aS,b.book⟩:Bk),(⟨e21,0⟩:Answer)):=by
      unfold cr;dsimp only;rw [if_neg (by decide),if_pos rfl];unfold fI;rw [hx1];dsimp only;unfold dw at hr1;simp only [if_true] at hr1;(try simp only [hr0]);(try unfold dt);(repeat' split)<;>first|rfl|omega|(exfalso;omega)|(simp_all;done)|(simp_all;omega)
    rw [hX] at hr;clear hX
    simp only [Prod.mk.injEq] at hr;obtain ⟨rfl,rfl⟩:=hr
    refine al aa [0,17,18,19,20,5] 5 rfl rfl rfl rfl rfl rfl ?_ ?_
    all_goals first|rfl|(simp [ar,aU,bb];done)|(simp [ar,aU,bb];omega)
   refine aE aa 2 rfl ?_
   refine aM 21 [0,17,18,19,20,16,6,5] (cE (aX [0,7,8,9,10,11,12,13,14,15]) (aX [0,17,18,19,20]) (fN (x 17) (x 19) b (⟨b.time,b.down,b.ao,b.due,b.aq,b.s0,xr0,b.n0,b.n1,b.w0,(b.w1).drop 1,b.bF,b.aS,b.book⟩:Bk) e21 (by first|assumption|omega)) fx rfl rfl ⟨⟨_,rfl,.inl ⟨rfl,rfl⟩⟩,⟨_,rfl,.inl ⟨rfl,rfl⟩⟩,trivial⟩ ⟨rfl,rfl,rfl,rfl,rfl,rfl,rfl,rfl,rfl,rfl,trivial⟩ rfl rfl rfl rfl rfl rfl trivial ⟨⟨trivial,trivial,trivial,trivial,trivial,trivial,trivial,trivial,trivial,trivial,trivial,trivial,trivial,trivial,trivial,trivial,trivial,trivial,trivial,trivial,trivial⟩,(fun _ _ _ _=>trivial),(fun _ _ _ _=>trivial),(fun _ _ _ _=>trivial),(fun _ _ _ _=>trivial),trivial⟩ rfl rfl rfl rfl) rfl ?_
   refine ab aa 2 rfl ?_
   refine ae ?_
   refine ax ?_
   refine an ?_
   have hX:cr b (⟨idn,kind,1,az,move,sum⟩:aV)=(b,(⟨e21,0⟩:Answer)):=by
     unfold cr;dsimp only;rw [if_neg (by decide),if_pos rfl];unfold fI;rw [hx1];dsimp only;unfold dw at hr1;simp only [if_true] at hr1;(try simp only [hr0]);(try unfold dt);(repeat' split)<;>first|rfl|omega|(exfalso;omega)|(simp_all;done)|(simp_all;omega)
   rw [hX] at hr;clear hX
   simp only [Prod.mk.injEq] at hr;obtain ⟨rfl,rfl⟩:=hr
   refine al aa [0,17,18,19,20,5] 5 rfl rfl rfl rfl rfl rfl ?_ ?_
   all_goals first|rfl|(simp [ar,aU,bb];done)|(simp [ar,aU,bb];omega)
  have hc4':=hc4;try simp only [bl,bJ] at hc4'
  refine aP ?_
  rcases (show e21=0\/¬e21=0 from by omega) with hs6|hs6
  ·
   refine aE aa 2 rfl ?_
   refine aM 21 [0,17,18,19,20,16,6,5] (cE (aX [0,7,8,9,10,11,12,13,14,15]) (aX [0,17,18,19,20]) (fb (x 17) (x 19) b (⟨b.time,b.down,b.ao,b.due,b.aq,b.s0,b.s1,b.n0,b.n1,b.w0,(b.w1).drop 1,b.bF,b.aS,b.book⟩:Bk) e21 (by first|assumption|omega)) fx rfl rfl ⟨⟨_,rfl,.inl ⟨rfl,rfl⟩⟩,⟨_,rfl,.inl ⟨rfl,rfl⟩⟩,trivial⟩ ⟨rfl,rfl,rfl,rfl,rfl,rfl,rfl,rfl,rfl,rfl,trivial⟩ rfl rfl rfl rfl rfl rfl trivial ⟨⟨trivial,trivial,trivial,trivial,trivial,trivial,trivial,trivial,trivial,trivial,trivial,trivial,trivial,trivial,trivial,trivial,trivial,trivial,trivial,trivial,trivial⟩,(fun _ _ _ _=>trivial),(fun _ _ _ _=>trivial),(fun _ _ _ _=>trivial),(fun _ _ _ _=>trivial),trivial⟩ rfl rfl rfl rfl) rfl ?_
   refine ab aa 2 rfl ?_
   refine ae ?_
   refine ax ?_
   refine an ?_
   have hX:cr b (⟨idn,kind,1,az,move,sum⟩:aV)=((⟨b.time,b.down,b.ao,b.due,b.aq,b.s0,b.s1,b.n0,b.n1,b.w0,(b.w1).drop 1,b.bF,b.aS,b.book⟩:Bk),(⟨e21,0⟩:Answer)):=by
     unfold cr;dsimp only;rw [if_neg (by decide),if_pos rfl];unfold fI;rw [hx1];dsimp only;unfold dw at hr1;simp only [if_true] at hr1;(try simp only [hr0]);(try unfold dt);(repeat' split)<;>first|rfl|omega|(exfalso;omega)|(simp_all;done)|(simp_all;omega)
   rw [hX] at hr;clear hX
   simp only [Prod.mk.injEq] at hr;obtain ⟨rfl,rfl⟩:=hr
   refine al aa [0,17,18,19,20,5] 5 rfl rfl rfl rfl rfl rfl ?_ ?_
   all_goals first|rfl|(simp [ar,aU,bb];done)|(simp [ar,aU,bb];omega)
  refine aE aa 2 rfl ?_
  refine aM 21 [0,17,18,19,20,16,6,5] (cE (aX [0,7,8,9,10,11,12,13,14,15]) (aX [0,17,18,19,20]) (fN (x 17) (x 19) b (⟨b.time,b.down,b.ao,b.due,b.aq,b.s0,b.s1,b.n0,b.n1,b.w0,(b.w1).drop 1,b.bF,b.aS,b.book⟩:Bk) e21 (by first|assumption|omega)) fx rfl rfl ⟨⟨_,rfl,.inl ⟨rfl,rfl⟩⟩,⟨_,rfl,.inl ⟨rfl,rfl⟩⟩,trivial⟩ ⟨rfl,rfl,rfl,rfl,rfl,rfl,rfl,rfl,rfl,rfl,trivial⟩ rfl rfl rfl rfl rfl rfl trivial ⟨⟨trivial,trivial,trivial,trivial,trivial,trivial,trivial,trivial,trivial,trivial,trivial,trivial,trivial,trivial,trivial,trivial,trivial,trivial,trivial,trivial,trivial⟩,(fun _ _ _ _=>trivial),(fun _ _ _ _=>trivial),(fun _ _ _ _=>trivial),(fun _ _ _ _=>trivial),trivial⟩ rfl rfl rfl rfl) rfl ?_
  refine ab aa 2 rfl ?_
  refine ae ?_
  refine ax ?_
  refine an ?_
  have hX:cr b (⟨idn,kind,1,az,move,sum⟩:aV)=(b,(⟨e21,0⟩:Answer)):=by
    unfold cr;dsimp only;rw [if_neg (by decide),if_pos rfl];unfold fI;rw [hx1];dsimp only;unfold dw at hr1;simp only [if_true] at hr1;(try simp only [hr0]);(try unfold dt);(repeat' split)<;>first|rfl|omega|(exfalso;omega)|(simp_all;done)|(simp_all;omega)
  rw [hX] at hr;clear hX
  simp only [Prod.mk.injEq] at hr;obtain ⟨rfl,rfl⟩:=hr
  refine al aa [0,17,18,19,20,5] 5 rfl rfl rfl rfl rfl rfl ?_ ?_
  all_goals first|rfl|(simp [ar,aU,bb];done)|(simp [ar,aU,bb];omega)
 have hc3':=of_decide_eq_false hc3
 refine aP ?_
 refine af ?_
 obtain ⟨n2,ok2,hr2⟩:∃ (n2:Int) (ok2:Bool),gV b.n1 x1.cu=(n2,ok2):=⟨_,_,rfl⟩
 refine bc [0,1,4,5,6] [0,7,8,9,10,11,12,13,14,15,6,5] mixed rfl rfl ?_
 refine aA (kn:=[]) aa 8 rfl trivial ?_
 refine aT (n':=16) [126,123] [7] rfl rfl (.inl ⟨(ah.plain rfl),aJ.cast (dj (i:=1) rfl rfl rfl Try.underlying36 fX rfl (by decide)) rfl⟩) rfl ?_
 refine aA (kn:=[]) aa 3 rfl trivial ?_
 refine aT (n':=16) [128,130] [] rfl rfl (.inl ⟨(ah.plain rfl),aJ.cast (bP 16 (pB b.n1 x1.cu n2 ok2 hr2) DD rfl rfl ⟨⟨_,rfl,.c (.d _)⟩,⟨_,rfl,.g ⟨.d _,.d _,.d _,.d _,trivial⟩⟩,trivial⟩ ⟨trivial,trivial,trivial⟩ trivial rfl rfl rfl rfl) rfl⟩) rfl ?_
 refine aA (kn:=[]) aa 5 rfl trivial ?_
 refine bC [0,7,8,9,10,11,12,13,14,15,6,5] rfl rfl rfl rfl (by kernel_rfl) ?_
 refine ae ?_
 refine af ?_
 refine bc [0,1,4,5,6,9,10] [0,7,8,9,10,11,12,13,14,15,6,5] mixed rfl rfl ?_
 refine aA (kn:=[]) aa 9 rfl trivial ?_
 refine aT (n':=16) [142,138] [7] rfl rfl (.inl ⟨(ah.plain rfl),aJ.cast (dj (i:=1) rfl rfl rfl Try.underlying36 fX rfl (by decide)) rfl⟩) rfl ?_
 refine bC [0,7,8,9,10,11,12,13,14,15,6,5] rfl rfl rfl rfl (by kernel_rfl) ?_
 refine ab aa 1 rfl ?_
 refine ae ?_
 refine af ?_
 refine ad aa 1 rfl ?_
 refine ag rfl (fun hc7=>?_) (fun hc7=>?_)
 ·
  have hc7':=hc7;try simp only [bl,bJ] at hc7'
  have hpk2:=hpk (by omega)
  refine aw ?_
  refine ab aa 3 rfl ?_
  obtain ⟨due23,cards23,book23,e23,hr3⟩:∃ (due23:List Int) (cards23:List bD) (book23:List Entry) (e23:Int),ez b.aq b.due b.ao b.book 0 x1.cu=(due23,cards23,book23,e23):=⟨_,_,_,_,rfl⟩
  refine aM 19 [7,16,17,18,0,8,9,10,11,15,6,5] (cf (aX [7,12,13,14]) (aX [7,16,17,18]) (ms:=(((((dq.set 2 (some (.s 1 0 6 b.ao.length))).set 3 (some (.s 2 0 1 b.due.length))).set 4 (some (.s 3 0 8 b.aq.length))).set 18 (some (dP b.book))).set 19 (some (cI 0)))) (ms':=(((((dq.set 2 (some (.s 1 0 6 cards23.length))).set 3 (some (.s 2 0 1 due23.length))).set 4 (some (.s 3 0 8 b.aq.length))).set 18 (some (dP book23))).set 19 (some (cI e23)))) (fun x hx=>zu x hx b.aq b.due b.ao b.book 0 x1.cu (by first|omega|(simp;done)|(simp;omega)) (by assumption) (by first|omega|(simp;done)|(simp;omega)) (by first|omega|(simp;done)|(simp;omega)) due23 cards23 book23 e23 hr3) DC rfl rfl ⟨⟨_,rfl,.inl ⟨rfl,rfl⟩⟩,⟨_,rfl,.inr (.g ⟨.d _,.d _,.d _,.d _,trivial⟩)⟩,trivial⟩ rfl rfl rfl rfl rfl rfl rfl ⟨rfl,rfl,rfl,trivial⟩ rfl rfl rfl rfl rfl rfl rfl rfl rfl rfl rfl rfl rfl) rfl ?_
  refine ae ?_
  rcases (show e23=0\/¬e23=0 from by omega) with hs8|hs8
  ·
   refine aE aa 2 rfl ?_
   refine aM 23 [0,19,20,21,22,6,5] (cE (aX [0,7,8,9,10,11,16,17,18,15]) (aX [0,19,20,21,22]) (fb (x 17) (x 19) b (⟨b.time,b.down,cards23,due23,b.aq,b.s0,b.s1,b.n0,n2,b.w0,(b.w1).drop 1,b.bF,b.aS,book23⟩:Bk) e23 (by first|assumption|omega)) fx rfl rfl ⟨⟨_,rfl,.inl ⟨rfl,rfl⟩⟩,⟨_,rfl,.inl ⟨rfl,rfl⟩⟩,trivial⟩ ⟨rfl,rfl,rfl,rfl,rfl,rfl,rfl,rfl,rfl,rfl,trivial⟩ rfl rfl rfl rfl rfl rfl trivial ⟨⟨trivial,trivial,trivial,trivial,trivial,trivial,trivial,trivial,trivial,trivial,trivial,trivial,trivial,trivial,trivial,trivial,trivial,trivial,trivial,trivial,trivial⟩,(fun _ _ _ _=>trivial),(fun _ _ _ _=>trivial),(fun _ _ _ _=>trivial),(fun _ _ _ _=>trivial),trivial⟩ rfl rfl rfl rfl) rfl ?_
   refine ab aa 2 rfl ?_
   refine ae ?_
   refine ax ?_
   have hX:cr b (⟨idn,kind,1,az,move,sum⟩:aV)=((⟨b.time,b.down,cards23,due23,b.aq,b.s0,b.s1,b.n0,n2,b.w0,(b.w1).drop 1,b.bF,b.aS,book23⟩:Bk),(⟨e23,0⟩:Answer)):=by
     unfold cr;dsimp only;rw [if_neg (by decide),if_pos rfl];unfold fI;rw [hx1];dsimp only;(try simp only [hr2,hr3]);(try unfold dt);(repeat' split)<;>first|rfl|omega|(exfalso;omega)|(simp_all;done)|(simp_all;omega)
   rw [hX] at hr;clear hX
   simp only [Prod.mk.injEq] at hr;obtain ⟨rfl,rfl⟩:=hr
   refine al aa [0,19,20,21,22,5] 5 rfl rfl rfl rfl rfl rfl ?_ ?_
   all_goals first|rfl|(simp [ar,aU,bb];done)|(simp [ar,aU,bb];omega)
  refine aE aa 2 rfl ?_
  refine aM 23 [0,19,20,21,22,6,5] (cE (aX [0,7,8,9,10,11,16,17,18,15]) (aX [0,19,20,21,22]) (fN (x 17) (x 19) b (⟨b.time,b.down,cards23,due23,b.aq,b.s0,b.s1,b.n0,n2,b.w0,(b.w1).drop 1,b.bF,b.aS,book23⟩:Bk) e23 (by first|assumption|omega)) fx rfl rfl ⟨⟨_,rfl,.inl ⟨rfl,rfl⟩⟩,⟨_,rfl,.inl ⟨rfl,rfl⟩⟩,trivial⟩ ⟨rfl,rfl,rfl,rfl,rfl,rfl,rfl,rfl,rfl,rfl,trivial⟩ rfl rfl rfl rfl rfl rfl trivial ⟨⟨trivial,trivial,trivial,trivial,trivial,trivial,trivial,trivial,trivial,trivial,trivial,trivial,trivial,trivial,trivial,trivial,trivial,trivial,trivial,trivial,trivial⟩,(fun _ _ _ _=>trivial),(fun _ _ _ _=>trivial),(fun _ _ _ _=>trivial),(fun _ _ _ _=>trivial),trivial⟩ rfl rfl rfl rfl) rfl ?_
  refine ab aa 2 rfl ?_
  refine ae ?_
  refine ax ?_
  have hX:cr b (⟨idn,kind,1,az,move,sum⟩:aV)=(b,(⟨e23,0⟩:Answer)):=by
    unfold cr;dsimp only;rw [if_neg (by decide),if_pos rfl];unfold fI;rw [hx1];dsimp only;(try simp only [hr2,hr3]);(try unfold dt);(repeat' split)<;>first|rfl|omega|(exfalso;omega)|(simp_all;done)|(simp_all;omega)
  rw [hX] at hr;clear hX
  simp only [Prod.mk.injEq] at hr;obtain ⟨rfl,rfl⟩:=hr
  refine al aa [0,19,20,21,22,5] 5 rfl rfl rfl rfl rfl rfl ?_ ?_
  all_goals first|rfl|(simp [ar,aU,bb];done)|(simp [ar,aU,bb];omega)
 have hc7':=hc7;try simp only [bl,bJ] at hc7'
 refine aP ?_
 refine aE aa 2 rfl ?_
 refine aM 20 [0,16,17,18,19,6,5] (cE (aX [0,7,8,9,10,11,12,13,14,15]) (aX [0,16,17,18,19]) (fb (x 17) (x 19) b (⟨b.time,b.down,b.ao,b.due,b.aq,b.s0,b.s1,b.n0,n2,b.w0,(b.w1).drop 1,b.bF,b.aS,b.book⟩:Bk) 0 (by first|assumption|omega)) fx rfl rfl ⟨⟨_,rfl,.inl ⟨rfl,rfl⟩⟩,⟨_,rfl,.inl ⟨rfl,rfl⟩⟩,trivial⟩ ⟨rfl,rfl,rfl,rfl,rfl,rfl,rfl,rfl,rfl,rfl,trivial⟩ rfl rfl rfl rfl rfl rfl trivial ⟨⟨trivial,trivial,trivial,trivial,trivial,trivial,trivial,trivial,trivial,trivial,trivial,trivial,trivial,trivial,trivial,trivial,trivial,trivial,trivial,trivial,trivial⟩,(fun _ _ _ _=>trivial),(fun _ _ _ _=>trivial),(fun _ _ _ _=>trivial),(fun _ _ _ _=>trivial),trivial⟩ rfl rfl rfl rfl) rfl ?_
 refine ab aa 2 rfl ?_
 refine ae ?_
 refine ax ?_
 have hX:cr b (⟨idn,kind,1,az,move,sum⟩:aV)=((⟨b.time,b.down,b.ao,b.due,b.aq,b.s0,b.s1,b.n0,n2,b.w0,(b.w1).drop 1,b.bF,b.aS,b.book⟩:Bk),(⟨0,0⟩:Answer)):=by
   unfold cr;dsimp only;rw [if_neg (by decide),if_pos rfl];unfold fI;rw [hx1];dsimp only;(try simp only [hr2]);(try unfold dt);(repeat' split)<;>first|rfl|omega|(exfalso;omega)|(simp_all;done)|(simp_all;omega)
 rw [hX] at hr;clear hX
 simp only [Prod.mk.injEq] at hr;obtain ⟨rfl,rfl⟩:=hr
 refine al aa [0,16,17,18,19,5] 5 rfl rfl rfl rfl rfl rfl ?_ ?_
 all_goals first|rfl|(simp [ar,aU,bb];done)|(simp [ar,aU,bb];omega)
theorem zC (x:Nat->Value) (hx:∀ i,(x i).oneCell'=true) (b:Bk) (d:aV) (ok:cj b) (hn:¬d.n=0/\¬d.n=1) (b2:Bk) (a2:Answer) (hr:cr b d=(b2,a2)):cA Try.prog 67 [(.c (.p 0 0 0 0)),(.c (.q (cP d) 0))] [(0,(.box 98 (aU b 1 2 3 4 (.d (.v (x 17))) (.d (.v (x 19)))))),(1,(dK b.ao)),(2,(dC b.due)),(3,(dS b.aq)),(4,(cK b.aS))] [0] (.v (.g [cI a2.err,cI a2.ba])) [(0,(.box 98 (aU b2 1 2 3 4 (.d (.v (x 17))) (.d (.v (x 19)))))),(1,(dK b2.ao)),(2,(dC b2.due)),(3,(dS b2.aq)),(4,(cK b2.aS))]:=by
 refine cA.mk 153 [(0,(aC (.p 0 0 0 0))),(1,(aC (.q (cP d) 0)))] 5 Try.func67 rfl rfl rfl rfl rfl rfl rfl rfl rfl ?_
 intro W0 F0 T0 pg
 obtain ⟨okt,okc,okd,oka,oky,okw0,okw1,okp,okv,okk0,okk1,okg,okl0,okl1,okp0,okp1,okn0,okn1,okq⟩:=id ok
 refine ad aa 1 rfl ?_
 refine af ?_
 refine af ?_
 rcases Bool.eq_false_or_eq_true (decide (¬d.n=0)) with hb1|hb1
 ·
  have hb1':=of_decide_eq_true hb1
  rcases Bool.eq_false_or_eq_true (decide (¬d.n=1)) with hb2|hb2
  ·
   have hb2':=of_decide_eq_true hb2
   refine bc [0,1,4] [5,0,1,2,3,4] mixed rfl rfl ?_
   refine aA (kn:=[(15,true),(21,true)]) aa 26 rfl ⟨hb1,hb2,trivial⟩ ?_
   refine bC [5,0,1,2,3,4] rfl rfl rfl rfl (by kernel_rfl) ?_
   refine ae ?_
   refine ag rfl (fun _=>?_) (fun hno=>by cases hno)
   refine ad aa 2 rfl ?_
   refine ax ?_
   refine an ?_
   have hX:cr b d=(b,(⟨6,0⟩:Answer)):=by
     unfold cr;rw [if_neg hn.1,if_neg hn.2]
   rw [hX] at hr;clear hX
   simp only [Prod.mk.injEq] at hr;obtain ⟨rfl,rfl⟩:=hr
   refine al aa [0,1,2,3,4,5] 5 rfl rfl rfl rfl rfl rfl ?_ ?_
   all_goals first|rfl|(simp [ar,aU,bb];done)|(simp [ar,aU,bb];omega)
  have hb2':=of_decide_eq_false hb2
  (exfalso;simp_all;done)
 have hb1':=of_decide_eq_false hb1
 (exfalso;simp_all;done)

theorem vr (x:Nat->Value) (hx:∀ i,(x i).oneCell'=true) (b:Bk) (d:aV) (ok:cj b) (b2:Bk) (a2:Answer) (hr:cr b d=(b2,a2)):cA Try.prog 67 [(.c (.p 0 0 0 0)),(.c (.q (cP d) 0))] [(0,(.box 98 (aU b 1 2 3 4 (.d (.v (x 17))) (.d (.v (x 19)))))),(1,(dK b.ao)),(2,(dC b.due)),(3,(dS b.aq)),(4,(cK b.aS))] [0] (.v (.g [cI a2.err,cI a2.ba])) [(0,(.box 98 (aU b2 1 2 3 4 (.d (.v (x 17))) (.d (.v (x 19)))))),(1,(dK b2.ao)),(2,(dC b2.due)),(3,(dS b2.aq)),(4,(cK b2.aS))]:=by
  obtain ⟨idn,kind,n,az,move,sum⟩:=d
  by_cases h0:n=0
  ·subst h0;exact zE x hx b idn kind az move sum ok b2 a2 hr
  by_cases h1:n=1
  ·subst h1;exact zD x hx b idn kind az move sum ok b2 a2 hr
  ·exact zC x hx b _ ok ⟨h0,h1⟩ b2 a2 hr
theorem Cz (x:Nat->Value) (hx:∀ i,(x i).oneCell'=true) (s0 s1:bV) (n0 n1:Int) (w0 w1:List cc) (d:aV) (l0:w0.length<=60) (l1:w1.length<=60) (m0:s0.kept.length<=40) (m1:s1.kept.length<=40) (v0 v1:List cc) (a2:Answer) (hr:eK s0 s1 n0 n1 w0 w1 d=(v0,v1,a2)):cA Try.prog 66 [(.c (.p 0 0 0 0)),(.c (.q (cP d) 0))] [(0,(.box 98 (((((((((bb x).set 5 (cI s0.bW)).set 6 (de s0.kept)).set 7 (cI s1.bW)).set 8 (de s1.kept)).set 9 (cI n0)).set 10 (cI n1)).set 11 (ej w0)).set 12 (ej w1))))] [0] (.v (.g [cI a2.err,cI a2.ba])) [(0,(.box 98 (((((((((bb x).set 5 (cI s0.bW)).set 6 (de s0.kept)).set 7 (cI s1.bW)).set 8 (de s1.kept)).set 9 (cI n0)).set 10 (cI n1)).set 11 (ej v0)).set 12 (ej v1))))]:=by
  obtain ⟨idn,kind,n,az,move,sum⟩:=d
  by_cases h0:n=0
  ·subst h0;exact Bi x hx s0 s1 n0 n1 w0 w1 idn kind az move sum l0 l1 m0 m1 v0 v1 a2 hr
  by_cases h1:n=1
  ·subst h1;exact Bh x hx s0 s1 n0 n1 w0 w1 idn kind az move sum l0 l1 m0 m1 v0 v1 a2 hr
  ·exact Bg x hx s0 s1 n0 n1 w0 w1 _ l0 l1 m0 m1 ⟨h0,h1⟩ v0 v1 a2 hr

theorem DZ (x:Nat->Value) (hx:∀ i,(x i).oneCell'=true) (b:Bk) (d:aV) (ok:cj b) (b2:Bk) (a2:Answer) (hr:ft b d=(b2,a2)):cA Try.prog 62 [(.c (.p 0 0 0 0)),(.c (.q (cP d) 0))] [(0,(.box 98 (aU b 1 2 3 4 (.d (.v (x 17))) (.d (.v (x 19)))))),(1,(dK b.ao)),(2,(dC b.due)),(3,(dS b.aq)),(4,(cK b.aS))] [0] (.v (.g [cI a2.err,cI a2.ba])) [(0,(.box 98 (aU b2 1 2 3 4 (.d (.v (x 17))) (.d (.v (x 19)))))),(1,(dK b2.ao)),(2,(dC b2.due)),(3,(dS b2.aq)),(4,(cK b2.aS))]:=by
 refine cA.mk 65 [(0,(aC (.p 0 0 0 0))),(1,(aC (.q (cP d) 0)))] 5 Try.func62 rfl rfl rfl rfl rfl rfl rfl rfl rfl ?_
 intro W0 F0 T0 pg
 obtain ⟨okt,okc,okd,oka,oky,okw0,okw1,okp,okv,okk0,okk1,okg,okl0,okl1,okp0,okp1,okn0,okn1,okq⟩:=id ok
 refine ad aa 1 rfl ?_
 refine af ?_
 refine af ?_
 rcases Bool.eq_false_or_eq_true (decide (d.n < 0)) with hb1|hb1
 ·
  have hb1':=of_decide_eq_true hb1
  refine bc [0,1,4] [5,0,1,2,3,4] mixed rfl rfl ?_
  refine aA (kn:=[(10,true)]) aa 18 rfl ⟨hb1,trivial⟩ ?_
  refine bC [5,0,1,2,3,4] rfl rfl rfl rfl (by kernel_rfl) ?_
  refine ae ?_
  refine ag rfl (fun _=>?_) (fun hno=>by cases hno)
  refine ad aa 2 rfl ?_
  refine ax ?_
  refine an ?_
  have hX:ft b d=(b,(⟨6,0⟩:Answer)):=by
    unfold ft;(repeat' split)<;>first|rfl|omega|(exfalso;omega)|(simp_all;done)|(simp_all;omega)
  rw [hX] at hr;clear hX
  simp only [Prod.mk.injEq] at hr;obtain ⟨rfl,rfl⟩:=hr
  refine al aa [0,1,2,3,4,5] 5 rfl rfl rfl rfl rfl rfl ?_ ?_
  all_goals first|rfl|(simp [ar,aU,bb];done)|(simp [ar,aU,bb];omega)
 have hb1':=of_decide_eq_false hb1
 refine bc [0,1,4] [5,0,1,2,3,4] mixed rfl rfl ?_
 refine aA (kn:=[(10,false)]) aa 15 rfl ⟨hb1,trivial⟩ ?_
 refine aT (n':=6) [20,11] [1] rfl rfl (.inl ⟨(ah.yes rfl rfl rfl),aJ.cast (dm rfl rfl rfl rfl rfl Try.underlying29) rfl⟩) rfl ?_
 refine aA (kn:=[]) aa 2 rfl trivial ?_
 refine bC [5,0,1,2,3,4] rfl rfl rfl rfl (by kernel_rfl) ?_
 refine ae ?_
 refine ag rfl (fun hc3=>?_) (fun hc3=>?_)
 ·
  have hc3':=of_decide_eq_true hc3
  refine ad aa 2 rfl ?_
  refine ax ?_
  refine an ?_
  have hX:ft b d=(b,(⟨6,0⟩:Answer)):=by
    unfold ft;(repeat' split)<;>first|rfl|omega|(exfalso;omega)|(simp_all;done)|(simp_all;omega)
  rw [hX] at hr;clear hX
  simp only [Prod.mk.injEq] at hr;obtain ⟨rfl,rfl⟩:=hr
  refine al aa [0,1,2,3,4,5] 5 rfl rfl rfl rfl rfl rfl ?_ ?_
  all_goals first|rfl|(simp [ar,aU,bb];done)|(simp [ar,aU,bb];omega)
 have hc3':=of_decide_eq_false hc3
 refine aP ?_
 refine af ?_
 refine cp 36 ((decide (d.sum < 1))||(decide (d.sum > 1000000))) ?_ ?_
 ·
  refine aw ?_
  refine ab aa 6 rfl ?_
  refine bw (t:=30) rfl (fun hb4=>?_) (fun hb4=>?_)
  ·
   have hb4':=of_decide_eq_true hb4
   refine ab aa 6 rfl ?_
   refine ae ?_
   exact aD.bA 13 rfl rfl (by first|(simp [hb4];done)|(simp_all;done)|(exfalso;simp_all;done)|(simp_all;omega)) rfl
  have hb4':=of_decide_eq_false hb4
  refine ab aa 6 rfl ?_
  refine ae ?_
  exact aD.bA 13 rfl rfl (by first|(simp [hb4];done)|(simp_all;done)|(exfalso;simp_all;done)|(simp_all;omega)) rfl
 refine ag rfl (fun hc5=>?_) (fun hc5=>?_)
 ·
  have hc5':=hc5;try simp only [bl,bJ] at hc5'
  refine ad aa 2 rfl ?_
  refine ax ?_
  refine an ?_
  have hX:ft b d=(b,(⟨3,0⟩:Answer)):=by
    unfold ft;(repeat' split)<;>first|rfl|omega|(exfalso;omega)|(simp_all;done)|(simp_all;omega)
  rw [hX] at hr;clear hX
  simp only [Prod.mk.injEq] at hr;obtain ⟨rfl,rfl⟩:=hr
  refine al aa [0,1,2,3,4,5] 5 rfl rfl rfl rfl rfl rfl ?_ ?_
  all_goals first|rfl|(simp [ar,aU,bb];done)|(simp [ar,aU,bb];omega)
 have hc5':=hc5;try simp only [bl,bJ] at hc5'
 refine aP ?_
 refine aE aa 1 rfl ?_
 refine aM 15 [0,6,7,8,9,10,11,12,13,14,5] (cE id (aX [0,6,7,8,9,10,11,12,13,14]) (jS (x 17) (x 19) b (by first|omega|(simp;done)|(simp;omega)) (by first|omega|(simp;done)|(simp;omega)) (by first|omega|(simp;done)|(simp;omega)) (by first|omega|(simp;done)|(simp;omega))) qi rfl rfl ⟨⟨_,rfl,.inl ⟨rfl,rfl⟩⟩,trivial⟩ ⟨rfl,rfl,rfl,rfl,rfl,trivial⟩ rfl rfl rfl rfl rfl rfl trivial ⟨⟨trivial,trivial,trivial,trivial,trivial,trivial,trivial,trivial,trivial,trivial,trivial,trivial,trivial,trivial,trivial,trivial,trivial,trivial,trivial,trivial,trivial⟩,⟨trivial,trivial,trivial,trivial,trivial,trivial,trivial,trivial,trivial,trivial,trivial,trivial,trivial,trivial,trivial,trivial,trivial,trivial,trivial,trivial,trivial⟩,(fun _ _ _ _=>trivial),(fun _ _ _ _=>trivial),(fun _ _ _ _=>trivial),(fun _ _ _ _=>trivial),(fun _ _ _ _=>trivial),(fun _ _ _ _=>trivial),(fun _ _ _ _=>trivial),(fun _ _ _ _=>trivial),trivial⟩ rfl rfl rfl rfl) rfl ?_
 refine ab aa 1 rfl ?_
 refine ae ?_
 refine af ?_
 obtain ⟨l20,e20,hr0⟩:∃ (l20:List bD) (e20:Int),cz b.ao 0 d.n 0 d.sum=(l20,e20):=⟨_,_,rfl⟩
 refine cZ [0,1,4,5] [0,6,7,8,9,10,11,12,13,14,5] mixed rfl rfl ?_
 refine bQ (kn:=[]) aa 9 rfl trivial ?_
 refine bU (n':=16) [40,44,48] [11,6] rfl rfl (.inl ⟨(ah.plain rfl),aJ.cast (cf (aX [6,11]) (aX [6,15]) (ms:=((dq.set 2 (some (.s 1 0 6 b.ao.length))).set 19 (some (cI 0)))) (ms':=((dq.set 2 (some (.s 1 0 6 l20.length))).set 19 (some (cI e20)))) (fun x hx=>iC x hx b.ao 0 d.n 0 d.sum (by first|omega|(simp;done)|(simp;omega)) l20 e20 hr0) nn rfl rfl ⟨⟨_,rfl,.inl ⟨rfl,rfl⟩⟩,⟨_,rfl,.inr (.c (.d _))⟩,⟨_,rfl,.inr (.c (.d _))⟩,⟨_,rfl,.inr (.c (.d _))⟩,trivial⟩ rfl rfl rfl rfl rfl rfl rfl ⟨rfl,trivial⟩ rfl rfl rfl rfl rfl rfl rfl rfl rfl rfl rfl rfl rfl) rfl⟩) rfl ?_
 refine dL [0,1,4,5] [15,6,0,7,8,9,10,12,13,14,5] rfl rfl (by kernel_rfl) ?_
 refine then_ok ?_
 refine af ?_
 obtain ⟨l21,e21,hr1⟩:∃ (l21:List Entry) (e21:Int),dM b.book e20 0 (10+d.n) d.sum=(l21,e21):=⟨_,_,rfl⟩
 refine cZ [0,1,4,5] [15,6,0,7,8,9,10,12,13,14,5] mixed rfl rfl ?_
 refine bQ (kn:=[]) aa 5 rfl trivial ?_
 refine bU (n':=16) [54] [] rfl rfl (.inl ⟨(ah.plain rfl),aJ.cast (aK rfl rfl rfl (aH (by first|omega|(simp;done)|(simp;omega)))) rfl⟩) rfl ?_
 refine bQ (kn:=[]) aa 4 rfl trivial ?_
 refine bU (n':=16) [50,55,59] [6] rfl rfl (.inl ⟨(ah.plain rfl),aJ.cast (cf (aX [6]) (aX [6]) (ms:=((dq.set 18 (some (dP b.book))).set 19 (some (cI e20)))) (ms':=((dq.set 18 (some (dP l21))).set 19 (some (cI e21)))) (fun x hx=>iR x hx b.book e20 0 (10+d.n) d.sum l21 e21 hr1) mf rfl rfl ⟨⟨_,rfl,.inl ⟨rfl,rfl⟩⟩,⟨_,rfl,.inr (.c (.d _))⟩,⟨_,rfl,.inr (.c (.d _))⟩,⟨_,rfl,.inr (.c (.d _))⟩,trivial⟩ rfl rfl rfl rfl rfl rfl rfl trivial rfl rfl rfl rfl rfl rfl rfl rfl rfl rfl rfl rfl rfl) rfl⟩) rfl ?_
 refine dL [0,4,5] [6,15,0,7,8,9,10,12,13,14,5] rfl rfl (by kernel_rfl) ?_
 refine then_ok ?_
 rcases (show e21=0\/¬e21=0 from by omega) with hs6|hs6
 ·
  refine aE aa 2 rfl ?_
  refine aM 20 [0,16,17,18,19,5] (cE (aX [0,6,7,8,9,10,15,12,13,14]) (aX [0,16,17,18,19]) (fb (x 17) (x 19) b (⟨b.time,b.down,l20,b.due,b.aq,b.s0,b.s1,b.n0,b.n1,b.w0,b.w1,b.bF,b.aS,l21⟩:Bk) e21 (by first|assumption|omega)) fx rfl rfl ⟨⟨_,rfl,.inl ⟨rfl,rfl⟩⟩,⟨_,rfl,.inl ⟨rfl,rfl⟩⟩,trivial⟩ ⟨rfl,rfl,rfl,rfl,rfl,rfl,rfl,rfl,rfl,rfl,trivial⟩ rfl rfl rfl rfl rfl rfl trivial ⟨⟨trivial,trivial,trivial,trivial,trivial,trivial,trivial,trivial,trivial,trivial,trivial,trivial,trivial,trivial,trivial,trivial,trivial,trivial,trivial,trivial,trivial⟩,(fun _ _ _ _=>trivial),(fun _ _ _ _=>trivial),(fun _ _ _ _=>trivial),(fun _ _ _ _=>trivial),trivial⟩ rfl rfl rfl rfl) rfl ?_
  refine ab aa 2 rfl ?_
  refine ae ?_
  refine ax ?_
  have hX:ft b d=((⟨b.time,b.down,l20,b.due,b.aq,b.s0,b.s1,b.n0,b.n1,b.w0,b.w1,b.bF,b.aS,l21⟩:Bk),(⟨e21,0⟩:Answer)):=by
    unfold ft;simp only [dt,hr0,hr1];(repeat' split)<;>first|rfl|omega|(exfalso;omega)|(simp_all;done)|(simp_all;omega)
  rw [hX] at hr;clear hX
  simp only [Prod.mk.injEq] at hr;obtain ⟨rfl,rfl⟩:=hr
  refine al aa [0,16,17,18,19,5] 5 rfl rfl rfl rfl rfl rfl ?_ ?_
  all_goals first|rfl|(simp [ar,aU,bb];done)|(simp [ar,aU,bb];omega)
 refine aE aa 2 rfl ?_
 refine aM 20 [0,16,17,18,19,5] (cE (aX [0,6,7,8,9,10,15,12,13,14]) (aX [0,16,17,18,19]) (fN (x 17) (x 19) b (⟨b.time,b.down,l20,b.due,b.aq,b.s0,b.s1,b.n0,b.n1,b.w0,b.w1,b.bF,b.aS,l21⟩:Bk) e21 (by first|assumption|omega)) fx rfl rfl ⟨⟨_,rfl,.inl ⟨rfl,rfl⟩⟩,⟨_,rfl,.inl ⟨rfl,rfl⟩⟩,trivial⟩ ⟨rfl,rfl,rfl,rfl,rfl,rfl,rfl,rfl,rfl,rfl,trivial⟩ rfl rfl rfl rfl rfl rfl trivial ⟨⟨trivial,trivial,trivial,trivial,trivial,trivial,trivial,trivial,trivial,trivial,trivial,trivial,trivial,trivial,trivial,trivial,trivial,trivial,trivial,trivial,trivial⟩,(fun _ _ _ _=>trivial),(fun _ _ _ _=>trivial),(fun _ _ _ _=>trivial),(fun _ _ _ _=>trivial),trivial⟩ rfl rfl rfl rfl) rfl ?_
 refine ab aa 2 rfl ?_
 refine ae ?_
 refine ax ?_
 have hX:ft b d=(b,(⟨e21,0⟩:Answer)):=by
   unfold ft;simp only [dt,hr0,hr1];(repeat' split)<;>first|rfl|omega|(exfalso;omega)|(simp_all;done)|(simp_all;omega)
 rw [hX] at hr;clear hX
 simp only [Prod.mk.injEq] at hr;obtain ⟨rfl,rfl⟩:=hr
 refine al aa [0,16,17,18,19,5] 5 rfl rfl rfl rfl rfl rfl ?_ ?_
 all_goals first|rfl|(simp [ar,aU,bb];done)|(simp [ar,aU,bb];omega)
theorem EY (x:Nat->Value) (hx:∀ i,(x i).oneCell'=true) (b:Bk) (d:aV) (ok:cj b) (b2:Bk) (a2:Answer) (hr:gL b d=(b2,a2)):cA Try.prog 70 [(.c (.p 0 0 0 0)),(.c (.q (cP d) 0))] [(0,(.box 98 (aU b 1 2 3 4 (.d (.v (x 17))) (.d (.v (x 19)))))),(1,(dK b.ao)),(2,(dC b.due)),(3,(dS b.aq)),(4,(cK b.aS))] [0] (.v (.g [cI a2.err,cI a2.ba])) [(0,(.box 98 (aU b2 1 2 3 4 (.d (.v (x 17))) (.d (.v (x 19)))))),(1,(dK b2.ao)),(2,(dC b2.due)),(3,(dS b2.aq)),(4,(cK b2.aS))]:=by
 refine cA.mk 64 [(0,(aC (.p 0 0 0 0))),(1,(aC (.q (cP d) 0)))] 5 Try.func70 rfl rfl rfl rfl rfl rfl rfl rfl rfl ?_
 intro W0 F0 T0 pg
 obtain ⟨okt,okc,okd,oka,oky,okw0,okw1,okp,okv,okk0,okk1,okg,okl0,okl1,okp0,okp1,okn0,okn1,okq⟩:=id ok
 refine ad aa 1 rfl ?_
 refine af ?_
 refine af ?_
 rcases Bool.eq_false_or_eq_true (decide (d.n < 0)) with hb1|hb1
 ·
  have hb1':=of_decide_eq_true hb1
  refine bc [0,1,4] [5,0,1,2,3,4] mixed rfl rfl ?_
  refine aA (kn:=[(11,true)]) aa 18 rfl ⟨hb1,trivial⟩ ?_
  refine bC [5,0,1,2,3,4] rfl rfl rfl rfl (by kernel_rfl) ?_
  refine ae ?_
  refine ag rfl (fun _=>?_) (fun hno=>by cases hno)
  refine ad aa 2 rfl ?_
  refine ax ?_
  refine an ?_
  have hX:gL b d=(b,(⟨6,0⟩:Answer)):=by
    unfold gL;(repeat' split)<;>first|rfl|omega|(exfalso;omega)|(simp_all;done)|(simp_all;omega)
  rw [hX] at hr;clear hX
  simp only [Prod.mk.injEq] at hr;obtain ⟨rfl,rfl⟩:=hr
  refine al aa [0,1,2,3,4,5] 5 rfl rfl rfl rfl rfl rfl ?_ ?_
  all_goals first|rfl|(simp [ar,aU,bb];done)|(simp [ar,aU,bb];omega)
 have hb1':=of_decide_eq_false hb1
 refine bc [0,1,4] [5,0,1,2,3,4] mixed rfl rfl ?_
 refine aA (kn:=[(11,false)]) aa 15 rfl ⟨hb1,trivial⟩ ?_
 refine aT (n':=6) [21,12] [2] rfl rfl (.inl ⟨(ah.yes rfl rfl rfl),aJ.cast (dm rfl rfl rfl rfl rfl Try.underlying30) rfl⟩) rfl ?_
 refine aA (kn:=[]) aa 2 rfl trivial ?_
 refine bC [5,0,1,2,3,4] rfl rfl rfl rfl (by kernel_rfl) ?_
 refine ae ?_
 refine ag rfl (fun hc3=>?_) (fun hc3=>?_)
 ·
  have hc3':=of_decide_eq_true hc3
  refine ad aa 2 rfl ?_
  refine ax ?_
  refine an ?_
  have hX:gL b d=(b,(⟨6,0⟩:Answer)):=by
    unfold gL;(repeat' split)<;>first|rfl|omega|(exfalso;omega)|(simp_all;done)|(simp_all;omega)
  rw [hX] at hr;clear hX
  simp only [Prod.mk.injEq] at hr;obtain ⟨rfl,rfl⟩:=hr
  refine al aa [0,1,2,3,4,5] 5 rfl rfl rfl rfl rfl rfl ?_ ?_
  all_goals first|rfl|(simp [ar,aU,bb];done)|(simp [ar,aU,bb];omega)
 have hc3':=of_decide_eq_false hc3
 refine aP ?_
 refine af ?_
 obtain ⟨x1,hx1⟩:=cq (xs:=b.due) (i:=Int.toNat (d.n)) (by first|omega|(simp;done)|(simp;omega))
 refine bc [0,1,4] [5,0,1,2,3,4] mixed rfl rfl ?_
 refine aA (kn:=[]) aa 9 rfl trivial ?_
 refine aT (n':=6) [30,34] [2] rfl rfl (.inl ⟨(ah.plain rfl),aJ.cast (br (i:=Int.toNat (d.n)) rfl rfl rfl Try.underlying30 fX (by first|omega|(simp;done)|(simp;omega)) (by first|omega|(simp;done)|(simp;omega))) rfl⟩) rfl ?_
 refine aT (n':=6) [35] [2] rfl rfl (.inl ⟨(ah.plain rfl),aJ.cast (eB rfl rfl rfl Try.underlying3 rfl (bu hx1) rfl) rfl⟩) rfl ?_
 refine aA (kn:=[]) aa 1 rfl trivial ?_
 refine bC [5,0,1,2,3,4] rfl rfl rfl rfl (by kernel_rfl) ?_
 refine ae ?_
 refine af ?_
 refine ad aa 2 rfl ?_
 refine ag rfl (fun hc4=>?_) (fun hc4=>?_)
 ·
  have hc4':=of_decide_eq_true hc4
  refine ad aa 2 rfl ?_
  refine ax ?_
  refine an ?_
  have hX:gL b d=(b,(⟨10,0⟩:Answer)):=by
    unfold gL;simp only [dt,List.getD_eq_getElem?_getD,hx1,Option.getD_some,];(repeat' split)<;>first|rfl|omega|(exfalso;omega)|(simp_all;done)|(simp_all;omega)
  rw [hX] at hr;clear hX
  simp only [Prod.mk.injEq] at hr;obtain ⟨rfl,rfl⟩:=hr
  refine al aa [0,1,2,3,4,5] 5 rfl rfl rfl rfl rfl rfl ?_ ?_
  all_goals first|rfl|(simp [ar,aU,bb];done)|(simp [ar,aU,bb];omega)
 have hc4':=of_decide_eq_false hc4
 refine aP ?_
 refine aE aa 1 rfl ?_
 refine aM 15 [0,6,7,8,9,10,11,12,13,14,5] (cE id (aX [0,6,7,8,9,10,11,12,13,14]) (jS (x 17) (x 19) b (by first|omega|(simp;done)|(simp;omega)) (by first|omega|(simp;done)|(simp;omega)) (by first|omega|(simp;done)|(simp;omega)) (by first|omega|(simp;done)|(simp;omega))) qi rfl rfl ⟨⟨_,rfl,.inl ⟨rfl,rfl⟩⟩,trivial⟩ ⟨rfl,rfl,rfl,rfl,rfl,trivial⟩ rfl rfl rfl rfl rfl rfl trivial ⟨⟨trivial,trivial,trivial,trivial,trivial,trivial,trivial,trivial,trivial,trivial,trivial,trivial,trivial,trivial,trivial,trivial,trivial,trivial,trivial,trivial,trivial⟩,⟨trivial,trivial,trivial,trivial,trivial,trivial,trivial,trivial,trivial,trivial,trivial,trivial,trivial,trivial,trivial,trivial,trivial,trivial,trivial,trivial,trivial⟩,(fun _ _ _ _=>trivial),(fun _ _ _ _=>trivial),(fun _ _ _ _=>trivial),(fun _ _ _ _=>trivial),(fun _ _ _ _=>trivial),(fun _ _ _ _=>trivial),(fun _ _ _ _=>trivial),(fun _ _ _ _=>trivial),trivial⟩ rfl rfl rfl rfl) rfl ?_
 refine ab aa 1 rfl ?_
 refine ae ?_
 refine af ?_
 refine bc [0,1,4,5,6] [0,6,7,8,9,10,11,12,13,14,5] mixed rfl rfl ?_
 refine aA (kn:=[]) aa 9 rfl trivial ?_
 refine aT (n':=15) [46,50] [12] rfl rfl (.inl ⟨(ah.plain rfl),aJ.cast (br (i:=Int.toNat (d.n)) rfl rfl rfl Try.underlying30 fX (by first|omega|(simp;done)|(simp;omega)) (by first|omega|(simp;done)|(simp;omega))) rfl⟩) rfl ?_
 refine bC [0,6,7,8,9,10,11,12,13,14,5] rfl rfl rfl rfl (by kernel_rfl) ?_
 refine fV [0,6,7,8,9,10,11,12,13,14,5] (dH (ds:=[(dI 0)]) rfl rfl rfl rfl rfl fX rfl (Nat.le_of_ble_eq_true rfl) (bu hx1) rfl (eG (x':=0) rfl)) rfl ?_
 refine ae ?_
 refine fq (k:=6) (q:=3) (c':=(.s 12 0 1 (((b.due).set (Int.toNat (d.n)) 0).length))) rfl rfl (by first|rfl|(simp;done)|(congr 1;omega)) rfl ?_
 refine aE aa 5 rfl ?_
 refine ay (aK rfl rfl rfl (aH (by first|omega|(simp;done)|(simp;omega)))) rfl ?_
 refine ab aa 1 rfl ?_
 obtain ⟨l20,e20,hr0⟩:∃ (l20:List Entry) (e20:Int),dM b.book 0 (50+d.n) 0 x1=(l20,e20):=⟨_,_,rfl⟩
 refine aM 15 [6,0,7,8,9,10,11,12,13,14,5] (cf (aX [6]) (aX [6]) (ms:=((dq.set 18 (some (dP b.book))).set 19 (some (cI 0)))) (ms':=((dq.set 18 (some (dP l20))).set 19 (some (cI e20)))) (fun x hx=>iR x hx b.book 0 (50+d.n) 0 x1 l20 e20 hr0) mf rfl rfl ⟨⟨_,rfl,.inl ⟨rfl,rfl⟩⟩,⟨_,rfl,.inr (.c (.d _))⟩,⟨_,rfl,.inr (.c (.d _))⟩,⟨_,rfl,.inr (.c (.d _))⟩,trivial⟩ rfl rfl rfl rfl rfl rfl rfl trivial rfl rfl rfl rfl rfl rfl rfl rfl rfl rfl rfl rfl rfl) rfl ?_
 refine ae ?_
 rcases (show e20=0\/¬e20=0 from by omega) with hs5|hs5
 ·
  refine aE aa 2 rfl ?_
  refine aM 19 [0,15,16,17,18,5] (cE (aX [0,6,7,8,9,10,11,12,13,14]) (aX [0,15,16,17,18]) (fb (x 17) (x 19) b (⟨b.time,b.down,b.ao,(b.due).set (Int.toNat (d.n)) 0,b.aq,b.s0,b.s1,b.n0,b.n1,b.w0,b.w1,b.bF,b.aS,l20⟩:Bk) e20 (by first|assumption|omega)) fx rfl rfl ⟨⟨_,rfl,.inl ⟨rfl,rfl⟩⟩,⟨_,rfl,.inl ⟨rfl,rfl⟩⟩,trivial⟩ ⟨rfl,rfl,rfl,rfl,rfl,rfl,rfl,rfl,rfl,rfl,trivial⟩ rfl rfl rfl rfl rfl rfl trivial ⟨⟨trivial,trivial,trivial,trivial,trivial,trivial,trivial,trivial,trivial,trivial,trivial,trivial,trivial,trivial,trivial,trivial,trivial,trivial,trivial,trivial,trivial⟩,(fun _ _ _ _=>trivial),(fun _ _ _ _=>trivial),(fun _ _ _ _=>trivial),(fun _ _ _ _=>trivial),trivial⟩ rfl rfl rfl rfl) rfl ?_
  refine ab aa 2 rfl ?_
  refine ae ?_
  refine ax ?_
  have hX:gL b d=((⟨b.time,b.down,b.ao,(b.due).set (Int.toNat (d.n)) 0,b.aq,b.s0,b.s1,b.n0,b.n1,b.w0,b.w1,b.bF,b.aS,l20⟩:Bk),(⟨e20,0⟩:Answer)):=by
    unfold gL;simp only [dt,List.getD_eq_getElem?_getD,hx1,Option.getD_some,hr0];(repeat' split)<;>first|rfl|omega|(exfalso;omega)|(simp_all;done)|(simp_all;omega)
  rw [hX] at hr;clear hX
  simp only [Prod.mk.injEq] at hr;obtain ⟨rfl,rfl⟩:=hr
  refine al aa [0,15,16,17,18,5] 5 rfl rfl rfl rfl rfl rfl ?_ ?_
  all_goals first|rfl|(simp [ar,aU,bb];done)|(simp [ar,aU,bb];omega)
 refine aE aa 2 rfl ?_
 refine aM 19 [0,15,16,17,18,5] (cE (aX [0,6,7,8,9,10,11,12,13,14]) (aX [0,15,16,17,18]) (fN (x 17) (x 19) b (⟨b.time,b.down,b.ao,(b.due).set (Int.toNat (d.n)) 0,b.aq,b.s0,b.s1,b.n0,b.n1,b.w0,b.w1,b.bF,b.aS,l20⟩:Bk) e20 (by first|assumption|omega)) fx rfl rfl ⟨⟨_,rfl,.inl ⟨rfl,rfl⟩⟩,⟨_,rfl,.inl ⟨rfl,rfl⟩⟩,trivial⟩ ⟨rfl,rfl,rfl,rfl,rfl,rfl,rfl,rfl,rfl,rfl,trivial⟩ rfl rfl rfl rfl rfl rfl trivial ⟨⟨trivial,trivial,trivial,trivial,trivial,trivial,trivial,trivial,trivial,trivial,trivial,trivial,trivial,trivial,trivial,trivial,trivial,trivial,trivial,trivial,trivial⟩,(fun _ _ _ _=>trivial),(fun _ _ _ _=>trivial),(fun _ _ _ _=>trivial),(fun _ _ _ _=>trivial),trivial⟩ rfl rfl rfl rfl) rfl ?_
 refine ab aa 2 rfl ?_
 refine ae ?_
 refine ax ?_
 have hX:gL b d=(b,(⟨e20,0⟩:Answer)):=by
   unfold gL;simp only [dt,List.getD_eq_getElem?_getD,hx1,Option.getD_some,hr0];(repeat' split)<;>first|rfl|omega|(exfalso;omega)|(simp_all;done)|(simp_all;omega)
 rw [hX] at hr;clear hX
 simp only [Prod.mk.injEq] at hr;obtain ⟨rfl,rfl⟩:=hr
 refine al aa [0,15,16,17,18,5] 5 rfl rfl rfl rfl rfl rfl ?_ ?_
 all_goals first|rfl|(simp [ar,aU,bb];done)|(simp [ar,aU,bb];omega)

theorem zy (x:Nat->Value) (hx:∀ i,(x i).oneCell'=true) (b:Bk) (ok:cj b) (b2:Bk) (hr:gk b=b2):cA Try.prog 84 [(.c (.p 0 0 0 0))] [(0,(.box 98 (aU b 1 2 3 4 (.d (.v (x 17))) (.d (.v (x 19)))))),(1,(dK b.ao)),(2,(dC b.due)),(3,(dS b.aq)),(4,(cK b.aS))] [0] (.t []) [(0,(.box 98 (aU b2 1 2 3 4 (.d (.v (x 17))) (.d (.v (x 19)))))),(1,(dK b2.ao)),(2,(dC b2.due)),(3,(dS b2.aq)),(4,(cK b2.aS))]:=by
 refine cA.mk 47 [(0,(aC (.p 0 0 0 0)))] 5 Try.func84 rfl rfl rfl rfl rfl rfl rfl rfl rfl ?_
 intro W0 F0 T0 pg
 obtain ⟨okt,okc,okd,oka,oky,okw0,okw1,okp,okv,okk0,okk1,okg,okl0,okl1,okp0,okp1,okn0,okn1,okq⟩:=id ok
 refine aE aa 1 rfl ?_
 refine aM 14 [0,5,6,7,8,9,10,11,12,13] (cE id (aX [0,5,6,7,8,9,10,11,12,13]) (jS (x 17) (x 19) b (by first|omega|(simp;done)|(simp;omega)) (by first|omega|(simp;done)|(simp;omega)) (by first|omega|(simp;done)|(simp;omega)) (by first|omega|(simp;done)|(simp;omega))) qi rfl rfl ⟨⟨_,rfl,.inl ⟨rfl,rfl⟩⟩,trivial⟩ ⟨rfl,rfl,rfl,rfl,rfl,trivial⟩ rfl rfl rfl rfl rfl rfl trivial ⟨⟨trivial,trivial,trivial,trivial,trivial,trivial,trivial,trivial,trivial,trivial,trivial,trivial,trivial,trivial,trivial,trivial,trivial,trivial,trivial,trivial,trivial⟩,⟨trivial,trivial,trivial,trivial,trivial,trivial,trivial,trivial,trivial,trivial,trivial,trivial,trivial,trivial,trivial,trivial,trivial,trivial,trivial,trivial,trivial⟩,(fun _ _ _ _=>trivial),(fun _ _ _ _=>trivial),(fun _ _ _ _=>trivial),(fun _ _ _ _=>trivial),(fun _ _ _ _=>trivial),(fun _ _ _ _=>trivial),(fun _ _ _ _=>trivial),(fun _ _ _ _=>trivial),trivial⟩ rfl rfl rfl rfl) rfl ?_
 refine ab aa 1 rfl ?_
 refine ae ?_
 refine af ?_
 refine aE aa 5 rfl ?_
 refine ay (dm rfl rfl rfl rfl rfl Try.underlying31) rfl ?_
 refine ab aa 1 rfl ?_
 refine ae ?_
 refine aW ?_
 refine cw (β:=Nat×List bD×List bB×Int) (fun (p:Nat×List bD×List bB×Int)=>match p with|(q,cs,xs,e)=>⟨[(0,(aC (.p 0 0 0 0))),(2,(aC (.p 5 0 0 0))),(12,(aC (.s 12 0 8 xs.length))),(13,(aI (↑b.aq.length:Int))),(14,(aI (↑q:Int)))],[(0,(.box 98 (aU b 6 7 8 9 (.d (.v (x 17))) (.d (.v (x 19)))))),(5,(.box 147 (((aU b 10 11 12 13 (.d (.v (x 17))) (cI e)).set 2 (.s 10 0 6 cs.length)).set 4 (.s 12 0 8 xs.length)))),(6,(dK b.ao)),(7,(dC b.due)),(8,(dS b.aq)),(9,(cK b.aS)),(10,(dK cs)),(11,(dC b.due)),(12,(dS xs)),(13,(cK b.aS))],14⟩) (fun (p:Nat×List bD×List bB×Int)=>match p with|(q,cs,xs,e)=>q<=b.aq.length/\fk b.time b.aq 0 b.ao b.aq 0=fk b.time (b.aq.drop q) q cs xs e/\cs.length=b.ao.length/\xs.length=b.aq.length/\(∀ i,q<=i->xs[i]?=b.aq[i]?)) (fun (p:Nat×List bD×List bB×Int)=>match p with|(q,cs,xs,e)=>b.aq.length - q) (0,b.ao,b.aq,0) ?_ ?_ ?_
 ·exact ⟨by omega,rfl,rfl,rfl,fun _ _=>rfl⟩
 ·exact aD.bY id (by refine ⟨?_,?_,?_,?_,?_,trivial⟩<;>first|rfl|(simp only [bo];done)|(congr 3;omega)|(congr 4;omega)|(simp only [bp];rfl)) (by refine ⟨?_,?_,?_,?_,?_,?_,?_,?_,?_,?_,trivial⟩<;>first|rfl|(simp only [bo];done)|(congr 3;omega)|(congr 4;omega)|(simp only [bp];rfl)) rfl
 rintro ⟨q,cs,xs,e⟩ ⟨hi0_0,hi0_1,hi0_2,hi0_3,hi0_4⟩
 refine ad aa 1 rfl ?_
 refine af ?_
 refine ag rfl (fun hc1=>?_) (fun hc1=>?_)
 ·
  have hc1':=of_decide_eq_true hc1
  refine aP ?_
  refine af ?_
  refine aW ?_
  refine aE aa 1 rfl ?_
  refine ay (br (i:=q) rfl rfl rfl Try.underlying31 lU (by first|omega|(simp;done)|(simp;omega)) (by first|omega|(simp;done)|(simp;omega))) rfl ?_
  obtain ⟨x1,hx1⟩:=cq (xs:=xs) (i:=q) (by first|omega|(simp;done)|(simp;omega))
  have hx1w:=okp x1 (List.mem_of_getElem? (show b.aq[q]?=some x1 by rw [<-hi0_4 q (by omega)];exact hx1))
  have hx1A:=hx1w.2
  replace hx1w:=hx1w.1
  refine ay (dc rfl rfl rfl Try.underlying67 rfl lU (bu hx1) rfl) rfl ?_
  refine ab aa 3 rfl ?_
  refine ae ?_
  refine af ?_
  obtain ⟨b0,hr0⟩:∃ (b0:bB),dU x1 b.time=b0:=⟨_,rfl⟩
  have hlw:bG b0=0:=by rw [<-hr0];exact wI hx1w
  refine bc [0,2,12,13,14,4,3] [14,0,5,6,7,8,9,10,11,12,13] mixed rfl rfl ?_
  refine aA (kn:=[]) aa 6 rfl trivial ?_
  refine aT (n':=15) [19,24] [] rfl rfl (.inl ⟨(ah.plain rfl),aJ.cast (bP 15 (vY x1 b.time b0 hr0) ES rfl rfl ⟨⟨_,rfl,.g ⟨.d _,.d _,.d _,.d _,.d _,.d _,.d _,.d _,trivial⟩⟩,⟨_,rfl,.c (.d _)⟩,trivial⟩ ⟨trivial,trivial,trivial,trivial,trivial,trivial,trivial,trivial,trivial⟩ trivial rfl rfl rfl rfl) rfl⟩) rfl ?_
  refine aA (n':=16) (kn:=[]) aa 1 rfl trivial ?_
  refine bC [15,14,0,5,6,7,8,9,10,11,12,13] rfl rfl rfl rfl (by kernel_rfl) ?_
  refine ab aa 1 rfl ?_
  refine ae ?_
  refine af ?_
  obtain ⟨e1,hr1⟩:∃ (e1:Int),bK b0=e1:=⟨_,rfl⟩
  have hhb1:=om (show bG b0=0 by assumption)
  rw [hr1] at hhb1
  obtain ⟨e2,hr2⟩:∃ (e2:Int),bK x1=e2:=⟨_,rfl⟩
  have hhb2:=om (show bG x1=0 by assumption)
  rw [hr2] at hhb2
  obtain ⟨l23,e23,hr3⟩:∃ (l23:List bD) (e23:Int),cz cs e x1.aL (e1 - e2) 0=(l23,e23):=⟨_,_,rfl⟩
  have hsl3:l23.length=cs.length:=by have h:=fa cs e x1.aL (e1 - e2) 0;rw [hr3] at h;exact h
  refine cZ [0,2,12,13,14,4,3,5] [15,14,0,5,6,7,8,9,10,11,12,13] mixed rfl rfl ?_
  refine bQ (kn:=[]) aa 4 rfl trivial ?_
  refine bU (n':=16) [29] [] rfl rfl (.inl ⟨(ah.plain rfl),aJ.cast (bP 16 (jZ b0 (by first|assumption|omega|rfl|decide) e1 hr1) xP rfl rfl ⟨⟨_,rfl,.g ⟨.d _,.d _,.d _,.d _,.d _,.d _,.d _,.d _,trivial⟩⟩,trivial⟩ trivial trivial rfl rfl rfl rfl) rfl⟩) rfl ?_
  refine bQ (kn:=[]) aa 1 rfl trivial ?_
  refine bU (n':=16) [31] [] rfl rfl (.inl ⟨(ah.plain rfl),aJ.cast (bP 16 (jZ x1 (by first|assumption|omega|rfl|decide) e2 hr2) xP rfl rfl ⟨⟨_,rfl,.g ⟨.d _,.d _,.d _,.d _,.d _,.d _,.d _,.d _,trivial⟩⟩,trivial⟩ trivial trivial rfl rfl rfl rfl) rfl⟩) rfl ?_
  refine bU (n':=16) [30,32] [] rfl rfl (.inl ⟨(ah.plain rfl),aJ.cast (aK rfl rfl rfl (aH (by first|omega|(simp;done)|(simp;omega)))) rfl⟩) rfl ?_
  refine bU (n':=17) [26,28,33] [10,5] rfl rfl (.inl ⟨(ah.plain rfl),aJ.cast (cf (aX [5,10]) (aX [5,16]) (ms:=((dq.set 2 (some (.s 1 0 6 cs.length))).set 19 (some (cI e)))) (ms':=((dq.set 2 (some (.s 1 0 6 l23.length))).set 19 (some (cI e23)))) (fun x hx=>iC x hx cs e x1.aL (e1 - e2) 0 (by first|omega|(simp;done)|(simp;omega)) l23 e23 hr3) nn rfl rfl ⟨⟨_,rfl,.inl ⟨rfl,rfl⟩⟩,⟨_,rfl,.inr (.c (.d _))⟩,⟨_,rfl,.inr (.c (.d _))⟩,⟨_,rfl,.inr (.c (.d _))⟩,trivial⟩ rfl rfl rfl rfl rfl rfl rfl ⟨rfl,trivial⟩ rfl rfl rfl rfl rfl rfl rfl rfl rfl rfl rfl rfl rfl) rfl⟩) rfl ?_
  refine dL [0,2,12,13,14,3,5] [16,5,15,0,6,7,8,9,11,12,13] rfl rfl (by kernel_rfl) ?_
  refine then_ok ?_
  refine bc [0,2,12,13,14,3,5] [16,5,15,0,6,7,8,9,11,12,13] mixed rfl rfl ?_
  refine aA (kn:=[]) aa 7 rfl trivial ?_
  refine aT (n':=17) [39,40] [12] rfl rfl (.inl ⟨(ah.plain rfl),aJ.cast (br (i:=q) rfl rfl rfl Try.underlying31 lU (by first|omega|(simp;done)|(simp;omega)) (by first|omega|(simp;done)|(simp;omega))) rfl⟩) rfl ?_
  refine bC [16,5,15,0,6,7,8,9,11,12,13] rfl rfl rfl rfl (by kernel_rfl) ?_
  refine fV [16,5,15,0,6,7,8,9,11,12,13] (dH (ds:=[(dI b0.aL),(dI b0.az),(dI b0.sum),(dI b0.captured),(dI b0.bz),(dI b0.bm),(dI b0.cQ),(dB b0.shut)]) rfl rfl rfl rfl rfl lU rfl (Nat.le_of_ble_eq_true rfl) (bu hx1) rfl (eG (x':=b0) rfl)) rfl ?_
  refine bX ?_
  refine bn ?_
  refine then_ok ?_
  refine fq (k:=5) (q:=4) (c':=(.s 12 0 8 (((xs).set q b0).length))) rfl rfl (by first|rfl|(simp;done)|(congr 1;omega)) rfl ?_
  refine aw ?_
  refine ay (aK rfl rfl rfl (aH (by first|omega|(simp;done)|(simp;omega)))) rfl ?_
  refine ab aa 1 rfl ?_
  refine ae ?_
  refine ⟨(q+1,l23,(xs).set q b0,e23),⟨by omega,by rw [hi0_1,xy (a:=x1) (by rw [<-hi0_4 q (by omega)];exact hx1),hr0,hr1,hr2,hr3],by omega,by rw [List.length_set];omega,fun i hi=>by rw [List.getElem?_set_ne (by omega)];exact hi0_4 i (by omega)⟩,by first|omega|(simp;done)|(simp;omega),aD.bY (fun k=>if k=10 then 16 else k) (by refine ⟨?_,?_,?_,?_,?_,trivial⟩<;>first|rfl|(simp only [bo];done)|(congr 3;omega)|(congr 4;omega)|(simp only [bp];rfl)) (by refine ⟨?_,?_,?_,?_,?_,?_,?_,?_,?_,?_,trivial⟩<;>first|rfl|(simp only [bo];done)|(congr 3;omega)|(congr 4;omega)|(simp only [bp];rfl)) rfl⟩
 have hc1':=of_decide_eq_false hc1
 refine cm ?_
 refine aQ ?_
 refine aQ ?_
 refine bO ?_
 refine then_ok ?_
 rcases (show e=0\/¬e=0 from by omega) with hs2|hs2
 ·
  refine aw ?_
  refine ab aa 2 rfl ?_
  refine aM 18 [0,14,15,16,17] (cE (aX [0,5,6,7,8,9,10,11,12,13]) (aX [0,14,15,16,17]) (fb (x 17) (x 19) b (⟨b.time,b.down,cs,b.due,xs,b.s0,b.s1,b.n0,b.n1,b.w0,b.w1,b.bF,b.aS,b.book⟩:Bk) e (by first|assumption|omega)) fx rfl rfl ⟨⟨_,rfl,.inl ⟨rfl,rfl⟩⟩,⟨_,rfl,.inl ⟨rfl,rfl⟩⟩,trivial⟩ ⟨rfl,rfl,rfl,rfl,rfl,rfl,rfl,rfl,rfl,rfl,trivial⟩ rfl rfl rfl rfl rfl rfl trivial ⟨⟨trivial,trivial,trivial,trivial,trivial,trivial,trivial,trivial,trivial,trivial,trivial,trivial,trivial,trivial,trivial,trivial,trivial,trivial,trivial,trivial,trivial⟩,(fun _ _ _ _=>trivial),(fun _ _ _ _=>trivial),(fun _ _ _ _=>trivial),(fun _ _ _ _=>trivial),trivial⟩ rfl rfl rfl rfl) rfl ?_
  refine bX ?_
  have hX:gk b=(⟨b.time,b.down,cs,b.due,xs,b.s0,b.s1,b.n0,b.n1,b.w0,b.w1,b.bF,b.aS,b.book⟩:Bk):=by
    have hL:fk b.time b.aq 0 b.ao b.aq 0=(cs,xs,e):=by rw [hi0_1,List.drop_of_length_le (by omega)];rfl
    unfold gk;rw [hL];dsimp only;first|rw [if_pos (by assumption)]|rw [if_neg (by assumption)]
  rw [hX] at hr;clear hX
  subst hr
  refine cG aa [0,14,15,16,17] 5 rfl rfl rfl rfl rfl rfl ?_ ?_
  all_goals first|rfl|(simp [ar,aU,bb];done)|(simp [ar,aU,bb];omega)
 refine aw ?_
 refine ab aa 2 rfl ?_
 refine aM 18 [0,14,15,16,17] (cE (aX [0,5,6,7,8,9,10,11,12,13]) (aX [0,14,15,16,17]) (fN (x 17) (x 19) b (⟨b.time,b.down,cs,b.due,xs,b.s0,b.s1,b.n0,b.n1,b.w0,b.w1,b.bF,b.aS,b.book⟩:Bk) e (by first|assumption|omega)) fx rfl rfl ⟨⟨_,rfl,.inl ⟨rfl,rfl⟩⟩,⟨_,rfl,.inl ⟨rfl,rfl⟩⟩,trivial⟩ ⟨rfl,rfl,rfl,rfl,rfl,rfl,rfl,rfl,rfl,rfl,trivial⟩ rfl rfl rfl rfl rfl rfl trivial ⟨⟨trivial,trivial,trivial,trivial,trivial,trivial,trivial,trivial,trivial,trivial,trivial,trivial,trivial,trivial,trivial,trivial,trivial,trivial,trivial,trivial,trivial⟩,(fun _ _ _ _=>trivial),(fun _ _ _ _=>trivial),(fun _ _ _ _=>trivial),(fun _ _ _ _=>trivial),trivial⟩ rfl rfl rfl rfl) rfl ?_
 refine bX ?_
 have hX:gk b=b:=by
   have hL:fk b.time b.aq 0 b.ao b.aq 0=(cs,xs,e):=by rw [hi0_1,List.drop_of_length_le (by omega)];rfl
   unfold gk;rw [hL];dsimp only;first|rw [if_pos (by assumption)]|rw [if_neg (by assumption)]
 rw [hX] at hr;clear hX
 subst hr
 refine cG aa [0,14,15,16,17] 5 rfl rfl rfl rfl rfl rfl ?_ ?_
 all_goals first|rfl|(simp [ar,aU,bb];done)|(simp [ar,aU,bb];omega)
theorem Cv (x:Nat->Value) (hx:∀ i,(x i).oneCell'=true) (b:Bk) (d:aV) (ok:cj b) (hdn:b.down=false) (b2:Bk) (a2:Answer) (hr:eT b d=(b2,a2)):cA Try.prog 65 [(.c (.p 0 0 0 0)),(.c (.q (cP d) 0))] [(0,(.box 98 (aU b 1 2 3 4 (.d (.v (x 17))) (.d (.v (x 19)))))),(1,(dK b.ao)),(2,(dC b.due)),(3,(dS b.aq)),(4,(cK b.aS))] [0] (.v (.g [cI a2.err,cI a2.ba])) [(0,(.box 98 (aU b2 1 2 3 4 (.d (.v (x 17))) (.d (.v (x 19)))))),(1,(dK b2.ao)),(2,(dC b2.due)),(3,(dS b2.aq)),(4,(cK b2.aS))]:=by
 refine cA.mk 46 [(0,(aC (.p 0 0 0 0))),(1,(aC (.q (cP d) 0)))] 5 Try.func65 rfl rfl rfl rfl rfl rfl rfl rfl rfl ?_
 intro W0 F0 T0 pg
 obtain ⟨okt,okc,okd,oka,oky,okw0,okw1,okp,okv,okk0,okk1,okg,okl0,okl1,okp0,okp1,okn0,okn1,okq⟩:=id ok
 refine ad aa 1 rfl ?_
 refine af ?_
 refine af ?_
 rcases Bool.eq_false_or_eq_true (decide (d.sum < 0)) with hb1|hb1
 ·
  have hb1':=of_decide_eq_true hb1
  refine bc [0,1,4] [5,0,1,2,3,4] mixed rfl rfl ?_
  refine aA (kn:=[(9,true)]) aa 18 rfl ⟨hb1,trivial⟩ ?_
  refine bC [5,0,1,2,3,4] rfl rfl rfl rfl (by kernel_rfl) ?_
  refine ae ?_
  refine ag rfl (fun _=>?_) (fun hno=>by cases hno)
  refine ad aa 2 rfl ?_
  refine ax ?_
  refine an ?_
  have hX:eT b d=(b,(⟨3,0⟩:Answer)):=by
    unfold eT;(repeat' split)<;>first|rfl|omega|(exfalso;omega)|(simp_all;done)|(simp_all;omega)
  rw [hX] at hr;clear hX
  simp only [Prod.mk.injEq] at hr;obtain ⟨rfl,rfl⟩:=hr
  refine al aa [0,1,2,3,4,5] 5 rfl rfl rfl rfl rfl rfl ?_ ?_
  all_goals first|rfl|(simp [ar,aU,bb];done)|(simp [ar,aU,bb];omega)
 have hb1':=of_decide_eq_false hb1
 refine bc [0,1,4] [5,0,1,2,3,4] mixed rfl rfl ?_
 refine aA (kn:=[(9,false)]) aa 15 rfl ⟨hb1,trivial⟩ ?_
 refine aT (n':=6) [19,10] [] rfl rfl (.inl ⟨(ah.yes rfl rfl rfl),aJ.cast (aK rfl rfl rfl (aH (by first|omega|(simp;done)|(simp;omega)))) rfl⟩) rfl ?_
 refine aA (kn:=[]) aa 2 rfl trivial ?_
 refine bC [5,0,1,2,3,4] rfl rfl rfl rfl (by kernel_rfl) ?_
 refine ae ?_
 refine ag rfl (fun hc3=>?_) (fun hc3=>?_)
 ·
  have hc3':=of_decide_eq_true hc3
  refine ad aa 2 rfl ?_
  refine ax ?_
  refine an ?_
  have hX:eT b d=(b,(⟨3,0⟩:Answer)):=by
    unfold eT;(repeat' split)<;>first|rfl|omega|(exfalso;omega)|(simp_all;done)|(simp_all;omega)
  rw [hX] at hr;clear hX
  simp only [Prod.mk.injEq] at hr;obtain ⟨rfl,rfl⟩:=hr
  refine al aa [0,1,2,3,4,5] 5 rfl rfl rfl rfl rfl rfl ?_ ?_
  all_goals first|rfl|(simp [ar,aU,bb];done)|(simp [ar,aU,bb];omega)
 have hc3':=of_decide_eq_false hc3
 refine aP ?_
 refine af ?_
 refine bc [0,1,4] [5,0,1,2,3,4] mixed rfl rfl ?_
 refine aA (kn:=[]) aa 9 rfl trivial ?_
 refine aT (n':=6) [28,32] [] rfl rfl (.inl ⟨(ah.plain rfl),aJ.cast (aK rfl rfl rfl (aH (by first|omega|(simp;done)|(simp;omega)))) rfl⟩) rfl ?_
 refine aA (kn:=[]) aa 3 rfl trivial ?_
 refine bC [5,0,1,2,3,4] rfl rfl rfl rfl (by kernel_rfl) ?_
 refine ab aa 1 rfl ?_
 refine ae ?_
 refine af ?_
 refine ad aa 6 rfl ?_
 refine ag rfl (fun _=>?_) (fun hno=>by simp [hdn] at hno)
 refine aw ?_
 refine ab aa 1 rfl ?_
 obtain ⟨b20,hr0⟩:∃ (b20:Bk),gk (⟨b.time+d.sum,b.down,b.ao,b.due,b.aq,b.s0,b.s1,b.n0,b.n1,b.w0,b.w1,b.bF,b.aS,b.book⟩:Bk)=b20:=⟨_,rfl⟩
 refine aM 10 [0,6,7,8,9,5] (cf id (aX [0,6,7,8,9]) (ms:=[some (cI (b.time+d.sum)),some (cB b.down),some (.s 1 0 6 b.ao.length),some (.s 2 0 1 b.due.length),some (.s 3 0 8 b.aq.length),some (cI b.s0.bW),some (de b.s0.kept),some (cI b.s1.bW),some (de b.s1.kept),some (cI b.n0),some (cI b.n1),some (ej b.w0),some (ej b.w1),some (cI b.bF.cap),some (gn b.bF.used),some (gI b.bF.aY),some (.s 4 0 4 b.aS.length),none,some (dP b.book),none]) (ms':=(iG b20 1 2 3 4 none none)) (fun x hx=>zy x hx (⟨b.time+d.sum,b.down,b.ao,b.due,b.aq,b.s0,b.s1,b.n0,b.n1,b.w0,b.w1,b.bF,b.aS,b.book⟩:Bk) (by first|assumption|exact cj.tick (by assumption) (by omega) (by omega)) b20 hr0) DG rfl rfl ⟨⟨_,rfl,.inl ⟨rfl,rfl⟩⟩,trivial⟩ rfl rfl rfl rfl rfl rfl rfl ⟨rfl,rfl,rfl,rfl,trivial⟩ rfl rfl rfl rfl rfl rfl rfl rfl rfl rfl rfl rfl rfl) rfl ?_
 refine ae ?_
 refine ad aa 2 rfl ?_
 refine ax ?_
 have hX:eT b d=(b20,(⟨0,0⟩:Answer)):=by
   unfold eT;simp only [dt,hr0];(repeat' split)<;>first|rfl|omega|(exfalso;omega)|(simp_all;done)|(simp_all;omega)
 rw [hX] at hr;clear hX
 simp only [Prod.mk.injEq] at hr;obtain ⟨rfl,rfl⟩:=hr
 refine al aa [0,6,7,8,9,5] 5 rfl rfl rfl rfl rfl rfl ?_ ?_
 all_goals first|rfl|(simp [ar,aU,bb];done)|(simp [ar,aU,bb];omega)
theorem Cw (x:Nat->Value) (hx:∀ i,(x i).oneCell'=true) (b:Bk) (d:aV) (ok:cj b) (hdn:b.down=true) (b2:Bk) (a2:Answer) (hr:eT b d=(b2,a2)):cA Try.prog 65 [(.c (.p 0 0 0 0)),(.c (.q (cP d) 0))] [(0,(.box 98 (aU b 1 2 3 4 (.d (.v (x 17))) (.d (.v (x 19)))))),(1,(dK b.ao)),(2,(dC b.due)),(3,(dS b.aq)),(4,(cK b.aS))] [0] (.v (.g [cI a2.err,cI a2.ba])) [(0,(.box 98 (aU b2 1 2 3 4 (.d (.v (x 17))) (.d (.v (x 19)))))),(1,(dK b2.ao)),(2,(dC b2.due)),(3,(dS b2.aq)),(4,(cK b2.aS))]:=by
 refine cA.mk 46 [(0,(aC (.p 0 0 0 0))),(1,(aC (.q (cP d) 0)))] 5 Try.func65 rfl rfl rfl rfl rfl rfl rfl rfl rfl ?_
 intro W0 F0 T0 pg
 obtain ⟨okt,okc,okd,oka,oky,okw0,okw1,okp,okv,okk0,okk1,okg,okl0,okl1,okp0,okp1,okn0,okn1,okq⟩:=id ok
 refine ad aa 1 rfl ?_
 refine af ?_
 refine af ?_
 rcases Bool.eq_false_or_eq_true (decide (d.sum < 0)) with hb1|hb1
 ·
  have hb1':=of_decide_eq_true hb1
  refine bc [0,1,4] [5,0,1,2,3,4] mixed rfl rfl ?_
  refine aA (kn:=[(9,true)]) aa 18 rfl ⟨hb1,trivial⟩ ?_
  refine bC [5,0,1,2,3,4] rfl rfl rfl rfl (by kernel_rfl) ?_
  refine ae ?_
  refine ag rfl (fun _=>?_) (fun hno=>by cases hno)
  refine ad aa 2 rfl ?_
  refine ax ?_
  refine an ?_
  have hX:eT b d=(b,(⟨3,0⟩:Answer)):=by
    unfold eT;(repeat' split)<;>first|rfl|omega|(exfalso;omega)|(simp_all;done)|(simp_all;omega)
  rw [hX] at hr;clear hX
  simp only [Prod.mk.injEq] at hr;obtain ⟨rfl,rfl⟩:=hr
  refine al aa [0,1,2,3,4,5] 5 rfl rfl rfl rfl rfl rfl ?_ ?_
  all_goals first|rfl|(simp [ar,aU,bb];done)|(simp [ar,aU,bb];omega)
 have hb1':=of_decide_eq_false hb1
 refine bc [0,1,4] [5,0,1,2,3,4] mixed rfl rfl ?_
 refine aA (kn:=[(9,false)]) aa 15 rfl ⟨hb1,trivial⟩ ?_
 refine aT (n':=6) [19,10] [] rfl rfl (.inl ⟨(ah.yes rfl rfl rfl),aJ.cast (aK rfl rfl rfl (aH (by first|omega|(simp;done)|(simp;omega)))) rfl⟩) rfl ?_
 refine aA (kn:=[]) aa 2 rfl trivial ?_
 refine bC [5,0,1,2,3,4] rfl rfl rfl rfl (by kernel_rfl) ?_
 refine ae ?_
 refine ag rfl (fun hc3=>?_) (fun hc3=>?_)
 ·
  have hc3':=of_decide_eq_true hc3
  refine ad aa 2 rfl ?_
  refine ax ?_
  refine an ?_
  have hX:eT b d=(b,(⟨3,0⟩:Answer)):=by
    unfold eT;(repeat' split)<;>first|rfl|omega|(exfalso;omega)|(simp_all;done)|(simp_all;omega)
  rw [hX] at hr;clear hX
  simp only [Prod.mk.injEq] at hr;obtain ⟨rfl,rfl⟩:=hr
  refine al aa [0,1,2,3,4,5] 5 rfl rfl rfl rfl rfl rfl ?_ ?_
  all_goals first|rfl|(simp [ar,aU,bb];done)|(simp [ar,aU,bb];omega)
 have hc3':=of_decide_eq_false hc3
 refine aP ?_
 refine af ?_
 refine bc [0,1,4] [5,0,1,2,3,4] mixed rfl rfl ?_
 refine aA (kn:=[]) aa 9 rfl trivial ?_
 refine aT (n':=6) [28,32] [] rfl rfl (.inl ⟨(ah.plain rfl),aJ.cast (aK rfl rfl rfl (aH (by first|omega|(simp;done)|(simp;omega)))) rfl⟩) rfl ?_
 refine aA (kn:=[]) aa 3 rfl trivial ?_
 refine bC [5,0,1,2,3,4] rfl rfl rfl rfl (by kernel_rfl) ?_
 refine ab aa 1 rfl ?_
 refine ae ?_
 refine af ?_
 refine ad aa 6 rfl ?_
 refine ag rfl (fun hno=>by simp [hdn] at hno) (fun _=>?_)
 refine aP ?_
 refine ad aa 2 rfl ?_
 refine ax ?_
 have hX:eT b d=((⟨b.time+d.sum,b.down,b.ao,b.due,b.aq,b.s0,b.s1,b.n0,b.n1,b.w0,b.w1,b.bF,b.aS,b.book⟩:Bk),(⟨0,0⟩:Answer)):=by
   unfold eT;(repeat' split)<;>first|rfl|omega|(exfalso;omega)|(simp_all;done)|(simp_all;omega)
 rw [hX] at hr;clear hX
 simp only [Prod.mk.injEq] at hr;obtain ⟨rfl,rfl⟩:=hr
 refine al aa [0,1,2,3,4,5] 5 rfl rfl rfl rfl rfl rfl ?_ ?_
 all_goals first|rfl|(simp [ar,aU,bb];done)|(simp [ar,aU,bb];omega)
theorem DU (x:Nat->Value) (hx:∀ i,(x i).oneCell'=true) (b:Bk) (d:aV) (ok:cj b) (b2:Bk) (a2:Answer) (hr:eT b d=(b2,a2)):cA Try.prog 65 [(.c (.p 0 0 0 0)),(.c (.q (cP d) 0))] [(0,(.box 98 (aU b 1 2 3 4 (.d (.v (x 17))) (.d (.v (x 19)))))),(1,(dK b.ao)),(2,(dC b.due)),(3,(dS b.aq)),(4,(cK b.aS))] [0] (.v (.g [cI a2.err,cI a2.ba])) [(0,(.box 98 (aU b2 1 2 3 4 (.d (.v (x 17))) (.d (.v (x 19)))))),(1,(dK b2.ao)),(2,(dC b2.due)),(3,(dS b2.aq)),(4,(cK b2.aS))]:=by
  cases hdn:b.down
  ·exact Cv x hx b d ok hdn b2 a2 hr
  ·exact Cw x hx b d ok hdn b2 a2 hr
end Go.Proofs.Ytegepioggeggaaa.Dev
