/- A part of the proof: Bank10, Bank11, Bank5, Bank6. No condition. -/
import Derived.Test.YtegepioggeggaaaD11
set_option linter.unusedVariables false
set_option linter.unusedSimpArgs false
set_option maxHeartbeats 8000000
set_option maxRecDepth 100000
namespace Go.Proofs.Ytegepioggeggaaa.Dev
open Go.RowKit

theorem AW (x:Nat->Value) (hx:∀ i,(x i).oneCell'=true) (b:Bk) (idn kind aE move sum:Int) (ok:cz b) (b2:Bk) (a2:Answer) (hr:cA b (⟨idn,kind,0,aE,move,sum⟩:bJ)=(b2,a2)):cM Try.prog 67 [(.c (.p 0 0 0 0)),(.c (.q (dj (⟨idn,kind,0,aE,move,sum⟩:bJ)) 0))] [(0,(.box 98 (aZ b 1 2 3 4 (.d (.v (x 17))) (.d (.v (x 19)))))),(1,(dV b.al)),(2,(dL b.due)),(3,(dY b.au)),(4,(cT b.aS))] [0] (.v (.g [cI a2.err,cI a2.bd])) [(0,(.box 98 (aZ b2 1 2 3 4 (.d (.v (x 17))) (.d (.v (x 19)))))),(1,(dV b2.al)),(2,(dL b2.due)),(3,(dY b2.au)),(4,(cT b2.aS))]:=by
 refine cM.mk 153 [(0,(aC (.p 0 0 0 0))),(1,(aC (.q (dj (⟨idn,kind,0,aE,move,sum⟩:bJ)) 0)))] 5 Try.func67 rfl rfl rfl rfl rfl rfl rfl rfl rfl ?_
 intro W0 F0 T0 pg
 obtain ⟨okt,okc,okd,oka,oky,okw0,okw1,okp,okv,okk0,okk1,okg,okl0,okl1,okp0,okp1,okn0,okn1,okq⟩:=id ok
 refine ae aa 1 rfl ?_
 refine ag ?_
 refine ag ?_
 refine aX [0,1,4] [5,0,1,2,3,4] mixed rfl rfl ?_
 refine ay (kn:=[(15,false)]) aa 21 rfl ⟨rfl,trivial⟩ ?_
 refine aP (n':=6) [31,28,23] [0] rfl rfl (.inl ⟨(ah.yes rfl rfl rfl),aJ.cast (cC (i:=0) rfl rfl rfl Try.underlying38 gM rfl (by decide)) rfl⟩) rfl ?_
 refine ay (kn:=[]) aa 1 rfl trivial ?_
 refine aP (n':=6) [33,23] [] rfl rfl (.inl ⟨(ah.yes rfl rfl rfl),aJ.cast (bP rfl rfl rfl rfl rfl Try.underlying37) rfl⟩) rfl ?_
 refine ay (kn:=[]) aa 2 rfl trivial ?_
 refine bw [5,0,1,2,3,4] rfl rfl rfl rfl (by kernel_rfl) ?_
 refine af ?_
 refine aj rfl (fun hc1=>?_) (fun hc1=>?_)
 ·
  have hc1':=of_decide_eq_true hc1
  refine ae aa 2 rfl ?_
  refine aA ?_
  refine ax ?_
  have hX:cA b (⟨idn,kind,0,aE,move,sum⟩:bJ)=(b,(⟨6,0⟩:Answer)):=by
    unfold cA;dsimp only;rw [if_pos rfl];unfold fQ;rw [List.getElem?_eq_none (by omega)]
  rw [hX] at hr;clear hX
  simp only [Prod.mk.injEq] at hr;obtain ⟨rfl,rfl⟩:=hr
  refine aq aa [0,1,2,3,4,5] 5 rfl rfl rfl rfl rfl rfl ?_ ?_
  all_goals first|rfl|(simp [aD,aZ,bm];done)|(simp [aD,aZ,bm];omega)
 have hc1':=of_decide_eq_false hc1
 refine aQ ?_
 refine ag ?_
 obtain ⟨x1,hx1⟩:=cg (xs:=b.w0) (i:=0) (by first|omega|(simp;done)|(simp;omega))
 refine aX [0,1,4] [5,0,1,2,3,4] mixed rfl rfl ?_
 refine ay (kn:=[]) aa 8 rfl trivial ?_
 refine aP (n':=6) [45,42] [0] rfl rfl (.inl ⟨(ah.plain rfl),aJ.cast (cC (i:=0) rfl rfl rfl Try.underlying38 gM rfl (by decide)) rfl⟩) rfl ?_
 refine ay (kn:=[]) aa 1 rfl trivial ?_
 refine aP (n':=6) [47] [] rfl rfl (.inl ⟨(ah.plain rfl),aJ.cast (bX (i:=0) rfl rfl rfl Try.underlying37 lZ (by first|omega|(simp;done)|(simp;omega)) (bj hx1)) rfl⟩) rfl ?_
 refine ay (n':=7) (kn:=[]) aa 2 rfl trivial ?_
 refine bw [6,5,0,1,2,3,4] rfl rfl rfl rfl (by kernel_rfl) ?_
 refine ad aa 1 rfl ?_
 refine af ?_
 have hpk:=okp0 x1 (List.mem_of_getElem? hx1)
 have hI0:∀ t∈b.s0.kept,fj t.number:=fun t ht=>(okk0 t ht).1
 have hI1:∀ t∈b.s1.kept,fj t.number:=fun t ht=>(okk1 t ht).1
 have hA:∀ a∈b.au,0<=a.aO/\a.aO < b.al.length/\0<=a.aE/\a.aE < b.due.length:=fun a ha=>(okp a ha).2
 refine aH aa 1 rfl ?_
 refine aT 16 [0,7,8,9,10,11,12,13,14,15,6,5] (cO id (bh [0,7,8,9,10,11,12,13,14,15]) (kD (x 17) (x 19) b (by first|omega|(simp;done)|(simp;omega)) (by first|omega|(simp;done)|(simp;omega)) (by first|omega|(simp;done)|(simp;omega)) (by first|omega|(simp;done)|(simp;omega))) qY rfl rfl ⟨⟨_,rfl,.inl ⟨rfl,rfl⟩⟩,trivial⟩ ⟨rfl,rfl,rfl,rfl,rfl,trivial⟩ rfl rfl rfl rfl rfl rfl trivial ⟨⟨trivial,trivial,trivial,trivial,trivial,trivial,trivial,trivial,trivial,trivial,trivial,trivial,trivial,trivial,trivial,trivial,trivial,trivial,trivial,trivial,trivial⟩,⟨trivial,trivial,trivial,trivial,trivial,trivial,trivial,trivial,trivial,trivial,trivial,trivial,trivial,trivial,trivial,trivial,trivial,trivial,trivial,trivial,trivial⟩,(fun _ _ _ _=>trivial),(fun _ _ _ _=>trivial),(fun _ _ _ _=>trivial),(fun _ _ _ _=>trivial),(fun _ _ _ _=>trivial),(fun _ _ _ _=>trivial),(fun _ _ _ _=>trivial),(fun _ _ _ _=>trivial),trivial⟩ rfl rfl rfl rfl) rfl ?_
 refine ad aa 1 rfl ?_
 refine af ?_
 refine ag ?_
 refine aX [0,1,4,5,6] [0,7,8,9,10,11,12,13,14,15,6,5] mixed rfl rfl ?_
 refine ay (kn:=[]) aa 13 rfl trivial ?_
 refine aP (n':=16) [64,61] [0] rfl rfl (.inl ⟨(ah.plain rfl),aJ.cast (cC (i:=0) rfl rfl rfl Try.underlying38 gM rfl (by decide)) rfl⟩) rfl ?_
 refine ay (kn:=[]) aa 1 rfl trivial ?_
 refine aP (n':=16) [66] [] rfl rfl (.inl ⟨(ah.plain rfl),aJ.cast (vJ (l:=1) (h:=b.w0.length) (ys:=((b.w0).drop 1).map fx) rfl Try.underlying37 lZ rfl (.inr ⟨_,rfl,rfl⟩) (.inl ⟨rfl,by simp⟩) (by first|omega|(simp;done)|(simp;omega)) (by first|omega|(simp;done)|(simp;omega)) (by first|(simp;done)|(rw [List.map_drop];exact List.take_of_length_le (by simp)))) rfl⟩) rfl ?_
 refine ay (kn:=[]) aa 3 rfl trivial ?_
 refine aP (n':=16) [70,56] [7] rfl rfl (.inl ⟨(ah.plain rfl),aJ.cast (cC (i:=0) rfl rfl rfl Try.underlying38 gM rfl (by decide)) rfl⟩) rfl ?_
 refine bw [0,7,8,9,10,11,12,13,14,15,6,5] rfl rfl rfl rfl (by kernel_rfl) ?_
 refine ad aa 1 rfl ?_
 refine af ?_
 refine ag ?_
 refine ae aa 5 rfl ?_
 refine aj rfl (fun hc2=>?_) (fun hc2=>?_)
 ·
  have hc2':=of_decide_eq_true hc2
  refine aH aa 2 rfl ?_
  refine aT 20 [0,16,17,18,19,6,5] (cO (bh [0,7,8,9,10,11,12,13,14,15]) (bh [0,16,17,18,19]) (fw (x 17) (x 19) b (⟨b.time,b.down,b.al,b.due,b.au,b.s0,b.s1,b.n0,b.n1,(b.w0).drop 1,b.w1,b.aY,b.aS,b.book⟩:Bk) 0 (by first|assumption|omega)) fO rfl rfl ⟨⟨_,rfl,.inl ⟨rfl,rfl⟩⟩,⟨_,rfl,.inl ⟨rfl,rfl⟩⟩,trivial⟩ ⟨rfl,rfl,rfl,rfl,rfl,rfl,rfl,rfl,rfl,rfl,trivial⟩ rfl rfl rfl rfl rfl rfl trivial ⟨⟨trivial,trivial,trivial,trivial,trivial,trivial,trivial,trivial,trivial,trivial,trivial,trivial,trivial,trivial,trivial,trivial,trivial,trivial,trivial,trivial,trivial⟩,(fun _ _ _ _=>trivial),(fun _ _ _ _=>trivial),(fun _ _ _ _=>trivial),(fun _ _ _ _=>trivial),trivial⟩ rfl rfl rfl rfl) rfl ?_
  refine ad aa 2 rfl ?_
  refine af ?_
  refine aA ?_
  refine ax ?_
  have hX:cA b (⟨idn,kind,0,aE,move,sum⟩:bJ)=((⟨b.time,b.down,b.al,b.due,b.au,b.s0,b.s1,b.n0,b.n1,(b.w0).drop 1,b.w1,b.aY,b.aS,b.book⟩:Bk),(⟨0,0⟩:Answer)):=by
    unfold cA;dsimp only;rw [if_pos rfl];unfold fQ;rw [hx1];dsimp only;(try simp only [dw]);(try unfold dw);(repeat' split)<;>first|rfl|omega|(exfalso;omega)|(simp_all;done)|(simp_all;omega)
  rw [hX] at hr;clear hX
  simp only [Prod.mk.injEq] at hr;obtain ⟨rfl,rfl⟩:=hr
  refine aq aa [0,16,17,18,19,5] 5 rfl rfl rfl rfl rfl rfl ?_ ?_
  all_goals first|rfl|(simp [aD,aZ,bm];done)|(simp [aD,aZ,bm];omega)
 have hc2':=of_decide_eq_false hc2
 refine aQ ?_
 refine ag ?_
 refine ae aa 3 rfl ?_
 refine aj rfl (fun hc3=>?_) (fun hc3=>?_)
 ·
  have hc3':=of_decide_eq_true hc3
  refine ag ?_
  obtain ⟨xr0,e0,hr0⟩:∃ (xr0:bS) (e0:Int),eh b.s0 x1.seen=(xr0,e0):=⟨_,_,rfl⟩
  refine di [0,1,4,5,6] [0,7,8,9,10,11,12,13,14,15,6,5] mixed rfl rfl ?_
  refine bW (kn:=[]) aa 8 rfl trivial ?_
  refine cb (n':=16) [92,89] [7] rfl rfl (.inl ⟨(ah.plain rfl),aJ.cast (cC (i:=0) rfl rfl rfl Try.underlying35 jk rfl (by decide)) rfl⟩) rfl ?_
  refine bW (kn:=[]) aa 3 rfl trivial ?_
  refine cb (n':=16) [94,96] [] rfl rfl (.inl ⟨(ah.plain rfl),aJ.cast (bU 16 (Fn.frozen (av':=(.t [(.g [(cI xr0.bq),(ck xr0.kept)]),(.c (cI e0))])) (qt b.s0 x1.seen (by first|assumption|exact kz (by assumption) (by omega)|exact jH (by assumption) (by assumption)|(simp [fj];done)) xr0 e0 hr0) ⟨⟨.inl ⟨_,rfl,rfl⟩,.inr ⟨_,_,_,_,_,rfl,rfl,rfl,by simp⟩,trivial⟩,.inl ⟨_,rfl,rfl⟩,trivial⟩) EH rfl rfl ⟨⟨_,rfl,.g ⟨.d _,.d _,trivial⟩⟩,⟨_,rfl,.c (.d _)⟩,trivial⟩ ⟨⟨trivial,trivial,trivial⟩,trivial,trivial⟩ trivial rfl rfl rfl rfl) rfl⟩) rfl ?_
  refine bW (n':=17) (kn:=[]) aa 6 rfl trivial ?_
  refine dW [0,1,4,5,6,7,8] [16,0,7,8,9,10,11,12,13,14,15,6,5] rfl rfl (by kernel_rfl) ?_
  refine then_ok ?_
  refine ag ?_
  refine aH aa 2 rfl ?_
  obtain ⟨e21,hr1⟩:∃ (e21:Int),dG 0 e0=e21:=⟨_,rfl⟩
  refine aT 17 [7,16,0,8,9,10,11,12,13,14,15,6,5] (cu (bh [7]) (bh [7]) (ms:=(dD.set 19 (some (cI 0)))) (ms':=(dD.set 19 (some (cI e21)))) (fun x hx=>kd x hx 0 e0 e21 hr1) nT rfl rfl ⟨⟨_,rfl,.inl ⟨rfl,rfl⟩⟩,⟨_,rfl,.inr (.c (.d _))⟩,trivial⟩ rfl rfl rfl rfl rfl rfl rfl trivial rfl rfl rfl rfl rfl rfl rfl rfl rfl rfl rfl rfl rfl) rfl ?_
  refine ad aa 1 rfl ?_
  refine af ?_
  refine aj rfl (fun hc4=>?_) (fun hc4=>?_)
  ·
   have hc4':=hc4;try simp only [bx,bV] at hc4'
   refine aX [0,1,4,5,6,7] [7,16,0,8,9,10,11,12,13,14,15,6,5] mixed rfl rfl ?_
   refine ay (kn:=[]) aa 9 rfl trivial ?_
   refine aP (n':=17) [112,108] [7] rfl rfl (.inl ⟨(ah.plain rfl),aJ.cast (cC (i:=0) rfl rfl rfl Try.underlying35 jk rfl (by decide)) rfl⟩) rfl ?_
   refine bw [7,16,0,8,9,10,11,12,13,14,15,6,5] rfl rfl rfl rfl (by kernel_rfl) ?_
   refine ad aa 1 rfl ?_
   refine af ?_
   rcases (show e21=0\/¬e21=0 from by omega) with hs5|hs5
   ·
    refine aH aa 2 rfl ?_
    refine aT 21 [0,17,18,19,20,16,6,5] (cO (bh [0,7,8,9,10,11,12,13,14,15]) (bh [0,17,18,19,20]) (fw (x 17) (x 19) b (⟨b.time,b.down,b.al,b.due,b.au,xr0,b.s1,b.n0,b.n1,(b.w0).drop 1,b.w1,b.aY,b.aS,b.book⟩:Bk) e21 (by first|assumption|omega)) fO rfl rfl ⟨⟨_,rfl,.inl ⟨rfl,rfl⟩⟩,⟨_,rfl,.inl ⟨rfl,rfl⟩⟩,trivial⟩ ⟨rfl,rfl,rfl,rfl,rfl,rfl,rfl,rfl,rfl,rfl,trivial⟩ rfl rfl rfl rfl rfl rfl trivial ⟨⟨trivial,trivial,trivial,trivial,trivial,trivial,trivial,trivial,trivial,trivial,trivial,trivial,trivial,trivial,trivial,trivial,trivial,trivial,trivial,trivial,trivial⟩,(fun _ _ _ _=>trivial),(fun _ _ _ _=>trivial),(fun _ _ _ _=>trivial),(fun _ _ _ _=>trivial),trivial⟩ rfl rfl rfl rfl) rfl ?_
    refine ad aa 2 rfl ?_
    refine af ?_
    refine aA ?_
    refine ax ?_
    have hX:cA b (⟨idn,kind,0,aE,move,sum⟩:bJ)=((⟨b.time,b.down,b.al,b.due,b.au,xr0,b.s1,b.n0,b.n1,(b.w0).drop 1,b.w1,b.aY,b.aS,b.book⟩:Bk),(⟨e21,0⟩:Answer)):=by
      unfold cA;dsimp only;rw [if_pos rfl];unfold fQ;rw [hx1];dsimp only;unfold dG at hr1;simp only [if_true] at hr1;(try simp only [hr0]);(try unfold dw);(repeat' split)<;>first|rfl|omega|(exfalso;omega)|(simp_all;done)|(simp_all;omega)
    rw [hX] at hr;clear hX
    simp only [Prod.mk.injEq] at hr;obtain ⟨rfl,rfl⟩:=hr
    refine aq aa [0,17,18,19,20,5] 5 rfl rfl rfl rfl rfl rfl ?_ ?_
    all_goals first|rfl|(simp [aD,aZ,bm];done)|(simp [aD,aZ,bm];omega)
   refine aH aa 2 rfl ?_
   refine aT 21 [0,17,18,19,20,16,6,5] (cO (bh [0,7,8,9,10,11,12,13,14,15]) (bh [0,17,18,19,20]) (gh (x 17) (x 19) b (⟨b.time,b.down,b.al,b.due,b.au,xr0,b.s1,b.n0,b.n1,(b.w0).drop 1,b.w1,b.aY,b.aS,b.book⟩:Bk) e21 (by first|assumption|omega)) fO rfl rfl ⟨⟨_,rfl,.inl ⟨rfl,rfl⟩⟩,⟨_,rfl,.inl ⟨rfl,rfl⟩⟩,trivial⟩ ⟨rfl,rfl,rfl,rfl,rfl,rfl,rfl,rfl,rfl,rfl,trivial⟩ rfl rfl rfl rfl rfl rfl trivial ⟨⟨trivial,trivial,trivial,trivial,trivial,trivial,trivial,trivial,trivial,trivial,trivial,trivial,trivial,trivial,trivial,trivial,trivial,trivial,trivial,trivial,trivial⟩,(fun _ _ _ _=>trivial),(fun _ _ _ _=>trivial),(fun _ _ _ _=>trivial),(fun _ _ _ _=>trivial),trivial⟩ rfl rfl rfl rfl) rfl ?_
   refine ad aa 2 rfl ?_
   refine af ?_
   refine aA ?_
   refine ax ?_
   have hX:cA b (⟨idn,kind,0,aE,move,sum⟩:bJ)=(b,(⟨e21,0⟩:Answer)):=by
     unfold cA;dsimp only;rw [if_pos rfl];unfold fQ;rw [hx1];dsimp only;unfold dG at hr1;simp only [if_true] at hr1;(try simp only [hr0]);(try unfold dw);(repeat' split)<;>first|rfl|omega|(exfalso;omega)|(simp_all;done)|(simp_all;omega)
   rw [hX] at hr;clear hX
   simp only [Prod.mk.injEq] at hr;obtain ⟨rfl,rfl⟩:=hr
   refine aq aa [0,17,18,19,20,5] 5 rfl rfl rfl rfl rfl rfl ?_ ?_
   all_goals first|rfl|(simp [aD,aZ,bm];done)|(simp [aD,aZ,bm];omega)
  have hc4':=hc4;try simp only [bx,bV] at hc4'
  refine aQ ?_
  rcases (show e21=0\/¬e21=0 from by omega) with hs6|hs6
  ·
   refine aH aa 2 rfl ?_
   refine aT 21 [0,17,18,19,20,16,6,5] (cO (bh [0,7,8,9,10,11,12,13,14,15]) (bh [0,17,18,19,20]) (fw (x 17) (x 19) b (⟨b.time,b.down,b.al,b.due,b.au,b.s0,b.s1,b.n0,b.n1,(b.w0).drop 1,b.w1,b.aY,b.aS,b.book⟩:Bk) e21 (by first|assumption|omega)) fO rfl rfl ⟨⟨_,rfl,.inl ⟨rfl,rfl⟩⟩,⟨_,rfl,.inl ⟨rfl,rfl⟩⟩,trivial⟩ ⟨rfl,rfl,rfl,rfl,rfl,rfl,rfl,rfl,rfl,rfl,trivial⟩ rfl rfl rfl rfl rfl rfl trivial ⟨⟨trivial,trivial,trivial,trivial,trivial,trivial,trivial,trivial,trivial,trivial,trivial,trivial,trivial,trivial,trivial,trivial,trivial,trivial,trivial,trivial,trivial⟩,(fun _ _ _ _=>trivial),(fun _ _ _ _=>trivial),(fun _ _ _ _=>trivial),(fun _ _ _ _=>trivial),trivial⟩ rfl rfl rfl rfl) rfl ?_
   refine ad aa 2 rfl ?_
   refine af ?_
   refine aA ?_
   refine ax ?_
   have hX:cA b (⟨idn,kind,0,aE,move,sum⟩:bJ)=((⟨b.time,b.down,b.al,b.due,b.au,b.s0,b.s1,b.n0,b.n1,(b.w0).drop 1,b.w1,b.aY,b.aS,b.book⟩:Bk),(⟨e21,0⟩:Answer)):=by
     unfold cA;dsimp only;rw [if_pos rfl];unfold fQ;rw [hx1];dsimp only;unfold dG at hr1;simp only [if_true] at hr1;(try simp only [hr0]);(try unfold dw);(repeat' split)<;>first|rfl|omega|(exfalso;omega)|(simp_all;done)|(simp_all;omega)
   rw [hX] at hr;clear hX
   simp only [Prod.mk.injEq] at hr;obtain ⟨rfl,rfl⟩:=hr
   refine aq aa [0,17,18,19,20,5] 5 rfl rfl rfl rfl rfl rfl ?_ ?_
   all_goals first|rfl|(simp [aD,aZ,bm];done)|(simp [aD,aZ,bm];omega)
  refine aH aa 2 rfl ?_
  refine aT 21 [0,17,18,19,20,16,6,5] (cO (bh [0,7,8,9,10,11,12,13,14,15]) (bh [0,17,18,19,20]) (gh (x 17) (x 19) b (⟨b.time,b.down,b.al,b.due,b.au,b.s0,b.s1,b.n0,b.n1,(b.w0).drop 1,b.w1,b.aY,b.aS,b.book⟩:Bk) e21 (by first|assumption|omega)) fO rfl rfl ⟨⟨_,rfl,.inl ⟨rfl,rfl⟩⟩,⟨_,rfl,.inl ⟨rfl,rfl⟩⟩,trivial⟩ ⟨rfl,rfl,rfl,rfl,rfl,rfl,rfl,rfl,rfl,rfl,trivial⟩ rfl rfl rfl rfl rfl rfl trivial ⟨⟨trivial,trivial,trivial,trivial,trivial,trivial,trivial,trivial,trivial,trivial,trivial,trivial,trivial,trivial,trivial,trivial,trivial,trivial,trivial,trivial,trivial⟩,(fun _ _ _ _=>trivial),(fun _ _ _ _=>trivial),(fun _ _ _ _=>trivial),(fun _ _ _ _=>trivial),trivial⟩ rfl rfl rfl rfl) rfl ?_
  refine ad aa 2 rfl ?_
  refine af ?_
  refine aA ?_
  refine ax ?_
  have hX:cA b (⟨idn,kind,0,aE,move,sum⟩:bJ)=(b,(⟨e21,0⟩:Answer)):=by
    unfold cA;dsimp only;rw [if_pos rfl];unfold fQ;rw [hx1];dsimp only;unfold dG at hr1;simp only [if_true] at hr1;(try simp only [hr0]);(try unfold dw);(repeat' split)<;>first|rfl|omega|(exfalso;omega)|(simp_all;done)|(simp_all;omega)
  rw [hX] at hr;clear hX
  simp only [Prod.mk.injEq] at hr;obtain ⟨rfl,rfl⟩:=hr
  refine aq aa [0,17,18,19,20,5] 5 rfl rfl rfl rfl rfl rfl ?_ ?_
  all_goals first|rfl|(simp [aD,aZ,bm];done)|(simp [aD,aZ,bm];omega)
 have hc3':=of_decide_eq_false hc3
 refine aQ ?_
 refine ag ?_
 obtain ⟨n2,ok2,hr2⟩:∃ (n2:Int) (ok2:Bool),fV b.n0 x1.cc=(n2,ok2):=⟨_,_,rfl⟩
 refine aX [0,1,4,5,6] [0,7,8,9,10,11,12,13,14,15,6,5] mixed rfl rfl ?_
 refine ay (kn:=[]) aa 8 rfl trivial ?_
 refine aP (n':=16) [126,123] [7] rfl rfl (.inl ⟨(ah.plain rfl),aJ.cast (cC (i:=0) rfl rfl rfl Try.underlying36 fC rfl (by decide)) rfl⟩) rfl ?_
 refine ay (kn:=[]) aa 3 rfl trivial ?_
 refine aP (n':=16) [128,130] [] rfl rfl (.inl ⟨(ah.plain rfl),aJ.cast (bU 16 (qq b.n0 x1.cc n2 ok2 hr2) EG rfl rfl ⟨⟨_,rfl,.c (.d _)⟩,⟨_,rfl,.g ⟨.d _,.d _,.d _,.d _,trivial⟩⟩,trivial⟩ ⟨trivial,trivial,trivial⟩ trivial rfl rfl rfl rfl) rfl⟩) rfl ?_
 refine ay (kn:=[]) aa 5 rfl trivial ?_
 refine bw [0,7,8,9,10,11,12,13,14,15,6,5] rfl rfl rfl rfl (by kernel_rfl) ?_
 refine af ?_
 refine ag ?_
 refine aX [0,1,4,5,6,9,10] [0,7,8,9,10,11,12,13,14,15,6,5] mixed rfl rfl ?_
 refine ay (kn:=[]) aa 9 rfl trivial ?_
 refine aP (n':=16) [142,138] [7] rfl rfl (.inl ⟨(ah.plain rfl),aJ.cast (cC (i:=0) rfl rfl rfl Try.underlying36 fC rfl (by decide)) rfl⟩) rfl ?_
 refine bw [0,7,8,9,10,11,12,13,14,15,6,5] rfl rfl rfl rfl (by kernel_rfl) ?_
 refine ad aa 1 rfl ?_
 refine af ?_
 refine ag ?_
 refine ae aa 1 rfl ?_
 refine aj rfl (fun hc7=>?_) (fun hc7=>?_)
 ·
  have hc7':=hc7;try simp only [bx,bV] at hc7'
  have hpk2:=hpk (by omega)
  refine aw ?_
  refine ad aa 3 rfl ?_
  obtain ⟨due23,cards23,book23,e23,hr3⟩:∃ (due23:List Int) (cards23:List bD) (book23:List Entry) (e23:Int),dP b.au b.due b.al b.book 0 x1.cc=(due23,cards23,book23,e23):=⟨_,_,_,_,rfl⟩
  refine aT 19 [7,16,17,18,0,8,9,10,11,15,6,5] (cu (bh [7,12,13,14]) (bh [7,16,17,18]) (ms:=(((((dD.set 2 (some (.s 1 0 6 b.al.length))).set 3 (some (.s 2 0 1 b.due.length))).set 4 (some (.s 3 0 8 b.au.length))).set 18 (some (cZ b.book))).set 19 (some (cI 0)))) (ms':=(((((dD.set 2 (some (.s 1 0 6 cards23.length))).set 3 (some (.s 2 0 1 due23.length))).set 4 (some (.s 3 0 8 b.au.length))).set 18 (some (cZ book23))).set 19 (some (cI e23)))) (fun x hx=>AJ x hx b.au b.due b.al b.book 0 x1.cc (by first|omega|(simp;done)|(simp;omega)) (by assumption) (by first|omega|(simp;done)|(simp;omega)) (by first|omega|(simp;done)|(simp;omega)) due23 cards23 book23 e23 hr3) EF rfl rfl ⟨⟨_,rfl,.inl ⟨rfl,rfl⟩⟩,⟨_,rfl,.inr (.g ⟨.d _,.d _,.d _,.d _,trivial⟩)⟩,trivial⟩ rfl rfl rfl rfl rfl rfl rfl ⟨rfl,rfl,rfl,trivial⟩ rfl rfl rfl rfl rfl rfl rfl rfl rfl rfl rfl rfl rfl) rfl ?_
  refine af ?_
  rcases (show e23=0\/¬e23=0 from by omega) with hs8|hs8
  ·
   refine aH aa 2 rfl ?_
   refine aT 23 [0,19,20,21,22,6,5] (cO (bh [0,7,8,9,10,11,16,17,18,15]) (bh [0,19,20,21,22]) (fw (x 17) (x 19) b (⟨b.time,b.down,cards23,due23,b.au,b.s0,b.s1,n2,b.n1,(b.w0).drop 1,b.w1,b.aY,b.aS,book23⟩:Bk) e23 (by first|assumption|omega)) fO rfl rfl ⟨⟨_,rfl,.inl ⟨rfl,rfl⟩⟩,⟨_,rfl,.inl ⟨rfl,rfl⟩⟩,trivial⟩ ⟨rfl,rfl,rfl,rfl,rfl,rfl,rfl,rfl,rfl,rfl,trivial⟩ rfl rfl rfl rfl rfl rfl trivial ⟨⟨trivial,trivial,trivial,trivial,trivial,trivial,trivial,trivial,trivial,trivial,trivial,trivial,trivial,trivial,trivial,trivial,trivial,trivial,trivial,trivial,trivial⟩,(fun _ _ _ _=>trivial),(fun _ _ _ _=>trivial),(fun _ _ _ _=>trivial),(fun _ _ _ _=>trivial),trivial⟩ rfl rfl rfl rfl) rfl ?_
   refine ad aa 2 rfl ?_
   refine af ?_
   refine aA ?_
   have hX:cA b (⟨idn,kind,0,aE,move,sum⟩:bJ)=((⟨b.time,b.down,cards23,due23,b.au,b.s0,b.s1,n2,b.n1,(b.w0).drop 1,b.w1,b.aY,b.aS,book23⟩:Bk),(⟨e23,0⟩:Answer)):=by
     unfold cA;dsimp only;rw [if_pos rfl];unfold fQ;rw [hx1];dsimp only;(try simp only [hr2,hr3]);(try unfold dw);(repeat' split)<;>first|rfl|omega|(exfalso;omega)|(simp_all;done)|(simp_all;omega)
   rw [hX] at hr;clear hX
   simp only [Prod.mk.injEq] at hr;obtain ⟨rfl,rfl⟩:=hr
   refine aq aa [0,19,20,21,22,5] 5 rfl rfl rfl rfl rfl rfl ?_ ?_
   all_goals first|rfl|(simp [aD,aZ,bm];done)|(simp [aD,aZ,bm];omega)
  refine aH aa 2 rfl ?_
  refine aT 23 [0,19,20,21,22,6,5] (cO (bh [0,7,8,9,10,11,16,17,18,15]) (bh [0,19,20,21,22]) (gh (x 17) (x 19) b (⟨b.time,b.down,cards23,due23,b.au,b.s0,b.s1,n2,b.n1,(b.w0).drop 1,b.w1,b.aY,b.aS,book23⟩:Bk) e23 (by first|assumption|omega)) fO rfl rfl ⟨⟨_,rfl,.inl ⟨rfl,rfl⟩⟩,⟨_,rfl,.inl ⟨rfl,rfl⟩⟩,trivial⟩ ⟨rfl,rfl,rfl,rfl,rfl,rfl,rfl,rfl,rfl,rfl,trivial⟩ rfl rfl rfl rfl rfl rfl trivial ⟨⟨trivial,trivial,trivial,trivial,trivial,trivial,trivial,trivial,trivial,trivial,trivial,trivial,trivial,trivial,trivial,trivial,trivial,trivial,trivial,trivial,trivial⟩,(fun _ _ _ _=>trivial),(fun _ _ _ _=>trivial),(fun _ _ _ _=>trivial),(fun _ _ _ _=>trivial),trivial⟩ rfl rfl rfl rfl) rfl ?_
  refine ad aa 2 rfl ?_
  refine af ?_
  refine aA ?_
  have hX:cA b (⟨idn,kind,0,aE,move,sum⟩:bJ)=(b,(⟨e23,0⟩:Answer)):=by
    unfold cA;dsimp only;rw [if_pos rfl];unfold fQ;rw [hx1];dsimp only;(try simp only [hr2,hr3]);(try unfold dw);(repeat' split)<;>first|rfl|omega|(exfalso;omega)|(simp_all;done)|(simp_all;omega)
  rw [hX] at hr;clear hX
  simp only [Prod.mk.injEq] at hr;obtain ⟨rfl,rfl⟩:=hr
  refine aq aa [0,19,20,21,22,5] 5 rfl rfl rfl rfl rfl rfl ?_ ?_
  all_goals first|rfl|(simp [aD,aZ,bm];done)|(simp [aD,aZ,bm];omega)
 have hc7':=hc7;try simp only [bx,bV] at hc7'
 refine aQ ?_
 refine aH aa 2 rfl ?_
 refine aT 20 [0,16,17,18,19,6,5] (cO (bh [0,7,8,9,10,11,12,13,14,15]) (bh [0,16,17,18,19]) (fw (x 17) (x 19) b (⟨b.time,b.down,b.al,b.due,b.au,b.s0,b.s1,n2,b.n1,(b.w0).drop 1,b.w1,b.aY,b.aS,b.book⟩:Bk) 0 (by first|assumption|omega)) fO rfl rfl ⟨⟨_,rfl,.inl ⟨rfl,rfl⟩⟩,⟨_,rfl,.inl ⟨rfl,rfl⟩⟩,trivial⟩ ⟨rfl,rfl,rfl,rfl,rfl,rfl,rfl,rfl,rfl,rfl,trivial⟩ rfl rfl rfl rfl rfl rfl trivial ⟨⟨trivial,trivial,trivial,trivial,trivial,trivial,trivial,trivial,trivial,trivial,trivial,trivial,trivial,trivial,trivial,trivial,trivial,trivial,trivial,trivial,trivial⟩,(fun _ _ _ _=>trivial),(fun _ _ _ _=>trivial),(fun _ _ _ _=>trivial),(fun _ _ _ _=>trivial),trivial⟩ rfl rfl rfl rfl) rfl ?_
 refine ad aa 2 rfl ?_
 refine af ?_
 refine aA ?_
 have hX:cA b (⟨idn,kind,0,aE,move,sum⟩:bJ)=((⟨b.time,b.down,b.al,b.due,b.au,b.s0,b.s1,n2,b.n1,(b.w0).drop 1,b.w1,b.aY,b.aS,b.book⟩:Bk),(⟨0,0⟩:Answer)):=by
   unfold cA;dsimp only;rw [if_pos rfl];unfold fQ;rw [hx1];dsimp only;(try simp only [hr2]);(try unfold dw);(repeat' split)<;>first|rfl|omega|(exfalso;omega)|(simp_all;done)|(simp_all;omega)
 rw [hX] at hr;clear hX
 simp only [Prod.mk.injEq] at hr;obtain ⟨rfl,rfl⟩:=hr
 refine aq aa [0,16,17,18,19,5] 5 rfl rfl rfl rfl rfl rfl ?_ ?_
 all_goals first|rfl|(simp [aD,aZ,bm];done)|(simp [aD,aZ,bm];omega)
theorem AU (x:Nat->Value) (hx:∀ i,(x i).oneCell'=true) (b:Bk) (idn kind aE move sum:Int) (ok:cz b) (b2:Bk) (a2:Answer) (hr:cA b (⟨idn,kind,1,aE,move,sum⟩:bJ)=(b2,a2)):cM Try.prog 67 [(.c (.p 0 0 0 0)),(.c (.q (dj (⟨idn,kind,1,aE,move,sum⟩:bJ)) 0))] [(0,(.box 98 (aZ b 1 2 3 4 (.d (.v (x 17))) (.d (.v (x 19)))))),(1,(dV b.al)),(2,(dL b.due)),(3,(dY b.au)),(4,(cT b.aS))] [0] (.v (.g [cI a2.err,cI a2.bd])) [(0,(.box 98 (aZ b2 1 2 3 4 (.d (.v (x 17))) (.d (.v (x 19)))))),(1,(dV b2.al)),(2,(dL b2.due)),(3,(dY b2.au)),(4,(cT b2.aS))]:=by
 refine cM.mk 153 [(0,(aC (.p 0 0 0 0))),(1,(aC (.q (dj (⟨idn,kind,1,aE,move,sum⟩:bJ)) 0)))] 5 Try.func67 rfl rfl rfl rfl rfl rfl rfl rfl rfl ?_
 intro W0 F0 T0 pg
 obtain ⟨okt,okc,okd,oka,oky,okw0,okw1,okp,okv,okk0,okk1,okg,okl0,okl1,okp0,okp1,okn0,okn1,okq⟩:=id ok
 refine ae aa 1 rfl ?_
 refine ag ?_
 refine ag ?_
 refine aX [0,1,4] [5,0,1,2,3,4] mixed rfl rfl ?_
 refine ay (kn:=[(15,true),(21,false)]) aa 21 rfl ⟨rfl,rfl,trivial⟩ ?_
 refine aP (n':=6) [31,28,23] [0] rfl rfl (.inl ⟨(ah.yes rfl rfl rfl),aJ.cast (cC (i:=1) rfl rfl rfl Try.underlying38 gM rfl (by decide)) rfl⟩) rfl ?_
 refine ay (kn:=[]) aa 1 rfl trivial ?_
 refine aP (n':=6) [33,23] [] rfl rfl (.inl ⟨(ah.yes rfl rfl rfl),aJ.cast (bP rfl rfl rfl rfl rfl Try.underlying37) rfl⟩) rfl ?_
 refine ay (kn:=[]) aa 2 rfl trivial ?_
 refine bw [5,0,1,2,3,4] rfl rfl rfl rfl (by kernel_rfl) ?_
 refine af ?_
 refine aj rfl (fun hc1=>?_) (fun hc1=>?_)
 ·
  have hc1':=of_decide_eq_true hc1
  refine ae aa 2 rfl ?_
  refine aA ?_
  refine ax ?_
  have hX:cA b (⟨idn,kind,1,aE,move,sum⟩:bJ)=(b,(⟨6,0⟩:Answer)):=by
    unfold cA;dsimp only;rw [if_neg (by decide),if_pos rfl];unfold fP;rw [List.getElem?_eq_none (by omega)]
  rw [hX] at hr;clear hX
  simp only [Prod.mk.injEq] at hr;obtain ⟨rfl,rfl⟩:=hr
  refine aq aa [0,1,2,3,4,5] 5 rfl rfl rfl rfl rfl rfl ?_ ?_
  all_goals first|rfl|(simp [aD,aZ,bm];done)|(simp [aD,aZ,bm];omega)
 have hc1':=of_decide_eq_false hc1
 refine aQ ?_
 refine ag ?_
 obtain ⟨x1,hx1⟩:=cg (xs:=b.w1) (i:=0) (by first|omega|(simp;done)|(simp;omega))
 refine aX [0,1,4] [5,0,1,2,3,4] mixed rfl rfl ?_
 refine ay (kn:=[]) aa 8 rfl trivial ?_
 refine aP (n':=6) [45,42] [0] rfl rfl (.inl ⟨(ah.plain rfl),aJ.cast (cC (i:=1) rfl rfl rfl Try.underlying38 gM rfl (by decide)) rfl⟩) rfl ?_
 refine ay (kn:=[]) aa 1 rfl trivial ?_
 refine aP (n':=6) [47] [] rfl rfl (.inl ⟨(ah.plain rfl),aJ.cast (bX (i:=0) rfl rfl rfl Try.underlying37 lZ (by first|omega|(simp;done)|(simp;omega)) (bj hx1)) rfl⟩) rfl ?_
 refine ay (n':=7) (kn:=[]) aa 2 rfl trivial ?_
 refine bw [6,5,0,1,2,3,4] rfl rfl rfl rfl (by kernel_rfl) ?_
 refine ad aa 1 rfl ?_
 refine af ?_
 have hpk:=okp1 x1 (List.mem_of_getElem? hx1)
 have hI0:∀ t∈b.s0.kept,fj t.number:=fun t ht=>(okk0 t ht).1
 have hI1:∀ t∈b.s1.kept,fj t.number:=fun t ht=>(okk1 t ht).1
 have hA:∀ a∈b.au,0<=a.aO/\a.aO < b.al.length/\0<=a.aE/\a.aE < b.due.length:=fun a ha=>(okp a ha).2
 refine aH aa 1 rfl ?_
 refine aT 16 [0,7,8,9,10,11,12,13,14,15,6,5] (cO id (bh [0,7,8,9,10,11,12,13,14,15]) (kD (x 17) (x 19) b (by first|omega|(simp;done)|(simp;omega)) (by first|omega|(simp;done)|(simp;omega)) (by first|omega|(simp;done)|(simp;omega)) (by first|omega|(simp;done)|(simp;omega))) qY rfl rfl ⟨⟨_,rfl,.inl ⟨rfl,rfl⟩⟩,trivial⟩ ⟨rfl,rfl,rfl,rfl,rfl,trivial⟩ rfl rfl rfl rfl rfl rfl trivial ⟨⟨trivial,trivial,trivial,trivial,trivial,trivial,trivial,trivial,trivial,trivial,trivial,trivial,trivial,trivial,trivial,trivial,trivial,trivial,trivial,trivial,trivial⟩,⟨trivial,trivial,trivial,trivial,trivial,trivial,trivial,trivial,trivial,trivial,trivial,trivial,trivial,trivial,trivial,trivial,trivial,trivial,trivial,trivial,trivial⟩,(fun _ _ _ _=>trivial),(fun _ _ _ _=>trivial),(fun _ _ _ _=>trivial),(fun _ _ _ _=>trivial),(fun _ _ _ _=>trivial),(fun _ _ _ _=>trivial),(fun _ _ _ _=>trivial),(fun _ _ _ _=>trivial),trivial⟩ rfl rfl rfl rfl) rfl ?_
 refine ad aa 1 rfl ?_
 refine af ?_
 refine ag ?_
 refine aX [0,1,4,5,6] [0,7,8,9,10,11,12,13,14,15,6,5] mixed rfl rfl ?_
 refine ay (kn:=[]) aa 13 rfl trivial ?_
 refine aP (n':=16) [64,61] [0] rfl rfl (.inl ⟨(ah.plain rfl),aJ.cast (cC (i:=1) rfl rfl rfl Try.underlying38 gM rfl (by decide)) rfl⟩) rfl ?_
 refine ay (kn:=[]) aa 1 rfl trivial ?_
 refine aP (n':=16) [66] [] rfl rfl (.inl ⟨(ah.plain rfl),aJ.cast (vJ (l:=1) (h:=b.w1.length) (ys:=((b.w1).drop 1).map fx) rfl Try.underlying37 lZ rfl (.inr ⟨_,rfl,rfl⟩) (.inl ⟨rfl,by simp⟩) (by first|omega|(simp;done)|(simp;omega)) (by first|omega|(simp;done)|(simp;omega)) (by first|(simp;done)|(rw [List.map_drop];exact List.take_of_length_le (by simp)))) rfl⟩) rfl ?_
 refine ay (kn:=[]) aa 3 rfl trivial ?_
 refine aP (n':=16) [70,56] [7] rfl rfl (.inl ⟨(ah.plain rfl),aJ.cast (cC (i:=1) rfl rfl rfl Try.underlying38 gM rfl (by decide)) rfl⟩) rfl ?_
 refine bw [0,7,8,9,10,11,12,13,14,15,6,5] rfl rfl rfl rfl (by kernel_rfl) ?_
 refine ad aa 1 rfl ?_
 refine af ?_
 refine ag ?_
 refine ae aa 5 rfl ?_
 refine aj rfl (fun hc2=>?_) (fun hc2=>?_)
 ·
  have hc2':=of_decide_eq_true hc2
  refine aH aa 2 rfl ?_
  refine aT 20 [0,16,17,18,19,6,5] (cO (bh [0,7,8,9,10,11,12,13,14,15]) (bh [0,16,17,18,19]) (fw (x 17) (x 19) b (⟨b.time,b.down,b.al,b.due,b.au,b.s0,b.s1,b.n0,b.n1,b.w0,(b.w1).drop 1,b.aY,b.aS,b.book⟩:Bk) 0 (by first|assumption|omega)) fO rfl rfl ⟨⟨_,rfl,.inl ⟨rfl,rfl⟩⟩,⟨_,rfl,.inl ⟨rfl,rfl⟩⟩,trivial⟩ ⟨rfl,rfl,rfl,rfl,rfl,rfl,rfl,rfl,rfl,rfl,trivial⟩ rfl rfl rfl rfl rfl rfl trivial ⟨⟨trivial,trivial,trivial,trivial,trivial,trivial,trivial,trivial,trivial,trivial,trivial,trivial,trivial,trivial,trivial,trivial,trivial,trivial,trivial,trivial,trivial⟩,(fun _ _ _ _=>trivial),(fun _ _ _ _=>trivial),(fun _ _ _ _=>trivial),(fun _ _ _ _=>trivial),trivial⟩ rfl rfl rfl rfl) rfl ?_
  refine ad aa 2 rfl ?_
  refine af ?_
  refine aA ?_
  refine ax ?_
  have hX:cA b (⟨idn,kind,1,aE,move,sum⟩:bJ)=((⟨b.time,b.down,b.al,b.due,b.au,b.s0,b.s1,b.n0,b.n1,b.w0,(b.w1).drop 1,b.aY,b.aS,b.book⟩:Bk),(⟨0,0⟩:Answer)):=by
    unfold cA;dsimp only;rw [if_neg (by decide),if_pos rfl];unfold fP;rw [hx1];dsimp only;(try simp only [dw]);(try unfold dw);(repeat' split)<;>first|rfl|omega|(exfalso;omega)|(simp_all;done)|(simp_all;omega)
  rw [hX] at hr;clear hX
  simp only [Prod.mk.injEq] at hr;obtain ⟨rfl,rfl⟩:=hr
  refine aq aa [0,16,17,18,19,5] 5 rfl rfl rfl rfl rfl rfl ?_ ?_
  all_goals first|rfl|(simp [aD,aZ,bm];done)|(simp [aD,aZ,bm];omega)
 have hc2':=of_decide_eq_false hc2
 refine aQ ?_
 refine ag ?_
 refine ae aa 3 rfl ?_
 refine aj rfl (fun hc3=>?_) (fun hc3=>?_)
 ·
  have hc3':=of_decide_eq_true hc3
  refine ag ?_
  obtain ⟨xr0,e0,hr0⟩:∃ (xr0:bS) (e0:Int),eh b.s1 x1.seen=(xr0,e0):=⟨_,_,rfl⟩
  refine di [0,1,4,5,6] [0,7,8,9,10,11,12,13,14,15,6,5] mixed rfl rfl ?_
  refine bW (kn:=[]) aa 8 rfl trivial ?_
  refine cb (n':=16) [92,89] [7] rfl rfl (.inl ⟨(ah.plain rfl),aJ.cast (cC (i:=1) rfl rfl rfl Try.underlying35 jk rfl (by decide)) rfl⟩) rfl ?_
  refine bW (kn:=[]) aa 3 rfl trivial ?_
  refine cb (n':=16) [94,96] [] rfl rfl (.inl ⟨(ah.plain rfl),aJ.cast (bU 16 (Fn.frozen (av':=(.t [(.g [(cI xr0.bq),(ck xr0.kept)]),(.c (cI e0))])) (qt b.s1 x1.seen (by first|assumption|exact kz (by assumption) (by omega)|exact jH (by assumption) (by assumption)|(simp [fj];done)) xr0 e0 hr0) ⟨⟨.inl ⟨_,rfl,rfl⟩,.inr ⟨_,_,_,_,_,rfl,rfl,rfl,by simp⟩,trivial⟩,.inl ⟨_,rfl,rfl⟩,trivial⟩) EH rfl rfl ⟨⟨_,rfl,.g ⟨.d _,.d _,trivial⟩⟩,⟨_,rfl,.c (.d _)⟩,trivial⟩ ⟨⟨trivial,trivial,trivial⟩,trivial,trivial⟩ trivial rfl rfl rfl rfl) rfl⟩) rfl ?_
  refine bW (n':=17) (kn:=[]) aa 6 rfl trivial ?_
  refine dW [0,1,4,5,6,7,8] [16,0,7,8,9,10,11,12,13,14,15,6,5] rfl rfl (by kernel_rfl) ?_
  refine then_ok ?_
  refine ag ?_
  refine aH aa 2 rfl ?_
  obtain ⟨e21,hr1⟩:∃ (e21:Int),dG 0 e0=e21:=⟨_,rfl⟩
  refine aT 17 [7,16,0,8,9,10,11,12,13,14,15,6,5] (cu (bh [7]) (bh [7]) (ms:=(dD.set 19 (some (cI 0)))) (ms':=(dD.set 19 (some (cI e21)))) (fun x hx=>kd x hx 0 e0 e21 hr1) nT rfl rfl ⟨⟨_,rfl,.inl ⟨rfl,rfl⟩⟩,⟨_,rfl,.inr (.c (.d _))⟩,trivial⟩ rfl rfl rfl rfl rfl rfl rfl trivial rfl rfl rfl rfl rfl rfl rfl rfl rfl rfl rfl rfl rfl) rfl ?_
  refine ad aa 1 rfl ?_
  refine af ?_
  refine aj rfl (fun hc4=>?_) (fun hc4=>?_)
  ·
   have hc4':=hc4;try simp only [bx,bV] at hc4'
   refine aX [0,1,4,5,6,7] [7,16,0,8,9,10,11,12,13,14,15,6,5] mixed rfl rfl ?_
   refine ay (kn:=[]) aa 9 rfl trivial ?_
   refine aP (n':=17) [112,108] [7] rfl rfl (.inl ⟨(ah.plain rfl),aJ.cast (cC (i:=1) rfl rfl rfl Try.underlying35 jk rfl (by decide)) rfl⟩) rfl ?_
   refine bw [7,16,0,8,9,10,11,12,13,14,15,6,5] rfl rfl rfl rfl (by kernel_rfl) ?_
   refine ad aa 1 rfl ?_
   refine af ?_
   rcases (show e21=0\/¬e21=0 from by omega) with hs5|hs5
   ·
    refine aH aa 2 rfl ?_
    refine aT 21 [0,17,18,19,20,16,6,5] (cO (bh [0,7,8,9,10,11,12,13,14,15]) (bh [0,17,18,19,20]) (fw (x 17) (x 19) b (⟨b.time,b.down,b.al,b.due,b.au,b.s0,xr0,b.n0,b.n1,b.w0,(b.w1).drop 1,b.aY,b.aS,b.book⟩:Bk) e21 (by first|assumption|omega)) fO rfl rfl ⟨⟨_,rfl,.inl ⟨rfl,rfl⟩⟩,⟨_,rfl,.inl ⟨rfl,rfl⟩⟩,trivial⟩ ⟨rfl,rfl,rfl,rfl,rfl,rfl,rfl,rfl,rfl,rfl,trivial⟩ rfl rfl rfl rfl rfl rfl trivial ⟨⟨trivial,trivial,trivial,trivial,trivial,trivial,trivial,trivial,trivial,trivial,trivial,trivial,trivial,trivial,trivial,trivial,trivial,trivial,trivial,trivial,trivial⟩,(fun _ _ _ _=>trivial),(fun _ _ _ _=>trivial),(fun _ _ _ _=>trivial),(fun _ _ _ _=>trivial),trivial⟩ rfl rfl rfl rfl) rfl ?_
    refine ad aa 2 rfl ?_
    refine af ?_
    refine aA ?_
    refine ax ?_
    have hX:cA b (⟨idn,kind,1,aE,move,sum⟩:bJ)=((⟨b.time,b.down,b.al,b.due,b.au,b.s0,xr0,b.n0,b.n1,b.w0,(b.w1).drop 1,b.aY,b.aS,b.book⟩:Bk),(⟨e21,0⟩:Answer)):=by
      unfold cA;dsimp only;rw [if_neg (by decide),if_pos rfl];unfold fP;rw [hx1];dsimp only;unfold dG at hr1;simp only [if_true] at hr1;(try simp only [hr0]);(try unfold dw);(repeat' split)<;>first|rfl|omega|(exfalso;omega)|(simp_all;done)|(simp_all;omega)
    rw [hX] at hr;clear hX
    simp only [Prod.mk.injEq] at hr;obtain ⟨rfl,rfl⟩:=hr
    refine aq aa [0,17,18,19,20,5] 5 rfl rfl rfl rfl rfl rfl ?_ ?_
    all_goals first|rfl|(simp [aD,aZ,bm];done)|(simp [aD,aZ,bm];omega)
   refine aH aa 2 rfl ?_
   refine aT 21 [0,17,18,19,20,16,6,5] (cO (bh [0,7,8,9,10,11,12,13,14,15]) (bh [0,17,18,19,20]) (gh (x 17) (x 19) b (⟨b.time,b.down,b.al,b.due,b.au,b.s0,xr0,b.n0,b.n1,b.w0,(b.w1).drop 1,b.aY,b.aS,b.book⟩:Bk) e21 (by first|assumption|omega)) fO rfl rfl ⟨⟨_,rfl,.inl ⟨rfl,rfl⟩⟩,⟨_,rfl,.inl ⟨rfl,rfl⟩⟩,trivial⟩ ⟨rfl,rfl,rfl,rfl,rfl,rfl,rfl,rfl,rfl,rfl,trivial⟩ rfl rfl rfl rfl rfl rfl trivial ⟨⟨trivial,trivial,trivial,trivial,trivial,trivial,trivial,trivial,trivial,trivial,trivial,trivial,trivial,trivial,trivial,trivial,trivial,trivial,trivial,trivial,trivial⟩,(fun _ _ _ _=>trivial),(fun _ _ _ _=>trivial),(fun _ _ _ _=>trivial),(fun _ _ _ _=>trivial),trivial⟩ rfl rfl rfl rfl) rfl ?_
   refine ad aa 2 rfl ?_
   refine af ?_
   refine aA ?_
   refine ax ?_
   have hX:cA b (⟨idn,kind,1,aE,move,sum⟩:bJ)=(b,(⟨e21,0⟩:Answer)):=by
     unfold cA;dsimp only;rw [if_neg (by decide),if_pos rfl];unfold fP;rw [hx1];dsimp only;unfold dG at hr1;simp only [if_true] at hr1;(try simp only [hr0]);(try unfold dw);(repeat' split)<;>first|rfl|omega|(exfalso;omega)|(simp_all;done)|(simp_all;omega)
   rw [hX] at hr;clear hX
   simp only [Prod.mk.injEq] at hr;obtain ⟨rfl,rfl⟩:=hr
   refine aq aa [0,17,18,19,20,5] 5 rfl rfl rfl rfl rfl rfl ?_ ?_
   all_goals first|rfl|(simp [aD,aZ,bm];done)|(simp [aD,aZ,bm];omega)
  have hc4':=hc4;try simp only [bx,bV] at hc4'
  refine aQ ?_
  rcases (show e21=0\/¬e21=0 from by omega) with hs6|hs6
  ·
   refine aH aa 2 rfl ?_
   refine aT 21 [0,17,18,19,20,16,6,5] (cO (bh [0,7,8,9,10,11,12,13,14,15]) (bh [0,17,18,19,20]) (fw (x 17) (x 19) b (⟨b.time,b.down,b.al,b.due,b.au,b.s0,b.s1,b.n0,b.n1,b.w0,(b.w1).drop 1,b.aY,b.aS,b.book⟩:Bk) e21 (by first|assumption|omega)) fO rfl rfl ⟨⟨_,rfl,.inl ⟨rfl,rfl⟩⟩,⟨_,rfl,.inl ⟨rfl,rfl⟩⟩,trivial⟩ ⟨rfl,rfl,rfl,rfl,rfl,rfl,rfl,rfl,rfl,rfl,trivial⟩ rfl rfl rfl rfl rfl rfl trivial ⟨⟨trivial,trivial,trivial,trivial,trivial,trivial,trivial,trivial,trivial,trivial,trivial,trivial,trivial,trivial,trivial,trivial,trivial,trivial,trivial,trivial,trivial⟩,(fun _ _ _ _=>trivial),(fun _ _ _ _=>trivial),(fun _ _ _ _=>trivial),(fun _ _ _ _=>trivial),trivial⟩ rfl rfl rfl rfl) rfl ?_
   refine ad aa 2 rfl ?_
   refine af ?_
   refine aA ?_
   refine ax ?_
   have hX:cA b (⟨idn,kind,1,aE,move,sum⟩:bJ)=((⟨b.time,b.down,b.al,b.due,b.au,b.s0,b.s1,b.n0,b.n1,b.w0,(b.w1).drop 1,b.aY,b.aS,b.book⟩:Bk),(⟨e21,0⟩:Answer)):=by
     unfold cA;dsimp only;rw [if_neg (by decide),if_pos rfl];unfold fP;rw [hx1];dsimp only;unfold dG at hr1;simp only [if_true] at hr1;(try simp only [hr0]);(try unfold dw);(repeat' split)<;>first|rfl|omega|(exfalso;omega)|(simp_all;done)|(simp_all;omega)
   rw [hX] at hr;clear hX
   simp only [Prod.mk.injEq] at hr;obtain ⟨rfl,rfl⟩:=hr
   refine aq aa [0,17,18,19,20,5] 5 rfl rfl rfl rfl rfl rfl ?_ ?_
   all_goals first|rfl|(simp [aD,aZ,bm];done)|(simp [aD,aZ,bm];omega)
  refine aH aa 2 rfl ?_
  refine aT 21 [0,17,18,19,20,16,6,5] (cO (bh [0,7,8,9,10,11,12,13,14,15]) (bh [0,17,18,19,20]) (gh (x 17) (x 19) b (⟨b.time,b.down,b.al,b.due,b.au,b.s0,b.s1,b.n0,b.n1,b.w0,(b.w1).drop 1,b.aY,b.aS,b.book⟩:Bk) e21 (by first|assumption|omega)) fO rfl rfl ⟨⟨_,rfl,.inl ⟨rfl,rfl⟩⟩,⟨_,rfl,.inl ⟨rfl,rfl⟩⟩,trivial⟩ ⟨rfl,rfl,rfl,rfl,rfl,rfl,rfl,rfl,rfl,rfl,trivial⟩ rfl rfl rfl rfl rfl rfl trivial ⟨⟨trivial,trivial,trivial,trivial,trivial,trivial,trivial,trivial,trivial,trivial,trivial,trivial,trivial,trivial,trivial,trivial,trivial,trivial,trivial,trivial,trivial⟩,(fun _ _ _ _=>trivial),(fun _ _ _ _=>trivial),(fun _ _ _ _=>trivial),(fun _ _ _ _=>trivial),trivial⟩ rfl rfl rfl rfl) rfl ?_
  refine ad aa 2 rfl ?_
  refine af ?_
  refine aA ?_
  refine ax ?_
  have hX:cA b (⟨idn,kind,1,aE,move,sum⟩:bJ)=(b,(⟨e21,0⟩:Answer)):=by
    unfold cA;dsimp only;rw [if_neg (by decide),if_pos rfl];unfold fP;rw [hx1];dsimp only;unfold dG at hr1;simp only [if_true] at hr1;(try simp only [hr0]);(try unfold dw);(repeat' split)<;>first|rfl|omega|(exfalso;omega)|(simp_all;done)|(simp_all;omega)
  rw [hX] at hr;clear hX
  simp only [Prod.mk.injEq] at hr;obtain ⟨rfl,rfl⟩:=hr
  refine aq aa [0,17,18,19,20,5] 5 rfl rfl rfl rfl rfl rfl ?_ ?_
  all_goals first|rfl|(simp [aD,aZ,bm];done)|(simp [aD,aZ,bm];omega)
 have hc3':=of_decide_eq_false hc3
 refine aQ ?_
 refine ag ?_
 obtain ⟨n2,ok2,hr2⟩:∃ (n2:Int) (ok2:Bool),fV b.n1 x1.cc=(n2,ok2):=⟨_,_,rfl⟩
 refine aX [0,1,4,5,6] [0,7,8,9,10,11,12,13,14,15,6,5] mixed rfl rfl ?_
 refine ay (kn:=[]) aa 8 rfl trivial ?_
 refine aP (n':=16) [126,123] [7] rfl rfl (.inl ⟨(ah.plain rfl),aJ.cast (cC (i:=1) rfl rfl rfl Try.underlying36 fC rfl (by decide)) rfl⟩) rfl ?_
 refine ay (kn:=[]) aa 3 rfl trivial ?_
 refine aP (n':=16) [128,130] [] rfl rfl (.inl ⟨(ah.plain rfl),aJ.cast (bU 16 (qq b.n1 x1.cc n2 ok2 hr2) EG rfl rfl ⟨⟨_,rfl,.c (.d _)⟩,⟨_,rfl,.g ⟨.d _,.d _,.d _,.d _,trivial⟩⟩,trivial⟩ ⟨trivial,trivial,trivial⟩ trivial rfl rfl rfl rfl) rfl⟩) rfl ?_
 refine ay (kn:=[]) aa 5 rfl trivial ?_
 refine bw [0,7,8,9,10,11,12,13,14,15,6,5] rfl rfl rfl rfl (by kernel_rfl) ?_
 refine af ?_
 refine ag ?_
 refine aX [0,1,4,5,6,9,10] [0,7,8,9,10,11,12,13,14,15,6,5] mixed rfl rfl ?_
 refine ay (kn:=[]) aa 9 rfl trivial ?_
 refine aP (n':=16) [142,138] [7] rfl rfl (.inl ⟨(ah.plain rfl),aJ.cast (cC (i:=1) rfl rfl rfl Try.underlying36 fC rfl (by decide)) rfl⟩) rfl ?_
 refine bw [0,7,8,9,10,11,12,13,14,15,6,5] rfl rfl rfl rfl (by kernel_rfl) ?_
 refine ad aa 1 rfl ?_
 refine af ?_
 refine ag ?_
 refine ae aa 1 rfl ?_
 refine aj rfl (fun hc7=>?_) (fun hc7=>?_)
 ·
  have hc7':=hc7;try simp only [bx,bV] at hc7'
  have hpk2:=hpk (by omega)
  refine aw ?_
  refine ad aa 3 rfl ?_
  obtain ⟨due23,cards23,book23,e23,hr3⟩:∃ (due23:List Int) (cards23:List bD) (book23:List Entry) (e23:Int),dP b.au b.due b.al b.book 0 x1.cc=(due23,cards23,book23,e23):=⟨_,_,_,_,rfl⟩
  refine aT 19 [7,16,17,18,0,8,9,10,11,15,6,5] (cu (bh [7,12,13,14]) (bh [7,16,17,18]) (ms:=(((((dD.set 2 (some (.s 1 0 6 b.al.length))).set 3 (some (.s 2 0 1 b.due.length))).set 4 (some (.s 3 0 8 b.au.length))).set 18 (some (cZ b.book))).set 19 (some (cI 0)))) (ms':=(((((dD.set 2 (some (.s 1 0 6 cards23.length))).set 3 (some (.s 2 0 1 due23.length))).set 4 (some (.s 3 0 8 b.au.length))).set 18 (some (cZ book23))).set 19 (some (cI e23)))) (fun x hx=>AJ x hx b.au b.due b.al b.book 0 x1.cc (by first|omega|(simp;done)|(simp;omega)) (by assumption) (by first|omega|(simp;done)|(simp;omega)) (by first|omega|(simp;done)|(simp;omega)) due23 cards23 book23 e23 hr3) EF rfl rfl ⟨⟨_,rfl,.inl ⟨rfl,rfl⟩⟩,⟨_,rfl,.inr (.g ⟨.d _,.d _,.d _,.d _,trivial⟩)⟩,trivial⟩ rfl rfl rfl rfl rfl rfl rfl ⟨rfl,rfl,rfl,trivial⟩ rfl rfl rfl rfl rfl rfl rfl rfl rfl rfl rfl rfl rfl) rfl ?_
  refine af ?_
  rcases (show e23=0\/¬e23=0 from by omega) with hs8|hs8
  ·
   refine aH aa 2 rfl ?_
   refine aT 23 [0,19,20,21,22,6,5] (cO (bh [0,7,8,9,10,11,16,17,18,15]) (bh [0,19,20,21,22]) (fw (x 17) (x 19) b (⟨b.time,b.down,cards23,due23,b.au,b.s0,b.s1,b.n0,n2,b.w0,(b.w1).drop 1,b.aY,b.aS,book23⟩:Bk) e23 (by first|assumption|omega)) fO rfl rfl ⟨⟨_,rfl,.inl ⟨rfl,rfl⟩⟩,⟨_,rfl,.inl ⟨rfl,rfl⟩⟩,trivial⟩ ⟨rfl,rfl,rfl,rfl,rfl,rfl,rfl,rfl,rfl,rfl,trivial⟩ rfl rfl rfl rfl rfl rfl trivial ⟨⟨trivial,trivial,trivial,trivial,trivial,trivial,trivial,trivial,trivial,trivial,trivial,trivial,trivial,trivial,trivial,trivial,trivial,trivial,trivial,trivial,trivial⟩,(fun _ _ _ _=>trivial),(fun _ _ _ _=>trivial),(fun _ _ _ _=>trivial),(fun _ _ _ _=>trivial),trivial⟩ rfl rfl rfl rfl) rfl ?_
   refine ad aa 2 rfl ?_
   refine af ?_
   refine aA ?_
   have hX:cA b (⟨idn,kind,1,aE,move,sum⟩:bJ)=((⟨b.time,b.down,cards23,due23,b.au,b.s0,b.s1,b.n0,n2,b.w0,(b.w1).drop 1,b.aY,b.aS,book23⟩:Bk),(⟨e23,0⟩:Answer)):=by
     unfold cA;dsimp only;rw [if_neg (by decide),if_pos rfl];unfold fP;rw [hx1];dsimp only;(try simp only [hr2,hr3]);(try unfold dw);(repeat' split)<;>first|rfl|omega|(exfalso;omega)|(simp_all;done)|(simp_all;omega)
   rw [hX] at hr;clear hX
   simp only [Prod.mk.injEq] at hr;obtain ⟨rfl,rfl⟩:=hr
   refine aq aa [0,19,20,21,22,5] 5 rfl rfl rfl rfl rfl rfl ?_ ?_
   all_goals first|rfl|(simp [aD,aZ,bm];done)|(simp [aD,aZ,bm];omega)
  refine aH aa 2 rfl ?_
  refine aT 23 [0,19,20,21,22,6,5] (cO (bh [0,7,8,9,10,11,16,17,18,15]) (bh [0,19,20,21,22]) (gh (x 17) (x 19) b (⟨b.time,b.down,cards23,due23,b.au,b.s0,b.s1,b.n0,n2,b.w0,(b.w1).drop 1,b.aY,b.aS,book23⟩:Bk) e23 (by first|assumption|omega)) fO rfl rfl ⟨⟨_,rfl,.inl ⟨rfl,rfl⟩⟩,⟨_,rfl,.inl ⟨rfl,rfl⟩⟩,trivial⟩ ⟨rfl,rfl,rfl,rfl,rfl,rfl,rfl,rfl,rfl,rfl,trivial⟩ rfl rfl rfl rfl rfl rfl trivial ⟨⟨trivial,trivial,trivial,trivial,trivial,trivial,trivial,trivial,trivial,trivial,trivial,trivial,trivial,trivial,trivial,trivial,trivial,trivial,trivial,trivial,trivial⟩,(fun _ _ _ _=>trivial),(fun _ _ _ _=>trivial),(fun _ _ _ _=>trivial),(fun _ _ _ _=>trivial),trivial⟩ rfl rfl rfl rfl) rfl ?_
  refine ad aa 2 rfl ?_
  refine af ?_
  refine aA ?_
  have hX:cA b (⟨idn,kind,1,aE,move,sum⟩:bJ)=(b,(⟨e23,0⟩:Answer)):=by
    unfold cA;dsimp only;rw [if_neg (by decide),if_pos rfl];unfold fP;rw [hx1];dsimp only;(try simp only [hr2,hr3]);(try unfold dw);(repeat' split)<;>first|rfl|omega|(exfalso;omega)|(simp_all;done)|(simp_all;omega)
  rw [hX] at hr;clear hX
  simp only [Prod.mk.injEq] at hr;obtain ⟨rfl,rfl⟩:=hr
  refine aq aa [0,19,20,21,22,5] 5 rfl rfl rfl rfl rfl rfl ?_ ?_
  all_goals first|rfl|(simp [aD,aZ,bm];done)|(simp [aD,aZ,bm];omega)
 have hc7':=hc7;try simp only [bx,bV] at hc7'
 refine aQ ?_
 refine aH aa 2 rfl ?_
 refine aT 20 [0,16,17,18,19,6,5] (cO (bh [0,7,8,9,10,11,12,13,14,15]) (bh [0,16,17,18,19]) (fw (x 17) (x 19) b (⟨b.time,b.down,b.al,b.due,b.au,b.s0,b.s1,b.n0,n2,b.w0,(b.w1).drop 1,b.aY,b.aS,b.book⟩:Bk) 0 (by first|assumption|omega)) fO rfl rfl ⟨⟨_,rfl,.inl ⟨rfl,rfl⟩⟩,⟨_,rfl,.inl ⟨rfl,rfl⟩⟩,trivial⟩ ⟨rfl,rfl,rfl,rfl,rfl,rfl,rfl,rfl,rfl,rfl,trivial⟩ rfl rfl rfl rfl rfl rfl trivial ⟨⟨trivial,trivial,trivial,trivial,trivial,trivial,trivial,trivial,trivial,trivial,trivial,trivial,trivial,trivial,trivial,trivial,trivial,trivial,trivial,trivial,trivial⟩,(fun _ _ _ _=>trivial),(fun _ _ _ _=>trivial),(fun _ _ _ _=>trivial),(fun _ _ _ _=>trivial),trivial⟩ rfl rfl rfl rfl) rfl ?_
 refine ad aa 2 rfl ?_
 refine af ?_
 refine aA ?_
 have hX:cA b (⟨idn,kind,1,aE,move,sum⟩:bJ)=((⟨b.time,b.down,b.al,b.due,b.au,b.s0,b.s1,b.n0,n2,b.w0,(b.w1).drop 1,b.aY,b.aS,b.book⟩:Bk),(⟨0,0⟩:Answer)):=by
   unfold cA;dsimp only;rw [if_neg (by decide),if_pos rfl];unfold fP;rw [hx1];dsimp only;(try simp only [hr2]);(try unfold dw);(repeat' split)<;>first|rfl|omega|(exfalso;omega)|(simp_all;done)|(simp_all;omega)
 rw [hX] at hr;clear hX
 simp only [Prod.mk.injEq] at hr;obtain ⟨rfl,rfl⟩:=hr
 refine aq aa [0,16,17,18,19,5] 5 rfl rfl rfl rfl rfl rfl ?_ ?_
 all_goals first|rfl|(simp [aD,aZ,bm];done)|(simp [aD,aZ,bm];omega)
theorem AS (x:Nat->Value) (hx:∀ i,(x i).oneCell'=true) (b:Bk) (d:bJ) (ok:cz b) (hn:¬d.n=0/\¬d.n=1) (b2:Bk) (a2:Answer) (hr:cA b d=(b2,a2)):cM Try.prog 67 [(.c (.p 0 0 0 0)),(.c (.q (dj d) 0))] [(0,(.box 98 (aZ b 1 2 3 4 (.d (.v (x 17))) (.d (.v (x 19)))))),(1,(dV b.al)),(2,(dL b.due)),(3,(dY b.au)),(4,(cT b.aS))] [0] (.v (.g [cI a2.err,cI a2.bd])) [(0,(.box 98 (aZ b2 1 2 3 4 (.d (.v (x 17))) (.d (.v (x 19)))))),(1,(dV b2.al)),(2,(dL b2.due)),(3,(dY b2.au)),(4,(cT b2.aS))]:=by
 refine cM.mk 153 [(0,(aC (.p 0 0 0 0))),(1,(aC (.q (dj d) 0)))] 5 Try.func67 rfl rfl rfl rfl rfl rfl rfl rfl rfl ?_
 intro W0 F0 T0 pg
 obtain ⟨okt,okc,okd,oka,oky,okw0,okw1,okp,okv,okk0,okk1,okg,okl0,okl1,okp0,okp1,okn0,okn1,okq⟩:=id ok
 refine ae aa 1 rfl ?_
 refine ag ?_
 refine ag ?_
 rcases Bool.eq_false_or_eq_true (decide (¬d.n=0)) with hb1|hb1
 ·
  have hb1':=of_decide_eq_true hb1
  rcases Bool.eq_false_or_eq_true (decide (¬d.n=1)) with hb2|hb2
  ·
   have hb2':=of_decide_eq_true hb2
   refine aX [0,1,4] [5,0,1,2,3,4] mixed rfl rfl ?_
   refine ay (kn:=[(15,true),(21,true)]) aa 26 rfl ⟨hb1,hb2,trivial⟩ ?_
   refine bw [5,0,1,2,3,4] rfl rfl rfl rfl (by kernel_rfl) ?_
   refine af ?_
   refine aj rfl (fun _=>?_) (fun hno=>by cases hno)
   refine ae aa 2 rfl ?_
   refine aA ?_
   refine ax ?_
   have hX:cA b d=(b,(⟨6,0⟩:Answer)):=by
     unfold cA;rw [if_neg hn.1,if_neg hn.2]
   rw [hX] at hr;clear hX
   simp only [Prod.mk.injEq] at hr;obtain ⟨rfl,rfl⟩:=hr
   refine aq aa [0,1,2,3,4,5] 5 rfl rfl rfl rfl rfl rfl ?_ ?_
   all_goals first|rfl|(simp [aD,aZ,bm];done)|(simp [aD,aZ,bm];omega)
  have hb2':=of_decide_eq_false hb2
  (exfalso;simp_all;done)
 have hb1':=of_decide_eq_false hb1
 (exfalso;simp_all;done)

theorem wj (x:Nat->Value) (hx:∀ i,(x i).oneCell'=true) (b:Bk) (d:bJ) (ok:cz b) (b2:Bk) (a2:Answer) (hr:cA b d=(b2,a2)):cM Try.prog 67 [(.c (.p 0 0 0 0)),(.c (.q (dj d) 0))] [(0,(.box 98 (aZ b 1 2 3 4 (.d (.v (x 17))) (.d (.v (x 19)))))),(1,(dV b.al)),(2,(dL b.due)),(3,(dY b.au)),(4,(cT b.aS))] [0] (.v (.g [cI a2.err,cI a2.bd])) [(0,(.box 98 (aZ b2 1 2 3 4 (.d (.v (x 17))) (.d (.v (x 19)))))),(1,(dV b2.al)),(2,(dL b2.due)),(3,(dY b2.au)),(4,(cT b2.aS))]:=by
  obtain ⟨idn,kind,n,aE,move,sum⟩:=d
  by_cases h0:n=0
  ·subst h0;exact AW x hx b idn kind aE move sum ok b2 a2 hr
  by_cases h1:n=1
  ·subst h1;exact AU x hx b idn kind aE move sum ok b2 a2 hr
  ·exact AS x hx b _ ok ⟨h0,h1⟩ b2 a2 hr
theorem DE (x:Nat->Value) (hx:∀ i,(x i).oneCell'=true) (s0 s1:bS) (n0 n1:Int) (w0 w1:List cj) (d:bJ) (l0:w0.length<=60) (l1:w1.length<=60) (m0:s0.kept.length<=40) (m1:s1.kept.length<=40) (v0 v1:List cj) (a2:Answer) (hr:eE s0 s1 n0 n1 w0 w1 d=(v0,v1,a2)):cM Try.prog 66 [(.c (.p 0 0 0 0)),(.c (.q (dj d) 0))] [(0,(.box 98 (((((((((bm x).set 5 (cI s0.bq)).set 6 (ck s0.kept)).set 7 (cI s1.bq)).set 8 (ck s1.kept)).set 9 (cI n0)).set 10 (cI n1)).set 11 (cV w0)).set 12 (cV w1))))] [0] (.v (.g [cI a2.err,cI a2.bd])) [(0,(.box 98 (((((((((bm x).set 5 (cI s0.bq)).set 6 (ck s0.kept)).set 7 (cI s1.bq)).set 8 (ck s1.kept)).set 9 (cI n0)).set 10 (cI n1)).set 11 (cV v0)).set 12 (cV v1))))]:=by
  obtain ⟨idn,kind,n,aE,move,sum⟩:=d
  by_cases h0:n=0
  ·subst h0;exact Cs x hx s0 s1 n0 n1 w0 w1 idn kind aE move sum l0 l1 m0 m1 v0 v1 a2 hr
  by_cases h1:n=1
  ·subst h1;exact Cq x hx s0 s1 n0 n1 w0 w1 idn kind aE move sum l0 l1 m0 m1 v0 v1 a2 hr
  ·exact Cp x hx s0 s1 n0 n1 w0 w1 _ l0 l1 m0 m1 ⟨h0,h1⟩ v0 v1 a2 hr

theorem Fk (x:Nat->Value) (hx:∀ i,(x i).oneCell'=true) (b:Bk) (d:bJ) (ok:cz b) (b2:Bk) (a2:Answer) (hr:fI b d=(b2,a2)):cM Try.prog 62 [(.c (.p 0 0 0 0)),(.c (.q (dj d) 0))] [(0,(.box 98 (aZ b 1 2 3 4 (.d (.v (x 17))) (.d (.v (x 19)))))),(1,(dV b.al)),(2,(dL b.due)),(3,(dY b.au)),(4,(cT b.aS))] [0] (.v (.g [cI a2.err,cI a2.bd])) [(0,(.box 98 (aZ b2 1 2 3 4 (.d (.v (x 17))) (.d (.v (x 19)))))),(1,(dV b2.al)),(2,(dL b2.due)),(3,(dY b2.au)),(4,(cT b2.aS))]:=by
 refine cM.mk 65 [(0,(aC (.p 0 0 0 0))),(1,(aC (.q (dj d) 0)))] 5 Try.func62 rfl rfl rfl rfl rfl rfl rfl rfl rfl ?_
 intro W0 F0 T0 pg
 obtain ⟨okt,okc,okd,oka,oky,okw0,okw1,okp,okv,okk0,okk1,okg,okl0,okl1,okp0,okp1,okn0,okn1,okq⟩:=id ok
 refine ae aa 1 rfl ?_
 refine ag ?_
 refine ag ?_
 rcases Bool.eq_false_or_eq_true (decide (d.n < 0)) with hb1|hb1
 ·
  have hb1':=of_decide_eq_true hb1
  refine aX [0,1,4] [5,0,1,2,3,4] mixed rfl rfl ?_
  refine ay (kn:=[(10,true)]) aa 18 rfl ⟨hb1,trivial⟩ ?_
  refine bw [5,0,1,2,3,4] rfl rfl rfl rfl (by kernel_rfl) ?_
  refine af ?_
  refine aj rfl (fun _=>?_) (fun hno=>by cases hno)
  refine ae aa 2 rfl ?_
  refine aA ?_
  refine ax ?_
  have hX:fI b d=(b,(⟨6,0⟩:Answer)):=by
    unfold fI;(repeat' split)<;>first|rfl|omega|(exfalso;omega)|(simp_all;done)|(simp_all;omega)
  rw [hX] at hr;clear hX
  simp only [Prod.mk.injEq] at hr;obtain ⟨rfl,rfl⟩:=hr
  refine aq aa [0,1,2,3,4,5] 5 rfl rfl rfl rfl rfl rfl ?_ ?_
  all_goals first|rfl|(simp [aD,aZ,bm];done)|(simp [aD,aZ,bm];omega)
 have hb1':=of_decide_eq_false hb1
 refine aX [0,1,4] [5,0,1,2,3,4] mixed rfl rfl ?_
 refine ay (kn:=[(10,false)]) aa 15 rfl ⟨hb1,trivial⟩ ?_
 refine aP (n':=6) [20,11] [1] rfl rfl (.inl ⟨(ah.yes rfl rfl rfl),aJ.cast (dy rfl rfl rfl rfl rfl Try.underlying29) rfl⟩) rfl ?_
 refine ay (kn:=[]) aa 2 rfl trivial ?_
 refine bw [5,0,1,2,3,4] rfl rfl rfl rfl (by kernel_rfl) ?_
 refine af ?_
 refine aj rfl (fun hc3=>?_) (fun hc3=>?_)
 ·
  have hc3':=of_decide_eq_true hc3
  refine ae aa 2 rfl ?_
  refine aA ?_
  refine ax ?_
  have hX:fI b d=(b,(⟨6,0⟩:Answer)):=by
    unfold fI;(repeat' split)<;>first|rfl|omega|(exfalso;omega)|(simp_all;done)|(simp_all;omega)
  rw [hX] at hr;clear hX
  simp only [Prod.mk.injEq] at hr;obtain ⟨rfl,rfl⟩:=hr
  refine aq aa [0,1,2,3,4,5] 5 rfl rfl rfl rfl rfl rfl ?_ ?_
  all_goals first|rfl|(simp [aD,aZ,bm];done)|(simp [aD,aZ,bm];omega)
 have hc3':=of_decide_eq_false hc3
 refine aQ ?_
 refine ag ?_
 refine cr 36 ((decide (d.sum < 1))||(decide (d.sum > 1000000))) ?_ ?_
 ·
  refine aw ?_
  refine ad aa 6 rfl ?_
  refine bK (t:=30) rfl (fun hb4=>?_) (fun hb4=>?_)
  ·
   have hb4':=of_decide_eq_true hb4
   refine ad aa 6 rfl ?_
   refine af ?_
   exact aF.bF 13 rfl rfl (by first|(simp [hb4];done)|(simp_all;done)|(exfalso;simp_all;done)|(simp_all;omega)) rfl
  have hb4':=of_decide_eq_false hb4
  refine ad aa 6 rfl ?_
  refine af ?_
  exact aF.bF 13 rfl rfl (by first|(simp [hb4];done)|(simp_all;done)|(exfalso;simp_all;done)|(simp_all;omega)) rfl
 refine aj rfl (fun hc5=>?_) (fun hc5=>?_)
 ·
  have hc5':=hc5;try simp only [bx,bV] at hc5'
  refine ae aa 2 rfl ?_
  refine aA ?_
  refine ax ?_
  have hX:fI b d=(b,(⟨3,0⟩:Answer)):=by
    unfold fI;(repeat' split)<;>first|rfl|omega|(exfalso;omega)|(simp_all;done)|(simp_all;omega)
  rw [hX] at hr;clear hX
  simp only [Prod.mk.injEq] at hr;obtain ⟨rfl,rfl⟩:=hr
  refine aq aa [0,1,2,3,4,5] 5 rfl rfl rfl rfl rfl rfl ?_ ?_
  all_goals first|rfl|(simp [aD,aZ,bm];done)|(simp [aD,aZ,bm];omega)
 have hc5':=hc5;try simp only [bx,bV] at hc5'
 refine aQ ?_
 refine aH aa 1 rfl ?_
 refine aT 15 [0,6,7,8,9,10,11,12,13,14,5] (cO id (bh [0,6,7,8,9,10,11,12,13,14]) (kD (x 17) (x 19) b (by first|omega|(simp;done)|(simp;omega)) (by first|omega|(simp;done)|(simp;omega)) (by first|omega|(simp;done)|(simp;omega)) (by first|omega|(simp;done)|(simp;omega))) qY rfl rfl ⟨⟨_,rfl,.inl ⟨rfl,rfl⟩⟩,trivial⟩ ⟨rfl,rfl,rfl,rfl,rfl,trivial⟩ rfl rfl rfl rfl rfl rfl trivial ⟨⟨trivial,trivial,trivial,trivial,trivial,trivial,trivial,trivial,trivial,trivial,trivial,trivial,trivial,trivial,trivial,trivial,trivial,trivial,trivial,trivial,trivial⟩,⟨trivial,trivial,trivial,trivial,trivial,trivial,trivial,trivial,trivial,trivial,trivial,trivial,trivial,trivial,trivial,trivial,trivial,trivial,trivial,trivial,trivial⟩,(fun _ _ _ _=>trivial),(fun _ _ _ _=>trivial),(fun _ _ _ _=>trivial),(fun _ _ _ _=>trivial),(fun _ _ _ _=>trivial),(fun _ _ _ _=>trivial),(fun _ _ _ _=>trivial),(fun _ _ _ _=>trivial),trivial⟩ rfl rfl rfl rfl) rfl ?_
 refine ad aa 1 rfl ?_
 refine af ?_
 refine ag ?_
 obtain ⟨l20,e20,hr0⟩:∃ (l20:List bD) (e20:Int),cJ b.al 0 d.n 0 d.sum=(l20,e20):=⟨_,_,rfl⟩
 refine di [0,1,4,5] [0,6,7,8,9,10,11,12,13,14,5] mixed rfl rfl ?_
 refine bW (kn:=[]) aa 9 rfl trivial ?_
 refine cb (n':=16) [40,44,48] [11,6] rfl rfl (.inl ⟨(ah.plain rfl),aJ.cast (cu (bh [6,11]) (bh [6,15]) (ms:=((dD.set 2 (some (.s 1 0 6 b.al.length))).set 19 (some (cI 0)))) (ms':=((dD.set 2 (some (.s 1 0 6 l20.length))).set 19 (some (cI e20)))) (fun x hx=>jd x hx b.al 0 d.n 0 d.sum (by first|omega|(simp;done)|(simp;omega)) l20 e20 hr0) nU rfl rfl ⟨⟨_,rfl,.inl ⟨rfl,rfl⟩⟩,⟨_,rfl,.inr (.c (.d _))⟩,⟨_,rfl,.inr (.c (.d _))⟩,⟨_,rfl,.inr (.c (.d _))⟩,trivial⟩ rfl rfl rfl rfl rfl rfl rfl ⟨rfl,trivial⟩ rfl rfl rfl rfl rfl rfl rfl rfl rfl rfl rfl rfl rfl) rfl⟩) rfl ?_
 refine dW [0,1,4,5] [15,6,0,7,8,9,10,12,13,14,5] rfl rfl (by kernel_rfl) ?_
 refine then_ok ?_
 refine ag ?_
 obtain ⟨l21,e21,hr1⟩:∃ (l21:List Entry) (e21:Int),dQ b.book e20 0 (10+d.n) d.sum=(l21,e21):=⟨_,_,rfl⟩
 refine di [0,1,4,5] [15,6,0,7,8,9,10,12,13,14,5] mixed rfl rfl ?_
 refine bW (kn:=[]) aa 5 rfl trivial ?_
 refine cb (n':=16) [54] [] rfl rfl (.inl ⟨(ah.plain rfl),aJ.cast (aK rfl rfl rfl (aL (by first|omega|(simp;done)|(simp;omega)))) rfl⟩) rfl ?_
 refine bW (kn:=[]) aa 4 rfl trivial ?_
 refine cb (n':=16) [50,55,59] [6] rfl rfl (.inl ⟨(ah.plain rfl),aJ.cast (cu (bh [6]) (bh [6]) (ms:=((dD.set 18 (some (cZ b.book))).set 19 (some (cI e20)))) (ms':=((dD.set 18 (some (cZ l21))).set 19 (some (cI e21)))) (fun x hx=>ju x hx b.book e20 0 (10+d.n) d.sum l21 e21 hr1) mH rfl rfl ⟨⟨_,rfl,.inl ⟨rfl,rfl⟩⟩,⟨_,rfl,.inr (.c (.d _))⟩,⟨_,rfl,.inr (.c (.d _))⟩,⟨_,rfl,.inr (.c (.d _))⟩,trivial⟩ rfl rfl rfl rfl rfl rfl rfl trivial rfl rfl rfl rfl rfl rfl rfl rfl rfl rfl rfl rfl rfl) rfl⟩) rfl ?_
 refine dW [0,4,5] [6,15,0,7,8,9,10,12,13,14,5] rfl rfl (by kernel_rfl) ?_
 refine then_ok ?_
 rcases (show e21=0\/¬e21=0 from by omega) with hs6|hs6
 ·
  refine aH aa 2 rfl ?_
  refine aT 20 [0,16,17,18,19,5] (cO (bh [0,6,7,8,9,10,15,12,13,14]) (bh [0,16,17,18,19]) (fw (x 17) (x 19) b (⟨b.time,b.down,l20,b.due,b.au,b.s0,b.s1,b.n0,b.n1,b.w0,b.w1,b.aY,b.aS,l21⟩:Bk) e21 (by first|assumption|omega)) fO rfl rfl ⟨⟨_,rfl,.inl ⟨rfl,rfl⟩⟩,⟨_,rfl,.inl ⟨rfl,rfl⟩⟩,trivial⟩ ⟨rfl,rfl,rfl,rfl,rfl,rfl,rfl,rfl,rfl,rfl,trivial⟩ rfl rfl rfl rfl rfl rfl trivial ⟨⟨trivial,trivial,trivial,trivial,trivial,trivial,trivial,trivial,trivial,trivial,trivial,trivial,trivial,trivial,trivial,trivial,trivial,trivial,trivial,trivial,trivial⟩,(fun _ _ _ _=>trivial),(fun _ _ _ _=>trivial),(fun _ _ _ _=>trivial),(fun _ _ _ _=>trivial),trivial⟩ rfl rfl rfl rfl) rfl ?_
  refine ad aa 2 rfl ?_
  refine af ?_
  refine aA ?_
  have hX:fI b d=((⟨b.time,b.down,l20,b.due,b.au,b.s0,b.s1,b.n0,b.n1,b.w0,b.w1,b.aY,b.aS,l21⟩:Bk),(⟨e21,0⟩:Answer)):=by
    unfold fI;simp only [dw,hr0,hr1];(repeat' split)<;>first|rfl|omega|(exfalso;omega)|(simp_all;done)|(simp_all;omega)
  rw [hX] at hr;clear hX
  simp only [Prod.mk.injEq] at hr;obtain ⟨rfl,rfl⟩:=hr
  refine aq aa [0,16,17,18,19,5] 5 rfl rfl rfl rfl rfl rfl ?_ ?_
  all_goals first|rfl|(simp [aD,aZ,bm];done)|(simp [aD,aZ,bm];omega)
 refine aH aa 2 rfl ?_
 refine aT 20 [0,16,17,18,19,5] (cO (bh [0,6,7,8,9,10,15,12,13,14]) (bh [0,16,17,18,19]) (gh (x 17) (x 19) b (⟨b.time,b.down,l20,b.due,b.au,b.s0,b.s1,b.n0,b.n1,b.w0,b.w1,b.aY,b.aS,l21⟩:Bk) e21 (by first|assumption|omega)) fO rfl rfl ⟨⟨_,rfl,.inl ⟨rfl,rfl⟩⟩,⟨_,rfl,.inl ⟨rfl,rfl⟩⟩,trivial⟩ ⟨rfl,rfl,rfl,rfl,rfl,rfl,rfl,rfl,rfl,rfl,trivial⟩ rfl rfl rfl rfl rfl rfl trivial ⟨⟨trivial,trivial,trivial,trivial,trivial,trivial,trivial,trivial,trivial,trivial,trivial,trivial,trivial,trivial,trivial,trivial,trivial,trivial,trivial,trivial,trivial⟩,(fun _ _ _ _=>trivial),(fun _ _ _ _=>trivial),(fun _ _ _ _=>trivial),(fun _ _ _ _=>trivial),trivial⟩ rfl rfl rfl rfl) rfl ?_
 refine ad aa 2 rfl ?_
 refine af ?_
 refine aA ?_
 have hX:fI b d=(b,(⟨e21,0⟩:Answer)):=by
   unfold fI;simp only [dw,hr0,hr1];(repeat' split)<;>first|rfl|omega|(exfalso;omega)|(simp_all;done)|(simp_all;omega)
 rw [hX] at hr;clear hX
 simp only [Prod.mk.injEq] at hr;obtain ⟨rfl,rfl⟩:=hr
 refine aq aa [0,16,17,18,19,5] 5 rfl rfl rfl rfl rfl rfl ?_ ?_
 all_goals first|rfl|(simp [aD,aZ,bm];done)|(simp [aD,aZ,bm];omega)
theorem Gr (x:Nat->Value) (hx:∀ i,(x i).oneCell'=true) (b:Bk) (d:bJ) (ok:cz b) (b2:Bk) (a2:Answer) (hr:gN b d=(b2,a2)):cM Try.prog 70 [(.c (.p 0 0 0 0)),(.c (.q (dj d) 0))] [(0,(.box 98 (aZ b 1 2 3 4 (.d (.v (x 17))) (.d (.v (x 19)))))),(1,(dV b.al)),(2,(dL b.due)),(3,(dY b.au)),(4,(cT b.aS))] [0] (.v (.g [cI a2.err,cI a2.bd])) [(0,(.box 98 (aZ b2 1 2 3 4 (.d (.v (x 17))) (.d (.v (x 19)))))),(1,(dV b2.al)),(2,(dL b2.due)),(3,(dY b2.au)),(4,(cT b2.aS))]:=by
 refine cM.mk 64 [(0,(aC (.p 0 0 0 0))),(1,(aC (.q (dj d) 0)))] 5 Try.func70 rfl rfl rfl rfl rfl rfl rfl rfl rfl ?_
 intro W0 F0 T0 pg
 obtain ⟨okt,okc,okd,oka,oky,okw0,okw1,okp,okv,okk0,okk1,okg,okl0,okl1,okp0,okp1,okn0,okn1,okq⟩:=id ok
 refine ae aa 1 rfl ?_
 refine ag ?_
 refine ag ?_
 rcases Bool.eq_false_or_eq_true (decide (d.n < 0)) with hb1|hb1
 ·
  have hb1':=of_decide_eq_true hb1
  refine aX [0,1,4] [5,0,1,2,3,4] mixed rfl rfl ?_
  refine ay (kn:=[(11,true)]) aa 18 rfl ⟨hb1,trivial⟩ ?_
  refine bw [5,0,1,2,3,4] rfl rfl rfl rfl (by kernel_rfl) ?_
  refine af ?_
  refine aj rfl (fun _=>?_) (fun hno=>by cases hno)
  refine ae aa 2 rfl ?_
  refine aA ?_
  refine ax ?_
  have hX:gN b d=(b,(⟨6,0⟩:Answer)):=by
    unfold gN;(repeat' split)<;>first|rfl|omega|(exfalso;omega)|(simp_all;done)|(simp_all;omega)
  rw [hX] at hr;clear hX
  simp only [Prod.mk.injEq] at hr;obtain ⟨rfl,rfl⟩:=hr
  refine aq aa [0,1,2,3,4,5] 5 rfl rfl rfl rfl rfl rfl ?_ ?_
  all_goals first|rfl|(simp [aD,aZ,bm];done)|(simp [aD,aZ,bm];omega)
 have hb1':=of_decide_eq_false hb1
 refine aX [0,1,4] [5,0,1,2,3,4] mixed rfl rfl ?_
 refine ay (kn:=[(11,false)]) aa 15 rfl ⟨hb1,trivial⟩ ?_
 refine aP (n':=6) [21,12] [2] rfl rfl (.inl ⟨(ah.yes rfl rfl rfl),aJ.cast (dy rfl rfl rfl rfl rfl Try.underlying30) rfl⟩) rfl ?_
 refine ay (kn:=[]) aa 2 rfl trivial ?_
 refine bw [5,0,1,2,3,4] rfl rfl rfl rfl (by kernel_rfl) ?_
 refine af ?_
 refine aj rfl (fun hc3=>?_) (fun hc3=>?_)
 ·
  have hc3':=of_decide_eq_true hc3
  refine ae aa 2 rfl ?_
  refine aA ?_
  refine ax ?_
  have hX:gN b d=(b,(⟨6,0⟩:Answer)):=by
    unfold gN;(repeat' split)<;>first|rfl|omega|(exfalso;omega)|(simp_all;done)|(simp_all;omega)
  rw [hX] at hr;clear hX
  simp only [Prod.mk.injEq] at hr;obtain ⟨rfl,rfl⟩:=hr
  refine aq aa [0,1,2,3,4,5] 5 rfl rfl rfl rfl rfl rfl ?_ ?_
  all_goals first|rfl|(simp [aD,aZ,bm];done)|(simp [aD,aZ,bm];omega)
 have hc3':=of_decide_eq_false hc3
 refine aQ ?_
 refine ag ?_
 obtain ⟨x1,hx1⟩:=cg (xs:=b.due) (i:=Int.toNat (d.n)) (by first|omega|(simp;done)|(simp;omega))
 refine aX [0,1,4] [5,0,1,2,3,4] mixed rfl rfl ?_
 refine ay (kn:=[]) aa 9 rfl trivial ?_
 refine aP (n':=6) [30,34] [2] rfl rfl (.inl ⟨(ah.plain rfl),aJ.cast (bz (i:=Int.toNat (d.n)) rfl rfl rfl Try.underlying30 fC (by first|omega|(simp;done)|(simp;omega)) (by first|omega|(simp;done)|(simp;omega))) rfl⟩) rfl ?_
 refine aP (n':=6) [35] [2] rfl rfl (.inl ⟨(ah.plain rfl),aJ.cast (eQ rfl rfl rfl Try.underlying3 rfl (bj hx1) rfl) rfl⟩) rfl ?_
 refine ay (kn:=[]) aa 1 rfl trivial ?_
 refine bw [5,0,1,2,3,4] rfl rfl rfl rfl (by kernel_rfl) ?_
 refine af ?_
 refine ag ?_
 refine ae aa 2 rfl ?_
 refine aj rfl (fun hc4=>?_) (fun hc4=>?_)
 ·
  have hc4':=of_decide_eq_true hc4
  refine ae aa 2 rfl ?_
  refine aA ?_
  refine ax ?_
  have hX:gN b d=(b,(⟨10,0⟩:Answer)):=by
    unfold gN;simp only [dw,List.getD_eq_getElem?_getD,hx1,Option.getD_some,];(repeat' split)<;>first|rfl|omega|(exfalso;omega)|(simp_all;done)|(simp_all;omega)
  rw [hX] at hr;clear hX
  simp only [Prod.mk.injEq] at hr;obtain ⟨rfl,rfl⟩:=hr
  refine aq aa [0,1,2,3,4,5] 5 rfl rfl rfl rfl rfl rfl ?_ ?_
  all_goals first|rfl|(simp [aD,aZ,bm];done)|(simp [aD,aZ,bm];omega)
 have hc4':=of_decide_eq_false hc4
 refine aQ ?_
 refine aH aa 1 rfl ?_
 refine aT 15 [0,6,7,8,9,10,11,12,13,14,5] (cO id (bh [0,6,7,8,9,10,11,12,13,14]) (kD (x 17) (x 19) b (by first|omega|(simp;done)|(simp;omega)) (by first|omega|(simp;done)|(simp;omega)) (by first|omega|(simp;done)|(simp;omega)) (by first|omega|(simp;done)|(simp;omega))) qY rfl rfl ⟨⟨_,rfl,.inl ⟨rfl,rfl⟩⟩,trivial⟩ ⟨rfl,rfl,rfl,rfl,rfl,trivial⟩ rfl rfl rfl rfl rfl rfl trivial ⟨⟨trivial,trivial,trivial,trivial,trivial,trivial,trivial,trivial,trivial,trivial,trivial,trivial,trivial,trivial,trivial,trivial,trivial,trivial,trivial,trivial,trivial⟩,⟨trivial,trivial,trivial,trivial,trivial,trivial,trivial,trivial,trivial,trivial,trivial,trivial,trivial,trivial,trivial,trivial,trivial,trivial,trivial,trivial,trivial⟩,(fun _ _ _ _=>trivial),(fun _ _ _ _=>trivial),(fun _ _ _ _=>trivial),(fun _ _ _ _=>trivial),(fun _ _ _ _=>trivial),(fun _ _ _ _=>trivial),(fun _ _ _ _=>trivial),(fun _ _ _ _=>trivial),trivial⟩ rfl rfl rfl rfl) rfl ?_
 refine ad aa 1 rfl ?_
 refine af ?_
 refine ag ?_
 refine aX [0,1,4,5,6] [0,6,7,8,9,10,11,12,13,14,5] mixed rfl rfl ?_
 refine ay (kn:=[]) aa 9 rfl trivial ?_
 refine aP (n':=15) [46,50] [12] rfl rfl (.inl ⟨(ah.plain rfl),aJ.cast (bz (i:=Int.toNat (d.n)) rfl rfl rfl Try.underlying30 fC (by first|omega|(simp;done)|(simp;omega)) (by first|omega|(simp;done)|(simp;omega))) rfl⟩) rfl ?_
 refine bw [0,6,7,8,9,10,11,12,13,14,5] rfl rfl rfl rfl (by kernel_rfl) ?_
 refine gw [0,6,7,8,9,10,11,12,13,14,5] (dS (ds:=[(dI 0)]) rfl rfl rfl rfl rfl fC rfl (Nat.le_of_ble_eq_true rfl) (bj hx1) rfl (eU (x':=0) rfl)) rfl ?_
 refine af ?_
 refine fF (k:=6) (q:=3) (c':=(.s 12 0 1 (((b.due).set (Int.toNat (d.n)) 0).length))) rfl rfl (by first|rfl|(simp;done)|(congr 1;omega)) rfl ?_
 refine aH aa 5 rfl ?_
 refine az (aK rfl rfl rfl (aL (by first|omega|(simp;done)|(simp;omega)))) rfl ?_
 refine ad aa 1 rfl ?_
 obtain ⟨l20,e20,hr0⟩:∃ (l20:List Entry) (e20:Int),dQ b.book 0 (50+d.n) 0 x1=(l20,e20):=⟨_,_,rfl⟩
 refine aT 15 [6,0,7,8,9,10,11,12,13,14,5] (cu (bh [6]) (bh [6]) (ms:=((dD.set 18 (some (cZ b.book))).set 19 (some (cI 0)))) (ms':=((dD.set 18 (some (cZ l20))).set 19 (some (cI e20)))) (fun x hx=>ju x hx b.book 0 (50+d.n) 0 x1 l20 e20 hr0) mH rfl rfl ⟨⟨_,rfl,.inl ⟨rfl,rfl⟩⟩,⟨_,rfl,.inr (.c (.d _))⟩,⟨_,rfl,.inr (.c (.d _))⟩,⟨_,rfl,.inr (.c (.d _))⟩,trivial⟩ rfl rfl rfl rfl rfl rfl rfl trivial rfl rfl rfl rfl rfl rfl rfl rfl rfl rfl rfl rfl rfl) rfl ?_
 refine af ?_
 rcases (show e20=0\/¬e20=0 from by omega) with hs5|hs5
 ·
  refine aH aa 2 rfl ?_
  refine aT 19 [0,15,16,17,18,5] (cO (bh [0,6,7,8,9,10,11,12,13,14]) (bh [0,15,16,17,18]) (fw (x 17) (x 19) b (⟨b.time,b.down,b.al,(b.due).set (Int.toNat (d.n)) 0,b.au,b.s0,b.s1,b.n0,b.n1,b.w0,b.w1,b.aY,b.aS,l20⟩:Bk) e20 (by first|assumption|omega)) fO rfl rfl ⟨⟨_,rfl,.inl ⟨rfl,rfl⟩⟩,⟨_,rfl,.inl ⟨rfl,rfl⟩⟩,trivial⟩ ⟨rfl,rfl,rfl,rfl,rfl,rfl,rfl,rfl,rfl,rfl,trivial⟩ rfl rfl rfl rfl rfl rfl trivial ⟨⟨trivial,trivial,trivial,trivial,trivial,trivial,trivial,trivial,trivial,trivial,trivial,trivial,trivial,trivial,trivial,trivial,trivial,trivial,trivial,trivial,trivial⟩,(fun _ _ _ _=>trivial),(fun _ _ _ _=>trivial),(fun _ _ _ _=>trivial),(fun _ _ _ _=>trivial),trivial⟩ rfl rfl rfl rfl) rfl ?_
  refine ad aa 2 rfl ?_
  refine af ?_
  refine aA ?_
  have hX:gN b d=((⟨b.time,b.down,b.al,(b.due).set (Int.toNat (d.n)) 0,b.au,b.s0,b.s1,b.n0,b.n1,b.w0,b.w1,b.aY,b.aS,l20⟩:Bk),(⟨e20,0⟩:Answer)):=by
    unfold gN;simp only [dw,List.getD_eq_getElem?_getD,hx1,Option.getD_some,hr0];(repeat' split)<;>first|rfl|omega|(exfalso;omega)|(simp_all;done)|(simp_all;omega)
  rw [hX] at hr;clear hX
  simp only [Prod.mk.injEq] at hr;obtain ⟨rfl,rfl⟩:=hr
  refine aq aa [0,15,16,17,18,5] 5 rfl rfl rfl rfl rfl rfl ?_ ?_
  all_goals first|rfl|(simp [aD,aZ,bm];done)|(simp [aD,aZ,bm];omega)
 refine aH aa 2 rfl ?_
 refine aT 19 [0,15,16,17,18,5] (cO (bh [0,6,7,8,9,10,11,12,13,14]) (bh [0,15,16,17,18]) (gh (x 17) (x 19) b (⟨b.time,b.down,b.al,(b.due).set (Int.toNat (d.n)) 0,b.au,b.s0,b.s1,b.n0,b.n1,b.w0,b.w1,b.aY,b.aS,l20⟩:Bk) e20 (by first|assumption|omega)) fO rfl rfl ⟨⟨_,rfl,.inl ⟨rfl,rfl⟩⟩,⟨_,rfl,.inl ⟨rfl,rfl⟩⟩,trivial⟩ ⟨rfl,rfl,rfl,rfl,rfl,rfl,rfl,rfl,rfl,rfl,trivial⟩ rfl rfl rfl rfl rfl rfl trivial ⟨⟨trivial,trivial,trivial,trivial,trivial,trivial,trivial,trivial,trivial,trivial,trivial,trivial,trivial,trivial,trivial,trivial,trivial,trivial,trivial,trivial,trivial⟩,(fun _ _ _ _=>trivial),(fun _ _ _ _=>trivial),(fun _ _ _ _=>trivial),(fun _ _ _ _=>trivial),trivial⟩ rfl rfl rfl rfl) rfl ?_
 refine ad aa 2 rfl ?_
 refine af ?_
 refine aA ?_
 have hX:gN b d=(b,(⟨e20,0⟩:Answer)):=by
   unfold gN;simp only [dw,List.getD_eq_getElem?_getD,hx1,Option.getD_some,hr0];(repeat' split)<;>first|rfl|omega|(exfalso;omega)|(simp_all;done)|(simp_all;omega)
 rw [hX] at hr;clear hX
 simp only [Prod.mk.injEq] at hr;obtain ⟨rfl,rfl⟩:=hr
 refine aq aa [0,15,16,17,18,5] 5 rfl rfl rfl rfl rfl rfl ?_ ?_
 all_goals first|rfl|(simp [aD,aZ,bm];done)|(simp [aD,aZ,bm];omega)

theorem AO (x:Nat->Value) (hx:∀ i,(x i).oneCell'=true) (b:Bk) (ok:cz b) (b2:Bk) (hr:gJ b=b2):cM Try.prog 84 [(.c (.p 0 0 0 0))] [(0,(.box 98 (aZ b 1 2 3 4 (.d (.v (x 17))) (.d (.v (x 19)))))),(1,(dV b.al)),(2,(dL b.due)),(3,(dY b.au)),(4,(cT b.aS))] [0] (.t []) [(0,(.box 98 (aZ b2 1 2 3 4 (.d (.v (x 17))) (.d (.v (x 19)))))),(1,(dV b2.al)),(2,(dL b2.due)),(3,(dY b2.au)),(4,(cT b2.aS))]:=by
 refine cM.mk 47 [(0,(aC (.p 0 0 0 0)))] 5 Try.func84 rfl rfl rfl rfl rfl rfl rfl rfl rfl ?_
 intro W0 F0 T0 pg
 obtain ⟨okt,okc,okd,oka,oky,okw0,okw1,okp,okv,okk0,okk1,okg,okl0,okl1,okp0,okp1,okn0,okn1,okq⟩:=id ok
 refine aH aa 1 rfl ?_
 refine aT 14 [0,5,6,7,8,9,10,11,12,13] (cO id (bh [0,5,6,7,8,9,10,11,12,13]) (kD (x 17) (x 19) b (by first|omega|(simp;done)|(simp;omega)) (by first|omega|(simp;done)|(simp;omega)) (by first|omega|(simp;done)|(simp;omega)) (by first|omega|(simp;done)|(simp;omega))) qY rfl rfl ⟨⟨_,rfl,.inl ⟨rfl,rfl⟩⟩,trivial⟩ ⟨rfl,rfl,rfl,rfl,rfl,trivial⟩ rfl rfl rfl rfl rfl rfl trivial ⟨⟨trivial,trivial,trivial,trivial,trivial,trivial,trivial,trivial,trivial,trivial,trivial,trivial,trivial,trivial,trivial,trivial,trivial,trivial,trivial,trivial,trivial⟩,⟨trivial,trivial,trivial,trivial,trivial,trivial,trivial,trivial,trivial,trivial,trivial,trivial,trivial,trivial,trivial,trivial,trivial,trivial,trivial,trivial,trivial⟩,(fun _ _ _ _=>trivial),(fun _ _ _ _=>trivial),(fun _ _ _ _=>trivial),(fun _ _ _ _=>trivial),(fun _ _ _ _=>trivial),(fun _ _ _ _=>trivial),(fun _ _ _ _=>trivial),(fun _ _ _ _=>trivial),trivial⟩ rfl rfl rfl rfl) rfl ?_
 refine ad aa 1 rfl ?_
 refine af ?_
 refine ag ?_
 refine aH aa 5 rfl ?_
 refine az (dy rfl rfl rfl rfl rfl Try.underlying31) rfl ?_
 refine ad aa 1 rfl ?_
 refine af ?_
 refine aR ?_
 refine ch (β:=Nat×List bD×List bC×Int) (fun (p:Nat×List bD×List bC×Int)=>match p with|(q,cs,xs,e)=>⟨[(0,(aC (.p 0 0 0 0))),(2,(aC (.p 5 0 0 0))),(12,(aC (.s 12 0 8 xs.length))),(13,(aI (↑b.au.length:Int))),(14,(aI (↑q:Int)))],[(0,(.box 98 (aZ b 6 7 8 9 (.d (.v (x 17))) (.d (.v (x 19)))))),(5,(.box 147 (((aZ b 10 11 12 13 (.d (.v (x 17))) (cI e)).set 2 (.s 10 0 6 cs.length)).set 4 (.s 12 0 8 xs.length)))),(6,(dV b.al)),(7,(dL b.due)),(8,(dY b.au)),(9,(cT b.aS)),(10,(dV cs)),(11,(dL b.due)),(12,(dY xs)),(13,(cT b.aS))],14⟩) (fun (p:Nat×List bD×List bC×Int)=>match p with|(q,cs,xs,e)=>q<=b.au.length/\fv b.time b.au 0 b.al b.au 0=fv b.time (b.au.drop q) q cs xs e/\cs.length=b.al.length/\xs.length=b.au.length/\(∀ i,q<=i->xs[i]?=b.au[i]?)) (fun (p:Nat×List bD×List bC×Int)=>match p with|(q,cs,xs,e)=>b.au.length - q) (0,b.al,b.au,0) ?_ ?_ ?_
 ·exact ⟨by omega,rfl,rfl,rfl,fun _ _=>rfl⟩
 ·exact aF.bL id (by refine ⟨?_,?_,?_,?_,?_,trivial⟩<;>first|rfl|(simp only [ba];done)|(congr 3;omega)|(congr 4;omega)|(simp only [bb];rfl)) (by refine ⟨?_,?_,?_,?_,?_,?_,?_,?_,?_,?_,trivial⟩<;>first|rfl|(simp only [ba];done)|(congr 3;omega)|(congr 4;omega)|(simp only [bb];rfl)) rfl
 rintro ⟨q,cs,xs,e⟩ ⟨hi0_0,hi0_1,hi0_2,hi0_3,hi0_4⟩
 refine ae aa 1 rfl ?_
 refine ag ?_
 refine aj rfl (fun hc1=>?_) (fun hc1=>?_)
 ·
  have hc1':=of_decide_eq_true hc1
  refine aQ ?_
  refine ag ?_
  refine aR ?_
  refine aH aa 1 rfl ?_
  refine az (bz (i:=q) rfl rfl rfl Try.underlying31 kj (by first|omega|(simp;done)|(simp;omega)) (by first|omega|(simp;done)|(simp;omega))) rfl ?_
  obtain ⟨x1,hx1⟩:=cg (xs:=xs) (i:=q) (by first|omega|(simp;done)|(simp;omega))
  have hx1w:=okp x1 (List.mem_of_getElem? (show b.au[q]?=some x1 by rw [<-hi0_4 q (by omega)];exact hx1))
  have hx1A:=hx1w.2
  replace hx1w:=hx1w.1
  refine az (dr rfl rfl rfl Try.underlying67 rfl kj (bj hx1) rfl) rfl ?_
  refine ad aa 3 rfl ?_
  refine af ?_
  refine ag ?_
  obtain ⟨b0,hr0⟩:∃ (b0:bC),ep x1 b.time=b0:=⟨_,rfl⟩
  have hlw:bM b0=0:=by rw [<-hr0];exact xI hx1w
  refine aX [0,2,12,13,14,4,3] [14,0,5,6,7,8,9,10,11,12,13] mixed rfl rfl ?_
  refine ay (kn:=[]) aa 6 rfl trivial ?_
  refine aP (n':=15) [19,24] [] rfl rfl (.inl ⟨(ah.plain rfl),aJ.cast (bU 15 (xc x1 b.time b0 hr0) Gg rfl rfl ⟨⟨_,rfl,.g ⟨.d _,.d _,.d _,.d _,.d _,.d _,.d _,.d _,trivial⟩⟩,⟨_,rfl,.c (.d _)⟩,trivial⟩ ⟨trivial,trivial,trivial,trivial,trivial,trivial,trivial,trivial,trivial⟩ trivial rfl rfl rfl rfl) rfl⟩) rfl ?_
  refine ay (n':=16) (kn:=[]) aa 1 rfl trivial ?_
  refine bw [15,14,0,5,6,7,8,9,10,11,12,13] rfl rfl rfl rfl (by kernel_rfl) ?_
  refine ad aa 1 rfl ?_
  refine af ?_
  refine ag ?_
  obtain ⟨e1,hr1⟩:∃ (e1:Int),bR b0=e1:=⟨_,rfl⟩
  have hhb1:=oY (show bM b0=0 by assumption)
  rw [hr1] at hhb1
  obtain ⟨e2,hr2⟩:∃ (e2:Int),bR x1=e2:=⟨_,rfl⟩
  have hhb2:=oY (show bM x1=0 by assumption)
  rw [hr2] at hhb2
  obtain ⟨l23,e23,hr3⟩:∃ (l23:List bD) (e23:Int),cJ cs e x1.aO (e1 - e2) 0=(l23,e23):=⟨_,_,rfl⟩
  have hsl3:l23.length=cs.length:=by have h:=fb cs e x1.aO (e1 - e2) 0;rw [hr3] at h;exact h
  refine di [0,2,12,13,14,4,3,5] [15,14,0,5,6,7,8,9,10,11,12,13] mixed rfl rfl ?_
  refine bW (kn:=[]) aa 4 rfl trivial ?_
  refine cb (n':=16) [29] [] rfl rfl (.inl ⟨(ah.plain rfl),aJ.cast (bU 16 (kL b0 (by first|assumption|omega|rfl|decide) e1 hr1) yU rfl rfl ⟨⟨_,rfl,.g ⟨.d _,.d _,.d _,.d _,.d _,.d _,.d _,.d _,trivial⟩⟩,trivial⟩ trivial trivial rfl rfl rfl rfl) rfl⟩) rfl ?_
  refine bW (kn:=[]) aa 1 rfl trivial ?_
  refine cb (n':=16) [31] [] rfl rfl (.inl ⟨(ah.plain rfl),aJ.cast (bU 16 (kL x1 (by first|assumption|omega|rfl|decide) e2 hr2) yU rfl rfl ⟨⟨_,rfl,.g ⟨.d _,.d _,.d _,.d _,.d _,.d _,.d _,.d _,trivial⟩⟩,trivial⟩ trivial trivial rfl rfl rfl rfl) rfl⟩) rfl ?_
  refine cb (n':=16) [30,32] [] rfl rfl (.inl ⟨(ah.plain rfl),aJ.cast (aK rfl rfl rfl (aL (by first|omega|(simp;done)|(simp;omega)))) rfl⟩) rfl ?_
  refine cb (n':=17) [26,28,33] [10,5] rfl rfl (.inl ⟨(ah.plain rfl),aJ.cast (cu (bh [5,10]) (bh [5,16]) (ms:=((dD.set 2 (some (.s 1 0 6 cs.length))).set 19 (some (cI e)))) (ms':=((dD.set 2 (some (.s 1 0 6 l23.length))).set 19 (some (cI e23)))) (fun x hx=>jd x hx cs e x1.aO (e1 - e2) 0 (by first|omega|(simp;done)|(simp;omega)) l23 e23 hr3) nU rfl rfl ⟨⟨_,rfl,.inl ⟨rfl,rfl⟩⟩,⟨_,rfl,.inr (.c (.d _))⟩,⟨_,rfl,.inr (.c (.d _))⟩,⟨_,rfl,.inr (.c (.d _))⟩,trivial⟩ rfl rfl rfl rfl rfl rfl rfl ⟨rfl,trivial⟩ rfl rfl rfl rfl rfl rfl rfl rfl rfl rfl rfl rfl rfl) rfl⟩) rfl ?_
  refine dW [0,2,12,13,14,3,5] [16,5,15,0,6,7,8,9,11,12,13] rfl rfl (by kernel_rfl) ?_
  refine then_ok ?_
  refine aX [0,2,12,13,14,3,5] [16,5,15,0,6,7,8,9,11,12,13] mixed rfl rfl ?_
  refine ay (kn:=[]) aa 7 rfl trivial ?_
  refine aP (n':=17) [39,40] [12] rfl rfl (.inl ⟨(ah.plain rfl),aJ.cast (bz (i:=q) rfl rfl rfl Try.underlying31 kj (by first|omega|(simp;done)|(simp;omega)) (by first|omega|(simp;done)|(simp;omega))) rfl⟩) rfl ?_
  refine bw [16,5,15,0,6,7,8,9,11,12,13] rfl rfl rfl rfl (by kernel_rfl) ?_
  refine gw [16,5,15,0,6,7,8,9,11,12,13] (dS (ds:=[(dI b0.aO),(dI b0.aE),(dI b0.sum),(dI b0.captured),(dI b0.bB),(dI b0.bl),(dI b0.dg),(dB b0.shut)]) rfl rfl rfl rfl rfl kj rfl (Nat.le_of_ble_eq_true rfl) (bj hx1) rfl (eU (x':=b0) rfl)) rfl ?_
  refine cf ?_
  refine bf ?_
  refine then_ok ?_
  refine fF (k:=5) (q:=4) (c':=(.s 12 0 8 (((xs).set q b0).length))) rfl rfl (by first|rfl|(simp;done)|(congr 1;omega)) rfl ?_
  refine aw ?_
  refine az (aK rfl rfl rfl (aL (by first|omega|(simp;done)|(simp;omega)))) rfl ?_
  refine ad aa 1 rfl ?_
  refine af ?_
  refine ⟨(q+1,l23,(xs).set q b0,e23),⟨by omega,by rw [hi0_1,yC (a:=x1) (by rw [<-hi0_4 q (by omega)];exact hx1),hr0,hr1,hr2,hr3],by omega,by rw [List.length_set];omega,fun i hi=>by rw [List.getElem?_set_ne (by omega)];exact hi0_4 i (by omega)⟩,by first|omega|(simp;done)|(simp;omega),aF.bL (fun k=>if k=10 then 16 else k) (by refine ⟨?_,?_,?_,?_,?_,trivial⟩<;>first|rfl|(simp only [ba];done)|(congr 3;omega)|(congr 4;omega)|(simp only [bb];rfl)) (by refine ⟨?_,?_,?_,?_,?_,?_,?_,?_,?_,?_,trivial⟩<;>first|rfl|(simp only [ba];done)|(congr 3;omega)|(congr 4;omega)|(simp only [bb];rfl)) rfl⟩
 have hc1':=of_decide_eq_false hc1
 refine bT ?_
 refine aN ?_
 refine aN ?_
 refine bA ?_
 refine then_ok ?_
 rcases (show e=0\/¬e=0 from by omega) with hs2|hs2
 ·
  refine aw ?_
  refine ad aa 2 rfl ?_
  refine aT 18 [0,14,15,16,17] (cO (bh [0,5,6,7,8,9,10,11,12,13]) (bh [0,14,15,16,17]) (fw (x 17) (x 19) b (⟨b.time,b.down,cs,b.due,xs,b.s0,b.s1,b.n0,b.n1,b.w0,b.w1,b.aY,b.aS,b.book⟩:Bk) e (by first|assumption|omega)) fO rfl rfl ⟨⟨_,rfl,.inl ⟨rfl,rfl⟩⟩,⟨_,rfl,.inl ⟨rfl,rfl⟩⟩,trivial⟩ ⟨rfl,rfl,rfl,rfl,rfl,rfl,rfl,rfl,rfl,rfl,trivial⟩ rfl rfl rfl rfl rfl rfl trivial ⟨⟨trivial,trivial,trivial,trivial,trivial,trivial,trivial,trivial,trivial,trivial,trivial,trivial,trivial,trivial,trivial,trivial,trivial,trivial,trivial,trivial,trivial⟩,(fun _ _ _ _=>trivial),(fun _ _ _ _=>trivial),(fun _ _ _ _=>trivial),(fun _ _ _ _=>trivial),trivial⟩ rfl rfl rfl rfl) rfl ?_
  refine cf ?_
  have hX:gJ b=(⟨b.time,b.down,cs,b.due,xs,b.s0,b.s1,b.n0,b.n1,b.w0,b.w1,b.aY,b.aS,b.book⟩:Bk):=by
    have hL:fv b.time b.au 0 b.al b.au 0=(cs,xs,e):=by rw [hi0_1,List.drop_of_length_le (by omega)];rfl
    unfold gJ;rw [hL];dsimp only;first|rw [if_pos (by assumption)]|rw [if_neg (by assumption)]
  rw [hX] at hr;clear hX
  subst hr
  refine cP aa [0,14,15,16,17] 5 rfl rfl rfl rfl rfl rfl ?_ ?_
  all_goals first|rfl|(simp [aD,aZ,bm];done)|(simp [aD,aZ,bm];omega)
 refine aw ?_
 refine ad aa 2 rfl ?_
 refine aT 18 [0,14,15,16,17] (cO (bh [0,5,6,7,8,9,10,11,12,13]) (bh [0,14,15,16,17]) (gh (x 17) (x 19) b (⟨b.time,b.down,cs,b.due,xs,b.s0,b.s1,b.n0,b.n1,b.w0,b.w1,b.aY,b.aS,b.book⟩:Bk) e (by first|assumption|omega)) fO rfl rfl ⟨⟨_,rfl,.inl ⟨rfl,rfl⟩⟩,⟨_,rfl,.inl ⟨rfl,rfl⟩⟩,trivial⟩ ⟨rfl,rfl,rfl,rfl,rfl,rfl,rfl,rfl,rfl,rfl,trivial⟩ rfl rfl rfl rfl rfl rfl trivial ⟨⟨trivial,trivial,trivial,trivial,trivial,trivial,trivial,trivial,trivial,trivial,trivial,trivial,trivial,trivial,trivial,trivial,trivial,trivial,trivial,trivial,trivial⟩,(fun _ _ _ _=>trivial),(fun _ _ _ _=>trivial),(fun _ _ _ _=>trivial),(fun _ _ _ _=>trivial),trivial⟩ rfl rfl rfl rfl) rfl ?_
 refine cf ?_
 have hX:gJ b=b:=by
   have hL:fv b.time b.au 0 b.al b.au 0=(cs,xs,e):=by rw [hi0_1,List.drop_of_length_le (by omega)];rfl
   unfold gJ;rw [hL];dsimp only;first|rw [if_pos (by assumption)]|rw [if_neg (by assumption)]
 rw [hX] at hr;clear hX
 subst hr
 refine cP aa [0,14,15,16,17] 5 rfl rfl rfl rfl rfl rfl ?_ ?_
 all_goals first|rfl|(simp [aD,aZ,bm];done)|(simp [aD,aZ,bm];omega)
theorem DA (x:Nat->Value) (hx:∀ i,(x i).oneCell'=true) (b:Bk) (d:bJ) (ok:cz b) (hdn:b.down=false) (b2:Bk) (a2:Answer) (hr:fk b d=(b2,a2)):cM Try.prog 65 [(.c (.p 0 0 0 0)),(.c (.q (dj d) 0))] [(0,(.box 98 (aZ b 1 2 3 4 (.d (.v (x 17))) (.d (.v (x 19)))))),(1,(dV b.al)),(2,(dL b.due)),(3,(dY b.au)),(4,(cT b.aS))] [0] (.v (.g [cI a2.err,cI a2.bd])) [(0,(.box 98 (aZ b2 1 2 3 4 (.d (.v (x 17))) (.d (.v (x 19)))))),(1,(dV b2.al)),(2,(dL b2.due)),(3,(dY b2.au)),(4,(cT b2.aS))]:=by
 refine cM.mk 46 [(0,(aC (.p 0 0 0 0))),(1,(aC (.q (dj d) 0)))] 5 Try.func65 rfl rfl rfl rfl rfl rfl rfl rfl rfl ?_
 intro W0 F0 T0 pg
 obtain ⟨okt,okc,okd,oka,oky,okw0,okw1,okp,okv,okk0,okk1,okg,okl0,okl1,okp0,okp1,okn0,okn1,okq⟩:=id ok
 refine ae aa 1 rfl ?_
 refine ag ?_
 refine ag ?_
 rcases Bool.eq_false_or_eq_true (decide (d.sum < 0)) with hb1|hb1
 ·
  have hb1':=of_decide_eq_true hb1
  refine aX [0,1,4] [5,0,1,2,3,4] mixed rfl rfl ?_
  refine ay (kn:=[(9,true)]) aa 18 rfl ⟨hb1,trivial⟩ ?_
  refine bw [5,0,1,2,3,4] rfl rfl rfl rfl (by kernel_rfl) ?_
  refine af ?_
  refine aj rfl (fun _=>?_) (fun hno=>by cases hno)
  refine ae aa 2 rfl ?_
  refine aA ?_
  refine ax ?_
  have hX:fk b d=(b,(⟨3,0⟩:Answer)):=by
    unfold fk;(repeat' split)<;>first|rfl|omega|(exfalso;omega)|(simp_all;done)|(simp_all;omega)
  rw [hX] at hr;clear hX
  simp only [Prod.mk.injEq] at hr;obtain ⟨rfl,rfl⟩:=hr
  refine aq aa [0,1,2,3,4,5] 5 rfl rfl rfl rfl rfl rfl ?_ ?_
  all_goals first|rfl|(simp [aD,aZ,bm];done)|(simp [aD,aZ,bm];omega)
 have hb1':=of_decide_eq_false hb1
 refine aX [0,1,4] [5,0,1,2,3,4] mixed rfl rfl ?_
 refine ay (kn:=[(9,false)]) aa 15 rfl ⟨hb1,trivial⟩ ?_
 refine aP (n':=6) [19,10] [] rfl rfl (.inl ⟨(ah.yes rfl rfl rfl),aJ.cast (aK rfl rfl rfl (aL (by first|omega|(simp;done)|(simp;omega)))) rfl⟩) rfl ?_
 refine ay (kn:=[]) aa 2 rfl trivial ?_
 refine bw [5,0,1,2,3,4] rfl rfl rfl rfl (by kernel_rfl) ?_
 refine af ?_
 refine aj rfl (fun hc3=>?_) (fun hc3=>?_)
 ·
  have hc3':=of_decide_eq_true hc3
  refine ae aa 2 rfl ?_
  refine aA ?_
  refine ax ?_
  have hX:fk b d=(b,(⟨3,0⟩:Answer)):=by
    unfold fk;(repeat' split)<;>first|rfl|omega|(exfalso;omega)|(simp_all;done)|(simp_all;omega)
  rw [hX] at hr;clear hX
  simp only [Prod.mk.injEq] at hr;obtain ⟨rfl,rfl⟩:=hr
  refine aq aa [0,1,2,3,4,5] 5 rfl rfl rfl rfl rfl rfl ?_ ?_
  all_goals first|rfl|(simp [aD,aZ,bm];done)|(simp [aD,aZ,bm];omega)
 have hc3':=of_decide_eq_false hc3
 refine aQ ?_
 refine ag ?_
 refine aX [0,1,4] [5,0,1,2,3,4] mixed rfl rfl ?_
 refine ay (kn:=[]) aa 9 rfl trivial ?_
 refine aP (n':=6) [28,32] [] rfl rfl (.inl ⟨(ah.plain rfl),aJ.cast (aK rfl rfl rfl (aL (by first|omega|(simp;done)|(simp;omega)))) rfl⟩) rfl ?_
 refine ay (kn:=[]) aa 3 rfl trivial ?_
 refine bw [5,0,1,2,3,4] rfl rfl rfl rfl (by kernel_rfl) ?_
 refine ad aa 1 rfl ?_
 refine af ?_
 refine ag ?_
 refine ae aa 6 rfl ?_
 refine aj rfl (fun _=>?_) (fun hno=>by simp [hdn] at hno)
 refine aw ?_
 refine ad aa 1 rfl ?_
 obtain ⟨b20,hr0⟩:∃ (b20:Bk),gJ (⟨b.time+d.sum,b.down,b.al,b.due,b.au,b.s0,b.s1,b.n0,b.n1,b.w0,b.w1,b.aY,b.aS,b.book⟩:Bk)=b20:=⟨_,rfl⟩
 refine aT 10 [0,6,7,8,9,5] (cu id (bh [0,6,7,8,9]) (ms:=[some (cI (b.time+d.sum)),some (cB b.down),some (.s 1 0 6 b.al.length),some (.s 2 0 1 b.due.length),some (.s 3 0 8 b.au.length),some (cI b.s0.bq),some (ck b.s0.kept),some (cI b.s1.bq),some (ck b.s1.kept),some (cI b.n0),some (cI b.n1),some (cV b.w0),some (cV b.w1),some (cI b.aY.cap),some (df b.aY.used),some (eb b.aY.aU),some (.s 4 0 4 b.aS.length),none,some (cZ b.book),none]) (ms':=(ji b20 1 2 3 4 none none)) (fun x hx=>AO x hx (⟨b.time+d.sum,b.down,b.al,b.due,b.au,b.s0,b.s1,b.n0,b.n1,b.w0,b.w1,b.aY,b.aS,b.book⟩:Bk) (by first|assumption|exact cz.tick (by assumption) (by omega) (by omega)) b20 hr0) EJ rfl rfl ⟨⟨_,rfl,.inl ⟨rfl,rfl⟩⟩,trivial⟩ rfl rfl rfl rfl rfl rfl rfl ⟨rfl,rfl,rfl,rfl,trivial⟩ rfl rfl rfl rfl rfl rfl rfl rfl rfl rfl rfl rfl rfl) rfl ?_
 refine af ?_
 refine ae aa 2 rfl ?_
 refine aA ?_
 have hX:fk b d=(b20,(⟨0,0⟩:Answer)):=by
   unfold fk;simp only [dw,hr0];(repeat' split)<;>first|rfl|omega|(exfalso;omega)|(simp_all;done)|(simp_all;omega)
 rw [hX] at hr;clear hX
 simp only [Prod.mk.injEq] at hr;obtain ⟨rfl,rfl⟩:=hr
 refine aq aa [0,6,7,8,9,5] 5 rfl rfl rfl rfl rfl rfl ?_ ?_
 all_goals first|rfl|(simp [aD,aZ,bm];done)|(simp [aD,aZ,bm];omega)
theorem DB (x:Nat->Value) (hx:∀ i,(x i).oneCell'=true) (b:Bk) (d:bJ) (ok:cz b) (hdn:b.down=true) (b2:Bk) (a2:Answer) (hr:fk b d=(b2,a2)):cM Try.prog 65 [(.c (.p 0 0 0 0)),(.c (.q (dj d) 0))] [(0,(.box 98 (aZ b 1 2 3 4 (.d (.v (x 17))) (.d (.v (x 19)))))),(1,(dV b.al)),(2,(dL b.due)),(3,(dY b.au)),(4,(cT b.aS))] [0] (.v (.g [cI a2.err,cI a2.bd])) [(0,(.box 98 (aZ b2 1 2 3 4 (.d (.v (x 17))) (.d (.v (x 19)))))),(1,(dV b2.al)),(2,(dL b2.due)),(3,(dY b2.au)),(4,(cT b2.aS))]:=by
 refine cM.mk 46 [(0,(aC (.p 0 0 0 0))),(1,(aC (.q (dj d) 0)))] 5 Try.func65 rfl rfl rfl rfl rfl rfl rfl rfl rfl ?_
 intro W0 F0 T0 pg
 obtain ⟨okt,okc,okd,oka,oky,okw0,okw1,okp,okv,okk0,okk1,okg,okl0,okl1,okp0,okp1,okn0,okn1,okq⟩:=id ok
 refine ae aa 1 rfl ?_
 refine ag ?_
 refine ag ?_
 rcases Bool.eq_false_or_eq_true (decide (d.sum < 0)) with hb1|hb1
 ·
  have hb1':=of_decide_eq_true hb1
  refine aX [0,1,4] [5,0,1,2,3,4] mixed rfl rfl ?_
  refine ay (kn:=[(9,true)]) aa 18 rfl ⟨hb1,trivial⟩ ?_
  refine bw [5,0,1,2,3,4] rfl rfl rfl rfl (by kernel_rfl) ?_
  refine af ?_
  refine aj rfl (fun _=>?_) (fun hno=>by cases hno)
  refine ae aa 2 rfl ?_
  refine aA ?_
  refine ax ?_
  have hX:fk b d=(b,(⟨3,0⟩:Answer)):=by
    unfold fk;(repeat' split)<;>first|rfl|omega|(exfalso;omega)|(simp_all;done)|(simp_all;omega)
  rw [hX] at hr;clear hX
  simp only [Prod.mk.injEq] at hr;obtain ⟨rfl,rfl⟩:=hr
  refine aq aa [0,1,2,3,4,5] 5 rfl rfl rfl rfl rfl rfl ?_ ?_
  all_goals first|rfl|(simp [aD,aZ,bm];done)|(simp [aD,aZ,bm];omega)
 have hb1':=of_decide_eq_false hb1
 refine aX [0,1,4] [5,0,1,2,3,4] mixed rfl rfl ?_
 refine ay (kn:=[(9,false)]) aa 15 rfl ⟨hb1,trivial⟩ ?_
 refine aP (n':=6) [19,10] [] rfl rfl (.inl ⟨(ah.yes rfl rfl rfl),aJ.cast (aK rfl rfl rfl (aL (by first|omega|(simp;done)|(simp;omega)))) rfl⟩) rfl ?_
 refine ay (kn:=[]) aa 2 rfl trivial ?_
 refine bw [5,0,1,2,3,4] rfl rfl rfl rfl (by kernel_rfl) ?_
 refine af ?_
 refine aj rfl (fun hc3=>?_) (fun hc3=>?_)
 ·
  have hc3':=of_decide_eq_true hc3
  refine ae aa 2 rfl ?_
  refine aA ?_
  refine ax ?_
  have hX:fk b d=(b,(⟨3,0⟩:Answer)):=by
    unfold fk;(repeat' split)<;>first|rfl|omega|(exfalso;omega)|(simp_all;done)|(simp_all;omega)
  rw [hX] at hr;clear hX
  simp only [Prod.mk.injEq] at hr;obtain ⟨rfl,rfl⟩:=hr
  refine aq aa [0,1,2,3,4,5] 5 rfl rfl rfl rfl rfl rfl ?_ ?_
  all_goals first|rfl|(simp [aD,aZ,bm];done)|(simp [aD,aZ,bm];omega)
 have hc3':=of_decide_eq_false hc3
 refine aQ ?_
 refine ag ?_
 refine aX [0,1,4] [5,0,1,2,3,4] mixed rfl rfl ?_
 refine ay (kn:=[]) aa 9 rfl trivial ?_
 refine aP (n':=6) [28,32] [] rfl rfl (.inl ⟨(ah.plain rfl),aJ.cast (aK rfl rfl rfl (aL (by first|omega|(simp;done)|(simp;omega)))) rfl⟩) rfl ?_
 refine ay (kn:=[]) aa 3 rfl trivial ?_
 refine bw [5,0,1,2,3,4] rfl rfl rfl rfl (by kernel_rfl) ?_
 refine ad aa 1 rfl ?_
 refine af ?_
 refine ag ?_
 refine ae aa 6 rfl ?_
 refine aj rfl (fun hno=>by simp [hdn] at hno) (fun _=>?_)
 refine aQ ?_
 refine ae aa 2 rfl ?_
 refine aA ?_
 have hX:fk b d=((⟨b.time+d.sum,b.down,b.al,b.due,b.au,b.s0,b.s1,b.n0,b.n1,b.w0,b.w1,b.aY,b.aS,b.book⟩:Bk),(⟨0,0⟩:Answer)):=by
   unfold fk;(repeat' split)<;>first|rfl|omega|(exfalso;omega)|(simp_all;done)|(simp_all;omega)
 rw [hX] at hr;clear hX
 simp only [Prod.mk.injEq] at hr;obtain ⟨rfl,rfl⟩:=hr
 refine aq aa [0,1,2,3,4,5] 5 rfl rfl rfl rfl rfl rfl ?_ ?_
 all_goals first|rfl|(simp [aD,aZ,bm];done)|(simp [aD,aZ,bm];omega)
theorem Ff (x:Nat->Value) (hx:∀ i,(x i).oneCell'=true) (b:Bk) (d:bJ) (ok:cz b) (b2:Bk) (a2:Answer) (hr:fk b d=(b2,a2)):cM Try.prog 65 [(.c (.p 0 0 0 0)),(.c (.q (dj d) 0))] [(0,(.box 98 (aZ b 1 2 3 4 (.d (.v (x 17))) (.d (.v (x 19)))))),(1,(dV b.al)),(2,(dL b.due)),(3,(dY b.au)),(4,(cT b.aS))] [0] (.v (.g [cI a2.err,cI a2.bd])) [(0,(.box 98 (aZ b2 1 2 3 4 (.d (.v (x 17))) (.d (.v (x 19)))))),(1,(dV b2.al)),(2,(dL b2.due)),(3,(dY b2.au)),(4,(cT b2.aS))]:=by
  cases hdn:b.down
  ·exact DA x hx b d ok hdn b2 a2 hr
  ·exact DB x hx b d ok hdn b2 a2 hr
end Go.Proofs.Ytegepioggeggaaa.Dev
