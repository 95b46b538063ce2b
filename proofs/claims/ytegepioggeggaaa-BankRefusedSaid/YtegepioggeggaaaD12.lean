/- A part of the proof: Bank10, Bank11, Bank5, Bank6. No condition. -/
import Derived.Test.YtegepioggeggaaaD11
set_option linter.unusedVariables false
set_option linter.unusedSimpArgs false
set_option maxHeartbeats 8000000
set_option maxRecDepth 100000
namespace Go.Proofs.Ytegepioggeggaaa.Dev
open Go.RowKit

theorem zS (x:Nat->Value) (hx:∀ i,(x i).oneCell'=true) (b:Bk) (idn kind aD move sum:Int) (ok:ct b) (b2:Bk) (a2:Answer) (hr:cv b (⟨idn,kind,0,aD,move,sum⟩:bB)=(b2,a2)):cJ Try.prog 67 [(.c (.p 0 0 0 0)),(.c (.q (df (⟨idn,kind,0,aD,move,sum⟩:bB)) 0))] [(0,(.box 98 (aX b 1 2 3 4 (.d (.v (x 17))) (.d (.v (x 19)))))),(1,(dO b.aq)),(2,(dF b.due)),(3,(dR b.ax)),(4,(cP b.aR))] [0] (.v (.g [cI a2.err,cI a2.aZ])) [(0,(.box 98 (aX b2 1 2 3 4 (.d (.v (x 17))) (.d (.v (x 19)))))),(1,(dO b2.aq)),(2,(dF b2.due)),(3,(dR b2.ax)),(4,(cP b2.aR))]:=by
 refine cJ.mk 153 [(0,(aC (.p 0 0 0 0))),(1,(aC (.q (df (⟨idn,kind,0,aD,move,sum⟩:bB)) 0)))] 5 Try.func67 rfl rfl rfl rfl rfl rfl rfl rfl rfl ?_
 intro W0 F0 T0 pg
 obtain ⟨okt,okc,okd,oka,oky,okw0,okw1,okp,okv,okk0,okk1,okg,okl0,okl1,okp0,okp1,okn0,okn1,okq⟩:=id ok
 refine ae aa 1 rfl ?_
 refine ag ?_
 refine ag ?_
 refine aW [0,1,4] [5,0,1,2,3,4] mixed rfl rfl ?_
 refine au (kn:=[(15,false)]) aa 21 rfl ⟨rfl,trivial⟩ ?_
 refine aM (n':=6) [31,28,23] [0] rfl rfl (.inl ⟨(ah.yes rfl rfl rfl),aE.cast (cE (i:=0) rfl rfl rfl Try.underlying38 gr rfl (by decide)) rfl⟩) rfl ?_
 refine au (kn:=[]) aa 1 rfl trivial ?_
 refine aM (n':=6) [33,23] [] rfl rfl (.inl ⟨(ah.yes rfl rfl rfl),aE.cast (bQ rfl rfl rfl rfl rfl Try.underlying37) rfl⟩) rfl ?_
 refine au (kn:=[]) aa 2 rfl trivial ?_
 refine br [5,0,1,2,3,4] rfl rfl rfl rfl (by kernel_rfl) ?_
 refine af ?_
 refine aj rfl (fun hc1=>?_) (fun hc1=>?_)
 ·
  have hc1':=of_decide_eq_true hc1
  refine ae aa 2 rfl ?_
  refine ay ?_
  refine ar ?_
  have hX:cv b (⟨idn,kind,0,aD,move,sum⟩:bB)=(b,(⟨6,0⟩:Answer)):=by
    unfold cv;dsimp only;rw [if_pos rfl];unfold fE;rw [List.getElem?_eq_none (by omega)]
  rw [hX] at hr;clear hX
  simp only [Prod.mk.injEq] at hr;obtain ⟨rfl,rfl⟩:=hr
  refine an aa [0,1,2,3,4,5] 5 rfl rfl rfl rfl rfl rfl ?_ ?_
  all_goals first|rfl|(simp [az,aX,bc];done)|(simp [az,aX,bc];omega)
 have hc1':=of_decide_eq_false hc1
 refine aP ?_
 refine ag ?_
 obtain ⟨x1,hx1⟩:=cb (xs:=b.w0) (i:=0) (by first|omega|(simp;done)|(simp;omega))
 refine aW [0,1,4] [5,0,1,2,3,4] mixed rfl rfl ?_
 refine au (kn:=[]) aa 8 rfl trivial ?_
 refine aM (n':=6) [45,42] [0] rfl rfl (.inl ⟨(ah.plain rfl),aE.cast (cE (i:=0) rfl rfl rfl Try.underlying38 gr rfl (by decide)) rfl⟩) rfl ?_
 refine au (kn:=[]) aa 1 rfl trivial ?_
 refine aM (n':=6) [47] [] rfl rfl (.inl ⟨(ah.plain rfl),aE.cast (ca (i:=0) rfl rfl rfl Try.underlying37 lE (by first|omega|(simp;done)|(simp;omega)) (bf hx1)) rfl⟩) rfl ?_
 refine au (n':=7) (kn:=[]) aa 2 rfl trivial ?_
 refine br [6,5,0,1,2,3,4] rfl rfl rfl rfl (by kernel_rfl) ?_
 refine ad aa 1 rfl ?_
 refine af ?_
 have hpk:=okp0 x1 (List.mem_of_getElem? hx1)
 have hI0:∀ t∈b.s0.kept,eX t.number:=fun t ht=>(okk0 t ht).1
 have hI1:∀ t∈b.s1.kept,eX t.number:=fun t ht=>(okk1 t ht).1
 have hA:∀ a∈b.ax,0<=a.aN/\a.aN < b.aq.length/\0<=a.aD/\a.aD < b.due.length:=fun a ha=>(okp a ha).2
 refine aF aa 1 rfl ?_
 refine aQ 16 [0,7,8,9,10,11,12,13,14,15,6,5] (cK id (bb [0,7,8,9,10,11,12,13,14,15]) (ke (x 17) (x 19) b (by first|omega|(simp;done)|(simp;omega)) (by first|omega|(simp;done)|(simp;omega)) (by first|omega|(simp;done)|(simp;omega)) (by first|omega|(simp;done)|(simp;omega))) qf rfl rfl ⟨⟨_,rfl,.inl ⟨rfl,rfl⟩⟩,trivial⟩ ⟨rfl,rfl,rfl,rfl,rfl,trivial⟩ rfl rfl rfl rfl rfl rfl trivial ⟨⟨trivial,trivial,trivial,trivial,trivial,trivial,trivial,trivial,trivial,trivial,trivial,trivial,trivial,trivial,trivial,trivial,trivial,trivial,trivial,trivial,trivial⟩,⟨trivial,trivial,trivial,trivial,trivial,trivial,trivial,trivial,trivial,trivial,trivial,trivial,trivial,trivial,trivial,trivial,trivial,trivial,trivial,trivial,trivial⟩,(fun _ _ _ _=>trivial),(fun _ _ _ _=>trivial),(fun _ _ _ _=>trivial),(fun _ _ _ _=>trivial),(fun _ _ _ _=>trivial),(fun _ _ _ _=>trivial),(fun _ _ _ _=>trivial),(fun _ _ _ _=>trivial),trivial⟩ rfl rfl rfl rfl) rfl ?_
 refine ad aa 1 rfl ?_
 refine af ?_
 refine ag ?_
 refine aW [0,1,4,5,6] [0,7,8,9,10,11,12,13,14,15,6,5] mixed rfl rfl ?_
 refine au (kn:=[]) aa 13 rfl trivial ?_
 refine aM (n':=16) [64,61] [0] rfl rfl (.inl ⟨(ah.plain rfl),aE.cast (cE (i:=0) rfl rfl rfl Try.underlying38 gr rfl (by decide)) rfl⟩) rfl ?_
 refine au (kn:=[]) aa 1 rfl trivial ?_
 refine aM (n':=16) [66] [] rfl rfl (.inl ⟨(ah.plain rfl),aE.cast (pZ (l:=1) (h:=b.w0.length) (ys:=((b.w0).drop 1).map fk) rfl Try.underlying37 lE rfl (.inr ⟨_,rfl,rfl⟩) (.inl ⟨rfl,by simp⟩) (by first|omega|(simp;done)|(simp;omega)) (by first|omega|(simp;done)|(simp;omega)) (by first|(simp;done)|(rw [List.map_drop];exact List.take_of_length_le (by simp)))) rfl⟩) rfl ?_
 refine au (kn:=[]) aa 3 rfl trivial ?_
 refine aM (n':=16) [70,56] [7] rfl rfl (.inl ⟨(ah.plain rfl),aE.cast (cE (i:=0) rfl rfl rfl Try.underlying38 gr rfl (by decide)) rfl⟩) rfl ?_
 refine br [0,7,8,9,10,11,12,13,14,15,6,5] rfl rfl rfl rfl (by kernel_rfl) ?_
 refine ad aa 1 rfl ?_
 refine af ?_
 refine ag ?_
 refine ae aa 5 rfl ?_
 refine aj rfl (fun hc2=>?_) (fun hc2=>?_)
 ·
  have hc2':=of_decide_eq_true hc2
  refine aF aa 2 rfl ?_
  refine aQ 20 [0,16,17,18,19,6,5] (cK (bb [0,7,8,9,10,11,12,13,14,15]) (bb [0,16,17,18,19]) (fi (x 17) (x 19) b (⟨b.time,b.down,b.aq,b.due,b.ax,b.s0,b.s1,b.n0,b.n1,(b.w0).drop 1,b.w1,b.ba,b.aR,b.book⟩:Bk) 0 (by first|assumption|omega)) fC rfl rfl ⟨⟨_,rfl,.inl ⟨rfl,rfl⟩⟩,⟨_,rfl,.inl ⟨rfl,rfl⟩⟩,trivial⟩ ⟨rfl,rfl,rfl,rfl,rfl,rfl,rfl,rfl,rfl,rfl,trivial⟩ rfl rfl rfl rfl rfl rfl trivial ⟨⟨trivial,trivial,trivial,trivial,trivial,trivial,trivial,trivial,trivial,trivial,trivial,trivial,trivial,trivial,trivial,trivial,trivial,trivial,trivial,trivial,trivial⟩,(fun _ _ _ _=>trivial),(fun _ _ _ _=>trivial),(fun _ _ _ _=>trivial),(fun _ _ _ _=>trivial),trivial⟩ rfl rfl rfl rfl) rfl ?_
  refine ad aa 2 rfl ?_
  refine af ?_
  refine ay ?_
  refine ar ?_
  have hX:cv b (⟨idn,kind,0,aD,move,sum⟩:bB)=((⟨b.time,b.down,b.aq,b.due,b.ax,b.s0,b.s1,b.n0,b.n1,(b.w0).drop 1,b.w1,b.ba,b.aR,b.book⟩:Bk),(⟨0,0⟩:Answer)):=by
    unfold cv;dsimp only;rw [if_pos rfl];unfold fE;rw [hx1];dsimp only;(try simp only [dt]);(try unfold dt);(repeat' split)<;>first|rfl|omega|(exfalso;omega)|(simp_all;done)|(simp_all;omega)
  rw [hX] at hr;clear hX
  simp only [Prod.mk.injEq] at hr;obtain ⟨rfl,rfl⟩:=hr
  refine an aa [0,16,17,18,19,5] 5 rfl rfl rfl rfl rfl rfl ?_ ?_
  all_goals first|rfl|(simp [az,aX,bc];done)|(simp [az,aX,bc];omega)
 have hc2':=of_decide_eq_false hc2
 refine aP ?_
 refine ag ?_
 refine ae aa 3 rfl ?_
 refine aj rfl (fun hc3=>?_) (fun hc3=>?_)
 ·
  have hc3':=of_decide_eq_true hc3
  refine ag ?_
  obtain ⟨xr0,e0,hr0⟩:∃ (xr0:bY) (e0:Int),dZ b.s0 x1.seen=(xr0,e0):=⟨_,_,rfl⟩
  refine dd [0,1,4,5,6] [0,7,8,9,10,11,12,13,14,15,6,5] mixed rfl rfl ?_
  refine bP (kn:=[]) aa 8 rfl trivial ?_
  refine bU (n':=16) [92,89] [7] rfl rfl (.inl ⟨(ah.plain rfl),aE.cast (cE (i:=0) rfl rfl rfl Try.underlying35 ju rfl (by decide)) rfl⟩) rfl ?_
  refine bP (kn:=[]) aa 3 rfl trivial ?_
  refine bU (n':=16) [94,96] [] rfl rfl (.inl ⟨(ah.plain rfl),aE.cast (bX 16 (Fn.frozen (av':=(.t [(.g [(cI xr0.bz),(cw xr0.kept)]),(.c (cI e0))])) (pz b.s0 x1.seen (by first|assumption|exact ka (by assumption) (by omega)|exact jh (by assumption) (by assumption)|(simp [eX];done)) xr0 e0 hr0) ⟨⟨.inl ⟨_,rfl,rfl⟩,.inr ⟨_,_,_,_,_,rfl,rfl,rfl,by simp⟩,trivial⟩,.inl ⟨_,rfl,rfl⟩,trivial⟩) DW rfl rfl ⟨⟨_,rfl,.g ⟨.d _,.d _,trivial⟩⟩,⟨_,rfl,.c (.d _)⟩,trivial⟩ ⟨⟨trivial,trivial,trivial⟩,trivial,trivial⟩ trivial rfl rfl rfl rfl) rfl⟩) rfl ?_
  refine bP (n':=17) (kn:=[]) aa 6 rfl trivial ?_
  refine dJ [0,1,4,5,6,7,8] [16,0,7,8,9,10,11,12,13,14,15,6,5] rfl rfl (by kernel_rfl) ?_
  refine then_ok ?_
  refine ag ?_
  refine aF aa 2 rfl ?_
  obtain ⟨e21,hr1⟩:∃ (e21:Int),dz 0 e0=e21:=⟨_,rfl⟩
  refine aQ 17 [7,16,0,8,9,10,11,12,13,14,15,6,5] (cq (bb [7]) (bb [7]) (ms:=(dw.set 19 (some (cI 0)))) (ms':=(dw.set 19 (some (cI e21)))) (fun x hx=>jJ x hx 0 e0 e21 hr1) nj rfl rfl ⟨⟨_,rfl,.inl ⟨rfl,rfl⟩⟩,⟨_,rfl,.inr (.c (.d _))⟩,trivial⟩ rfl rfl rfl rfl rfl rfl rfl trivial rfl rfl rfl rfl rfl rfl rfl rfl rfl rfl rfl rfl rfl) rfl ?_
  refine ad aa 1 rfl ?_
  refine af ?_
  refine aj rfl (fun hc4=>?_) (fun hc4=>?_)
  ·
   have hc4':=hc4;try simp only [bu,bR] at hc4'
   refine aW [0,1,4,5,6,7] [7,16,0,8,9,10,11,12,13,14,15,6,5] mixed rfl rfl ?_
   refine au (kn:=[]) aa 9 rfl trivial ?_
   refine aM (n':=17) [112,108] [7] rfl rfl (.inl ⟨(ah.plain rfl),aE.cast (cE (i:=0) rfl rfl rfl Try.underlying35 ju rfl (by decide)) rfl⟩) rfl ?_
   refine br [7,16,0,8,9,10,11,12,13,14,15,6,5] rfl rfl rfl rfl (by kernel_rfl) ?_
   refine ad aa 1 rfl ?_
   refine af ?_
   rcases (show e21=0\/¬e21=0 from by omega) with hs5|hs5
   ·
    refine aF aa 2 rfl ?_
    refine aQ 21 [0,17,18,19,20,16,6,5] (cK (bb [0,7,8,9,10,11,12,13,14,15]) (bb [0,17,18,19,20]) (fi (x 17) (x 19) b (⟨b.time,b.down,b.aq,b.due,b.ax,xr0,b.s1,b.n0,b.n1,(b.w0).drop 1,b.w1,b.ba,b.aR,b.book⟩:Bk) e21 (by first|assumption|omega)) fC rfl rfl ⟨⟨_,rfl,.inl ⟨rfl,rfl⟩⟩,⟨_,rfl,.inl ⟨rfl,rfl⟩⟩,trivial⟩ ⟨rfl,rfl,rfl,rfl,rfl,rfl,rfl,rfl,rfl,rfl,trivial⟩ rfl rfl rfl rfl rfl rfl trivial ⟨⟨trivial,trivial,trivial,trivial,trivial,trivial,trivial,trivial,trivial,trivial,trivial,trivial,trivial,trivial,trivial,trivial,trivial,trivial,trivial,trivial,trivial⟩,(fun _ _ _ _=>trivial),(fun _ _ _ _=>trivial),(fun _ _ _ _=>trivial),(fun _ _ _ _=>trivial),trivial⟩ rfl rfl rfl rfl) rfl ?_
    refine ad aa 2 rfl ?_
    refine af ?_
    refine ay ?_
    refine ar ?_
    have hX:cv b (⟨idn,kind,0,aD,move,sum⟩:bB)=((⟨b.time,b.down,b.aq,b.due,b.ax,xr0,b.s1,b.n0,b.n1,(b.w0).drop 1,b.w1,b.ba,b.aR,b.book⟩:Bk),(⟨e21,0⟩:Answer)):=by
      unfold cv;dsimp only;rw [if_pos rfl];unfold fE;rw [hx1];dsimp only;unfold dz at hr1;simp only [if_true] at hr1;(try simp only [hr0]);(try unfold dt);(repeat' split)<;>first|rfl|omega|(exfalso;omega)|(simp_all;done)|(simp_all;omega)
    rw [hX] at hr;clear hX
    simp only [Prod.mk.injEq] at hr;obtain ⟨rfl,rfl⟩:=hr
    refine an aa [0,17,18,19,20,5] 5 rfl rfl rfl rfl rfl rfl ?_ ?_
    all_goals first|rfl|(simp [az,aX,bc];done)|(simp [az,aX,bc];omega)
   refine aF aa 2 rfl ?_
   refine aQ 21 [0,17,18,19,20,16,6,5] (cK (bb [0,7,8,9,10,11,12,13,14,15]) (bb [0,17,18,19,20]) (fS (x 17) (x 19) b (⟨b.time,b.down,b.aq,b.due,b.ax,xr0,b.s1,b.n0,b.n1,(b.w0).drop 1,b.w1,b.ba,b.aR,b.book⟩:Bk) e21 (by first|assumption|omega)) fC rfl rfl ⟨⟨_,rfl,.inl ⟨rfl,rfl⟩⟩,⟨_,rfl,.inl ⟨rfl,rfl⟩⟩,trivial⟩ ⟨rfl,rfl,rfl,rfl,rfl,rfl,rfl,rfl,rfl,rfl,trivial⟩ rfl rfl rfl rfl rfl rfl trivial ⟨⟨trivial,trivial,trivial,trivial,trivial,trivial,trivial,trivial,trivial,trivial,trivial,trivial,trivial,trivial,trivial,trivial,trivial,trivial,trivial,trivial,trivial⟩,(fun _ _ _ _=>trivial),(fun _ _ _ _=>trivial),(fun _ _ _ _=>trivial),(fun _ _ _ _=>trivial),trivial⟩ rfl rfl rfl rfl) rfl ?_
   refine ad aa 2 rfl ?_
   refine af ?_
   refine ay ?_
   refine ar ?_
   have hX:cv b (⟨idn,kind,0,aD,move,sum⟩:bB)=(b,(⟨e21,0⟩:Answer)):=by
     unfold cv;dsimp only;rw [if_pos rfl];unfold fE;rw [hx1];dsimp only;unfold dz at hr1;simp only [if_true] at hr1;(try simp only [hr0]);(try unfold dt);(repeat' split)<;>first|rfl|omega|(exfalso;omega)|(simp_all;done)|(simp_all;omega)
   rw [hX] at hr;clear hX
   simp only [Prod.mk.injEq] at hr;obtain ⟨rfl,rfl⟩:=hr
   refine an aa [0,17,18,19,20,5] 5 rfl rfl rfl rfl rfl rfl ?_ ?_
   all_goals first|rfl|(simp [az,aX,bc];done)|(simp [az,aX,bc];omega)
  have hc4':=hc4;try simp only [bu,bR] at hc4'
  refine aP ?_
  rcases (show e21=0\/¬e21=0 from by omega) with hs6|hs6
  ·
   refine aF aa 2 rfl ?_
   refine aQ 21 [0,17,18,19,20,16,6,5] (cK (bb [0,7,8,9,10,11,12,13,14,15]) (bb [0,17,18,19,20]) (fi (x 17) (x 19) b (⟨b.time,b.down,b.aq,b.due,b.ax,b.s0,b.s1,b.n0,b.n1,(b.w0).drop 1,b.w1,b.ba,b.aR,b.book⟩:Bk) e21 (by first|assumption|omega)) fC rfl rfl ⟨⟨_,rfl,.inl ⟨rfl,rfl⟩⟩,⟨_,rfl,.inl ⟨rfl,rfl⟩⟩,trivial⟩ ⟨rfl,rfl,rfl,rfl,rfl,rfl,rfl,rfl,rfl,rfl,trivial⟩ rfl rfl rfl rfl rfl rfl trivial ⟨⟨trivial,trivial,trivial,trivial,trivial,trivial,trivial,trivial,trivial,trivial,trivial,trivial,trivial,trivial,trivial,trivial,trivial,trivial,trivial,trivial,trivial⟩,(fun _ _ _ _=>trivial),(fun _ _ _ _=>trivial),(fun _ _ _ _=>trivial),(fun _ _ _ _=>trivial),trivial⟩ rfl rfl rfl rfl) rfl ?_
   refine ad aa 2 rfl ?_
   refine af ?_
   refine ay ?_
   refine ar ?_
   have hX:cv b (⟨idn,kind,0,aD,move,sum⟩:bB)=((⟨b.time,b.down,b.aq,b.due,b.ax,b.s0,b.s1,b.n0,b.n1,(b.w0).drop 1,b.w1,b.ba,b.aR,b.book⟩:Bk),(⟨e21,0⟩:Answer)):=by
     unfold cv;dsimp only;rw [if_pos rfl];unfold fE;rw [hx1];dsimp only;unfold dz at hr1;simp only [if_true] at hr1;(try simp only [hr0]);(try unfold dt);(repeat' split)<;>first|rfl|omega|(exfalso;omega)|(simp_all;done)|(simp_all;omega)
   rw [hX] at hr;clear hX
   simp only [Prod.mk.injEq] at hr;obtain ⟨rfl,rfl⟩:=hr
   refine an aa [0,17,18,19,20,5] 5 rfl rfl rfl rfl rfl rfl ?_ ?_
   all_goals first|rfl|(simp [az,aX,bc];done)|(simp [az,aX,bc];omega)
  refine aF aa 2 rfl ?_
  refine aQ 21 [0,17,18,19,20,16,6,5] (cK (bb [0,7,8,9,10,11,12,13,14,15]) (bb [0,17,18,19,20]) (fS (x 17) (x 19) b (⟨b.time,b.down,b.aq,b.due,b.ax,b.s0,b.s1,b.n0,b.n1,(b.w0).drop 1,b.w1,b.ba,b.aR,b.book⟩:Bk) e21 (by first|assumption|omega)) fC rfl rfl ⟨⟨_,rfl,.inl ⟨rfl,rfl⟩⟩,⟨_,rfl,.inl ⟨rfl,rfl⟩⟩,trivial⟩ ⟨rfl,rfl,rfl,rfl,rfl,rfl,rfl,rfl,rfl,rfl,trivial⟩ rfl rfl rfl rfl rfl rfl trivial ⟨⟨trivial,trivial,trivial,trivial,trivial,trivial,trivial,trivial,trivial,trivial,trivial,trivial,trivial,trivial,trivial,trivial,trivial,trivial,trivial,trivial,trivial⟩,(fun _ _ _ _=>trivial),(fun _ _ _ _=>trivial),(fun _ _ _ _=>trivial),(fun _ _ _ _=>trivial),trivial⟩ rfl rfl rfl rfl) rfl ?_
  refine ad aa 2 rfl ?_
  refine af ?_
  refine ay ?_
  refine ar ?_
  have hX:cv b (⟨idn,kind,0,aD,move,sum⟩:bB)=(b,(⟨e21,0⟩:Answer)):=by
    unfold cv;dsimp only;rw [if_pos rfl];unfold fE;rw [hx1];dsimp only;unfold dz at hr1;simp only [if_true] at hr1;(try simp only [hr0]);(try unfold dt);(repeat' split)<;>first|rfl|omega|(exfalso;omega)|(simp_all;done)|(simp_all;omega)
  rw [hX] at hr;clear hX
  simp only [Prod.mk.injEq] at hr;obtain ⟨rfl,rfl⟩:=hr
  refine an aa [0,17,18,19,20,5] 5 rfl rfl rfl rfl rfl rfl ?_ ?_
  all_goals first|rfl|(simp [az,aX,bc];done)|(simp [az,aX,bc];omega)
 have hc3':=of_decide_eq_false hc3
 refine aP ?_
 refine ag ?_
 obtain ⟨n2,ok2,hr2⟩:∃ (n2:Int) (ok2:Bool),hP b.n0 x1.ch=(n2,ok2):=⟨_,_,rfl⟩
 refine aW [0,1,4,5,6] [0,7,8,9,10,11,12,13,14,15,6,5] mixed rfl rfl ?_
 refine au (kn:=[]) aa 8 rfl trivial ?_
 refine aM (n':=16) [126,123] [7] rfl rfl (.inl ⟨(ah.plain rfl),aE.cast (cE (i:=0) rfl rfl rfl Try.underlying36 fF rfl (by decide)) rfl⟩) rfl ?_
 refine au (kn:=[]) aa 3 rfl trivial ?_
 refine aM (n':=16) [128,130] [] rfl rfl (.inl ⟨(ah.plain rfl),aE.cast (bX 16 (py b.n0 x1.ch n2 ok2 hr2) DV rfl rfl ⟨⟨_,rfl,.c (.d _)⟩,⟨_,rfl,.g ⟨.d _,.d _,.d _,.d _,trivial⟩⟩,trivial⟩ ⟨trivial,trivial,trivial⟩ trivial rfl rfl rfl rfl) rfl⟩) rfl ?_
 refine au (kn:=[]) aa 5 rfl trivial ?_
 refine br [0,7,8,9,10,11,12,13,14,15,6,5] rfl rfl rfl rfl (by kernel_rfl) ?_
 refine af ?_
 refine ag ?_
 refine aW [0,1,4,5,6,9,10] [0,7,8,9,10,11,12,13,14,15,6,5] mixed rfl rfl ?_
 refine au (kn:=[]) aa 9 rfl trivial ?_
 refine aM (n':=16) [142,138] [7] rfl rfl (.inl ⟨(ah.plain rfl),aE.cast (cE (i:=0) rfl rfl rfl Try.underlying36 fF rfl (by decide)) rfl⟩) rfl ?_
 refine br [0,7,8,9,10,11,12,13,14,15,6,5] rfl rfl rfl rfl (by kernel_rfl) ?_
 refine ad aa 1 rfl ?_
 refine af ?_
 refine ag ?_
 refine ae aa 1 rfl ?_
 refine aj rfl (fun hc7=>?_) (fun hc7=>?_)
 ·
  have hc7':=hc7;try simp only [bu,bR] at hc7'
  have hpk2:=hpk (by omega)
  refine aw ?_
  refine ad aa 3 rfl ?_
  obtain ⟨due23,cards23,book23,e23,hr3⟩:∃ (due23:List Int) (cards23:List bI) (book23:List Entry) (e23:Int),eE b.ax b.due b.aq b.book 0 x1.ch=(due23,cards23,book23,e23):=⟨_,_,_,_,rfl⟩
  refine aQ 19 [7,16,17,18,0,8,9,10,11,15,6,5] (cq (bb [7,12,13,14]) (bb [7,16,17,18]) (ms:=(((((dw.set 2 (some (.s 1 0 6 b.aq.length))).set 3 (some (.s 2 0 1 b.due.length))).set 4 (some (.s 3 0 8 b.ax.length))).set 18 (some (de b.book))).set 19 (some (cI 0)))) (ms':=(((((dw.set 2 (some (.s 1 0 6 cards23.length))).set 3 (some (.s 2 0 1 due23.length))).set 4 (some (.s 3 0 8 b.ax.length))).set 18 (some (de book23))).set 19 (some (cI e23)))) (fun x hx=>zJ x hx b.ax b.due b.aq b.book 0 x1.ch (by first|omega|(simp;done)|(simp;omega)) (by assumption) (by first|omega|(simp;done)|(simp;omega)) (by first|omega|(simp;done)|(simp;omega)) due23 cards23 book23 e23 hr3) DU rfl rfl ⟨⟨_,rfl,.inl ⟨rfl,rfl⟩⟩,⟨_,rfl,.inr (.g ⟨.d _,.d _,.d _,.d _,trivial⟩)⟩,trivial⟩ rfl rfl rfl rfl rfl rfl rfl ⟨rfl,rfl,rfl,trivial⟩ rfl rfl rfl rfl rfl rfl rfl rfl rfl rfl rfl rfl rfl) rfl ?_
  refine af ?_
  rcases (show e23=0\/¬e23=0 from by omega) with hs8|hs8
  ·
   refine aF aa 2 rfl ?_
   refine aQ 23 [0,19,20,21,22,6,5] (cK (bb [0,7,8,9,10,11,16,17,18,15]) (bb [0,19,20,21,22]) (fi (x 17) (x 19) b (⟨b.time,b.down,cards23,due23,b.ax,b.s0,b.s1,n2,b.n1,(b.w0).drop 1,b.w1,b.ba,b.aR,book23⟩:Bk) e23 (by first|assumption|omega)) fC rfl rfl ⟨⟨_,rfl,.inl ⟨rfl,rfl⟩⟩,⟨_,rfl,.inl ⟨rfl,rfl⟩⟩,trivial⟩ ⟨rfl,rfl,rfl,rfl,rfl,rfl,rfl,rfl,rfl,rfl,trivial⟩ rfl rfl rfl rfl rfl rfl trivial ⟨⟨trivial,trivial,trivial,trivial,trivial,trivial,trivial,trivial,trivial,trivial,trivial,trivial,trivial,trivial,trivial,trivial,trivial,trivial,trivial,trivial,trivial⟩,(fun _ _ _ _=>trivial),(fun _ _ _ _=>trivial),(fun _ _ _ _=>trivial),(fun _ _ _ _=>trivial),trivial⟩ rfl rfl rfl rfl) rfl ?_
   refine ad aa 2 rfl ?_
   refine af ?_
   refine ay ?_
   have hX:cv b (⟨idn,kind,0,aD,move,sum⟩:bB)=((⟨b.time,b.down,cards23,due23,b.ax,b.s0,b.s1,n2,b.n1,(b.w0).drop 1,b.w1,b.ba,b.aR,book23⟩:Bk),(⟨e23,0⟩:Answer)):=by
     unfold cv;dsimp only;rw [if_pos rfl];unfold fE;rw [hx1];dsimp only;(try simp only [hr2,hr3]);(try unfold dt);(repeat' split)<;>first|rfl|omega|(exfalso;omega)|(simp_all;done)|(simp_all;omega)
   rw [hX] at hr;clear hX
   simp only [Prod.mk.injEq] at hr;obtain ⟨rfl,rfl⟩:=hr
   refine an aa [0,19,20,21,22,5] 5 rfl rfl rfl rfl rfl rfl ?_ ?_
   all_goals first|rfl|(simp [az,aX,bc];done)|(simp [az,aX,bc];omega)
  refine aF aa 2 rfl ?_
  refine aQ 23 [0,19,20,21,22,6,5] (cK (bb [0,7,8,9,10,11,16,17,18,15]) (bb [0,19,20,21,22]) (fS (x 17) (x 19) b (⟨b.time,b.down,cards23,due23,b.ax,b.s0,b.s1,n2,b.n1,(b.w0).drop 1,b.w1,b.ba,b.aR,book23⟩:Bk) e23 (by first|assumption|omega)) fC rfl rfl ⟨⟨_,rfl,.inl ⟨rfl,rfl⟩⟩,⟨_,rfl,.inl ⟨rfl,rfl⟩⟩,trivial⟩ ⟨rfl,rfl,rfl,rfl,rfl,rfl,rfl,rfl,rfl,rfl,trivial⟩ rfl rfl rfl rfl rfl rfl trivial ⟨⟨trivial,trivial,trivial,trivial,trivial,trivial,trivial,trivial,trivial,trivial,trivial,trivial,trivial,trivial,trivial,trivial,trivial,trivial,trivial,trivial,trivial⟩,(fun _ _ _ _=>trivial),(fun _ _ _ _=>trivial),(fun _ _ _ _=>trivial),(fun _ _ _ _=>trivial),trivial⟩ rfl rfl rfl rfl) rfl ?_
  refine ad aa 2 rfl ?_
  refine af ?_
  refine ay ?_
  have hX:cv b (⟨idn,kind,0,aD,move,sum⟩:bB)=(b,(⟨e23,0⟩:Answer)):=by
    unfold cv;dsimp only;rw [if_pos rfl];unfold fE;rw [hx1];dsimp only;(try simp only [hr2,hr3]);(try unfold dt);(repeat' split)<;>first|rfl|omega|(exfalso;omega)|(simp_all;done)|(simp_all;omega)
  rw [hX] at hr;clear hX
  simp only [Prod.mk.injEq] at hr;obtain ⟨rfl,rfl⟩:=hr
  refine an aa [0,19,20,21,22,5] 5 rfl rfl rfl rfl rfl rfl ?_ ?_
  all_goals first|rfl|(simp [az,aX,bc];done)|(simp [az,aX,bc];omega)
 have hc7':=hc7;try simp only [bu,bR] at hc7'
 refine aP ?_
 refine aF aa 2 rfl ?_
 refine aQ 20 [0,16,17,18,19,6,5] (cK (bb [0,7,8,9,10,11,12,13,14,15]) (bb [0,16,17,18,19]) (fi (x 17) (x 19) b (⟨b.time,b.down,b.aq,b.due,b.ax,b.s0,b.s1,n2,b.n1,(b.w0).drop 1,b.w1,b.ba,b.aR,b.book⟩:Bk) 0 (by first|assumption|omega)) fC rfl rfl ⟨⟨_,rfl,.inl ⟨rfl,rfl⟩⟩,⟨_,rfl,.inl ⟨rfl,rfl⟩⟩,trivial⟩ ⟨rfl,rfl,rfl,rfl,rfl,rfl,rfl,rfl,rfl,rfl,trivial⟩ rfl rfl rfl rfl rfl rfl trivial ⟨⟨trivial,trivial,trivial,trivial,trivial,trivial,trivial,trivial,trivial,trivial,trivial,trivial,trivial,trivial,trivial,trivial,trivial,trivial,trivial,trivial,trivial⟩,(fun _ _ _ _=>trivial),(fun _ _ _ _=>trivial),(fun _ _ _ _=>trivial),(fun _ _ _ _=>trivial),trivial⟩ rfl rfl rfl rfl) rfl ?_
 refine ad aa 2 rfl ?_
 refine af ?_
 refine ay ?_
 have hX:cv b (⟨idn,kind,0,aD,move,sum⟩:bB)=((⟨b.time,b.down,b.aq,b.due,b.ax,b.s0,b.s1,n2,b.n1,(b.w0).drop 1,b.w1,b.ba,b.aR,b.book⟩:Bk),(⟨0,0⟩:Answer)):=by
   unfold cv;dsimp only;rw [if_pos rfl];unfold fE;rw [hx1];dsimp only;(try simp only [hr2]);(try unfold dt);(repeat' split)<;>first|rfl|omega|(exfalso;omega)|(simp_all;done)|(simp_all;omega)
 rw [hX] at hr;clear hX
 simp only [Prod.mk.injEq] at hr;obtain ⟨rfl,rfl⟩:=hr
 refine an aa [0,16,17,18,19,5] 5 rfl rfl rfl rfl rfl rfl ?_ ?_
 all_goals first|rfl|(simp [az,aX,bc];done)|(simp [az,aX,bc];omega)
theorem zR (x:Nat->Value) (hx:∀ i,(x i).oneCell'=true) (b:Bk) (idn kind aD move sum:Int) (ok:ct b) (b2:Bk) (a2:Answer) (hr:cv b (⟨idn,kind,1,aD,move,sum⟩:bB)=(b2,a2)):cJ Try.prog 67 [(.c (.p 0 0 0 0)),(.c (.q (df (⟨idn,kind,1,aD,move,sum⟩:bB)) 0))] [(0,(.box 98 (aX b 1 2 3 4 (.d (.v (x 17))) (.d (.v (x 19)))))),(1,(dO b.aq)),(2,(dF b.due)),(3,(dR b.ax)),(4,(cP b.aR))] [0] (.v (.g [cI a2.err,cI a2.aZ])) [(0,(.box 98 (aX b2 1 2 3 4 (.d (.v (x 17))) (.d (.v (x 19)))))),(1,(dO b2.aq)),(2,(dF b2.due)),(3,(dR b2.ax)),(4,(cP b2.aR))]:=by
 refine cJ.mk 153 [(0,(aC (.p 0 0 0 0))),(1,(aC (.q (df (⟨idn,kind,1,aD,move,sum⟩:bB)) 0)))] 5 Try.func67 rfl rfl rfl rfl rfl rfl rfl rfl rfl ?_
 intro W0 F0 T0 pg
 obtain ⟨okt,okc,okd,oka,oky,okw0,okw1,okp,okv,okk0,okk1,okg,okl0,okl1,okp0,okp1,okn0,okn1,okq⟩:=id ok
 refine ae aa 1 rfl ?_
 refine ag ?_
 refine ag ?_
 refine aW [0,1,4] [5,0,1,2,3,4] mixed rfl rfl ?_
 refine au (kn:=[(15,true),(21,false)]) aa 21 rfl ⟨rfl,rfl,trivial⟩ ?_
 refine aM (n':=6) [31,28,23] [0] rfl rfl (.inl ⟨(ah.yes rfl rfl rfl),aE.cast (cE (i:=1) rfl rfl rfl Try.underlying38 gr rfl (by decide)) rfl⟩) rfl ?_
 refine au (kn:=[]) aa 1 rfl trivial ?_
 refine aM (n':=6) [33,23] [] rfl rfl (.inl ⟨(ah.yes rfl rfl rfl),aE.cast (bQ rfl rfl rfl rfl rfl Try.underlying37) rfl⟩) rfl ?_
 refine au (kn:=[]) aa 2 rfl trivial ?_
 refine br [5,0,1,2,3,4] rfl rfl rfl rfl (by kernel_rfl) ?_
 refine af ?_
 refine aj rfl (fun hc1=>?_) (fun hc1=>?_)
 ·
  have hc1':=of_decide_eq_true hc1
  refine ae aa 2 rfl ?_
  refine ay ?_
  refine ar ?_
  have hX:cv b (⟨idn,kind,1,aD,move,sum⟩:bB)=(b,(⟨6,0⟩:Answer)):=by
    unfold cv;dsimp only;rw [if_neg (by decide),if_pos rfl];unfold fD;rw [List.getElem?_eq_none (by omega)]
  rw [hX] at hr;clear hX
  simp only [Prod.mk.injEq] at hr;obtain ⟨rfl,rfl⟩:=hr
  refine an aa [0,1,2,3,4,5] 5 rfl rfl rfl rfl rfl rfl ?_ ?_
  all_goals first|rfl|(simp [az,aX,bc];done)|(simp [az,aX,bc];omega)
 have hc1':=of_decide_eq_false hc1
 refine aP ?_
 refine ag ?_
 obtain ⟨x1,hx1⟩:=cb (xs:=b.w1) (i:=0) (by first|omega|(simp;done)|(simp;omega))
 refine aW [0,1,4] [5,0,1,2,3,4] mixed rfl rfl ?_
 refine au (kn:=[]) aa 8 rfl trivial ?_
 refine aM (n':=6) [45,42] [0] rfl rfl (.inl ⟨(ah.plain rfl),aE.cast (cE (i:=1) rfl rfl rfl Try.underlying38 gr rfl (by decide)) rfl⟩) rfl ?_
 refine au (kn:=[]) aa 1 rfl trivial ?_
 refine aM (n':=6) [47] [] rfl rfl (.inl ⟨(ah.plain rfl),aE.cast (ca (i:=0) rfl rfl rfl Try.underlying37 lE (by first|omega|(simp;done)|(simp;omega)) (bf hx1)) rfl⟩) rfl ?_
 refine au (n':=7) (kn:=[]) aa 2 rfl trivial ?_
 refine br [6,5,0,1,2,3,4] rfl rfl rfl rfl (by kernel_rfl) ?_
 refine ad aa 1 rfl ?_
 refine af ?_
 have hpk:=okp1 x1 (List.mem_of_getElem? hx1)
 have hI0:∀ t∈b.s0.kept,eX t.number:=fun t ht=>(okk0 t ht).1
 have hI1:∀ t∈b.s1.kept,eX t.number:=fun t ht=>(okk1 t ht).1
 have hA:∀ a∈b.ax,0<=a.aN/\a.aN < b.aq.length/\0<=a.aD/\a.aD < b.due.length:=fun a ha=>(okp a ha).2
 refine aF aa 1 rfl ?_
 refine aQ 16 [0,7,8,9,10,11,12,13,14,15,6,5] (cK id (bb [0,7,8,9,10,11,12,13,14,15]) (ke (x 17) (x 19) b (by first|omega|(simp;done)|(simp;omega)) (by first|omega|(simp;done)|(simp;omega)) (by first|omega|(simp;done)|(simp;omega)) (by first|omega|(simp;done)|(simp;omega))) qf rfl rfl ⟨⟨_,rfl,.inl ⟨rfl,rfl⟩⟩,trivial⟩ ⟨rfl,rfl,rfl,rfl,rfl,trivial⟩ rfl rfl rfl rfl rfl rfl trivial ⟨⟨trivial,trivial,trivial,trivial,trivial,trivial,trivial,trivial,trivial,trivial,trivial,trivial,trivial,trivial,trivial,trivial,trivial,trivial,trivial,trivial,trivial⟩,⟨trivial,trivial,trivial,trivial,trivial,trivial,trivial,trivial,trivial,trivial,trivial,trivial,trivial,trivial,trivial,trivial,trivial,trivial,trivial,trivial,trivial⟩,(fun _ _ _ _=>trivial),(fun _ _ _ _=>trivial),(fun _ _ _ _=>trivial),(fun _ _ _ _=>trivial),(fun _ _ _ _=>trivial),(fun _ _ _ _=>trivial),(fun _ _ _ _=>trivial),(fun _ _ _ _=>trivial),trivial⟩ rfl rfl rfl rfl) rfl ?_
 refine ad aa 1 rfl ?_
 refine af ?_
 refine ag ?_
 refine aW [0,1,4,5,6] [0,7,8,9,10,11,12,13,14,15,6,5] mixed rfl rfl ?_
 refine au (kn:=[]) aa 13 rfl trivial ?_
 refine aM (n':=16) [64,61] [0] rfl rfl (.inl ⟨(ah.plain rfl),aE.cast (cE (i:=1) rfl rfl rfl Try.underlying38 gr rfl (by decide)) rfl⟩) rfl ?_
 refine au (kn:=[]) aa 1 rfl trivial ?_
 refine aM (n':=16) [66] [] rfl rfl (.inl ⟨(ah.plain rfl),aE.cast (pZ (l:=1) (h:=b.w1.length) (ys:=((b.w1).drop 1).map fk) rfl Try.underlying37 lE rfl (.inr ⟨_,rfl,rfl⟩) (.inl ⟨rfl,by simp⟩) (by first|omega|(simp;done)|(simp;omega)) (by first|omega|(simp;done)|(simp;omega)) (by first|(simp;done)|(rw [List.map_drop];exact List.take_of_length_le (by simp)))) rfl⟩) rfl ?_
 refine au (kn:=[]) aa 3 rfl trivial ?_
 refine aM (n':=16) [70,56] [7] rfl rfl (.inl ⟨(ah.plain rfl),aE.cast (cE (i:=1) rfl rfl rfl Try.underlying38 gr rfl (by decide)) rfl⟩) rfl ?_
 refine br [0,7,8,9,10,11,12,13,14,15,6,5] rfl rfl rfl rfl (by kernel_rfl) ?_
 refine ad aa 1 rfl ?_
 refine af ?_
 refine ag ?_
 refine ae aa 5 rfl ?_
 refine aj rfl (fun hc2=>?_) (fun hc2=>?_)
 ·
  have hc2':=of_decide_eq_true hc2
  refine aF aa 2 rfl ?_
  refine aQ 20 [0,16,17,18,19,6,5] (cK (bb [0,7,8,9,10,11,12,13,14,15]) (bb [0,16,17,18,19]) (fi (x 17) (x 19) b (⟨b.time,b.down,b.aq,b.due,b.ax,b.s0,b.s1,b.n0,b.n1,b.w0,(b.w1).drop 1,b.ba,b.aR,b.book⟩:Bk) 0 (by first|assumption|omega)) fC rfl rfl ⟨⟨_,rfl,.inl ⟨rfl,rfl⟩⟩,⟨_,rfl,.inl ⟨rfl,rfl⟩⟩,trivial⟩ ⟨rfl,rfl,rfl,rfl,rfl,rfl,rfl,rfl,rfl,rfl,trivial⟩ rfl rfl rfl rfl rfl rfl trivial ⟨⟨trivial,trivial,trivial,trivial,trivial,trivial,trivial,trivial,trivial,trivial,trivial,trivial,trivial,trivial,trivial,trivial,trivial,trivial,trivial,trivial,trivial⟩,(fun _ _ _ _=>trivial),(fun _ _ _ _=>trivial),(fun _ _ _ _=>trivial),(fun _ _ _ _=>trivial),trivial⟩ rfl rfl rfl rfl) rfl ?_
  refine ad aa 2 rfl ?_
  refine af ?_
  refine ay ?_
  refine ar ?_
  have hX:cv b (⟨idn,kind,1,aD,move,sum⟩:bB)=((⟨b.time,b.down,b.aq,b.due,b.ax,b.s0,b.s1,b.n0,b.n1,b.w0,(b.w1).drop 1,b.ba,b.aR,b.book⟩:Bk),(⟨0,0⟩:Answer)):=by
    unfold cv;dsimp only;rw [if_neg (by decide),if_pos rfl];unfold fD;rw [hx1];dsimp only;(try simp only [dt]);(try unfold dt);(repeat' split)<;>first|rfl|omega|(exfalso;omega)|(simp_all;done)|(simp_all;omega)
  rw [hX] at hr;clear hX
  simp only [Prod.mk.injEq] at hr;obtain ⟨rfl,rfl⟩:=hr
  refine an aa [0,16,17,18,19,5] 5 rfl rfl rfl rfl rfl rfl ?_ ?_
  all_goals first|rfl|(simp [az,aX,bc];done)|(simp [az,aX,bc];omega)
 have hc2':=of_decide_eq_false hc2
 refine aP ?_
 refine ag ?_
 refine ae aa 3 rfl ?_
 refine aj rfl (fun hc3=>?_) (fun hc3=>?_)
 ·
  have hc3':=of_decide_eq_true hc3
  refine ag ?_
  obtain ⟨xr0,e0,hr0⟩:∃ (xr0:bY) (e0:Int),dZ b.s1 x1.seen=(xr0,e0):=⟨_,_,rfl⟩
  refine dd [0,1,4,5,6] [0,7,8,9,10,11,12,13,14,15,6,5] mixed rfl rfl ?_
  refine bP (kn:=[]) aa 8 rfl trivial ?_
  refine bU (n':=16) [92,89] [7] rfl rfl (.inl ⟨(ah.plain rfl),aE.cast (cE (i:=1) rfl rfl rfl Try.underlying35 ju rfl (by decide)) rfl⟩) rfl ?_
  refine bP (kn:=[]) aa 3 rfl trivial ?_
  refine bU (n':=16) [94,96] [] rfl rfl (.inl ⟨(ah.plain rfl),aE.cast (bX 16 (Fn.frozen (av':=(.t [(.g [(cI xr0.bz),(cw xr0.kept)]),(.c (cI e0))])) (pz b.s1 x1.seen (by first|assumption|exact ka (by assumption) (by omega)|exact jh (by assumption) (by assumption)|(simp [eX];done)) xr0 e0 hr0) ⟨⟨.inl ⟨_,rfl,rfl⟩,.inr ⟨_,_,_,_,_,rfl,rfl,rfl,by simp⟩,trivial⟩,.inl ⟨_,rfl,rfl⟩,trivial⟩) DW rfl rfl ⟨⟨_,rfl,.g ⟨.d _,.d _,trivial⟩⟩,⟨_,rfl,.c (.d _)⟩,trivial⟩ ⟨⟨trivial,trivial,trivial⟩,trivial,trivial⟩ trivial rfl rfl rfl rfl) rfl⟩) rfl ?_
  refine bP (n':=17) (kn:=[]) aa 6 rfl trivial ?_
  refine dJ [0,1,4,5,6,7,8] [16,0,7,8,9,10,11,12,13,14,15,6,5] rfl rfl (by kernel_rfl) ?_
  refine then_ok ?_
  refine ag ?_
  refine aF aa 2 rfl ?_
  obtain ⟨e21,hr1⟩:∃ (e21:Int),dz 0 e0=e21:=⟨_,rfl⟩
  refine aQ 17 [7,16,0,8,9,10,11,12,13,14,15,6,5] (cq (bb [7]) (bb [7]) (ms:=(dw.set 19 (some (cI 0)))) (ms':=(dw.set 19 (some (cI e21)))) (fun x hx=>jJ x hx 0 e0 e21 hr1) nj rfl rfl ⟨⟨_,rfl,.inl ⟨rfl,rfl⟩⟩,⟨_,rfl,.inr (.c (.d _))⟩,trivial⟩ rfl rfl rfl rfl rfl rfl rfl trivial rfl rfl rfl rfl rfl rfl rfl rfl rfl rfl rfl rfl rfl) rfl ?_
  refine ad aa 1 rfl ?_
  refine af ?_
  refine aj rfl (fun hc4=>?_) (fun hc4=>?_)
  ·
   have hc4':=hc4;try simp only [bu,bR] at hc4'
   refine aW [0,1,4,5,6,7] [7,16,0,8,9,10,11,12,13,14,15,6,5] mixed rfl rfl ?_
   refine au (kn:=[]) aa 9 rfl trivial ?_
   refine aM (n':=17) [112,108] [7] rfl rfl (.inl ⟨(ah.plain rfl),aE.cast (cE (i:=1) rfl rfl rfl Try.underlying35 ju rfl (by decide)) rfl⟩) rfl ?_
   refine br [7,16,0,8,9,10,11,12,13,14,15,6,5] rfl rfl rfl rfl (by kernel_rfl) ?_
   refine ad aa 1 rfl ?_
   refine af ?_
   rcases (show e21=0\/¬e21=0 from by omega) with hs5|hs5
   ·
    refine aF aa 2 rfl ?_
    refine aQ 21 [0,17,18,19,20,16,6,5] (cK (bb [0,7,8,9,10,11,12,13,14,15]) (bb [0,17,18,19,20]) (fi (x 17) (x 19) b (⟨b.time,b.down,b.aq,b.due,b.ax,b.s0,xr0,b.n0,b.n1,b.w0,(b.w1).drop 1,b.ba,b.aR,b.book⟩:Bk) e21 (by first|assumption|omega)) fC rfl rfl ⟨⟨_,rfl,.inl ⟨rfl,rfl⟩⟩,⟨_,rfl,.inl ⟨rfl,rfl⟩⟩,trivial⟩ ⟨rfl,rfl,rfl,rfl,rfl,rfl,rfl,rfl,rfl,rfl,trivial⟩ rfl rfl rfl rfl rfl rfl trivial ⟨⟨trivial,trivial,trivial,trivial,trivial,trivial,trivial,trivial,trivial,trivial,trivial,trivial,trivial,trivial,trivial,trivial,trivial,trivial,trivial,trivial,trivial⟩,(fun _ _ _ _=>trivial),(fun _ _ _ _=>trivial),(fun _ _ _ _=>trivial),(fun _ _ _ _=>trivial),trivial⟩ rfl rfl rfl rfl) rfl ?_
    refine ad aa 2 rfl ?_
    refine af ?_
    refine ay ?_
    refine ar ?_
    have hX:cv b (⟨idn,kind,1,aD,move,sum⟩:bB)=((⟨b.time,b.down,b.aq,b.due,b.ax,b.s0,xr0,b.n0,b.n1,b.w0,(b.w1).drop 1,b.ba,b.aR,b.book⟩:Bk),(⟨e21,0⟩:Answer)):=by
      unfold cv;dsimp only;rw [if_neg (by decide),if_pos rfl];unfold fD;rw [hx1];dsimp only;unfold dz at hr1;simp only [if_true] at hr1;(try simp only [hr0]);(try unfold dt);(repeat' split)<;>first|rfl|omega|(exfalso;omega)|(simp_all;done)|(simp_all;omega)
    rw [hX] at hr;clear hX
    simp only [Prod.mk.injEq] at hr;obtain ⟨rfl,rfl⟩:=hr
    refine an aa [0,17,18,19,20,5] 5 rfl rfl rfl rfl rfl rfl ?_ ?_
    all_goals first|rfl|(simp [az,aX,bc];done)|(simp [az,aX,bc];omega)
   refine aF aa 2 rfl ?_
   refine aQ 21 [0,17,18,19,20,16,6,5] (cK (bb [0,7,8,9,10,11,12,13,14,15]) (bb [0,17,18,19,20]) (fS (x 17) (x 19) b (⟨b.time,b.down,b.aq,b.due,b.ax,b.s0,xr0,b.n0,b.n1,b.w0,(b.w1).drop 1,b.ba,b.aR,b.book⟩:Bk) e21 (by first|assumption|omega)) fC rfl rfl ⟨⟨_,rfl,.inl ⟨rfl,rfl⟩⟩,⟨_,rfl,.inl ⟨rfl,rfl⟩⟩,trivial⟩ ⟨rfl,rfl,rfl,rfl,rfl,rfl,rfl,rfl,rfl,rfl,trivial⟩ rfl rfl rfl rfl rfl rfl trivial ⟨⟨trivial,trivial,trivial,trivial,trivial,trivial,trivial,trivial,trivial,trivial,trivial,trivial,trivial,trivial,trivial,trivial,trivial,trivial,trivial,trivial,trivial⟩,(fun _ _ _ _=>trivial),(fun _ _ _ _=>trivial),(fun _ _ _ _=>trivial),(fun _ _ _ _=>trivial),trivial⟩ rfl rfl rfl rfl) rfl ?_
   refine ad aa 2 rfl ?_
   refine af ?_
   refine ay ?_
   refine ar ?_
   have hX:cv b (⟨idn,kind,1,aD,move,sum⟩:bB)=(b,(⟨e21,0⟩:Answer)):=by
     unfold cv;dsimp only;rw [if_neg (by decide),if_pos rfl];unfold fD;rw [hx1];dsimp only;unfold dz at hr1;simp only [if_true] at hr1;(try simp only [hr0]);(try unfold dt);(repeat' split)<;>first|rfl|omega|(exfalso;omega)|(simp_all;done)|(simp_all;omega)
   rw [hX] at hr;clear hX
   simp only [Prod.mk.injEq] at hr;obtain ⟨rfl,rfl⟩:=hr
   refine an aa [0,17,18,19,20,5] 5 rfl rfl rfl rfl rfl rfl ?_ ?_
   all_goals first|rfl|(simp [az,aX,bc];done)|(simp [az,aX,bc];omega)
  have hc4':=hc4;try simp only [bu,bR] at hc4'
  refine aP ?_
  rcases (show e21=0\/¬e21=0 from by omega) with hs6|hs6
  ·
   refine aF aa 2 rfl ?_
   refine aQ 21 [0,17,18,19,20,16,6,5] (cK (bb [0,7,8,9,10,11,12,13,14,15]) (bb [0,17,18,19,20]) (fi (x 17) (x 19) b (⟨b.time,b.down,b.aq,b.due,b.ax,b.s0,b.s1,b.n0,b.n1,b.w0,(b.w1).drop 1,b.ba,b.aR,b.book⟩:Bk) e21 (by first|assumption|omega)) fC rfl rfl ⟨⟨_,rfl,.inl ⟨rfl,rfl⟩⟩,⟨_,rfl,.inl ⟨rfl,rfl⟩⟩,trivial⟩ ⟨rfl,rfl,rfl,rfl,rfl,rfl,rfl,rfl,rfl,rfl,trivial⟩ rfl rfl rfl rfl rfl rfl trivial ⟨⟨trivial,trivial,trivial,trivial,trivial,trivial,trivial,trivial,trivial,trivial,trivial,trivial,trivial,trivial,trivial,trivial,trivial,trivial,trivial,trivial,trivial⟩,(fun _ _ _ _=>trivial),(fun _ _ _ _=>trivial),(fun _ _ _ _=>trivial),(fun _ _ _ _=>trivial),trivial⟩ rfl rfl rfl rfl) rfl ?_
   refine ad aa 2 rfl ?_
   refine af ?_
   refine ay ?_
   refine ar ?_
   have hX:cv b (⟨idn,kind,1,aD,move,sum⟩:bB)=((⟨b.time,b.down,b.aq,b.due,b.ax,b.s0,b.s1,b.n0,b.n1,b.w0,(b.w1).drop 1,b.ba,b.aR,b.book⟩:Bk),(⟨e21,0⟩:Answer)):=by
     unfold cv;dsimp only;rw [if_neg (by decide),if_pos rfl];unfold fD;rw [hx1];dsimp only;unfold dz at hr1;simp only [if_true] at hr1;(try simp only [hr0]);(try unfold dt);(repeat' split)<;>first|rfl|omega|(exfalso;omega)|(simp_all;done)|(simp_all;omega)
   rw [hX] at hr;clear hX
   simp only [Prod.mk.injEq] at hr;obtain ⟨rfl,rfl⟩:=hr
   refine an aa [0,17,18,19,20,5] 5 rfl rfl rfl rfl rfl rfl ?_ ?_
   all_goals first|rfl|(simp [az,aX,bc];done)|(simp [az,aX,bc];omega)
  refine aF aa 2 rfl ?_
  refine aQ 21 [0,17,18,19,20,16,6,5] (cK (bb [0,7,8,9,10,11,12,13,14,15]) (bb [0,17,18,19,20]) (fS (x 17) (x 19) b (⟨b.time,b.down,b.aq,b.due,b.ax,b.s0,b.s1,b.n0,b.n1,b.w0,(b.w1).drop 1,b.ba,b.aR,b.book⟩:Bk) e21 (by first|assumption|omega)) fC rfl rfl ⟨⟨_,rfl,.inl ⟨rfl,rfl⟩⟩,⟨_,rfl,.inl ⟨rfl,rfl⟩⟩,trivial⟩ ⟨rfl,rfl,rfl,rfl,rfl,rfl,rfl,rfl,rfl,rfl,trivial⟩ rfl rfl rfl rfl rfl rfl trivial ⟨⟨trivial,trivial,trivial,trivial,trivial,trivial,trivial,trivial,trivial,trivial,trivial,trivial,trivial,trivial,trivial,trivial,trivial,trivial,trivial,trivial,trivial⟩,(fun _ _ _ _=>trivial),(fun _ _ _ _=>trivial),(fun _ _ _ _=>trivial),(fun _ _ _ _=>trivial),trivial⟩ rfl rfl rfl rfl) rfl ?_
  refine ad aa 2 rfl ?_
  refine af ?_
  refine ay ?_
  refine ar ?_
  have hX:cv b (⟨idn,kind,1,aD,move,sum⟩:bB)=(b,(⟨e21,0⟩:Answer)):=by
    unfold cv;dsimp only;rw [if_neg (by decide),if_pos rfl];unfold fD;rw [hx1];dsimp only;unfold dz at hr1;simp only [if_true] at hr1;(try simp only [hr0]);(try unfold dt);(repeat' split)<;>first|rfl|omega|(exfalso;omega)|(simp_all;done)|(simp_all;omega)
  rw [hX] at hr;clear hX
  simp only [Prod.mk.injEq] at hr;obtain ⟨rfl,rfl⟩:=hr
  refine an aa [0,17,18,19,20,5] 5 rfl rfl rfl rfl rfl rfl ?_ ?_
  all_goals first|rfl|(simp [az,aX,bc];done)|(simp [az,aX,bc];omega)
 have hc3':=of_decide_eq_false hc3
 refine aP ?_
 refine ag ?_
 obtain ⟨n2,ok2,hr2⟩:∃ (n2:Int) (ok2:Bool),hP b.n1 x1.ch=(n2,ok2):=⟨_,_,rfl⟩
 refine aW [0,1,4,5,6] [0,7,8,9,10,11,12,13,14,15,6,5] mixed rfl rfl ?_
 refine au (kn:=[]) aa 8 rfl trivial ?_
 refine aM (n':=16) [126,123] [7] rfl rfl (.inl ⟨(ah.plain rfl),aE.cast (cE (i:=1) rfl rfl rfl Try.underlying36 fF rfl (by decide)) rfl⟩) rfl ?_
 refine au (kn:=[]) aa 3 rfl trivial ?_
 refine aM (n':=16) [128,130] [] rfl rfl (.inl ⟨(ah.plain rfl),aE.cast (bX 16 (py b.n1 x1.ch n2 ok2 hr2) DV rfl rfl ⟨⟨_,rfl,.c (.d _)⟩,⟨_,rfl,.g ⟨.d _,.d _,.d _,.d _,trivial⟩⟩,trivial⟩ ⟨trivial,trivial,trivial⟩ trivial rfl rfl rfl rfl) rfl⟩) rfl ?_
 refine au (kn:=[]) aa 5 rfl trivial ?_
 refine br [0,7,8,9,10,11,12,13,14,15,6,5] rfl rfl rfl rfl (by kernel_rfl) ?_
 refine af ?_
 refine ag ?_
 refine aW [0,1,4,5,6,9,10] [0,7,8,9,10,11,12,13,14,15,6,5] mixed rfl rfl ?_
 refine au (kn:=[]) aa 9 rfl trivial ?_
 refine aM (n':=16) [142,138] [7] rfl rfl (.inl ⟨(ah.plain rfl),aE.cast (cE (i:=1) rfl rfl rfl Try.underlying36 fF rfl (by decide)) rfl⟩) rfl ?_
 refine br [0,7,8,9,10,11,12,13,14,15,6,5] rfl rfl rfl rfl (by kernel_rfl) ?_
 refine ad aa 1 rfl ?_
 refine af ?_
 refine ag ?_
 refine ae aa 1 rfl ?_
 refine aj rfl (fun hc7=>?_) (fun hc7=>?_)
 ·
  have hc7':=hc7;try simp only [bu,bR] at hc7'
  have hpk2:=hpk (by omega)
  refine aw ?_
  refine ad aa 3 rfl ?_
  obtain ⟨due23,cards23,book23,e23,hr3⟩:∃ (due23:List Int) (cards23:List bI) (book23:List Entry) (e23:Int),eE b.ax b.due b.aq b.book 0 x1.ch=(due23,cards23,book23,e23):=⟨_,_,_,_,rfl⟩
  refine aQ 19 [7,16,17,18,0,8,9,10,11,15,6,5] (cq (bb [7,12,13,14]) (bb [7,16,17,18]) (ms:=(((((dw.set 2 (some (.s 1 0 6 b.aq.length))).set 3 (some (.s 2 0 1 b.due.length))).set 4 (some (.s 3 0 8 b.ax.length))).set 18 (some (de b.book))).set 19 (some (cI 0)))) (ms':=(((((dw.set 2 (some (.s 1 0 6 cards23.length))).set 3 (some (.s 2 0 1 due23.length))).set 4 (some (.s 3 0 8 b.ax.length))).set 18 (some (de book23))).set 19 (some (cI e23)))) (fun x hx=>zJ x hx b.ax b.due b.aq b.book 0 x1.ch (by first|omega|(simp;done)|(simp;omega)) (by assumption) (by first|omega|(simp;done)|(simp;omega)) (by first|omega|(simp;done)|(simp;omega)) due23 cards23 book23 e23 hr3) DU rfl rfl ⟨⟨_,rfl,.inl ⟨rfl,rfl⟩⟩,⟨_,rfl,.inr (.g ⟨.d _,.d _,.d _,.d _,trivial⟩)⟩,trivial⟩ rfl rfl rfl rfl rfl rfl rfl ⟨rfl,rfl,rfl,trivial⟩ rfl rfl rfl rfl rfl rfl rfl rfl rfl rfl rfl rfl rfl) rfl ?_
  refine af ?_
  rcases (show e23=0\/¬e23=0 from by omega) with hs8|hs8
  ·
   refine aF aa 2 rfl ?_
   refine aQ 23 [0,19,20,21,22,6,5] (cK (bb [0,7,8,9,10,11,16,17,18,15]) (bb [0,19,20,21,22]) (fi (x 17) (x 19) b (⟨b.time,b.down,cards23,due23,b.ax,b.s0,b.s1,b.n0,n2,b.w0,(b.w1).drop 1,b.ba,b.aR,book23⟩:Bk) e23 (by first|assumption|omega)) fC rfl rfl ⟨⟨_,rfl,.inl ⟨rfl,rfl⟩⟩,⟨_,rfl,.inl ⟨rfl,rfl⟩⟩,trivial⟩ ⟨rfl,rfl,rfl,rfl,rfl,rfl,rfl,rfl,rfl,rfl,trivial⟩ rfl rfl rfl rfl rfl rfl trivial ⟨⟨trivial,trivial,trivial,trivial,trivial,trivial,trivial,trivial,trivial,trivial,trivial,trivial,trivial,trivial,trivial,trivial,trivial,trivial,trivial,trivial,trivial⟩,(fun _ _ _ _=>trivial),(fun _ _ _ _=>trivial),(fun _ _ _ _=>trivial),(fun _ _ _ _=>trivial),trivial⟩ rfl rfl rfl rfl) rfl ?_
   refine ad aa 2 rfl ?_
   refine af ?_
   refine ay ?_
   have hX:cv b (⟨idn,kind,1,aD,move,sum⟩:bB)=((⟨b.time,b.down,cards23,due23,b.ax,b.s0,b.s1,b.n0,n2,b.w0,(b.w1).drop 1,b.ba,b.aR,book23⟩:Bk),(⟨e23,0⟩:Answer)):=by
     unfold cv;dsimp only;rw [if_neg (by decide),if_pos rfl];unfold fD;rw [hx1];dsimp only;(try simp only [hr2,hr3]);(try unfold dt);(repeat' split)<;>first|rfl|omega|(exfalso;omega)|(simp_all;done)|(simp_all;omega)
   rw [hX] at hr;clear hX
   simp only [Prod.mk.injEq] at hr;obtain ⟨rfl,rfl⟩:=hr
   refine an aa [0,19,20,21,22,5] 5 rfl rfl rfl rfl rfl rfl ?_ ?_
   all_goals first|rfl|(simp [az,aX,bc];done)|(simp [az,aX,bc];omega)
  refine aF aa 2 rfl ?_
  refine aQ 23 [0,19,20,21,22,6,5] (cK (bb [0,7,8,9,10,11,16,17,18,15]) (bb [0,19,20,21,22]) (fS (x 17) (x 19) b (⟨b.time,b.down,cards23,due23,b.ax,b.s0,b.s1,b.n0,n2,b.w0,(b.w1).drop 1,b.ba,b.aR,book23⟩:Bk) e23 (by first|assumption|omega)) fC rfl rfl ⟨⟨_,rfl,.inl ⟨rfl,rfl⟩⟩,⟨_,rfl,.inl ⟨rfl,rfl⟩⟩,trivial⟩ ⟨rfl,rfl,rfl,rfl,rfl,rfl,rfl,rfl,rfl,rfl,trivial⟩ rfl rfl rfl rfl rfl rfl trivial ⟨⟨trivial,trivial,trivial,trivial,trivial,trivial,trivial,trivial,trivial,trivial,trivial,trivial,trivial,trivial,trivial,trivial,trivial,trivial,trivial,trivial,trivial⟩,(fun _ _ _ _=>trivial),(fun _ _ _ _=>trivial),(fun _ _ _ _=>trivial),(fun _ _ _ _=>trivial),trivial⟩ rfl rfl rfl rfl) rfl ?_
  refine ad aa 2 rfl ?_
  refine af ?_
  refine ay ?_
  have hX:cv b (⟨idn,kind,1,aD,move,sum⟩:bB)=(b,(⟨e23,0⟩:Answer)):=by
    unfold cv;dsimp only;rw [if_neg (by decide),if_pos rfl];unfold fD;rw [hx1];dsimp only;(try simp only [hr2,hr3]);(try unfold dt);(repeat' split)<;>first|rfl|omega|(exfalso;omega)|(simp_all;done)|(simp_all;omega)
  rw [hX] at hr;clear hX
  simp only [Prod.mk.injEq] at hr;obtain ⟨rfl,rfl⟩:=hr
  refine an aa [0,19,20,21,22,5] 5 rfl rfl rfl rfl rfl rfl ?_ ?_
  all_goals first|rfl|(simp [az,aX,bc];done)|(simp [az,aX,bc];omega)
 have hc7':=hc7;try simp only [bu,bR] at hc7'
 refine aP ?_
 refine aF aa 2 rfl ?_
 refine aQ 20 [0,16,17,18,19,6,5] (cK (bb [0,7,8,9,10,11,12,13,14,15]) (bb [0,16,17,18,19]) (fi (x 17) (x 19) b (⟨b.time,b.down,b.aq,b.due,b.ax,b.s0,b.s1,b.n0,n2,b.w0,(b.w1).drop 1,b.ba,b.aR,b.book⟩:Bk) 0 (by first|assumption|omega)) fC rfl rfl ⟨⟨_,rfl,.inl ⟨rfl,rfl⟩⟩,⟨_,rfl,.inl ⟨rfl,rfl⟩⟩,trivial⟩ ⟨rfl,rfl,rfl,rfl,rfl,rfl,rfl,rfl,rfl,rfl,trivial⟩ rfl rfl rfl rfl rfl rfl trivial ⟨⟨trivial,trivial,trivial,trivial,trivial,trivial,trivial,trivial,trivial,trivial,trivial,trivial,trivial,trivial,trivial,trivial,trivial,trivial,trivial,trivial,trivial⟩,(fun _ _ _ _=>trivial),(fun _ _ _ _=>trivial),(fun _ _ _ _=>trivial),(fun _ _ _ _=>trivial),trivial⟩ rfl rfl rfl rfl) rfl ?_
 refine ad aa 2 rfl ?_
 refine af ?_
 refine ay ?_
 have hX:cv b (⟨idn,kind,1,aD,move,sum⟩:bB)=((⟨b.time,b.down,b.aq,b.due,b.ax,b.s0,b.s1,b.n0,n2,b.w0,(b.w1).drop 1,b.ba,b.aR,b.book⟩:Bk),(⟨0,0⟩:Answer)):=by
   unfold cv;dsimp only;rw [if_neg (by decide),if_pos rfl];unfold fD;rw [hx1];dsimp only;(try simp only [hr2]);(try unfold dt);(repeat' split)<;>first|rfl|omega|(exfalso;omega)|(simp_all;done)|(simp_all;omega)
 rw [hX] at hr;clear hX
 simp only [Prod.mk.injEq] at hr;obtain ⟨rfl,rfl⟩:=hr
 refine an aa [0,16,17,18,19,5] 5 rfl rfl rfl rfl rfl rfl ?_ ?_
 all_goals first|rfl|(simp [az,aX,bc];done)|(simp [az,aX,bc];omega)
theorem zQ (x:Nat->Value) (hx:∀ i,(x i).oneCell'=true) (b:Bk) (d:bB) (ok:ct b) (hn:¬d.n=0/\¬d.n=1) (b2:Bk) (a2:Answer) (hr:cv b d=(b2,a2)):cJ Try.prog 67 [(.c (.p 0 0 0 0)),(.c (.q (df d) 0))] [(0,(.box 98 (aX b 1 2 3 4 (.d (.v (x 17))) (.d (.v (x 19)))))),(1,(dO b.aq)),(2,(dF b.due)),(3,(dR b.ax)),(4,(cP b.aR))] [0] (.v (.g [cI a2.err,cI a2.aZ])) [(0,(.box 98 (aX b2 1 2 3 4 (.d (.v (x 17))) (.d (.v (x 19)))))),(1,(dO b2.aq)),(2,(dF b2.due)),(3,(dR b2.ax)),(4,(cP b2.aR))]:=by
 refine cJ.mk 153 [(0,(aC (.p 0 0 0 0))),(1,(aC (.q (df d) 0)))] 5 Try.func67 rfl rfl rfl rfl rfl rfl rfl rfl rfl ?_
 intro W0 F0 T0 pg
 obtain ⟨okt,okc,okd,oka,oky,okw0,okw1,okp,okv,okk0,okk1,okg,okl0,okl1,okp0,okp1,okn0,okn1,okq⟩:=id ok
 refine ae aa 1 rfl ?_
 refine ag ?_
 refine ag ?_
 rcases Bool.eq_false_or_eq_true (decide (¬d.n=0)) with hb1|hb1
 ·
  have hb1':=of_decide_eq_true hb1
  rcases Bool.eq_false_or_eq_true (decide (¬d.n=1)) with hb2|hb2
  ·
   have hb2':=of_decide_eq_true hb2
   refine aW [0,1,4] [5,0,1,2,3,4] mixed rfl rfl ?_
   refine au (kn:=[(15,true),(21,true)]) aa 26 rfl ⟨hb1,hb2,trivial⟩ ?_
   refine br [5,0,1,2,3,4] rfl rfl rfl rfl (by kernel_rfl) ?_
   refine af ?_
   refine aj rfl (fun _=>?_) (fun hno=>by cases hno)
   refine ae aa 2 rfl ?_
   refine ay ?_
   refine ar ?_
   have hX:cv b d=(b,(⟨6,0⟩:Answer)):=by
     unfold cv;rw [if_neg hn.1,if_neg hn.2]
   rw [hX] at hr;clear hX
   simp only [Prod.mk.injEq] at hr;obtain ⟨rfl,rfl⟩:=hr
   refine an aa [0,1,2,3,4,5] 5 rfl rfl rfl rfl rfl rfl ?_ ?_
   all_goals first|rfl|(simp [az,aX,bc];done)|(simp [az,aX,bc];omega)
  have hb2':=of_decide_eq_false hb2
  (exfalso;simp_all;done)
 have hb1':=of_decide_eq_false hb1
 (exfalso;simp_all;done)

theorem vr (x:Nat->Value) (hx:∀ i,(x i).oneCell'=true) (b:Bk) (d:bB) (ok:ct b) (b2:Bk) (a2:Answer) (hr:cv b d=(b2,a2)):cJ Try.prog 67 [(.c (.p 0 0 0 0)),(.c (.q (df d) 0))] [(0,(.box 98 (aX b 1 2 3 4 (.d (.v (x 17))) (.d (.v (x 19)))))),(1,(dO b.aq)),(2,(dF b.due)),(3,(dR b.ax)),(4,(cP b.aR))] [0] (.v (.g [cI a2.err,cI a2.aZ])) [(0,(.box 98 (aX b2 1 2 3 4 (.d (.v (x 17))) (.d (.v (x 19)))))),(1,(dO b2.aq)),(2,(dF b2.due)),(3,(dR b2.ax)),(4,(cP b2.aR))]:=by
  obtain ⟨idn,kind,n,aD,move,sum⟩:=d
  by_cases h0:n=0
  ·subst h0;exact zS x hx b idn kind aD move sum ok b2 a2 hr
  by_cases h1:n=1
  ·subst h1;exact zR x hx b idn kind aD move sum ok b2 a2 hr
  ·exact zQ x hx b _ ok ⟨h0,h1⟩ b2 a2 hr
theorem CM (x:Nat->Value) (hx:∀ i,(x i).oneCell'=true) (s0 s1:bY) (n0 n1:Int) (w0 w1:List cp) (d:bB) (l0:w0.length<=60) (l1:w1.length<=60) (m0:s0.kept.length<=40) (m1:s1.kept.length<=40) (v0 v1:List cp) (a2:Answer) (hr:ew s0 s1 n0 n1 w0 w1 d=(v0,v1,a2)):cJ Try.prog 66 [(.c (.p 0 0 0 0)),(.c (.q (df d) 0))] [(0,(.box 98 (((((((((bc x).set 5 (cI s0.bz)).set 6 (cw s0.kept)).set 7 (cI s1.bz)).set 8 (cw s1.kept)).set 9 (cI n0)).set 10 (cI n1)).set 11 (cW w0)).set 12 (cW w1))))] [0] (.v (.g [cI a2.err,cI a2.aZ])) [(0,(.box 98 (((((((((bc x).set 5 (cI s0.bz)).set 6 (cw s0.kept)).set 7 (cI s1.bz)).set 8 (cw s1.kept)).set 9 (cI n0)).set 10 (cI n1)).set 11 (cW v0)).set 12 (cW v1))))]:=by
  obtain ⟨idn,kind,n,aD,move,sum⟩:=d
  by_cases h0:n=0
  ·subst h0;exact BB x hx s0 s1 n0 n1 w0 w1 idn kind aD move sum l0 l1 m0 m1 v0 v1 a2 hr
  by_cases h1:n=1
  ·subst h1;exact BA x hx s0 s1 n0 n1 w0 w1 idn kind aD move sum l0 l1 m0 m1 v0 v1 a2 hr
  ·exact Bz x hx s0 s1 n0 n1 w0 w1 _ l0 l1 m0 m1 ⟨h0,h1⟩ v0 v1 a2 hr

theorem Ex (x:Nat->Value) (hx:∀ i,(x i).oneCell'=true) (b:Bk) (d:bB) (ok:ct b) (b2:Bk) (a2:Answer) (hr:fr b d=(b2,a2)):cJ Try.prog 62 [(.c (.p 0 0 0 0)),(.c (.q (df d) 0))] [(0,(.box 98 (aX b 1 2 3 4 (.d (.v (x 17))) (.d (.v (x 19)))))),(1,(dO b.aq)),(2,(dF b.due)),(3,(dR b.ax)),(4,(cP b.aR))] [0] (.v (.g [cI a2.err,cI a2.aZ])) [(0,(.box 98 (aX b2 1 2 3 4 (.d (.v (x 17))) (.d (.v (x 19)))))),(1,(dO b2.aq)),(2,(dF b2.due)),(3,(dR b2.ax)),(4,(cP b2.aR))]:=by
 refine cJ.mk 65 [(0,(aC (.p 0 0 0 0))),(1,(aC (.q (df d) 0)))] 5 Try.func62 rfl rfl rfl rfl rfl rfl rfl rfl rfl ?_
 intro W0 F0 T0 pg
 obtain ⟨okt,okc,okd,oka,oky,okw0,okw1,okp,okv,okk0,okk1,okg,okl0,okl1,okp0,okp1,okn0,okn1,okq⟩:=id ok
 refine ae aa 1 rfl ?_
 refine ag ?_
 refine ag ?_
 rcases Bool.eq_false_or_eq_true (decide (d.n < 0)) with hb1|hb1
 ·
  have hb1':=of_decide_eq_true hb1
  refine aW [0,1,4] [5,0,1,2,3,4] mixed rfl rfl ?_
  refine au (kn:=[(10,true)]) aa 18 rfl ⟨hb1,trivial⟩ ?_
  refine br [5,0,1,2,3,4] rfl rfl rfl rfl (by kernel_rfl) ?_
  refine af ?_
  refine aj rfl (fun _=>?_) (fun hno=>by cases hno)
  refine ae aa 2 rfl ?_
  refine ay ?_
  refine ar ?_
  have hX:fr b d=(b,(⟨6,0⟩:Answer)):=by
    unfold fr;(repeat' split)<;>first|rfl|omega|(exfalso;omega)|(simp_all;done)|(simp_all;omega)
  rw [hX] at hr;clear hX
  simp only [Prod.mk.injEq] at hr;obtain ⟨rfl,rfl⟩:=hr
  refine an aa [0,1,2,3,4,5] 5 rfl rfl rfl rfl rfl rfl ?_ ?_
  all_goals first|rfl|(simp [az,aX,bc];done)|(simp [az,aX,bc];omega)
 have hb1':=of_decide_eq_false hb1
 refine aW [0,1,4] [5,0,1,2,3,4] mixed rfl rfl ?_
 refine au (kn:=[(10,false)]) aa 15 rfl ⟨hb1,trivial⟩ ?_
 refine aM (n':=6) [20,11] [1] rfl rfl (.inl ⟨(ah.yes rfl rfl rfl),aE.cast (du rfl rfl rfl rfl rfl Try.underlying29) rfl⟩) rfl ?_
 refine au (kn:=[]) aa 2 rfl trivial ?_
 refine br [5,0,1,2,3,4] rfl rfl rfl rfl (by kernel_rfl) ?_
 refine af ?_
 refine aj rfl (fun hc3=>?_) (fun hc3=>?_)
 ·
  have hc3':=of_decide_eq_true hc3
  refine ae aa 2 rfl ?_
  refine ay ?_
  refine ar ?_
  have hX:fr b d=(b,(⟨6,0⟩:Answer)):=by
    unfold fr;(repeat' split)<;>first|rfl|omega|(exfalso;omega)|(simp_all;done)|(simp_all;omega)
  rw [hX] at hr;clear hX
  simp only [Prod.mk.injEq] at hr;obtain ⟨rfl,rfl⟩:=hr
  refine an aa [0,1,2,3,4,5] 5 rfl rfl rfl rfl rfl rfl ?_ ?_
  all_goals first|rfl|(simp [az,aX,bc];done)|(simp [az,aX,bc];omega)
 have hc3':=of_decide_eq_false hc3
 refine aP ?_
 refine ag ?_
 refine ck 36 ((decide (d.sum < 1))||(decide (d.sum > 1000000))) ?_ ?_
 ·
  refine aw ?_
  refine ad aa 6 rfl ?_
  refine bE (t:=30) rfl (fun hb4=>?_) (fun hb4=>?_)
  ·
   have hb4':=of_decide_eq_true hb4
   refine ad aa 6 rfl ?_
   refine af ?_
   exact aH.bA 13 rfl rfl (by first|(simp [hb4];done)|(simp_all;done)|(exfalso;simp_all;done)|(simp_all;omega)) rfl
  have hb4':=of_decide_eq_false hb4
  refine ad aa 6 rfl ?_
  refine af ?_
  exact aH.bA 13 rfl rfl (by first|(simp [hb4];done)|(simp_all;done)|(exfalso;simp_all;done)|(simp_all;omega)) rfl
 refine aj rfl (fun hc5=>?_) (fun hc5=>?_)
 ·
  have hc5':=hc5;try simp only [bu,bR] at hc5'
  refine ae aa 2 rfl ?_
  refine ay ?_
  refine ar ?_
  have hX:fr b d=(b,(⟨3,0⟩:Answer)):=by
    unfold fr;(repeat' split)<;>first|rfl|omega|(exfalso;omega)|(simp_all;done)|(simp_all;omega)
  rw [hX] at hr;clear hX
  simp only [Prod.mk.injEq] at hr;obtain ⟨rfl,rfl⟩:=hr
  refine an aa [0,1,2,3,4,5] 5 rfl rfl rfl rfl rfl rfl ?_ ?_
  all_goals first|rfl|(simp [az,aX,bc];done)|(simp [az,aX,bc];omega)
 have hc5':=hc5;try simp only [bu,bR] at hc5'
 refine aP ?_
 refine aF aa 1 rfl ?_
 refine aQ 15 [0,6,7,8,9,10,11,12,13,14,5] (cK id (bb [0,6,7,8,9,10,11,12,13,14]) (ke (x 17) (x 19) b (by first|omega|(simp;done)|(simp;omega)) (by first|omega|(simp;done)|(simp;omega)) (by first|omega|(simp;done)|(simp;omega)) (by first|omega|(simp;done)|(simp;omega))) qf rfl rfl ⟨⟨_,rfl,.inl ⟨rfl,rfl⟩⟩,trivial⟩ ⟨rfl,rfl,rfl,rfl,rfl,trivial⟩ rfl rfl rfl rfl rfl rfl trivial ⟨⟨trivial,trivial,trivial,trivial,trivial,trivial,trivial,trivial,trivial,trivial,trivial,trivial,trivial,trivial,trivial,trivial,trivial,trivial,trivial,trivial,trivial⟩,⟨trivial,trivial,trivial,trivial,trivial,trivial,trivial,trivial,trivial,trivial,trivial,trivial,trivial,trivial,trivial,trivial,trivial,trivial,trivial,trivial,trivial⟩,(fun _ _ _ _=>trivial),(fun _ _ _ _=>trivial),(fun _ _ _ _=>trivial),(fun _ _ _ _=>trivial),(fun _ _ _ _=>trivial),(fun _ _ _ _=>trivial),(fun _ _ _ _=>trivial),(fun _ _ _ _=>trivial),trivial⟩ rfl rfl rfl rfl) rfl ?_
 refine ad aa 1 rfl ?_
 refine af ?_
 refine ag ?_
 obtain ⟨l20,e20,hr0⟩:∃ (l20:List bI) (e20:Int),cH b.aq 0 d.n 0 d.sum=(l20,e20):=⟨_,_,rfl⟩
 refine dd [0,1,4,5] [0,6,7,8,9,10,11,12,13,14,5] mixed rfl rfl ?_
 refine bP (kn:=[]) aa 9 rfl trivial ?_
 refine bU (n':=16) [40,44,48] [11,6] rfl rfl (.inl ⟨(ah.plain rfl),aE.cast (cq (bb [6,11]) (bb [6,15]) (ms:=((dw.set 2 (some (.s 1 0 6 b.aq.length))).set 19 (some (cI 0)))) (ms':=((dw.set 2 (some (.s 1 0 6 l20.length))).set 19 (some (cI e20)))) (fun x hx=>iK x hx b.aq 0 d.n 0 d.sum (by first|omega|(simp;done)|(simp;omega)) l20 e20 hr0) nk rfl rfl ⟨⟨_,rfl,.inl ⟨rfl,rfl⟩⟩,⟨_,rfl,.inr (.c (.d _))⟩,⟨_,rfl,.inr (.c (.d _))⟩,⟨_,rfl,.inr (.c (.d _))⟩,trivial⟩ rfl rfl rfl rfl rfl rfl rfl ⟨rfl,trivial⟩ rfl rfl rfl rfl rfl rfl rfl rfl rfl rfl rfl rfl rfl) rfl⟩) rfl ?_
 refine dJ [0,1,4,5] [15,6,0,7,8,9,10,12,13,14,5] rfl rfl (by kernel_rfl) ?_
 refine then_ok ?_
 refine ag ?_
 obtain ⟨l21,e21,hr1⟩:∃ (l21:List Entry) (e21:Int),dV b.book e20 0 (10+d.n) d.sum=(l21,e21):=⟨_,_,rfl⟩
 refine dd [0,1,4,5] [15,6,0,7,8,9,10,12,13,14,5] mixed rfl rfl ?_
 refine bP (kn:=[]) aa 5 rfl trivial ?_
 refine bU (n':=16) [54] [] rfl rfl (.inl ⟨(ah.plain rfl),aE.cast (aK rfl rfl rfl (aL (by first|omega|(simp;done)|(simp;omega)))) rfl⟩) rfl ?_
 refine bP (kn:=[]) aa 4 rfl trivial ?_
 refine bU (n':=16) [50,55,59] [6] rfl rfl (.inl ⟨(ah.plain rfl),aE.cast (cq (bb [6]) (bb [6]) (ms:=((dw.set 18 (some (de b.book))).set 19 (some (cI e20)))) (ms':=((dw.set 18 (some (de l21))).set 19 (some (cI e21)))) (fun x hx=>iY x hx b.book e20 0 (10+d.n) d.sum l21 e21 hr1) me rfl rfl ⟨⟨_,rfl,.inl ⟨rfl,rfl⟩⟩,⟨_,rfl,.inr (.c (.d _))⟩,⟨_,rfl,.inr (.c (.d _))⟩,⟨_,rfl,.inr (.c (.d _))⟩,trivial⟩ rfl rfl rfl rfl rfl rfl rfl trivial rfl rfl rfl rfl rfl rfl rfl rfl rfl rfl rfl rfl rfl) rfl⟩) rfl ?_
 refine dJ [0,4,5] [6,15,0,7,8,9,10,12,13,14,5] rfl rfl (by kernel_rfl) ?_
 refine then_ok ?_
 rcases (show e21=0\/¬e21=0 from by omega) with hs6|hs6
 ·
  refine aF aa 2 rfl ?_
  refine aQ 20 [0,16,17,18,19,5] (cK (bb [0,6,7,8,9,10,15,12,13,14]) (bb [0,16,17,18,19]) (fi (x 17) (x 19) b (⟨b.time,b.down,l20,b.due,b.ax,b.s0,b.s1,b.n0,b.n1,b.w0,b.w1,b.ba,b.aR,l21⟩:Bk) e21 (by first|assumption|omega)) fC rfl rfl ⟨⟨_,rfl,.inl ⟨rfl,rfl⟩⟩,⟨_,rfl,.inl ⟨rfl,rfl⟩⟩,trivial⟩ ⟨rfl,rfl,rfl,rfl,rfl,rfl,rfl,rfl,rfl,rfl,trivial⟩ rfl rfl rfl rfl rfl rfl trivial ⟨⟨trivial,trivial,trivial,trivial,trivial,trivial,trivial,trivial,trivial,trivial,trivial,trivial,trivial,trivial,trivial,trivial,trivial,trivial,trivial,trivial,trivial⟩,(fun _ _ _ _=>trivial),(fun _ _ _ _=>trivial),(fun _ _ _ _=>trivial),(fun _ _ _ _=>trivial),trivial⟩ rfl rfl rfl rfl) rfl ?_
  refine ad aa 2 rfl ?_
  refine af ?_
  refine ay ?_
  have hX:fr b d=((⟨b.time,b.down,l20,b.due,b.ax,b.s0,b.s1,b.n0,b.n1,b.w0,b.w1,b.ba,b.aR,l21⟩:Bk),(⟨e21,0⟩:Answer)):=by
    unfold fr;simp only [dt,hr0,hr1];(repeat' split)<;>first|rfl|omega|(exfalso;omega)|(simp_all;done)|(simp_all;omega)
  rw [hX] at hr;clear hX
  simp only [Prod.mk.injEq] at hr;obtain ⟨rfl,rfl⟩:=hr
  refine an aa [0,16,17,18,19,5] 5 rfl rfl rfl rfl rfl rfl ?_ ?_
  all_goals first|rfl|(simp [az,aX,bc];done)|(simp [az,aX,bc];omega)
 refine aF aa 2 rfl ?_
 refine aQ 20 [0,16,17,18,19,5] (cK (bb [0,6,7,8,9,10,15,12,13,14]) (bb [0,16,17,18,19]) (fS (x 17) (x 19) b (⟨b.time,b.down,l20,b.due,b.ax,b.s0,b.s1,b.n0,b.n1,b.w0,b.w1,b.ba,b.aR,l21⟩:Bk) e21 (by first|assumption|omega)) fC rfl rfl ⟨⟨_,rfl,.inl ⟨rfl,rfl⟩⟩,⟨_,rfl,.inl ⟨rfl,rfl⟩⟩,trivial⟩ ⟨rfl,rfl,rfl,rfl,rfl,rfl,rfl,rfl,rfl,rfl,trivial⟩ rfl rfl rfl rfl rfl rfl trivial ⟨⟨trivial,trivial,trivial,trivial,trivial,trivial,trivial,trivial,trivial,trivial,trivial,trivial,trivial,trivial,trivial,trivial,trivial,trivial,trivial,trivial,trivial⟩,(fun _ _ _ _=>trivial),(fun _ _ _ _=>trivial),(fun _ _ _ _=>trivial),(fun _ _ _ _=>trivial),trivial⟩ rfl rfl rfl rfl) rfl ?_
 refine ad aa 2 rfl ?_
 refine af ?_
 refine ay ?_
 have hX:fr b d=(b,(⟨e21,0⟩:Answer)):=by
   unfold fr;simp only [dt,hr0,hr1];(repeat' split)<;>first|rfl|omega|(exfalso;omega)|(simp_all;done)|(simp_all;omega)
 rw [hX] at hr;clear hX
 simp only [Prod.mk.injEq] at hr;obtain ⟨rfl,rfl⟩:=hr
 refine an aa [0,16,17,18,19,5] 5 rfl rfl rfl rfl rfl rfl ?_ ?_
 all_goals first|rfl|(simp [az,aX,bc];done)|(simp [az,aX,bc];omega)
theorem FF (x:Nat->Value) (hx:∀ i,(x i).oneCell'=true) (b:Bk) (d:bB) (ok:ct b) (b2:Bk) (a2:Answer) (hr:gk b d=(b2,a2)):cJ Try.prog 70 [(.c (.p 0 0 0 0)),(.c (.q (df d) 0))] [(0,(.box 98 (aX b 1 2 3 4 (.d (.v (x 17))) (.d (.v (x 19)))))),(1,(dO b.aq)),(2,(dF b.due)),(3,(dR b.ax)),(4,(cP b.aR))] [0] (.v (.g [cI a2.err,cI a2.aZ])) [(0,(.box 98 (aX b2 1 2 3 4 (.d (.v (x 17))) (.d (.v (x 19)))))),(1,(dO b2.aq)),(2,(dF b2.due)),(3,(dR b2.ax)),(4,(cP b2.aR))]:=by
 refine cJ.mk 64 [(0,(aC (.p 0 0 0 0))),(1,(aC (.q (df d) 0)))] 5 Try.func70 rfl rfl rfl rfl rfl rfl rfl rfl rfl ?_
 intro W0 F0 T0 pg
 obtain ⟨okt,okc,okd,oka,oky,okw0,okw1,okp,okv,okk0,okk1,okg,okl0,okl1,okp0,okp1,okn0,okn1,okq⟩:=id ok
 refine ae aa 1 rfl ?_
 refine ag ?_
 refine ag ?_
 rcases Bool.eq_false_or_eq_true (decide (d.n < 0)) with hb1|hb1
 ·
  have hb1':=of_decide_eq_true hb1
  refine aW [0,1,4] [5,0,1,2,3,4] mixed rfl rfl ?_
  refine au (kn:=[(11,true)]) aa 18 rfl ⟨hb1,trivial⟩ ?_
  refine br [5,0,1,2,3,4] rfl rfl rfl rfl (by kernel_rfl) ?_
  refine af ?_
  refine aj rfl (fun _=>?_) (fun hno=>by cases hno)
  refine ae aa 2 rfl ?_
  refine ay ?_
  refine ar ?_
  have hX:gk b d=(b,(⟨6,0⟩:Answer)):=by
    unfold gk;(repeat' split)<;>first|rfl|omega|(exfalso;omega)|(simp_all;done)|(simp_all;omega)
  rw [hX] at hr;clear hX
  simp only [Prod.mk.injEq] at hr;obtain ⟨rfl,rfl⟩:=hr
  refine an aa [0,1,2,3,4,5] 5 rfl rfl rfl rfl rfl rfl ?_ ?_
  all_goals first|rfl|(simp [az,aX,bc];done)|(simp [az,aX,bc];omega)
 have hb1':=of_decide_eq_false hb1
 refine aW [0,1,4] [5,0,1,2,3,4] mixed rfl rfl ?_
 refine au (kn:=[(11,false)]) aa 15 rfl ⟨hb1,trivial⟩ ?_
 refine aM (n':=6) [21,12] [2] rfl rfl (.inl ⟨(ah.yes rfl rfl rfl),aE.cast (du rfl rfl rfl rfl rfl Try.underlying30) rfl⟩) rfl ?_
 refine au (kn:=[]) aa 2 rfl trivial ?_
 refine br [5,0,1,2,3,4] rfl rfl rfl rfl (by kernel_rfl) ?_
 refine af ?_
 refine aj rfl (fun hc3=>?_) (fun hc3=>?_)
 ·
  have hc3':=of_decide_eq_true hc3
  refine ae aa 2 rfl ?_
  refine ay ?_
  refine ar ?_
  have hX:gk b d=(b,(⟨6,0⟩:Answer)):=by
    unfold gk;(repeat' split)<;>first|rfl|omega|(exfalso;omega)|(simp_all;done)|(simp_all;omega)
  rw [hX] at hr;clear hX
  simp only [Prod.mk.injEq] at hr;obtain ⟨rfl,rfl⟩:=hr
  refine an aa [0,1,2,3,4,5] 5 rfl rfl rfl rfl rfl rfl ?_ ?_
  all_goals first|rfl|(simp [az,aX,bc];done)|(simp [az,aX,bc];omega)
 have hc3':=of_decide_eq_false hc3
 refine aP ?_
 refine ag ?_
 obtain ⟨x1,hx1⟩:=cb (xs:=b.due) (i:=Int.toNat (d.n)) (by first|omega|(simp;done)|(simp;omega))
 refine aW [0,1,4] [5,0,1,2,3,4] mixed rfl rfl ?_
 refine au (kn:=[]) aa 9 rfl trivial ?_
 refine aM (n':=6) [30,34] [2] rfl rfl (.inl ⟨(ah.plain rfl),aE.cast (bw (i:=Int.toNat (d.n)) rfl rfl rfl Try.underlying30 fF (by first|omega|(simp;done)|(simp;omega)) (by first|omega|(simp;done)|(simp;omega))) rfl⟩) rfl ?_
 refine aM (n':=6) [35] [2] rfl rfl (.inl ⟨(ah.plain rfl),aE.cast (eH rfl rfl rfl Try.underlying3 rfl (bf hx1) rfl) rfl⟩) rfl ?_
 refine au (kn:=[]) aa 1 rfl trivial ?_
 refine br [5,0,1,2,3,4] rfl rfl rfl rfl (by kernel_rfl) ?_
 refine af ?_
 refine ag ?_
 refine ae aa 2 rfl ?_
 refine aj rfl (fun hc4=>?_) (fun hc4=>?_)
 ·
  have hc4':=of_decide_eq_true hc4
  refine ae aa 2 rfl ?_
  refine ay ?_
  refine ar ?_
  have hX:gk b d=(b,(⟨10,0⟩:Answer)):=by
    unfold gk;simp only [dt,List.getD_eq_getElem?_getD,hx1,Option.getD_some,];(repeat' split)<;>first|rfl|omega|(exfalso;omega)|(simp_all;done)|(simp_all;omega)
  rw [hX] at hr;clear hX
  simp only [Prod.mk.injEq] at hr;obtain ⟨rfl,rfl⟩:=hr
  refine an aa [0,1,2,3,4,5] 5 rfl rfl rfl rfl rfl rfl ?_ ?_
  all_goals first|rfl|(simp [az,aX,bc];done)|(simp [az,aX,bc];omega)
 have hc4':=of_decide_eq_false hc4
 refine aP ?_
 refine aF aa 1 rfl ?_
 refine aQ 15 [0,6,7,8,9,10,11,12,13,14,5] (cK id (bb [0,6,7,8,9,10,11,12,13,14]) (ke (x 17) (x 19) b (by first|omega|(simp;done)|(simp;omega)) (by first|omega|(simp;done)|(simp;omega)) (by first|omega|(simp;done)|(simp;omega)) (by first|omega|(simp;done)|(simp;omega))) qf rfl rfl ⟨⟨_,rfl,.inl ⟨rfl,rfl⟩⟩,trivial⟩ ⟨rfl,rfl,rfl,rfl,rfl,trivial⟩ rfl rfl rfl rfl rfl rfl trivial ⟨⟨trivial,trivial,trivial,trivial,trivial,trivial,trivial,trivial,trivial,trivial,trivial,trivial,trivial,trivial,trivial,trivial,trivial,trivial,trivial,trivial,trivial⟩,⟨trivial,trivial,trivial,trivial,trivial,trivial,trivial,trivial,trivial,trivial,trivial,trivial,trivial,trivial,trivial,trivial,trivial,trivial,trivial,trivial,trivial⟩,(fun _ _ _ _=>trivial),(fun _ _ _ _=>trivial),(fun _ _ _ _=>trivial),(fun _ _ _ _=>trivial),(fun _ _ _ _=>trivial),(fun _ _ _ _=>trivial),(fun _ _ _ _=>trivial),(fun _ _ _ _=>trivial),trivial⟩ rfl rfl rfl rfl) rfl ?_
 refine ad aa 1 rfl ?_
 refine af ?_
 refine ag ?_
 refine aW [0,1,4,5,6] [0,6,7,8,9,10,11,12,13,14,5] mixed rfl rfl ?_
 refine au (kn:=[]) aa 9 rfl trivial ?_
 refine aM (n':=15) [46,50] [12] rfl rfl (.inl ⟨(ah.plain rfl),aE.cast (bw (i:=Int.toNat (d.n)) rfl rfl rfl Try.underlying30 fF (by first|omega|(simp;done)|(simp;omega)) (by first|omega|(simp;done)|(simp;omega))) rfl⟩) rfl ?_
 refine br [0,6,7,8,9,10,11,12,13,14,5] rfl rfl rfl rfl (by kernel_rfl) ?_
 refine fZ [0,6,7,8,9,10,11,12,13,14,5] (dM (ds:=[(dI 0)]) rfl rfl rfl rfl rfl fF rfl (Nat.le_of_ble_eq_true rfl) (bf hx1) rfl (eK (x':=0) rfl)) rfl ?_
 refine af ?_
 refine fw (k:=6) (q:=3) (c':=(.s 12 0 1 (((b.due).set (Int.toNat (d.n)) 0).length))) rfl rfl (by first|rfl|(simp;done)|(congr 1;omega)) rfl ?_
 refine aF aa 5 rfl ?_
 refine aA (aK rfl rfl rfl (aL (by first|omega|(simp;done)|(simp;omega)))) rfl ?_
 refine ad aa 1 rfl ?_
 obtain ⟨l20,e20,hr0⟩:∃ (l20:List Entry) (e20:Int),dV b.book 0 (50+d.n) 0 x1=(l20,e20):=⟨_,_,rfl⟩
 refine aQ 15 [6,0,7,8,9,10,11,12,13,14,5] (cq (bb [6]) (bb [6]) (ms:=((dw.set 18 (some (de b.book))).set 19 (some (cI 0)))) (ms':=((dw.set 18 (some (de l20))).set 19 (some (cI e20)))) (fun x hx=>iY x hx b.book 0 (50+d.n) 0 x1 l20 e20 hr0) me rfl rfl ⟨⟨_,rfl,.inl ⟨rfl,rfl⟩⟩,⟨_,rfl,.inr (.c (.d _))⟩,⟨_,rfl,.inr (.c (.d _))⟩,⟨_,rfl,.inr (.c (.d _))⟩,trivial⟩ rfl rfl rfl rfl rfl rfl rfl trivial rfl rfl rfl rfl rfl rfl rfl rfl rfl rfl rfl rfl rfl) rfl ?_
 refine af ?_
 rcases (show e20=0\/¬e20=0 from by omega) with hs5|hs5
 ·
  refine aF aa 2 rfl ?_
  refine aQ 19 [0,15,16,17,18,5] (cK (bb [0,6,7,8,9,10,11,12,13,14]) (bb [0,15,16,17,18]) (fi (x 17) (x 19) b (⟨b.time,b.down,b.aq,(b.due).set (Int.toNat (d.n)) 0,b.ax,b.s0,b.s1,b.n0,b.n1,b.w0,b.w1,b.ba,b.aR,l20⟩:Bk) e20 (by first|assumption|omega)) fC rfl rfl ⟨⟨_,rfl,.inl ⟨rfl,rfl⟩⟩,⟨_,rfl,.inl ⟨rfl,rfl⟩⟩,trivial⟩ ⟨rfl,rfl,rfl,rfl,rfl,rfl,rfl,rfl,rfl,rfl,trivial⟩ rfl rfl rfl rfl rfl rfl trivial ⟨⟨trivial,trivial,trivial,trivial,trivial,trivial,trivial,trivial,trivial,trivial,trivial,trivial,trivial,trivial,trivial,trivial,trivial,trivial,trivial,trivial,trivial⟩,(fun _ _ _ _=>trivial),(fun _ _ _ _=>trivial),(fun _ _ _ _=>trivial),(fun _ _ _ _=>trivial),trivial⟩ rfl rfl rfl rfl) rfl ?_
  refine ad aa 2 rfl ?_
  refine af ?_
  refine ay ?_
  have hX:gk b d=((⟨b.time,b.down,b.aq,(b.due).set (Int.toNat (d.n)) 0,b.ax,b.s0,b.s1,b.n0,b.n1,b.w0,b.w1,b.ba,b.aR,l20⟩:Bk),(⟨e20,0⟩:Answer)):=by
    unfold gk;simp only [dt,List.getD_eq_getElem?_getD,hx1,Option.getD_some,hr0];(repeat' split)<;>first|rfl|omega|(exfalso;omega)|(simp_all;done)|(simp_all;omega)
  rw [hX] at hr;clear hX
  simp only [Prod.mk.injEq] at hr;obtain ⟨rfl,rfl⟩:=hr
  refine an aa [0,15,16,17,18,5] 5 rfl rfl rfl rfl rfl rfl ?_ ?_
  all_goals first|rfl|(simp [az,aX,bc];done)|(simp [az,aX,bc];omega)
 refine aF aa 2 rfl ?_
 refine aQ 19 [0,15,16,17,18,5] (cK (bb [0,6,7,8,9,10,11,12,13,14]) (bb [0,15,16,17,18]) (fS (x 17) (x 19) b (⟨b.time,b.down,b.aq,(b.due).set (Int.toNat (d.n)) 0,b.ax,b.s0,b.s1,b.n0,b.n1,b.w0,b.w1,b.ba,b.aR,l20⟩:Bk) e20 (by first|assumption|omega)) fC rfl rfl ⟨⟨_,rfl,.inl ⟨rfl,rfl⟩⟩,⟨_,rfl,.inl ⟨rfl,rfl⟩⟩,trivial⟩ ⟨rfl,rfl,rfl,rfl,rfl,rfl,rfl,rfl,rfl,rfl,trivial⟩ rfl rfl rfl rfl rfl rfl trivial ⟨⟨trivial,trivial,trivial,trivial,trivial,trivial,trivial,trivial,trivial,trivial,trivial,trivial,trivial,trivial,trivial,trivial,trivial,trivial,trivial,trivial,trivial⟩,(fun _ _ _ _=>trivial),(fun _ _ _ _=>trivial),(fun _ _ _ _=>trivial),(fun _ _ _ _=>trivial),trivial⟩ rfl rfl rfl rfl) rfl ?_
 refine ad aa 2 rfl ?_
 refine af ?_
 refine ay ?_
 have hX:gk b d=(b,(⟨e20,0⟩:Answer)):=by
   unfold gk;simp only [dt,List.getD_eq_getElem?_getD,hx1,Option.getD_some,hr0];(repeat' split)<;>first|rfl|omega|(exfalso;omega)|(simp_all;done)|(simp_all;omega)
 rw [hX] at hr;clear hX
 simp only [Prod.mk.injEq] at hr;obtain ⟨rfl,rfl⟩:=hr
 refine an aa [0,15,16,17,18,5] 5 rfl rfl rfl rfl rfl rfl ?_ ?_
 all_goals first|rfl|(simp [az,aX,bc];done)|(simp [az,aX,bc];omega)

theorem zN (x:Nat->Value) (hx:∀ i,(x i).oneCell'=true) (b:Bk) (ok:ct b) (b2:Bk) (hr:gQ b=b2):cJ Try.prog 84 [(.c (.p 0 0 0 0))] [(0,(.box 98 (aX b 1 2 3 4 (.d (.v (x 17))) (.d (.v (x 19)))))),(1,(dO b.aq)),(2,(dF b.due)),(3,(dR b.ax)),(4,(cP b.aR))] [0] (.t []) [(0,(.box 98 (aX b2 1 2 3 4 (.d (.v (x 17))) (.d (.v (x 19)))))),(1,(dO b2.aq)),(2,(dF b2.due)),(3,(dR b2.ax)),(4,(cP b2.aR))]:=by
 refine cJ.mk 47 [(0,(aC (.p 0 0 0 0)))] 5 Try.func84 rfl rfl rfl rfl rfl rfl rfl rfl rfl ?_
 intro W0 F0 T0 pg
 obtain ⟨okt,okc,okd,oka,oky,okw0,okw1,okp,okv,okk0,okk1,okg,okl0,okl1,okp0,okp1,okn0,okn1,okq⟩:=id ok
 refine aF aa 1 rfl ?_
 refine aQ 14 [0,5,6,7,8,9,10,11,12,13] (cK id (bb [0,5,6,7,8,9,10,11,12,13]) (ke (x 17) (x 19) b (by first|omega|(simp;done)|(simp;omega)) (by first|omega|(simp;done)|(simp;omega)) (by first|omega|(simp;done)|(simp;omega)) (by first|omega|(simp;done)|(simp;omega))) qf rfl rfl ⟨⟨_,rfl,.inl ⟨rfl,rfl⟩⟩,trivial⟩ ⟨rfl,rfl,rfl,rfl,rfl,trivial⟩ rfl rfl rfl rfl rfl rfl trivial ⟨⟨trivial,trivial,trivial,trivial,trivial,trivial,trivial,trivial,trivial,trivial,trivial,trivial,trivial,trivial,trivial,trivial,trivial,trivial,trivial,trivial,trivial⟩,⟨trivial,trivial,trivial,trivial,trivial,trivial,trivial,trivial,trivial,trivial,trivial,trivial,trivial,trivial,trivial,trivial,trivial,trivial,trivial,trivial,trivial⟩,(fun _ _ _ _=>trivial),(fun _ _ _ _=>trivial),(fun _ _ _ _=>trivial),(fun _ _ _ _=>trivial),(fun _ _ _ _=>trivial),(fun _ _ _ _=>trivial),(fun _ _ _ _=>trivial),(fun _ _ _ _=>trivial),trivial⟩ rfl rfl rfl rfl) rfl ?_
 refine ad aa 1 rfl ?_
 refine af ?_
 refine ag ?_
 refine aF aa 5 rfl ?_
 refine aA (du rfl rfl rfl rfl rfl Try.underlying31) rfl ?_
 refine ad aa 1 rfl ?_
 refine af ?_
 refine aU ?_
 refine cj (β:=Nat×List bI×List bH×Int) (fun (p:Nat×List bI×List bH×Int)=>match p with|(q,cs,xs,e)=>⟨[(0,(aC (.p 0 0 0 0))),(2,(aC (.p 5 0 0 0))),(12,(aC (.s 12 0 8 xs.length))),(13,(aI (↑b.ax.length:Int))),(14,(aI (↑q:Int)))],[(0,(.box 98 (aX b 6 7 8 9 (.d (.v (x 17))) (.d (.v (x 19)))))),(5,(.box 147 (((aX b 10 11 12 13 (.d (.v (x 17))) (cI e)).set 2 (.s 10 0 6 cs.length)).set 4 (.s 12 0 8 xs.length)))),(6,(dO b.aq)),(7,(dF b.due)),(8,(dR b.ax)),(9,(cP b.aR)),(10,(dO cs)),(11,(dF b.due)),(12,(dR xs)),(13,(cP b.aR))],14⟩) (fun (p:Nat×List bI×List bH×Int)=>match p with|(q,cs,xs,e)=>q<=b.ax.length/\fI b.time b.ax 0 b.aq b.ax 0=fI b.time (b.ax.drop q) q cs xs e/\cs.length=b.aq.length/\xs.length=b.ax.length/\(∀ i,q<=i->xs[i]?=b.ax[i]?)) (fun (p:Nat×List bI×List bH×Int)=>match p with|(q,cs,xs,e)=>b.ax.length - q) (0,b.aq,b.ax,0) ?_ ?_ ?_
 ·exact ⟨by omega,rfl,rfl,rfl,fun _ _=>rfl⟩
 ·exact aH.bS id (by refine ⟨?_,?_,?_,?_,?_,trivial⟩<;>first|rfl|(simp only [bh];done)|(congr 3;omega)|(congr 4;omega)|(simp only [bj];rfl)) (by refine ⟨?_,?_,?_,?_,?_,?_,?_,?_,?_,?_,trivial⟩<;>first|rfl|(simp only [bh];done)|(congr 3;omega)|(congr 4;omega)|(simp only [bj];rfl)) rfl
 rintro ⟨q,cs,xs,e⟩ ⟨hi0_0,hi0_1,hi0_2,hi0_3,hi0_4⟩
 refine ae aa 1 rfl ?_
 refine ag ?_
 refine aj rfl (fun hc1=>?_) (fun hc1=>?_)
 ·
  have hc1':=of_decide_eq_true hc1
  refine aP ?_
  refine ag ?_
  refine aU ?_
  refine aF aa 1 rfl ?_
  refine aA (bw (i:=q) rfl rfl rfl Try.underlying31 kG (by first|omega|(simp;done)|(simp;omega)) (by first|omega|(simp;done)|(simp;omega))) rfl ?_
  obtain ⟨x1,hx1⟩:=cb (xs:=xs) (i:=q) (by first|omega|(simp;done)|(simp;omega))
  have hx1w:=okp x1 (List.mem_of_getElem? (show b.ax[q]?=some x1 by rw [<-hi0_4 q (by omega)];exact hx1))
  have hx1A:=hx1w.2
  replace hx1w:=hx1w.1
  refine aA (di rfl rfl rfl Try.underlying67 rfl kG (bf hx1) rfl) rfl ?_
  refine ad aa 3 rfl ?_
  refine af ?_
  refine ag ?_
  obtain ⟨b0,hr0⟩:∃ (b0:bH),eg x1 b.time=b0:=⟨_,rfl⟩
  have hlw:bK b0=0:=by rw [<-hr0];exact wQ hx1w
  refine aW [0,2,12,13,14,4,3] [14,0,5,6,7,8,9,10,11,12,13] mixed rfl rfl ?_
  refine au (kn:=[]) aa 6 rfl trivial ?_
  refine aM (n':=15) [19,24] [] rfl rfl (.inl ⟨(ah.plain rfl),aE.cast (bX 15 (we x1 b.time b0 hr0) Fv rfl rfl ⟨⟨_,rfl,.g ⟨.d _,.d _,.d _,.d _,.d _,.d _,.d _,.d _,trivial⟩⟩,⟨_,rfl,.c (.d _)⟩,trivial⟩ ⟨trivial,trivial,trivial,trivial,trivial,trivial,trivial,trivial,trivial⟩ trivial rfl rfl rfl rfl) rfl⟩) rfl ?_
  refine au (n':=16) (kn:=[]) aa 1 rfl trivial ?_
  refine br [15,14,0,5,6,7,8,9,10,11,12,13] rfl rfl rfl rfl (by kernel_rfl) ?_
  refine ad aa 1 rfl ?_
  refine af ?_
  refine ag ?_
  obtain ⟨e1,hr1⟩:∃ (e1:Int),bN b0=e1:=⟨_,rfl⟩
  have hhb1:=oa (show bK b0=0 by assumption)
  rw [hr1] at hhb1
  obtain ⟨e2,hr2⟩:∃ (e2:Int),bN x1=e2:=⟨_,rfl⟩
  have hhb2:=oa (show bK x1=0 by assumption)
  rw [hr2] at hhb2
  obtain ⟨l23,e23,hr3⟩:∃ (l23:List bI) (e23:Int),cH cs e x1.aN (e1 - e2) 0=(l23,e23):=⟨_,_,rfl⟩
  have hsl3:l23.length=cs.length:=by have h:=fg cs e x1.aN (e1 - e2) 0;rw [hr3] at h;exact h
  refine dd [0,2,12,13,14,4,3,5] [15,14,0,5,6,7,8,9,10,11,12,13] mixed rfl rfl ?_
  refine bP (kn:=[]) aa 4 rfl trivial ?_
  refine bU (n':=16) [29] [] rfl rfl (.inl ⟨(ah.plain rfl),aE.cast (bX 16 (kl b0 (by first|assumption|omega|rfl|decide) e1 hr1) ya rfl rfl ⟨⟨_,rfl,.g ⟨.d _,.d _,.d _,.d _,.d _,.d _,.d _,.d _,trivial⟩⟩,trivial⟩ trivial trivial rfl rfl rfl rfl) rfl⟩) rfl ?_
  refine bP (kn:=[]) aa 1 rfl trivial ?_
  refine bU (n':=16) [31] [] rfl rfl (.inl ⟨(ah.plain rfl),aE.cast (bX 16 (kl x1 (by first|assumption|omega|rfl|decide) e2 hr2) ya rfl rfl ⟨⟨_,rfl,.g ⟨.d _,.d _,.d _,.d _,.d _,.d _,.d _,.d _,trivial⟩⟩,trivial⟩ trivial trivial rfl rfl rfl rfl) rfl⟩) rfl ?_
  refine bU (n':=16) [30,32] [] rfl rfl (.inl ⟨(ah.plain rfl),aE.cast (aK rfl rfl rfl (aL (by first|omega|(simp;done)|(simp;omega)))) rfl⟩) rfl ?_
  refine bU (n':=17) [26,28,33] [10,5] rfl rfl (.inl ⟨(ah.plain rfl),aE.cast (cq (bb [5,10]) (bb [5,16]) (ms:=((dw.set 2 (some (.s 1 0 6 cs.length))).set 19 (some (cI e)))) (ms':=((dw.set 2 (some (.s 1 0 6 l23.length))).set 19 (some (cI e23)))) (fun x hx=>iK x hx cs e x1.aN (e1 - e2) 0 (by first|omega|(simp;done)|(simp;omega)) l23 e23 hr3) nk rfl rfl ⟨⟨_,rfl,.inl ⟨rfl,rfl⟩⟩,⟨_,rfl,.inr (.c (.d _))⟩,⟨_,rfl,.inr (.c (.d _))⟩,⟨_,rfl,.inr (.c (.d _))⟩,trivial⟩ rfl rfl rfl rfl rfl rfl rfl ⟨rfl,trivial⟩ rfl rfl rfl rfl rfl rfl rfl rfl rfl rfl rfl rfl rfl) rfl⟩) rfl ?_
  refine dJ [0,2,12,13,14,3,5] [16,5,15,0,6,7,8,9,11,12,13] rfl rfl (by kernel_rfl) ?_
  refine then_ok ?_
  refine aW [0,2,12,13,14,3,5] [16,5,15,0,6,7,8,9,11,12,13] mixed rfl rfl ?_
  refine au (kn:=[]) aa 7 rfl trivial ?_
  refine aM (n':=17) [39,40] [12] rfl rfl (.inl ⟨(ah.plain rfl),aE.cast (bw (i:=q) rfl rfl rfl Try.underlying31 kG (by first|omega|(simp;done)|(simp;omega)) (by first|omega|(simp;done)|(simp;omega))) rfl⟩) rfl ?_
  refine br [16,5,15,0,6,7,8,9,11,12,13] rfl rfl rfl rfl (by kernel_rfl) ?_
  refine fZ [16,5,15,0,6,7,8,9,11,12,13] (dM (ds:=[(dI b0.aN),(dI b0.aD),(dI b0.sum),(dI b0.captured),(dI b0.bx),(dI b0.bn),(dI b0.cZ),(dB b0.shut)]) rfl rfl rfl rfl rfl kG rfl (Nat.le_of_ble_eq_true rfl) (bf hx1) rfl (eK (x':=b0) rfl)) rfl ?_
  refine cf ?_
  refine bl ?_
  refine then_ok ?_
  refine fw (k:=5) (q:=4) (c':=(.s 12 0 8 (((xs).set q b0).length))) rfl rfl (by first|rfl|(simp;done)|(congr 1;omega)) rfl ?_
  refine aw ?_
  refine aA (aK rfl rfl rfl (aL (by first|omega|(simp;done)|(simp;omega)))) rfl ?_
  refine ad aa 1 rfl ?_
  refine af ?_
  refine ⟨(q+1,l23,(xs).set q b0,e23),⟨by omega,by rw [hi0_1,xK (a:=x1) (by rw [<-hi0_4 q (by omega)];exact hx1),hr0,hr1,hr2,hr3],by omega,by rw [List.length_set];omega,fun i hi=>by rw [List.getElem?_set_ne (by omega)];exact hi0_4 i (by omega)⟩,by first|omega|(simp;done)|(simp;omega),aH.bS (fun k=>if k=10 then 16 else k) (by refine ⟨?_,?_,?_,?_,?_,trivial⟩<;>first|rfl|(simp only [bh];done)|(congr 3;omega)|(congr 4;omega)|(simp only [bj];rfl)) (by refine ⟨?_,?_,?_,?_,?_,?_,?_,?_,?_,?_,trivial⟩<;>first|rfl|(simp only [bh];done)|(congr 3;omega)|(congr 4;omega)|(simp only [bj];rfl)) rfl⟩
 have hc1':=of_decide_eq_false hc1
 refine bZ ?_
 refine aO ?_
 refine aO ?_
 refine bF ?_
 refine then_ok ?_
 rcases (show e=0\/¬e=0 from by omega) with hs2|hs2
 ·
  refine aw ?_
  refine ad aa 2 rfl ?_
  refine aQ 18 [0,14,15,16,17] (cK (bb [0,5,6,7,8,9,10,11,12,13]) (bb [0,14,15,16,17]) (fi (x 17) (x 19) b (⟨b.time,b.down,cs,b.due,xs,b.s0,b.s1,b.n0,b.n1,b.w0,b.w1,b.ba,b.aR,b.book⟩:Bk) e (by first|assumption|omega)) fC rfl rfl ⟨⟨_,rfl,.inl ⟨rfl,rfl⟩⟩,⟨_,rfl,.inl ⟨rfl,rfl⟩⟩,trivial⟩ ⟨rfl,rfl,rfl,rfl,rfl,rfl,rfl,rfl,rfl,rfl,trivial⟩ rfl rfl rfl rfl rfl rfl trivial ⟨⟨trivial,trivial,trivial,trivial,trivial,trivial,trivial,trivial,trivial,trivial,trivial,trivial,trivial,trivial,trivial,trivial,trivial,trivial,trivial,trivial,trivial⟩,(fun _ _ _ _=>trivial),(fun _ _ _ _=>trivial),(fun _ _ _ _=>trivial),(fun _ _ _ _=>trivial),trivial⟩ rfl rfl rfl rfl) rfl ?_
  refine cf ?_
  have hX:gQ b=(⟨b.time,b.down,cs,b.due,xs,b.s0,b.s1,b.n0,b.n1,b.w0,b.w1,b.ba,b.aR,b.book⟩:Bk):=by
    have hL:fI b.time b.ax 0 b.aq b.ax 0=(cs,xs,e):=by rw [hi0_1,List.drop_of_length_le (by omega)];rfl
    unfold gQ;rw [hL];dsimp only;first|rw [if_pos (by assumption)]|rw [if_neg (by assumption)]
  rw [hX] at hr;clear hX
  subst hr
  refine cL aa [0,14,15,16,17] 5 rfl rfl rfl rfl rfl rfl ?_ ?_
  all_goals first|rfl|(simp [az,aX,bc];done)|(simp [az,aX,bc];omega)
 refine aw ?_
 refine ad aa 2 rfl ?_
 refine aQ 18 [0,14,15,16,17] (cK (bb [0,5,6,7,8,9,10,11,12,13]) (bb [0,14,15,16,17]) (fS (x 17) (x 19) b (⟨b.time,b.down,cs,b.due,xs,b.s0,b.s1,b.n0,b.n1,b.w0,b.w1,b.ba,b.aR,b.book⟩:Bk) e (by first|assumption|omega)) fC rfl rfl ⟨⟨_,rfl,.inl ⟨rfl,rfl⟩⟩,⟨_,rfl,.inl ⟨rfl,rfl⟩⟩,trivial⟩ ⟨rfl,rfl,rfl,rfl,rfl,rfl,rfl,rfl,rfl,rfl,trivial⟩ rfl rfl rfl rfl rfl rfl trivial ⟨⟨trivial,trivial,trivial,trivial,trivial,trivial,trivial,trivial,trivial,trivial,trivial,trivial,trivial,trivial,trivial,trivial,trivial,trivial,trivial,trivial,trivial⟩,(fun _ _ _ _=>trivial),(fun _ _ _ _=>trivial),(fun _ _ _ _=>trivial),(fun _ _ _ _=>trivial),trivial⟩ rfl rfl rfl rfl) rfl ?_
 refine cf ?_
 have hX:gQ b=b:=by
   have hL:fI b.time b.ax 0 b.aq b.ax 0=(cs,xs,e):=by rw [hi0_1,List.drop_of_length_le (by omega)];rfl
   unfold gQ;rw [hL];dsimp only;first|rw [if_pos (by assumption)]|rw [if_neg (by assumption)]
 rw [hX] at hr;clear hX
 subst hr
 refine cL aa [0,14,15,16,17] 5 rfl rfl rfl rfl rfl rfl ?_ ?_
 all_goals first|rfl|(simp [az,aX,bc];done)|(simp [az,aX,bc];omega)
theorem CJ (x:Nat->Value) (hx:∀ i,(x i).oneCell'=true) (b:Bk) (d:bB) (ok:ct b) (hdn:b.down=false) (b2:Bk) (a2:Answer) (hr:eQ b d=(b2,a2)):cJ Try.prog 65 [(.c (.p 0 0 0 0)),(.c (.q (df d) 0))] [(0,(.box 98 (aX b 1 2 3 4 (.d (.v (x 17))) (.d (.v (x 19)))))),(1,(dO b.aq)),(2,(dF b.due)),(3,(dR b.ax)),(4,(cP b.aR))] [0] (.v (.g [cI a2.err,cI a2.aZ])) [(0,(.box 98 (aX b2 1 2 3 4 (.d (.v (x 17))) (.d (.v (x 19)))))),(1,(dO b2.aq)),(2,(dF b2.due)),(3,(dR b2.ax)),(4,(cP b2.aR))]:=by
 refine cJ.mk 46 [(0,(aC (.p 0 0 0 0))),(1,(aC (.q (df d) 0)))] 5 Try.func65 rfl rfl rfl rfl rfl rfl rfl rfl rfl ?_
 intro W0 F0 T0 pg
 obtain ⟨okt,okc,okd,oka,oky,okw0,okw1,okp,okv,okk0,okk1,okg,okl0,okl1,okp0,okp1,okn0,okn1,okq⟩:=id ok
 refine ae aa 1 rfl ?_
 refine ag ?_
 refine ag ?_
 rcases Bool.eq_false_or_eq_true (decide (d.sum < 0)) with hb1|hb1
 ·
  have hb1':=of_decide_eq_true hb1
  refine aW [0,1,4] [5,0,1,2,3,4] mixed rfl rfl ?_
  refine au (kn:=[(9,true)]) aa 18 rfl ⟨hb1,trivial⟩ ?_
  refine br [5,0,1,2,3,4] rfl rfl rfl rfl (by kernel_rfl) ?_
  refine af ?_
  refine aj rfl (fun _=>?_) (fun hno=>by cases hno)
  refine ae aa 2 rfl ?_
  refine ay ?_
  refine ar ?_
  have hX:eQ b d=(b,(⟨3,0⟩:Answer)):=by
    unfold eQ;(repeat' split)<;>first|rfl|omega|(exfalso;omega)|(simp_all;done)|(simp_all;omega)
  rw [hX] at hr;clear hX
  simp only [Prod.mk.injEq] at hr;obtain ⟨rfl,rfl⟩:=hr
  refine an aa [0,1,2,3,4,5] 5 rfl rfl rfl rfl rfl rfl ?_ ?_
  all_goals first|rfl|(simp [az,aX,bc];done)|(simp [az,aX,bc];omega)
 have hb1':=of_decide_eq_false hb1
 refine aW [0,1,4] [5,0,1,2,3,4] mixed rfl rfl ?_
 refine au (kn:=[(9,false)]) aa 15 rfl ⟨hb1,trivial⟩ ?_
 refine aM (n':=6) [19,10] [] rfl rfl (.inl ⟨(ah.yes rfl rfl rfl),aE.cast (aK rfl rfl rfl (aL (by first|omega|(simp;done)|(simp;omega)))) rfl⟩) rfl ?_
 refine au (kn:=[]) aa 2 rfl trivial ?_
 refine br [5,0,1,2,3,4] rfl rfl rfl rfl (by kernel_rfl) ?_
 refine af ?_
 refine aj rfl (fun hc3=>?_) (fun hc3=>?_)
 ·
  have hc3':=of_decide_eq_true hc3
  refine ae aa 2 rfl ?_
  refine ay ?_
  refine ar ?_
  have hX:eQ b d=(b,(⟨3,0⟩:Answer)):=by
    unfold eQ;(repeat' split)<;>first|rfl|omega|(exfalso;omega)|(simp_all;done)|(simp_all;omega)
  rw [hX] at hr;clear hX
  simp only [Prod.mk.injEq] at hr;obtain ⟨rfl,rfl⟩:=hr
  refine an aa [0,1,2,3,4,5] 5 rfl rfl rfl rfl rfl rfl ?_ ?_
  all_goals first|rfl|(simp [az,aX,bc];done)|(simp [az,aX,bc];omega)
 have hc3':=of_decide_eq_false hc3
 refine aP ?_
 refine ag ?_
 refine aW [0,1,4] [5,0,1,2,3,4] mixed rfl rfl ?_
 refine au (kn:=[]) aa 9 rfl trivial ?_
 refine aM (n':=6) [28,32] [] rfl rfl (.inl ⟨(ah.plain rfl),aE.cast (aK rfl rfl rfl (aL (by first|omega|(simp;done)|(simp;omega)))) rfl⟩) rfl ?_
 refine au (kn:=[]) aa 3 rfl trivial ?_
 refine br [5,0,1,2,3,4] rfl rfl rfl rfl (by kernel_rfl) ?_
 refine ad aa 1 rfl ?_
 refine af ?_
 refine ag ?_
 refine ae aa 6 rfl ?_
 refine aj rfl (fun _=>?_) (fun hno=>by simp [hdn] at hno)
 refine aw ?_
 refine ad aa 1 rfl ?_
 obtain ⟨b20,hr0⟩:∃ (b20:Bk),gQ (⟨b.time+d.sum,b.down,b.aq,b.due,b.ax,b.s0,b.s1,b.n0,b.n1,b.w0,b.w1,b.ba,b.aR,b.book⟩:Bk)=b20:=⟨_,rfl⟩
 refine aQ 10 [0,6,7,8,9,5] (cq id (bb [0,6,7,8,9]) (ms:=[some (cI (b.time+d.sum)),some (cB b.down),some (.s 1 0 6 b.aq.length),some (.s 2 0 1 b.due.length),some (.s 3 0 8 b.ax.length),some (cI b.s0.bz),some (cw b.s0.kept),some (cI b.s1.bz),some (cw b.s1.kept),some (cI b.n0),some (cI b.n1),some (cW b.w0),some (cW b.w1),some (cI b.ba.cap),some (dr b.ba.used),some (ei b.ba.aT),some (.s 4 0 4 b.aR.length),none,some (de b.book),none]) (ms':=(iQ b20 1 2 3 4 none none)) (fun x hx=>zN x hx (⟨b.time+d.sum,b.down,b.aq,b.due,b.ax,b.s0,b.s1,b.n0,b.n1,b.w0,b.w1,b.ba,b.aR,b.book⟩:Bk) (by first|assumption|exact ct.tick (by assumption) (by omega) (by omega)) b20 hr0) DY rfl rfl ⟨⟨_,rfl,.inl ⟨rfl,rfl⟩⟩,trivial⟩ rfl rfl rfl rfl rfl rfl rfl ⟨rfl,rfl,rfl,rfl,trivial⟩ rfl rfl rfl rfl rfl rfl rfl rfl rfl rfl rfl rfl rfl) rfl ?_
 refine af ?_
 refine ae aa 2 rfl ?_
 refine ay ?_
 have hX:eQ b d=(b20,(⟨0,0⟩:Answer)):=by
   unfold eQ;simp only [dt,hr0];(repeat' split)<;>first|rfl|omega|(exfalso;omega)|(simp_all;done)|(simp_all;omega)
 rw [hX] at hr;clear hX
 simp only [Prod.mk.injEq] at hr;obtain ⟨rfl,rfl⟩:=hr
 refine an aa [0,6,7,8,9,5] 5 rfl rfl rfl rfl rfl rfl ?_ ?_
 all_goals first|rfl|(simp [az,aX,bc];done)|(simp [az,aX,bc];omega)
theorem CK (x:Nat->Value) (hx:∀ i,(x i).oneCell'=true) (b:Bk) (d:bB) (ok:ct b) (hdn:b.down=true) (b2:Bk) (a2:Answer) (hr:eQ b d=(b2,a2)):cJ Try.prog 65 [(.c (.p 0 0 0 0)),(.c (.q (df d) 0))] [(0,(.box 98 (aX b 1 2 3 4 (.d (.v (x 17))) (.d (.v (x 19)))))),(1,(dO b.aq)),(2,(dF b.due)),(3,(dR b.ax)),(4,(cP b.aR))] [0] (.v (.g [cI a2.err,cI a2.aZ])) [(0,(.box 98 (aX b2 1 2 3 4 (.d (.v (x 17))) (.d (.v (x 19)))))),(1,(dO b2.aq)),(2,(dF b2.due)),(3,(dR b2.ax)),(4,(cP b2.aR))]:=by
 refine cJ.mk 46 [(0,(aC (.p 0 0 0 0))),(1,(aC (.q (df d) 0)))] 5 Try.func65 rfl rfl rfl rfl rfl rfl rfl rfl rfl ?_
 intro W0 F0 T0 pg
 obtain ⟨okt,okc,okd,oka,oky,okw0,okw1,okp,okv,okk0,okk1,okg,okl0,okl1,okp0,okp1,okn0,okn1,okq⟩:=id ok
 refine ae aa 1 rfl ?_
 refine ag ?_
 refine ag ?_
 rcases Bool.eq_false_or_eq_true (decide (d.sum < 0)) with hb1|hb1
 ·
  have hb1':=of_decide_eq_true hb1
  refine aW [0,1,4] [5,0,1,2,3,4] mixed rfl rfl ?_
  refine au (kn:=[(9,true)]) aa 18 rfl ⟨hb1,trivial⟩ ?_
  refine br [5,0,1,2,3,4] rfl rfl rfl rfl (by kernel_rfl) ?_
  refine af ?_
  refine aj rfl (fun _=>?_) (fun hno=>by cases hno)
  refine ae aa 2 rfl ?_
  refine ay ?_
  refine ar ?_
  have hX:eQ b d=(b,(⟨3,0⟩:Answer)):=by
    unfold eQ;(repeat' split)<;>first|rfl|omega|(exfalso;omega)|(simp_all;done)|(simp_all;omega)
  rw [hX] at hr;clear hX
  simp only [Prod.mk.injEq] at hr;obtain ⟨rfl,rfl⟩:=hr
  refine an aa [0,1,2,3,4,5] 5 rfl rfl rfl rfl rfl rfl ?_ ?_
  all_goals first|rfl|(simp [az,aX,bc];done)|(simp [az,aX,bc];omega)
 have hb1':=of_decide_eq_false hb1
 refine aW [0,1,4] [5,0,1,2,3,4] mixed rfl rfl ?_
 refine au (kn:=[(9,false)]) aa 15 rfl ⟨hb1,trivial⟩ ?_
 refine aM (n':=6) [19,10] [] rfl rfl (.inl ⟨(ah.yes rfl rfl rfl),aE.cast (aK rfl rfl rfl (aL (by first|omega|(simp;done)|(simp;omega)))) rfl⟩) rfl ?_
 refine au (kn:=[]) aa 2 rfl trivial ?_
 refine br [5,0,1,2,3,4] rfl rfl rfl rfl (by kernel_rfl) ?_
 refine af ?_
 refine aj rfl (fun hc3=>?_) (fun hc3=>?_)
 ·
  have hc3':=of_decide_eq_true hc3
  refine ae aa 2 rfl ?_
  refine ay ?_
  refine ar ?_
  have hX:eQ b d=(b,(⟨3,0⟩:Answer)):=by
    unfold eQ;(repeat' split)<;>first|rfl|omega|(exfalso;omega)|(simp_all;done)|(simp_all;omega)
  rw [hX] at hr;clear hX
  simp only [Prod.mk.injEq] at hr;obtain ⟨rfl,rfl⟩:=hr
  refine an aa [0,1,2,3,4,5] 5 rfl rfl rfl rfl rfl rfl ?_ ?_
  all_goals first|rfl|(simp [az,aX,bc];done)|(simp [az,aX,bc];omega)
 have hc3':=of_decide_eq_false hc3
 refine aP ?_
 refine ag ?_
 refine aW [0,1,4] [5,0,1,2,3,4] mixed rfl rfl ?_
 refine au (kn:=[]) aa 9 rfl trivial ?_
 refine aM (n':=6) [28,32] [] rfl rfl (.inl ⟨(ah.plain rfl),aE.cast (aK rfl rfl rfl (aL (by first|omega|(simp;done)|(simp;omega)))) rfl⟩) rfl ?_
 refine au (kn:=[]) aa 3 rfl trivial ?_
 refine br [5,0,1,2,3,4] rfl rfl rfl rfl (by kernel_rfl) ?_
 refine ad aa 1 rfl ?_
 refine af ?_
 refine ag ?_
 refine ae aa 6 rfl ?_
 refine aj rfl (fun hno=>by simp [hdn] at hno) (fun _=>?_)
 refine aP ?_
 refine ae aa 2 rfl ?_
 refine ay ?_
 have hX:eQ b d=((⟨b.time+d.sum,b.down,b.aq,b.due,b.ax,b.s0,b.s1,b.n0,b.n1,b.w0,b.w1,b.ba,b.aR,b.book⟩:Bk),(⟨0,0⟩:Answer)):=by
   unfold eQ;(repeat' split)<;>first|rfl|omega|(exfalso;omega)|(simp_all;done)|(simp_all;omega)
 rw [hX] at hr;clear hX
 simp only [Prod.mk.injEq] at hr;obtain ⟨rfl,rfl⟩:=hr
 refine an aa [0,1,2,3,4,5] 5 rfl rfl rfl rfl rfl rfl ?_ ?_
 all_goals first|rfl|(simp [az,aX,bc];done)|(simp [az,aX,bc];omega)
theorem Es (x:Nat->Value) (hx:∀ i,(x i).oneCell'=true) (b:Bk) (d:bB) (ok:ct b) (b2:Bk) (a2:Answer) (hr:eQ b d=(b2,a2)):cJ Try.prog 65 [(.c (.p 0 0 0 0)),(.c (.q (df d) 0))] [(0,(.box 98 (aX b 1 2 3 4 (.d (.v (x 17))) (.d (.v (x 19)))))),(1,(dO b.aq)),(2,(dF b.due)),(3,(dR b.ax)),(4,(cP b.aR))] [0] (.v (.g [cI a2.err,cI a2.aZ])) [(0,(.box 98 (aX b2 1 2 3 4 (.d (.v (x 17))) (.d (.v (x 19)))))),(1,(dO b2.aq)),(2,(dF b2.due)),(3,(dR b2.ax)),(4,(cP b2.aR))]:=by
  cases hdn:b.down
  ·exact CJ x hx b d ok hdn b2 a2 hr
  ·exact CK x hx b d ok hdn b2 a2 hr
end Go.Proofs.Ytegepioggeggaaa.Dev
