/- A part of the proof: Bank10, Bank11, Bank5, Bank6. No condition. -/
import Derived.Test.YtegepioggeggaaaD11
set_option linter.unusedVariables false
set_option linter.unusedSimpArgs false
set_option maxHeartbeats 8000000
set_option maxRecDepth 100000
namespace Go.Proofs.Ytegepioggeggaaa.Dev
open Go.RowKit

theorem Ah (x:Nat->Value) (hx:∀ i,(x i).oneCell'=true) (b:Bk) (idn kind aD move sum:Int) (ok:cu b) (b2:Bk) (a2:Answer) (hr:cw b (⟨idn,kind,0,aD,move,sum⟩:bh)=(b2,a2)):cJ Try.prog 67 [(.c (.p 0 0 0 0)),(.c (.q (cY (⟨idn,kind,0,aD,move,sum⟩:bh)) 0))] [(0,(.box 98 (aY b 1 2 3 4 (.d (.v (x 17))) (.d (.v (x 19)))))),(1,(dN b.aq)),(2,(dD b.due)),(3,(dS b.ax)),(4,(cS b.aS))] [0] (.v (.g [cI a2.err,cI a2.ba])) [(0,(.box 98 (aY b2 1 2 3 4 (.d (.v (x 17))) (.d (.v (x 19)))))),(1,(dN b2.aq)),(2,(dD b2.due)),(3,(dS b2.ax)),(4,(cS b2.aS))]:=by
 refine cJ.mk 153 [(0,(aC (.p 0 0 0 0))),(1,(aC (.q (cY (⟨idn,kind,0,aD,move,sum⟩:bh)) 0)))] 5 Try.func67 rfl rfl rfl rfl rfl rfl rfl rfl rfl ?_
 intro W0 F0 T0 pg
 obtain ⟨okt,okc,okd,oka,oky,okw0,okw1,okp,okv,okk0,okk1,okg,okl0,okl1,okp0,okp1,okn0,okn1,okq⟩:=id ok
 refine ae aa 1 rfl ?_
 refine ag ?_
 refine ag ?_
 refine aW [0,1,4] [5,0,1,2,3,4] mixed rfl rfl ?_
 refine aw (kn:=[(15,false)]) aa 21 rfl ⟨rfl,trivial⟩ ?_
 refine aM (n':=6) [31,28,23] [0] rfl rfl (.inl ⟨(ah.yes rfl rfl rfl),aF.cast (cF (i:=0) rfl rfl rfl Try.underlying38 gC rfl (by decide)) rfl⟩) rfl ?_
 refine aw (kn:=[]) aa 1 rfl trivial ?_
 refine aM (n':=6) [33,23] [] rfl rfl (.inl ⟨(ah.yes rfl rfl rfl),aF.cast (bN rfl rfl rfl rfl rfl Try.underlying37) rfl⟩) rfl ?_
 refine aw (kn:=[]) aa 2 rfl trivial ?_
 refine bw [5,0,1,2,3,4] rfl rfl rfl rfl (by kernel_rfl) ?_
 refine af ?_
 refine aj rfl (fun hc1=>?_) (fun hc1=>?_)
 ·
  have hc1':=of_decide_eq_true hc1
  refine ae aa 2 rfl ?_
  refine az ?_
  refine ar ?_
  have hX:cw b (⟨idn,kind,0,aD,move,sum⟩:bh)=(b,(⟨6,0⟩:Answer)):=by
    unfold cw;dsimp only;rw [if_pos rfl];unfold fT;rw [List.getElem?_eq_none (by omega)]
  rw [hX] at hr;clear hX
  simp only [Prod.mk.injEq] at hr;obtain ⟨rfl,rfl⟩:=hr
  refine an aa [0,1,2,3,4,5] 5 rfl rfl rfl rfl rfl rfl ?_ ?_
  all_goals first|rfl|(simp [aA,aY,bg];done)|(simp [aA,aY,bg];omega)
 have hc1':=of_decide_eq_false hc1
 refine aP ?_
 refine ag ?_
 obtain ⟨x1,hx1⟩:=cb (xs:=b.w0) (i:=0) (by first|omega|(simp;done)|(simp;omega))
 refine aW [0,1,4] [5,0,1,2,3,4] mixed rfl rfl ?_
 refine aw (kn:=[]) aa 8 rfl trivial ?_
 refine aM (n':=6) [45,42] [0] rfl rfl (.inl ⟨(ah.plain rfl),aF.cast (cF (i:=0) rfl rfl rfl Try.underlying38 gC rfl (by decide)) rfl⟩) rfl ?_
 refine aw (kn:=[]) aa 1 rfl trivial ?_
 refine aM (n':=6) [47] [] rfl rfl (.inl ⟨(ah.plain rfl),aF.cast (bV (i:=0) rfl rfl rfl Try.underlying37 lO (by first|omega|(simp;done)|(simp;omega)) (bf hx1)) rfl⟩) rfl ?_
 refine aw (n':=7) (kn:=[]) aa 2 rfl trivial ?_
 refine bw [6,5,0,1,2,3,4] rfl rfl rfl rfl (by kernel_rfl) ?_
 refine ad aa 1 rfl ?_
 refine af ?_
 have hpk:=okp0 x1 (List.mem_of_getElem? hx1)
 have hI0:∀ t∈b.s0.kept,eY t.number:=fun t ht=>(okk0 t ht).1
 have hI1:∀ t∈b.s1.kept,eY t.number:=fun t ht=>(okk1 t ht).1
 have hA:∀ a∈b.ax,0<=a.aO/\a.aO < b.aq.length/\0<=a.aD/\a.aD < b.due.length:=fun a ha=>(okp a ha).2
 refine aH aa 1 rfl ?_
 refine aR 16 [0,7,8,9,10,11,12,13,14,15,6,5] (cK id (bb [0,7,8,9,10,11,12,13,14,15]) (ki (x 17) (x 19) b (by first|omega|(simp;done)|(simp;omega)) (by first|omega|(simp;done)|(simp;omega)) (by first|omega|(simp;done)|(simp;omega)) (by first|omega|(simp;done)|(simp;omega))) qp rfl rfl ⟨⟨_,rfl,.inl ⟨rfl,rfl⟩⟩,trivial⟩ ⟨rfl,rfl,rfl,rfl,rfl,trivial⟩ rfl rfl rfl rfl rfl rfl trivial ⟨⟨trivial,trivial,trivial,trivial,trivial,trivial,trivial,trivial,trivial,trivial,trivial,trivial,trivial,trivial,trivial,trivial,trivial,trivial,trivial,trivial,trivial⟩,⟨trivial,trivial,trivial,trivial,trivial,trivial,trivial,trivial,trivial,trivial,trivial,trivial,trivial,trivial,trivial,trivial,trivial,trivial,trivial,trivial,trivial⟩,(fun _ _ _ _=>trivial),(fun _ _ _ _=>trivial),(fun _ _ _ _=>trivial),(fun _ _ _ _=>trivial),(fun _ _ _ _=>trivial),(fun _ _ _ _=>trivial),(fun _ _ _ _=>trivial),(fun _ _ _ _=>trivial),trivial⟩ rfl rfl rfl rfl) rfl ?_
 refine ad aa 1 rfl ?_
 refine af ?_
 refine ag ?_
 refine aW [0,1,4,5,6] [0,7,8,9,10,11,12,13,14,15,6,5] mixed rfl rfl ?_
 refine aw (kn:=[]) aa 13 rfl trivial ?_
 refine aM (n':=16) [64,61] [0] rfl rfl (.inl ⟨(ah.plain rfl),aF.cast (cF (i:=0) rfl rfl rfl Try.underlying38 gC rfl (by decide)) rfl⟩) rfl ?_
 refine aw (kn:=[]) aa 1 rfl trivial ?_
 refine aM (n':=16) [66] [] rfl rfl (.inl ⟨(ah.plain rfl),aF.cast (vf (l:=1) (h:=b.w0.length) (ys:=((b.w0).drop 1).map fl) rfl Try.underlying37 lO rfl (.inr ⟨_,rfl,rfl⟩) (.inl ⟨rfl,by simp⟩) (by first|omega|(simp;done)|(simp;omega)) (by first|omega|(simp;done)|(simp;omega)) (by first|(simp;done)|(rw [List.map_drop];exact List.take_of_length_le (by simp)))) rfl⟩) rfl ?_
 refine aw (kn:=[]) aa 3 rfl trivial ?_
 refine aM (n':=16) [70,56] [7] rfl rfl (.inl ⟨(ah.plain rfl),aF.cast (cF (i:=0) rfl rfl rfl Try.underlying38 gC rfl (by decide)) rfl⟩) rfl ?_
 refine bw [0,7,8,9,10,11,12,13,14,15,6,5] rfl rfl rfl rfl (by kernel_rfl) ?_
 refine ad aa 1 rfl ?_
 refine af ?_
 refine ag ?_
 refine ae aa 5 rfl ?_
 refine aj rfl (fun hc2=>?_) (fun hc2=>?_)
 ·
  have hc2':=of_decide_eq_true hc2
  refine aH aa 2 rfl ?_
  refine aR 20 [0,16,17,18,19,6,5] (cK (bb [0,7,8,9,10,11,12,13,14,15]) (bb [0,16,17,18,19]) (fj (x 17) (x 19) b (⟨b.time,b.down,b.aq,b.due,b.ax,b.s0,b.s1,b.n0,b.n1,(b.w0).drop 1,b.w1,b.aX,b.aS,b.book⟩:Bk) 0 (by first|assumption|omega)) fI rfl rfl ⟨⟨_,rfl,.inl ⟨rfl,rfl⟩⟩,⟨_,rfl,.inl ⟨rfl,rfl⟩⟩,trivial⟩ ⟨rfl,rfl,rfl,rfl,rfl,rfl,rfl,rfl,rfl,rfl,trivial⟩ rfl rfl rfl rfl rfl rfl trivial ⟨⟨trivial,trivial,trivial,trivial,trivial,trivial,trivial,trivial,trivial,trivial,trivial,trivial,trivial,trivial,trivial,trivial,trivial,trivial,trivial,trivial,trivial⟩,(fun _ _ _ _=>trivial),(fun _ _ _ _=>trivial),(fun _ _ _ _=>trivial),(fun _ _ _ _=>trivial),trivial⟩ rfl rfl rfl rfl) rfl ?_
  refine ad aa 2 rfl ?_
  refine af ?_
  refine az ?_
  refine ar ?_
  have hX:cw b (⟨idn,kind,0,aD,move,sum⟩:bh)=((⟨b.time,b.down,b.aq,b.due,b.ax,b.s0,b.s1,b.n0,b.n1,(b.w0).drop 1,b.w1,b.aX,b.aS,b.book⟩:Bk),(⟨0,0⟩:Answer)):=by
    unfold cw;dsimp only;rw [if_pos rfl];unfold fT;rw [hx1];dsimp only;(try simp only [dy]);(try unfold dy);(repeat' split)<;>first|rfl|omega|(exfalso;omega)|(simp_all;done)|(simp_all;omega)
  rw [hX] at hr;clear hX
  simp only [Prod.mk.injEq] at hr;obtain ⟨rfl,rfl⟩:=hr
  refine an aa [0,16,17,18,19,5] 5 rfl rfl rfl rfl rfl rfl ?_ ?_
  all_goals first|rfl|(simp [aA,aY,bg];done)|(simp [aA,aY,bg];omega)
 have hc2':=of_decide_eq_false hc2
 refine aP ?_
 refine ag ?_
 refine ae aa 3 rfl ?_
 refine aj rfl (fun hc3=>?_) (fun hc3=>?_)
 ·
  have hc3':=of_decide_eq_true hc3
  refine ag ?_
  obtain ⟨xr0,e0,hr0⟩:∃ (xr0:ca) (e0:Int),ea b.s0 x1.seen=(xr0,e0):=⟨_,_,rfl⟩
  refine dh [0,1,4,5,6] [0,7,8,9,10,11,12,13,14,15,6,5] mixed rfl rfl ?_
  refine bS (kn:=[]) aa 8 rfl trivial ?_
  refine bY (n':=16) [92,89] [7] rfl rfl (.inl ⟨(ah.plain rfl),aF.cast (cF (i:=0) rfl rfl rfl Try.underlying35 jv rfl (by decide)) rfl⟩) rfl ?_
  refine bS (kn:=[]) aa 3 rfl trivial ?_
  refine bY (n':=16) [94,96] [] rfl rfl (.inl ⟨(ah.plain rfl),aF.cast (bX 16 (Fn.frozen (av':=(.t [(.g [(cI xr0.bz),(cm xr0.kept)]),(.c (cI e0))])) (pJ b.s0 x1.seen (by first|assumption|exact ke (by assumption) (by omega)|exact ji (by assumption) (by assumption)|(simp [eY];done)) xr0 e0 hr0) ⟨⟨.inl ⟨_,rfl,rfl⟩,.inr ⟨_,_,_,_,_,rfl,rfl,rfl,by simp⟩,trivial⟩,.inl ⟨_,rfl,rfl⟩,trivial⟩) Eh rfl rfl ⟨⟨_,rfl,.g ⟨.d _,.d _,trivial⟩⟩,⟨_,rfl,.c (.d _)⟩,trivial⟩ ⟨⟨trivial,trivial,trivial⟩,trivial,trivial⟩ trivial rfl rfl rfl rfl) rfl⟩) rfl ?_
  refine bS (n':=17) (kn:=[]) aa 6 rfl trivial ?_
  refine dO [0,1,4,5,6,7,8] [16,0,7,8,9,10,11,12,13,14,15,6,5] rfl rfl (by kernel_rfl) ?_
  refine then_ok ?_
  refine ag ?_
  refine aH aa 2 rfl ?_
  obtain ⟨e21,hr1⟩:∃ (e21:Int),dz 0 e0=e21:=⟨_,rfl⟩
  refine aR 17 [7,16,0,8,9,10,11,12,13,14,15,6,5] (cr (bb [7]) (bb [7]) (ms:=(dw.set 19 (some (cI 0)))) (ms':=(dw.set 19 (some (cI e21)))) (fun x hx=>jL x hx 0 e0 e21 hr1) nA rfl rfl ⟨⟨_,rfl,.inl ⟨rfl,rfl⟩⟩,⟨_,rfl,.inr (.c (.d _))⟩,trivial⟩ rfl rfl rfl rfl rfl rfl rfl trivial rfl rfl rfl rfl rfl rfl rfl rfl rfl rfl rfl rfl rfl) rfl ?_
  refine ad aa 1 rfl ?_
  refine af ?_
  refine aj rfl (fun hc4=>?_) (fun hc4=>?_)
  ·
   have hc4':=hc4;try simp only [bq,bM] at hc4'
   refine aW [0,1,4,5,6,7] [7,16,0,8,9,10,11,12,13,14,15,6,5] mixed rfl rfl ?_
   refine aw (kn:=[]) aa 9 rfl trivial ?_
   refine aM (n':=17) [112,108] [7] rfl rfl (.inl ⟨(ah.plain rfl),aF.cast (cF (i:=0) rfl rfl rfl Try.underlying35 jv rfl (by decide)) rfl⟩) rfl ?_
   refine bw [7,16,0,8,9,10,11,12,13,14,15,6,5] rfl rfl rfl rfl (by kernel_rfl) ?_
   refine ad aa 1 rfl ?_
   refine af ?_
   rcases (show e21=0\/¬e21=0 from by omega) with hs5|hs5
   ·
    refine aH aa 2 rfl ?_
    refine aR 21 [0,17,18,19,20,16,6,5] (cK (bb [0,7,8,9,10,11,12,13,14,15]) (bb [0,17,18,19,20]) (fj (x 17) (x 19) b (⟨b.time,b.down,b.aq,b.due,b.ax,xr0,b.s1,b.n0,b.n1,(b.w0).drop 1,b.w1,b.aX,b.aS,b.book⟩:Bk) e21 (by first|assumption|omega)) fI rfl rfl ⟨⟨_,rfl,.inl ⟨rfl,rfl⟩⟩,⟨_,rfl,.inl ⟨rfl,rfl⟩⟩,trivial⟩ ⟨rfl,rfl,rfl,rfl,rfl,rfl,rfl,rfl,rfl,rfl,trivial⟩ rfl rfl rfl rfl rfl rfl trivial ⟨⟨trivial,trivial,trivial,trivial,trivial,trivial,trivial,trivial,trivial,trivial,trivial,trivial,trivial,trivial,trivial,trivial,trivial,trivial,trivial,trivial,trivial⟩,(fun _ _ _ _=>trivial),(fun _ _ _ _=>trivial),(fun _ _ _ _=>trivial),(fun _ _ _ _=>trivial),trivial⟩ rfl rfl rfl rfl) rfl ?_
    refine ad aa 2 rfl ?_
    refine af ?_
    refine az ?_
    refine ar ?_
    have hX:cw b (⟨idn,kind,0,aD,move,sum⟩:bh)=((⟨b.time,b.down,b.aq,b.due,b.ax,xr0,b.s1,b.n0,b.n1,(b.w0).drop 1,b.w1,b.aX,b.aS,b.book⟩:Bk),(⟨e21,0⟩:Answer)):=by
      unfold cw;dsimp only;rw [if_pos rfl];unfold fT;rw [hx1];dsimp only;unfold dz at hr1;simp only [if_true] at hr1;(try simp only [hr0]);(try unfold dy);(repeat' split)<;>first|rfl|omega|(exfalso;omega)|(simp_all;done)|(simp_all;omega)
    rw [hX] at hr;clear hX
    simp only [Prod.mk.injEq] at hr;obtain ⟨rfl,rfl⟩:=hr
    refine an aa [0,17,18,19,20,5] 5 rfl rfl rfl rfl rfl rfl ?_ ?_
    all_goals first|rfl|(simp [aA,aY,bg];done)|(simp [aA,aY,bg];omega)
   refine aH aa 2 rfl ?_
   refine aR 21 [0,17,18,19,20,16,6,5] (cK (bb [0,7,8,9,10,11,12,13,14,15]) (bb [0,17,18,19,20]) (fX (x 17) (x 19) b (⟨b.time,b.down,b.aq,b.due,b.ax,xr0,b.s1,b.n0,b.n1,(b.w0).drop 1,b.w1,b.aX,b.aS,b.book⟩:Bk) e21 (by first|assumption|omega)) fI rfl rfl ⟨⟨_,rfl,.inl ⟨rfl,rfl⟩⟩,⟨_,rfl,.inl ⟨rfl,rfl⟩⟩,trivial⟩ ⟨rfl,rfl,rfl,rfl,rfl,rfl,rfl,rfl,rfl,rfl,trivial⟩ rfl rfl rfl rfl rfl rfl trivial ⟨⟨trivial,trivial,trivial,trivial,trivial,trivial,trivial,trivial,trivial,trivial,trivial,trivial,trivial,trivial,trivial,trivial,trivial,trivial,trivial,trivial,trivial⟩,(fun _ _ _ _=>trivial),(fun _ _ _ _=>trivial),(fun _ _ _ _=>trivial),(fun _ _ _ _=>trivial),trivial⟩ rfl rfl rfl rfl) rfl ?_
   refine ad aa 2 rfl ?_
   refine af ?_
   refine az ?_
   refine ar ?_
   have hX:cw b (⟨idn,kind,0,aD,move,sum⟩:bh)=(b,(⟨e21,0⟩:Answer)):=by
     unfold cw;dsimp only;rw [if_pos rfl];unfold fT;rw [hx1];dsimp only;unfold dz at hr1;simp only [if_true] at hr1;(try simp only [hr0]);(try unfold dy);(repeat' split)<;>first|rfl|omega|(exfalso;omega)|(simp_all;done)|(simp_all;omega)
   rw [hX] at hr;clear hX
   simp only [Prod.mk.injEq] at hr;obtain ⟨rfl,rfl⟩:=hr
   refine an aa [0,17,18,19,20,5] 5 rfl rfl rfl rfl rfl rfl ?_ ?_
   all_goals first|rfl|(simp [aA,aY,bg];done)|(simp [aA,aY,bg];omega)
  have hc4':=hc4;try simp only [bq,bM] at hc4'
  refine aP ?_
  rcases (show e21=0\/¬e21=0 from by omega) with hs6|hs6
  ·
   refine aH aa 2 rfl ?_
   refine aR 21 [0,17,18,19,20,16,6,5] (cK (bb [0,7,8,9,10,11,12,13,14,15]) (bb [0,17,18,19,20]) (fj (x 17) (x 19) b (⟨b.time,b.down,b.aq,b.due,b.ax,b.s0,b.s1,b.n0,b.n1,(b.w0).drop 1,b.w1,b.aX,b.aS,b.book⟩:Bk) e21 (by first|assumption|omega)) fI rfl rfl ⟨⟨_,rfl,.inl ⟨rfl,rfl⟩⟩,⟨_,rfl,.inl ⟨rfl,rfl⟩⟩,trivial⟩ ⟨rfl,rfl,rfl,rfl,rfl,rfl,rfl,rfl,rfl,rfl,trivial⟩ rfl rfl rfl rfl rfl rfl trivial ⟨⟨trivial,trivial,trivial,trivial,trivial,trivial,trivial,trivial,trivial,trivial,trivial,trivial,trivial,trivial,trivial,trivial,trivial,trivial,trivial,trivial,trivial⟩,(fun _ _ _ _=>trivial),(fun _ _ _ _=>trivial),(fun _ _ _ _=>trivial),(fun _ _ _ _=>trivial),trivial⟩ rfl rfl rfl rfl) rfl ?_
   refine ad aa 2 rfl ?_
   refine af ?_
   refine az ?_
   refine ar ?_
   have hX:cw b (⟨idn,kind,0,aD,move,sum⟩:bh)=((⟨b.time,b.down,b.aq,b.due,b.ax,b.s0,b.s1,b.n0,b.n1,(b.w0).drop 1,b.w1,b.aX,b.aS,b.book⟩:Bk),(⟨e21,0⟩:Answer)):=by
     unfold cw;dsimp only;rw [if_pos rfl];unfold fT;rw [hx1];dsimp only;unfold dz at hr1;simp only [if_true] at hr1;(try simp only [hr0]);(try unfold dy);(repeat' split)<;>first|rfl|omega|(exfalso;omega)|(simp_all;done)|(simp_all;omega)
   rw [hX] at hr;clear hX
   simp only [Prod.mk.injEq] at hr;obtain ⟨rfl,rfl⟩:=hr
   refine an aa [0,17,18,19,20,5] 5 rfl rfl rfl rfl rfl rfl ?_ ?_
   all_goals first|rfl|(simp [aA,aY,bg];done)|(simp [aA,aY,bg];omega)
  refine aH aa 2 rfl ?_
  refine aR 21 [0,17,18,19,20,16,6,5] (cK (bb [0,7,8,9,10,11,12,13,14,15]) (bb [0,17,18,19,20]) (fX (x 17) (x 19) b (⟨b.time,b.down,b.aq,b.due,b.ax,b.s0,b.s1,b.n0,b.n1,(b.w0).drop 1,b.w1,b.aX,b.aS,b.book⟩:Bk) e21 (by first|assumption|omega)) fI rfl rfl ⟨⟨_,rfl,.inl ⟨rfl,rfl⟩⟩,⟨_,rfl,.inl ⟨rfl,rfl⟩⟩,trivial⟩ ⟨rfl,rfl,rfl,rfl,rfl,rfl,rfl,rfl,rfl,rfl,trivial⟩ rfl rfl rfl rfl rfl rfl trivial ⟨⟨trivial,trivial,trivial,trivial,trivial,trivial,trivial,trivial,trivial,trivial,trivial,trivial,trivial,trivial,trivial,trivial,trivial,trivial,trivial,trivial,trivial⟩,(fun _ _ _ _=>trivial),(fun _ _ _ _=>trivial),(fun _ _ _ _=>trivial),(fun _ _ _ _=>trivial),trivial⟩ rfl rfl rfl rfl) rfl ?_
  refine ad aa 2 rfl ?_
  refine af ?_
  refine az ?_
  refine ar ?_
  have hX:cw b (⟨idn,kind,0,aD,move,sum⟩:bh)=(b,(⟨e21,0⟩:Answer)):=by
    unfold cw;dsimp only;rw [if_pos rfl];unfold fT;rw [hx1];dsimp only;unfold dz at hr1;simp only [if_true] at hr1;(try simp only [hr0]);(try unfold dy);(repeat' split)<;>first|rfl|omega|(exfalso;omega)|(simp_all;done)|(simp_all;omega)
  rw [hX] at hr;clear hX
  simp only [Prod.mk.injEq] at hr;obtain ⟨rfl,rfl⟩:=hr
  refine an aa [0,17,18,19,20,5] 5 rfl rfl rfl rfl rfl rfl ?_ ?_
  all_goals first|rfl|(simp [aA,aY,bg];done)|(simp [aA,aY,bg];omega)
 have hc3':=of_decide_eq_false hc3
 refine aP ?_
 refine ag ?_
 obtain ⟨n2,ok2,hr2⟩:∃ (n2:Int) (ok2:Bool),ia b.n0 x1.ck=(n2,ok2):=⟨_,_,rfl⟩
 refine aW [0,1,4,5,6] [0,7,8,9,10,11,12,13,14,15,6,5] mixed rfl rfl ?_
 refine aw (kn:=[]) aa 8 rfl trivial ?_
 refine aM (n':=16) [126,123] [7] rfl rfl (.inl ⟨(ah.plain rfl),aF.cast (cF (i:=0) rfl rfl rfl Try.underlying36 fE rfl (by decide)) rfl⟩) rfl ?_
 refine aw (kn:=[]) aa 3 rfl trivial ?_
 refine aM (n':=16) [128,130] [] rfl rfl (.inl ⟨(ah.plain rfl),aF.cast (bX 16 (pI b.n0 x1.ck n2 ok2 hr2) Eg rfl rfl ⟨⟨_,rfl,.c (.d _)⟩,⟨_,rfl,.g ⟨.d _,.d _,.d _,.d _,trivial⟩⟩,trivial⟩ ⟨trivial,trivial,trivial⟩ trivial rfl rfl rfl rfl) rfl⟩) rfl ?_
 refine aw (kn:=[]) aa 5 rfl trivial ?_
 refine bw [0,7,8,9,10,11,12,13,14,15,6,5] rfl rfl rfl rfl (by kernel_rfl) ?_
 refine af ?_
 refine ag ?_
 refine aW [0,1,4,5,6,9,10] [0,7,8,9,10,11,12,13,14,15,6,5] mixed rfl rfl ?_
 refine aw (kn:=[]) aa 9 rfl trivial ?_
 refine aM (n':=16) [142,138] [7] rfl rfl (.inl ⟨(ah.plain rfl),aF.cast (cF (i:=0) rfl rfl rfl Try.underlying36 fE rfl (by decide)) rfl⟩) rfl ?_
 refine bw [0,7,8,9,10,11,12,13,14,15,6,5] rfl rfl rfl rfl (by kernel_rfl) ?_
 refine ad aa 1 rfl ?_
 refine af ?_
 refine ag ?_
 refine ae aa 1 rfl ?_
 refine aj rfl (fun hc7=>?_) (fun hc7=>?_)
 ·
  have hc7':=hc7;try simp only [bq,bM] at hc7'
  have hpk2:=hpk (by omega)
  refine au ?_
  refine ad aa 3 rfl ?_
  obtain ⟨due23,cards23,book23,e23,hr3⟩:∃ (due23:List Int) (cards23:List bI) (book23:List Entry) (e23:Int),eG b.ax b.due b.aq b.book 0 x1.ck=(due23,cards23,book23,e23):=⟨_,_,_,_,rfl⟩
  refine aR 19 [7,16,17,18,0,8,9,10,11,15,6,5] (cr (bb [7,12,13,14]) (bb [7,16,17,18]) (ms:=(((((dw.set 2 (some (.s 1 0 6 b.aq.length))).set 3 (some (.s 2 0 1 b.due.length))).set 4 (some (.s 3 0 8 b.ax.length))).set 18 (some (da b.book))).set 19 (some (cI 0)))) (ms':=(((((dw.set 2 (some (.s 1 0 6 cards23.length))).set 3 (some (.s 2 0 1 due23.length))).set 4 (some (.s 3 0 8 b.ax.length))).set 18 (some (da book23))).set 19 (some (cI e23)))) (fun x hx=>zY x hx b.ax b.due b.aq b.book 0 x1.ck (by first|omega|(simp;done)|(simp;omega)) (by assumption) (by first|omega|(simp;done)|(simp;omega)) (by first|omega|(simp;done)|(simp;omega)) due23 cards23 book23 e23 hr3) Ef rfl rfl ⟨⟨_,rfl,.inl ⟨rfl,rfl⟩⟩,⟨_,rfl,.inr (.g ⟨.d _,.d _,.d _,.d _,trivial⟩)⟩,trivial⟩ rfl rfl rfl rfl rfl rfl rfl ⟨rfl,rfl,rfl,trivial⟩ rfl rfl rfl rfl rfl rfl rfl rfl rfl rfl rfl rfl rfl) rfl ?_
  refine af ?_
  rcases (show e23=0\/¬e23=0 from by omega) with hs8|hs8
  ·
   refine aH aa 2 rfl ?_
   refine aR 23 [0,19,20,21,22,6,5] (cK (bb [0,7,8,9,10,11,16,17,18,15]) (bb [0,19,20,21,22]) (fj (x 17) (x 19) b (⟨b.time,b.down,cards23,due23,b.ax,b.s0,b.s1,n2,b.n1,(b.w0).drop 1,b.w1,b.aX,b.aS,book23⟩:Bk) e23 (by first|assumption|omega)) fI rfl rfl ⟨⟨_,rfl,.inl ⟨rfl,rfl⟩⟩,⟨_,rfl,.inl ⟨rfl,rfl⟩⟩,trivial⟩ ⟨rfl,rfl,rfl,rfl,rfl,rfl,rfl,rfl,rfl,rfl,trivial⟩ rfl rfl rfl rfl rfl rfl trivial ⟨⟨trivial,trivial,trivial,trivial,trivial,trivial,trivial,trivial,trivial,trivial,trivial,trivial,trivial,trivial,trivial,trivial,trivial,trivial,trivial,trivial,trivial⟩,(fun _ _ _ _=>trivial),(fun _ _ _ _=>trivial),(fun _ _ _ _=>trivial),(fun _ _ _ _=>trivial),trivial⟩ rfl rfl rfl rfl) rfl ?_
   refine ad aa 2 rfl ?_
   refine af ?_
   refine az ?_
   have hX:cw b (⟨idn,kind,0,aD,move,sum⟩:bh)=((⟨b.time,b.down,cards23,due23,b.ax,b.s0,b.s1,n2,b.n1,(b.w0).drop 1,b.w1,b.aX,b.aS,book23⟩:Bk),(⟨e23,0⟩:Answer)):=by
     unfold cw;dsimp only;rw [if_pos rfl];unfold fT;rw [hx1];dsimp only;(try simp only [hr2,hr3]);(try unfold dy);(repeat' split)<;>first|rfl|omega|(exfalso;omega)|(simp_all;done)|(simp_all;omega)
   rw [hX] at hr;clear hX
   simp only [Prod.mk.injEq] at hr;obtain ⟨rfl,rfl⟩:=hr
   refine an aa [0,19,20,21,22,5] 5 rfl rfl rfl rfl rfl rfl ?_ ?_
   all_goals first|rfl|(simp [aA,aY,bg];done)|(simp [aA,aY,bg];omega)
  refine aH aa 2 rfl ?_
  refine aR 23 [0,19,20,21,22,6,5] (cK (bb [0,7,8,9,10,11,16,17,18,15]) (bb [0,19,20,21,22]) (fX (x 17) (x 19) b (⟨b.time,b.down,cards23,due23,b.ax,b.s0,b.s1,n2,b.n1,(b.w0).drop 1,b.w1,b.aX,b.aS,book23⟩:Bk) e23 (by first|assumption|omega)) fI rfl rfl ⟨⟨_,rfl,.inl ⟨rfl,rfl⟩⟩,⟨_,rfl,.inl ⟨rfl,rfl⟩⟩,trivial⟩ ⟨rfl,rfl,rfl,rfl,rfl,rfl,rfl,rfl,rfl,rfl,trivial⟩ rfl rfl rfl rfl rfl rfl trivial ⟨⟨trivial,trivial,trivial,trivial,trivial,trivial,trivial,trivial,trivial,trivial,trivial,trivial,trivial,trivial,trivial,trivial,trivial,trivial,trivial,trivial,trivial⟩,(fun _ _ _ _=>trivial),(fun _ _ _ _=>trivial),(fun _ _ _ _=>trivial),(fun _ _ _ _=>trivial),trivial⟩ rfl rfl rfl rfl) rfl ?_
  refine ad aa 2 rfl ?_
  refine af ?_
  refine az ?_
  have hX:cw b (⟨idn,kind,0,aD,move,sum⟩:bh)=(b,(⟨e23,0⟩:Answer)):=by
    unfold cw;dsimp only;rw [if_pos rfl];unfold fT;rw [hx1];dsimp only;(try simp only [hr2,hr3]);(try unfold dy);(repeat' split)<;>first|rfl|omega|(exfalso;omega)|(simp_all;done)|(simp_all;omega)
  rw [hX] at hr;clear hX
  simp only [Prod.mk.injEq] at hr;obtain ⟨rfl,rfl⟩:=hr
  refine an aa [0,19,20,21,22,5] 5 rfl rfl rfl rfl rfl rfl ?_ ?_
  all_goals first|rfl|(simp [aA,aY,bg];done)|(simp [aA,aY,bg];omega)
 have hc7':=hc7;try simp only [bq,bM] at hc7'
 refine aP ?_
 refine aH aa 2 rfl ?_
 refine aR 20 [0,16,17,18,19,6,5] (cK (bb [0,7,8,9,10,11,12,13,14,15]) (bb [0,16,17,18,19]) (fj (x 17) (x 19) b (⟨b.time,b.down,b.aq,b.due,b.ax,b.s0,b.s1,n2,b.n1,(b.w0).drop 1,b.w1,b.aX,b.aS,b.book⟩:Bk) 0 (by first|assumption|omega)) fI rfl rfl ⟨⟨_,rfl,.inl ⟨rfl,rfl⟩⟩,⟨_,rfl,.inl ⟨rfl,rfl⟩⟩,trivial⟩ ⟨rfl,rfl,rfl,rfl,rfl,rfl,rfl,rfl,rfl,rfl,trivial⟩ rfl rfl rfl rfl rfl rfl trivial ⟨⟨trivial,trivial,trivial,trivial,trivial,trivial,trivial,trivial,trivial,trivial,trivial,trivial,trivial,trivial,trivial,trivial,trivial,trivial,trivial,trivial,trivial⟩,(fun _ _ _ _=>trivial),(fun _ _ _ _=>trivial),(fun _ _ _ _=>trivial),(fun _ _ _ _=>trivial),trivial⟩ rfl rfl rfl rfl) rfl ?_
 refine ad aa 2 rfl ?_
 refine af ?_
 refine az ?_
 have hX:cw b (⟨idn,kind,0,aD,move,sum⟩:bh)=((⟨b.time,b.down,b.aq,b.due,b.ax,b.s0,b.s1,n2,b.n1,(b.w0).drop 1,b.w1,b.aX,b.aS,b.book⟩:Bk),(⟨0,0⟩:Answer)):=by
   unfold cw;dsimp only;rw [if_pos rfl];unfold fT;rw [hx1];dsimp only;(try simp only [hr2]);(try unfold dy);(repeat' split)<;>first|rfl|omega|(exfalso;omega)|(simp_all;done)|(simp_all;omega)
 rw [hX] at hr;clear hX
 simp only [Prod.mk.injEq] at hr;obtain ⟨rfl,rfl⟩:=hr
 refine an aa [0,16,17,18,19,5] 5 rfl rfl rfl rfl rfl rfl ?_ ?_
 all_goals first|rfl|(simp [aA,aY,bg];done)|(simp [aA,aY,bg];omega)
theorem Ag (x:Nat->Value) (hx:∀ i,(x i).oneCell'=true) (b:Bk) (idn kind aD move sum:Int) (ok:cu b) (b2:Bk) (a2:Answer) (hr:cw b (⟨idn,kind,1,aD,move,sum⟩:bh)=(b2,a2)):cJ Try.prog 67 [(.c (.p 0 0 0 0)),(.c (.q (cY (⟨idn,kind,1,aD,move,sum⟩:bh)) 0))] [(0,(.box 98 (aY b 1 2 3 4 (.d (.v (x 17))) (.d (.v (x 19)))))),(1,(dN b.aq)),(2,(dD b.due)),(3,(dS b.ax)),(4,(cS b.aS))] [0] (.v (.g [cI a2.err,cI a2.ba])) [(0,(.box 98 (aY b2 1 2 3 4 (.d (.v (x 17))) (.d (.v (x 19)))))),(1,(dN b2.aq)),(2,(dD b2.due)),(3,(dS b2.ax)),(4,(cS b2.aS))]:=by
 refine cJ.mk 153 [(0,(aC (.p 0 0 0 0))),(1,(aC (.q (cY (⟨idn,kind,1,aD,move,sum⟩:bh)) 0)))] 5 Try.func67 rfl rfl rfl rfl rfl rfl rfl rfl rfl ?_
 intro W0 F0 T0 pg
 obtain ⟨okt,okc,okd,oka,oky,okw0,okw1,okp,okv,okk0,okk1,okg,okl0,okl1,okp0,okp1,okn0,okn1,okq⟩:=id ok
 refine ae aa 1 rfl ?_
 refine ag ?_
 refine ag ?_
 refine aW [0,1,4] [5,0,1,2,3,4] mixed rfl rfl ?_
 refine aw (kn:=[(15,true),(21,false)]) aa 21 rfl ⟨rfl,rfl,trivial⟩ ?_
 refine aM (n':=6) [31,28,23] [0] rfl rfl (.inl ⟨(ah.yes rfl rfl rfl),aF.cast (cF (i:=1) rfl rfl rfl Try.underlying38 gC rfl (by decide)) rfl⟩) rfl ?_
 refine aw (kn:=[]) aa 1 rfl trivial ?_
 refine aM (n':=6) [33,23] [] rfl rfl (.inl ⟨(ah.yes rfl rfl rfl),aF.cast (bN rfl rfl rfl rfl rfl Try.underlying37) rfl⟩) rfl ?_
 refine aw (kn:=[]) aa 2 rfl trivial ?_
 refine bw [5,0,1,2,3,4] rfl rfl rfl rfl (by kernel_rfl) ?_
 refine af ?_
 refine aj rfl (fun hc1=>?_) (fun hc1=>?_)
 ·
  have hc1':=of_decide_eq_true hc1
  refine ae aa 2 rfl ?_
  refine az ?_
  refine ar ?_
  have hX:cw b (⟨idn,kind,1,aD,move,sum⟩:bh)=(b,(⟨6,0⟩:Answer)):=by
    unfold cw;dsimp only;rw [if_neg (by decide),if_pos rfl];unfold fS;rw [List.getElem?_eq_none (by omega)]
  rw [hX] at hr;clear hX
  simp only [Prod.mk.injEq] at hr;obtain ⟨rfl,rfl⟩:=hr
  refine an aa [0,1,2,3,4,5] 5 rfl rfl rfl rfl rfl rfl ?_ ?_
  all_goals first|rfl|(simp [aA,aY,bg];done)|(simp [aA,aY,bg];omega)
 have hc1':=of_decide_eq_false hc1
 refine aP ?_
 refine ag ?_
 obtain ⟨x1,hx1⟩:=cb (xs:=b.w1) (i:=0) (by first|omega|(simp;done)|(simp;omega))
 refine aW [0,1,4] [5,0,1,2,3,4] mixed rfl rfl ?_
 refine aw (kn:=[]) aa 8 rfl trivial ?_
 refine aM (n':=6) [45,42] [0] rfl rfl (.inl ⟨(ah.plain rfl),aF.cast (cF (i:=1) rfl rfl rfl Try.underlying38 gC rfl (by decide)) rfl⟩) rfl ?_
 refine aw (kn:=[]) aa 1 rfl trivial ?_
 refine aM (n':=6) [47] [] rfl rfl (.inl ⟨(ah.plain rfl),aF.cast (bV (i:=0) rfl rfl rfl Try.underlying37 lO (by first|omega|(simp;done)|(simp;omega)) (bf hx1)) rfl⟩) rfl ?_
 refine aw (n':=7) (kn:=[]) aa 2 rfl trivial ?_
 refine bw [6,5,0,1,2,3,4] rfl rfl rfl rfl (by kernel_rfl) ?_
 refine ad aa 1 rfl ?_
 refine af ?_
 have hpk:=okp1 x1 (List.mem_of_getElem? hx1)
 have hI0:∀ t∈b.s0.kept,eY t.number:=fun t ht=>(okk0 t ht).1
 have hI1:∀ t∈b.s1.kept,eY t.number:=fun t ht=>(okk1 t ht).1
 have hA:∀ a∈b.ax,0<=a.aO/\a.aO < b.aq.length/\0<=a.aD/\a.aD < b.due.length:=fun a ha=>(okp a ha).2
 refine aH aa 1 rfl ?_
 refine aR 16 [0,7,8,9,10,11,12,13,14,15,6,5] (cK id (bb [0,7,8,9,10,11,12,13,14,15]) (ki (x 17) (x 19) b (by first|omega|(simp;done)|(simp;omega)) (by first|omega|(simp;done)|(simp;omega)) (by first|omega|(simp;done)|(simp;omega)) (by first|omega|(simp;done)|(simp;omega))) qp rfl rfl ⟨⟨_,rfl,.inl ⟨rfl,rfl⟩⟩,trivial⟩ ⟨rfl,rfl,rfl,rfl,rfl,trivial⟩ rfl rfl rfl rfl rfl rfl trivial ⟨⟨trivial,trivial,trivial,trivial,trivial,trivial,trivial,trivial,trivial,trivial,trivial,trivial,trivial,trivial,trivial,trivial,trivial,trivial,trivial,trivial,trivial⟩,⟨trivial,trivial,trivial,trivial,trivial,trivial,trivial,trivial,trivial,trivial,trivial,trivial,trivial,trivial,trivial,trivial,trivial,trivial,trivial,trivial,trivial⟩,(fun _ _ _ _=>trivial),(fun _ _ _ _=>trivial),(fun _ _ _ _=>trivial),(fun _ _ _ _=>trivial),(fun _ _ _ _=>trivial),(fun _ _ _ _=>trivial),(fun _ _ _ _=>trivial),(fun _ _ _ _=>trivial),trivial⟩ rfl rfl rfl rfl) rfl ?_
 refine ad aa 1 rfl ?_
 refine af ?_
 refine ag ?_
 refine aW [0,1,4,5,6] [0,7,8,9,10,11,12,13,14,15,6,5] mixed rfl rfl ?_
 refine aw (kn:=[]) aa 13 rfl trivial ?_
 refine aM (n':=16) [64,61] [0] rfl rfl (.inl ⟨(ah.plain rfl),aF.cast (cF (i:=1) rfl rfl rfl Try.underlying38 gC rfl (by decide)) rfl⟩) rfl ?_
 refine aw (kn:=[]) aa 1 rfl trivial ?_
 refine aM (n':=16) [66] [] rfl rfl (.inl ⟨(ah.plain rfl),aF.cast (vf (l:=1) (h:=b.w1.length) (ys:=((b.w1).drop 1).map fl) rfl Try.underlying37 lO rfl (.inr ⟨_,rfl,rfl⟩) (.inl ⟨rfl,by simp⟩) (by first|omega|(simp;done)|(simp;omega)) (by first|omega|(simp;done)|(simp;omega)) (by first|(simp;done)|(rw [List.map_drop];exact List.take_of_length_le (by simp)))) rfl⟩) rfl ?_
 refine aw (kn:=[]) aa 3 rfl trivial ?_
 refine aM (n':=16) [70,56] [7] rfl rfl (.inl ⟨(ah.plain rfl),aF.cast (cF (i:=1) rfl rfl rfl Try.underlying38 gC rfl (by decide)) rfl⟩) rfl ?_
 refine bw [0,7,8,9,10,11,12,13,14,15,6,5] rfl rfl rfl rfl (by kernel_rfl) ?_
 refine ad aa 1 rfl ?_
 refine af ?_
 refine ag ?_
 refine ae aa 5 rfl ?_
 refine aj rfl (fun hc2=>?_) (fun hc2=>?_)
 ·
  have hc2':=of_decide_eq_true hc2
  refine aH aa 2 rfl ?_
  refine aR 20 [0,16,17,18,19,6,5] (cK (bb [0,7,8,9,10,11,12,13,14,15]) (bb [0,16,17,18,19]) (fj (x 17) (x 19) b (⟨b.time,b.down,b.aq,b.due,b.ax,b.s0,b.s1,b.n0,b.n1,b.w0,(b.w1).drop 1,b.aX,b.aS,b.book⟩:Bk) 0 (by first|assumption|omega)) fI rfl rfl ⟨⟨_,rfl,.inl ⟨rfl,rfl⟩⟩,⟨_,rfl,.inl ⟨rfl,rfl⟩⟩,trivial⟩ ⟨rfl,rfl,rfl,rfl,rfl,rfl,rfl,rfl,rfl,rfl,trivial⟩ rfl rfl rfl rfl rfl rfl trivial ⟨⟨trivial,trivial,trivial,trivial,trivial,trivial,trivial,trivial,trivial,trivial,trivial,trivial,trivial,trivial,trivial,trivial,trivial,trivial,trivial,trivial,trivial⟩,(fun _ _ _ _=>trivial),(fun _ _ _ _=>trivial),(fun _ _ _ _=>trivial),(fun _ _ _ _=>trivial),trivial⟩ rfl rfl rfl rfl) rfl ?_
  refine ad aa 2 rfl ?_
  refine af ?_
  refine az ?_
  refine ar ?_
  have hX:cw b (⟨idn,kind,1,aD,move,sum⟩:bh)=((⟨b.time,b.down,b.aq,b.due,b.ax,b.s0,b.s1,b.n0,b.n1,b.w0,(b.w1).drop 1,b.aX,b.aS,b.book⟩:Bk),(⟨0,0⟩:Answer)):=by
    unfold cw;dsimp only;rw [if_neg (by decide),if_pos rfl];unfold fS;rw [hx1];dsimp only;(try simp only [dy]);(try unfold dy);(repeat' split)<;>first|rfl|omega|(exfalso;omega)|(simp_all;done)|(simp_all;omega)
  rw [hX] at hr;clear hX
  simp only [Prod.mk.injEq] at hr;obtain ⟨rfl,rfl⟩:=hr
  refine an aa [0,16,17,18,19,5] 5 rfl rfl rfl rfl rfl rfl ?_ ?_
  all_goals first|rfl|(simp [aA,aY,bg];done)|(simp [aA,aY,bg];omega)
 have hc2':=of_decide_eq_false hc2
 refine aP ?_
 refine ag ?_
 refine ae aa 3 rfl ?_
 refine aj rfl (fun hc3=>?_) (fun hc3=>?_)
 ·
  have hc3':=of_decide_eq_true hc3
  refine ag ?_
  obtain ⟨xr0,e0,hr0⟩:∃ (xr0:ca) (e0:Int),ea b.s1 x1.seen=(xr0,e0):=⟨_,_,rfl⟩
  refine dh [0,1,4,5,6] [0,7,8,9,10,11,12,13,14,15,6,5] mixed rfl rfl ?_
  refine bS (kn:=[]) aa 8 rfl trivial ?_
  refine bY (n':=16) [92,89] [7] rfl rfl (.inl ⟨(ah.plain rfl),aF.cast (cF (i:=1) rfl rfl rfl Try.underlying35 jv rfl (by decide)) rfl⟩) rfl ?_
  refine bS (kn:=[]) aa 3 rfl trivial ?_
  refine bY (n':=16) [94,96] [] rfl rfl (.inl ⟨(ah.plain rfl),aF.cast (bX 16 (Fn.frozen (av':=(.t [(.g [(cI xr0.bz),(cm xr0.kept)]),(.c (cI e0))])) (pJ b.s1 x1.seen (by first|assumption|exact ke (by assumption) (by omega)|exact ji (by assumption) (by assumption)|(simp [eY];done)) xr0 e0 hr0) ⟨⟨.inl ⟨_,rfl,rfl⟩,.inr ⟨_,_,_,_,_,rfl,rfl,rfl,by simp⟩,trivial⟩,.inl ⟨_,rfl,rfl⟩,trivial⟩) Eh rfl rfl ⟨⟨_,rfl,.g ⟨.d _,.d _,trivial⟩⟩,⟨_,rfl,.c (.d _)⟩,trivial⟩ ⟨⟨trivial,trivial,trivial⟩,trivial,trivial⟩ trivial rfl rfl rfl rfl) rfl⟩) rfl ?_
  refine bS (n':=17) (kn:=[]) aa 6 rfl trivial ?_
  refine dO [0,1,4,5,6,7,8] [16,0,7,8,9,10,11,12,13,14,15,6,5] rfl rfl (by kernel_rfl) ?_
  refine then_ok ?_
  refine ag ?_
  refine aH aa 2 rfl ?_
  obtain ⟨e21,hr1⟩:∃ (e21:Int),dz 0 e0=e21:=⟨_,rfl⟩
  refine aR 17 [7,16,0,8,9,10,11,12,13,14,15,6,5] (cr (bb [7]) (bb [7]) (ms:=(dw.set 19 (some (cI 0)))) (ms':=(dw.set 19 (some (cI e21)))) (fun x hx=>jL x hx 0 e0 e21 hr1) nA rfl rfl ⟨⟨_,rfl,.inl ⟨rfl,rfl⟩⟩,⟨_,rfl,.inr (.c (.d _))⟩,trivial⟩ rfl rfl rfl rfl rfl rfl rfl trivial rfl rfl rfl rfl rfl rfl rfl rfl rfl rfl rfl rfl rfl) rfl ?_
  refine ad aa 1 rfl ?_
  refine af ?_
  refine aj rfl (fun hc4=>?_) (fun hc4=>?_)
  ·
   have hc4':=hc4;try simp only [bq,bM] at hc4'
   refine aW [0,1,4,5,6,7] [7,16,0,8,9,10,11,12,13,14,15,6,5] mixed rfl rfl ?_
   refine aw (kn:=[]) aa 9 rfl trivial ?_
   refine aM (n':=17) [112,108] [7] rfl rfl (.inl ⟨(ah.plain rfl),aF.cast (cF (i:=1) rfl rfl rfl Try.underlying35 jv rfl (by decide)) rfl⟩) rfl ?_
   refine bw [7,16,0,8,9,10,11,12,13,14,15,6,5] rfl rfl rfl rfl (by kernel_rfl) ?_
   refine ad aa 1 rfl ?_
   refine af ?_
   rcases (show e21=0\/¬e21=0 from by omega) with hs5|hs5
   ·
    refine aH aa 2 rfl ?_
    refine aR 21 [0,17,18,19,20,16,6,5] (cK (bb [0,7,8,9,10,11,12,13,14,15]) (bb [0,17,18,19,20]) (fj (x 17) (x 19) b (⟨b.time,b.down,b.aq,b.due,b.ax,b.s0,xr0,b.n0,b.n1,b.w0,(b.w1).drop 1,b.aX,b.aS,b.book⟩:Bk) e21 (by first|assumption|omega)) fI rfl rfl ⟨⟨_,rfl,.inl ⟨rfl,rfl⟩⟩,⟨_,rfl,.inl ⟨rfl,rfl⟩⟩,trivial⟩ ⟨rfl,rfl,rfl,rfl,rfl,rfl,rfl,rfl,rfl,rfl,trivial⟩ rfl rfl rfl rfl rfl rfl trivial ⟨⟨trivial,trivial,trivial,trivial,trivial,trivial,trivial,trivial,trivial,trivial,trivial,trivial,trivial,trivial,trivial,trivial,trivial,trivial,trivial,trivial,trivial⟩,(fun _ _ _ _=>trivial),(fun _ _ _ _=>trivial),(fun _ _ _ _=>trivial),(fun _ _ _ _=>trivial),trivial⟩ rfl rfl rfl rfl) rfl ?_
    refine ad aa 2 rfl ?_
    refine af ?_
    refine az ?_
    refine ar ?_
    have hX:cw b (⟨idn,kind,1,aD,move,sum⟩:bh)=((⟨b.time,b.down,b.aq,b.due,b.ax,b.s0,xr0,b.n0,b.n1,b.w0,(b.w1).drop 1,b.aX,b.aS,b.book⟩:Bk),(⟨e21,0⟩:Answer)):=by
      unfold cw;dsimp only;rw [if_neg (by decide),if_pos rfl];unfold fS;rw [hx1];dsimp only;unfold dz at hr1;simp only [if_true] at hr1;(try simp only [hr0]);(try unfold dy);(repeat' split)<;>first|rfl|omega|(exfalso;omega)|(simp_all;done)|(simp_all;omega)
    rw [hX] at hr;clear hX
    simp only [Prod.mk.injEq] at hr;obtain ⟨rfl,rfl⟩:=hr
    refine an aa [0,17,18,19,20,5] 5 rfl rfl rfl rfl rfl rfl ?_ ?_
    all_goals first|rfl|(simp [aA,aY,bg];done)|(simp [aA,aY,bg];omega)
   refine aH aa 2 rfl ?_
   refine aR 21 [0,17,18,19,20,16,6,5] (cK (bb [0,7,8,9,10,11,12,13,14,15]) (bb [0,17,18,19,20]) (fX (x 17) (x 19) b (⟨b.time,b.down,b.aq,b.due,b.ax,b.s0,xr0,b.n0,b.n1,b.w0,(b.w1).drop 1,b.aX,b.aS,b.book⟩:Bk) e21 (by first|assumption|omega)) fI rfl rfl ⟨⟨_,rfl,.inl ⟨rfl,rfl⟩⟩,⟨_,rfl,.inl ⟨rfl,rfl⟩⟩,trivial⟩ ⟨rfl,rfl,rfl,rfl,rfl,rfl,rfl,rfl,rfl,rfl,trivial⟩ rfl rfl rfl rfl rfl rfl trivial ⟨⟨trivial,trivial,trivial,trivial,trivial,trivial,trivial,trivial,trivial,trivial,trivial,trivial,trivial,trivial,trivial,trivial,trivial,trivial,trivial,trivial,trivial⟩,(fun _ _ _ _=>trivial),(fun _ _ _ _=>trivial),(fun _ _ _ _=>trivial),(fun _ _ _ _=>trivial),trivial⟩ rfl rfl rfl rfl) rfl ?_
   refine ad aa 2 rfl ?_
   refine af ?_
   refine az ?_
   refine ar ?_
   have hX:cw b (⟨idn,kind,1,aD,move,sum⟩:bh)=(b,(⟨e21,0⟩:Answer)):=by
     unfold cw;dsimp only;rw [if_neg (by decide),if_pos rfl];unfold fS;rw [hx1];dsimp only;unfold dz at hr1;simp only [if_true] at hr1;(try simp only [hr0]);(try unfold dy);(repeat' split)<;>first|rfl|omega|(exfalso;omega)|(simp_all;done)|(simp_all;omega)
   rw [hX] at hr;clear hX
   simp only [Prod.mk.injEq] at hr;obtain ⟨rfl,rfl⟩:=hr
   refine an aa [0,17,18,19,20,5] 5 rfl rfl rfl rfl rfl rfl ?_ ?_
   all_goals first|rfl|(simp [aA,aY,bg];done)|(simp [aA,aY,bg];omega)
  have hc4':=hc4;try simp only [bq,bM] at hc4'
  refine aP ?_
  rcases (show e21=0\/¬e21=0 from by omega) with hs6|hs6
  ·
   refine aH aa 2 rfl ?_
   refine aR 21 [0,17,18,19,20,16,6,5] (cK (bb [0,7,8,9,10,11,12,13,14,15]) (bb [0,17,18,19,20]) (fj (x 17) (x 19) b (⟨b.time,b.down,b.aq,b.due,b.ax,b.s0,b.s1,b.n0,b.n1,b.w0,(b.w1).drop 1,b.aX,b.aS,b.book⟩:Bk) e21 (by first|assumption|omega)) fI rfl rfl ⟨⟨_,rfl,.inl ⟨rfl,rfl⟩⟩,⟨_,rfl,.inl ⟨rfl,rfl⟩⟩,trivial⟩ ⟨rfl,rfl,rfl,rfl,rfl,rfl,rfl,rfl,rfl,rfl,trivial⟩ rfl rfl rfl rfl rfl rfl trivial ⟨⟨trivial,trivial,trivial,trivial,trivial,trivial,trivial,trivial,trivial,trivial,trivial,trivial,trivial,trivial,trivial,trivial,trivial,trivial,trivial,trivial,trivial⟩,(fun _ _ _ _=>trivial),(fun _ _ _ _=>trivial),(fun _ _ _ _=>trivial),(fun _ _ _ _=>trivial),trivial⟩ rfl rfl rfl rfl) rfl ?_
   refine ad aa 2 rfl ?_
   refine af ?_
   refine az ?_
   refine ar ?_
   have hX:cw b (⟨idn,kind,1,aD,move,sum⟩:bh)=((⟨b.time,b.down,b.aq,b.due,b.ax,b.s0,b.s1,b.n0,b.n1,b.w0,(b.w1).drop 1,b.aX,b.aS,b.book⟩:Bk),(⟨e21,0⟩:Answer)):=by
     unfold cw;dsimp only;rw [if_neg (by decide),if_pos rfl];unfold fS;rw [hx1];dsimp only;unfold dz at hr1;simp only [if_true] at hr1;(try simp only [hr0]);(try unfold dy);(repeat' split)<;>first|rfl|omega|(exfalso;omega)|(simp_all;done)|(simp_all;omega)
   rw [hX] at hr;clear hX
   simp only [Prod.mk.injEq] at hr;obtain ⟨rfl,rfl⟩:=hr
   refine an aa [0,17,18,19,20,5] 5 rfl rfl rfl rfl rfl rfl ?_ ?_
   all_goals first|rfl|(simp [aA,aY,bg];done)|(simp [aA,aY,bg];omega)
  refine aH aa 2 rfl ?_
  refine aR 21 [0,17,18,19,20,16,6,5] (cK (bb [0,7,8,9,10,11,12,13,14,15]) (bb [0,17,18,19,20]) (fX (x 17) (x 19) b (⟨b.time,b.down,b.aq,b.due,b.ax,b.s0,b.s1,b.n0,b.n1,b.w0,(b.w1).drop 1,b.aX,b.aS,b.book⟩:Bk) e21 (by first|assumption|omega)) fI rfl rfl ⟨⟨_,rfl,.inl ⟨rfl,rfl⟩⟩,⟨_,rfl,.inl ⟨rfl,rfl⟩⟩,trivial⟩ ⟨rfl,rfl,rfl,rfl,rfl,rfl,rfl,rfl,rfl,rfl,trivial⟩ rfl rfl rfl rfl rfl rfl trivial ⟨⟨trivial,trivial,trivial,trivial,trivial,trivial,trivial,trivial,trivial,trivial,trivial,trivial,trivial,trivial,trivial,trivial,trivial,trivial,trivial,trivial,trivial⟩,(fun _ _ _ _=>trivial),(fun _ _ _ _=>trivial),(fun _ _ _ _=>trivial),(fun _ _ _ _=>trivial),trivial⟩ rfl rfl rfl rfl) rfl ?_
  refine ad aa 2 rfl ?_
  refine af ?_
  refine az ?_
  refine ar ?_
  have hX:cw b (⟨idn,kind,1,aD,move,sum⟩:bh)=(b,(⟨e21,0⟩:Answer)):=by
    unfold cw;dsimp only;rw [if_neg (by decide),if_pos rfl];unfold fS;rw [hx1];dsimp only;unfold dz at hr1;simp only [if_true] at hr1;(try simp only [hr0]);(try unfold dy);(repeat' split)<;>first|rfl|omega|(exfalso;omega)|(simp_all;done)|(simp_all;omega)
  rw [hX] at hr;clear hX
  simp only [Prod.mk.injEq] at hr;obtain ⟨rfl,rfl⟩:=hr
  refine an aa [0,17,18,19,20,5] 5 rfl rfl rfl rfl rfl rfl ?_ ?_
  all_goals first|rfl|(simp [aA,aY,bg];done)|(simp [aA,aY,bg];omega)
 have hc3':=of_decide_eq_false hc3
 refine aP ?_
 refine ag ?_
 obtain ⟨n2,ok2,hr2⟩:∃ (n2:Int) (ok2:Bool),ia b.n1 x1.ck=(n2,ok2):=⟨_,_,rfl⟩
 refine aW [0,1,4,5,6] [0,7,8,9,10,11,12,13,14,15,6,5] mixed rfl rfl ?_
 refine aw (kn:=[]) aa 8 rfl trivial ?_
 refine aM (n':=16) [126,123] [7] rfl rfl (.inl ⟨(ah.plain rfl),aF.cast (cF (i:=1) rfl rfl rfl Try.underlying36 fE rfl (by decide)) rfl⟩) rfl ?_
 refine aw (kn:=[]) aa 3 rfl trivial ?_
 refine aM (n':=16) [128,130] [] rfl rfl (.inl ⟨(ah.plain rfl),aF.cast (bX 16 (pI b.n1 x1.ck n2 ok2 hr2) Eg rfl rfl ⟨⟨_,rfl,.c (.d _)⟩,⟨_,rfl,.g ⟨.d _,.d _,.d _,.d _,trivial⟩⟩,trivial⟩ ⟨trivial,trivial,trivial⟩ trivial rfl rfl rfl rfl) rfl⟩) rfl ?_
 refine aw (kn:=[]) aa 5 rfl trivial ?_
 refine bw [0,7,8,9,10,11,12,13,14,15,6,5] rfl rfl rfl rfl (by kernel_rfl) ?_
 refine af ?_
 refine ag ?_
 refine aW [0,1,4,5,6,9,10] [0,7,8,9,10,11,12,13,14,15,6,5] mixed rfl rfl ?_
 refine aw (kn:=[]) aa 9 rfl trivial ?_
 refine aM (n':=16) [142,138] [7] rfl rfl (.inl ⟨(ah.plain rfl),aF.cast (cF (i:=1) rfl rfl rfl Try.underlying36 fE rfl (by decide)) rfl⟩) rfl ?_
 refine bw [0,7,8,9,10,11,12,13,14,15,6,5] rfl rfl rfl rfl (by kernel_rfl) ?_
 refine ad aa 1 rfl ?_
 refine af ?_
 refine ag ?_
 refine ae aa 1 rfl ?_
 refine aj rfl (fun hc7=>?_) (fun hc7=>?_)
 ·
  have hc7':=hc7;try simp only [bq,bM] at hc7'
  have hpk2:=hpk (by omega)
  refine au ?_
  refine ad aa 3 rfl ?_
  obtain ⟨due23,cards23,book23,e23,hr3⟩:∃ (due23:List Int) (cards23:List bI) (book23:List Entry) (e23:Int),eG b.ax b.due b.aq b.book 0 x1.ck=(due23,cards23,book23,e23):=⟨_,_,_,_,rfl⟩
  refine aR 19 [7,16,17,18,0,8,9,10,11,15,6,5] (cr (bb [7,12,13,14]) (bb [7,16,17,18]) (ms:=(((((dw.set 2 (some (.s 1 0 6 b.aq.length))).set 3 (some (.s 2 0 1 b.due.length))).set 4 (some (.s 3 0 8 b.ax.length))).set 18 (some (da b.book))).set 19 (some (cI 0)))) (ms':=(((((dw.set 2 (some (.s 1 0 6 cards23.length))).set 3 (some (.s 2 0 1 due23.length))).set 4 (some (.s 3 0 8 b.ax.length))).set 18 (some (da book23))).set 19 (some (cI e23)))) (fun x hx=>zY x hx b.ax b.due b.aq b.book 0 x1.ck (by first|omega|(simp;done)|(simp;omega)) (by assumption) (by first|omega|(simp;done)|(simp;omega)) (by first|omega|(simp;done)|(simp;omega)) due23 cards23 book23 e23 hr3) Ef rfl rfl ⟨⟨_,rfl,.inl ⟨rfl,rfl⟩⟩,⟨_,rfl,.inr (.g ⟨.d _,.d _,.d _,.d _,trivial⟩)⟩,trivial⟩ rfl rfl rfl rfl rfl rfl rfl ⟨rfl,rfl,rfl,trivial⟩ rfl rfl rfl rfl rfl rfl rfl rfl rfl rfl rfl rfl rfl) rfl ?_
  refine af ?_
  rcases (show e23=0\/¬e23=0 from by omega) with hs8|hs8
  ·
   refine aH aa 2 rfl ?_
   refine aR 23 [0,19,20,21,22,6,5] (cK (bb [0,7,8,9,10,11,16,17,18,15]) (bb [0,19,20,21,22]) (fj (x 17) (x 19) b (⟨b.time,b.down,cards23,due23,b.ax,b.s0,b.s1,b.n0,n2,b.w0,(b.w1).drop 1,b.aX,b.aS,book23⟩:Bk) e23 (by first|assumption|omega)) fI rfl rfl ⟨⟨_,rfl,.inl ⟨rfl,rfl⟩⟩,⟨_,rfl,.inl ⟨rfl,rfl⟩⟩,trivial⟩ ⟨rfl,rfl,rfl,rfl,rfl,rfl,rfl,rfl,rfl,rfl,trivial⟩ rfl rfl rfl rfl rfl rfl trivial ⟨⟨trivial,trivial,trivial,trivial,trivial,trivial,trivial,trivial,trivial,trivial,trivial,trivial,trivial,trivial,trivial,trivial,trivial,trivial,trivial,trivial,trivial⟩,(fun _ _ _ _=>trivial),(fun _ _ _ _=>trivial),(fun _ _ _ _=>trivial),(fun _ _ _ _=>trivial),trivial⟩ rfl rfl rfl rfl) rfl ?_
   refine ad aa 2 rfl ?_
   refine af ?_
   refine az ?_
   have hX:cw b (⟨idn,kind,1,aD,move,sum⟩:bh)=((⟨b.time,b.down,cards23,due23,b.ax,b.s0,b.s1,b.n0,n2,b.w0,(b.w1).drop 1,b.aX,b.aS,book23⟩:Bk),(⟨e23,0⟩:Answer)):=by
     unfold cw;dsimp only;rw [if_neg (by decide),if_pos rfl];unfold fS;rw [hx1];dsimp only;(try simp only [hr2,hr3]);(try unfold dy);(repeat' split)<;>first|rfl|omega|(exfalso;omega)|(simp_all;done)|(simp_all;omega)
   rw [hX] at hr;clear hX
   simp only [Prod.mk.injEq] at hr;obtain ⟨rfl,rfl⟩:=hr
   refine an aa [0,19,20,21,22,5] 5 rfl rfl rfl rfl rfl rfl ?_ ?_
   all_goals first|rfl|(simp [aA,aY,bg];done)|(simp [aA,aY,bg];omega)
  refine aH aa 2 rfl ?_
  refine aR 23 [0,19,20,21,22,6,5] (cK (bb [0,7,8,9,10,11,16,17,18,15]) (bb [0,19,20,21,22]) (fX (x 17) (x 19) b (⟨b.time,b.down,cards23,due23,b.ax,b.s0,b.s1,b.n0,n2,b.w0,(b.w1).drop 1,b.aX,b.aS,book23⟩:Bk) e23 (by first|assumption|omega)) fI rfl rfl ⟨⟨_,rfl,.inl ⟨rfl,rfl⟩⟩,⟨_,rfl,.inl ⟨rfl,rfl⟩⟩,trivial⟩ ⟨rfl,rfl,rfl,rfl,rfl,rfl,rfl,rfl,rfl,rfl,trivial⟩ rfl rfl rfl rfl rfl rfl trivial ⟨⟨trivial,trivial,trivial,trivial,trivial,trivial,trivial,trivial,trivial,trivial,trivial,trivial,trivial,trivial,trivial,trivial,trivial,trivial,trivial,trivial,trivial⟩,(fun _ _ _ _=>trivial),(fun _ _ _ _=>trivial),(fun _ _ _ _=>trivial),(fun _ _ _ _=>trivial),trivial⟩ rfl rfl rfl rfl) rfl ?_
  refine ad aa 2 rfl ?_
  refine af ?_
  refine az ?_
  have hX:cw b (⟨idn,kind,1,aD,move,sum⟩:bh)=(b,(⟨e23,0⟩:Answer)):=by
    unfold cw;dsimp only;rw [if_neg (by decide),if_pos rfl];unfold fS;rw [hx1];dsimp only;(try simp only [hr2,hr3]);(try unfold dy);(repeat' split)<;>first|rfl|omega|(exfalso;omega)|(simp_all;done)|(simp_all;omega)
  rw [hX] at hr;clear hX
  simp only [Prod.mk.injEq] at hr;obtain ⟨rfl,rfl⟩:=hr
  refine an aa [0,19,20,21,22,5] 5 rfl rfl rfl rfl rfl rfl ?_ ?_
  all_goals first|rfl|(simp [aA,aY,bg];done)|(simp [aA,aY,bg];omega)
 have hc7':=hc7;try simp only [bq,bM] at hc7'
 refine aP ?_
 refine aH aa 2 rfl ?_
 refine aR 20 [0,16,17,18,19,6,5] (cK (bb [0,7,8,9,10,11,12,13,14,15]) (bb [0,16,17,18,19]) (fj (x 17) (x 19) b (⟨b.time,b.down,b.aq,b.due,b.ax,b.s0,b.s1,b.n0,n2,b.w0,(b.w1).drop 1,b.aX,b.aS,b.book⟩:Bk) 0 (by first|assumption|omega)) fI rfl rfl ⟨⟨_,rfl,.inl ⟨rfl,rfl⟩⟩,⟨_,rfl,.inl ⟨rfl,rfl⟩⟩,trivial⟩ ⟨rfl,rfl,rfl,rfl,rfl,rfl,rfl,rfl,rfl,rfl,trivial⟩ rfl rfl rfl rfl rfl rfl trivial ⟨⟨trivial,trivial,trivial,trivial,trivial,trivial,trivial,trivial,trivial,trivial,trivial,trivial,trivial,trivial,trivial,trivial,trivial,trivial,trivial,trivial,trivial⟩,(fun _ _ _ _=>trivial),(fun _ _ _ _=>trivial),(fun _ _ _ _=>trivial),(fun _ _ _ _=>trivial),trivial⟩ rfl rfl rfl rfl) rfl ?_
 refine ad aa 2 rfl ?_
 refine af ?_
 refine az ?_
 have hX:cw b (⟨idn,kind,1,aD,move,sum⟩:bh)=((⟨b.time,b.down,b.aq,b.due,b.ax,b.s0,b.s1,b.n0,n2,b.w0,(b.w1).drop 1,b.aX,b.aS,b.book⟩:Bk),(⟨0,0⟩:Answer)):=by
   unfold cw;dsimp only;rw [if_neg (by decide),if_pos rfl];unfold fS;rw [hx1];dsimp only;(try simp only [hr2]);(try unfold dy);(repeat' split)<;>first|rfl|omega|(exfalso;omega)|(simp_all;done)|(simp_all;omega)
 rw [hX] at hr;clear hX
 simp only [Prod.mk.injEq] at hr;obtain ⟨rfl,rfl⟩:=hr
 refine an aa [0,16,17,18,19,5] 5 rfl rfl rfl rfl rfl rfl ?_ ?_
 all_goals first|rfl|(simp [aA,aY,bg];done)|(simp [aA,aY,bg];omega)
theorem Af (x:Nat->Value) (hx:∀ i,(x i).oneCell'=true) (b:Bk) (d:bh) (ok:cu b) (hn:¬d.n=0/\¬d.n=1) (b2:Bk) (a2:Answer) (hr:cw b d=(b2,a2)):cJ Try.prog 67 [(.c (.p 0 0 0 0)),(.c (.q (cY d) 0))] [(0,(.box 98 (aY b 1 2 3 4 (.d (.v (x 17))) (.d (.v (x 19)))))),(1,(dN b.aq)),(2,(dD b.due)),(3,(dS b.ax)),(4,(cS b.aS))] [0] (.v (.g [cI a2.err,cI a2.ba])) [(0,(.box 98 (aY b2 1 2 3 4 (.d (.v (x 17))) (.d (.v (x 19)))))),(1,(dN b2.aq)),(2,(dD b2.due)),(3,(dS b2.ax)),(4,(cS b2.aS))]:=by
 refine cJ.mk 153 [(0,(aC (.p 0 0 0 0))),(1,(aC (.q (cY d) 0)))] 5 Try.func67 rfl rfl rfl rfl rfl rfl rfl rfl rfl ?_
 intro W0 F0 T0 pg
 obtain ⟨okt,okc,okd,oka,oky,okw0,okw1,okp,okv,okk0,okk1,okg,okl0,okl1,okp0,okp1,okn0,okn1,okq⟩:=id ok
 refine ae aa 1 rfl ?_
 refine ag ?_
 refine ag ?_
 rcases Bool.eq_false_or_eq_true (decide (¬d.n=0)) with hb1|hb1
 ·
  have hb1':=of_decide_eq_true hb1
  rcases Bool.eq_false_or_eq_true (decide (¬d.n=1)) with hb2|hb2
  ·
   have hb2':=of_decide_eq_true hb2
   refine aW [0,1,4] [5,0,1,2,3,4] mixed rfl rfl ?_
   refine aw (kn:=[(15,true),(21,true)]) aa 26 rfl ⟨hb1,hb2,trivial⟩ ?_
   refine bw [5,0,1,2,3,4] rfl rfl rfl rfl (by kernel_rfl) ?_
   refine af ?_
   refine aj rfl (fun _=>?_) (fun hno=>by cases hno)
   refine ae aa 2 rfl ?_
   refine az ?_
   refine ar ?_
   have hX:cw b d=(b,(⟨6,0⟩:Answer)):=by
     unfold cw;rw [if_neg hn.1,if_neg hn.2]
   rw [hX] at hr;clear hX
   simp only [Prod.mk.injEq] at hr;obtain ⟨rfl,rfl⟩:=hr
   refine an aa [0,1,2,3,4,5] 5 rfl rfl rfl rfl rfl rfl ?_ ?_
   all_goals first|rfl|(simp [aA,aY,bg];done)|(simp [aA,aY,bg];omega)
  have hb2':=of_decide_eq_false hb2
  (exfalso;simp_all;done)
 have hb1':=of_decide_eq_false hb1
 (exfalso;simp_all;done)

theorem vE (x:Nat->Value) (hx:∀ i,(x i).oneCell'=true) (b:Bk) (d:bh) (ok:cu b) (b2:Bk) (a2:Answer) (hr:cw b d=(b2,a2)):cJ Try.prog 67 [(.c (.p 0 0 0 0)),(.c (.q (cY d) 0))] [(0,(.box 98 (aY b 1 2 3 4 (.d (.v (x 17))) (.d (.v (x 19)))))),(1,(dN b.aq)),(2,(dD b.due)),(3,(dS b.ax)),(4,(cS b.aS))] [0] (.v (.g [cI a2.err,cI a2.ba])) [(0,(.box 98 (aY b2 1 2 3 4 (.d (.v (x 17))) (.d (.v (x 19)))))),(1,(dN b2.aq)),(2,(dD b2.due)),(3,(dS b2.ax)),(4,(cS b2.aS))]:=by
  obtain ⟨idn,kind,n,aD,move,sum⟩:=d
  by_cases h0:n=0
  ·subst h0;exact Ah x hx b idn kind aD move sum ok b2 a2 hr
  by_cases h1:n=1
  ·subst h1;exact Ag x hx b idn kind aD move sum ok b2 a2 hr
  ·exact Af x hx b _ ok ⟨h0,h1⟩ b2 a2 hr
theorem Db (x:Nat->Value) (hx:∀ i,(x i).oneCell'=true) (s0 s1:ca) (n0 n1:Int) (w0 w1:List cq) (d:bh) (l0:w0.length<=60) (l1:w1.length<=60) (m0:s0.kept.length<=40) (m1:s1.kept.length<=40) (v0 v1:List cq) (a2:Answer) (hr:eR s0 s1 n0 n1 w0 w1 d=(v0,v1,a2)):cJ Try.prog 66 [(.c (.p 0 0 0 0)),(.c (.q (cY d) 0))] [(0,(.box 98 (((((((((bg x).set 5 (cI s0.bz)).set 6 (cm s0.kept)).set 7 (cI s1.bz)).set 8 (cm s1.kept)).set 9 (cI n0)).set 10 (cI n1)).set 11 (cT w0)).set 12 (cT w1))))] [0] (.v (.g [cI a2.err,cI a2.ba])) [(0,(.box 98 (((((((((bg x).set 5 (cI s0.bz)).set 6 (cm s0.kept)).set 7 (cI s1.bz)).set 8 (cm s1.kept)).set 9 (cI n0)).set 10 (cI n1)).set 11 (cT v0)).set 12 (cT v1))))]:=by
  obtain ⟨idn,kind,n,aD,move,sum⟩:=d
  by_cases h0:n=0
  ·subst h0;exact BN x hx s0 s1 n0 n1 w0 w1 idn kind aD move sum l0 l1 m0 m1 v0 v1 a2 hr
  by_cases h1:n=1
  ·subst h1;exact BM x hx s0 s1 n0 n1 w0 w1 idn kind aD move sum l0 l1 m0 m1 v0 v1 a2 hr
  ·exact BL x hx s0 s1 n0 n1 w0 w1 _ l0 l1 m0 m1 ⟨h0,h1⟩ v0 v1 a2 hr

theorem EI (x:Nat->Value) (hx:∀ i,(x i).oneCell'=true) (b:Bk) (d:bh) (ok:cu b) (b2:Bk) (a2:Answer) (hr:fP b d=(b2,a2)):cJ Try.prog 62 [(.c (.p 0 0 0 0)),(.c (.q (cY d) 0))] [(0,(.box 98 (aY b 1 2 3 4 (.d (.v (x 17))) (.d (.v (x 19)))))),(1,(dN b.aq)),(2,(dD b.due)),(3,(dS b.ax)),(4,(cS b.aS))] [0] (.v (.g [cI a2.err,cI a2.ba])) [(0,(.box 98 (aY b2 1 2 3 4 (.d (.v (x 17))) (.d (.v (x 19)))))),(1,(dN b2.aq)),(2,(dD b2.due)),(3,(dS b2.ax)),(4,(cS b2.aS))]:=by
 refine cJ.mk 65 [(0,(aC (.p 0 0 0 0))),(1,(aC (.q (cY d) 0)))] 5 Try.func62 rfl rfl rfl rfl rfl rfl rfl rfl rfl ?_
 intro W0 F0 T0 pg
 obtain ⟨okt,okc,okd,oka,oky,okw0,okw1,okp,okv,okk0,okk1,okg,okl0,okl1,okp0,okp1,okn0,okn1,okq⟩:=id ok
 refine ae aa 1 rfl ?_
 refine ag ?_
 refine ag ?_
 rcases Bool.eq_false_or_eq_true (decide (d.n < 0)) with hb1|hb1
 ·
  have hb1':=of_decide_eq_true hb1
  refine aW [0,1,4] [5,0,1,2,3,4] mixed rfl rfl ?_
  refine aw (kn:=[(10,true)]) aa 18 rfl ⟨hb1,trivial⟩ ?_
  refine bw [5,0,1,2,3,4] rfl rfl rfl rfl (by kernel_rfl) ?_
  refine af ?_
  refine aj rfl (fun _=>?_) (fun hno=>by cases hno)
  refine ae aa 2 rfl ?_
  refine az ?_
  refine ar ?_
  have hX:fP b d=(b,(⟨6,0⟩:Answer)):=by
    unfold fP;(repeat' split)<;>first|rfl|omega|(exfalso;omega)|(simp_all;done)|(simp_all;omega)
  rw [hX] at hr;clear hX
  simp only [Prod.mk.injEq] at hr;obtain ⟨rfl,rfl⟩:=hr
  refine an aa [0,1,2,3,4,5] 5 rfl rfl rfl rfl rfl rfl ?_ ?_
  all_goals first|rfl|(simp [aA,aY,bg];done)|(simp [aA,aY,bg];omega)
 have hb1':=of_decide_eq_false hb1
 refine aW [0,1,4] [5,0,1,2,3,4] mixed rfl rfl ?_
 refine aw (kn:=[(10,false)]) aa 15 rfl ⟨hb1,trivial⟩ ?_
 refine aM (n':=6) [20,11] [1] rfl rfl (.inl ⟨(ah.yes rfl rfl rfl),aF.cast (du rfl rfl rfl rfl rfl Try.underlying29) rfl⟩) rfl ?_
 refine aw (kn:=[]) aa 2 rfl trivial ?_
 refine bw [5,0,1,2,3,4] rfl rfl rfl rfl (by kernel_rfl) ?_
 refine af ?_
 refine aj rfl (fun hc3=>?_) (fun hc3=>?_)
 ·
  have hc3':=of_decide_eq_true hc3
  refine ae aa 2 rfl ?_
  refine az ?_
  refine ar ?_
  have hX:fP b d=(b,(⟨6,0⟩:Answer)):=by
    unfold fP;(repeat' split)<;>first|rfl|omega|(exfalso;omega)|(simp_all;done)|(simp_all;omega)
  rw [hX] at hr;clear hX
  simp only [Prod.mk.injEq] at hr;obtain ⟨rfl,rfl⟩:=hr
  refine an aa [0,1,2,3,4,5] 5 rfl rfl rfl rfl rfl rfl ?_ ?_
  all_goals first|rfl|(simp [aA,aY,bg];done)|(simp [aA,aY,bg];omega)
 have hc3':=of_decide_eq_false hc3
 refine aP ?_
 refine ag ?_
 refine ch 36 ((decide (d.sum < 1))||(decide (d.sum > 1000000))) ?_ ?_
 ·
  refine au ?_
  refine ad aa 6 rfl ?_
  refine bE (t:=30) rfl (fun hb4=>?_) (fun hb4=>?_)
  ·
   have hb4':=of_decide_eq_true hb4
   refine ad aa 6 rfl ?_
   refine af ?_
   exact aE.bB 13 rfl rfl (by first|(simp [hb4];done)|(simp_all;done)|(exfalso;simp_all;done)|(simp_all;omega)) rfl
  have hb4':=of_decide_eq_false hb4
  refine ad aa 6 rfl ?_
  refine af ?_
  exact aE.bB 13 rfl rfl (by first|(simp [hb4];done)|(simp_all;done)|(exfalso;simp_all;done)|(simp_all;omega)) rfl
 refine aj rfl (fun hc5=>?_) (fun hc5=>?_)
 ·
  have hc5':=hc5;try simp only [bq,bM] at hc5'
  refine ae aa 2 rfl ?_
  refine az ?_
  refine ar ?_
  have hX:fP b d=(b,(⟨3,0⟩:Answer)):=by
    unfold fP;(repeat' split)<;>first|rfl|omega|(exfalso;omega)|(simp_all;done)|(simp_all;omega)
  rw [hX] at hr;clear hX
  simp only [Prod.mk.injEq] at hr;obtain ⟨rfl,rfl⟩:=hr
  refine an aa [0,1,2,3,4,5] 5 rfl rfl rfl rfl rfl rfl ?_ ?_
  all_goals first|rfl|(simp [aA,aY,bg];done)|(simp [aA,aY,bg];omega)
 have hc5':=hc5;try simp only [bq,bM] at hc5'
 refine aP ?_
 refine aH aa 1 rfl ?_
 refine aR 15 [0,6,7,8,9,10,11,12,13,14,5] (cK id (bb [0,6,7,8,9,10,11,12,13,14]) (ki (x 17) (x 19) b (by first|omega|(simp;done)|(simp;omega)) (by first|omega|(simp;done)|(simp;omega)) (by first|omega|(simp;done)|(simp;omega)) (by first|omega|(simp;done)|(simp;omega))) qp rfl rfl ⟨⟨_,rfl,.inl ⟨rfl,rfl⟩⟩,trivial⟩ ⟨rfl,rfl,rfl,rfl,rfl,trivial⟩ rfl rfl rfl rfl rfl rfl trivial ⟨⟨trivial,trivial,trivial,trivial,trivial,trivial,trivial,trivial,trivial,trivial,trivial,trivial,trivial,trivial,trivial,trivial,trivial,trivial,trivial,trivial,trivial⟩,⟨trivial,trivial,trivial,trivial,trivial,trivial,trivial,trivial,trivial,trivial,trivial,trivial,trivial,trivial,trivial,trivial,trivial,trivial,trivial,trivial,trivial⟩,(fun _ _ _ _=>trivial),(fun _ _ _ _=>trivial),(fun _ _ _ _=>trivial),(fun _ _ _ _=>trivial),(fun _ _ _ _=>trivial),(fun _ _ _ _=>trivial),(fun _ _ _ _=>trivial),(fun _ _ _ _=>trivial),trivial⟩ rfl rfl rfl rfl) rfl ?_
 refine ad aa 1 rfl ?_
 refine af ?_
 refine ag ?_
 obtain ⟨l20,e20,hr0⟩:∃ (l20:List bI) (e20:Int),cH b.aq 0 d.n 0 d.sum=(l20,e20):=⟨_,_,rfl⟩
 refine dh [0,1,4,5] [0,6,7,8,9,10,11,12,13,14,5] mixed rfl rfl ?_
 refine bS (kn:=[]) aa 9 rfl trivial ?_
 refine bY (n':=16) [40,44,48] [11,6] rfl rfl (.inl ⟨(ah.plain rfl),aF.cast (cr (bb [6,11]) (bb [6,15]) (ms:=((dw.set 2 (some (.s 1 0 6 b.aq.length))).set 19 (some (cI 0)))) (ms':=((dw.set 2 (some (.s 1 0 6 l20.length))).set 19 (some (cI e20)))) (fun x hx=>iO x hx b.aq 0 d.n 0 d.sum (by first|omega|(simp;done)|(simp;omega)) l20 e20 hr0) nB rfl rfl ⟨⟨_,rfl,.inl ⟨rfl,rfl⟩⟩,⟨_,rfl,.inr (.c (.d _))⟩,⟨_,rfl,.inr (.c (.d _))⟩,⟨_,rfl,.inr (.c (.d _))⟩,trivial⟩ rfl rfl rfl rfl rfl rfl rfl ⟨rfl,trivial⟩ rfl rfl rfl rfl rfl rfl rfl rfl rfl rfl rfl rfl rfl) rfl⟩) rfl ?_
 refine dO [0,1,4,5] [15,6,0,7,8,9,10,12,13,14,5] rfl rfl (by kernel_rfl) ?_
 refine then_ok ?_
 refine ag ?_
 obtain ⟨l21,e21,hr1⟩:∃ (l21:List Entry) (e21:Int),dX b.book e20 0 (10+d.n) d.sum=(l21,e21):=⟨_,_,rfl⟩
 refine dh [0,1,4,5] [15,6,0,7,8,9,10,12,13,14,5] mixed rfl rfl ?_
 refine bS (kn:=[]) aa 5 rfl trivial ?_
 refine bY (n':=16) [54] [] rfl rfl (.inl ⟨(ah.plain rfl),aF.cast (aJ rfl rfl rfl (aL (by first|omega|(simp;done)|(simp;omega)))) rfl⟩) rfl ?_
 refine bS (kn:=[]) aa 4 rfl trivial ?_
 refine bY (n':=16) [50,55,59] [6] rfl rfl (.inl ⟨(ah.plain rfl),aF.cast (cr (bb [6]) (bb [6]) (ms:=((dw.set 18 (some (da b.book))).set 19 (some (cI e20)))) (ms':=((dw.set 18 (some (da l21))).set 19 (some (cI e21)))) (fun x hx=>jc x hx b.book e20 0 (10+d.n) d.sum l21 e21 hr1) mw rfl rfl ⟨⟨_,rfl,.inl ⟨rfl,rfl⟩⟩,⟨_,rfl,.inr (.c (.d _))⟩,⟨_,rfl,.inr (.c (.d _))⟩,⟨_,rfl,.inr (.c (.d _))⟩,trivial⟩ rfl rfl rfl rfl rfl rfl rfl trivial rfl rfl rfl rfl rfl rfl rfl rfl rfl rfl rfl rfl rfl) rfl⟩) rfl ?_
 refine dO [0,4,5] [6,15,0,7,8,9,10,12,13,14,5] rfl rfl (by kernel_rfl) ?_
 refine then_ok ?_
 rcases (show e21=0\/¬e21=0 from by omega) with hs6|hs6
 ·
  refine aH aa 2 rfl ?_
  refine aR 20 [0,16,17,18,19,5] (cK (bb [0,6,7,8,9,10,15,12,13,14]) (bb [0,16,17,18,19]) (fj (x 17) (x 19) b (⟨b.time,b.down,l20,b.due,b.ax,b.s0,b.s1,b.n0,b.n1,b.w0,b.w1,b.aX,b.aS,l21⟩:Bk) e21 (by first|assumption|omega)) fI rfl rfl ⟨⟨_,rfl,.inl ⟨rfl,rfl⟩⟩,⟨_,rfl,.inl ⟨rfl,rfl⟩⟩,trivial⟩ ⟨rfl,rfl,rfl,rfl,rfl,rfl,rfl,rfl,rfl,rfl,trivial⟩ rfl rfl rfl rfl rfl rfl trivial ⟨⟨trivial,trivial,trivial,trivial,trivial,trivial,trivial,trivial,trivial,trivial,trivial,trivial,trivial,trivial,trivial,trivial,trivial,trivial,trivial,trivial,trivial⟩,(fun _ _ _ _=>trivial),(fun _ _ _ _=>trivial),(fun _ _ _ _=>trivial),(fun _ _ _ _=>trivial),trivial⟩ rfl rfl rfl rfl) rfl ?_
  refine ad aa 2 rfl ?_
  refine af ?_
  refine az ?_
  have hX:fP b d=((⟨b.time,b.down,l20,b.due,b.ax,b.s0,b.s1,b.n0,b.n1,b.w0,b.w1,b.aX,b.aS,l21⟩:Bk),(⟨e21,0⟩:Answer)):=by
    unfold fP;simp only [dy,hr0,hr1];(repeat' split)<;>first|rfl|omega|(exfalso;omega)|(simp_all;done)|(simp_all;omega)
  rw [hX] at hr;clear hX
  simp only [Prod.mk.injEq] at hr;obtain ⟨rfl,rfl⟩:=hr
  refine an aa [0,16,17,18,19,5] 5 rfl rfl rfl rfl rfl rfl ?_ ?_
  all_goals first|rfl|(simp [aA,aY,bg];done)|(simp [aA,aY,bg];omega)
 refine aH aa 2 rfl ?_
 refine aR 20 [0,16,17,18,19,5] (cK (bb [0,6,7,8,9,10,15,12,13,14]) (bb [0,16,17,18,19]) (fX (x 17) (x 19) b (⟨b.time,b.down,l20,b.due,b.ax,b.s0,b.s1,b.n0,b.n1,b.w0,b.w1,b.aX,b.aS,l21⟩:Bk) e21 (by first|assumption|omega)) fI rfl rfl ⟨⟨_,rfl,.inl ⟨rfl,rfl⟩⟩,⟨_,rfl,.inl ⟨rfl,rfl⟩⟩,trivial⟩ ⟨rfl,rfl,rfl,rfl,rfl,rfl,rfl,rfl,rfl,rfl,trivial⟩ rfl rfl rfl rfl rfl rfl trivial ⟨⟨trivial,trivial,trivial,trivial,trivial,trivial,trivial,trivial,trivial,trivial,trivial,trivial,trivial,trivial,trivial,trivial,trivial,trivial,trivial,trivial,trivial⟩,(fun _ _ _ _=>trivial),(fun _ _ _ _=>trivial),(fun _ _ _ _=>trivial),(fun _ _ _ _=>trivial),trivial⟩ rfl rfl rfl rfl) rfl ?_
 refine ad aa 2 rfl ?_
 refine af ?_
 refine az ?_
 have hX:fP b d=(b,(⟨e21,0⟩:Answer)):=by
   unfold fP;simp only [dy,hr0,hr1];(repeat' split)<;>first|rfl|omega|(exfalso;omega)|(simp_all;done)|(simp_all;omega)
 rw [hX] at hr;clear hX
 simp only [Prod.mk.injEq] at hr;obtain ⟨rfl,rfl⟩:=hr
 refine an aa [0,16,17,18,19,5] 5 rfl rfl rfl rfl rfl rfl ?_ ?_
 all_goals first|rfl|(simp [aA,aY,bg];done)|(simp [aA,aY,bg];omega)
theorem FQ (x:Nat->Value) (hx:∀ i,(x i).oneCell'=true) (b:Bk) (d:bh) (ok:cu b) (b2:Bk) (a2:Answer) (hr:gZ b d=(b2,a2)):cJ Try.prog 70 [(.c (.p 0 0 0 0)),(.c (.q (cY d) 0))] [(0,(.box 98 (aY b 1 2 3 4 (.d (.v (x 17))) (.d (.v (x 19)))))),(1,(dN b.aq)),(2,(dD b.due)),(3,(dS b.ax)),(4,(cS b.aS))] [0] (.v (.g [cI a2.err,cI a2.ba])) [(0,(.box 98 (aY b2 1 2 3 4 (.d (.v (x 17))) (.d (.v (x 19)))))),(1,(dN b2.aq)),(2,(dD b2.due)),(3,(dS b2.ax)),(4,(cS b2.aS))]:=by
 refine cJ.mk 64 [(0,(aC (.p 0 0 0 0))),(1,(aC (.q (cY d) 0)))] 5 Try.func70 rfl rfl rfl rfl rfl rfl rfl rfl rfl ?_
 intro W0 F0 T0 pg
 obtain ⟨okt,okc,okd,oka,oky,okw0,okw1,okp,okv,okk0,okk1,okg,okl0,okl1,okp0,okp1,okn0,okn1,okq⟩:=id ok
 refine ae aa 1 rfl ?_
 refine ag ?_
 refine ag ?_
 rcases Bool.eq_false_or_eq_true (decide (d.n < 0)) with hb1|hb1
 ·
  have hb1':=of_decide_eq_true hb1
  refine aW [0,1,4] [5,0,1,2,3,4] mixed rfl rfl ?_
  refine aw (kn:=[(11,true)]) aa 18 rfl ⟨hb1,trivial⟩ ?_
  refine bw [5,0,1,2,3,4] rfl rfl rfl rfl (by kernel_rfl) ?_
  refine af ?_
  refine aj rfl (fun _=>?_) (fun hno=>by cases hno)
  refine ae aa 2 rfl ?_
  refine az ?_
  refine ar ?_
  have hX:gZ b d=(b,(⟨6,0⟩:Answer)):=by
    unfold gZ;(repeat' split)<;>first|rfl|omega|(exfalso;omega)|(simp_all;done)|(simp_all;omega)
  rw [hX] at hr;clear hX
  simp only [Prod.mk.injEq] at hr;obtain ⟨rfl,rfl⟩:=hr
  refine an aa [0,1,2,3,4,5] 5 rfl rfl rfl rfl rfl rfl ?_ ?_
  all_goals first|rfl|(simp [aA,aY,bg];done)|(simp [aA,aY,bg];omega)
 have hb1':=of_decide_eq_false hb1
 refine aW [0,1,4] [5,0,1,2,3,4] mixed rfl rfl ?_
 refine aw (kn:=[(11,false)]) aa 15 rfl ⟨hb1,trivial⟩ ?_
 refine aM (n':=6) [21,12] [2] rfl rfl (.inl ⟨(ah.yes rfl rfl rfl),aF.cast (du rfl rfl rfl rfl rfl Try.underlying30) rfl⟩) rfl ?_
 refine aw (kn:=[]) aa 2 rfl trivial ?_
 refine bw [5,0,1,2,3,4] rfl rfl rfl rfl (by kernel_rfl) ?_
 refine af ?_
 refine aj rfl (fun hc3=>?_) (fun hc3=>?_)
 ·
  have hc3':=of_decide_eq_true hc3
  refine ae aa 2 rfl ?_
  refine az ?_
  refine ar ?_
  have hX:gZ b d=(b,(⟨6,0⟩:Answer)):=by
    unfold gZ;(repeat' split)<;>first|rfl|omega|(exfalso;omega)|(simp_all;done)|(simp_all;omega)
  rw [hX] at hr;clear hX
  simp only [Prod.mk.injEq] at hr;obtain ⟨rfl,rfl⟩:=hr
  refine an aa [0,1,2,3,4,5] 5 rfl rfl rfl rfl rfl rfl ?_ ?_
  all_goals first|rfl|(simp [aA,aY,bg];done)|(simp [aA,aY,bg];omega)
 have hc3':=of_decide_eq_false hc3
 refine aP ?_
 refine ag ?_
 obtain ⟨x1,hx1⟩:=cb (xs:=b.due) (i:=Int.toNat (d.n)) (by first|omega|(simp;done)|(simp;omega))
 refine aW [0,1,4] [5,0,1,2,3,4] mixed rfl rfl ?_
 refine aw (kn:=[]) aa 9 rfl trivial ?_
 refine aM (n':=6) [30,34] [2] rfl rfl (.inl ⟨(ah.plain rfl),aF.cast (bx (i:=Int.toNat (d.n)) rfl rfl rfl Try.underlying30 fE (by first|omega|(simp;done)|(simp;omega)) (by first|omega|(simp;done)|(simp;omega))) rfl⟩) rfl ?_
 refine aM (n':=6) [35] [2] rfl rfl (.inl ⟨(ah.plain rfl),aF.cast (eI rfl rfl rfl Try.underlying3 rfl (bf hx1) rfl) rfl⟩) rfl ?_
 refine aw (kn:=[]) aa 1 rfl trivial ?_
 refine bw [5,0,1,2,3,4] rfl rfl rfl rfl (by kernel_rfl) ?_
 refine af ?_
 refine ag ?_
 refine ae aa 2 rfl ?_
 refine aj rfl (fun hc4=>?_) (fun hc4=>?_)
 ·
  have hc4':=of_decide_eq_true hc4
  refine ae aa 2 rfl ?_
  refine az ?_
  refine ar ?_
  have hX:gZ b d=(b,(⟨10,0⟩:Answer)):=by
    unfold gZ;simp only [dy,List.getD_eq_getElem?_getD,hx1,Option.getD_some,];(repeat' split)<;>first|rfl|omega|(exfalso;omega)|(simp_all;done)|(simp_all;omega)
  rw [hX] at hr;clear hX
  simp only [Prod.mk.injEq] at hr;obtain ⟨rfl,rfl⟩:=hr
  refine an aa [0,1,2,3,4,5] 5 rfl rfl rfl rfl rfl rfl ?_ ?_
  all_goals first|rfl|(simp [aA,aY,bg];done)|(simp [aA,aY,bg];omega)
 have hc4':=of_decide_eq_false hc4
 refine aP ?_
 refine aH aa 1 rfl ?_
 refine aR 15 [0,6,7,8,9,10,11,12,13,14,5] (cK id (bb [0,6,7,8,9,10,11,12,13,14]) (ki (x 17) (x 19) b (by first|omega|(simp;done)|(simp;omega)) (by first|omega|(simp;done)|(simp;omega)) (by first|omega|(simp;done)|(simp;omega)) (by first|omega|(simp;done)|(simp;omega))) qp rfl rfl ⟨⟨_,rfl,.inl ⟨rfl,rfl⟩⟩,trivial⟩ ⟨rfl,rfl,rfl,rfl,rfl,trivial⟩ rfl rfl rfl rfl rfl rfl trivial ⟨⟨trivial,trivial,trivial,trivial,trivial,trivial,trivial,trivial,trivial,trivial,trivial,trivial,trivial,trivial,trivial,trivial,trivial,trivial,trivial,trivial,trivial⟩,⟨trivial,trivial,trivial,trivial,trivial,trivial,trivial,trivial,trivial,trivial,trivial,trivial,trivial,trivial,trivial,trivial,trivial,trivial,trivial,trivial,trivial⟩,(fun _ _ _ _=>trivial),(fun _ _ _ _=>trivial),(fun _ _ _ _=>trivial),(fun _ _ _ _=>trivial),(fun _ _ _ _=>trivial),(fun _ _ _ _=>trivial),(fun _ _ _ _=>trivial),(fun _ _ _ _=>trivial),trivial⟩ rfl rfl rfl rfl) rfl ?_
 refine ad aa 1 rfl ?_
 refine af ?_
 refine ag ?_
 refine aW [0,1,4,5,6] [0,6,7,8,9,10,11,12,13,14,5] mixed rfl rfl ?_
 refine aw (kn:=[]) aa 9 rfl trivial ?_
 refine aM (n':=15) [46,50] [12] rfl rfl (.inl ⟨(ah.plain rfl),aF.cast (bx (i:=Int.toNat (d.n)) rfl rfl rfl Try.underlying30 fE (by first|omega|(simp;done)|(simp;omega)) (by first|omega|(simp;done)|(simp;omega))) rfl⟩) rfl ?_
 refine bw [0,6,7,8,9,10,11,12,13,14,5] rfl rfl rfl rfl (by kernel_rfl) ?_
 refine gh [0,6,7,8,9,10,11,12,13,14,5] (dL (ds:=[(dI 0)]) rfl rfl rfl rfl rfl fE rfl (Nat.le_of_ble_eq_true rfl) (bf hx1) rfl (eL (x':=0) rfl)) rfl ?_
 refine af ?_
 refine fA (k:=6) (q:=3) (c':=(.s 12 0 1 (((b.due).set (Int.toNat (d.n)) 0).length))) rfl rfl (by first|rfl|(simp;done)|(congr 1;omega)) rfl ?_
 refine aH aa 5 rfl ?_
 refine ay (aJ rfl rfl rfl (aL (by first|omega|(simp;done)|(simp;omega)))) rfl ?_
 refine ad aa 1 rfl ?_
 obtain ⟨l20,e20,hr0⟩:∃ (l20:List Entry) (e20:Int),dX b.book 0 (50+d.n) 0 x1=(l20,e20):=⟨_,_,rfl⟩
 refine aR 15 [6,0,7,8,9,10,11,12,13,14,5] (cr (bb [6]) (bb [6]) (ms:=((dw.set 18 (some (da b.book))).set 19 (some (cI 0)))) (ms':=((dw.set 18 (some (da l20))).set 19 (some (cI e20)))) (fun x hx=>jc x hx b.book 0 (50+d.n) 0 x1 l20 e20 hr0) mw rfl rfl ⟨⟨_,rfl,.inl ⟨rfl,rfl⟩⟩,⟨_,rfl,.inr (.c (.d _))⟩,⟨_,rfl,.inr (.c (.d _))⟩,⟨_,rfl,.inr (.c (.d _))⟩,trivial⟩ rfl rfl rfl rfl rfl rfl rfl trivial rfl rfl rfl rfl rfl rfl rfl rfl rfl rfl rfl rfl rfl) rfl ?_
 refine af ?_
 rcases (show e20=0\/¬e20=0 from by omega) with hs5|hs5
 ·
  refine aH aa 2 rfl ?_
  refine aR 19 [0,15,16,17,18,5] (cK (bb [0,6,7,8,9,10,11,12,13,14]) (bb [0,15,16,17,18]) (fj (x 17) (x 19) b (⟨b.time,b.down,b.aq,(b.due).set (Int.toNat (d.n)) 0,b.ax,b.s0,b.s1,b.n0,b.n1,b.w0,b.w1,b.aX,b.aS,l20⟩:Bk) e20 (by first|assumption|omega)) fI rfl rfl ⟨⟨_,rfl,.inl ⟨rfl,rfl⟩⟩,⟨_,rfl,.inl ⟨rfl,rfl⟩⟩,trivial⟩ ⟨rfl,rfl,rfl,rfl,rfl,rfl,rfl,rfl,rfl,rfl,trivial⟩ rfl rfl rfl rfl rfl rfl trivial ⟨⟨trivial,trivial,trivial,trivial,trivial,trivial,trivial,trivial,trivial,trivial,trivial,trivial,trivial,trivial,trivial,trivial,trivial,trivial,trivial,trivial,trivial⟩,(fun _ _ _ _=>trivial),(fun _ _ _ _=>trivial),(fun _ _ _ _=>trivial),(fun _ _ _ _=>trivial),trivial⟩ rfl rfl rfl rfl) rfl ?_
  refine ad aa 2 rfl ?_
  refine af ?_
  refine az ?_
  have hX:gZ b d=((⟨b.time,b.down,b.aq,(b.due).set (Int.toNat (d.n)) 0,b.ax,b.s0,b.s1,b.n0,b.n1,b.w0,b.w1,b.aX,b.aS,l20⟩:Bk),(⟨e20,0⟩:Answer)):=by
    unfold gZ;simp only [dy,List.getD_eq_getElem?_getD,hx1,Option.getD_some,hr0];(repeat' split)<;>first|rfl|omega|(exfalso;omega)|(simp_all;done)|(simp_all;omega)
  rw [hX] at hr;clear hX
  simp only [Prod.mk.injEq] at hr;obtain ⟨rfl,rfl⟩:=hr
  refine an aa [0,15,16,17,18,5] 5 rfl rfl rfl rfl rfl rfl ?_ ?_
  all_goals first|rfl|(simp [aA,aY,bg];done)|(simp [aA,aY,bg];omega)
 refine aH aa 2 rfl ?_
 refine aR 19 [0,15,16,17,18,5] (cK (bb [0,6,7,8,9,10,11,12,13,14]) (bb [0,15,16,17,18]) (fX (x 17) (x 19) b (⟨b.time,b.down,b.aq,(b.due).set (Int.toNat (d.n)) 0,b.ax,b.s0,b.s1,b.n0,b.n1,b.w0,b.w1,b.aX,b.aS,l20⟩:Bk) e20 (by first|assumption|omega)) fI rfl rfl ⟨⟨_,rfl,.inl ⟨rfl,rfl⟩⟩,⟨_,rfl,.inl ⟨rfl,rfl⟩⟩,trivial⟩ ⟨rfl,rfl,rfl,rfl,rfl,rfl,rfl,rfl,rfl,rfl,trivial⟩ rfl rfl rfl rfl rfl rfl trivial ⟨⟨trivial,trivial,trivial,trivial,trivial,trivial,trivial,trivial,trivial,trivial,trivial,trivial,trivial,trivial,trivial,trivial,trivial,trivial,trivial,trivial,trivial⟩,(fun _ _ _ _=>trivial),(fun _ _ _ _=>trivial),(fun _ _ _ _=>trivial),(fun _ _ _ _=>trivial),trivial⟩ rfl rfl rfl rfl) rfl ?_
 refine ad aa 2 rfl ?_
 refine af ?_
 refine az ?_
 have hX:gZ b d=(b,(⟨e20,0⟩:Answer)):=by
   unfold gZ;simp only [dy,List.getD_eq_getElem?_getD,hx1,Option.getD_some,hr0];(repeat' split)<;>first|rfl|omega|(exfalso;omega)|(simp_all;done)|(simp_all;omega)
 rw [hX] at hr;clear hX
 simp only [Prod.mk.injEq] at hr;obtain ⟨rfl,rfl⟩:=hr
 refine an aa [0,15,16,17,18,5] 5 rfl rfl rfl rfl rfl rfl ?_ ?_
 all_goals first|rfl|(simp [aA,aY,bg];done)|(simp [aA,aY,bg];omega)

theorem Ac (x:Nat->Value) (hx:∀ i,(x i).oneCell'=true) (b:Bk) (ok:cu b) (b2:Bk) (hr:gV b=b2):cJ Try.prog 84 [(.c (.p 0 0 0 0))] [(0,(.box 98 (aY b 1 2 3 4 (.d (.v (x 17))) (.d (.v (x 19)))))),(1,(dN b.aq)),(2,(dD b.due)),(3,(dS b.ax)),(4,(cS b.aS))] [0] (.t []) [(0,(.box 98 (aY b2 1 2 3 4 (.d (.v (x 17))) (.d (.v (x 19)))))),(1,(dN b2.aq)),(2,(dD b2.due)),(3,(dS b2.ax)),(4,(cS b2.aS))]:=by
 refine cJ.mk 47 [(0,(aC (.p 0 0 0 0)))] 5 Try.func84 rfl rfl rfl rfl rfl rfl rfl rfl rfl ?_
 intro W0 F0 T0 pg
 obtain ⟨okt,okc,okd,oka,oky,okw0,okw1,okp,okv,okk0,okk1,okg,okl0,okl1,okp0,okp1,okn0,okn1,okq⟩:=id ok
 refine aH aa 1 rfl ?_
 refine aR 14 [0,5,6,7,8,9,10,11,12,13] (cK id (bb [0,5,6,7,8,9,10,11,12,13]) (ki (x 17) (x 19) b (by first|omega|(simp;done)|(simp;omega)) (by first|omega|(simp;done)|(simp;omega)) (by first|omega|(simp;done)|(simp;omega)) (by first|omega|(simp;done)|(simp;omega))) qp rfl rfl ⟨⟨_,rfl,.inl ⟨rfl,rfl⟩⟩,trivial⟩ ⟨rfl,rfl,rfl,rfl,rfl,trivial⟩ rfl rfl rfl rfl rfl rfl trivial ⟨⟨trivial,trivial,trivial,trivial,trivial,trivial,trivial,trivial,trivial,trivial,trivial,trivial,trivial,trivial,trivial,trivial,trivial,trivial,trivial,trivial,trivial⟩,⟨trivial,trivial,trivial,trivial,trivial,trivial,trivial,trivial,trivial,trivial,trivial,trivial,trivial,trivial,trivial,trivial,trivial,trivial,trivial,trivial,trivial⟩,(fun _ _ _ _=>trivial),(fun _ _ _ _=>trivial),(fun _ _ _ _=>trivial),(fun _ _ _ _=>trivial),(fun _ _ _ _=>trivial),(fun _ _ _ _=>trivial),(fun _ _ _ _=>trivial),(fun _ _ _ _=>trivial),trivial⟩ rfl rfl rfl rfl) rfl ?_
 refine ad aa 1 rfl ?_
 refine af ?_
 refine ag ?_
 refine aH aa 5 rfl ?_
 refine ay (du rfl rfl rfl rfl rfl Try.underlying31) rfl ?_
 refine ad aa 1 rfl ?_
 refine af ?_
 refine aU ?_
 refine cg (β:=Nat×List bI×List bH×Int) (fun (p:Nat×List bI×List bH×Int)=>match p with|(q,cs,xs,e)=>⟨[(0,(aC (.p 0 0 0 0))),(2,(aC (.p 5 0 0 0))),(12,(aC (.s 12 0 8 xs.length))),(13,(aI (↑b.ax.length:Int))),(14,(aI (↑q:Int)))],[(0,(.box 98 (aY b 6 7 8 9 (.d (.v (x 17))) (.d (.v (x 19)))))),(5,(.box 147 (((aY b 10 11 12 13 (.d (.v (x 17))) (cI e)).set 2 (.s 10 0 6 cs.length)).set 4 (.s 12 0 8 xs.length)))),(6,(dN b.aq)),(7,(dD b.due)),(8,(dS b.ax)),(9,(cS b.aS)),(10,(dN cs)),(11,(dD b.due)),(12,(dS xs)),(13,(cS b.aS))],14⟩) (fun (p:Nat×List bI×List bH×Int)=>match p with|(q,cs,xs,e)=>q<=b.ax.length/\fK b.time b.ax 0 b.aq b.ax 0=fK b.time (b.ax.drop q) q cs xs e/\cs.length=b.aq.length/\xs.length=b.ax.length/\(∀ i,q<=i->xs[i]?=b.ax[i]?)) (fun (p:Nat×List bI×List bH×Int)=>match p with|(q,cs,xs,e)=>b.ax.length - q) (0,b.aq,b.ax,0) ?_ ?_ ?_
 ·exact ⟨by omega,rfl,rfl,rfl,fun _ _=>rfl⟩
 ·exact aE.bR id (by refine ⟨?_,?_,?_,?_,?_,trivial⟩<;>first|rfl|(simp only [bc];done)|(congr 3;omega)|(congr 4;omega)|(simp only [bd];rfl)) (by refine ⟨?_,?_,?_,?_,?_,?_,?_,?_,?_,?_,trivial⟩<;>first|rfl|(simp only [bc];done)|(congr 3;omega)|(congr 4;omega)|(simp only [bd];rfl)) rfl
 rintro ⟨q,cs,xs,e⟩ ⟨hi0_0,hi0_1,hi0_2,hi0_3,hi0_4⟩
 refine ae aa 1 rfl ?_
 refine ag ?_
 refine aj rfl (fun hc1=>?_) (fun hc1=>?_)
 ·
  have hc1':=of_decide_eq_true hc1
  refine aP ?_
  refine ag ?_
  refine aU ?_
  refine aH aa 1 rfl ?_
  refine ay (bx (i:=q) rfl rfl rfl Try.underlying31 kM (by first|omega|(simp;done)|(simp;omega)) (by first|omega|(simp;done)|(simp;omega))) rfl ?_
  obtain ⟨x1,hx1⟩:=cb (xs:=xs) (i:=q) (by first|omega|(simp;done)|(simp;omega))
  have hx1w:=okp x1 (List.mem_of_getElem? (show b.ax[q]?=some x1 by rw [<-hi0_4 q (by omega)];exact hx1))
  have hx1A:=hx1w.2
  replace hx1w:=hx1w.1
  refine ay (dg rfl rfl rfl Try.underlying67 rfl kM (bf hx1) rfl) rfl ?_
  refine ad aa 3 rfl ?_
  refine af ?_
  refine ag ?_
  obtain ⟨b0,hr0⟩:∃ (b0:bH),eh x1 b.time=b0:=⟨_,rfl⟩
  have hlw:bK b0=0:=by rw [<-hr0];exact xc hx1w
  refine aW [0,2,12,13,14,4,3] [14,0,5,6,7,8,9,10,11,12,13] mixed rfl rfl ?_
  refine aw (kn:=[]) aa 6 rfl trivial ?_
  refine aM (n':=15) [19,24] [] rfl rfl (.inl ⟨(ah.plain rfl),aF.cast (bX 15 (wv x1 b.time b0 hr0) FE rfl rfl ⟨⟨_,rfl,.g ⟨.d _,.d _,.d _,.d _,.d _,.d _,.d _,.d _,trivial⟩⟩,⟨_,rfl,.c (.d _)⟩,trivial⟩ ⟨trivial,trivial,trivial,trivial,trivial,trivial,trivial,trivial,trivial⟩ trivial rfl rfl rfl rfl) rfl⟩) rfl ?_
  refine aw (n':=16) (kn:=[]) aa 1 rfl trivial ?_
  refine bw [15,14,0,5,6,7,8,9,10,11,12,13] rfl rfl rfl rfl (by kernel_rfl) ?_
  refine ad aa 1 rfl ?_
  refine af ?_
  refine ag ?_
  obtain ⟨e1,hr1⟩:∃ (e1:Int),bP b0=e1:=⟨_,rfl⟩
  have hhb1:=ox (show bK b0=0 by assumption)
  rw [hr1] at hhb1
  obtain ⟨e2,hr2⟩:∃ (e2:Int),bP x1=e2:=⟨_,rfl⟩
  have hhb2:=ox (show bK x1=0 by assumption)
  rw [hr2] at hhb2
  obtain ⟨l23,e23,hr3⟩:∃ (l23:List bI) (e23:Int),cH cs e x1.aO (e1 - e2) 0=(l23,e23):=⟨_,_,rfl⟩
  have hsl3:l23.length=cs.length:=by have h:=fg cs e x1.aO (e1 - e2) 0;rw [hr3] at h;exact h
  refine dh [0,2,12,13,14,4,3,5] [15,14,0,5,6,7,8,9,10,11,12,13] mixed rfl rfl ?_
  refine bS (kn:=[]) aa 4 rfl trivial ?_
  refine bY (n':=16) [29] [] rfl rfl (.inl ⟨(ah.plain rfl),aF.cast (bX 16 (kr b0 (by first|assumption|omega|rfl|decide) e1 hr1) yp rfl rfl ⟨⟨_,rfl,.g ⟨.d _,.d _,.d _,.d _,.d _,.d _,.d _,.d _,trivial⟩⟩,trivial⟩ trivial trivial rfl rfl rfl rfl) rfl⟩) rfl ?_
  refine bS (kn:=[]) aa 1 rfl trivial ?_
  refine bY (n':=16) [31] [] rfl rfl (.inl ⟨(ah.plain rfl),aF.cast (bX 16 (kr x1 (by first|assumption|omega|rfl|decide) e2 hr2) yp rfl rfl ⟨⟨_,rfl,.g ⟨.d _,.d _,.d _,.d _,.d _,.d _,.d _,.d _,trivial⟩⟩,trivial⟩ trivial trivial rfl rfl rfl rfl) rfl⟩) rfl ?_
  refine bY (n':=16) [30,32] [] rfl rfl (.inl ⟨(ah.plain rfl),aF.cast (aJ rfl rfl rfl (aL (by first|omega|(simp;done)|(simp;omega)))) rfl⟩) rfl ?_
  refine bY (n':=17) [26,28,33] [10,5] rfl rfl (.inl ⟨(ah.plain rfl),aF.cast (cr (bb [5,10]) (bb [5,16]) (ms:=((dw.set 2 (some (.s 1 0 6 cs.length))).set 19 (some (cI e)))) (ms':=((dw.set 2 (some (.s 1 0 6 l23.length))).set 19 (some (cI e23)))) (fun x hx=>iO x hx cs e x1.aO (e1 - e2) 0 (by first|omega|(simp;done)|(simp;omega)) l23 e23 hr3) nB rfl rfl ⟨⟨_,rfl,.inl ⟨rfl,rfl⟩⟩,⟨_,rfl,.inr (.c (.d _))⟩,⟨_,rfl,.inr (.c (.d _))⟩,⟨_,rfl,.inr (.c (.d _))⟩,trivial⟩ rfl rfl rfl rfl rfl rfl rfl ⟨rfl,trivial⟩ rfl rfl rfl rfl rfl rfl rfl rfl rfl rfl rfl rfl rfl) rfl⟩) rfl ?_
  refine dO [0,2,12,13,14,3,5] [16,5,15,0,6,7,8,9,11,12,13] rfl rfl (by kernel_rfl) ?_
  refine then_ok ?_
  refine aW [0,2,12,13,14,3,5] [16,5,15,0,6,7,8,9,11,12,13] mixed rfl rfl ?_
  refine aw (kn:=[]) aa 7 rfl trivial ?_
  refine aM (n':=17) [39,40] [12] rfl rfl (.inl ⟨(ah.plain rfl),aF.cast (bx (i:=q) rfl rfl rfl Try.underlying31 kM (by first|omega|(simp;done)|(simp;omega)) (by first|omega|(simp;done)|(simp;omega))) rfl⟩) rfl ?_
  refine bw [16,5,15,0,6,7,8,9,11,12,13] rfl rfl rfl rfl (by kernel_rfl) ?_
  refine gh [16,5,15,0,6,7,8,9,11,12,13] (dL (ds:=[(dI b0.aO),(dI b0.aD),(dI b0.sum),(dI b0.captured),(dI b0.bA),(dI b0.bp),(dI b0.db),(dB b0.shut)]) rfl rfl rfl rfl rfl kM rfl (Nat.le_of_ble_eq_true rfl) (bf hx1) rfl (eL (x':=b0) rfl)) rfl ?_
  refine cc ?_
  refine bl ?_
  refine then_ok ?_
  refine fA (k:=5) (q:=4) (c':=(.s 12 0 8 (((xs).set q b0).length))) rfl rfl (by first|rfl|(simp;done)|(congr 1;omega)) rfl ?_
  refine au ?_
  refine ay (aJ rfl rfl rfl (aL (by first|omega|(simp;done)|(simp;omega)))) rfl ?_
  refine ad aa 1 rfl ?_
  refine af ?_
  refine ⟨(q+1,l23,(xs).set q b0,e23),⟨by omega,by rw [hi0_1,xZ (a:=x1) (by rw [<-hi0_4 q (by omega)];exact hx1),hr0,hr1,hr2,hr3],by omega,by rw [List.length_set];omega,fun i hi=>by rw [List.getElem?_set_ne (by omega)];exact hi0_4 i (by omega)⟩,by first|omega|(simp;done)|(simp;omega),aE.bR (fun k=>if k=10 then 16 else k) (by refine ⟨?_,?_,?_,?_,?_,trivial⟩<;>first|rfl|(simp only [bc];done)|(congr 3;omega)|(congr 4;omega)|(simp only [bd];rfl)) (by refine ⟨?_,?_,?_,?_,?_,?_,?_,?_,?_,?_,trivial⟩<;>first|rfl|(simp only [bc];done)|(congr 3;omega)|(congr 4;omega)|(simp only [bd];rfl)) rfl⟩
 have hc1':=of_decide_eq_false hc1
 refine bZ ?_
 refine aN ?_
 refine aN ?_
 refine bC ?_
 refine then_ok ?_
 rcases (show e=0\/¬e=0 from by omega) with hs2|hs2
 ·
  refine au ?_
  refine ad aa 2 rfl ?_
  refine aR 18 [0,14,15,16,17] (cK (bb [0,5,6,7,8,9,10,11,12,13]) (bb [0,14,15,16,17]) (fj (x 17) (x 19) b (⟨b.time,b.down,cs,b.due,xs,b.s0,b.s1,b.n0,b.n1,b.w0,b.w1,b.aX,b.aS,b.book⟩:Bk) e (by first|assumption|omega)) fI rfl rfl ⟨⟨_,rfl,.inl ⟨rfl,rfl⟩⟩,⟨_,rfl,.inl ⟨rfl,rfl⟩⟩,trivial⟩ ⟨rfl,rfl,rfl,rfl,rfl,rfl,rfl,rfl,rfl,rfl,trivial⟩ rfl rfl rfl rfl rfl rfl trivial ⟨⟨trivial,trivial,trivial,trivial,trivial,trivial,trivial,trivial,trivial,trivial,trivial,trivial,trivial,trivial,trivial,trivial,trivial,trivial,trivial,trivial,trivial⟩,(fun _ _ _ _=>trivial),(fun _ _ _ _=>trivial),(fun _ _ _ _=>trivial),(fun _ _ _ _=>trivial),trivial⟩ rfl rfl rfl rfl) rfl ?_
  refine cc ?_
  have hX:gV b=(⟨b.time,b.down,cs,b.due,xs,b.s0,b.s1,b.n0,b.n1,b.w0,b.w1,b.aX,b.aS,b.book⟩:Bk):=by
    have hL:fK b.time b.ax 0 b.aq b.ax 0=(cs,xs,e):=by rw [hi0_1,List.drop_of_length_le (by omega)];rfl
    unfold gV;rw [hL];dsimp only;first|rw [if_pos (by assumption)]|rw [if_neg (by assumption)]
  rw [hX] at hr;clear hX
  subst hr
  refine cL aa [0,14,15,16,17] 5 rfl rfl rfl rfl rfl rfl ?_ ?_
  all_goals first|rfl|(simp [aA,aY,bg];done)|(simp [aA,aY,bg];omega)
 refine au ?_
 refine ad aa 2 rfl ?_
 refine aR 18 [0,14,15,16,17] (cK (bb [0,5,6,7,8,9,10,11,12,13]) (bb [0,14,15,16,17]) (fX (x 17) (x 19) b (⟨b.time,b.down,cs,b.due,xs,b.s0,b.s1,b.n0,b.n1,b.w0,b.w1,b.aX,b.aS,b.book⟩:Bk) e (by first|assumption|omega)) fI rfl rfl ⟨⟨_,rfl,.inl ⟨rfl,rfl⟩⟩,⟨_,rfl,.inl ⟨rfl,rfl⟩⟩,trivial⟩ ⟨rfl,rfl,rfl,rfl,rfl,rfl,rfl,rfl,rfl,rfl,trivial⟩ rfl rfl rfl rfl rfl rfl trivial ⟨⟨trivial,trivial,trivial,trivial,trivial,trivial,trivial,trivial,trivial,trivial,trivial,trivial,trivial,trivial,trivial,trivial,trivial,trivial,trivial,trivial,trivial⟩,(fun _ _ _ _=>trivial),(fun _ _ _ _=>trivial),(fun _ _ _ _=>trivial),(fun _ _ _ _=>trivial),trivial⟩ rfl rfl rfl rfl) rfl ?_
 refine cc ?_
 have hX:gV b=b:=by
   have hL:fK b.time b.ax 0 b.aq b.ax 0=(cs,xs,e):=by rw [hi0_1,List.drop_of_length_le (by omega)];rfl
   unfold gV;rw [hL];dsimp only;first|rw [if_pos (by assumption)]|rw [if_neg (by assumption)]
 rw [hX] at hr;clear hX
 subst hr
 refine cL aa [0,14,15,16,17] 5 rfl rfl rfl rfl rfl rfl ?_ ?_
 all_goals first|rfl|(simp [aA,aY,bg];done)|(simp [aA,aY,bg];omega)
theorem CY (x:Nat->Value) (hx:∀ i,(x i).oneCell'=true) (b:Bk) (d:bh) (ok:cu b) (hdn:b.down=false) (b2:Bk) (a2:Answer) (hr:fo b d=(b2,a2)):cJ Try.prog 65 [(.c (.p 0 0 0 0)),(.c (.q (cY d) 0))] [(0,(.box 98 (aY b 1 2 3 4 (.d (.v (x 17))) (.d (.v (x 19)))))),(1,(dN b.aq)),(2,(dD b.due)),(3,(dS b.ax)),(4,(cS b.aS))] [0] (.v (.g [cI a2.err,cI a2.ba])) [(0,(.box 98 (aY b2 1 2 3 4 (.d (.v (x 17))) (.d (.v (x 19)))))),(1,(dN b2.aq)),(2,(dD b2.due)),(3,(dS b2.ax)),(4,(cS b2.aS))]:=by
 refine cJ.mk 46 [(0,(aC (.p 0 0 0 0))),(1,(aC (.q (cY d) 0)))] 5 Try.func65 rfl rfl rfl rfl rfl rfl rfl rfl rfl ?_
 intro W0 F0 T0 pg
 obtain ⟨okt,okc,okd,oka,oky,okw0,okw1,okp,okv,okk0,okk1,okg,okl0,okl1,okp0,okp1,okn0,okn1,okq⟩:=id ok
 refine ae aa 1 rfl ?_
 refine ag ?_
 refine ag ?_
 rcases Bool.eq_false_or_eq_true (decide (d.sum < 0)) with hb1|hb1
 ·
  have hb1':=of_decide_eq_true hb1
  refine aW [0,1,4] [5,0,1,2,3,4] mixed rfl rfl ?_
  refine aw (kn:=[(9,true)]) aa 18 rfl ⟨hb1,trivial⟩ ?_
  refine bw [5,0,1,2,3,4] rfl rfl rfl rfl (by kernel_rfl) ?_
  refine af ?_
  refine aj rfl (fun _=>?_) (fun hno=>by cases hno)
  refine ae aa 2 rfl ?_
  refine az ?_
  refine ar ?_
  have hX:fo b d=(b,(⟨3,0⟩:Answer)):=by
    unfold fo;(repeat' split)<;>first|rfl|omega|(exfalso;omega)|(simp_all;done)|(simp_all;omega)
  rw [hX] at hr;clear hX
  simp only [Prod.mk.injEq] at hr;obtain ⟨rfl,rfl⟩:=hr
  refine an aa [0,1,2,3,4,5] 5 rfl rfl rfl rfl rfl rfl ?_ ?_
  all_goals first|rfl|(simp [aA,aY,bg];done)|(simp [aA,aY,bg];omega)
 have hb1':=of_decide_eq_false hb1
 refine aW [0,1,4] [5,0,1,2,3,4] mixed rfl rfl ?_
 refine aw (kn:=[(9,false)]) aa 15 rfl ⟨hb1,trivial⟩ ?_
 refine aM (n':=6) [19,10] [] rfl rfl (.inl ⟨(ah.yes rfl rfl rfl),aF.cast (aJ rfl rfl rfl (aL (by first|omega|(simp;done)|(simp;omega)))) rfl⟩) rfl ?_
 refine aw (kn:=[]) aa 2 rfl trivial ?_
 refine bw [5,0,1,2,3,4] rfl rfl rfl rfl (by kernel_rfl) ?_
 refine af ?_
 refine aj rfl (fun hc3=>?_) (fun hc3=>?_)
 ·
  have hc3':=of_decide_eq_true hc3
  refine ae aa 2 rfl ?_
  refine az ?_
  refine ar ?_
  have hX:fo b d=(b,(⟨3,0⟩:Answer)):=by
    unfold fo;(repeat' split)<;>first|rfl|omega|(exfalso;omega)|(simp_all;done)|(simp_all;omega)
  rw [hX] at hr;clear hX
  simp only [Prod.mk.injEq] at hr;obtain ⟨rfl,rfl⟩:=hr
  refine an aa [0,1,2,3,4,5] 5 rfl rfl rfl rfl rfl rfl ?_ ?_
  all_goals first|rfl|(simp [aA,aY,bg];done)|(simp [aA,aY,bg];omega)
 have hc3':=of_decide_eq_false hc3
 refine aP ?_
 refine ag ?_
 refine aW [0,1,4] [5,0,1,2,3,4] mixed rfl rfl ?_
 refine aw (kn:=[]) aa 9 rfl trivial ?_
 refine aM (n':=6) [28,32] [] rfl rfl (.inl ⟨(ah.plain rfl),aF.cast (aJ rfl rfl rfl (aL (by first|omega|(simp;done)|(simp;omega)))) rfl⟩) rfl ?_
 refine aw (kn:=[]) aa 3 rfl trivial ?_
 refine bw [5,0,1,2,3,4] rfl rfl rfl rfl (by kernel_rfl) ?_
 refine ad aa 1 rfl ?_
 refine af ?_
 refine ag ?_
 refine ae aa 6 rfl ?_
 refine aj rfl (fun _=>?_) (fun hno=>by simp [hdn] at hno)
 refine au ?_
 refine ad aa 1 rfl ?_
 obtain ⟨b20,hr0⟩:∃ (b20:Bk),gV (⟨b.time+d.sum,b.down,b.aq,b.due,b.ax,b.s0,b.s1,b.n0,b.n1,b.w0,b.w1,b.aX,b.aS,b.book⟩:Bk)=b20:=⟨_,rfl⟩
 refine aR 10 [0,6,7,8,9,5] (cr id (bb [0,6,7,8,9]) (ms:=[some (cI (b.time+d.sum)),some (cB b.down),some (.s 1 0 6 b.aq.length),some (.s 2 0 1 b.due.length),some (.s 3 0 8 b.ax.length),some (cI b.s0.bz),some (cm b.s0.kept),some (cI b.s1.bz),some (cm b.s1.kept),some (cI b.n0),some (cI b.n1),some (cT b.w0),some (cT b.w1),some (cI b.aX.cap),some (cX b.aX.used),some (dV b.aX.aQ),some (.s 4 0 4 b.aS.length),none,some (da b.book),none]) (ms':=(iT b20 1 2 3 4 none none)) (fun x hx=>Ac x hx (⟨b.time+d.sum,b.down,b.aq,b.due,b.ax,b.s0,b.s1,b.n0,b.n1,b.w0,b.w1,b.aX,b.aS,b.book⟩:Bk) (by first|assumption|exact cu.tick (by assumption) (by omega) (by omega)) b20 hr0) Ej rfl rfl ⟨⟨_,rfl,.inl ⟨rfl,rfl⟩⟩,trivial⟩ rfl rfl rfl rfl rfl rfl rfl ⟨rfl,rfl,rfl,rfl,trivial⟩ rfl rfl rfl rfl rfl rfl rfl rfl rfl rfl rfl rfl rfl) rfl ?_
 refine af ?_
 refine ae aa 2 rfl ?_
 refine az ?_
 have hX:fo b d=(b20,(⟨0,0⟩:Answer)):=by
   unfold fo;simp only [dy,hr0];(repeat' split)<;>first|rfl|omega|(exfalso;omega)|(simp_all;done)|(simp_all;omega)
 rw [hX] at hr;clear hX
 simp only [Prod.mk.injEq] at hr;obtain ⟨rfl,rfl⟩:=hr
 refine an aa [0,6,7,8,9,5] 5 rfl rfl rfl rfl rfl rfl ?_ ?_
 all_goals first|rfl|(simp [aA,aY,bg];done)|(simp [aA,aY,bg];omega)
theorem CZ (x:Nat->Value) (hx:∀ i,(x i).oneCell'=true) (b:Bk) (d:bh) (ok:cu b) (hdn:b.down=true) (b2:Bk) (a2:Answer) (hr:fo b d=(b2,a2)):cJ Try.prog 65 [(.c (.p 0 0 0 0)),(.c (.q (cY d) 0))] [(0,(.box 98 (aY b 1 2 3 4 (.d (.v (x 17))) (.d (.v (x 19)))))),(1,(dN b.aq)),(2,(dD b.due)),(3,(dS b.ax)),(4,(cS b.aS))] [0] (.v (.g [cI a2.err,cI a2.ba])) [(0,(.box 98 (aY b2 1 2 3 4 (.d (.v (x 17))) (.d (.v (x 19)))))),(1,(dN b2.aq)),(2,(dD b2.due)),(3,(dS b2.ax)),(4,(cS b2.aS))]:=by
 refine cJ.mk 46 [(0,(aC (.p 0 0 0 0))),(1,(aC (.q (cY d) 0)))] 5 Try.func65 rfl rfl rfl rfl rfl rfl rfl rfl rfl ?_
 intro W0 F0 T0 pg
 obtain ⟨okt,okc,okd,oka,oky,okw0,okw1,okp,okv,okk0,okk1,okg,okl0,okl1,okp0,okp1,okn0,okn1,okq⟩:=id ok
 refine ae aa 1 rfl ?_
 refine ag ?_
 refine ag ?_
 rcases Bool.eq_false_or_eq_true (decide (d.sum < 0)) with hb1|hb1
 ·
  have hb1':=of_decide_eq_true hb1
  refine aW [0,1,4] [5,0,1,2,3,4] mixed rfl rfl ?_
  refine aw (kn:=[(9,true)]) aa 18 rfl ⟨hb1,trivial⟩ ?_
  refine bw [5,0,1,2,3,4] rfl rfl rfl rfl (by kernel_rfl) ?_
  refine af ?_
  refine aj rfl (fun _=>?_) (fun hno=>by cases hno)
  refine ae aa 2 rfl ?_
  refine az ?_
  refine ar ?_
  have hX:fo b d=(b,(⟨3,0⟩:Answer)):=by
    unfold fo;(repeat' split)<;>first|rfl|omega|(exfalso;omega)|(simp_all;done)|(simp_all;omega)
  rw [hX] at hr;clear hX
  simp only [Prod.mk.injEq] at hr;obtain ⟨rfl,rfl⟩:=hr
  refine an aa [0,1,2,3,4,5] 5 rfl rfl rfl rfl rfl rfl ?_ ?_
  all_goals first|rfl|(simp [aA,aY,bg];done)|(simp [aA,aY,bg];omega)
 have hb1':=of_decide_eq_false hb1
 refine aW [0,1,4] [5,0,1,2,3,4] mixed rfl rfl ?_
 refine aw (kn:=[(9,false)]) aa 15 rfl ⟨hb1,trivial⟩ ?_
 refine aM (n':=6) [19,10] [] rfl rfl (.inl ⟨(ah.yes rfl rfl rfl),aF.cast (aJ rfl rfl rfl (aL (by first|omega|(simp;done)|(simp;omega)))) rfl⟩) rfl ?_
 refine aw (kn:=[]) aa 2 rfl trivial ?_
 refine bw [5,0,1,2,3,4] rfl rfl rfl rfl (by kernel_rfl) ?_
 refine af ?_
 refine aj rfl (fun hc3=>?_) (fun hc3=>?_)
 ·
  have hc3':=of_decide_eq_true hc3
  refine ae aa 2 rfl ?_
  refine az ?_
  refine ar ?_
  have hX:fo b d=(b,(⟨3,0⟩:Answer)):=by
    unfold fo;(repeat' split)<;>first|rfl|omega|(exfalso;omega)|(simp_all;done)|(simp_all;omega)
  rw [hX] at hr;clear hX
  simp only [Prod.mk.injEq] at hr;obtain ⟨rfl,rfl⟩:=hr
  refine an aa [0,1,2,3,4,5] 5 rfl rfl rfl rfl rfl rfl ?_ ?_
  all_goals first|rfl|(simp [aA,aY,bg];done)|(simp [aA,aY,bg];omega)
 have hc3':=of_decide_eq_false hc3
 refine aP ?_
 refine ag ?_
 refine aW [0,1,4] [5,0,1,2,3,4] mixed rfl rfl ?_
 refine aw (kn:=[]) aa 9 rfl trivial ?_
 refine aM (n':=6) [28,32] [] rfl rfl (.inl ⟨(ah.plain rfl),aF.cast (aJ rfl rfl rfl (aL (by first|omega|(simp;done)|(simp;omega)))) rfl⟩) rfl ?_
 refine aw (kn:=[]) aa 3 rfl trivial ?_
 refine bw [5,0,1,2,3,4] rfl rfl rfl rfl (by kernel_rfl) ?_
 refine ad aa 1 rfl ?_
 refine af ?_
 refine ag ?_
 refine ae aa 6 rfl ?_
 refine aj rfl (fun hno=>by simp [hdn] at hno) (fun _=>?_)
 refine aP ?_
 refine ae aa 2 rfl ?_
 refine az ?_
 have hX:fo b d=((⟨b.time+d.sum,b.down,b.aq,b.due,b.ax,b.s0,b.s1,b.n0,b.n1,b.w0,b.w1,b.aX,b.aS,b.book⟩:Bk),(⟨0,0⟩:Answer)):=by
   unfold fo;(repeat' split)<;>first|rfl|omega|(exfalso;omega)|(simp_all;done)|(simp_all;omega)
 rw [hX] at hr;clear hX
 simp only [Prod.mk.injEq] at hr;obtain ⟨rfl,rfl⟩:=hr
 refine an aa [0,1,2,3,4,5] 5 rfl rfl rfl rfl rfl rfl ?_ ?_
 all_goals first|rfl|(simp [aA,aY,bg];done)|(simp [aA,aY,bg];omega)
theorem EC (x:Nat->Value) (hx:∀ i,(x i).oneCell'=true) (b:Bk) (d:bh) (ok:cu b) (b2:Bk) (a2:Answer) (hr:fo b d=(b2,a2)):cJ Try.prog 65 [(.c (.p 0 0 0 0)),(.c (.q (cY d) 0))] [(0,(.box 98 (aY b 1 2 3 4 (.d (.v (x 17))) (.d (.v (x 19)))))),(1,(dN b.aq)),(2,(dD b.due)),(3,(dS b.ax)),(4,(cS b.aS))] [0] (.v (.g [cI a2.err,cI a2.ba])) [(0,(.box 98 (aY b2 1 2 3 4 (.d (.v (x 17))) (.d (.v (x 19)))))),(1,(dN b2.aq)),(2,(dD b2.due)),(3,(dS b2.ax)),(4,(cS b2.aS))]:=by
  cases hdn:b.down
  ·exact CY x hx b d ok hdn b2 a2 hr
  ·exact CZ x hx b d ok hdn b2 a2 hr
end Go.Proofs.Ytegepioggeggaaa.Dev
