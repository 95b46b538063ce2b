/- A part of the proof: Bank10, Bank11, Bank5, Bank6. No condition. -/
import Derived.Test.YtegepioggeggaaaD11
set_option linter.unusedVariables false
set_option linter.unusedSimpArgs false
set_option maxHeartbeats 8000000
set_option maxRecDepth 100000
namespace Go.Proofs.Ytegepioggeggaaa.Dev
open Go.RowKit

theorem Az (x:Nat->Value) (hx:∀ i,(x i).oneCell'=true) (b:Bk) (idn kind ax move sum:Int) (ok:cm b) (b2:Bk) (a2:Answer) (hr:bS b (⟨idn,kind,0,ax,move,sum⟩:aE)=(b2,a2)):cA Try.prog 67 [(.c (.p 0 0 0 0)),(.c (.q (cG (⟨idn,kind,0,ax,move,sum⟩:aE)) 0))] [(0,(.box 98 (aS b 1 2 3 4 (.d (.v (x 17))) (.d (.v (x 19)))))),(1,(dR b.aj)),(2,(dL b.due)),(3,(dX b.aq)),(4,(cH b.aN))] [0] (.v (.g [cI a2.err,cI a2.ba])) [(0,(.box 98 (aS b2 1 2 3 4 (.d (.v (x 17))) (.d (.v (x 19)))))),(1,(dR b2.aj)),(2,(dL b2.due)),(3,(dX b2.aq)),(4,(cH b2.aN))]:=by
 refine cA.mk 153 [(0,(aC (.p 0 0 0 0))),(1,(aC (.q (cG (⟨idn,kind,0,ax,move,sum⟩:aE)) 0)))] 5 Try.func67 rfl rfl rfl rfl rfl rfl rfl rfl rfl ?_
 intro W0 F0 T0 pg
 obtain ⟨okt,okc,okd,oka,oky,okw0,okw1,okp,okv,okk0,okk1,okg,okl0,okl1,okp0,okp1,okn0,okn1,okq⟩:=id ok
 refine ad aa 1 rfl ?_
 refine af ?_
 refine af ?_
 refine bb [0,1,4] [5,0,1,2,3,4] mixed rfl rfl ?_
 refine aA (kn:=[(15,false)]) aa 21 rfl ⟨rfl,trivial⟩ ?_
 refine aT (n':=6) [31,28,23] [0] rfl rfl (.inl ⟨(ak.yes rfl rfl rfl),aK.cast (dn (i:=0) rfl rfl rfl Try.underlying38 kI rfl (by decide)) rfl⟩) rfl ?_
 refine aA (kn:=[]) aa 1 rfl trivial ?_
 refine aT (n':=6) [33,23] [] rfl rfl (.inl ⟨(ak.yes rfl rfl rfl),aK.cast (cT rfl rfl rfl rfl rfl Try.underlying37) rfl⟩) rfl ?_
 refine aA (kn:=[]) aa 2 rfl trivial ?_
 refine bB [5,0,1,2,3,4] rfl rfl rfl rfl (by kernel_rfl) ?_
 refine ae ?_
 refine ag rfl (fun hc1=>?_) (fun hc1=>?_)
 ·
  have hc1':=of_decide_eq_true hc1
  refine ad aa 2 rfl ?_
  refine ar ?_
  refine ao ?_
  have hX:bS b (⟨idn,kind,0,ax,move,sum⟩:aE)=(b,(⟨6,0⟩:Answer)):=by
    unfold bS;dsimp only;rw [if_pos rfl];unfold fa;rw [List.getElem?_eq_none (by omega)]
  rw [hX] at hr;clear hX
  simp only [Prod.mk.injEq] at hr;obtain ⟨rfl,rfl⟩:=hr
  refine ah aa [0,1,2,3,4,5] 5 rfl rfl rfl rfl rfl rfl ?_ ?_
  all_goals first|rfl|(simp [au,aS,aZ];done)|(simp [au,aS,aZ];omega)
 have hc1':=of_decide_eq_false hc1
 refine aP ?_
 refine af ?_
 obtain ⟨x1,hx1⟩:=ch (xs:=b.w0) (i:=0) (by first|omega|(simp;done)|(simp;omega))
 refine bb [0,1,4] [5,0,1,2,3,4] mixed rfl rfl ?_
 refine aA (kn:=[]) aa 8 rfl trivial ?_
 refine aT (n':=6) [45,42] [0] rfl rfl (.inl ⟨(ak.plain rfl),aK.cast (dn (i:=0) rfl rfl rfl Try.underlying38 kI rfl (by decide)) rfl⟩) rfl ?_
 refine aA (kn:=[]) aa 1 rfl trivial ?_
 refine aT (n':=6) [47] [] rfl rfl (.inl ⟨(ak.plain rfl),aK.cast (cQ (i:=0) rfl rfl rfl Try.underlying37 uh (by first|omega|(simp;done)|(simp;omega)) (bw hx1)) rfl⟩) rfl ?_
 refine aA (n':=7) (kn:=[]) aa 2 rfl trivial ?_
 refine bB [6,5,0,1,2,3,4] rfl rfl rfl rfl (by kernel_rfl) ?_
 refine ab aa 1 rfl ?_
 refine ae ?_
 have hpk:=okp0 x1 (List.mem_of_getElem? hx1)
 have hI0:∀ t∈b.s0.kept,fG t.number:=fun t ht=>(okk0 t ht).1
 have hI1:∀ t∈b.s1.kept,fG t.number:=fun t ht=>(okk1 t ht).1
 have hA:∀ a∈b.aq,0<=a.aJ/\a.aJ < b.aj.length/\0<=a.ax/\a.ax < b.due.length:=fun a ha=>(okp a ha).2
 refine az aa 1 rfl ?_
 refine aL 16 [0,7,8,9,10,11,12,13,14,15,6,5] (cv id (aU [0,7,8,9,10,11,12,13,14,15]) (kc (x 17) (x 19) b (by first|omega|(simp;done)|(simp;omega)) (by first|omega|(simp;done)|(simp;omega)) (by first|omega|(simp;done)|(simp;omega)) (by first|omega|(simp;done)|(simp;omega))) qu rfl rfl ⟨⟨_,rfl,.inl ⟨rfl,rfl⟩⟩,trivial⟩ ⟨rfl,rfl,rfl,rfl,rfl,trivial⟩ rfl rfl rfl rfl rfl rfl trivial ⟨⟨trivial,trivial,trivial,trivial,trivial,trivial,trivial,trivial,trivial,trivial,trivial,trivial,trivial,trivial,trivial,trivial,trivial,trivial,trivial,trivial,trivial⟩,⟨trivial,trivial,trivial,trivial,trivial,trivial,trivial,trivial,trivial,trivial,trivial,trivial,trivial,trivial,trivial,trivial,trivial,trivial,trivial,trivial,trivial⟩,(fun _ _ _ _=>trivial),(fun _ _ _ _=>trivial),(fun _ _ _ _=>trivial),(fun _ _ _ _=>trivial),(fun _ _ _ _=>trivial),(fun _ _ _ _=>trivial),(fun _ _ _ _=>trivial),(fun _ _ _ _=>trivial),trivial⟩ rfl rfl rfl rfl) rfl ?_
 refine ab aa 1 rfl ?_
 refine ae ?_
 refine af ?_
 refine bb [0,1,4,5,6] [0,7,8,9,10,11,12,13,14,15,6,5] mixed rfl rfl ?_
 refine aA (kn:=[]) aa 13 rfl trivial ?_
 refine aT (n':=16) [64,61] [0] rfl rfl (.inl ⟨(ak.plain rfl),aK.cast (dn (i:=0) rfl rfl rfl Try.underlying38 kI rfl (by decide)) rfl⟩) rfl ?_
 refine aA (kn:=[]) aa 1 rfl trivial ?_
 refine aT (n':=16) [66] [] rfl rfl (.inl ⟨(ak.plain rfl),aK.cast (vw (l:=1) (h:=b.w0.length) (ys:=((b.w0).drop 1).map fj) rfl Try.underlying37 uh rfl (.inr ⟨_,rfl,rfl⟩) (.inl ⟨rfl,by simp⟩) (by first|omega|(simp;done)|(simp;omega)) (by first|omega|(simp;done)|(simp;omega)) (by first|(simp;done)|(rw [List.map_drop];exact List.take_of_length_le (by simp)))) rfl⟩) rfl ?_
 refine aA (kn:=[]) aa 3 rfl trivial ?_
 refine aT (n':=16) [70,56] [7] rfl rfl (.inl ⟨(ak.plain rfl),aK.cast (dn (i:=0) rfl rfl rfl Try.underlying38 kI rfl (by decide)) rfl⟩) rfl ?_
 refine bB [0,7,8,9,10,11,12,13,14,15,6,5] rfl rfl rfl rfl (by kernel_rfl) ?_
 refine ab aa 1 rfl ?_
 refine ae ?_
 refine af ?_
 refine ad aa 5 rfl ?_
 refine ag rfl (fun hc2=>?_) (fun hc2=>?_)
 ·
  have hc2':=of_decide_eq_true hc2
  refine az aa 2 rfl ?_
  refine aL 20 [0,16,17,18,19,6,5] (cv (aU [0,7,8,9,10,11,12,13,14,15]) (aU [0,16,17,18,19]) (fg (x 17) (x 19) b (⟨b.time,b.down,b.aj,b.due,b.aq,b.s0,b.s1,b.n0,b.n1,(b.w0).drop 1,b.w1,b.bH,b.aN,b.book⟩:Bk) 0 (by first|assumption|omega)) fE rfl rfl ⟨⟨_,rfl,.inl ⟨rfl,rfl⟩⟩,⟨_,rfl,.inl ⟨rfl,rfl⟩⟩,trivial⟩ ⟨rfl,rfl,rfl,rfl,rfl,rfl,rfl,rfl,rfl,rfl,trivial⟩ rfl rfl rfl rfl rfl rfl trivial ⟨⟨trivial,trivial,trivial,trivial,trivial,trivial,trivial,trivial,trivial,trivial,trivial,trivial,trivial,trivial,trivial,trivial,trivial,trivial,trivial,trivial,trivial⟩,(fun _ _ _ _=>trivial),(fun _ _ _ _=>trivial),(fun _ _ _ _=>trivial),(fun _ _ _ _=>trivial),trivial⟩ rfl rfl rfl rfl) rfl ?_
  refine ab aa 2 rfl ?_
  refine ae ?_
  refine ar ?_
  refine ao ?_
  have hX:bS b (⟨idn,kind,0,ax,move,sum⟩:aE)=((⟨b.time,b.down,b.aj,b.due,b.aq,b.s0,b.s1,b.n0,b.n1,(b.w0).drop 1,b.w1,b.bH,b.aN,b.book⟩:Bk),(⟨0,0⟩:Answer)):=by
    unfold bS;dsimp only;rw [if_pos rfl];unfold fa;rw [hx1];dsimp only;(try simp only [dC]);(try unfold dC);(repeat' split)<;>first|rfl|omega|(exfalso;omega)|(simp_all;done)|(simp_all;omega)
  rw [hX] at hr;clear hX
  simp only [Prod.mk.injEq] at hr;obtain ⟨rfl,rfl⟩:=hr
  refine ah aa [0,16,17,18,19,5] 5 rfl rfl rfl rfl rfl rfl ?_ ?_
  all_goals first|rfl|(simp [au,aS,aZ];done)|(simp [au,aS,aZ];omega)
 have hc2':=of_decide_eq_false hc2
 refine aP ?_
 refine af ?_
 refine ad aa 3 rfl ?_
 refine ag rfl (fun hc3=>?_) (fun hc3=>?_)
 ·
  have hc3':=of_decide_eq_true hc3
  refine af ?_
  obtain ⟨xr0,e0,hr0⟩:∃ (xr0:bR) (e0:Int),dO b.s0 x1.seen=(xr0,e0):=⟨_,_,rfl⟩
  refine db [0,1,4,5,6] [0,7,8,9,10,11,12,13,14,15,6,5] mixed rfl rfl ?_
  refine bT (kn:=[]) aa 8 rfl trivial ?_
  refine bW (n':=16) [92,89] [7] rfl rfl (.inl ⟨(ak.plain rfl),aK.cast (dn (i:=0) rfl rfl rfl Try.underlying35 mg rfl (by decide)) rfl⟩) rfl ?_
  refine bT (kn:=[]) aa 3 rfl trivial ?_
  refine bW (n':=16) [94,96] [] rfl rfl (.inl ⟨(ak.plain rfl),aK.cast (bJ 16 (Fn.frozen (av':=(.t [(.g [(cI xr0.bE),(dc xr0.kept)]),(.c (cI e0))])) (pM b.s0 x1.seen (by first|assumption|exact jY (by assumption) (by omega)|exact jn (by assumption) (by assumption)|(simp [fG];done)) xr0 e0 hr0) ⟨⟨.inl ⟨_,rfl,rfl⟩,.inr ⟨_,_,_,_,_,rfl,rfl,rfl,by simp⟩,trivial⟩,.inl ⟨_,rfl,rfl⟩,trivial⟩) EG rfl rfl ⟨⟨_,rfl,.g ⟨.d _,.d _,trivial⟩⟩,⟨_,rfl,.c (.d _)⟩,trivial⟩ ⟨⟨trivial,trivial,trivial⟩,trivial,trivial⟩ trivial rfl rfl rfl rfl) rfl⟩) rfl ?_
  refine bT (n':=17) (kn:=[]) aa 6 rfl trivial ?_
  refine dS [0,1,4,5,6,7,8] [16,0,7,8,9,10,11,12,13,14,15,6,5] rfl rfl (by kernel_rfl) ?_
  refine then_ok ?_
  refine af ?_
  refine az aa 2 rfl ?_
  obtain ⟨e21,hr1⟩:∃ (e21:Int),dv 0 e0=e21:=⟨_,rfl⟩
  refine aL 17 [7,16,0,8,9,10,11,12,13,14,15,6,5] (cg (aU [7]) (aU [7]) (ms:=(dw.set 19 (some (cI 0)))) (ms':=(dw.set 19 (some (cI e21)))) (fun x hx=>jI x hx 0 e0 e21 hr1) nv rfl rfl ⟨⟨_,rfl,.inl ⟨rfl,rfl⟩⟩,⟨_,rfl,.inr (.c (.d _))⟩,trivial⟩ rfl rfl rfl rfl rfl rfl rfl trivial rfl rfl rfl rfl rfl rfl rfl rfl rfl rfl rfl rfl rfl) rfl ?_
  refine ab aa 1 rfl ?_
  refine ae ?_
  refine ag rfl (fun hc4=>?_) (fun hc4=>?_)
  ·
   have hc4':=hc4;try simp only [bm,bM] at hc4'
   refine bb [0,1,4,5,6,7] [7,16,0,8,9,10,11,12,13,14,15,6,5] mixed rfl rfl ?_
   refine aA (kn:=[]) aa 9 rfl trivial ?_
   refine aT (n':=17) [112,108] [7] rfl rfl (.inl ⟨(ak.plain rfl),aK.cast (dn (i:=0) rfl rfl rfl Try.underlying35 mg rfl (by decide)) rfl⟩) rfl ?_
   refine bB [7,16,0,8,9,10,11,12,13,14,15,6,5] rfl rfl rfl rfl (by kernel_rfl) ?_
   refine ab aa 1 rfl ?_
   refine ae ?_
   rcases (show e21=0\/¬e21=0 from by omega) with hs5|hs5
   ·
    refine az aa 2 rfl ?_
    refine aL 21 [0,17,18,19,20,16,6,5] (cv (aU [0,7,8,9,10,11,12,13,14,15]) (aU [0,17,18,19,20]) (fg (x 17) (x 19) b (⟨b.time,b.down,b.aj,b.due,b.aq,xr0,b.s1,b.n0,b.n1,(b.w0).drop 1,b.w1,b.bH,b.aN,b.book⟩:Bk) e21 (by first|assumption|omega)) fE rfl rfl ⟨⟨_,rfl,.inl ⟨rfl,rfl⟩⟩,⟨_,rfl,.inl ⟨rfl,rfl⟩⟩,trivial⟩ ⟨rfl,rfl,rfl,rfl,rfl,rfl,rfl,rfl,rfl,rfl,trivial⟩ rfl rfl rfl rfl rfl rfl trivial ⟨⟨trivial,trivial,trivial,trivial,trivial,trivial,trivial,trivial,trivial,trivial,trivial,trivial,trivial,trivial,trivial,trivial,trivial,trivial,trivial,trivial,trivial⟩,(fun _ _ _ _=>trivial),(fun _ _ _ _=>trivial),(fun _ _ _ _=>trivial),(fun _ _ _ _=>trivial),trivial⟩ rfl rfl rfl rfl) rfl ?_
    refine ab aa 2 rfl ?_
    refine ae ?_
    refine ar ?_
    refine ao ?_
    have hX:bS b (⟨idn,kind,0,ax,move,sum⟩:aE)=((⟨b.time,b.down,b.aj,b.due,b.aq,xr0,b.s1,b.n0,b.n1,(b.w0).drop 1,b.w1,b.bH,b.aN,b.book⟩:Bk),(⟨e21,0⟩:Answer)):=by
      unfold bS;dsimp only;rw [if_pos rfl];unfold fa;rw [hx1];dsimp only;unfold dv at hr1;simp only [if_true] at hr1;(try simp only [hr0]);(try unfold dC);(repeat' split)<;>first|rfl|omega|(exfalso;omega)|(simp_all;done)|(simp_all;omega)
    rw [hX] at hr;clear hX
    simp only [Prod.mk.injEq] at hr;obtain ⟨rfl,rfl⟩:=hr
    refine ah aa [0,17,18,19,20,5] 5 rfl rfl rfl rfl rfl rfl ?_ ?_
    all_goals first|rfl|(simp [au,aS,aZ];done)|(simp [au,aS,aZ];omega)
   refine az aa 2 rfl ?_
   refine aL 21 [0,17,18,19,20,16,6,5] (cv (aU [0,7,8,9,10,11,12,13,14,15]) (aU [0,17,18,19,20]) (fT (x 17) (x 19) b (⟨b.time,b.down,b.aj,b.due,b.aq,xr0,b.s1,b.n0,b.n1,(b.w0).drop 1,b.w1,b.bH,b.aN,b.book⟩:Bk) e21 (by first|assumption|omega)) fE rfl rfl ⟨⟨_,rfl,.inl ⟨rfl,rfl⟩⟩,⟨_,rfl,.inl ⟨rfl,rfl⟩⟩,trivial⟩ ⟨rfl,rfl,rfl,rfl,rfl,rfl,rfl,rfl,rfl,rfl,trivial⟩ rfl rfl rfl rfl rfl rfl trivial ⟨⟨trivial,trivial,trivial,trivial,trivial,trivial,trivial,trivial,trivial,trivial,trivial,trivial,trivial,trivial,trivial,trivial,trivial,trivial,trivial,trivial,trivial⟩,(fun _ _ _ _=>trivial),(fun _ _ _ _=>trivial),(fun _ _ _ _=>trivial),(fun _ _ _ _=>trivial),trivial⟩ rfl rfl rfl rfl) rfl ?_
   refine ab aa 2 rfl ?_
   refine ae ?_
   refine ar ?_
   refine ao ?_
   have hX:bS b (⟨idn,kind,0,ax,move,sum⟩:aE)=(b,(⟨e21,0⟩:Answer)):=by
     unfold bS;dsimp only;rw [if_pos rfl];unfold fa;rw [hx1];dsimp only;unfold dv at hr1;simp only [if_true] at hr1;(try simp only [hr0]);(try unfold dC);(repeat' split)<;>first|rfl|omega|(exfalso;omega)|(simp_all;done)|(simp_all;omega)
   rw [hX] at hr;clear hX
   simp only [Prod.mk.injEq] at hr;obtain ⟨rfl,rfl⟩:=hr
   refine ah aa [0,17,18,19,20,5] 5 rfl rfl rfl rfl rfl rfl ?_ ?_
   all_goals first|rfl|(simp [au,aS,aZ];done)|(simp [au,aS,aZ];omega)
  have hc4':=hc4;try simp only [bm,bM] at hc4'
  refine aP ?_
  rcases (show e21=0\/¬e21=0 from by omega) with hs6|hs6
  ·
   refine az aa 2 rfl ?_
   refine aL 21 [0,17,18,19,20,16,6,5] (cv (aU [0,7,8,9,10,11,12,13,14,15]) (aU [0,17,18,19,20]) (fg (x 17) (x 19) b (⟨b.time,b.down,b.aj,b.due,b.aq,b.s0,b.s1,b.n0,b.n1,(b.w0).drop 1,b.w1,b.bH,b.aN,b.book⟩:Bk) e21 (by first|assumption|omega)) fE rfl rfl ⟨⟨_,rfl,.inl ⟨rfl,rfl⟩⟩,⟨_,rfl,.inl ⟨rfl,rfl⟩⟩,trivial⟩ ⟨rfl,rfl,rfl,rfl,rfl,rfl,rfl,rfl,rfl,rfl,trivial⟩ rfl rfl rfl rfl rfl rfl trivial ⟨⟨trivial,trivial,trivial,trivial,trivial,trivial,trivial,trivial,trivial,trivial,trivial,trivial,trivial,trivial,trivial,trivial,trivial,trivial,trivial,trivial,trivial⟩,(fun _ _ _ _=>trivial),(fun _ _ _ _=>trivial),(fun _ _ _ _=>trivial),(fun _ _ _ _=>trivial),trivial⟩ rfl rfl rfl rfl) rfl ?_
   refine ab aa 2 rfl ?_
   refine ae ?_
   refine ar ?_
   refine ao ?_
   have hX:bS b (⟨idn,kind,0,ax,move,sum⟩:aE)=((⟨b.time,b.down,b.aj,b.due,b.aq,b.s0,b.s1,b.n0,b.n1,(b.w0).drop 1,b.w1,b.bH,b.aN,b.book⟩:Bk),(⟨e21,0⟩:Answer)):=by
     unfold bS;dsimp only;rw [if_pos rfl];unfold fa;rw [hx1];dsimp only;unfold dv at hr1;simp only [if_true] at hr1;(try simp only [hr0]);(try unfold dC);(repeat' split)<;>first|rfl|omega|(exfalso;omega)|(simp_all;done)|(simp_all;omega)
   rw [hX] at hr;clear hX
   simp only [Prod.mk.injEq] at hr;obtain ⟨rfl,rfl⟩:=hr
   refine ah aa [0,17,18,19,20,5] 5 rfl rfl rfl rfl rfl rfl ?_ ?_
   all_goals first|rfl|(simp [au,aS,aZ];done)|(simp [au,aS,aZ];omega)
  refine az aa 2 rfl ?_
  refine aL 21 [0,17,18,19,20,16,6,5] (cv (aU [0,7,8,9,10,11,12,13,14,15]) (aU [0,17,18,19,20]) (fT (x 17) (x 19) b (⟨b.time,b.down,b.aj,b.due,b.aq,b.s0,b.s1,b.n0,b.n1,(b.w0).drop 1,b.w1,b.bH,b.aN,b.book⟩:Bk) e21 (by first|assumption|omega)) fE rfl rfl ⟨⟨_,rfl,.inl ⟨rfl,rfl⟩⟩,⟨_,rfl,.inl ⟨rfl,rfl⟩⟩,trivial⟩ ⟨rfl,rfl,rfl,rfl,rfl,rfl,rfl,rfl,rfl,rfl,trivial⟩ rfl rfl rfl rfl rfl rfl trivial ⟨⟨trivial,trivial,trivial,trivial,trivial,trivial,trivial,trivial,trivial,trivial,trivial,trivial,trivial,trivial,trivial,trivial,trivial,trivial,trivial,trivial,trivial⟩,(fun _ _ _ _=>trivial),(fun _ _ _ _=>trivial),(fun _ _ _ _=>trivial),(fun _ _ _ _=>trivial),trivial⟩ rfl rfl rfl rfl) rfl ?_
  refine ab aa 2 rfl ?_
  refine ae ?_
  refine ar ?_
  refine ao ?_
  have hX:bS b (⟨idn,kind,0,ax,move,sum⟩:aE)=(b,(⟨e21,0⟩:Answer)):=by
    unfold bS;dsimp only;rw [if_pos rfl];unfold fa;rw [hx1];dsimp only;unfold dv at hr1;simp only [if_true] at hr1;(try simp only [hr0]);(try unfold dC);(repeat' split)<;>first|rfl|omega|(exfalso;omega)|(simp_all;done)|(simp_all;omega)
  rw [hX] at hr;clear hX
  simp only [Prod.mk.injEq] at hr;obtain ⟨rfl,rfl⟩:=hr
  refine ah aa [0,17,18,19,20,5] 5 rfl rfl rfl rfl rfl rfl ?_ ?_
  all_goals first|rfl|(simp [au,aS,aZ];done)|(simp [au,aS,aZ];omega)
 have hc3':=of_decide_eq_false hc3
 refine aP ?_
 refine af ?_
 obtain ⟨n2,ok2,hr2⟩:∃ (n2:Int) (ok2:Bool),fr b.n0 x1.ct=(n2,ok2):=⟨_,_,rfl⟩
 refine bb [0,1,4,5,6] [0,7,8,9,10,11,12,13,14,15,6,5] mixed rfl rfl ?_
 refine aA (kn:=[]) aa 8 rfl trivial ?_
 refine aT (n':=16) [126,123] [7] rfl rfl (.inl ⟨(ak.plain rfl),aK.cast (dn (i:=0) rfl rfl rfl Try.underlying36 fK rfl (by decide)) rfl⟩) rfl ?_
 refine aA (kn:=[]) aa 3 rfl trivial ?_
 refine aT (n':=16) [128,130] [] rfl rfl (.inl ⟨(ak.plain rfl),aK.cast (bJ 16 (pL b.n0 x1.ct n2 ok2 hr2) EF rfl rfl ⟨⟨_,rfl,.c (.d _)⟩,⟨_,rfl,.g ⟨.d _,.d _,.d _,.d _,trivial⟩⟩,trivial⟩ ⟨trivial,trivial,trivial⟩ trivial rfl rfl rfl rfl) rfl⟩) rfl ?_
 refine aA (kn:=[]) aa 5 rfl trivial ?_
 refine bB [0,7,8,9,10,11,12,13,14,15,6,5] rfl rfl rfl rfl (by kernel_rfl) ?_
 refine ae ?_
 refine af ?_
 refine bb [0,1,4,5,6,9,10] [0,7,8,9,10,11,12,13,14,15,6,5] mixed rfl rfl ?_
 refine aA (kn:=[]) aa 9 rfl trivial ?_
 refine aT (n':=16) [142,138] [7] rfl rfl (.inl ⟨(ak.plain rfl),aK.cast (dn (i:=0) rfl rfl rfl Try.underlying36 fK rfl (by decide)) rfl⟩) rfl ?_
 refine bB [0,7,8,9,10,11,12,13,14,15,6,5] rfl rfl rfl rfl (by kernel_rfl) ?_
 refine ab aa 1 rfl ?_
 refine ae ?_
 refine af ?_
 refine ad aa 1 rfl ?_
 refine ag rfl (fun hc7=>?_) (fun hc7=>?_)
 ·
  have hc7':=hc7;try simp only [bm,bM] at hc7'
  have hpk2:=hpk (by omega)
  refine aw ?_
  refine ab aa 3 rfl ?_
  obtain ⟨due23,cards23,book23,e23,hr3⟩:∃ (due23:List Int) (cards23:List bx) (book23:List Entry) (e23:Int),dY b.aq b.due b.aj b.book 0 x1.ct=(due23,cards23,book23,e23):=⟨_,_,_,_,rfl⟩
  refine aL 19 [7,16,17,18,0,8,9,10,11,15,6,5] (cg (aU [7,12,13,14]) (aU [7,16,17,18]) (ms:=(((((dw.set 2 (some (.s 1 0 6 b.aj.length))).set 3 (some (.s 2 0 1 b.due.length))).set 4 (some (.s 3 0 8 b.aq.length))).set 18 (some (dM b.book))).set 19 (some (cI 0)))) (ms':=(((((dw.set 2 (some (.s 1 0 6 cards23.length))).set 3 (some (.s 2 0 1 due23.length))).set 4 (some (.s 3 0 8 b.aq.length))).set 18 (some (dM book23))).set 19 (some (cI e23)))) (fun x hx=>Aq x hx b.aq b.due b.aj b.book 0 x1.ct (by first|omega|(simp;done)|(simp;omega)) (by assumption) (by first|omega|(simp;done)|(simp;omega)) (by first|omega|(simp;done)|(simp;omega)) due23 cards23 book23 e23 hr3) ED rfl rfl ⟨⟨_,rfl,.inl ⟨rfl,rfl⟩⟩,⟨_,rfl,.inr (.g ⟨.d _,.d _,.d _,.d _,trivial⟩)⟩,trivial⟩ rfl rfl rfl rfl rfl rfl rfl ⟨rfl,rfl,rfl,trivial⟩ rfl rfl rfl rfl rfl rfl rfl rfl rfl rfl rfl rfl rfl) rfl ?_
  refine ae ?_
  rcases (show e23=0\/¬e23=0 from by omega) with hs8|hs8
  ·
   refine az aa 2 rfl ?_
   refine aL 23 [0,19,20,21,22,6,5] (cv (aU [0,7,8,9,10,11,16,17,18,15]) (aU [0,19,20,21,22]) (fg (x 17) (x 19) b (⟨b.time,b.down,cards23,due23,b.aq,b.s0,b.s1,n2,b.n1,(b.w0).drop 1,b.w1,b.bH,b.aN,book23⟩:Bk) e23 (by first|assumption|omega)) fE rfl rfl ⟨⟨_,rfl,.inl ⟨rfl,rfl⟩⟩,⟨_,rfl,.inl ⟨rfl,rfl⟩⟩,trivial⟩ ⟨rfl,rfl,rfl,rfl,rfl,rfl,rfl,rfl,rfl,rfl,trivial⟩ rfl rfl rfl rfl rfl rfl trivial ⟨⟨trivial,trivial,trivial,trivial,trivial,trivial,trivial,trivial,trivial,trivial,trivial,trivial,trivial,trivial,trivial,trivial,trivial,trivial,trivial,trivial,trivial⟩,(fun _ _ _ _=>trivial),(fun _ _ _ _=>trivial),(fun _ _ _ _=>trivial),(fun _ _ _ _=>trivial),trivial⟩ rfl rfl rfl rfl) rfl ?_
   refine ab aa 2 rfl ?_
   refine ae ?_
   refine ar ?_
   have hX:bS b (⟨idn,kind,0,ax,move,sum⟩:aE)=((⟨b.time,b.down,cards23,due23,b.aq,b.s0,b.s1,n2,b.n1,(b.w0).drop 1,b.w1,b.bH,b.aN,book23⟩:Bk),(⟨e23,0⟩:Answer)):=by
     unfold bS;dsimp only;rw [if_pos rfl];unfold fa;rw [hx1];dsimp only;(try simp only [hr2,hr3]);(try unfold dC);(repeat' split)<;>first|rfl|omega|(exfalso;omega)|(simp_all;done)|(simp_all;omega)
   rw [hX] at hr;clear hX
   simp only [Prod.mk.injEq] at hr;obtain ⟨rfl,rfl⟩:=hr
   refine ah aa [0,19,20,21,22,5] 5 rfl rfl rfl rfl rfl rfl ?_ ?_
   all_goals first|rfl|(simp [au,aS,aZ];done)|(simp [au,aS,aZ];omega)
  refine az aa 2 rfl ?_
  refine aL 23 [0,19,20,21,22,6,5] (cv (aU [0,7,8,9,10,11,16,17,18,15]) (aU [0,19,20,21,22]) (fT (x 17) (x 19) b (⟨b.time,b.down,cards23,due23,b.aq,b.s0,b.s1,n2,b.n1,(b.w0).drop 1,b.w1,b.bH,b.aN,book23⟩:Bk) e23 (by first|assumption|omega)) fE rfl rfl ⟨⟨_,rfl,.inl ⟨rfl,rfl⟩⟩,⟨_,rfl,.inl ⟨rfl,rfl⟩⟩,trivial⟩ ⟨rfl,rfl,rfl,rfl,rfl,rfl,rfl,rfl,rfl,rfl,trivial⟩ rfl rfl rfl rfl rfl rfl trivial ⟨⟨trivial,trivial,trivial,trivial,trivial,trivial,trivial,trivial,trivial,trivial,trivial,trivial,trivial,trivial,trivial,trivial,trivial,trivial,trivial,trivial,trivial⟩,(fun _ _ _ _=>trivial),(fun _ _ _ _=>trivial),(fun _ _ _ _=>trivial),(fun _ _ _ _=>trivial),trivial⟩ rfl rfl rfl rfl) rfl ?_
  refine ab aa 2 rfl ?_
  refine ae ?_
  refine ar ?_
  have hX:bS b (⟨idn,kind,0,ax,move,sum⟩:aE)=(b,(⟨e23,0⟩:Answer)):=by
    unfold bS;dsimp only;rw [if_pos rfl];unfold fa;rw [hx1];dsimp only;(try simp only [hr2,hr3]);(try unfold dC);(repeat' split)<;>first|rfl|omega|(exfalso;omega)|(simp_all;done)|(simp_all;omega)
  rw [hX] at hr;clear hX
  simp only [Prod.mk.injEq] at hr;obtain ⟨rfl,rfl⟩:=hr
  refine ah aa [0,19,20,21,22,5] 5 rfl rfl rfl rfl rfl rfl ?_ ?_
  all_goals first|rfl|(simp [au,aS,aZ];done)|(simp [au,aS,aZ];omega)
 have hc7':=hc7;try simp only [bm,bM] at hc7'
 refine aP ?_
 refine az aa 2 rfl ?_
 refine aL 20 [0,16,17,18,19,6,5] (cv (aU [0,7,8,9,10,11,12,13,14,15]) (aU [0,16,17,18,19]) (fg (x 17) (x 19) b (⟨b.time,b.down,b.aj,b.due,b.aq,b.s0,b.s1,n2,b.n1,(b.w0).drop 1,b.w1,b.bH,b.aN,b.book⟩:Bk) 0 (by first|assumption|omega)) fE rfl rfl ⟨⟨_,rfl,.inl ⟨rfl,rfl⟩⟩,⟨_,rfl,.inl ⟨rfl,rfl⟩⟩,trivial⟩ ⟨rfl,rfl,rfl,rfl,rfl,rfl,rfl,rfl,rfl,rfl,trivial⟩ rfl rfl rfl rfl rfl rfl trivial ⟨⟨trivial,trivial,trivial,trivial,trivial,trivial,trivial,trivial,trivial,trivial,trivial,trivial,trivial,trivial,trivial,trivial,trivial,trivial,trivial,trivial,trivial⟩,(fun _ _ _ _=>trivial),(fun _ _ _ _=>trivial),(fun _ _ _ _=>trivial),(fun _ _ _ _=>trivial),trivial⟩ rfl rfl rfl rfl) rfl ?_
 refine ab aa 2 rfl ?_
 refine ae ?_
 refine ar ?_
 have hX:bS b (⟨idn,kind,0,ax,move,sum⟩:aE)=((⟨b.time,b.down,b.aj,b.due,b.aq,b.s0,b.s1,n2,b.n1,(b.w0).drop 1,b.w1,b.bH,b.aN,b.book⟩:Bk),(⟨0,0⟩:Answer)):=by
   unfold bS;dsimp only;rw [if_pos rfl];unfold fa;rw [hx1];dsimp only;(try simp only [hr2]);(try unfold dC);(repeat' split)<;>first|rfl|omega|(exfalso;omega)|(simp_all;done)|(simp_all;omega)
 rw [hX] at hr;clear hX
 simp only [Prod.mk.injEq] at hr;obtain ⟨rfl,rfl⟩:=hr
 refine ah aa [0,16,17,18,19,5] 5 rfl rfl rfl rfl rfl rfl ?_ ?_
 all_goals first|rfl|(simp [au,aS,aZ];done)|(simp [au,aS,aZ];omega)
theorem Ay (x:Nat->Value) (hx:∀ i,(x i).oneCell'=true) (b:Bk) (idn kind ax move sum:Int) (ok:cm b) (b2:Bk) (a2:Answer) (hr:bS b (⟨idn,kind,1,ax,move,sum⟩:aE)=(b2,a2)):cA Try.prog 67 [(.c (.p 0 0 0 0)),(.c (.q (cG (⟨idn,kind,1,ax,move,sum⟩:aE)) 0))] [(0,(.box 98 (aS b 1 2 3 4 (.d (.v (x 17))) (.d (.v (x 19)))))),(1,(dR b.aj)),(2,(dL b.due)),(3,(dX b.aq)),(4,(cH b.aN))] [0] (.v (.g [cI a2.err,cI a2.ba])) [(0,(.box 98 (aS b2 1 2 3 4 (.d (.v (x 17))) (.d (.v (x 19)))))),(1,(dR b2.aj)),(2,(dL b2.due)),(3,(dX b2.aq)),(4,(cH b2.aN))]:=by
 refine cA.mk 153 [(0,(aC (.p 0 0 0 0))),(1,(aC (.q (cG (⟨idn,kind,1,ax,move,sum⟩:aE)) 0)))] 5 Try.func67 rfl rfl rfl rfl rfl rfl rfl rfl rfl ?_
 intro W0 F0 T0 pg
 obtain ⟨okt,okc,okd,oka,oky,okw0,okw1,okp,okv,okk0,okk1,okg,okl0,okl1,okp0,okp1,okn0,okn1,okq⟩:=id ok
 refine ad aa 1 rfl ?_
 refine af ?_
 refine af ?_
 refine bb [0,1,4] [5,0,1,2,3,4] mixed rfl rfl ?_
 refine aA (kn:=[(15,true),(21,false)]) aa 21 rfl ⟨rfl,rfl,trivial⟩ ?_
 refine aT (n':=6) [31,28,23] [0] rfl rfl (.inl ⟨(ak.yes rfl rfl rfl),aK.cast (dn (i:=1) rfl rfl rfl Try.underlying38 kI rfl (by decide)) rfl⟩) rfl ?_
 refine aA (kn:=[]) aa 1 rfl trivial ?_
 refine aT (n':=6) [33,23] [] rfl rfl (.inl ⟨(ak.yes rfl rfl rfl),aK.cast (cT rfl rfl rfl rfl rfl Try.underlying37) rfl⟩) rfl ?_
 refine aA (kn:=[]) aa 2 rfl trivial ?_
 refine bB [5,0,1,2,3,4] rfl rfl rfl rfl (by kernel_rfl) ?_
 refine ae ?_
 refine ag rfl (fun hc1=>?_) (fun hc1=>?_)
 ·
  have hc1':=of_decide_eq_true hc1
  refine ad aa 2 rfl ?_
  refine ar ?_
  refine ao ?_
  have hX:bS b (⟨idn,kind,1,ax,move,sum⟩:aE)=(b,(⟨6,0⟩:Answer)):=by
    unfold bS;dsimp only;rw [if_neg (by decide),if_pos rfl];unfold eZ;rw [List.getElem?_eq_none (by omega)]
  rw [hX] at hr;clear hX
  simp only [Prod.mk.injEq] at hr;obtain ⟨rfl,rfl⟩:=hr
  refine ah aa [0,1,2,3,4,5] 5 rfl rfl rfl rfl rfl rfl ?_ ?_
  all_goals first|rfl|(simp [au,aS,aZ];done)|(simp [au,aS,aZ];omega)
 have hc1':=of_decide_eq_false hc1
 refine aP ?_
 refine af ?_
 obtain ⟨x1,hx1⟩:=ch (xs:=b.w1) (i:=0) (by first|omega|(simp;done)|(simp;omega))
 refine bb [0,1,4] [5,0,1,2,3,4] mixed rfl rfl ?_
 refine aA (kn:=[]) aa 8 rfl trivial ?_
 refine aT (n':=6) [45,42] [0] rfl rfl (.inl ⟨(ak.plain rfl),aK.cast (dn (i:=1) rfl rfl rfl Try.underlying38 kI rfl (by decide)) rfl⟩) rfl ?_
 refine aA (kn:=[]) aa 1 rfl trivial ?_
 refine aT (n':=6) [47] [] rfl rfl (.inl ⟨(ak.plain rfl),aK.cast (cQ (i:=0) rfl rfl rfl Try.underlying37 uh (by first|omega|(simp;done)|(simp;omega)) (bw hx1)) rfl⟩) rfl ?_
 refine aA (n':=7) (kn:=[]) aa 2 rfl trivial ?_
 refine bB [6,5,0,1,2,3,4] rfl rfl rfl rfl (by kernel_rfl) ?_
 refine ab aa 1 rfl ?_
 refine ae ?_
 have hpk:=okp1 x1 (List.mem_of_getElem? hx1)
 have hI0:∀ t∈b.s0.kept,fG t.number:=fun t ht=>(okk0 t ht).1
 have hI1:∀ t∈b.s1.kept,fG t.number:=fun t ht=>(okk1 t ht).1
 have hA:∀ a∈b.aq,0<=a.aJ/\a.aJ < b.aj.length/\0<=a.ax/\a.ax < b.due.length:=fun a ha=>(okp a ha).2
 refine az aa 1 rfl ?_
 refine aL 16 [0,7,8,9,10,11,12,13,14,15,6,5] (cv id (aU [0,7,8,9,10,11,12,13,14,15]) (kc (x 17) (x 19) b (by first|omega|(simp;done)|(simp;omega)) (by first|omega|(simp;done)|(simp;omega)) (by first|omega|(simp;done)|(simp;omega)) (by first|omega|(simp;done)|(simp;omega))) qu rfl rfl ⟨⟨_,rfl,.inl ⟨rfl,rfl⟩⟩,trivial⟩ ⟨rfl,rfl,rfl,rfl,rfl,trivial⟩ rfl rfl rfl rfl rfl rfl trivial ⟨⟨trivial,trivial,trivial,trivial,trivial,trivial,trivial,trivial,trivial,trivial,trivial,trivial,trivial,trivial,trivial,trivial,trivial,trivial,trivial,trivial,trivial⟩,⟨trivial,trivial,trivial,trivial,trivial,trivial,trivial,trivial,trivial,trivial,trivial,trivial,trivial,trivial,trivial,trivial,trivial,trivial,trivial,trivial,trivial⟩,(fun _ _ _ _=>trivial),(fun _ _ _ _=>trivial),(fun _ _ _ _=>trivial),(fun _ _ _ _=>trivial),(fun _ _ _ _=>trivial),(fun _ _ _ _=>trivial),(fun _ _ _ _=>trivial),(fun _ _ _ _=>trivial),trivial⟩ rfl rfl rfl rfl) rfl ?_
 refine ab aa 1 rfl ?_
 refine ae ?_
 refine af ?_
 refine bb [0,1,4,5,6] [0,7,8,9,10,11,12,13,14,15,6,5] mixed rfl rfl ?_
 refine aA (kn:=[]) aa 13 rfl trivial ?_
 refine aT (n':=16) [64,61] [0] rfl rfl (.inl ⟨(ak.plain rfl),aK.cast (dn (i:=1) rfl rfl rfl Try.underlying38 kI rfl (by decide)) rfl⟩) rfl ?_
 refine aA (kn:=[]) aa 1 rfl trivial ?_
 refine aT (n':=16) [66] [] rfl rfl (.inl ⟨(ak.plain rfl),aK.cast (vw (l:=1) (h:=b.w1.length) (ys:=((b.w1).drop 1).map fj) rfl Try.underlying37 uh rfl (.inr ⟨_,rfl,rfl⟩) (.inl ⟨rfl,by simp⟩) (by first|omega|(simp;done)|(simp;omega)) (by first|omega|(simp;done)|(simp;omega)) (by first|(simp;done)|(rw [List.map_drop];exact List.take_of_length_le (by simp)))) rfl⟩) rfl ?_
 refine aA (kn:=[]) aa 3 rfl trivial ?_
 refine aT (n':=16) [70,56] [7] rfl rfl (.inl ⟨(ak.plain rfl),aK.cast (dn (i:=1) rfl rfl rfl Try.underlying38 kI rfl (by decide)) rfl⟩) rfl ?_
 refine bB [0,7,8,9,10,11,12,13,14,15,6,5] rfl rfl rfl rfl (by kernel_rfl) ?_
 refine ab aa 1 rfl ?_
 refine ae ?_
 refine af ?_
 refine ad aa 5 rfl ?_
 refine ag rfl (fun hc2=>?_) (fun hc2=>?_)
 ·
  have hc2':=of_decide_eq_true hc2
  refine az aa 2 rfl ?_
  refine aL 20 [0,16,17,18,19,6,5] (cv (aU [0,7,8,9,10,11,12,13,14,15]) (aU [0,16,17,18,19]) (fg (x 17) (x 19) b (⟨b.time,b.down,b.aj,b.due,b.aq,b.s0,b.s1,b.n0,b.n1,b.w0,(b.w1).drop 1,b.bH,b.aN,b.book⟩:Bk) 0 (by first|assumption|omega)) fE rfl rfl ⟨⟨_,rfl,.inl ⟨rfl,rfl⟩⟩,⟨_,rfl,.inl ⟨rfl,rfl⟩⟩,trivial⟩ ⟨rfl,rfl,rfl,rfl,rfl,rfl,rfl,rfl,rfl,rfl,trivial⟩ rfl rfl rfl rfl rfl rfl trivial ⟨⟨trivial,trivial,trivial,trivial,trivial,trivial,trivial,trivial,trivial,trivial,trivial,trivial,trivial,trivial,trivial,trivial,trivial,trivial,trivial,trivial,trivial⟩,(fun _ _ _ _=>trivial),(fun _ _ _ _=>trivial),(fun _ _ _ _=>trivial),(fun _ _ _ _=>trivial),trivial⟩ rfl rfl rfl rfl) rfl ?_
  refine ab aa 2 rfl ?_
  refine ae ?_
  refine ar ?_
  refine ao ?_
  have hX:bS b (⟨idn,kind,1,ax,move,sum⟩:aE)=((⟨b.time,b.down,b.aj,b.due,b.aq,b.s0,b.s1,b.n0,b.n1,b.w0,(b.w1).drop 1,b.bH,b.aN,b.book⟩:Bk),(⟨0,0⟩:Answer)):=by
    unfold bS;dsimp only;rw [if_neg (by decide),if_pos rfl];unfold eZ;rw [hx1];dsimp only;(try simp only [dC]);(try unfold dC);(repeat' split)<;>first|rfl|omega|(exfalso;omega)|(simp_all;done)|(simp_all;omega)
  rw [hX] at hr;clear hX
  simp only [Prod.mk.injEq] at hr;obtain ⟨rfl,rfl⟩:=hr
  refine ah aa [0,16,17,18,19,5] 5 rfl rfl rfl rfl rfl rfl ?_ ?_
  all_goals first|rfl|(simp [au,aS,aZ];done)|(simp [au,aS,aZ];omega)
 have hc2':=of_decide_eq_false hc2
 refine aP ?_
 refine af ?_
 refine ad aa 3 rfl ?_
 refine ag rfl (fun hc3=>?_) (fun hc3=>?_)
 ·
  have hc3':=of_decide_eq_true hc3
  refine af ?_
  obtain ⟨xr0,e0,hr0⟩:∃ (xr0:bR) (e0:Int),dO b.s1 x1.seen=(xr0,e0):=⟨_,_,rfl⟩
  refine db [0,1,4,5,6] [0,7,8,9,10,11,12,13,14,15,6,5] mixed rfl rfl ?_
  refine bT (kn:=[]) aa 8 rfl trivial ?_
  refine bW (n':=16) [92,89] [7] rfl rfl (.inl ⟨(ak.plain rfl),aK.cast (dn (i:=1) rfl rfl rfl Try.underlying35 mg rfl (by decide)) rfl⟩) rfl ?_
  refine bT (kn:=[]) aa 3 rfl trivial ?_
  refine bW (n':=16) [94,96] [] rfl rfl (.inl ⟨(ak.plain rfl),aK.cast (bJ 16 (Fn.frozen (av':=(.t [(.g [(cI xr0.bE),(dc xr0.kept)]),(.c (cI e0))])) (pM b.s1 x1.seen (by first|assumption|exact jY (by assumption) (by omega)|exact jn (by assumption) (by assumption)|(simp [fG];done)) xr0 e0 hr0) ⟨⟨.inl ⟨_,rfl,rfl⟩,.inr ⟨_,_,_,_,_,rfl,rfl,rfl,by simp⟩,trivial⟩,.inl ⟨_,rfl,rfl⟩,trivial⟩) EG rfl rfl ⟨⟨_,rfl,.g ⟨.d _,.d _,trivial⟩⟩,⟨_,rfl,.c (.d _)⟩,trivial⟩ ⟨⟨trivial,trivial,trivial⟩,trivial,trivial⟩ trivial rfl rfl rfl rfl) rfl⟩) rfl ?_
  refine bT (n':=17) (kn:=[]) aa 6 rfl trivial ?_
  refine dS [0,1,4,5,6,7,8] [16,0,7,8,9,10,11,12,13,14,15,6,5] rfl rfl (by kernel_rfl) ?_
  refine then_ok ?_
  refine af ?_
  refine az aa 2 rfl ?_
  obtain ⟨e21,hr1⟩:∃ (e21:Int),dv 0 e0=e21:=⟨_,rfl⟩
  refine aL 17 [7,16,0,8,9,10,11,12,13,14,15,6,5] (cg (aU [7]) (aU [7]) (ms:=(dw.set 19 (some (cI 0)))) (ms':=(dw.set 19 (some (cI e21)))) (fun x hx=>jI x hx 0 e0 e21 hr1) nv rfl rfl ⟨⟨_,rfl,.inl ⟨rfl,rfl⟩⟩,⟨_,rfl,.inr (.c (.d _))⟩,trivial⟩ rfl rfl rfl rfl rfl rfl rfl trivial rfl rfl rfl rfl rfl rfl rfl rfl rfl rfl rfl rfl rfl) rfl ?_
  refine ab aa 1 rfl ?_
  refine ae ?_
  refine ag rfl (fun hc4=>?_) (fun hc4=>?_)
  ·
   have hc4':=hc4;try simp only [bm,bM] at hc4'
   refine bb [0,1,4,5,6,7] [7,16,0,8,9,10,11,12,13,14,15,6,5] mixed rfl rfl ?_
   refine aA (kn:=[]) aa 9 rfl trivial ?_
   refine aT (n':=17) [112,108] [7] rfl rfl (.inl ⟨(ak.plain rfl),aK.cast (dn (i:=1) rfl rfl rfl Try.underlying35 mg rfl (by decide)) rfl⟩) rfl ?_
   refine bB [7,16,0,8,9,10,11,12,13,14,15,6,5] rfl rfl rfl rfl (by kernel_rfl) ?_
   refine ab aa 1 rfl ?_
   refine ae ?_
   rcases (show e21=0\/¬e21=0 from by omega) with hs5|hs5
   ·
    refine az aa 2 rfl ?_
    refine aL 21 [0,17,18,19,20,16,6,5] (cv (aU [0,7,8,9,10,11,12,13,14,15]) (aU [0,17,18,19,20]) (fg (x 17) (x 19) b (⟨b.time,b.down,b.aj,b.due,b.aq,b.s0,xr0,b.n0,b.n1,b.w0,(b.w1).drop 1,b.bH,b.aN,b.book⟩:Bk) e21 (by first|assumption|omega)) fE rfl rfl ⟨⟨_,rfl,.inl ⟨rfl,rfl⟩⟩,⟨_,rfl,.inl ⟨rfl,rfl⟩⟩,trivial⟩ ⟨rfl,rfl,rfl,rfl,rfl,rfl,rfl,rfl,rfl,rfl,trivial⟩ rfl rfl rfl rfl rfl rfl trivial ⟨⟨trivial,trivial,trivial,trivial,trivial,trivial,trivial,trivial,trivial,trivial,trivial,trivial,trivial,trivial,trivial,trivial,trivial,trivial,trivial,trivial,trivial⟩,(fun _ _ _ _=>trivial),(fun _ _ _ _=>trivial),(fun _ _ _ _=>trivial),(fun _ _ _ _=>trivial),trivial⟩ rfl rfl rfl rfl) rfl ?_
    refine ab aa 2 rfl ?_
    refine ae ?_
    refine ar ?_
    refine ao ?_
    have hX:bS b (⟨idn,kind,1,ax,move,sum⟩:aE)=((⟨b.time,b.down,b.aj,b.due,b.aq,b.s0,xr0,b.n0,b.n1,b.w0,(b.w1).drop 1,b.bH,b.aN,b.book⟩:Bk),(⟨e21,0⟩:Answer)):=by
      unfold bS;dsimp only;rw [if_neg (by decide),if_pos rfl];unfold eZ;rw [hx1];dsimp only;unfold dv at hr1;simp only [if_true] at hr1;(try simp only [hr0]);(try unfold dC);(repeat' split)<;>first|rfl|omega|(exfalso;omega)|(simp_all;done)|(simp_all;omega)
    rw [hX] at hr;clear hX
    simp only [Prod.mk.injEq] at hr;obtain ⟨rfl,rfl⟩:=hr
    refine ah aa [0,17,18,19,20,5] 5 rfl rfl rfl rfl rfl rfl ?_ ?_
    all_goals first|rfl|(simp [au,aS,aZ];done)|(simp [au,aS,aZ];omega)
   refine az aa 2 rfl ?_
   refine aL 21 [0,17,18,19,20,16,6,5] (cv (aU [0,7,8,9,10,11,12,13,14,15]) (aU [0,17,18,19,20]) (fT (x 17) (x 19) b (⟨b.time,b.down,b.aj,b.due,b.aq,b.s0,xr0,b.n0,b.n1,b.w0,(b.w1).drop 1,b.bH,b.aN,b.book⟩:Bk) e21 (by first|assumption|omega)) fE rfl rfl ⟨⟨_,rfl,.inl ⟨rfl,rfl⟩⟩,⟨_,rfl,.inl ⟨rfl,rfl⟩⟩,trivial⟩ ⟨rfl,rfl,rfl,rfl,rfl,rfl,rfl,rfl,rfl,rfl,trivial⟩ rfl rfl rfl rfl rfl rfl trivial ⟨⟨trivial,trivial,trivial,trivial,trivial,trivial,trivial,trivial,trivial,trivial,trivial,trivial,trivial,trivial,trivial,trivial,trivial,trivial,trivial,trivial,trivial⟩,(fun _ _ _ _=>trivial),(fun _ _ _ _=>trivial),(fun _ _ _ _=>trivial),(fun _ _ _ _=>trivial),trivial⟩ rfl rfl rfl rfl) rfl ?_
   refine ab aa 2 rfl ?_
   refine ae ?_
   refine ar ?_
   refine ao ?_
   have hX:bS b (⟨idn,kind,1,ax,move,sum⟩:aE)=(b,(⟨e21,0⟩:Answer)):=by
     unfold bS;dsimp only;rw [if_neg (by decide),if_pos rfl];unfold eZ;rw [hx1];dsimp only;unfold dv at hr1;simp only [if_true] at hr1;(try simp only [hr0]);(try unfold dC);(repeat' split)<;>first|rfl|omega|(exfalso;omega)|(simp_all;done)|(simp_all;omega)
   rw [hX] at hr;clear hX
   simp only [Prod.mk.injEq] at hr;obtain ⟨rfl,rfl⟩:=hr
   refine ah aa [0,17,18,19,20,5] 5 rfl rfl rfl rfl rfl rfl ?_ ?_
   all_goals first|rfl|(simp [au,aS,aZ];done)|(simp [au,aS,aZ];omega)
  have hc4':=hc4;try simp only [bm,bM] at hc4'
  refine aP ?_
  rcases (show e21=0\/¬e21=0 from by omega) with hs6|hs6
  ·
   refine az aa 2 rfl ?_
   refine aL 21 [0,17,18,19,20,16,6,5] (cv (aU [0,7,8,9,10,11,12,13,14,15]) (aU [0,17,18,19,20]) (fg (x 17) (x 19) b (⟨b.time,b.down,b.aj,b.due,b.aq,b.s0,b.s1,b.n0,b.n1,b.w0,(b.w1).drop 1,b.bH,b.aN,b.book⟩:Bk) e21 (by first|assumption|omega)) fE rfl rfl ⟨⟨_,rfl,.inl ⟨rfl,rfl⟩⟩,⟨_,rfl,.inl ⟨rfl,rfl⟩⟩,trivial⟩ ⟨rfl,rfl,rfl,rfl,rfl,rfl,rfl,rfl,rfl,rfl,trivial⟩ rfl rfl rfl rfl rfl rfl trivial ⟨⟨trivial,trivial,trivial,trivial,trivial,trivial,trivial,trivial,trivial,trivial,trivial,trivial,trivial,trivial,trivial,trivial,trivial,trivial,trivial,trivial,trivial⟩,(fun _ _ _ _=>trivial),(fun _ _ _ _=>trivial),(fun _ _ _ _=>trivial),(fun _ _ _ _=>trivial),trivial⟩ rfl rfl rfl rfl) rfl ?_
   refine ab aa 2 rfl ?_
   refine ae ?_
   refine ar ?_
   refine ao ?_
   have hX:bS b (⟨idn,kind,1,ax,move,sum⟩:aE)=((⟨b.time,b.down,b.aj,b.due,b.aq,b.s0,b.s1,b.n0,b.n1,b.w0,(b.w1).drop 1,b.bH,b.aN,b.book⟩:Bk),(⟨e21,0⟩:Answer)):=by
     unfold bS;dsimp only;rw [if_neg (by decide),if_pos rfl];unfold eZ;rw [hx1];dsimp only;unfold dv at hr1;simp only [if_true] at hr1;(try simp only [hr0]);(try unfold dC);(repeat' split)<;>first|rfl|omega|(exfalso;omega)|(simp_all;done)|(simp_all;omega)
   rw [hX] at hr;clear hX
   simp only [Prod.mk.injEq] at hr;obtain ⟨rfl,rfl⟩:=hr
   refine ah aa [0,17,18,19,20,5] 5 rfl rfl rfl rfl rfl rfl ?_ ?_
   all_goals first|rfl|(simp [au,aS,aZ];done)|(simp [au,aS,aZ];omega)
  refine az aa 2 rfl ?_
  refine aL 21 [0,17,18,19,20,16,6,5] (cv (aU [0,7,8,9,10,11,12,13,14,15]) (aU [0,17,18,19,20]) (fT (x 17) (x 19) b (⟨b.time,b.down,b.aj,b.due,b.aq,b.s0,b.s1,b.n0,b.n1,b.w0,(b.w1).drop 1,b.bH,b.aN,b.book⟩:Bk) e21 (by first|assumption|omega)) fE rfl rfl ⟨⟨_,rfl,.inl ⟨rfl,rfl⟩⟩,⟨_,rfl,.inl ⟨rfl,rfl⟩⟩,trivial⟩ ⟨rfl,rfl,rfl,rfl,rfl,rfl,rfl,rfl,rfl,rfl,trivial⟩ rfl rfl rfl rfl rfl rfl trivial ⟨⟨trivial,trivial,trivial,trivial,trivial,trivial,trivial,trivial,trivial,trivial,trivial,trivial,trivial,trivial,trivial,trivial,trivial,trivial,trivial,trivial,trivial⟩,(fun _ _ _ _=>trivial),(fun _ _ _ _=>trivial),(fun _ _ _ _=>trivial),(fun _ _ _ _=>trivial),trivial⟩ rfl rfl rfl rfl) rfl ?_
  refine ab aa 2 rfl ?_
  refine ae ?_
  refine ar ?_
  refine ao ?_
  have hX:bS b (⟨idn,kind,1,ax,move,sum⟩:aE)=(b,(⟨e21,0⟩:Answer)):=by
    unfold bS;dsimp only;rw [if_neg (by decide),if_pos rfl];unfold eZ;rw [hx1];dsimp only;unfold dv at hr1;simp only [if_true] at hr1;(try simp only [hr0]);(try unfold dC);(repeat' split)<;>first|rfl|omega|(exfalso;omega)|(simp_all;done)|(simp_all;omega)
  rw [hX] at hr;clear hX
  simp only [Prod.mk.injEq] at hr;obtain ⟨rfl,rfl⟩:=hr
  refine ah aa [0,17,18,19,20,5] 5 rfl rfl rfl rfl rfl rfl ?_ ?_
  all_goals first|rfl|(simp [au,aS,aZ];done)|(simp [au,aS,aZ];omega)
 have hc3':=of_decide_eq_false hc3
 refine aP ?_
 refine af ?_
 obtain ⟨n2,ok2,hr2⟩:∃ (n2:Int) (ok2:Bool),fr b.n1 x1.ct=(n2,ok2):=⟨_,_,rfl⟩
 refine bb [0,1,4,5,6] [0,7,8,9,10,11,12,13,14,15,6,5] mixed rfl rfl ?_
 refine aA (kn:=[]) aa 8 rfl trivial ?_
 refine aT (n':=16) [126,123] [7] rfl rfl (.inl ⟨(ak.plain rfl),aK.cast (dn (i:=1) rfl rfl rfl Try.underlying36 fK rfl (by decide)) rfl⟩) rfl ?_
 refine aA (kn:=[]) aa 3 rfl trivial ?_
 refine aT (n':=16) [128,130] [] rfl rfl (.inl ⟨(ak.plain rfl),aK.cast (bJ 16 (pL b.n1 x1.ct n2 ok2 hr2) EF rfl rfl ⟨⟨_,rfl,.c (.d _)⟩,⟨_,rfl,.g ⟨.d _,.d _,.d _,.d _,trivial⟩⟩,trivial⟩ ⟨trivial,trivial,trivial⟩ trivial rfl rfl rfl rfl) rfl⟩) rfl ?_
 refine aA (kn:=[]) aa 5 rfl trivial ?_
 refine bB [0,7,8,9,10,11,12,13,14,15,6,5] rfl rfl rfl rfl (by kernel_rfl) ?_
 refine ae ?_
 refine af ?_
 refine bb [0,1,4,5,6,9,10] [0,7,8,9,10,11,12,13,14,15,6,5] mixed rfl rfl ?_
 refine aA (kn:=[]) aa 9 rfl trivial ?_
 refine aT (n':=16) [142,138] [7] rfl rfl (.inl ⟨(ak.plain rfl),aK.cast (dn (i:=1) rfl rfl rfl Try.underlying36 fK rfl (by decide)) rfl⟩) rfl ?_
 refine bB [0,7,8,9,10,11,12,13,14,15,6,5] rfl rfl rfl rfl (by kernel_rfl) ?_
 refine ab aa 1 rfl ?_
 refine ae ?_
 refine af ?_
 refine ad aa 1 rfl ?_
 refine ag rfl (fun hc7=>?_) (fun hc7=>?_)
 ·
  have hc7':=hc7;try simp only [bm,bM] at hc7'
  have hpk2:=hpk (by omega)
  refine aw ?_
  refine ab aa 3 rfl ?_
  obtain ⟨due23,cards23,book23,e23,hr3⟩:∃ (due23:List Int) (cards23:List bx) (book23:List Entry) (e23:Int),dY b.aq b.due b.aj b.book 0 x1.ct=(due23,cards23,book23,e23):=⟨_,_,_,_,rfl⟩
  refine aL 19 [7,16,17,18,0,8,9,10,11,15,6,5] (cg (aU [7,12,13,14]) (aU [7,16,17,18]) (ms:=(((((dw.set 2 (some (.s 1 0 6 b.aj.length))).set 3 (some (.s 2 0 1 b.due.length))).set 4 (some (.s 3 0 8 b.aq.length))).set 18 (some (dM b.book))).set 19 (some (cI 0)))) (ms':=(((((dw.set 2 (some (.s 1 0 6 cards23.length))).set 3 (some (.s 2 0 1 due23.length))).set 4 (some (.s 3 0 8 b.aq.length))).set 18 (some (dM book23))).set 19 (some (cI e23)))) (fun x hx=>Aq x hx b.aq b.due b.aj b.book 0 x1.ct (by first|omega|(simp;done)|(simp;omega)) (by assumption) (by first|omega|(simp;done)|(simp;omega)) (by first|omega|(simp;done)|(simp;omega)) due23 cards23 book23 e23 hr3) ED rfl rfl ⟨⟨_,rfl,.inl ⟨rfl,rfl⟩⟩,⟨_,rfl,.inr (.g ⟨.d _,.d _,.d _,.d _,trivial⟩)⟩,trivial⟩ rfl rfl rfl rfl rfl rfl rfl ⟨rfl,rfl,rfl,trivial⟩ rfl rfl rfl rfl rfl rfl rfl rfl rfl rfl rfl rfl rfl) rfl ?_
  refine ae ?_
  rcases (show e23=0\/¬e23=0 from by omega) with hs8|hs8
  ·
   refine az aa 2 rfl ?_
   refine aL 23 [0,19,20,21,22,6,5] (cv (aU [0,7,8,9,10,11,16,17,18,15]) (aU [0,19,20,21,22]) (fg (x 17) (x 19) b (⟨b.time,b.down,cards23,due23,b.aq,b.s0,b.s1,b.n0,n2,b.w0,(b.w1).drop 1,b.bH,b.aN,book23⟩:Bk) e23 (by first|assumption|omega)) fE rfl rfl ⟨⟨_,rfl,.inl ⟨rfl,rfl⟩⟩,⟨_,rfl,.inl ⟨rfl,rfl⟩⟩,trivial⟩ ⟨rfl,rfl,rfl,rfl,rfl,rfl,rfl,rfl,rfl,rfl,trivial⟩ rfl rfl rfl rfl rfl rfl trivial ⟨⟨trivial,trivial,trivial,trivial,trivial,trivial,trivial,trivial,trivial,trivial,trivial,trivial,trivial,trivial,trivial,trivial,trivial,trivial,trivial,trivial,trivial⟩,(fun _ _ _ _=>trivial),(fun _ _ _ _=>trivial),(fun _ _ _ _=>trivial),(fun _ _ _ _=>trivial),trivial⟩ rfl rfl rfl rfl) rfl ?_
   refine ab aa 2 rfl ?_
   refine ae ?_
   refine ar ?_
   have hX:bS b (⟨idn,kind,1,ax,move,sum⟩:aE)=((⟨b.time,b.down,cards23,due23,b.aq,b.s0,b.s1,b.n0,n2,b.w0,(b.w1).drop 1,b.bH,b.aN,book23⟩:Bk),(⟨e23,0⟩:Answer)):=by
     unfold bS;dsimp only;rw [if_neg (by decide),if_pos rfl];unfold eZ;rw [hx1];dsimp only;(try simp only [hr2,hr3]);(try unfold dC);(repeat' split)<;>first|rfl|omega|(exfalso;omega)|(simp_all;done)|(simp_all;omega)
   rw [hX] at hr;clear hX
   simp only [Prod.mk.injEq] at hr;obtain ⟨rfl,rfl⟩:=hr
   refine ah aa [0,19,20,21,22,5] 5 rfl rfl rfl rfl rfl rfl ?_ ?_
   all_goals first|rfl|(simp [au,aS,aZ];done)|(simp [au,aS,aZ];omega)
  refine az aa 2 rfl ?_
  refine aL 23 [0,19,20,21,22,6,5] (cv (aU [0,7,8,9,10,11,16,17,18,15]) (aU [0,19,20,21,22]) (fT (x 17) (x 19) b (⟨b.time,b.down,cards23,due23,b.aq,b.s0,b.s1,b.n0,n2,b.w0,(b.w1).drop 1,b.bH,b.aN,book23⟩:Bk) e23 (by first|assumption|omega)) fE rfl rfl ⟨⟨_,rfl,.inl ⟨rfl,rfl⟩⟩,⟨_,rfl,.inl ⟨rfl,rfl⟩⟩,trivial⟩ ⟨rfl,rfl,rfl,rfl,rfl,rfl,rfl,rfl,rfl,rfl,trivial⟩ rfl rfl rfl rfl rfl rfl trivial ⟨⟨trivial,trivial,trivial,trivial,trivial,trivial,trivial,trivial,trivial,trivial,trivial,trivial,trivial,trivial,trivial,trivial,trivial,trivial,trivial,trivial,trivial⟩,(fun _ _ _ _=>trivial),(fun _ _ _ _=>trivial),(fun _ _ _ _=>trivial),(fun _ _ _ _=>trivial),trivial⟩ rfl rfl rfl rfl) rfl ?_
  refine ab aa 2 rfl ?_
  refine ae ?_
  refine ar ?_
  have hX:bS b (⟨idn,kind,1,ax,move,sum⟩:aE)=(b,(⟨e23,0⟩:Answer)):=by
    unfold bS;dsimp only;rw [if_neg (by decide),if_pos rfl];unfold eZ;rw [hx1];dsimp only;(try simp only [hr2,hr3]);(try unfold dC);(repeat' split)<;>first|rfl|omega|(exfalso;omega)|(simp_all;done)|(simp_all;omega)
  rw [hX] at hr;clear hX
  simp only [Prod.mk.injEq] at hr;obtain ⟨rfl,rfl⟩:=hr
  refine ah aa [0,19,20,21,22,5] 5 rfl rfl rfl rfl rfl rfl ?_ ?_
  all_goals first|rfl|(simp [au,aS,aZ];done)|(simp [au,aS,aZ];omega)
 have hc7':=hc7;try simp only [bm,bM] at hc7'
 refine aP ?_
 refine az aa 2 rfl ?_
 refine aL 20 [0,16,17,18,19,6,5] (cv (aU [0,7,8,9,10,11,12,13,14,15]) (aU [0,16,17,18,19]) (fg (x 17) (x 19) b (⟨b.time,b.down,b.aj,b.due,b.aq,b.s0,b.s1,b.n0,n2,b.w0,(b.w1).drop 1,b.bH,b.aN,b.book⟩:Bk) 0 (by first|assumption|omega)) fE rfl rfl ⟨⟨_,rfl,.inl ⟨rfl,rfl⟩⟩,⟨_,rfl,.inl ⟨rfl,rfl⟩⟩,trivial⟩ ⟨rfl,rfl,rfl,rfl,rfl,rfl,rfl,rfl,rfl,rfl,trivial⟩ rfl rfl rfl rfl rfl rfl trivial ⟨⟨trivial,trivial,trivial,trivial,trivial,trivial,trivial,trivial,trivial,trivial,trivial,trivial,trivial,trivial,trivial,trivial,trivial,trivial,trivial,trivial,trivial⟩,(fun _ _ _ _=>trivial),(fun _ _ _ _=>trivial),(fun _ _ _ _=>trivial),(fun _ _ _ _=>trivial),trivial⟩ rfl rfl rfl rfl) rfl ?_
 refine ab aa 2 rfl ?_
 refine ae ?_
 refine ar ?_
 have hX:bS b (⟨idn,kind,1,ax,move,sum⟩:aE)=((⟨b.time,b.down,b.aj,b.due,b.aq,b.s0,b.s1,b.n0,n2,b.w0,(b.w1).drop 1,b.bH,b.aN,b.book⟩:Bk),(⟨0,0⟩:Answer)):=by
   unfold bS;dsimp only;rw [if_neg (by decide),if_pos rfl];unfold eZ;rw [hx1];dsimp only;(try simp only [hr2]);(try unfold dC);(repeat' split)<;>first|rfl|omega|(exfalso;omega)|(simp_all;done)|(simp_all;omega)
 rw [hX] at hr;clear hX
 simp only [Prod.mk.injEq] at hr;obtain ⟨rfl,rfl⟩:=hr
 refine ah aa [0,16,17,18,19,5] 5 rfl rfl rfl rfl rfl rfl ?_ ?_
 all_goals first|rfl|(simp [au,aS,aZ];done)|(simp [au,aS,aZ];omega)
theorem Ax (x:Nat->Value) (hx:∀ i,(x i).oneCell'=true) (b:Bk) (d:aE) (ok:cm b) (hn:¬d.n=0/\¬d.n=1) (b2:Bk) (a2:Answer) (hr:bS b d=(b2,a2)):cA Try.prog 67 [(.c (.p 0 0 0 0)),(.c (.q (cG d) 0))] [(0,(.box 98 (aS b 1 2 3 4 (.d (.v (x 17))) (.d (.v (x 19)))))),(1,(dR b.aj)),(2,(dL b.due)),(3,(dX b.aq)),(4,(cH b.aN))] [0] (.v (.g [cI a2.err,cI a2.ba])) [(0,(.box 98 (aS b2 1 2 3 4 (.d (.v (x 17))) (.d (.v (x 19)))))),(1,(dR b2.aj)),(2,(dL b2.due)),(3,(dX b2.aq)),(4,(cH b2.aN))]:=by
 refine cA.mk 153 [(0,(aC (.p 0 0 0 0))),(1,(aC (.q (cG d) 0)))] 5 Try.func67 rfl rfl rfl rfl rfl rfl rfl rfl rfl ?_
 intro W0 F0 T0 pg
 obtain ⟨okt,okc,okd,oka,oky,okw0,okw1,okp,okv,okk0,okk1,okg,okl0,okl1,okp0,okp1,okn0,okn1,okq⟩:=id ok
 refine ad aa 1 rfl ?_
 refine af ?_
 refine af ?_
 rcases Bool.eq_false_or_eq_true (decide (¬d.n=0)) with hb1|hb1
 ·
  have hb1':=of_decide_eq_true hb1
  rcases Bool.eq_false_or_eq_true (decide (¬d.n=1)) with hb2|hb2
  ·
   have hb2':=of_decide_eq_true hb2
   refine bb [0,1,4] [5,0,1,2,3,4] mixed rfl rfl ?_
   refine aA (kn:=[(15,true),(21,true)]) aa 26 rfl ⟨hb1,hb2,trivial⟩ ?_
   refine bB [5,0,1,2,3,4] rfl rfl rfl rfl (by kernel_rfl) ?_
   refine ae ?_
   refine ag rfl (fun _=>?_) (fun hno=>by cases hno)
   refine ad aa 2 rfl ?_
   refine ar ?_
   refine ao ?_
   have hX:bS b d=(b,(⟨6,0⟩:Answer)):=by
     unfold bS;rw [if_neg hn.1,if_neg hn.2]
   rw [hX] at hr;clear hX
   simp only [Prod.mk.injEq] at hr;obtain ⟨rfl,rfl⟩:=hr
   refine ah aa [0,1,2,3,4,5] 5 rfl rfl rfl rfl rfl rfl ?_ ?_
   all_goals first|rfl|(simp [au,aS,aZ];done)|(simp [au,aS,aZ];omega)
  have hb2':=of_decide_eq_false hb2
  (exfalso;simp_all;done)
 have hb1':=of_decide_eq_false hb1
 (exfalso;simp_all;done)

theorem vU (x:Nat->Value) (hx:∀ i,(x i).oneCell'=true) (b:Bk) (d:aE) (ok:cm b) (b2:Bk) (a2:Answer) (hr:bS b d=(b2,a2)):cA Try.prog 67 [(.c (.p 0 0 0 0)),(.c (.q (cG d) 0))] [(0,(.box 98 (aS b 1 2 3 4 (.d (.v (x 17))) (.d (.v (x 19)))))),(1,(dR b.aj)),(2,(dL b.due)),(3,(dX b.aq)),(4,(cH b.aN))] [0] (.v (.g [cI a2.err,cI a2.ba])) [(0,(.box 98 (aS b2 1 2 3 4 (.d (.v (x 17))) (.d (.v (x 19)))))),(1,(dR b2.aj)),(2,(dL b2.due)),(3,(dX b2.aq)),(4,(cH b2.aN))]:=by
  obtain ⟨idn,kind,n,ax,move,sum⟩:=d
  by_cases h0:n=0
  ·subst h0;exact Az x hx b idn kind ax move sum ok b2 a2 hr
  by_cases h1:n=1
  ·subst h1;exact Ay x hx b idn kind ax move sum ok b2 a2 hr
  ·exact Ax x hx b _ ok ⟨h0,h1⟩ b2 a2 hr
theorem DD (x:Nat->Value) (hx:∀ i,(x i).oneCell'=true) (s0 s1:bR) (n0 n1:Int) (w0 w1:List bV) (d:aE) (l0:w0.length<=60) (l1:w1.length<=60) (m0:s0.kept.length<=40) (m1:s1.kept.length<=40) (v0 v1:List bV) (a2:Answer) (hr:ez s0 s1 n0 n1 w0 w1 d=(v0,v1,a2)):cA Try.prog 66 [(.c (.p 0 0 0 0)),(.c (.q (cG d) 0))] [(0,(.box 98 (((((((((aZ x).set 5 (cI s0.bE)).set 6 (dc s0.kept)).set 7 (cI s1.bE)).set 8 (dc s1.kept)).set 9 (cI n0)).set 10 (cI n1)).set 11 (ed w0)).set 12 (ed w1))))] [0] (.v (.g [cI a2.err,cI a2.ba])) [(0,(.box 98 (((((((((aZ x).set 5 (cI s0.bE)).set 6 (dc s0.kept)).set 7 (cI s1.bE)).set 8 (dc s1.kept)).set 9 (cI n0)).set 10 (cI n1)).set 11 (ed v0)).set 12 (ed v1))))]:=by
  obtain ⟨idn,kind,n,ax,move,sum⟩:=d
  by_cases h0:n=0
  ·subst h0;exact Cm x hx s0 s1 n0 n1 w0 w1 idn kind ax move sum l0 l1 m0 m1 v0 v1 a2 hr
  by_cases h1:n=1
  ·subst h1;exact Cl x hx s0 s1 n0 n1 w0 w1 idn kind ax move sum l0 l1 m0 m1 v0 v1 a2 hr
  ·exact Ck x hx s0 s1 n0 n1 w0 w1 _ l0 l1 m0 m1 ⟨h0,h1⟩ v0 v1 a2 hr

theorem Fc (x:Nat->Value) (hx:∀ i,(x i).oneCell'=true) (b:Bk) (d:aE) (ok:cm b) (b2:Bk) (a2:Answer) (hr:fB b d=(b2,a2)):cA Try.prog 62 [(.c (.p 0 0 0 0)),(.c (.q (cG d) 0))] [(0,(.box 98 (aS b 1 2 3 4 (.d (.v (x 17))) (.d (.v (x 19)))))),(1,(dR b.aj)),(2,(dL b.due)),(3,(dX b.aq)),(4,(cH b.aN))] [0] (.v (.g [cI a2.err,cI a2.ba])) [(0,(.box 98 (aS b2 1 2 3 4 (.d (.v (x 17))) (.d (.v (x 19)))))),(1,(dR b2.aj)),(2,(dL b2.due)),(3,(dX b2.aq)),(4,(cH b2.aN))]:=by
 refine cA.mk 65 [(0,(aC (.p 0 0 0 0))),(1,(aC (.q (cG d) 0)))] 5 Try.func62 rfl rfl rfl rfl rfl rfl rfl rfl rfl ?_
 intro W0 F0 T0 pg
 obtain ⟨okt,okc,okd,oka,oky,okw0,okw1,okp,okv,okk0,okk1,okg,okl0,okl1,okp0,okp1,okn0,okn1,okq⟩:=id ok
 refine ad aa 1 rfl ?_
 refine af ?_
 refine af ?_
 rcases Bool.eq_false_or_eq_true (decide (d.n < 0)) with hb1|hb1
 ·
  have hb1':=of_decide_eq_true hb1
  refine bb [0,1,4] [5,0,1,2,3,4] mixed rfl rfl ?_
  refine aA (kn:=[(10,true)]) aa 18 rfl ⟨hb1,trivial⟩ ?_
  refine bB [5,0,1,2,3,4] rfl rfl rfl rfl (by kernel_rfl) ?_
  refine ae ?_
  refine ag rfl (fun _=>?_) (fun hno=>by cases hno)
  refine ad aa 2 rfl ?_
  refine ar ?_
  refine ao ?_
  have hX:fB b d=(b,(⟨6,0⟩:Answer)):=by
    unfold fB;(repeat' split)<;>first|rfl|omega|(exfalso;omega)|(simp_all;done)|(simp_all;omega)
  rw [hX] at hr;clear hX
  simp only [Prod.mk.injEq] at hr;obtain ⟨rfl,rfl⟩:=hr
  refine ah aa [0,1,2,3,4,5] 5 rfl rfl rfl rfl rfl rfl ?_ ?_
  all_goals first|rfl|(simp [au,aS,aZ];done)|(simp [au,aS,aZ];omega)
 have hb1':=of_decide_eq_false hb1
 refine bb [0,1,4] [5,0,1,2,3,4] mixed rfl rfl ?_
 refine aA (kn:=[(10,false)]) aa 15 rfl ⟨hb1,trivial⟩ ?_
 refine aT (n':=6) [20,11] [1] rfl rfl (.inl ⟨(ak.yes rfl rfl rfl),aK.cast (dr rfl rfl rfl rfl rfl Try.underlying29) rfl⟩) rfl ?_
 refine aA (kn:=[]) aa 2 rfl trivial ?_
 refine bB [5,0,1,2,3,4] rfl rfl rfl rfl (by kernel_rfl) ?_
 refine ae ?_
 refine ag rfl (fun hc3=>?_) (fun hc3=>?_)
 ·
  have hc3':=of_decide_eq_true hc3
  refine ad aa 2 rfl ?_
  refine ar ?_
  refine ao ?_
  have hX:fB b d=(b,(⟨6,0⟩:Answer)):=by
    unfold fB;(repeat' split)<;>first|rfl|omega|(exfalso;omega)|(simp_all;done)|(simp_all;omega)
  rw [hX] at hr;clear hX
  simp only [Prod.mk.injEq] at hr;obtain ⟨rfl,rfl⟩:=hr
  refine ah aa [0,1,2,3,4,5] 5 rfl rfl rfl rfl rfl rfl ?_ ?_
  all_goals first|rfl|(simp [au,aS,aZ];done)|(simp [au,aS,aZ];omega)
 have hc3':=of_decide_eq_false hc3
 refine aP ?_
 refine af ?_
 refine cq 36 ((decide (d.sum < 1))||(decide (d.sum > 1000000))) ?_ ?_
 ·
  refine aw ?_
  refine ab aa 6 rfl ?_
  refine bA (t:=30) rfl (fun hb4=>?_) (fun hb4=>?_)
  ·
   have hb4':=of_decide_eq_true hb4
   refine ab aa 6 rfl ?_
   refine ae ?_
   exact aD.bG 13 rfl rfl (by first|(simp [hb4];done)|(simp_all;done)|(exfalso;simp_all;done)|(simp_all;omega)) rfl
  have hb4':=of_decide_eq_false hb4
  refine ab aa 6 rfl ?_
  refine ae ?_
  exact aD.bG 13 rfl rfl (by first|(simp [hb4];done)|(simp_all;done)|(exfalso;simp_all;done)|(simp_all;omega)) rfl
 refine ag rfl (fun hc5=>?_) (fun hc5=>?_)
 ·
  have hc5':=hc5;try simp only [bm,bM] at hc5'
  refine ad aa 2 rfl ?_
  refine ar ?_
  refine ao ?_
  have hX:fB b d=(b,(⟨3,0⟩:Answer)):=by
    unfold fB;(repeat' split)<;>first|rfl|omega|(exfalso;omega)|(simp_all;done)|(simp_all;omega)
  rw [hX] at hr;clear hX
  simp only [Prod.mk.injEq] at hr;obtain ⟨rfl,rfl⟩:=hr
  refine ah aa [0,1,2,3,4,5] 5 rfl rfl rfl rfl rfl rfl ?_ ?_
  all_goals first|rfl|(simp [au,aS,aZ];done)|(simp [au,aS,aZ];omega)
 have hc5':=hc5;try simp only [bm,bM] at hc5'
 refine aP ?_
 refine az aa 1 rfl ?_
 refine aL 15 [0,6,7,8,9,10,11,12,13,14,5] (cv id (aU [0,6,7,8,9,10,11,12,13,14]) (kc (x 17) (x 19) b (by first|omega|(simp;done)|(simp;omega)) (by first|omega|(simp;done)|(simp;omega)) (by first|omega|(simp;done)|(simp;omega)) (by first|omega|(simp;done)|(simp;omega))) qu rfl rfl ⟨⟨_,rfl,.inl ⟨rfl,rfl⟩⟩,trivial⟩ ⟨rfl,rfl,rfl,rfl,rfl,trivial⟩ rfl rfl rfl rfl rfl rfl trivial ⟨⟨trivial,trivial,trivial,trivial,trivial,trivial,trivial,trivial,trivial,trivial,trivial,trivial,trivial,trivial,trivial,trivial,trivial,trivial,trivial,trivial,trivial⟩,⟨trivial,trivial,trivial,trivial,trivial,trivial,trivial,trivial,trivial,trivial,trivial,trivial,trivial,trivial,trivial,trivial,trivial,trivial,trivial,trivial,trivial⟩,(fun _ _ _ _=>trivial),(fun _ _ _ _=>trivial),(fun _ _ _ _=>trivial),(fun _ _ _ _=>trivial),(fun _ _ _ _=>trivial),(fun _ _ _ _=>trivial),(fun _ _ _ _=>trivial),(fun _ _ _ _=>trivial),trivial⟩ rfl rfl rfl rfl) rfl ?_
 refine ab aa 1 rfl ?_
 refine ae ?_
 refine af ?_
 obtain ⟨l20,e20,hr0⟩:∃ (l20:List bx) (e20:Int),cz b.aj 0 d.n 0 d.sum=(l20,e20):=⟨_,_,rfl⟩
 refine db [0,1,4,5] [0,6,7,8,9,10,11,12,13,14,5] mixed rfl rfl ?_
 refine bT (kn:=[]) aa 9 rfl trivial ?_
 refine bW (n':=16) [40,44,48] [11,6] rfl rfl (.inl ⟨(ak.plain rfl),aK.cast (cg (aU [6,11]) (aU [6,15]) (ms:=((dw.set 2 (some (.s 1 0 6 b.aj.length))).set 19 (some (cI 0)))) (ms':=((dw.set 2 (some (.s 1 0 6 l20.length))).set 19 (some (cI e20)))) (fun x hx=>iT x hx b.aj 0 d.n 0 d.sum (by first|omega|(simp;done)|(simp;omega)) l20 e20 hr0) nw rfl rfl ⟨⟨_,rfl,.inl ⟨rfl,rfl⟩⟩,⟨_,rfl,.inr (.c (.d _))⟩,⟨_,rfl,.inr (.c (.d _))⟩,⟨_,rfl,.inr (.c (.d _))⟩,trivial⟩ rfl rfl rfl rfl rfl rfl rfl ⟨rfl,trivial⟩ rfl rfl rfl rfl rfl rfl rfl rfl rfl rfl rfl rfl rfl) rfl⟩) rfl ?_
 refine dS [0,1,4,5] [15,6,0,7,8,9,10,12,13,14,5] rfl rfl (by kernel_rfl) ?_
 refine then_ok ?_
 refine af ?_
 obtain ⟨l21,e21,hr1⟩:∃ (l21:List Entry) (e21:Int),dT b.book e20 0 (10+d.n) d.sum=(l21,e21):=⟨_,_,rfl⟩
 refine db [0,1,4,5] [15,6,0,7,8,9,10,12,13,14,5] mixed rfl rfl ?_
 refine bT (kn:=[]) aa 5 rfl trivial ?_
 refine bW (n':=16) [54] [] rfl rfl (.inl ⟨(ak.plain rfl),aK.cast (aM rfl rfl rfl (aH (by first|omega|(simp;done)|(simp;omega)))) rfl⟩) rfl ?_
 refine bT (kn:=[]) aa 4 rfl trivial ?_
 refine bW (n':=16) [50,55,59] [6] rfl rfl (.inl ⟨(ak.plain rfl),aK.cast (cg (aU [6]) (aU [6]) (ms:=((dw.set 18 (some (dM b.book))).set 19 (some (cI e20)))) (ms':=((dw.set 18 (some (dM l21))).set 19 (some (cI e21)))) (fun x hx=>jh x hx b.book e20 0 (10+d.n) d.sum l21 e21 hr1) mr rfl rfl ⟨⟨_,rfl,.inl ⟨rfl,rfl⟩⟩,⟨_,rfl,.inr (.c (.d _))⟩,⟨_,rfl,.inr (.c (.d _))⟩,⟨_,rfl,.inr (.c (.d _))⟩,trivial⟩ rfl rfl rfl rfl rfl rfl rfl trivial rfl rfl rfl rfl rfl rfl rfl rfl rfl rfl rfl rfl rfl) rfl⟩) rfl ?_
 refine dS [0,4,5] [6,15,0,7,8,9,10,12,13,14,5] rfl rfl (by kernel_rfl) ?_
 refine then_ok ?_
 rcases (show e21=0\/¬e21=0 from by omega) with hs6|hs6
 ·
  refine az aa 2 rfl ?_
  refine aL 20 [0,16,17,18,19,5] (cv (aU [0,6,7,8,9,10,15,12,13,14]) (aU [0,16,17,18,19]) (fg (x 17) (x 19) b (⟨b.time,b.down,l20,b.due,b.aq,b.s0,b.s1,b.n0,b.n1,b.w0,b.w1,b.bH,b.aN,l21⟩:Bk) e21 (by first|assumption|omega)) fE rfl rfl ⟨⟨_,rfl,.inl ⟨rfl,rfl⟩⟩,⟨_,rfl,.inl ⟨rfl,rfl⟩⟩,trivial⟩ ⟨rfl,rfl,rfl,rfl,rfl,rfl,rfl,rfl,rfl,rfl,trivial⟩ rfl rfl rfl rfl rfl rfl trivial ⟨⟨trivial,trivial,trivial,trivial,trivial,trivial,trivial,trivial,trivial,trivial,trivial,trivial,trivial,trivial,trivial,trivial,trivial,trivial,trivial,trivial,trivial⟩,(fun _ _ _ _=>trivial),(fun _ _ _ _=>trivial),(fun _ _ _ _=>trivial),(fun _ _ _ _=>trivial),trivial⟩ rfl rfl rfl rfl) rfl ?_
  refine ab aa 2 rfl ?_
  refine ae ?_
  refine ar ?_
  have hX:fB b d=((⟨b.time,b.down,l20,b.due,b.aq,b.s0,b.s1,b.n0,b.n1,b.w0,b.w1,b.bH,b.aN,l21⟩:Bk),(⟨e21,0⟩:Answer)):=by
    unfold fB;simp only [dC,hr0,hr1];(repeat' split)<;>first|rfl|omega|(exfalso;omega)|(simp_all;done)|(simp_all;omega)
  rw [hX] at hr;clear hX
  simp only [Prod.mk.injEq] at hr;obtain ⟨rfl,rfl⟩:=hr
  refine ah aa [0,16,17,18,19,5] 5 rfl rfl rfl rfl rfl rfl ?_ ?_
  all_goals first|rfl|(simp [au,aS,aZ];done)|(simp [au,aS,aZ];omega)
 refine az aa 2 rfl ?_
 refine aL 20 [0,16,17,18,19,5] (cv (aU [0,6,7,8,9,10,15,12,13,14]) (aU [0,16,17,18,19]) (fT (x 17) (x 19) b (⟨b.time,b.down,l20,b.due,b.aq,b.s0,b.s1,b.n0,b.n1,b.w0,b.w1,b.bH,b.aN,l21⟩:Bk) e21 (by first|assumption|omega)) fE rfl rfl ⟨⟨_,rfl,.inl ⟨rfl,rfl⟩⟩,⟨_,rfl,.inl ⟨rfl,rfl⟩⟩,trivial⟩ ⟨rfl,rfl,rfl,rfl,rfl,rfl,rfl,rfl,rfl,rfl,trivial⟩ rfl rfl rfl rfl rfl rfl trivial ⟨⟨trivial,trivial,trivial,trivial,trivial,trivial,trivial,trivial,trivial,trivial,trivial,trivial,trivial,trivial,trivial,trivial,trivial,trivial,trivial,trivial,trivial⟩,(fun _ _ _ _=>trivial),(fun _ _ _ _=>trivial),(fun _ _ _ _=>trivial),(fun _ _ _ _=>trivial),trivial⟩ rfl rfl rfl rfl) rfl ?_
 refine ab aa 2 rfl ?_
 refine ae ?_
 refine ar ?_
 have hX:fB b d=(b,(⟨e21,0⟩:Answer)):=by
   unfold fB;simp only [dC,hr0,hr1];(repeat' split)<;>first|rfl|omega|(exfalso;omega)|(simp_all;done)|(simp_all;omega)
 rw [hX] at hr;clear hX
 simp only [Prod.mk.injEq] at hr;obtain ⟨rfl,rfl⟩:=hr
 refine ah aa [0,16,17,18,19,5] 5 rfl rfl rfl rfl rfl rfl ?_ ?_
 all_goals first|rfl|(simp [au,aS,aZ];done)|(simp [au,aS,aZ];omega)
theorem Gc (x:Nat->Value) (hx:∀ i,(x i).oneCell'=true) (b:Bk) (d:aE) (ok:cm b) (b2:Bk) (a2:Answer) (hr:gX b d=(b2,a2)):cA Try.prog 70 [(.c (.p 0 0 0 0)),(.c (.q (cG d) 0))] [(0,(.box 98 (aS b 1 2 3 4 (.d (.v (x 17))) (.d (.v (x 19)))))),(1,(dR b.aj)),(2,(dL b.due)),(3,(dX b.aq)),(4,(cH b.aN))] [0] (.v (.g [cI a2.err,cI a2.ba])) [(0,(.box 98 (aS b2 1 2 3 4 (.d (.v (x 17))) (.d (.v (x 19)))))),(1,(dR b2.aj)),(2,(dL b2.due)),(3,(dX b2.aq)),(4,(cH b2.aN))]:=by
 refine cA.mk 64 [(0,(aC (.p 0 0 0 0))),(1,(aC (.q (cG d) 0)))] 5 Try.func70 rfl rfl rfl rfl rfl rfl rfl rfl rfl ?_
 intro W0 F0 T0 pg
 obtain ⟨okt,okc,okd,oka,oky,okw0,okw1,okp,okv,okk0,okk1,okg,okl0,okl1,okp0,okp1,okn0,okn1,okq⟩:=id ok
 refine ad aa 1 rfl ?_
 refine af ?_
 refine af ?_
 rcases Bool.eq_false_or_eq_true (decide (d.n < 0)) with hb1|hb1
 ·
  have hb1':=of_decide_eq_true hb1
  refine bb [0,1,4] [5,0,1,2,3,4] mixed rfl rfl ?_
  refine aA (kn:=[(11,true)]) aa 18 rfl ⟨hb1,trivial⟩ ?_
  refine bB [5,0,1,2,3,4] rfl rfl rfl rfl (by kernel_rfl) ?_
  refine ae ?_
  refine ag rfl (fun _=>?_) (fun hno=>by cases hno)
  refine ad aa 2 rfl ?_
  refine ar ?_
  refine ao ?_
  have hX:gX b d=(b,(⟨6,0⟩:Answer)):=by
    unfold gX;(repeat' split)<;>first|rfl|omega|(exfalso;omega)|(simp_all;done)|(simp_all;omega)
  rw [hX] at hr;clear hX
  simp only [Prod.mk.injEq] at hr;obtain ⟨rfl,rfl⟩:=hr
  refine ah aa [0,1,2,3,4,5] 5 rfl rfl rfl rfl rfl rfl ?_ ?_
  all_goals first|rfl|(simp [au,aS,aZ];done)|(simp [au,aS,aZ];omega)
 have hb1':=of_decide_eq_false hb1
 refine bb [0,1,4] [5,0,1,2,3,4] mixed rfl rfl ?_
 refine aA (kn:=[(11,false)]) aa 15 rfl ⟨hb1,trivial⟩ ?_
 refine aT (n':=6) [21,12] [2] rfl rfl (.inl ⟨(ak.yes rfl rfl rfl),aK.cast (dr rfl rfl rfl rfl rfl Try.underlying30) rfl⟩) rfl ?_
 refine aA (kn:=[]) aa 2 rfl trivial ?_
 refine bB [5,0,1,2,3,4] rfl rfl rfl rfl (by kernel_rfl) ?_
 refine ae ?_
 refine ag rfl (fun hc3=>?_) (fun hc3=>?_)
 ·
  have hc3':=of_decide_eq_true hc3
  refine ad aa 2 rfl ?_
  refine ar ?_
  refine ao ?_
  have hX:gX b d=(b,(⟨6,0⟩:Answer)):=by
    unfold gX;(repeat' split)<;>first|rfl|omega|(exfalso;omega)|(simp_all;done)|(simp_all;omega)
  rw [hX] at hr;clear hX
  simp only [Prod.mk.injEq] at hr;obtain ⟨rfl,rfl⟩:=hr
  refine ah aa [0,1,2,3,4,5] 5 rfl rfl rfl rfl rfl rfl ?_ ?_
  all_goals first|rfl|(simp [au,aS,aZ];done)|(simp [au,aS,aZ];omega)
 have hc3':=of_decide_eq_false hc3
 refine aP ?_
 refine af ?_
 obtain ⟨x1,hx1⟩:=ch (xs:=b.due) (i:=Int.toNat (d.n)) (by first|omega|(simp;done)|(simp;omega))
 refine bb [0,1,4] [5,0,1,2,3,4] mixed rfl rfl ?_
 refine aA (kn:=[]) aa 9 rfl trivial ?_
 refine aT (n':=6) [30,34] [2] rfl rfl (.inl ⟨(ak.plain rfl),aK.cast (bq (i:=Int.toNat (d.n)) rfl rfl rfl Try.underlying30 fK (by first|omega|(simp;done)|(simp;omega)) (by first|omega|(simp;done)|(simp;omega))) rfl⟩) rfl ?_
 refine aT (n':=6) [35] [2] rfl rfl (.inl ⟨(ak.plain rfl),aK.cast (eG rfl rfl rfl Try.underlying3 rfl (bw hx1) rfl) rfl⟩) rfl ?_
 refine aA (kn:=[]) aa 1 rfl trivial ?_
 refine bB [5,0,1,2,3,4] rfl rfl rfl rfl (by kernel_rfl) ?_
 refine ae ?_
 refine af ?_
 refine ad aa 2 rfl ?_
 refine ag rfl (fun hc4=>?_) (fun hc4=>?_)
 ·
  have hc4':=of_decide_eq_true hc4
  refine ad aa 2 rfl ?_
  refine ar ?_
  refine ao ?_
  have hX:gX b d=(b,(⟨10,0⟩:Answer)):=by
    unfold gX;simp only [dC,List.getD_eq_getElem?_getD,hx1,Option.getD_some,];(repeat' split)<;>first|rfl|omega|(exfalso;omega)|(simp_all;done)|(simp_all;omega)
  rw [hX] at hr;clear hX
  simp only [Prod.mk.injEq] at hr;obtain ⟨rfl,rfl⟩:=hr
  refine ah aa [0,1,2,3,4,5] 5 rfl rfl rfl rfl rfl rfl ?_ ?_
  all_goals first|rfl|(simp [au,aS,aZ];done)|(simp [au,aS,aZ];omega)
 have hc4':=of_decide_eq_false hc4
 refine aP ?_
 refine az aa 1 rfl ?_
 refine aL 15 [0,6,7,8,9,10,11,12,13,14,5] (cv id (aU [0,6,7,8,9,10,11,12,13,14]) (kc (x 17) (x 19) b (by first|omega|(simp;done)|(simp;omega)) (by first|omega|(simp;done)|(simp;omega)) (by first|omega|(simp;done)|(simp;omega)) (by first|omega|(simp;done)|(simp;omega))) qu rfl rfl ⟨⟨_,rfl,.inl ⟨rfl,rfl⟩⟩,trivial⟩ ⟨rfl,rfl,rfl,rfl,rfl,trivial⟩ rfl rfl rfl rfl rfl rfl trivial ⟨⟨trivial,trivial,trivial,trivial,trivial,trivial,trivial,trivial,trivial,trivial,trivial,trivial,trivial,trivial,trivial,trivial,trivial,trivial,trivial,trivial,trivial⟩,⟨trivial,trivial,trivial,trivial,trivial,trivial,trivial,trivial,trivial,trivial,trivial,trivial,trivial,trivial,trivial,trivial,trivial,trivial,trivial,trivial,trivial⟩,(fun _ _ _ _=>trivial),(fun _ _ _ _=>trivial),(fun _ _ _ _=>trivial),(fun _ _ _ _=>trivial),(fun _ _ _ _=>trivial),(fun _ _ _ _=>trivial),(fun _ _ _ _=>trivial),(fun _ _ _ _=>trivial),trivial⟩ rfl rfl rfl rfl) rfl ?_
 refine ab aa 1 rfl ?_
 refine ae ?_
 refine af ?_
 refine bb [0,1,4,5,6] [0,6,7,8,9,10,11,12,13,14,5] mixed rfl rfl ?_
 refine aA (kn:=[]) aa 9 rfl trivial ?_
 refine aT (n':=15) [46,50] [12] rfl rfl (.inl ⟨(ak.plain rfl),aK.cast (bq (i:=Int.toNat (d.n)) rfl rfl rfl Try.underlying30 fK (by first|omega|(simp;done)|(simp;omega)) (by first|omega|(simp;done)|(simp;omega))) rfl⟩) rfl ?_
 refine bB [0,6,7,8,9,10,11,12,13,14,5] rfl rfl rfl rfl (by kernel_rfl) ?_
 refine gf [0,6,7,8,9,10,11,12,13,14,5] (dP (ds:=[(dI 0)]) rfl rfl rfl rfl rfl fK rfl (Nat.le_of_ble_eq_true rfl) (bw hx1) rfl (eL (x':=0) rfl)) rfl ?_
 refine ae ?_
 refine fy (k:=6) (q:=3) (c':=(.s 12 0 1 (((b.due).set (Int.toNat (d.n)) 0).length))) rfl rfl (by first|rfl|(simp;done)|(congr 1;omega)) rfl ?_
 refine az aa 5 rfl ?_
 refine ay (aM rfl rfl rfl (aH (by first|omega|(simp;done)|(simp;omega)))) rfl ?_
 refine ab aa 1 rfl ?_
 obtain ⟨l20,e20,hr0⟩:∃ (l20:List Entry) (e20:Int),dT b.book 0 (50+d.n) 0 x1=(l20,e20):=⟨_,_,rfl⟩
 refine aL 15 [6,0,7,8,9,10,11,12,13,14,5] (cg (aU [6]) (aU [6]) (ms:=((dw.set 18 (some (dM b.book))).set 19 (some (cI 0)))) (ms':=((dw.set 18 (some (dM l20))).set 19 (some (cI e20)))) (fun x hx=>jh x hx b.book 0 (50+d.n) 0 x1 l20 e20 hr0) mr rfl rfl ⟨⟨_,rfl,.inl ⟨rfl,rfl⟩⟩,⟨_,rfl,.inr (.c (.d _))⟩,⟨_,rfl,.inr (.c (.d _))⟩,⟨_,rfl,.inr (.c (.d _))⟩,trivial⟩ rfl rfl rfl rfl rfl rfl rfl trivial rfl rfl rfl rfl rfl rfl rfl rfl rfl rfl rfl rfl rfl) rfl ?_
 refine ae ?_
 rcases (show e20=0\/¬e20=0 from by omega) with hs5|hs5
 ·
  refine az aa 2 rfl ?_
  refine aL 19 [0,15,16,17,18,5] (cv (aU [0,6,7,8,9,10,11,12,13,14]) (aU [0,15,16,17,18]) (fg (x 17) (x 19) b (⟨b.time,b.down,b.aj,(b.due).set (Int.toNat (d.n)) 0,b.aq,b.s0,b.s1,b.n0,b.n1,b.w0,b.w1,b.bH,b.aN,l20⟩:Bk) e20 (by first|assumption|omega)) fE rfl rfl ⟨⟨_,rfl,.inl ⟨rfl,rfl⟩⟩,⟨_,rfl,.inl ⟨rfl,rfl⟩⟩,trivial⟩ ⟨rfl,rfl,rfl,rfl,rfl,rfl,rfl,rfl,rfl,rfl,trivial⟩ rfl rfl rfl rfl rfl rfl trivial ⟨⟨trivial,trivial,trivial,trivial,trivial,trivial,trivial,trivial,trivial,trivial,trivial,trivial,trivial,trivial,trivial,trivial,trivial,trivial,trivial,trivial,trivial⟩,(fun _ _ _ _=>trivial),(fun _ _ _ _=>trivial),(fun _ _ _ _=>trivial),(fun _ _ _ _=>trivial),trivial⟩ rfl rfl rfl rfl) rfl ?_
  refine ab aa 2 rfl ?_
  refine ae ?_
  refine ar ?_
  have hX:gX b d=((⟨b.time,b.down,b.aj,(b.due).set (Int.toNat (d.n)) 0,b.aq,b.s0,b.s1,b.n0,b.n1,b.w0,b.w1,b.bH,b.aN,l20⟩:Bk),(⟨e20,0⟩:Answer)):=by
    unfold gX;simp only [dC,List.getD_eq_getElem?_getD,hx1,Option.getD_some,hr0];(repeat' split)<;>first|rfl|omega|(exfalso;omega)|(simp_all;done)|(simp_all;omega)
  rw [hX] at hr;clear hX
  simp only [Prod.mk.injEq] at hr;obtain ⟨rfl,rfl⟩:=hr
  refine ah aa [0,15,16,17,18,5] 5 rfl rfl rfl rfl rfl rfl ?_ ?_
  all_goals first|rfl|(simp [au,aS,aZ];done)|(simp [au,aS,aZ];omega)
 refine az aa 2 rfl ?_
 refine aL 19 [0,15,16,17,18,5] (cv (aU [0,6,7,8,9,10,11,12,13,14]) (aU [0,15,16,17,18]) (fT (x 17) (x 19) b (⟨b.time,b.down,b.aj,(b.due).set (Int.toNat (d.n)) 0,b.aq,b.s0,b.s1,b.n0,b.n1,b.w0,b.w1,b.bH,b.aN,l20⟩:Bk) e20 (by first|assumption|omega)) fE rfl rfl ⟨⟨_,rfl,.inl ⟨rfl,rfl⟩⟩,⟨_,rfl,.inl ⟨rfl,rfl⟩⟩,trivial⟩ ⟨rfl,rfl,rfl,rfl,rfl,rfl,rfl,rfl,rfl,rfl,trivial⟩ rfl rfl rfl rfl rfl rfl trivial ⟨⟨trivial,trivial,trivial,trivial,trivial,trivial,trivial,trivial,trivial,trivial,trivial,trivial,trivial,trivial,trivial,trivial,trivial,trivial,trivial,trivial,trivial⟩,(fun _ _ _ _=>trivial),(fun _ _ _ _=>trivial),(fun _ _ _ _=>trivial),(fun _ _ _ _=>trivial),trivial⟩ rfl rfl rfl rfl) rfl ?_
 refine ab aa 2 rfl ?_
 refine ae ?_
 refine ar ?_
 have hX:gX b d=(b,(⟨e20,0⟩:Answer)):=by
   unfold gX;simp only [dC,List.getD_eq_getElem?_getD,hx1,Option.getD_some,hr0];(repeat' split)<;>first|rfl|omega|(exfalso;omega)|(simp_all;done)|(simp_all;omega)
 rw [hX] at hr;clear hX
 simp only [Prod.mk.injEq] at hr;obtain ⟨rfl,rfl⟩:=hr
 refine ah aa [0,15,16,17,18,5] 5 rfl rfl rfl rfl rfl rfl ?_ ?_
 all_goals first|rfl|(simp [au,aS,aZ];done)|(simp [au,aS,aZ];omega)

theorem Au (x:Nat->Value) (hx:∀ i,(x i).oneCell'=true) (b:Bk) (ok:cm b) (b2:Bk) (hr:gS b=b2):cA Try.prog 84 [(.c (.p 0 0 0 0))] [(0,(.box 98 (aS b 1 2 3 4 (.d (.v (x 17))) (.d (.v (x 19)))))),(1,(dR b.aj)),(2,(dL b.due)),(3,(dX b.aq)),(4,(cH b.aN))] [0] (.t []) [(0,(.box 98 (aS b2 1 2 3 4 (.d (.v (x 17))) (.d (.v (x 19)))))),(1,(dR b2.aj)),(2,(dL b2.due)),(3,(dX b2.aq)),(4,(cH b2.aN))]:=by
 refine cA.mk 47 [(0,(aC (.p 0 0 0 0)))] 5 Try.func84 rfl rfl rfl rfl rfl rfl rfl rfl rfl ?_
 intro W0 F0 T0 pg
 obtain ⟨okt,okc,okd,oka,oky,okw0,okw1,okp,okv,okk0,okk1,okg,okl0,okl1,okp0,okp1,okn0,okn1,okq⟩:=id ok
 refine az aa 1 rfl ?_
 refine aL 14 [0,5,6,7,8,9,10,11,12,13] (cv id (aU [0,5,6,7,8,9,10,11,12,13]) (kc (x 17) (x 19) b (by first|omega|(simp;done)|(simp;omega)) (by first|omega|(simp;done)|(simp;omega)) (by first|omega|(simp;done)|(simp;omega)) (by first|omega|(simp;done)|(simp;omega))) qu rfl rfl ⟨⟨_,rfl,.inl ⟨rfl,rfl⟩⟩,trivial⟩ ⟨rfl,rfl,rfl,rfl,rfl,trivial⟩ rfl rfl rfl rfl rfl rfl trivial ⟨⟨trivial,trivial,trivial,trivial,trivial,trivial,trivial,trivial,trivial,trivial,trivial,trivial,trivial,trivial,trivial,trivial,trivial,trivial,trivial,trivial,trivial⟩,⟨trivial,trivial,trivial,trivial,trivial,trivial,trivial,trivial,trivial,trivial,trivial,trivial,trivial,trivial,trivial,trivial,trivial,trivial,trivial,trivial,trivial⟩,(fun _ _ _ _=>trivial),(fun _ _ _ _=>trivial),(fun _ _ _ _=>trivial),(fun _ _ _ _=>trivial),(fun _ _ _ _=>trivial),(fun _ _ _ _=>trivial),(fun _ _ _ _=>trivial),(fun _ _ _ _=>trivial),trivial⟩ rfl rfl rfl rfl) rfl ?_
 refine ab aa 1 rfl ?_
 refine ae ?_
 refine af ?_
 refine az aa 5 rfl ?_
 refine ay (dr rfl rfl rfl rfl rfl Try.underlying31) rfl ?_
 refine ab aa 1 rfl ?_
 refine ae ?_
 refine aV ?_
 refine cx (β:=Nat×List bx×List bz×Int) (fun (p:Nat×List bx×List bz×Int)=>match p with|(q,cs,xs,e)=>⟨[(0,(aC (.p 0 0 0 0))),(2,(aC (.p 5 0 0 0))),(12,(aC (.s 12 0 8 xs.length))),(13,(aI (↑b.aq.length:Int))),(14,(aI (↑q:Int)))],[(0,(.box 98 (aS b 6 7 8 9 (.d (.v (x 17))) (.d (.v (x 19)))))),(5,(.box 147 (((aS b 10 11 12 13 (.d (.v (x 17))) (cI e)).set 2 (.s 10 0 6 cs.length)).set 4 (.s 12 0 8 xs.length)))),(6,(dR b.aj)),(7,(dL b.due)),(8,(dX b.aq)),(9,(cH b.aN)),(10,(dR cs)),(11,(dL b.due)),(12,(dX xs)),(13,(cH b.aN))],14⟩) (fun (p:Nat×List bx×List bz×Int)=>match p with|(q,cs,xs,e)=>q<=b.aq.length/\fI b.time b.aq 0 b.aj b.aq 0=fI b.time (b.aq.drop q) q cs xs e/\cs.length=b.aj.length/\xs.length=b.aq.length/\(∀ i,q<=i->xs[i]?=b.aq[i]?)) (fun (p:Nat×List bx×List bz×Int)=>match p with|(q,cs,xs,e)=>b.aq.length - q) (0,b.aj,b.aq,0) ?_ ?_ ?_
 ·exact ⟨by omega,rfl,rfl,rfl,fun _ _=>rfl⟩
 ·exact aD.bY id (by refine ⟨?_,?_,?_,?_,?_,trivial⟩<;>first|rfl|(simp only [bn];done)|(congr 3;omega)|(congr 4;omega)|(simp only [bo];rfl)) (by refine ⟨?_,?_,?_,?_,?_,?_,?_,?_,?_,?_,trivial⟩<;>first|rfl|(simp only [bn];done)|(congr 3;omega)|(congr 4;omega)|(simp only [bo];rfl)) rfl
 rintro ⟨q,cs,xs,e⟩ ⟨hi0_0,hi0_1,hi0_2,hi0_3,hi0_4⟩
 refine ad aa 1 rfl ?_
 refine af ?_
 refine ag rfl (fun hc1=>?_) (fun hc1=>?_)
 ·
  have hc1':=of_decide_eq_true hc1
  refine aP ?_
  refine af ?_
  refine aV ?_
  refine az aa 1 rfl ?_
  refine ay (bq (i:=q) rfl rfl rfl Try.underlying31 mf (by first|omega|(simp;done)|(simp;omega)) (by first|omega|(simp;done)|(simp;omega))) rfl ?_
  obtain ⟨x1,hx1⟩:=ch (xs:=xs) (i:=q) (by first|omega|(simp;done)|(simp;omega))
  have hx1w:=okp x1 (List.mem_of_getElem? (show b.aq[q]?=some x1 by rw [<-hi0_4 q (by omega)];exact hx1))
  have hx1A:=hx1w.2
  replace hx1w:=hx1w.1
  refine ay (dg rfl rfl rfl Try.underlying67 rfl mf (bw hx1) rfl) rfl ?_
  refine ab aa 3 rfl ?_
  refine ae ?_
  refine af ?_
  obtain ⟨b0,hr0⟩:∃ (b0:bz),ei x1 b.time=b0:=⟨_,rfl⟩
  have hlw:bC b0=0:=by rw [<-hr0];exact xz hx1w
  refine bb [0,2,12,13,14,4,3] [14,0,5,6,7,8,9,10,11,12,13] mixed rfl rfl ?_
  refine aA (kn:=[]) aa 6 rfl trivial ?_
  refine aT (n':=15) [19,24] [] rfl rfl (.inl ⟨(ak.plain rfl),aK.cast (bJ 15 (wT x1 b.time b0 hr0) FW rfl rfl ⟨⟨_,rfl,.g ⟨.d _,.d _,.d _,.d _,.d _,.d _,.d _,.d _,trivial⟩⟩,⟨_,rfl,.c (.d _)⟩,trivial⟩ ⟨trivial,trivial,trivial,trivial,trivial,trivial,trivial,trivial,trivial⟩ trivial rfl rfl rfl rfl) rfl⟩) rfl ?_
  refine aA (n':=16) (kn:=[]) aa 1 rfl trivial ?_
  refine bB [15,14,0,5,6,7,8,9,10,11,12,13] rfl rfl rfl rfl (by kernel_rfl) ?_
  refine ab aa 1 rfl ?_
  refine ae ?_
  refine af ?_
  obtain ⟨e1,hr1⟩:∃ (e1:Int),bu b0=e1:=⟨_,rfl⟩
  have hhb1:=oE (show bC b0=0 by assumption)
  rw [hr1] at hhb1
  obtain ⟨e2,hr2⟩:∃ (e2:Int),bu x1=e2:=⟨_,rfl⟩
  have hhb2:=oE (show bC x1=0 by assumption)
  rw [hr2] at hhb2
  obtain ⟨l23,e23,hr3⟩:∃ (l23:List bx) (e23:Int),cz cs e x1.aJ (e1 - e2) 0=(l23,e23):=⟨_,_,rfl⟩
  have hsl3:l23.length=cs.length:=by have h:=ff cs e x1.aJ (e1 - e2) 0;rw [hr3] at h;exact h
  refine db [0,2,12,13,14,4,3,5] [15,14,0,5,6,7,8,9,10,11,12,13] mixed rfl rfl ?_
  refine bT (kn:=[]) aa 4 rfl trivial ?_
  refine bW (n':=16) [29] [] rfl rfl (.inl ⟨(ak.plain rfl),aK.cast (bJ 16 (km b0 (by first|assumption|omega|rfl|decide) e1 hr1) yF rfl rfl ⟨⟨_,rfl,.g ⟨.d _,.d _,.d _,.d _,.d _,.d _,.d _,.d _,trivial⟩⟩,trivial⟩ trivial trivial rfl rfl rfl rfl) rfl⟩) rfl ?_
  refine bT (kn:=[]) aa 1 rfl trivial ?_
  refine bW (n':=16) [31] [] rfl rfl (.inl ⟨(ak.plain rfl),aK.cast (bJ 16 (km x1 (by first|assumption|omega|rfl|decide) e2 hr2) yF rfl rfl ⟨⟨_,rfl,.g ⟨.d _,.d _,.d _,.d _,.d _,.d _,.d _,.d _,trivial⟩⟩,trivial⟩ trivial trivial rfl rfl rfl rfl) rfl⟩) rfl ?_
  refine bW (n':=16) [30,32] [] rfl rfl (.inl ⟨(ak.plain rfl),aK.cast (aM rfl rfl rfl (aH (by first|omega|(simp;done)|(simp;omega)))) rfl⟩) rfl ?_
  refine bW (n':=17) [26,28,33] [10,5] rfl rfl (.inl ⟨(ak.plain rfl),aK.cast (cg (aU [5,10]) (aU [5,16]) (ms:=((dw.set 2 (some (.s 1 0 6 cs.length))).set 19 (some (cI e)))) (ms':=((dw.set 2 (some (.s 1 0 6 l23.length))).set 19 (some (cI e23)))) (fun x hx=>iT x hx cs e x1.aJ (e1 - e2) 0 (by first|omega|(simp;done)|(simp;omega)) l23 e23 hr3) nw rfl rfl ⟨⟨_,rfl,.inl ⟨rfl,rfl⟩⟩,⟨_,rfl,.inr (.c (.d _))⟩,⟨_,rfl,.inr (.c (.d _))⟩,⟨_,rfl,.inr (.c (.d _))⟩,trivial⟩ rfl rfl rfl rfl rfl rfl rfl ⟨rfl,trivial⟩ rfl rfl rfl rfl rfl rfl rfl rfl rfl rfl rfl rfl rfl) rfl⟩) rfl ?_
  refine dS [0,2,12,13,14,3,5] [16,5,15,0,6,7,8,9,11,12,13] rfl rfl (by kernel_rfl) ?_
  refine then_ok ?_
  refine bb [0,2,12,13,14,3,5] [16,5,15,0,6,7,8,9,11,12,13] mixed rfl rfl ?_
  refine aA (kn:=[]) aa 7 rfl trivial ?_
  refine aT (n':=17) [39,40] [12] rfl rfl (.inl ⟨(ak.plain rfl),aK.cast (bq (i:=q) rfl rfl rfl Try.underlying31 mf (by first|omega|(simp;done)|(simp;omega)) (by first|omega|(simp;done)|(simp;omega))) rfl⟩) rfl ?_
  refine bB [16,5,15,0,6,7,8,9,11,12,13] rfl rfl rfl rfl (by kernel_rfl) ?_
  refine gf [16,5,15,0,6,7,8,9,11,12,13] (dP (ds:=[(dI b0.aJ),(dI b0.ax),(dI b0.sum),(dI b0.captured),(dI b0.br),(dI b0.bd),(dI b0.cS),(dB b0.shut)]) rfl rfl rfl rfl rfl mf rfl (Nat.le_of_ble_eq_true rfl) (bw hx1) rfl (eL (x':=b0) rfl)) rfl ?_
  refine bZ ?_
  refine bp ?_
  refine then_ok ?_
  refine fy (k:=5) (q:=4) (c':=(.s 12 0 8 (((xs).set q b0).length))) rfl rfl (by first|rfl|(simp;done)|(congr 1;omega)) rfl ?_
  refine aw ?_
  refine ay (aM rfl rfl rfl (aH (by first|omega|(simp;done)|(simp;omega)))) rfl ?_
  refine ab aa 1 rfl ?_
  refine ae ?_
  refine ⟨(q+1,l23,(xs).set q b0,e23),⟨by omega,by rw [hi0_1,yn (a:=x1) (by rw [<-hi0_4 q (by omega)];exact hx1),hr0,hr1,hr2,hr3],by omega,by rw [List.length_set];omega,fun i hi=>by rw [List.getElem?_set_ne (by omega)];exact hi0_4 i (by omega)⟩,by first|omega|(simp;done)|(simp;omega),aD.bY (fun k=>if k=10 then 16 else k) (by refine ⟨?_,?_,?_,?_,?_,trivial⟩<;>first|rfl|(simp only [bn];done)|(congr 3;omega)|(congr 4;omega)|(simp only [bo];rfl)) (by refine ⟨?_,?_,?_,?_,?_,?_,?_,?_,?_,?_,trivial⟩<;>first|rfl|(simp only [bn];done)|(congr 3;omega)|(congr 4;omega)|(simp only [bo];rfl)) rfl⟩
 have hc1':=of_decide_eq_false hc1
 refine cp ?_
 refine aR ?_
 refine aR ?_
 refine bQ ?_
 refine then_ok ?_
 rcases (show e=0\/¬e=0 from by omega) with hs2|hs2
 ·
  refine aw ?_
  refine ab aa 2 rfl ?_
  refine aL 18 [0,14,15,16,17] (cv (aU [0,5,6,7,8,9,10,11,12,13]) (aU [0,14,15,16,17]) (fg (x 17) (x 19) b (⟨b.time,b.down,cs,b.due,xs,b.s0,b.s1,b.n0,b.n1,b.w0,b.w1,b.bH,b.aN,b.book⟩:Bk) e (by first|assumption|omega)) fE rfl rfl ⟨⟨_,rfl,.inl ⟨rfl,rfl⟩⟩,⟨_,rfl,.inl ⟨rfl,rfl⟩⟩,trivial⟩ ⟨rfl,rfl,rfl,rfl,rfl,rfl,rfl,rfl,rfl,rfl,trivial⟩ rfl rfl rfl rfl rfl rfl trivial ⟨⟨trivial,trivial,trivial,trivial,trivial,trivial,trivial,trivial,trivial,trivial,trivial,trivial,trivial,trivial,trivial,trivial,trivial,trivial,trivial,trivial,trivial⟩,(fun _ _ _ _=>trivial),(fun _ _ _ _=>trivial),(fun _ _ _ _=>trivial),(fun _ _ _ _=>trivial),trivial⟩ rfl rfl rfl rfl) rfl ?_
  refine bZ ?_
  have hX:gS b=(⟨b.time,b.down,cs,b.due,xs,b.s0,b.s1,b.n0,b.n1,b.w0,b.w1,b.bH,b.aN,b.book⟩:Bk):=by
    have hL:fI b.time b.aq 0 b.aj b.aq 0=(cs,xs,e):=by rw [hi0_1,List.drop_of_length_le (by omega)];rfl
    unfold gS;rw [hL];dsimp only;first|rw [if_pos (by assumption)]|rw [if_neg (by assumption)]
  rw [hX] at hr;clear hX
  subst hr
  refine cE aa [0,14,15,16,17] 5 rfl rfl rfl rfl rfl rfl ?_ ?_
  all_goals first|rfl|(simp [au,aS,aZ];done)|(simp [au,aS,aZ];omega)
 refine aw ?_
 refine ab aa 2 rfl ?_
 refine aL 18 [0,14,15,16,17] (cv (aU [0,5,6,7,8,9,10,11,12,13]) (aU [0,14,15,16,17]) (fT (x 17) (x 19) b (⟨b.time,b.down,cs,b.due,xs,b.s0,b.s1,b.n0,b.n1,b.w0,b.w1,b.bH,b.aN,b.book⟩:Bk) e (by first|assumption|omega)) fE rfl rfl ⟨⟨_,rfl,.inl ⟨rfl,rfl⟩⟩,⟨_,rfl,.inl ⟨rfl,rfl⟩⟩,trivial⟩ ⟨rfl,rfl,rfl,rfl,rfl,rfl,rfl,rfl,rfl,rfl,trivial⟩ rfl rfl rfl rfl rfl rfl trivial ⟨⟨trivial,trivial,trivial,trivial,trivial,trivial,trivial,trivial,trivial,trivial,trivial,trivial,trivial,trivial,trivial,trivial,trivial,trivial,trivial,trivial,trivial⟩,(fun _ _ _ _=>trivial),(fun _ _ _ _=>trivial),(fun _ _ _ _=>trivial),(fun _ _ _ _=>trivial),trivial⟩ rfl rfl rfl rfl) rfl ?_
 refine bZ ?_
 have hX:gS b=b:=by
   have hL:fI b.time b.aq 0 b.aj b.aq 0=(cs,xs,e):=by rw [hi0_1,List.drop_of_length_le (by omega)];rfl
   unfold gS;rw [hL];dsimp only;first|rw [if_pos (by assumption)]|rw [if_neg (by assumption)]
 rw [hX] at hr;clear hX
 subst hr
 refine cE aa [0,14,15,16,17] 5 rfl rfl rfl rfl rfl rfl ?_ ?_
 all_goals first|rfl|(simp [au,aS,aZ];done)|(simp [au,aS,aZ];omega)
theorem Dz (x:Nat->Value) (hx:∀ i,(x i).oneCell'=true) (b:Bk) (d:aE) (ok:cm b) (hdn:b.down=false) (b2:Bk) (a2:Answer) (hr:fm b d=(b2,a2)):cA Try.prog 65 [(.c (.p 0 0 0 0)),(.c (.q (cG d) 0))] [(0,(.box 98 (aS b 1 2 3 4 (.d (.v (x 17))) (.d (.v (x 19)))))),(1,(dR b.aj)),(2,(dL b.due)),(3,(dX b.aq)),(4,(cH b.aN))] [0] (.v (.g [cI a2.err,cI a2.ba])) [(0,(.box 98 (aS b2 1 2 3 4 (.d (.v (x 17))) (.d (.v (x 19)))))),(1,(dR b2.aj)),(2,(dL b2.due)),(3,(dX b2.aq)),(4,(cH b2.aN))]:=by
 refine cA.mk 46 [(0,(aC (.p 0 0 0 0))),(1,(aC (.q (cG d) 0)))] 5 Try.func65 rfl rfl rfl rfl rfl rfl rfl rfl rfl ?_
 intro W0 F0 T0 pg
 obtain ⟨okt,okc,okd,oka,oky,okw0,okw1,okp,okv,okk0,okk1,okg,okl0,okl1,okp0,okp1,okn0,okn1,okq⟩:=id ok
 refine ad aa 1 rfl ?_
 refine af ?_
 refine af ?_
 rcases Bool.eq_false_or_eq_true (decide (d.sum < 0)) with hb1|hb1
 ·
  have hb1':=of_decide_eq_true hb1
  refine bb [0,1,4] [5,0,1,2,3,4] mixed rfl rfl ?_
  refine aA (kn:=[(9,true)]) aa 18 rfl ⟨hb1,trivial⟩ ?_
  refine bB [5,0,1,2,3,4] rfl rfl rfl rfl (by kernel_rfl) ?_
  refine ae ?_
  refine ag rfl (fun _=>?_) (fun hno=>by cases hno)
  refine ad aa 2 rfl ?_
  refine ar ?_
  refine ao ?_
  have hX:fm b d=(b,(⟨3,0⟩:Answer)):=by
    unfold fm;(repeat' split)<;>first|rfl|omega|(exfalso;omega)|(simp_all;done)|(simp_all;omega)
  rw [hX] at hr;clear hX
  simp only [Prod.mk.injEq] at hr;obtain ⟨rfl,rfl⟩:=hr
  refine ah aa [0,1,2,3,4,5] 5 rfl rfl rfl rfl rfl rfl ?_ ?_
  all_goals first|rfl|(simp [au,aS,aZ];done)|(simp [au,aS,aZ];omega)
 have hb1':=of_decide_eq_false hb1
 refine bb [0,1,4] [5,0,1,2,3,4] mixed rfl rfl ?_
 refine aA (kn:=[(9,false)]) aa 15 rfl ⟨hb1,trivial⟩ ?_
 refine aT (n':=6) [19,10] [] rfl rfl (.inl ⟨(ak.yes rfl rfl rfl),aK.cast (aM rfl rfl rfl (aH (by first|omega|(simp;done)|(simp;omega)))) rfl⟩) rfl ?_
 refine aA (kn:=[]) aa 2 rfl trivial ?_
 refine bB [5,0,1,2,3,4] rfl rfl rfl rfl (by kernel_rfl) ?_
 refine ae ?_
 refine ag rfl (fun hc3=>?_) (fun hc3=>?_)
 ·
  have hc3':=of_decide_eq_true hc3
  refine ad aa 2 rfl ?_
  refine ar ?_
  refine ao ?_
  have hX:fm b d=(b,(⟨3,0⟩:Answer)):=by
    unfold fm;(repeat' split)<;>first|rfl|omega|(exfalso;omega)|(simp_all;done)|(simp_all;omega)
  rw [hX] at hr;clear hX
  simp only [Prod.mk.injEq] at hr;obtain ⟨rfl,rfl⟩:=hr
  refine ah aa [0,1,2,3,4,5] 5 rfl rfl rfl rfl rfl rfl ?_ ?_
  all_goals first|rfl|(simp [au,aS,aZ];done)|(simp [au,aS,aZ];omega)
 have hc3':=of_decide_eq_false hc3
 refine aP ?_
 refine af ?_
 refine bb [0,1,4] [5,0,1,2,3,4] mixed rfl rfl ?_
 refine aA (kn:=[]) aa 9 rfl trivial ?_
 refine aT (n':=6) [28,32] [] rfl rfl (.inl ⟨(ak.plain rfl),aK.cast (aM rfl rfl rfl (aH (by first|omega|(simp;done)|(simp;omega)))) rfl⟩) rfl ?_
 refine aA (kn:=[]) aa 3 rfl trivial ?_
 refine bB [5,0,1,2,3,4] rfl rfl rfl rfl (by kernel_rfl) ?_
 refine ab aa 1 rfl ?_
 refine ae ?_
 refine af ?_
 refine ad aa 6 rfl ?_
 refine ag rfl (fun _=>?_) (fun hno=>by simp [hdn] at hno)
 refine aw ?_
 refine ab aa 1 rfl ?_
 obtain ⟨b20,hr0⟩:∃ (b20:Bk),gS (⟨b.time+d.sum,b.down,b.aj,b.due,b.aq,b.s0,b.s1,b.n0,b.n1,b.w0,b.w1,b.bH,b.aN,b.book⟩:Bk)=b20:=⟨_,rfl⟩
 refine aL 10 [0,6,7,8,9,5] (cg id (aU [0,6,7,8,9]) (ms:=[some (cI (b.time+d.sum)),some (cB b.down),some (.s 1 0 6 b.aj.length),some (.s 2 0 1 b.due.length),some (.s 3 0 8 b.aq.length),some (cI b.s0.bE),some (dc b.s0.kept),some (cI b.s1.bE),some (dc b.s1.kept),some (cI b.n0),some (cI b.n1),some (ed b.w0),some (ed b.w1),some (cI b.bH.cap),some (fC b.bH.used),some (gz b.bH.aX),some (.s 4 0 4 b.aN.length),none,some (dM b.book),none]) (ms':=(iY b20 1 2 3 4 none none)) (fun x hx=>Au x hx (⟨b.time+d.sum,b.down,b.aj,b.due,b.aq,b.s0,b.s1,b.n0,b.n1,b.w0,b.w1,b.bH,b.aN,b.book⟩:Bk) (by first|assumption|exact cm.tick (by assumption) (by omega) (by omega)) b20 hr0) EI rfl rfl ⟨⟨_,rfl,.inl ⟨rfl,rfl⟩⟩,trivial⟩ rfl rfl rfl rfl rfl rfl rfl ⟨rfl,rfl,rfl,rfl,trivial⟩ rfl rfl rfl rfl rfl rfl rfl rfl rfl rfl rfl rfl rfl) rfl ?_
 refine ae ?_
 refine ad aa 2 rfl ?_
 refine ar ?_
 have hX:fm b d=(b20,(⟨0,0⟩:Answer)):=by
   unfold fm;simp only [dC,hr0];(repeat' split)<;>first|rfl|omega|(exfalso;omega)|(simp_all;done)|(simp_all;omega)
 rw [hX] at hr;clear hX
 simp only [Prod.mk.injEq] at hr;obtain ⟨rfl,rfl⟩:=hr
 refine ah aa [0,6,7,8,9,5] 5 rfl rfl rfl rfl rfl rfl ?_ ?_
 all_goals first|rfl|(simp [au,aS,aZ];done)|(simp [au,aS,aZ];omega)
theorem DA (x:Nat->Value) (hx:∀ i,(x i).oneCell'=true) (b:Bk) (d:aE) (ok:cm b) (hdn:b.down=true) (b2:Bk) (a2:Answer) (hr:fm b d=(b2,a2)):cA Try.prog 65 [(.c (.p 0 0 0 0)),(.c (.q (cG d) 0))] [(0,(.box 98 (aS b 1 2 3 4 (.d (.v (x 17))) (.d (.v (x 19)))))),(1,(dR b.aj)),(2,(dL b.due)),(3,(dX b.aq)),(4,(cH b.aN))] [0] (.v (.g [cI a2.err,cI a2.ba])) [(0,(.box 98 (aS b2 1 2 3 4 (.d (.v (x 17))) (.d (.v (x 19)))))),(1,(dR b2.aj)),(2,(dL b2.due)),(3,(dX b2.aq)),(4,(cH b2.aN))]:=by
 refine cA.mk 46 [(0,(aC (.p 0 0 0 0))),(1,(aC (.q (cG d) 0)))] 5 Try.func65 rfl rfl rfl rfl rfl rfl rfl rfl rfl ?_
 intro W0 F0 T0 pg
 obtain ⟨okt,okc,okd,oka,oky,okw0,okw1,okp,okv,okk0,okk1,okg,okl0,okl1,okp0,okp1,okn0,okn1,okq⟩:=id ok
 refine ad aa 1 rfl ?_
 refine af ?_
 refine af ?_
 rcases Bool.eq_false_or_eq_true (decide (d.sum < 0)) with hb1|hb1
 ·
  have hb1':=of_decide_eq_true hb1
  refine bb [0,1,4] [5,0,1,2,3,4] mixed rfl rfl ?_
  refine aA (kn:=[(9,true)]) aa 18 rfl ⟨hb1,trivial⟩ ?_
  refine bB [5,0,1,2,3,4] rfl rfl rfl rfl (by kernel_rfl) ?_
  refine ae ?_
  refine ag rfl (fun _=>?_) (fun hno=>by cases hno)
  refine ad aa 2 rfl ?_
  refine ar ?_
  refine ao ?_
  have hX:fm b d=(b,(⟨3,0⟩:Answer)):=by
    unfold fm;(repeat' split)<;>first|rfl|omega|(exfalso;omega)|(simp_all;done)|(simp_all;omega)
  rw [hX] at hr;clear hX
  simp only [Prod.mk.injEq] at hr;obtain ⟨rfl,rfl⟩:=hr
  refine ah aa [0,1,2,3,4,5] 5 rfl rfl rfl rfl rfl rfl ?_ ?_
  all_goals first|rfl|(simp [au,aS,aZ];done)|(simp [au,aS,aZ];omega)
 have hb1':=of_decide_eq_false hb1
 refine bb [0,1,4] [5,0,1,2,3,4] mixed rfl rfl ?_
 refine aA (kn:=[(9,false)]) aa 15 rfl ⟨hb1,trivial⟩ ?_
 refine aT (n':=6) [19,10] [] rfl rfl (.inl ⟨(ak.yes rfl rfl rfl),aK.cast (aM rfl rfl rfl (aH (by first|omega|(simp;done)|(simp;omega)))) rfl⟩) rfl ?_
 refine aA (kn:=[]) aa 2 rfl trivial ?_
 refine bB [5,0,1,2,3,4] rfl rfl rfl rfl (by kernel_rfl) ?_
 refine ae ?_
 refine ag rfl (fun hc3=>?_) (fun hc3=>?_)
 ·
  have hc3':=of_decide_eq_true hc3
  refine ad aa 2 rfl ?_
  refine ar ?_
  refine ao ?_
  have hX:fm b d=(b,(⟨3,0⟩:Answer)):=by
    unfold fm;(repeat' split)<;>first|rfl|omega|(exfalso;omega)|(simp_all;done)|(simp_all;omega)
  rw [hX] at hr;clear hX
  simp only [Prod.mk.injEq] at hr;obtain ⟨rfl,rfl⟩:=hr
  refine ah aa [0,1,2,3,4,5] 5 rfl rfl rfl rfl rfl rfl ?_ ?_
  all_goals first|rfl|(simp [au,aS,aZ];done)|(simp [au,aS,aZ];omega)
 have hc3':=of_decide_eq_false hc3
 refine aP ?_
 refine af ?_
 refine bb [0,1,4] [5,0,1,2,3,4] mixed rfl rfl ?_
 refine aA (kn:=[]) aa 9 rfl trivial ?_
 refine aT (n':=6) [28,32] [] rfl rfl (.inl ⟨(ak.plain rfl),aK.cast (aM rfl rfl rfl (aH (by first|omega|(simp;done)|(simp;omega)))) rfl⟩) rfl ?_
 refine aA (kn:=[]) aa 3 rfl trivial ?_
 refine bB [5,0,1,2,3,4] rfl rfl rfl rfl (by kernel_rfl) ?_
 refine ab aa 1 rfl ?_
 refine ae ?_
 refine af ?_
 refine ad aa 6 rfl ?_
 refine ag rfl (fun hno=>by simp [hdn] at hno) (fun _=>?_)
 refine aP ?_
 refine ad aa 2 rfl ?_
 refine ar ?_
 have hX:fm b d=((⟨b.time+d.sum,b.down,b.aj,b.due,b.aq,b.s0,b.s1,b.n0,b.n1,b.w0,b.w1,b.bH,b.aN,b.book⟩:Bk),(⟨0,0⟩:Answer)):=by
   unfold fm;(repeat' split)<;>first|rfl|omega|(exfalso;omega)|(simp_all;done)|(simp_all;omega)
 rw [hX] at hr;clear hX
 simp only [Prod.mk.injEq] at hr;obtain ⟨rfl,rfl⟩:=hr
 refine ah aa [0,1,2,3,4,5] 5 rfl rfl rfl rfl rfl rfl ?_ ?_
 all_goals first|rfl|(simp [au,aS,aZ];done)|(simp [au,aS,aZ];omega)
theorem EX (x:Nat->Value) (hx:∀ i,(x i).oneCell'=true) (b:Bk) (d:aE) (ok:cm b) (b2:Bk) (a2:Answer) (hr:fm b d=(b2,a2)):cA Try.prog 65 [(.c (.p 0 0 0 0)),(.c (.q (cG d) 0))] [(0,(.box 98 (aS b 1 2 3 4 (.d (.v (x 17))) (.d (.v (x 19)))))),(1,(dR b.aj)),(2,(dL b.due)),(3,(dX b.aq)),(4,(cH b.aN))] [0] (.v (.g [cI a2.err,cI a2.ba])) [(0,(.box 98 (aS b2 1 2 3 4 (.d (.v (x 17))) (.d (.v (x 19)))))),(1,(dR b2.aj)),(2,(dL b2.due)),(3,(dX b2.aq)),(4,(cH b2.aN))]:=by
  cases hdn:b.down
  ·exact Dz x hx b d ok hdn b2 a2 hr
  ·exact DA x hx b d ok hdn b2 a2 hr
end Go.Proofs.Ytegepioggeggaaa.Dev
