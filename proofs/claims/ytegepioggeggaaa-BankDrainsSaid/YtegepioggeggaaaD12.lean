/- A part of the proof: Bank10, Bank11, Bank5, Bank6. No condition. -/
import Derived.Test.YtegepioggeggaaaD11
set_option linter.unusedVariables false
set_option linter.unusedSimpArgs false
set_option maxHeartbeats 8000000
set_option maxRecDepth 100000
namespace Go.Proofs.Ytegepioggeggaaa.Dev
open Go.RowKit

theorem CS (x:Nat->Value) (hx:∀ i,(x i).oneCell'=true) (b:Bk) (idn kind az move sum:Int) (ok:ct b) (b2:Bk) (a2:Answer) (hr:bE b (⟨idn,kind,0,az,move,sum⟩:aV)=(b2,a2)):cL Try.prog 67 [(.c (.p 0 0 0 0)),(.c (.q (cX (⟨idn,kind,0,az,move,sum⟩:aV)) 0))] [(0,(.box 98 (aZ b 1 2 3 4 (.d (.v (x 17))) (.d (.v (x 19)))))),(1,(ek b.ag)),(2,(dS b.due)),(3,(ep b.aj)),(4,(cU b.aQ))] [0] (.v (.g [cI a2.err,cI a2.ba])) [(0,(.box 98 (aZ b2 1 2 3 4 (.d (.v (x 17))) (.d (.v (x 19)))))),(1,(ek b2.ag)),(2,(dS b2.due)),(3,(ep b2.aj)),(4,(cU b2.aQ))]:=by
 refine cL.mk 153 [(0,(aC (.p 0 0 0 0))),(1,(aC (.q (cX (⟨idn,kind,0,az,move,sum⟩:aV)) 0)))] 5 Try.func67 rfl rfl rfl rfl rfl rfl rfl rfl rfl ?_
 intro W0 F0 T0 pg
 obtain ⟨okt,okc,okd,oka,oky,okw0,okw1,okp,okv,okk0,okk1,okg,okl0,okl1,okp0,okp1,okn0,okn1,okq⟩:=id ok
 refine ae aa 1 rfl ?_
 refine ah ?_
 refine ah ?_
 refine bd [0,1,4] [5,0,1,2,3,4] mixed rfl rfl ?_
 refine aF (kn:=[(15,false)]) aa 21 rfl ⟨rfl,trivial⟩ ?_
 refine aX (n':=6) [31,28,23] [0] rfl rfl (.inl ⟨(aq.yes rfl rfl rfl),aM.cast (df (i:=0) rfl rfl rfl Try.underlying38 ka rfl (by decide)) rfl⟩) rfl ?_
 refine aF (kn:=[]) aa 1 rfl trivial ?_
 refine aX (n':=6) [33,23] [] rfl rfl (.inl ⟨(aq.yes rfl rfl rfl),aM.cast (cJ rfl rfl rfl rfl rfl Try.underlying37) rfl⟩) rfl ?_
 refine aF (kn:=[]) aa 2 rfl trivial ?_
 refine bF [5,0,1,2,3,4] rfl rfl rfl rfl (by kernel_rfl) ?_
 refine af ?_
 refine an rfl (fun hc1=>?_) (fun hc1=>?_)
 ·
  have hc1':=of_decide_eq_true hc1
  refine ae aa 2 rfl ?_
  refine aA ?_
  refine ax ?_
  have hX:bE b (⟨idn,kind,0,az,move,sum⟩:aV)=(b,(⟨6,0⟩:Answer)):=by
    unfold bE;dsimp only;rw [if_pos rfl];unfold ew;rw [List.getElem?_eq_none (by omega)]
  rw [hX] at hr;clear hX
  simp only [Prod.mk.injEq] at hr;obtain ⟨rfl,rfl⟩:=hr
  refine aw aa [0,1,2,3,4,5] 5 rfl rfl rfl rfl rfl rfl ?_ ?_
  all_goals first|rfl|(simp [aD,aZ,bg];done)|(simp [aD,aZ,bg];omega)
 have hc1':=of_decide_eq_false hc1
 refine aU ?_
 refine ah ?_
 obtain ⟨x1,hx1⟩:=cr (xs:=b.w0) (i:=0) (by first|omega|(simp;done)|(simp;omega))
 refine bd [0,1,4] [5,0,1,2,3,4] mixed rfl rfl ?_
 refine aF (kn:=[]) aa 8 rfl trivial ?_
 refine aX (n':=6) [45,42] [0] rfl rfl (.inl ⟨(aq.plain rfl),aM.cast (df (i:=0) rfl rfl rfl Try.underlying38 ka rfl (by decide)) rfl⟩) rfl ?_
 refine aF (kn:=[]) aa 1 rfl trivial ?_
 refine aX (n':=6) [47] [] rfl rfl (.inl ⟨(aq.plain rfl),aM.cast (db (i:=0) rfl rfl rfl Try.underlying37 vM (by first|omega|(simp;done)|(simp;omega)) (bz hx1)) rfl⟩) rfl ?_
 refine aF (n':=7) (kn:=[]) aa 2 rfl trivial ?_
 refine bF [6,5,0,1,2,3,4] rfl rfl rfl rfl (by kernel_rfl) ?_
 refine ad aa 1 rfl ?_
 refine af ?_
 have hpk:=okp0 x1 (List.mem_of_getElem? hx1)
 have hI0:∀ t∈b.s0.kept,fA t.number:=fun t ht=>(okk0 t ht).1
 have hI1:∀ t∈b.s1.kept,fA t.number:=fun t ht=>(okk1 t ht).1
 have hA:∀ a∈b.aj,0<=a.aO/\a.aO < b.ag.length/\0<=a.az/\a.az < b.due.length:=fun a ha=>(okp a ha).2
 refine aH aa 1 rfl ?_
 refine aP 16 [0,7,8,9,10,11,12,13,14,15,6,5] (cO id (bc [0,7,8,9,10,11,12,13,14,15]) (kW (x 17) (x 19) b (by first|omega|(simp;done)|(simp;omega)) (by first|omega|(simp;done)|(simp;omega)) (by first|omega|(simp;done)|(simp;omega)) (by first|omega|(simp;done)|(simp;omega))) sg rfl rfl ⟨⟨_,rfl,.inl ⟨rfl,rfl⟩⟩,trivial⟩ ⟨rfl,rfl,rfl,rfl,rfl,trivial⟩ rfl rfl rfl rfl rfl rfl trivial ⟨⟨trivial,trivial,trivial,trivial,trivial,trivial,trivial,trivial,trivial,trivial,trivial,trivial,trivial,trivial,trivial,trivial,trivial,trivial,trivial,trivial,trivial⟩,⟨trivial,trivial,trivial,trivial,trivial,trivial,trivial,trivial,trivial,trivial,trivial,trivial,trivial,trivial,trivial,trivial,trivial,trivial,trivial,trivial,trivial⟩,(fun _ _ _ _=>trivial),(fun _ _ _ _=>trivial),(fun _ _ _ _=>trivial),(fun _ _ _ _=>trivial),(fun _ _ _ _=>trivial),(fun _ _ _ _=>trivial),(fun _ _ _ _=>trivial),(fun _ _ _ _=>trivial),trivial⟩ rfl rfl rfl rfl) rfl ?_
 refine ad aa 1 rfl ?_
 refine af ?_
 refine ah ?_
 refine bd [0,1,4,5,6] [0,7,8,9,10,11,12,13,14,15,6,5] mixed rfl rfl ?_
 refine aF (kn:=[]) aa 13 rfl trivial ?_
 refine aX (n':=16) [64,61] [0] rfl rfl (.inl ⟨(aq.plain rfl),aM.cast (df (i:=0) rfl rfl rfl Try.underlying38 ka rfl (by decide)) rfl⟩) rfl ?_
 refine aF (kn:=[]) aa 1 rfl trivial ?_
 refine aX (n':=16) [66] [] rfl rfl (.inl ⟨(aq.plain rfl),aM.cast (sa (l:=1) (h:=b.w0.length) (ys:=((b.w0).drop 1).map fP) rfl Try.underlying37 vM rfl (.inr ⟨_,rfl,rfl⟩) (.inl ⟨rfl,by simp⟩) (by first|omega|(simp;done)|(simp;omega)) (by first|omega|(simp;done)|(simp;omega)) (by first|(simp;done)|(rw [List.map_drop];exact List.take_of_length_le (by simp)))) rfl⟩) rfl ?_
 refine aF (kn:=[]) aa 3 rfl trivial ?_
 refine aX (n':=16) [70,56] [7] rfl rfl (.inl ⟨(aq.plain rfl),aM.cast (df (i:=0) rfl rfl rfl Try.underlying38 ka rfl (by decide)) rfl⟩) rfl ?_
 refine bF [0,7,8,9,10,11,12,13,14,15,6,5] rfl rfl rfl rfl (by kernel_rfl) ?_
 refine ad aa 1 rfl ?_
 refine af ?_
 refine ah ?_
 refine ae aa 5 rfl ?_
 refine an rfl (fun hc2=>?_) (fun hc2=>?_)
 ·
  have hc2':=of_decide_eq_true hc2
  refine aH aa 2 rfl ?_
  refine aP 20 [0,16,17,18,19,6,5] (cO (bc [0,7,8,9,10,11,12,13,14,15]) (bc [0,16,17,18,19]) (fM (x 17) (x 19) b (⟨b.time,b.down,b.ag,b.due,b.aj,b.s0,b.s1,b.n0,b.n1,(b.w0).drop 1,b.w1,b.bx,b.aQ,b.book⟩:Bk) 0 (by first|assumption|omega)) gm rfl rfl ⟨⟨_,rfl,.inl ⟨rfl,rfl⟩⟩,⟨_,rfl,.inl ⟨rfl,rfl⟩⟩,trivial⟩ ⟨rfl,rfl,rfl,rfl,rfl,rfl,rfl,rfl,rfl,rfl,trivial⟩ rfl rfl rfl rfl rfl rfl trivial ⟨⟨trivial,trivial,trivial,trivial,trivial,trivial,trivial,trivial,trivial,trivial,trivial,trivial,trivial,trivial,trivial,trivial,trivial,trivial,trivial,trivial,trivial⟩,(fun _ _ _ _=>trivial),(fun _ _ _ _=>trivial),(fun _ _ _ _=>trivial),(fun _ _ _ _=>trivial),trivial⟩ rfl rfl rfl rfl) rfl ?_
  refine ad aa 2 rfl ?_
  refine af ?_
  refine aA ?_
  refine ax ?_
  have hX:bE b (⟨idn,kind,0,az,move,sum⟩:aV)=((⟨b.time,b.down,b.ag,b.due,b.aj,b.s0,b.s1,b.n0,b.n1,(b.w0).drop 1,b.w1,b.bx,b.aQ,b.book⟩:Bk),(⟨0,0⟩:Answer)):=by
    unfold bE;dsimp only;rw [if_pos rfl];unfold ew;rw [hx1];dsimp only;(try simp only [cQ]);(try unfold cQ);(repeat' split)<;>first|rfl|omega|(exfalso;omega)|(simp_all;done)|(simp_all;omega)
  rw [hX] at hr;clear hX
  simp only [Prod.mk.injEq] at hr;obtain ⟨rfl,rfl⟩:=hr
  refine aw aa [0,16,17,18,19,5] 5 rfl rfl rfl rfl rfl rfl ?_ ?_
  all_goals first|rfl|(simp [aD,aZ,bg];done)|(simp [aD,aZ,bg];omega)
 have hc2':=of_decide_eq_false hc2
 refine aU ?_
 refine ah ?_
 refine ae aa 3 rfl ?_
 refine an rfl (fun hc3=>?_) (fun hc3=>?_)
 ·
  have hc3':=of_decide_eq_true hc3
  refine ah ?_
  obtain ⟨xr0,e0,hr0⟩:∃ (xr0:bO) (e0:Int),eg b.s0 x1.seen=(xr0,e0):=⟨_,_,rfl⟩
  refine dr [0,1,4,5,6] [0,7,8,9,10,11,12,13,14,15,6,5] mixed rfl rfl ?_
  refine bU (kn:=[]) aa 8 rfl trivial ?_
  refine ca (n':=16) [92,89] [7] rfl rfl (.inl ⟨(aq.plain rfl),aM.cast (df (i:=0) rfl rfl rfl Try.underlying35 kb rfl (by decide)) rfl⟩) rfl ?_
  refine bU (kn:=[]) aa 3 rfl trivial ?_
  refine ca (n':=16) [94,96] [] rfl rfl (.inl ⟨(aq.plain rfl),aM.cast (ch 16 (Fn.frozen (av':=(.t [(.g [(cI xr0.bG),(dh xr0.kept)]),(.c (cI e0))])) (rk b.s0 x1.seen (by first|assumption|exact kQ (by assumption) (by omega)|exact jO (by assumption) (by assumption)|(simp [fA];done)) xr0 e0 hr0) ⟨⟨.inl ⟨_,rfl,rfl⟩,.inr ⟨_,_,_,_,_,rfl,rfl,rfl,by simp⟩,trivial⟩,.inl ⟨_,rfl,rfl⟩,trivial⟩) Hs rfl rfl ⟨⟨_,rfl,.g ⟨.d _,.d _,trivial⟩⟩,⟨_,rfl,.c (.d _)⟩,trivial⟩ ⟨⟨trivial,trivial,trivial⟩,trivial,trivial⟩ trivial rfl rfl rfl rfl) rfl⟩) rfl ?_
  refine bU (n':=17) (kn:=[]) aa 6 rfl trivial ?_
  refine ef [0,1,4,5,6,7,8] [16,0,7,8,9,10,11,12,13,14,15,6,5] rfl rfl (by kernel_rfl) ?_
  refine then_ok ?_
  refine ah ?_
  refine aH aa 2 rfl ?_
  obtain ⟨e21,hr1⟩:∃ (e21:Int),dN 0 e0=e21:=⟨_,rfl⟩
  refine aP 17 [7,16,0,8,9,10,11,12,13,14,15,6,5] (cw (bc [7]) (bc [7]) (ms:=(dO.set 19 (some (cI 0)))) (ms':=(dO.set 19 (some (cI e21)))) (fun x hx=>kz x hx 0 e0 e21 hr1) oM rfl rfl ⟨⟨_,rfl,.inl ⟨rfl,rfl⟩⟩,⟨_,rfl,.inr (.c (.d _))⟩,trivial⟩ rfl rfl rfl rfl rfl rfl rfl trivial rfl rfl rfl rfl rfl rfl rfl rfl rfl rfl rfl rfl rfl) rfl ?_
  refine ad aa 1 rfl ?_
  refine af ?_
  refine an rfl (fun hc4=>?_) (fun hc4=>?_)
  ·
   have hc4':=hc4;try simp only [bA,bW] at hc4'
   refine bd [0,1,4,5,6,7] [7,16,0,8,9,10,11,12,13,14,15,6,5] mixed rfl rfl ?_
   refine aF (kn:=[]) aa 9 rfl trivial ?_
   refine aX (n':=17) [112,108] [7] rfl rfl (.inl ⟨(aq.plain rfl),aM.cast (df (i:=0) rfl rfl rfl Try.underlying35 kb rfl (by decide)) rfl⟩) rfl ?_
   refine bF [7,16,0,8,9,10,11,12,13,14,15,6,5] rfl rfl rfl rfl (by kernel_rfl) ?_
   refine ad aa 1 rfl ?_
   refine af ?_
   rcases (show e21=0\/¬e21=0 from by omega) with hs5|hs5
   ·
    refine aH aa 2 rfl ?_
    refine aP 21 [0,17,18,19,20,16,6,5] (cO (bc [0,7,8,9,10,11,12,13,14,15]) (bc [0,17,18,19,20]) (fM (x 17) (x 19) b (⟨b.time,b.down,b.ag,b.due,b.aj,xr0,b.s1,b.n0,b.n1,(b.w0).drop 1,b.w1,b.bx,b.aQ,b.book⟩:Bk) e21 (by first|assumption|omega)) gm rfl rfl ⟨⟨_,rfl,.inl ⟨rfl,rfl⟩⟩,⟨_,rfl,.inl ⟨rfl,rfl⟩⟩,trivial⟩ ⟨rfl,rfl,rfl,rfl,rfl,rfl,rfl,rfl,rfl,rfl,trivial⟩ rfl rfl rfl rfl rfl rfl trivial ⟨⟨trivial,trivial,trivial,trivial,trivial,trivial,trivial,trivial,trivial,trivial,trivial,trivial,trivial,trivial,trivial,trivial,trivial,trivial,trivial,trivial,trivial⟩,(fun _ _ _ _=>trivial),(fun _ _ _ _=>trivial),(fun _ _ _ _=>trivial),(fun _ _ _ _=>trivial),trivial⟩ rfl rfl rfl rfl) rfl ?_
    refine ad aa 2 rfl ?_
    refine af ?_
    refine aA ?_
    refine ax ?_
    have hX:bE b (⟨idn,kind,0,az,move,sum⟩:aV)=((⟨b.time,b.down,b.ag,b.due,b.aj,xr0,b.s1,b.n0,b.n1,(b.w0).drop 1,b.w1,b.bx,b.aQ,b.book⟩:Bk),(⟨e21,0⟩:Answer)):=by
      unfold bE;dsimp only;rw [if_pos rfl];unfold ew;rw [hx1];dsimp only;unfold dN at hr1;simp only [if_true] at hr1;(try simp only [hr0]);(try unfold cQ);(repeat' split)<;>first|rfl|omega|(exfalso;omega)|(simp_all;done)|(simp_all;omega)
    rw [hX] at hr;clear hX
    simp only [Prod.mk.injEq] at hr;obtain ⟨rfl,rfl⟩:=hr
    refine aw aa [0,17,18,19,20,5] 5 rfl rfl rfl rfl rfl rfl ?_ ?_
    all_goals first|rfl|(simp [aD,aZ,bg];done)|(simp [aD,aZ,bg];omega)
   refine aH aa 2 rfl ?_
   refine aP 21 [0,17,18,19,20,16,6,5] (cO (bc [0,7,8,9,10,11,12,13,14,15]) (bc [0,17,18,19,20]) (gI (x 17) (x 19) b (⟨b.time,b.down,b.ag,b.due,b.aj,xr0,b.s1,b.n0,b.n1,(b.w0).drop 1,b.w1,b.bx,b.aQ,b.book⟩:Bk) e21 (by first|assumption|omega)) gm rfl rfl ⟨⟨_,rfl,.inl ⟨rfl,rfl⟩⟩,⟨_,rfl,.inl ⟨rfl,rfl⟩⟩,trivial⟩ ⟨rfl,rfl,rfl,rfl,rfl,rfl,rfl,rfl,rfl,rfl,trivial⟩ rfl rfl rfl rfl rfl rfl trivial ⟨⟨trivial,trivial,trivial,trivial,trivial,trivial,trivial,trivial,trivial,trivial,trivial,trivial,trivial,trivial,trivial,trivial,trivial,trivial,trivial,trivial,trivial⟩,(fun _ _ _ _=>trivial),(fun _ _ _ _=>trivial),(fun _ _ _ _=>trivial),(fun _ _ _ _=>trivial),trivial⟩ rfl rfl rfl rfl) rfl ?_
   refine ad aa 2 rfl ?_
   refine af ?_
   refine aA ?_
   refine ax ?_
   have hX:bE b (⟨idn,kind,0,az,move,sum⟩:aV)=(b,(⟨e21,0⟩:Answer)):=by
     unfold bE;dsimp only;rw [if_pos rfl];unfold ew;rw [hx1];dsimp only;unfold dN at hr1;simp only [if_true] at hr1;(try simp only [hr0]);(try unfold cQ);(repeat' split)<;>first|rfl|omega|(exfalso;omega)|(simp_all;done)|(simp_all;omega)
   rw [hX] at hr;clear hX
   simp only [Prod.mk.injEq] at hr;obtain ⟨rfl,rfl⟩:=hr
   refine aw aa [0,17,18,19,20,5] 5 rfl rfl rfl rfl rfl rfl ?_ ?_
   all_goals first|rfl|(simp [aD,aZ,bg];done)|(simp [aD,aZ,bg];omega)
  have hc4':=hc4;try simp only [bA,bW] at hc4'
  refine aU ?_
  rcases (show e21=0\/¬e21=0 from by omega) with hs6|hs6
  ·
   refine aH aa 2 rfl ?_
   refine aP 21 [0,17,18,19,20,16,6,5] (cO (bc [0,7,8,9,10,11,12,13,14,15]) (bc [0,17,18,19,20]) (fM (x 17) (x 19) b (⟨b.time,b.down,b.ag,b.due,b.aj,b.s0,b.s1,b.n0,b.n1,(b.w0).drop 1,b.w1,b.bx,b.aQ,b.book⟩:Bk) e21 (by first|assumption|omega)) gm rfl rfl ⟨⟨_,rfl,.inl ⟨rfl,rfl⟩⟩,⟨_,rfl,.inl ⟨rfl,rfl⟩⟩,trivial⟩ ⟨rfl,rfl,rfl,rfl,rfl,rfl,rfl,rfl,rfl,rfl,trivial⟩ rfl rfl rfl rfl rfl rfl trivial ⟨⟨trivial,trivial,trivial,trivial,trivial,trivial,trivial,trivial,trivial,trivial,trivial,trivial,trivial,trivial,trivial,trivial,trivial,trivial,trivial,trivial,trivial⟩,(fun _ _ _ _=>trivial),(fun _ _ _ _=>trivial),(fun _ _ _ _=>trivial),(fun _ _ _ _=>trivial),trivial⟩ rfl rfl rfl rfl) rfl ?_
   refine ad aa 2 rfl ?_
   refine af ?_
   refine aA ?_
   refine ax ?_
   have hX:bE b (⟨idn,kind,0,az,move,sum⟩:aV)=((⟨b.time,b.down,b.ag,b.due,b.aj,b.s0,b.s1,b.n0,b.n1,(b.w0).drop 1,b.w1,b.bx,b.aQ,b.book⟩:Bk),(⟨e21,0⟩:Answer)):=by
     unfold bE;dsimp only;rw [if_pos rfl];unfold ew;rw [hx1];dsimp only;unfold dN at hr1;simp only [if_true] at hr1;(try simp only [hr0]);(try unfold cQ);(repeat' split)<;>first|rfl|omega|(exfalso;omega)|(simp_all;done)|(simp_all;omega)
   rw [hX] at hr;clear hX
   simp only [Prod.mk.injEq] at hr;obtain ⟨rfl,rfl⟩:=hr
   refine aw aa [0,17,18,19,20,5] 5 rfl rfl rfl rfl rfl rfl ?_ ?_
   all_goals first|rfl|(simp [aD,aZ,bg];done)|(simp [aD,aZ,bg];omega)
  refine aH aa 2 rfl ?_
  refine aP 21 [0,17,18,19,20,16,6,5] (cO (bc [0,7,8,9,10,11,12,13,14,15]) (bc [0,17,18,19,20]) (gI (x 17) (x 19) b (⟨b.time,b.down,b.ag,b.due,b.aj,b.s0,b.s1,b.n0,b.n1,(b.w0).drop 1,b.w1,b.bx,b.aQ,b.book⟩:Bk) e21 (by first|assumption|omega)) gm rfl rfl ⟨⟨_,rfl,.inl ⟨rfl,rfl⟩⟩,⟨_,rfl,.inl ⟨rfl,rfl⟩⟩,trivial⟩ ⟨rfl,rfl,rfl,rfl,rfl,rfl,rfl,rfl,rfl,rfl,trivial⟩ rfl rfl rfl rfl rfl rfl trivial ⟨⟨trivial,trivial,trivial,trivial,trivial,trivial,trivial,trivial,trivial,trivial,trivial,trivial,trivial,trivial,trivial,trivial,trivial,trivial,trivial,trivial,trivial⟩,(fun _ _ _ _=>trivial),(fun _ _ _ _=>trivial),(fun _ _ _ _=>trivial),(fun _ _ _ _=>trivial),trivial⟩ rfl rfl rfl rfl) rfl ?_
  refine ad aa 2 rfl ?_
  refine af ?_
  refine aA ?_
  refine ax ?_
  have hX:bE b (⟨idn,kind,0,az,move,sum⟩:aV)=(b,(⟨e21,0⟩:Answer)):=by
    unfold bE;dsimp only;rw [if_pos rfl];unfold ew;rw [hx1];dsimp only;unfold dN at hr1;simp only [if_true] at hr1;(try simp only [hr0]);(try unfold cQ);(repeat' split)<;>first|rfl|omega|(exfalso;omega)|(simp_all;done)|(simp_all;omega)
  rw [hX] at hr;clear hX
  simp only [Prod.mk.injEq] at hr;obtain ⟨rfl,rfl⟩:=hr
  refine aw aa [0,17,18,19,20,5] 5 rfl rfl rfl rfl rfl rfl ?_ ?_
  all_goals first|rfl|(simp [aD,aZ,bg];done)|(simp [aD,aZ,bg];omega)
 have hc3':=of_decide_eq_false hc3
 refine aU ?_
 refine ah ?_
 obtain ⟨n2,ok2,hr2⟩:∃ (n2:Int) (ok2:Bool),fg b.n0 x1.bY=(n2,ok2):=⟨_,_,rfl⟩
 refine bd [0,1,4,5,6] [0,7,8,9,10,11,12,13,14,15,6,5] mixed rfl rfl ?_
 refine aF (kn:=[]) aa 8 rfl trivial ?_
 refine aX (n':=16) [126,123] [7] rfl rfl (.inl ⟨(aq.plain rfl),aM.cast (df (i:=0) rfl rfl rfl Try.underlying36 fO rfl (by decide)) rfl⟩) rfl ?_
 refine aF (kn:=[]) aa 3 rfl trivial ?_
 refine aX (n':=16) [128,130] [] rfl rfl (.inl ⟨(aq.plain rfl),aM.cast (ch 16 (rh b.n0 x1.bY n2 ok2 hr2) Hr rfl rfl ⟨⟨_,rfl,.c (.d _)⟩,⟨_,rfl,.g ⟨.d _,.d _,.d _,.d _,trivial⟩⟩,trivial⟩ ⟨trivial,trivial,trivial⟩ trivial rfl rfl rfl rfl) rfl⟩) rfl ?_
 refine aF (kn:=[]) aa 5 rfl trivial ?_
 refine bF [0,7,8,9,10,11,12,13,14,15,6,5] rfl rfl rfl rfl (by kernel_rfl) ?_
 refine af ?_
 refine ah ?_
 refine bd [0,1,4,5,6,9,10] [0,7,8,9,10,11,12,13,14,15,6,5] mixed rfl rfl ?_
 refine aF (kn:=[]) aa 9 rfl trivial ?_
 refine aX (n':=16) [142,138] [7] rfl rfl (.inl ⟨(aq.plain rfl),aM.cast (df (i:=0) rfl rfl rfl Try.underlying36 fO rfl (by decide)) rfl⟩) rfl ?_
 refine bF [0,7,8,9,10,11,12,13,14,15,6,5] rfl rfl rfl rfl (by kernel_rfl) ?_
 refine ad aa 1 rfl ?_
 refine af ?_
 refine ah ?_
 refine ae aa 1 rfl ?_
 refine an rfl (fun hc7=>?_) (fun hc7=>?_)
 ·
  have hc7':=hc7;try simp only [bA,bW] at hc7'
  have hpk2:=hpk (by omega)
  refine ay ?_
  refine ad aa 3 rfl ?_
  obtain ⟨due23,cards23,book23,e23,hr3⟩:∃ (due23:List Int) (cards23:List bD) (book23:List Entry) (e23:Int),dv b.aj b.due b.ag b.book 0 x1.bY=(due23,cards23,book23,e23):=⟨_,_,_,_,rfl⟩
  refine aP 19 [7,16,17,18,0,8,9,10,11,15,6,5] (cw (bc [7,12,13,14]) (bc [7,16,17,18]) (ms:=(((((dO.set 2 (some (.s 1 0 6 b.ag.length))).set 3 (some (.s 2 0 1 b.due.length))).set 4 (some (.s 3 0 8 b.aj.length))).set 18 (some (dR b.book))).set 19 (some (cI 0)))) (ms':=(((((dO.set 2 (some (.s 1 0 6 cards23.length))).set 3 (some (.s 2 0 1 due23.length))).set 4 (some (.s 3 0 8 b.aj.length))).set 18 (some (dR book23))).set 19 (some (cI e23)))) (fun x hx=>CJ x hx b.aj b.due b.ag b.book 0 x1.bY (by first|omega|(simp;done)|(simp;omega)) (by assumption) (by first|omega|(simp;done)|(simp;omega)) (by first|omega|(simp;done)|(simp;omega)) due23 cards23 book23 e23 hr3) Hq rfl rfl ⟨⟨_,rfl,.inl ⟨rfl,rfl⟩⟩,⟨_,rfl,.inr (.g ⟨.d _,.d _,.d _,.d _,trivial⟩)⟩,trivial⟩ rfl rfl rfl rfl rfl rfl rfl ⟨rfl,rfl,rfl,trivial⟩ rfl rfl rfl rfl rfl rfl rfl rfl rfl rfl rfl rfl rfl) rfl ?_
  refine af ?_
  rcases (show e23=0\/¬e23=0 from by omega) with hs8|hs8
  ·
   refine aH aa 2 rfl ?_
   refine aP 23 [0,19,20,21,22,6,5] (cO (bc [0,7,8,9,10,11,16,17,18,15]) (bc [0,19,20,21,22]) (fM (x 17) (x 19) b (⟨b.time,b.down,cards23,due23,b.aj,b.s0,b.s1,n2,b.n1,(b.w0).drop 1,b.w1,b.bx,b.aQ,book23⟩:Bk) e23 (by first|assumption|omega)) gm rfl rfl ⟨⟨_,rfl,.inl ⟨rfl,rfl⟩⟩,⟨_,rfl,.inl ⟨rfl,rfl⟩⟩,trivial⟩ ⟨rfl,rfl,rfl,rfl,rfl,rfl,rfl,rfl,rfl,rfl,trivial⟩ rfl rfl rfl rfl rfl rfl trivial ⟨⟨trivial,trivial,trivial,trivial,trivial,trivial,trivial,trivial,trivial,trivial,trivial,trivial,trivial,trivial,trivial,trivial,trivial,trivial,trivial,trivial,trivial⟩,(fun _ _ _ _=>trivial),(fun _ _ _ _=>trivial),(fun _ _ _ _=>trivial),(fun _ _ _ _=>trivial),trivial⟩ rfl rfl rfl rfl) rfl ?_
   refine ad aa 2 rfl ?_
   refine af ?_
   refine aA ?_
   have hX:bE b (⟨idn,kind,0,az,move,sum⟩:aV)=((⟨b.time,b.down,cards23,due23,b.aj,b.s0,b.s1,n2,b.n1,(b.w0).drop 1,b.w1,b.bx,b.aQ,book23⟩:Bk),(⟨e23,0⟩:Answer)):=by
     unfold bE;dsimp only;rw [if_pos rfl];unfold ew;rw [hx1];dsimp only;(try simp only [hr2,hr3]);(try unfold cQ);(repeat' split)<;>first|rfl|omega|(exfalso;omega)|(simp_all;done)|(simp_all;omega)
   rw [hX] at hr;clear hX
   simp only [Prod.mk.injEq] at hr;obtain ⟨rfl,rfl⟩:=hr
   refine aw aa [0,19,20,21,22,5] 5 rfl rfl rfl rfl rfl rfl ?_ ?_
   all_goals first|rfl|(simp [aD,aZ,bg];done)|(simp [aD,aZ,bg];omega)
  refine aH aa 2 rfl ?_
  refine aP 23 [0,19,20,21,22,6,5] (cO (bc [0,7,8,9,10,11,16,17,18,15]) (bc [0,19,20,21,22]) (gI (x 17) (x 19) b (⟨b.time,b.down,cards23,due23,b.aj,b.s0,b.s1,n2,b.n1,(b.w0).drop 1,b.w1,b.bx,b.aQ,book23⟩:Bk) e23 (by first|assumption|omega)) gm rfl rfl ⟨⟨_,rfl,.inl ⟨rfl,rfl⟩⟩,⟨_,rfl,.inl ⟨rfl,rfl⟩⟩,trivial⟩ ⟨rfl,rfl,rfl,rfl,rfl,rfl,rfl,rfl,rfl,rfl,trivial⟩ rfl rfl rfl rfl rfl rfl trivial ⟨⟨trivial,trivial,trivial,trivial,trivial,trivial,trivial,trivial,trivial,trivial,trivial,trivial,trivial,trivial,trivial,trivial,trivial,trivial,trivial,trivial,trivial⟩,(fun _ _ _ _=>trivial),(fun _ _ _ _=>trivial),(fun _ _ _ _=>trivial),(fun _ _ _ _=>trivial),trivial⟩ rfl rfl rfl rfl) rfl ?_
  refine ad aa 2 rfl ?_
  refine af ?_
  refine aA ?_
  have hX:bE b (⟨idn,kind,0,az,move,sum⟩:aV)=(b,(⟨e23,0⟩:Answer)):=by
    unfold bE;dsimp only;rw [if_pos rfl];unfold ew;rw [hx1];dsimp only;(try simp only [hr2,hr3]);(try unfold cQ);(repeat' split)<;>first|rfl|omega|(exfalso;omega)|(simp_all;done)|(simp_all;omega)
  rw [hX] at hr;clear hX
  simp only [Prod.mk.injEq] at hr;obtain ⟨rfl,rfl⟩:=hr
  refine aw aa [0,19,20,21,22,5] 5 rfl rfl rfl rfl rfl rfl ?_ ?_
  all_goals first|rfl|(simp [aD,aZ,bg];done)|(simp [aD,aZ,bg];omega)
 have hc7':=hc7;try simp only [bA,bW] at hc7'
 refine aU ?_
 refine aH aa 2 rfl ?_
 refine aP 20 [0,16,17,18,19,6,5] (cO (bc [0,7,8,9,10,11,12,13,14,15]) (bc [0,16,17,18,19]) (fM (x 17) (x 19) b (⟨b.time,b.down,b.ag,b.due,b.aj,b.s0,b.s1,n2,b.n1,(b.w0).drop 1,b.w1,b.bx,b.aQ,b.book⟩:Bk) 0 (by first|assumption|omega)) gm rfl rfl ⟨⟨_,rfl,.inl ⟨rfl,rfl⟩⟩,⟨_,rfl,.inl ⟨rfl,rfl⟩⟩,trivial⟩ ⟨rfl,rfl,rfl,rfl,rfl,rfl,rfl,rfl,rfl,rfl,trivial⟩ rfl rfl rfl rfl rfl rfl trivial ⟨⟨trivial,trivial,trivial,trivial,trivial,trivial,trivial,trivial,trivial,trivial,trivial,trivial,trivial,trivial,trivial,trivial,trivial,trivial,trivial,trivial,trivial⟩,(fun _ _ _ _=>trivial),(fun _ _ _ _=>trivial),(fun _ _ _ _=>trivial),(fun _ _ _ _=>trivial),trivial⟩ rfl rfl rfl rfl) rfl ?_
 refine ad aa 2 rfl ?_
 refine af ?_
 refine aA ?_
 have hX:bE b (⟨idn,kind,0,az,move,sum⟩:aV)=((⟨b.time,b.down,b.ag,b.due,b.aj,b.s0,b.s1,n2,b.n1,(b.w0).drop 1,b.w1,b.bx,b.aQ,b.book⟩:Bk),(⟨0,0⟩:Answer)):=by
   unfold bE;dsimp only;rw [if_pos rfl];unfold ew;rw [hx1];dsimp only;(try simp only [hr2]);(try unfold cQ);(repeat' split)<;>first|rfl|omega|(exfalso;omega)|(simp_all;done)|(simp_all;omega)
 rw [hX] at hr;clear hX
 simp only [Prod.mk.injEq] at hr;obtain ⟨rfl,rfl⟩:=hr
 refine aw aa [0,16,17,18,19,5] 5 rfl rfl rfl rfl rfl rfl ?_ ?_
 all_goals first|rfl|(simp [aD,aZ,bg];done)|(simp [aD,aZ,bg];omega)
theorem CR (x:Nat->Value) (hx:∀ i,(x i).oneCell'=true) (b:Bk) (idn kind az move sum:Int) (ok:ct b) (b2:Bk) (a2:Answer) (hr:bE b (⟨idn,kind,1,az,move,sum⟩:aV)=(b2,a2)):cL Try.prog 67 [(.c (.p 0 0 0 0)),(.c (.q (cX (⟨idn,kind,1,az,move,sum⟩:aV)) 0))] [(0,(.box 98 (aZ b 1 2 3 4 (.d (.v (x 17))) (.d (.v (x 19)))))),(1,(ek b.ag)),(2,(dS b.due)),(3,(ep b.aj)),(4,(cU b.aQ))] [0] (.v (.g [cI a2.err,cI a2.ba])) [(0,(.box 98 (aZ b2 1 2 3 4 (.d (.v (x 17))) (.d (.v (x 19)))))),(1,(ek b2.ag)),(2,(dS b2.due)),(3,(ep b2.aj)),(4,(cU b2.aQ))]:=by
 refine cL.mk 153 [(0,(aC (.p 0 0 0 0))),(1,(aC (.q (cX (⟨idn,kind,1,az,move,sum⟩:aV)) 0)))] 5 Try.func67 rfl rfl rfl rfl rfl rfl rfl rfl rfl ?_
 intro W0 F0 T0 pg
 obtain ⟨okt,okc,okd,oka,oky,okw0,okw1,okp,okv,okk0,okk1,okg,okl0,okl1,okp0,okp1,okn0,okn1,okq⟩:=id ok
 refine ae aa 1 rfl ?_
 refine ah ?_
 refine ah ?_
 refine bd [0,1,4] [5,0,1,2,3,4] mixed rfl rfl ?_
 refine aF (kn:=[(15,true),(21,false)]) aa 21 rfl ⟨rfl,rfl,trivial⟩ ?_
 refine aX (n':=6) [31,28,23] [0] rfl rfl (.inl ⟨(aq.yes rfl rfl rfl),aM.cast (df (i:=1) rfl rfl rfl Try.underlying38 ka rfl (by decide)) rfl⟩) rfl ?_
 refine aF (kn:=[]) aa 1 rfl trivial ?_
 refine aX (n':=6) [33,23] [] rfl rfl (.inl ⟨(aq.yes rfl rfl rfl),aM.cast (cJ rfl rfl rfl rfl rfl Try.underlying37) rfl⟩) rfl ?_
 refine aF (kn:=[]) aa 2 rfl trivial ?_
 refine bF [5,0,1,2,3,4] rfl rfl rfl rfl (by kernel_rfl) ?_
 refine af ?_
 refine an rfl (fun hc1=>?_) (fun hc1=>?_)
 ·
  have hc1':=of_decide_eq_true hc1
  refine ae aa 2 rfl ?_
  refine aA ?_
  refine ax ?_
  have hX:bE b (⟨idn,kind,1,az,move,sum⟩:aV)=(b,(⟨6,0⟩:Answer)):=by
    unfold bE;dsimp only;rw [if_neg (by decide),if_pos rfl];unfold eu;rw [List.getElem?_eq_none (by omega)]
  rw [hX] at hr;clear hX
  simp only [Prod.mk.injEq] at hr;obtain ⟨rfl,rfl⟩:=hr
  refine aw aa [0,1,2,3,4,5] 5 rfl rfl rfl rfl rfl rfl ?_ ?_
  all_goals first|rfl|(simp [aD,aZ,bg];done)|(simp [aD,aZ,bg];omega)
 have hc1':=of_decide_eq_false hc1
 refine aU ?_
 refine ah ?_
 obtain ⟨x1,hx1⟩:=cr (xs:=b.w1) (i:=0) (by first|omega|(simp;done)|(simp;omega))
 refine bd [0,1,4] [5,0,1,2,3,4] mixed rfl rfl ?_
 refine aF (kn:=[]) aa 8 rfl trivial ?_
 refine aX (n':=6) [45,42] [0] rfl rfl (.inl ⟨(aq.plain rfl),aM.cast (df (i:=1) rfl rfl rfl Try.underlying38 ka rfl (by decide)) rfl⟩) rfl ?_
 refine aF (kn:=[]) aa 1 rfl trivial ?_
 refine aX (n':=6) [47] [] rfl rfl (.inl ⟨(aq.plain rfl),aM.cast (db (i:=0) rfl rfl rfl Try.underlying37 vM (by first|omega|(simp;done)|(simp;omega)) (bz hx1)) rfl⟩) rfl ?_
 refine aF (n':=7) (kn:=[]) aa 2 rfl trivial ?_
 refine bF [6,5,0,1,2,3,4] rfl rfl rfl rfl (by kernel_rfl) ?_
 refine ad aa 1 rfl ?_
 refine af ?_
 have hpk:=okp1 x1 (List.mem_of_getElem? hx1)
 have hI0:∀ t∈b.s0.kept,fA t.number:=fun t ht=>(okk0 t ht).1
 have hI1:∀ t∈b.s1.kept,fA t.number:=fun t ht=>(okk1 t ht).1
 have hA:∀ a∈b.aj,0<=a.aO/\a.aO < b.ag.length/\0<=a.az/\a.az < b.due.length:=fun a ha=>(okp a ha).2
 refine aH aa 1 rfl ?_
 refine aP 16 [0,7,8,9,10,11,12,13,14,15,6,5] (cO id (bc [0,7,8,9,10,11,12,13,14,15]) (kW (x 17) (x 19) b (by first|omega|(simp;done)|(simp;omega)) (by first|omega|(simp;done)|(simp;omega)) (by first|omega|(simp;done)|(simp;omega)) (by first|omega|(simp;done)|(simp;omega))) sg rfl rfl ⟨⟨_,rfl,.inl ⟨rfl,rfl⟩⟩,trivial⟩ ⟨rfl,rfl,rfl,rfl,rfl,trivial⟩ rfl rfl rfl rfl rfl rfl trivial ⟨⟨trivial,trivial,trivial,trivial,trivial,trivial,trivial,trivial,trivial,trivial,trivial,trivial,trivial,trivial,trivial,trivial,trivial,trivial,trivial,trivial,trivial⟩,⟨trivial,trivial,trivial,trivial,trivial,trivial,trivial,trivial,trivial,trivial,trivial,trivial,trivial,trivial,trivial,trivial,trivial,trivial,trivial,trivial,trivial⟩,(fun _ _ _ _=>trivial),(fun _ _ _ _=>trivial),(fun _ _ _ _=>trivial),(fun _ _ _ _=>trivial),(fun _ _ _ _=>trivial),(fun _ _ _ _=>trivial),(fun _ _ _ _=>trivial),(fun _ _ _ _=>trivial),trivial⟩ rfl rfl rfl rfl) rfl ?_
 refine ad aa 1 rfl ?_
 refine af ?_
 refine ah ?_
 refine bd [0,1,4,5,6] [0,7,8,9,10,11,12,13,14,15,6,5] mixed rfl rfl ?_
 refine aF (kn:=[]) aa 13 rfl trivial ?_
 refine aX (n':=16) [64,61] [0] rfl rfl (.inl ⟨(aq.plain rfl),aM.cast (df (i:=1) rfl rfl rfl Try.underlying38 ka rfl (by decide)) rfl⟩) rfl ?_
 refine aF (kn:=[]) aa 1 rfl trivial ?_
 refine aX (n':=16) [66] [] rfl rfl (.inl ⟨(aq.plain rfl),aM.cast (sa (l:=1) (h:=b.w1.length) (ys:=((b.w1).drop 1).map fP) rfl Try.underlying37 vM rfl (.inr ⟨_,rfl,rfl⟩) (.inl ⟨rfl,by simp⟩) (by first|omega|(simp;done)|(simp;omega)) (by first|omega|(simp;done)|(simp;omega)) (by first|(simp;done)|(rw [List.map_drop];exact List.take_of_length_le (by simp)))) rfl⟩) rfl ?_
 refine aF (kn:=[]) aa 3 rfl trivial ?_
 refine aX (n':=16) [70,56] [7] rfl rfl (.inl ⟨(aq.plain rfl),aM.cast (df (i:=1) rfl rfl rfl Try.underlying38 ka rfl (by decide)) rfl⟩) rfl ?_
 refine bF [0,7,8,9,10,11,12,13,14,15,6,5] rfl rfl rfl rfl (by kernel_rfl) ?_
 refine ad aa 1 rfl ?_
 refine af ?_
 refine ah ?_
 refine ae aa 5 rfl ?_
 refine an rfl (fun hc2=>?_) (fun hc2=>?_)
 ·
  have hc2':=of_decide_eq_true hc2
  refine aH aa 2 rfl ?_
  refine aP 20 [0,16,17,18,19,6,5] (cO (bc [0,7,8,9,10,11,12,13,14,15]) (bc [0,16,17,18,19]) (fM (x 17) (x 19) b (⟨b.time,b.down,b.ag,b.due,b.aj,b.s0,b.s1,b.n0,b.n1,b.w0,(b.w1).drop 1,b.bx,b.aQ,b.book⟩:Bk) 0 (by first|assumption|omega)) gm rfl rfl ⟨⟨_,rfl,.inl ⟨rfl,rfl⟩⟩,⟨_,rfl,.inl ⟨rfl,rfl⟩⟩,trivial⟩ ⟨rfl,rfl,rfl,rfl,rfl,rfl,rfl,rfl,rfl,rfl,trivial⟩ rfl rfl rfl rfl rfl rfl trivial ⟨⟨trivial,trivial,trivial,trivial,trivial,trivial,trivial,trivial,trivial,trivial,trivial,trivial,trivial,trivial,trivial,trivial,trivial,trivial,trivial,trivial,trivial⟩,(fun _ _ _ _=>trivial),(fun _ _ _ _=>trivial),(fun _ _ _ _=>trivial),(fun _ _ _ _=>trivial),trivial⟩ rfl rfl rfl rfl) rfl ?_
  refine ad aa 2 rfl ?_
  refine af ?_
  refine aA ?_
  refine ax ?_
  have hX:bE b (⟨idn,kind,1,az,move,sum⟩:aV)=((⟨b.time,b.down,b.ag,b.due,b.aj,b.s0,b.s1,b.n0,b.n1,b.w0,(b.w1).drop 1,b.bx,b.aQ,b.book⟩:Bk),(⟨0,0⟩:Answer)):=by
    unfold bE;dsimp only;rw [if_neg (by decide),if_pos rfl];unfold eu;rw [hx1];dsimp only;(try simp only [cQ]);(try unfold cQ);(repeat' split)<;>first|rfl|omega|(exfalso;omega)|(simp_all;done)|(simp_all;omega)
  rw [hX] at hr;clear hX
  simp only [Prod.mk.injEq] at hr;obtain ⟨rfl,rfl⟩:=hr
  refine aw aa [0,16,17,18,19,5] 5 rfl rfl rfl rfl rfl rfl ?_ ?_
  all_goals first|rfl|(simp [aD,aZ,bg];done)|(simp [aD,aZ,bg];omega)
 have hc2':=of_decide_eq_false hc2
 refine aU ?_
 refine ah ?_
 refine ae aa 3 rfl ?_
 refine an rfl (fun hc3=>?_) (fun hc3=>?_)
 ·
  have hc3':=of_decide_eq_true hc3
  refine ah ?_
  obtain ⟨xr0,e0,hr0⟩:∃ (xr0:bO) (e0:Int),eg b.s1 x1.seen=(xr0,e0):=⟨_,_,rfl⟩
  refine dr [0,1,4,5,6] [0,7,8,9,10,11,12,13,14,15,6,5] mixed rfl rfl ?_
  refine bU (kn:=[]) aa 8 rfl trivial ?_
  refine ca (n':=16) [92,89] [7] rfl rfl (.inl ⟨(aq.plain rfl),aM.cast (df (i:=1) rfl rfl rfl Try.underlying35 kb rfl (by decide)) rfl⟩) rfl ?_
  refine bU (kn:=[]) aa 3 rfl trivial ?_
  refine ca (n':=16) [94,96] [] rfl rfl (.inl ⟨(aq.plain rfl),aM.cast (ch 16 (Fn.frozen (av':=(.t [(.g [(cI xr0.bG),(dh xr0.kept)]),(.c (cI e0))])) (rk b.s1 x1.seen (by first|assumption|exact kQ (by assumption) (by omega)|exact jO (by assumption) (by assumption)|(simp [fA];done)) xr0 e0 hr0) ⟨⟨.inl ⟨_,rfl,rfl⟩,.inr ⟨_,_,_,_,_,rfl,rfl,rfl,by simp⟩,trivial⟩,.inl ⟨_,rfl,rfl⟩,trivial⟩) Hs rfl rfl ⟨⟨_,rfl,.g ⟨.d _,.d _,trivial⟩⟩,⟨_,rfl,.c (.d _)⟩,trivial⟩ ⟨⟨trivial,trivial,trivial⟩,trivial,trivial⟩ trivial rfl rfl rfl rfl) rfl⟩) rfl ?_
  refine bU (n':=17) (kn:=[]) aa 6 rfl trivial ?_
  refine ef [0,1,4,5,6,7,8] [16,0,7,8,9,10,11,12,13,14,15,6,5] rfl rfl (by kernel_rfl) ?_
  refine then_ok ?_
  refine ah ?_
  refine aH aa 2 rfl ?_
  obtain ⟨e21,hr1⟩:∃ (e21:Int),dN 0 e0=e21:=⟨_,rfl⟩
  refine aP 17 [7,16,0,8,9,10,11,12,13,14,15,6,5] (cw (bc [7]) (bc [7]) (ms:=(dO.set 19 (some (cI 0)))) (ms':=(dO.set 19 (some (cI e21)))) (fun x hx=>kz x hx 0 e0 e21 hr1) oM rfl rfl ⟨⟨_,rfl,.inl ⟨rfl,rfl⟩⟩,⟨_,rfl,.inr (.c (.d _))⟩,trivial⟩ rfl rfl rfl rfl rfl rfl rfl trivial rfl rfl rfl rfl rfl rfl rfl rfl rfl rfl rfl rfl rfl) rfl ?_
  refine ad aa 1 rfl ?_
  refine af ?_
  refine an rfl (fun hc4=>?_) (fun hc4=>?_)
  ·
   have hc4':=hc4;try simp only [bA,bW] at hc4'
   refine bd [0,1,4,5,6,7] [7,16,0,8,9,10,11,12,13,14,15,6,5] mixed rfl rfl ?_
   refine aF (kn:=[]) aa 9 rfl trivial ?_
   refine aX (n':=17) [112,108] [7] rfl rfl (.inl ⟨(aq.plain rfl),aM.cast (df (i:=1) rfl rfl rfl Try.underlying35 kb rfl (by decide)) rfl⟩) rfl ?_
   refine bF [7,16,0,8,9,10,11,12,13,14,15,6,5] rfl rfl rfl rfl (by kernel_rfl) ?_
   refine ad aa 1 rfl ?_
   refine af ?_
   rcases (show e21=0\/¬e21=0 from by omega) with hs5|hs5
   ·
    refine aH aa 2 rfl ?_
    refine aP 21 [0,17,18,19,20,16,6,5] (cO (bc [0,7,8,9,10,11,12,13,14,15]) (bc [0,17,18,19,20]) (fM (x 17) (x 19) b (⟨b.time,b.down,b.ag,b.due,b.aj,b.s0,xr0,b.n0,b.n1,b.w0,(b.w1).drop 1,b.bx,b.aQ,b.book⟩:Bk) e21 (by first|assumption|omega)) gm rfl rfl ⟨⟨_,rfl,.inl ⟨rfl,rfl⟩⟩,⟨_,rfl,.inl ⟨rfl,rfl⟩⟩,trivial⟩ ⟨rfl,rfl,rfl,rfl,rfl,rfl,rfl,rfl,rfl,rfl,trivial⟩ rfl rfl rfl rfl rfl rfl trivial ⟨⟨trivial,trivial,trivial,trivial,trivial,trivial,trivial,trivial,trivial,trivial,trivial,trivial,trivial,trivial,trivial,trivial,trivial,trivial,trivial,trivial,trivial⟩,(fun _ _ _ _=>trivial),(fun _ _ _ _=>trivial),(fun _ _ _ _=>trivial),(fun _ _ _ _=>trivial),trivial⟩ rfl rfl rfl rfl) rfl ?_
    refine ad aa 2 rfl ?_
    refine af ?_
    refine aA ?_
    refine ax ?_
    have hX:bE b (⟨idn,kind,1,az,move,sum⟩:aV)=((⟨b.time,b.down,b.ag,b.due,b.aj,b.s0,xr0,b.n0,b.n1,b.w0,(b.w1).drop 1,b.bx,b.aQ,b.book⟩:Bk),(⟨e21,0⟩:Answer)):=by
      unfold bE;dsimp only;rw [if_neg (by decide),if_pos rfl];unfold eu;rw [hx1];dsimp only;unfold dN at hr1;simp only [if_true] at hr1;(try simp only [hr0]);(try unfold cQ);(repeat' split)<;>first|rfl|omega|(exfalso;omega)|(simp_all;done)|(simp_all;omega)
    rw [hX] at hr;clear hX
    simp only [Prod.mk.injEq] at hr;obtain ⟨rfl,rfl⟩:=hr
    refine aw aa [0,17,18,19,20,5] 5 rfl rfl rfl rfl rfl rfl ?_ ?_
    all_goals first|rfl|(simp [aD,aZ,bg];done)|(simp [aD,aZ,bg];omega)
   refine aH aa 2 rfl ?_
   refine aP 21 [0,17,18,19,20,16,6,5] (cO (bc [0,7,8,9,10,11,12,13,14,15]) (bc [0,17,18,19,20]) (gI (x 17) (x 19) b (⟨b.time,b.down,b.ag,b.due,b.aj,b.s0,xr0,b.n0,b.n1,b.w0,(b.w1).drop 1,b.bx,b.aQ,b.book⟩:Bk) e21 (by first|assumption|omega)) gm rfl rfl ⟨⟨_,rfl,.inl ⟨rfl,rfl⟩⟩,⟨_,rfl,.inl ⟨rfl,rfl⟩⟩,trivial⟩ ⟨rfl,rfl,rfl,rfl,rfl,rfl,rfl,rfl,rfl,rfl,trivial⟩ rfl rfl rfl rfl rfl rfl trivial ⟨⟨trivial,trivial,trivial,trivial,trivial,trivial,trivial,trivial,trivial,trivial,trivial,trivial,trivial,trivial,trivial,trivial,trivial,trivial,trivial,trivial,trivial⟩,(fun _ _ _ _=>trivial),(fun _ _ _ _=>trivial),(fun _ _ _ _=>trivial),(fun _ _ _ _=>trivial),trivial⟩ rfl rfl rfl rfl) rfl ?_
   refine ad aa 2 rfl ?_
   refine af ?_
   refine aA ?_
   refine ax ?_
   have hX:bE b (⟨idn,kind,1,az,move,sum⟩:aV)=(b,(⟨e21,0⟩:Answer)):=by
     unfold bE;dsimp only;rw [if_neg (by decide),if_pos rfl];unfold eu;rw [hx1];dsimp only;unfold dN at hr1;simp only [if_true] at hr1;(try simp only [hr0]);(try unfold cQ);(repeat' split)<;>first|rfl|omega|(exfalso;omega)|(simp_all;done)|(simp_all;omega)
   rw [hX] at hr;clear hX
   simp only [Prod.mk.injEq] at hr;obtain ⟨rfl,rfl⟩:=hr
   refine aw aa [0,17,18,19,20,5] 5 rfl rfl rfl rfl rfl rfl ?_ ?_
   all_goals first|rfl|(simp [aD,aZ,bg];done)|(simp [aD,aZ,bg];omega)
  have hc4':=hc4;try simp only [bA,bW] at hc4'
  refine aU ?_
  rcases (show e21=0\/¬e21=0 from by omega) with hs6|hs6
  ·
   refine aH aa 2 rfl ?_
   refine aP 21 [0,17,18,19,20,16,6,5] (cO (bc [0,7,8,9,10,11,12,13,14,15]) (bc [0,17,18,19,20]) (fM (x 17) (x 19) b (⟨b.time,b.down,b.ag,b.due,b.aj,b.s0,b.s1,b.n0,b.n1,b.w0,(b.w1).drop 1,b.bx,b.aQ,b.book⟩:Bk) e21 (by first|assumption|omega)) gm rfl rfl ⟨⟨_,rfl,.inl ⟨rfl,rfl⟩⟩,⟨_,rfl,.inl ⟨rfl,rfl⟩⟩,trivial⟩ ⟨rfl,rfl,rfl,rfl,rfl,rfl,rfl,rfl,rfl,rfl,trivial⟩ rfl rfl rfl rfl rfl rfl trivial ⟨⟨trivial,trivial,trivial,trivial,trivial,trivial,trivial,trivial,trivial,trivial,trivial,trivial,trivial,trivial,trivial,trivial,trivial,trivial,trivial,trivial,trivial⟩,(fun _ _ _ _=>trivial),(fun _ _ _ _=>trivial),(fun _ _ _ _=>trivial),(fun _ _ _ _=>trivial),trivial⟩ rfl rfl rfl rfl) rfl ?_
   refine ad aa 2 rfl ?_
   refine af ?_
   refine aA ?_
   refine ax ?_
   have hX:bE b (⟨idn,kind,1,az,move,sum⟩:aV)=((⟨b.time,b.down,b.ag,b.due,b.aj,b.s0,b.s1,b.n0,b.n1,b.w0,(b.w1).drop 1,b.bx,b.aQ,b.book⟩:Bk),(⟨e21,0⟩:Answer)):=by
     unfold bE;dsimp only;rw [if_neg (by decide),if_pos rfl];unfold eu;rw [hx1];dsimp only;unfold dN at hr1;simp only [if_true] at hr1;(try simp only [hr0]);(try unfold cQ);(repeat' split)<;>first|rfl|omega|(exfalso;omega)|(simp_all;done)|(simp_all;omega)
   rw [hX] at hr;clear hX
   simp only [Prod.mk.injEq] at hr;obtain ⟨rfl,rfl⟩:=hr
   refine aw aa [0,17,18,19,20,5] 5 rfl rfl rfl rfl rfl rfl ?_ ?_
   all_goals first|rfl|(simp [aD,aZ,bg];done)|(simp [aD,aZ,bg];omega)
  refine aH aa 2 rfl ?_
  refine aP 21 [0,17,18,19,20,16,6,5] (cO (bc [0,7,8,9,10,11,12,13,14,15]) (bc [0,17,18,19,20]) (gI (x 17) (x 19) b (⟨b.time,b.down,b.ag,b.due,b.aj,b.s0,b.s1,b.n0,b.n1,b.w0,(b.w1).drop 1,b.bx,b.aQ,b.book⟩:Bk) e21 (by first|assumption|omega)) gm rfl rfl ⟨⟨_,rfl,.inl ⟨rfl,rfl⟩⟩,⟨_,rfl,.inl ⟨rfl,rfl⟩⟩,trivial⟩ ⟨rfl,rfl,rfl,rfl,rfl,rfl,rfl,rfl,rfl,rfl,trivial⟩ rfl rfl rfl rfl rfl rfl trivial ⟨⟨trivial,trivial,trivial,trivial,trivial,trivial,trivial,trivial,trivial,trivial,trivial,trivial,trivial,trivial,trivial,trivial,trivial,trivial,trivial,trivial,trivial⟩,(fun _ _ _ _=>trivial),(fun _ _ _ _=>trivial),(fun _ _ _ _=>trivial),(fun _ _ _ _=>trivial),trivial⟩ rfl rfl rfl rfl) rfl ?_
  refine ad aa 2 rfl ?_
  refine af ?_
  refine aA ?_
  refine ax ?_
  have hX:bE b (⟨idn,kind,1,az,move,sum⟩:aV)=(b,(⟨e21,0⟩:Answer)):=by
    unfold bE;dsimp only;rw [if_neg (by decide),if_pos rfl];unfold eu;rw [hx1];dsimp only;unfold dN at hr1;simp only [if_true] at hr1;(try simp only [hr0]);(try unfold cQ);(repeat' split)<;>first|rfl|omega|(exfalso;omega)|(simp_all;done)|(simp_all;omega)
  rw [hX] at hr;clear hX
  simp only [Prod.mk.injEq] at hr;obtain ⟨rfl,rfl⟩:=hr
  refine aw aa [0,17,18,19,20,5] 5 rfl rfl rfl rfl rfl rfl ?_ ?_
  all_goals first|rfl|(simp [aD,aZ,bg];done)|(simp [aD,aZ,bg];omega)
 have hc3':=of_decide_eq_false hc3
 refine aU ?_
 refine ah ?_
 obtain ⟨n2,ok2,hr2⟩:∃ (n2:Int) (ok2:Bool),fg b.n1 x1.bY=(n2,ok2):=⟨_,_,rfl⟩
 refine bd [0,1,4,5,6] [0,7,8,9,10,11,12,13,14,15,6,5] mixed rfl rfl ?_
 refine aF (kn:=[]) aa 8 rfl trivial ?_
 refine aX (n':=16) [126,123] [7] rfl rfl (.inl ⟨(aq.plain rfl),aM.cast (df (i:=1) rfl rfl rfl Try.underlying36 fO rfl (by decide)) rfl⟩) rfl ?_
 refine aF (kn:=[]) aa 3 rfl trivial ?_
 refine aX (n':=16) [128,130] [] rfl rfl (.inl ⟨(aq.plain rfl),aM.cast (ch 16 (rh b.n1 x1.bY n2 ok2 hr2) Hr rfl rfl ⟨⟨_,rfl,.c (.d _)⟩,⟨_,rfl,.g ⟨.d _,.d _,.d _,.d _,trivial⟩⟩,trivial⟩ ⟨trivial,trivial,trivial⟩ trivial rfl rfl rfl rfl) rfl⟩) rfl ?_
 refine aF (kn:=[]) aa 5 rfl trivial ?_
 refine bF [0,7,8,9,10,11,12,13,14,15,6,5] rfl rfl rfl rfl (by kernel_rfl) ?_
 refine af ?_
 refine ah ?_
 refine bd [0,1,4,5,6,9,10] [0,7,8,9,10,11,12,13,14,15,6,5] mixed rfl rfl ?_
 refine aF (kn:=[]) aa 9 rfl trivial ?_
 refine aX (n':=16) [142,138] [7] rfl rfl (.inl ⟨(aq.plain rfl),aM.cast (df (i:=1) rfl rfl rfl Try.underlying36 fO rfl (by decide)) rfl⟩) rfl ?_
 refine bF [0,7,8,9,10,11,12,13,14,15,6,5] rfl rfl rfl rfl (by kernel_rfl) ?_
 refine ad aa 1 rfl ?_
 refine af ?_
 refine ah ?_
 refine ae aa 1 rfl ?_
 refine an rfl (fun hc7=>?_) (fun hc7=>?_)
 ·
  have hc7':=hc7;try simp only [bA,bW] at hc7'
  have hpk2:=hpk (by omega)
  refine ay ?_
  refine ad aa 3 rfl ?_
  obtain ⟨due23,cards23,book23,e23,hr3⟩:∃ (due23:List Int) (cards23:List bD) (book23:List Entry) (e23:Int),dv b.aj b.due b.ag b.book 0 x1.bY=(due23,cards23,book23,e23):=⟨_,_,_,_,rfl⟩
  refine aP 19 [7,16,17,18,0,8,9,10,11,15,6,5] (cw (bc [7,12,13,14]) (bc [7,16,17,18]) (ms:=(((((dO.set 2 (some (.s 1 0 6 b.ag.length))).set 3 (some (.s 2 0 1 b.due.length))).set 4 (some (.s 3 0 8 b.aj.length))).set 18 (some (dR b.book))).set 19 (some (cI 0)))) (ms':=(((((dO.set 2 (some (.s 1 0 6 cards23.length))).set 3 (some (.s 2 0 1 due23.length))).set 4 (some (.s 3 0 8 b.aj.length))).set 18 (some (dR book23))).set 19 (some (cI e23)))) (fun x hx=>CJ x hx b.aj b.due b.ag b.book 0 x1.bY (by first|omega|(simp;done)|(simp;omega)) (by assumption) (by first|omega|(simp;done)|(simp;omega)) (by first|omega|(simp;done)|(simp;omega)) due23 cards23 book23 e23 hr3) Hq rfl rfl ⟨⟨_,rfl,.inl ⟨rfl,rfl⟩⟩,⟨_,rfl,.inr (.g ⟨.d _,.d _,.d _,.d _,trivial⟩)⟩,trivial⟩ rfl rfl rfl rfl rfl rfl rfl ⟨rfl,rfl,rfl,trivial⟩ rfl rfl rfl rfl rfl rfl rfl rfl rfl rfl rfl rfl rfl) rfl ?_
  refine af ?_
  rcases (show e23=0\/¬e23=0 from by omega) with hs8|hs8
  ·
   refine aH aa 2 rfl ?_
   refine aP 23 [0,19,20,21,22,6,5] (cO (bc [0,7,8,9,10,11,16,17,18,15]) (bc [0,19,20,21,22]) (fM (x 17) (x 19) b (⟨b.time,b.down,cards23,due23,b.aj,b.s0,b.s1,b.n0,n2,b.w0,(b.w1).drop 1,b.bx,b.aQ,book23⟩:Bk) e23 (by first|assumption|omega)) gm rfl rfl ⟨⟨_,rfl,.inl ⟨rfl,rfl⟩⟩,⟨_,rfl,.inl ⟨rfl,rfl⟩⟩,trivial⟩ ⟨rfl,rfl,rfl,rfl,rfl,rfl,rfl,rfl,rfl,rfl,trivial⟩ rfl rfl rfl rfl rfl rfl trivial ⟨⟨trivial,trivial,trivial,trivial,trivial,trivial,trivial,trivial,trivial,trivial,trivial,trivial,trivial,trivial,trivial,trivial,trivial,trivial,trivial,trivial,trivial⟩,(fun _ _ _ _=>trivial),(fun _ _ _ _=>trivial),(fun _ _ _ _=>trivial),(fun _ _ _ _=>trivial),trivial⟩ rfl rfl rfl rfl) rfl ?_
   refine ad aa 2 rfl ?_
   refine af ?_
   refine aA ?_
   have hX:bE b (⟨idn,kind,1,az,move,sum⟩:aV)=((⟨b.time,b.down,cards23,due23,b.aj,b.s0,b.s1,b.n0,n2,b.w0,(b.w1).drop 1,b.bx,b.aQ,book23⟩:Bk),(⟨e23,0⟩:Answer)):=by
     unfold bE;dsimp only;rw [if_neg (by decide),if_pos rfl];unfold eu;rw [hx1];dsimp only;(try simp only [hr2,hr3]);(try unfold cQ);(repeat' split)<;>first|rfl|omega|(exfalso;omega)|(simp_all;done)|(simp_all;omega)
   rw [hX] at hr;clear hX
   simp only [Prod.mk.injEq] at hr;obtain ⟨rfl,rfl⟩:=hr
   refine aw aa [0,19,20,21,22,5] 5 rfl rfl rfl rfl rfl rfl ?_ ?_
   all_goals first|rfl|(simp [aD,aZ,bg];done)|(simp [aD,aZ,bg];omega)
  refine aH aa 2 rfl ?_
  refine aP 23 [0,19,20,21,22,6,5] (cO (bc [0,7,8,9,10,11,16,17,18,15]) (bc [0,19,20,21,22]) (gI (x 17) (x 19) b (⟨b.time,b.down,cards23,due23,b.aj,b.s0,b.s1,b.n0,n2,b.w0,(b.w1).drop 1,b.bx,b.aQ,book23⟩:Bk) e23 (by first|assumption|omega)) gm rfl rfl ⟨⟨_,rfl,.inl ⟨rfl,rfl⟩⟩,⟨_,rfl,.inl ⟨rfl,rfl⟩⟩,trivial⟩ ⟨rfl,rfl,rfl,rfl,rfl,rfl,rfl,rfl,rfl,rfl,trivial⟩ rfl rfl rfl rfl rfl rfl trivial ⟨⟨trivial,trivial,trivial,trivial,trivial,trivial,trivial,trivial,trivial,trivial,trivial,trivial,trivial,trivial,trivial,trivial,trivial,trivial,trivial,trivial,trivial⟩,(fun _ _ _ _=>trivial),(fun _ _ _ _=>trivial),(fun _ _ _ _=>trivial),(fun _ _ _ _=>trivial),trivial⟩ rfl rfl rfl rfl) rfl ?_
  refine ad aa 2 rfl ?_
  refine af ?_
  refine aA ?_
  have hX:bE b (⟨idn,kind,1,az,move,sum⟩:aV)=(b,(⟨e23,0⟩:Answer)):=by
    unfold bE;dsimp only;rw [if_neg (by decide),if_pos rfl];unfold eu;rw [hx1];dsimp only;(try simp only [hr2,hr3]);(try unfold cQ);(repeat' split)<;>first|rfl|omega|(exfalso;omega)|(simp_all;done)|(simp_all;omega)
  rw [hX] at hr;clear hX
  simp only [Prod.mk.injEq] at hr;obtain ⟨rfl,rfl⟩:=hr
  refine aw aa [0,19,20,21,22,5] 5 rfl rfl rfl rfl rfl rfl ?_ ?_
  all_goals first|rfl|(simp [aD,aZ,bg];done)|(simp [aD,aZ,bg];omega)
 have hc7':=hc7;try simp only [bA,bW] at hc7'
 refine aU ?_
 refine aH aa 2 rfl ?_
 refine aP 20 [0,16,17,18,19,6,5] (cO (bc [0,7,8,9,10,11,12,13,14,15]) (bc [0,16,17,18,19]) (fM (x 17) (x 19) b (⟨b.time,b.down,b.ag,b.due,b.aj,b.s0,b.s1,b.n0,n2,b.w0,(b.w1).drop 1,b.bx,b.aQ,b.book⟩:Bk) 0 (by first|assumption|omega)) gm rfl rfl ⟨⟨_,rfl,.inl ⟨rfl,rfl⟩⟩,⟨_,rfl,.inl ⟨rfl,rfl⟩⟩,trivial⟩ ⟨rfl,rfl,rfl,rfl,rfl,rfl,rfl,rfl,rfl,rfl,trivial⟩ rfl rfl rfl rfl rfl rfl trivial ⟨⟨trivial,trivial,trivial,trivial,trivial,trivial,trivial,trivial,trivial,trivial,trivial,trivial,trivial,trivial,trivial,trivial,trivial,trivial,trivial,trivial,trivial⟩,(fun _ _ _ _=>trivial),(fun _ _ _ _=>trivial),(fun _ _ _ _=>trivial),(fun _ _ _ _=>trivial),trivial⟩ rfl rfl rfl rfl) rfl ?_
 refine ad aa 2 rfl ?_
 refine af ?_
 refine aA ?_
 have hX:bE b (⟨idn,kind,1,az,move,sum⟩:aV)=((⟨b.time,b.down,b.ag,b.due,b.aj,b.s0,b.s1,b.n0,n2,b.w0,(b.w1).drop 1,b.bx,b.aQ,b.book⟩:Bk),(⟨0,0⟩:Answer)):=by
   unfold bE;dsimp only;rw [if_neg (by decide),if_pos rfl];unfold eu;rw [hx1];dsimp only;(try simp only [hr2]);(try unfold cQ);(repeat' split)<;>first|rfl|omega|(exfalso;omega)|(simp_all;done)|(simp_all;omega)
 rw [hX] at hr;clear hX
 simp only [Prod.mk.injEq] at hr;obtain ⟨rfl,rfl⟩:=hr
 refine aw aa [0,16,17,18,19,5] 5 rfl rfl rfl rfl rfl rfl ?_ ?_
 all_goals first|rfl|(simp [aD,aZ,bg];done)|(simp [aD,aZ,bg];omega)
theorem CQ (x:Nat->Value) (hx:∀ i,(x i).oneCell'=true) (b:Bk) (d:aV) (ok:ct b) (hn:¬d.n=0/\¬d.n=1) (b2:Bk) (a2:Answer) (hr:bE b d=(b2,a2)):cL Try.prog 67 [(.c (.p 0 0 0 0)),(.c (.q (cX d) 0))] [(0,(.box 98 (aZ b 1 2 3 4 (.d (.v (x 17))) (.d (.v (x 19)))))),(1,(ek b.ag)),(2,(dS b.due)),(3,(ep b.aj)),(4,(cU b.aQ))] [0] (.v (.g [cI a2.err,cI a2.ba])) [(0,(.box 98 (aZ b2 1 2 3 4 (.d (.v (x 17))) (.d (.v (x 19)))))),(1,(ek b2.ag)),(2,(dS b2.due)),(3,(ep b2.aj)),(4,(cU b2.aQ))]:=by
 refine cL.mk 153 [(0,(aC (.p 0 0 0 0))),(1,(aC (.q (cX d) 0)))] 5 Try.func67 rfl rfl rfl rfl rfl rfl rfl rfl rfl ?_
 intro W0 F0 T0 pg
 obtain ⟨okt,okc,okd,oka,oky,okw0,okw1,okp,okv,okk0,okk1,okg,okl0,okl1,okp0,okp1,okn0,okn1,okq⟩:=id ok
 refine ae aa 1 rfl ?_
 refine ah ?_
 refine ah ?_
 rcases Bool.eq_false_or_eq_true (decide (¬d.n=0)) with hb1|hb1
 ·
  have hb1':=of_decide_eq_true hb1
  rcases Bool.eq_false_or_eq_true (decide (¬d.n=1)) with hb2|hb2
  ·
   have hb2':=of_decide_eq_true hb2
   refine bd [0,1,4] [5,0,1,2,3,4] mixed rfl rfl ?_
   refine aF (kn:=[(15,true),(21,true)]) aa 26 rfl ⟨hb1,hb2,trivial⟩ ?_
   refine bF [5,0,1,2,3,4] rfl rfl rfl rfl (by kernel_rfl) ?_
   refine af ?_
   refine an rfl (fun _=>?_) (fun hno=>by cases hno)
   refine ae aa 2 rfl ?_
   refine aA ?_
   refine ax ?_
   have hX:bE b d=(b,(⟨6,0⟩:Answer)):=by
     unfold bE;rw [if_neg hn.1,if_neg hn.2]
   rw [hX] at hr;clear hX
   simp only [Prod.mk.injEq] at hr;obtain ⟨rfl,rfl⟩:=hr
   refine aw aa [0,1,2,3,4,5] 5 rfl rfl rfl rfl rfl rfl ?_ ?_
   all_goals first|rfl|(simp [aD,aZ,bg];done)|(simp [aD,aZ,bg];omega)
  have hb2':=of_decide_eq_false hb2
  (exfalso;simp_all;done)
 have hb1':=of_decide_eq_false hb1
 (exfalso;simp_all;done)

theorem xA (x:Nat->Value) (hx:∀ i,(x i).oneCell'=true) (b:Bk) (d:aV) (ok:ct b) (b2:Bk) (a2:Answer) (hr:bE b d=(b2,a2)):cL Try.prog 67 [(.c (.p 0 0 0 0)),(.c (.q (cX d) 0))] [(0,(.box 98 (aZ b 1 2 3 4 (.d (.v (x 17))) (.d (.v (x 19)))))),(1,(ek b.ag)),(2,(dS b.due)),(3,(ep b.aj)),(4,(cU b.aQ))] [0] (.v (.g [cI a2.err,cI a2.ba])) [(0,(.box 98 (aZ b2 1 2 3 4 (.d (.v (x 17))) (.d (.v (x 19)))))),(1,(ek b2.ag)),(2,(dS b2.due)),(3,(ep b2.aj)),(4,(cU b2.aQ))]:=by
  obtain ⟨idn,kind,n,az,move,sum⟩:=d
  by_cases h0:n=0
  ·subst h0;exact CS x hx b idn kind az move sum ok b2 a2 hr
  by_cases h1:n=1
  ·subst h1;exact CR x hx b idn kind az move sum ok b2 a2 hr
  ·exact CQ x hx b _ ok ⟨h0,h1⟩ b2 a2 hr
theorem Gl (x:Nat->Value) (hx:∀ i,(x i).oneCell'=true) (s0 s1:bO) (n0 n1:Int) (w0 w1:List bS) (d:aV) (l0:w0.length<=60) (l1:w1.length<=60) (m0:s0.kept.length<=40) (m1:s1.kept.length<=40) (v0 v1:List bS) (a2:Answer) (hr:dQ s0 s1 n0 n1 w0 w1 d=(v0,v1,a2)):cL Try.prog 66 [(.c (.p 0 0 0 0)),(.c (.q (cX d) 0))] [(0,(.box 98 (((((((((bg x).set 5 (cI s0.bG)).set 6 (dh s0.kept)).set 7 (cI s1.bG)).set 8 (dh s1.kept)).set 9 (cI n0)).set 10 (cI n1)).set 11 (ed w0)).set 12 (ed w1))))] [0] (.v (.g [cI a2.err,cI a2.ba])) [(0,(.box 98 (((((((((bg x).set 5 (cI s0.bG)).set 6 (dh s0.kept)).set 7 (cI s1.bG)).set 8 (dh s1.kept)).set 9 (cI n0)).set 10 (cI n1)).set 11 (ed v0)).set 12 (ed v1))))]:=by
  obtain ⟨idn,kind,n,az,move,sum⟩:=d
  by_cases h0:n=0
  ·subst h0;exact EK x hx s0 s1 n0 n1 w0 w1 idn kind az move sum l0 l1 m0 m1 v0 v1 a2 hr
  by_cases h1:n=1
  ·subst h1;exact EJ x hx s0 s1 n0 n1 w0 w1 idn kind az move sum l0 l1 m0 m1 v0 v1 a2 hr
  ·exact EI x hx s0 s1 n0 n1 w0 w1 _ l0 l1 m0 m1 ⟨h0,h1⟩ v0 v1 a2 hr

theorem HQ (x:Nat->Value) (hx:∀ i,(x i).oneCell'=true) (b:Bk) (d:aV) (ok:ct b) (b2:Bk) (a2:Answer) (hr:ey b d=(b2,a2)):cL Try.prog 62 [(.c (.p 0 0 0 0)),(.c (.q (cX d) 0))] [(0,(.box 98 (aZ b 1 2 3 4 (.d (.v (x 17))) (.d (.v (x 19)))))),(1,(ek b.ag)),(2,(dS b.due)),(3,(ep b.aj)),(4,(cU b.aQ))] [0] (.v (.g [cI a2.err,cI a2.ba])) [(0,(.box 98 (aZ b2 1 2 3 4 (.d (.v (x 17))) (.d (.v (x 19)))))),(1,(ek b2.ag)),(2,(dS b2.due)),(3,(ep b2.aj)),(4,(cU b2.aQ))]:=by
 refine cL.mk 65 [(0,(aC (.p 0 0 0 0))),(1,(aC (.q (cX d) 0)))] 5 Try.func62 rfl rfl rfl rfl rfl rfl rfl rfl rfl ?_
 intro W0 F0 T0 pg
 obtain ⟨okt,okc,okd,oka,oky,okw0,okw1,okp,okv,okk0,okk1,okg,okl0,okl1,okp0,okp1,okn0,okn1,okq⟩:=id ok
 refine ae aa 1 rfl ?_
 refine ah ?_
 refine ah ?_
 rcases Bool.eq_false_or_eq_true (decide (d.n < 0)) with hb1|hb1
 ·
  have hb1':=of_decide_eq_true hb1
  refine bd [0,1,4] [5,0,1,2,3,4] mixed rfl rfl ?_
  refine aF (kn:=[(10,true)]) aa 18 rfl ⟨hb1,trivial⟩ ?_
  refine bF [5,0,1,2,3,4] rfl rfl rfl rfl (by kernel_rfl) ?_
  refine af ?_
  refine an rfl (fun _=>?_) (fun hno=>by cases hno)
  refine ae aa 2 rfl ?_
  refine aA ?_
  refine ax ?_
  have hX:ey b d=(b,(⟨6,0⟩:Answer)):=by
    unfold ey;(repeat' split)<;>first|rfl|omega|(exfalso;omega)|(simp_all;done)|(simp_all;omega)
  rw [hX] at hr;clear hX
  simp only [Prod.mk.injEq] at hr;obtain ⟨rfl,rfl⟩:=hr
  refine aw aa [0,1,2,3,4,5] 5 rfl rfl rfl rfl rfl rfl ?_ ?_
  all_goals first|rfl|(simp [aD,aZ,bg];done)|(simp [aD,aZ,bg];omega)
 have hb1':=of_decide_eq_false hb1
 refine bd [0,1,4] [5,0,1,2,3,4] mixed rfl rfl ?_
 refine aF (kn:=[(10,false)]) aa 15 rfl ⟨hb1,trivial⟩ ?_
 refine aX (n':=6) [20,11] [1] rfl rfl (.inl ⟨(aq.yes rfl rfl rfl),aM.cast (dH rfl rfl rfl rfl rfl Try.underlying29) rfl⟩) rfl ?_
 refine aF (kn:=[]) aa 2 rfl trivial ?_
 refine bF [5,0,1,2,3,4] rfl rfl rfl rfl (by kernel_rfl) ?_
 refine af ?_
 refine an rfl (fun hc3=>?_) (fun hc3=>?_)
 ·
  have hc3':=of_decide_eq_true hc3
  refine ae aa 2 rfl ?_
  refine aA ?_
  refine ax ?_
  have hX:ey b d=(b,(⟨6,0⟩:Answer)):=by
    unfold ey;(repeat' split)<;>first|rfl|omega|(exfalso;omega)|(simp_all;done)|(simp_all;omega)
  rw [hX] at hr;clear hX
  simp only [Prod.mk.injEq] at hr;obtain ⟨rfl,rfl⟩:=hr
  refine aw aa [0,1,2,3,4,5] 5 rfl rfl rfl rfl rfl rfl ?_ ?_
  all_goals first|rfl|(simp [aD,aZ,bg];done)|(simp [aD,aZ,bg];omega)
 have hc3':=of_decide_eq_false hc3
 refine aU ?_
 refine ah ?_
 refine cA 36 ((decide (d.sum < 1))||(decide (d.sum > 1000000))) ?_ ?_
 ·
  refine ay ?_
  refine ad aa 6 rfl ?_
  refine bH (t:=30) rfl (fun hb4=>?_) (fun hb4=>?_)
  ·
   have hb4':=of_decide_eq_true hb4
   refine ad aa 6 rfl ?_
   refine af ?_
   exact aJ.bK 13 rfl rfl (by first|(simp [hb4];done)|(simp_all;done)|(exfalso;simp_all;done)|(simp_all;omega)) rfl
  have hb4':=of_decide_eq_false hb4
  refine ad aa 6 rfl ?_
  refine af ?_
  exact aJ.bK 13 rfl rfl (by first|(simp [hb4];done)|(simp_all;done)|(exfalso;simp_all;done)|(simp_all;omega)) rfl
 refine an rfl (fun hc5=>?_) (fun hc5=>?_)
 ·
  have hc5':=hc5;try simp only [bA,bW] at hc5'
  refine ae aa 2 rfl ?_
  refine aA ?_
  refine ax ?_
  have hX:ey b d=(b,(⟨3,0⟩:Answer)):=by
    unfold ey;(repeat' split)<;>first|rfl|omega|(exfalso;omega)|(simp_all;done)|(simp_all;omega)
  rw [hX] at hr;clear hX
  simp only [Prod.mk.injEq] at hr;obtain ⟨rfl,rfl⟩:=hr
  refine aw aa [0,1,2,3,4,5] 5 rfl rfl rfl rfl rfl rfl ?_ ?_
  all_goals first|rfl|(simp [aD,aZ,bg];done)|(simp [aD,aZ,bg];omega)
 have hc5':=hc5;try simp only [bA,bW] at hc5'
 refine aU ?_
 refine aH aa 1 rfl ?_
 refine aP 15 [0,6,7,8,9,10,11,12,13,14,5] (cO id (bc [0,6,7,8,9,10,11,12,13,14]) (kW (x 17) (x 19) b (by first|omega|(simp;done)|(simp;omega)) (by first|omega|(simp;done)|(simp;omega)) (by first|omega|(simp;done)|(simp;omega)) (by first|omega|(simp;done)|(simp;omega))) sg rfl rfl ⟨⟨_,rfl,.inl ⟨rfl,rfl⟩⟩,trivial⟩ ⟨rfl,rfl,rfl,rfl,rfl,trivial⟩ rfl rfl rfl rfl rfl rfl trivial ⟨⟨trivial,trivial,trivial,trivial,trivial,trivial,trivial,trivial,trivial,trivial,trivial,trivial,trivial,trivial,trivial,trivial,trivial,trivial,trivial,trivial,trivial⟩,⟨trivial,trivial,trivial,trivial,trivial,trivial,trivial,trivial,trivial,trivial,trivial,trivial,trivial,trivial,trivial,trivial,trivial,trivial,trivial,trivial,trivial⟩,(fun _ _ _ _=>trivial),(fun _ _ _ _=>trivial),(fun _ _ _ _=>trivial),(fun _ _ _ _=>trivial),(fun _ _ _ _=>trivial),(fun _ _ _ _=>trivial),(fun _ _ _ _=>trivial),(fun _ _ _ _=>trivial),trivial⟩ rfl rfl rfl rfl) rfl ?_
 refine ad aa 1 rfl ?_
 refine af ?_
 refine ah ?_
 obtain ⟨l20,e20,hr0⟩:∃ (l20:List bD) (e20:Int),cE b.ag 0 d.n 0 d.sum=(l20,e20):=⟨_,_,rfl⟩
 refine dr [0,1,4,5] [0,6,7,8,9,10,11,12,13,14,5] mixed rfl rfl ?_
 refine bU (kn:=[]) aa 9 rfl trivial ?_
 refine ca (n':=16) [40,44,48] [11,6] rfl rfl (.inl ⟨(aq.plain rfl),aM.cast (cw (bc [6,11]) (bc [6,15]) (ms:=((dO.set 2 (some (.s 1 0 6 b.ag.length))).set 19 (some (cI 0)))) (ms':=((dO.set 2 (some (.s 1 0 6 l20.length))).set 19 (some (cI e20)))) (fun x hx=>jr x hx b.ag 0 d.n 0 d.sum (by first|omega|(simp;done)|(simp;omega)) l20 e20 hr0) oN rfl rfl ⟨⟨_,rfl,.inl ⟨rfl,rfl⟩⟩,⟨_,rfl,.inr (.c (.d _))⟩,⟨_,rfl,.inr (.c (.d _))⟩,⟨_,rfl,.inr (.c (.d _))⟩,trivial⟩ rfl rfl rfl rfl rfl rfl rfl ⟨rfl,trivial⟩ rfl rfl rfl rfl rfl rfl rfl rfl rfl rfl rfl rfl rfl) rfl⟩) rfl ?_
 refine ef [0,1,4,5] [15,6,0,7,8,9,10,12,13,14,5] rfl rfl (by kernel_rfl) ?_
 refine then_ok ?_
 refine ah ?_
 obtain ⟨l21,e21,hr1⟩:∃ (l21:List Entry) (e21:Int),dL b.book e20 0 (10+d.n) d.sum=(l21,e21):=⟨_,_,rfl⟩
 refine dr [0,1,4,5] [15,6,0,7,8,9,10,12,13,14,5] mixed rfl rfl ?_
 refine bU (kn:=[]) aa 5 rfl trivial ?_
 refine ca (n':=16) [54] [] rfl rfl (.inl ⟨(aq.plain rfl),aM.cast (aN rfl rfl rfl (aK (by first|omega|(simp;done)|(simp;omega)))) rfl⟩) rfl ?_
 refine bU (kn:=[]) aa 4 rfl trivial ?_
 refine ca (n':=16) [50,55,59] [6] rfl rfl (.inl ⟨(aq.plain rfl),aM.cast (cw (bc [6]) (bc [6]) (ms:=((dO.set 18 (some (dR b.book))).set 19 (some (cI e20)))) (ms':=((dO.set 18 (some (dR l21))).set 19 (some (cI e21)))) (fun x hx=>jF x hx b.book e20 0 (10+d.n) d.sum l21 e21 hr1) nz rfl rfl ⟨⟨_,rfl,.inl ⟨rfl,rfl⟩⟩,⟨_,rfl,.inr (.c (.d _))⟩,⟨_,rfl,.inr (.c (.d _))⟩,⟨_,rfl,.inr (.c (.d _))⟩,trivial⟩ rfl rfl rfl rfl rfl rfl rfl trivial rfl rfl rfl rfl rfl rfl rfl rfl rfl rfl rfl rfl rfl) rfl⟩) rfl ?_
 refine ef [0,4,5] [6,15,0,7,8,9,10,12,13,14,5] rfl rfl (by kernel_rfl) ?_
 refine then_ok ?_
 rcases (show e21=0\/¬e21=0 from by omega) with hs6|hs6
 ·
  refine aH aa 2 rfl ?_
  refine aP 20 [0,16,17,18,19,5] (cO (bc [0,6,7,8,9,10,15,12,13,14]) (bc [0,16,17,18,19]) (fM (x 17) (x 19) b (⟨b.time,b.down,l20,b.due,b.aj,b.s0,b.s1,b.n0,b.n1,b.w0,b.w1,b.bx,b.aQ,l21⟩:Bk) e21 (by first|assumption|omega)) gm rfl rfl ⟨⟨_,rfl,.inl ⟨rfl,rfl⟩⟩,⟨_,rfl,.inl ⟨rfl,rfl⟩⟩,trivial⟩ ⟨rfl,rfl,rfl,rfl,rfl,rfl,rfl,rfl,rfl,rfl,trivial⟩ rfl rfl rfl rfl rfl rfl trivial ⟨⟨trivial,trivial,trivial,trivial,trivial,trivial,trivial,trivial,trivial,trivial,trivial,trivial,trivial,trivial,trivial,trivial,trivial,trivial,trivial,trivial,trivial⟩,(fun _ _ _ _=>trivial),(fun _ _ _ _=>trivial),(fun _ _ _ _=>trivial),(fun _ _ _ _=>trivial),trivial⟩ rfl rfl rfl rfl) rfl ?_
  refine ad aa 2 rfl ?_
  refine af ?_
  refine aA ?_
  have hX:ey b d=((⟨b.time,b.down,l20,b.due,b.aj,b.s0,b.s1,b.n0,b.n1,b.w0,b.w1,b.bx,b.aQ,l21⟩:Bk),(⟨e21,0⟩:Answer)):=by
    unfold ey;simp only [cQ,hr0,hr1];(repeat' split)<;>first|rfl|omega|(exfalso;omega)|(simp_all;done)|(simp_all;omega)
  rw [hX] at hr;clear hX
  simp only [Prod.mk.injEq] at hr;obtain ⟨rfl,rfl⟩:=hr
  refine aw aa [0,16,17,18,19,5] 5 rfl rfl rfl rfl rfl rfl ?_ ?_
  all_goals first|rfl|(simp [aD,aZ,bg];done)|(simp [aD,aZ,bg];omega)
 refine aH aa 2 rfl ?_
 refine aP 20 [0,16,17,18,19,5] (cO (bc [0,6,7,8,9,10,15,12,13,14]) (bc [0,16,17,18,19]) (gI (x 17) (x 19) b (⟨b.time,b.down,l20,b.due,b.aj,b.s0,b.s1,b.n0,b.n1,b.w0,b.w1,b.bx,b.aQ,l21⟩:Bk) e21 (by first|assumption|omega)) gm rfl rfl ⟨⟨_,rfl,.inl ⟨rfl,rfl⟩⟩,⟨_,rfl,.inl ⟨rfl,rfl⟩⟩,trivial⟩ ⟨rfl,rfl,rfl,rfl,rfl,rfl,rfl,rfl,rfl,rfl,trivial⟩ rfl rfl rfl rfl rfl rfl trivial ⟨⟨trivial,trivial,trivial,trivial,trivial,trivial,trivial,trivial,trivial,trivial,trivial,trivial,trivial,trivial,trivial,trivial,trivial,trivial,trivial,trivial,trivial⟩,(fun _ _ _ _=>trivial),(fun _ _ _ _=>trivial),(fun _ _ _ _=>trivial),(fun _ _ _ _=>trivial),trivial⟩ rfl rfl rfl rfl) rfl ?_
 refine ad aa 2 rfl ?_
 refine af ?_
 refine aA ?_
 have hX:ey b d=(b,(⟨e21,0⟩:Answer)):=by
   unfold ey;simp only [cQ,hr0,hr1];(repeat' split)<;>first|rfl|omega|(exfalso;omega)|(simp_all;done)|(simp_all;omega)
 rw [hX] at hr;clear hX
 simp only [Prod.mk.injEq] at hr;obtain ⟨rfl,rfl⟩:=hr
 refine aw aa [0,16,17,18,19,5] 5 rfl rfl rfl rfl rfl rfl ?_ ?_
 all_goals first|rfl|(simp [aD,aZ,bg];done)|(simp [aD,aZ,bg];omega)
theorem IZ (x:Nat->Value) (hx:∀ i,(x i).oneCell'=true) (b:Bk) (d:aV) (ok:ct b) (b2:Bk) (a2:Answer) (hr:eH b d=(b2,a2)):cL Try.prog 70 [(.c (.p 0 0 0 0)),(.c (.q (cX d) 0))] [(0,(.box 98 (aZ b 1 2 3 4 (.d (.v (x 17))) (.d (.v (x 19)))))),(1,(ek b.ag)),(2,(dS b.due)),(3,(ep b.aj)),(4,(cU b.aQ))] [0] (.v (.g [cI a2.err,cI a2.ba])) [(0,(.box 98 (aZ b2 1 2 3 4 (.d (.v (x 17))) (.d (.v (x 19)))))),(1,(ek b2.ag)),(2,(dS b2.due)),(3,(ep b2.aj)),(4,(cU b2.aQ))]:=by
 refine cL.mk 64 [(0,(aC (.p 0 0 0 0))),(1,(aC (.q (cX d) 0)))] 5 Try.func70 rfl rfl rfl rfl rfl rfl rfl rfl rfl ?_
 intro W0 F0 T0 pg
 obtain ⟨okt,okc,okd,oka,oky,okw0,okw1,okp,okv,okk0,okk1,okg,okl0,okl1,okp0,okp1,okn0,okn1,okq⟩:=id ok
 refine ae aa 1 rfl ?_
 refine ah ?_
 refine ah ?_
 rcases Bool.eq_false_or_eq_true (decide (d.n < 0)) with hb1|hb1
 ·
  have hb1':=of_decide_eq_true hb1
  refine bd [0,1,4] [5,0,1,2,3,4] mixed rfl rfl ?_
  refine aF (kn:=[(11,true)]) aa 18 rfl ⟨hb1,trivial⟩ ?_
  refine bF [5,0,1,2,3,4] rfl rfl rfl rfl (by kernel_rfl) ?_
  refine af ?_
  refine an rfl (fun _=>?_) (fun hno=>by cases hno)
  refine ae aa 2 rfl ?_
  refine aA ?_
  refine ax ?_
  have hX:eH b d=(b,(⟨6,0⟩:Answer)):=by
    unfold eH;(repeat' split)<;>first|rfl|omega|(exfalso;omega)|(simp_all;done)|(simp_all;omega)
  rw [hX] at hr;clear hX
  simp only [Prod.mk.injEq] at hr;obtain ⟨rfl,rfl⟩:=hr
  refine aw aa [0,1,2,3,4,5] 5 rfl rfl rfl rfl rfl rfl ?_ ?_
  all_goals first|rfl|(simp [aD,aZ,bg];done)|(simp [aD,aZ,bg];omega)
 have hb1':=of_decide_eq_false hb1
 refine bd [0,1,4] [5,0,1,2,3,4] mixed rfl rfl ?_
 refine aF (kn:=[(11,false)]) aa 15 rfl ⟨hb1,trivial⟩ ?_
 refine aX (n':=6) [21,12] [2] rfl rfl (.inl ⟨(aq.yes rfl rfl rfl),aM.cast (dH rfl rfl rfl rfl rfl Try.underlying30) rfl⟩) rfl ?_
 refine aF (kn:=[]) aa 2 rfl trivial ?_
 refine bF [5,0,1,2,3,4] rfl rfl rfl rfl (by kernel_rfl) ?_
 refine af ?_
 refine an rfl (fun hc3=>?_) (fun hc3=>?_)
 ·
  have hc3':=of_decide_eq_true hc3
  refine ae aa 2 rfl ?_
  refine aA ?_
  refine ax ?_
  have hX:eH b d=(b,(⟨6,0⟩:Answer)):=by
    unfold eH;(repeat' split)<;>first|rfl|omega|(exfalso;omega)|(simp_all;done)|(simp_all;omega)
  rw [hX] at hr;clear hX
  simp only [Prod.mk.injEq] at hr;obtain ⟨rfl,rfl⟩:=hr
  refine aw aa [0,1,2,3,4,5] 5 rfl rfl rfl rfl rfl rfl ?_ ?_
  all_goals first|rfl|(simp [aD,aZ,bg];done)|(simp [aD,aZ,bg];omega)
 have hc3':=of_decide_eq_false hc3
 refine aU ?_
 refine ah ?_
 obtain ⟨x1,hx1⟩:=cr (xs:=b.due) (i:=Int.toNat (d.n)) (by first|omega|(simp;done)|(simp;omega))
 refine bd [0,1,4] [5,0,1,2,3,4] mixed rfl rfl ?_
 refine aF (kn:=[]) aa 9 rfl trivial ?_
 refine aX (n':=6) [30,34] [2] rfl rfl (.inl ⟨(aq.plain rfl),aM.cast (br (i:=Int.toNat (d.n)) rfl rfl rfl Try.underlying30 fO (by first|omega|(simp;done)|(simp;omega)) (by first|omega|(simp;done)|(simp;omega))) rfl⟩) rfl ?_
 refine aX (n':=6) [35] [2] rfl rfl (.inl ⟨(aq.plain rfl),aM.cast (eJ rfl rfl rfl Try.underlying3 rfl (bz hx1) rfl) rfl⟩) rfl ?_
 refine aF (kn:=[]) aa 1 rfl trivial ?_
 refine bF [5,0,1,2,3,4] rfl rfl rfl rfl (by kernel_rfl) ?_
 refine af ?_
 refine ah ?_
 refine ae aa 2 rfl ?_
 refine an rfl (fun hc4=>?_) (fun hc4=>?_)
 ·
  have hc4':=of_decide_eq_true hc4
  refine ae aa 2 rfl ?_
  refine aA ?_
  refine ax ?_
  have hX:eH b d=(b,(⟨10,0⟩:Answer)):=by
    unfold eH;simp only [cQ,List.getD_eq_getElem?_getD,hx1,Option.getD_some,];(repeat' split)<;>first|rfl|omega|(exfalso;omega)|(simp_all;done)|(simp_all;omega)
  rw [hX] at hr;clear hX
  simp only [Prod.mk.injEq] at hr;obtain ⟨rfl,rfl⟩:=hr
  refine aw aa [0,1,2,3,4,5] 5 rfl rfl rfl rfl rfl rfl ?_ ?_
  all_goals first|rfl|(simp [aD,aZ,bg];done)|(simp [aD,aZ,bg];omega)
 have hc4':=of_decide_eq_false hc4
 refine aU ?_
 refine aH aa 1 rfl ?_
 refine aP 15 [0,6,7,8,9,10,11,12,13,14,5] (cO id (bc [0,6,7,8,9,10,11,12,13,14]) (kW (x 17) (x 19) b (by first|omega|(simp;done)|(simp;omega)) (by first|omega|(simp;done)|(simp;omega)) (by first|omega|(simp;done)|(simp;omega)) (by first|omega|(simp;done)|(simp;omega))) sg rfl rfl ⟨⟨_,rfl,.inl ⟨rfl,rfl⟩⟩,trivial⟩ ⟨rfl,rfl,rfl,rfl,rfl,trivial⟩ rfl rfl rfl rfl rfl rfl trivial ⟨⟨trivial,trivial,trivial,trivial,trivial,trivial,trivial,trivial,trivial,trivial,trivial,trivial,trivial,trivial,trivial,trivial,trivial,trivial,trivial,trivial,trivial⟩,⟨trivial,trivial,trivial,trivial,trivial,trivial,trivial,trivial,trivial,trivial,trivial,trivial,trivial,trivial,trivial,trivial,trivial,trivial,trivial,trivial,trivial⟩,(fun _ _ _ _=>trivial),(fun _ _ _ _=>trivial),(fun _ _ _ _=>trivial),(fun _ _ _ _=>trivial),(fun _ _ _ _=>trivial),(fun _ _ _ _=>trivial),(fun _ _ _ _=>trivial),(fun _ _ _ _=>trivial),trivial⟩ rfl rfl rfl rfl) rfl ?_
 refine ad aa 1 rfl ?_
 refine af ?_
 refine ah ?_
 refine bd [0,1,4,5,6] [0,6,7,8,9,10,11,12,13,14,5] mixed rfl rfl ?_
 refine aF (kn:=[]) aa 9 rfl trivial ?_
 refine aX (n':=15) [46,50] [12] rfl rfl (.inl ⟨(aq.plain rfl),aM.cast (br (i:=Int.toNat (d.n)) rfl rfl rfl Try.underlying30 fO (by first|omega|(simp;done)|(simp;omega)) (by first|omega|(simp;done)|(simp;omega))) rfl⟩) rfl ?_
 refine bF [0,6,7,8,9,10,11,12,13,14,5] rfl rfl rfl rfl (by kernel_rfl) ?_
 refine gj [0,6,7,8,9,10,11,12,13,14,5] (dW (ds:=[(dI 0)]) rfl rfl rfl rfl rfl fO rfl (Nat.le_of_ble_eq_true rfl) (bz hx1) rfl (eU (x':=0) rfl)) rfl ?_
 refine af ?_
 refine ga (k:=6) (q:=3) (c':=(.s 12 0 1 (((b.due).set (Int.toNat (d.n)) 0).length))) rfl rfl (by first|rfl|(simp;done)|(congr 1;omega)) rfl ?_
 refine aH aa 5 rfl ?_
 refine aE (aN rfl rfl rfl (aK (by first|omega|(simp;done)|(simp;omega)))) rfl ?_
 refine ad aa 1 rfl ?_
 obtain ⟨l20,e20,hr0⟩:∃ (l20:List Entry) (e20:Int),dL b.book 0 (50+d.n) 0 x1=(l20,e20):=⟨_,_,rfl⟩
 refine aP 15 [6,0,7,8,9,10,11,12,13,14,5] (cw (bc [6]) (bc [6]) (ms:=((dO.set 18 (some (dR b.book))).set 19 (some (cI 0)))) (ms':=((dO.set 18 (some (dR l20))).set 19 (some (cI e20)))) (fun x hx=>jF x hx b.book 0 (50+d.n) 0 x1 l20 e20 hr0) nz rfl rfl ⟨⟨_,rfl,.inl ⟨rfl,rfl⟩⟩,⟨_,rfl,.inr (.c (.d _))⟩,⟨_,rfl,.inr (.c (.d _))⟩,⟨_,rfl,.inr (.c (.d _))⟩,trivial⟩ rfl rfl rfl rfl rfl rfl rfl trivial rfl rfl rfl rfl rfl rfl rfl rfl rfl rfl rfl rfl rfl) rfl ?_
 refine af ?_
 rcases (show e20=0\/¬e20=0 from by omega) with hs5|hs5
 ·
  refine aH aa 2 rfl ?_
  refine aP 19 [0,15,16,17,18,5] (cO (bc [0,6,7,8,9,10,11,12,13,14]) (bc [0,15,16,17,18]) (fM (x 17) (x 19) b (⟨b.time,b.down,b.ag,(b.due).set (Int.toNat (d.n)) 0,b.aj,b.s0,b.s1,b.n0,b.n1,b.w0,b.w1,b.bx,b.aQ,l20⟩:Bk) e20 (by first|assumption|omega)) gm rfl rfl ⟨⟨_,rfl,.inl ⟨rfl,rfl⟩⟩,⟨_,rfl,.inl ⟨rfl,rfl⟩⟩,trivial⟩ ⟨rfl,rfl,rfl,rfl,rfl,rfl,rfl,rfl,rfl,rfl,trivial⟩ rfl rfl rfl rfl rfl rfl trivial ⟨⟨trivial,trivial,trivial,trivial,trivial,trivial,trivial,trivial,trivial,trivial,trivial,trivial,trivial,trivial,trivial,trivial,trivial,trivial,trivial,trivial,trivial⟩,(fun _ _ _ _=>trivial),(fun _ _ _ _=>trivial),(fun _ _ _ _=>trivial),(fun _ _ _ _=>trivial),trivial⟩ rfl rfl rfl rfl) rfl ?_
  refine ad aa 2 rfl ?_
  refine af ?_
  refine aA ?_
  have hX:eH b d=((⟨b.time,b.down,b.ag,(b.due).set (Int.toNat (d.n)) 0,b.aj,b.s0,b.s1,b.n0,b.n1,b.w0,b.w1,b.bx,b.aQ,l20⟩:Bk),(⟨e20,0⟩:Answer)):=by
    unfold eH;simp only [cQ,List.getD_eq_getElem?_getD,hx1,Option.getD_some,hr0];(repeat' split)<;>first|rfl|omega|(exfalso;omega)|(simp_all;done)|(simp_all;omega)
  rw [hX] at hr;clear hX
  simp only [Prod.mk.injEq] at hr;obtain ⟨rfl,rfl⟩:=hr
  refine aw aa [0,15,16,17,18,5] 5 rfl rfl rfl rfl rfl rfl ?_ ?_
  all_goals first|rfl|(simp [aD,aZ,bg];done)|(simp [aD,aZ,bg];omega)
 refine aH aa 2 rfl ?_
 refine aP 19 [0,15,16,17,18,5] (cO (bc [0,6,7,8,9,10,11,12,13,14]) (bc [0,15,16,17,18]) (gI (x 17) (x 19) b (⟨b.time,b.down,b.ag,(b.due).set (Int.toNat (d.n)) 0,b.aj,b.s0,b.s1,b.n0,b.n1,b.w0,b.w1,b.bx,b.aQ,l20⟩:Bk) e20 (by first|assumption|omega)) gm rfl rfl ⟨⟨_,rfl,.inl ⟨rfl,rfl⟩⟩,⟨_,rfl,.inl ⟨rfl,rfl⟩⟩,trivial⟩ ⟨rfl,rfl,rfl,rfl,rfl,rfl,rfl,rfl,rfl,rfl,trivial⟩ rfl rfl rfl rfl rfl rfl trivial ⟨⟨trivial,trivial,trivial,trivial,trivial,trivial,trivial,trivial,trivial,trivial,trivial,trivial,trivial,trivial,trivial,trivial,trivial,trivial,trivial,trivial,trivial⟩,(fun _ _ _ _=>trivial),(fun _ _ _ _=>trivial),(fun _ _ _ _=>trivial),(fun _ _ _ _=>trivial),trivial⟩ rfl rfl rfl rfl) rfl ?_
 refine ad aa 2 rfl ?_
 refine af ?_
 refine aA ?_
 have hX:eH b d=(b,(⟨e20,0⟩:Answer)):=by
   unfold eH;simp only [cQ,List.getD_eq_getElem?_getD,hx1,Option.getD_some,hr0];(repeat' split)<;>first|rfl|omega|(exfalso;omega)|(simp_all;done)|(simp_all;omega)
 rw [hX] at hr;clear hX
 simp only [Prod.mk.injEq] at hr;obtain ⟨rfl,rfl⟩:=hr
 refine aw aa [0,15,16,17,18,5] 5 rfl rfl rfl rfl rfl rfl ?_ ?_
 all_goals first|rfl|(simp [aD,aZ,bg];done)|(simp [aD,aZ,bg];omega)

theorem CN (x:Nat->Value) (hx:∀ i,(x i).oneCell'=true) (b:Bk) (ok:ct b) (b2:Bk) (hr:fj b=b2):cL Try.prog 84 [(.c (.p 0 0 0 0))] [(0,(.box 98 (aZ b 1 2 3 4 (.d (.v (x 17))) (.d (.v (x 19)))))),(1,(ek b.ag)),(2,(dS b.due)),(3,(ep b.aj)),(4,(cU b.aQ))] [0] (.t []) [(0,(.box 98 (aZ b2 1 2 3 4 (.d (.v (x 17))) (.d (.v (x 19)))))),(1,(ek b2.ag)),(2,(dS b2.due)),(3,(ep b2.aj)),(4,(cU b2.aQ))]:=by
 refine cL.mk 47 [(0,(aC (.p 0 0 0 0)))] 5 Try.func84 rfl rfl rfl rfl rfl rfl rfl rfl rfl ?_
 intro W0 F0 T0 pg
 obtain ⟨okt,okc,okd,oka,oky,okw0,okw1,okp,okv,okk0,okk1,okg,okl0,okl1,okp0,okp1,okn0,okn1,okq⟩:=id ok
 refine aH aa 1 rfl ?_
 refine aP 14 [0,5,6,7,8,9,10,11,12,13] (cO id (bc [0,5,6,7,8,9,10,11,12,13]) (kW (x 17) (x 19) b (by first|omega|(simp;done)|(simp;omega)) (by first|omega|(simp;done)|(simp;omega)) (by first|omega|(simp;done)|(simp;omega)) (by first|omega|(simp;done)|(simp;omega))) sg rfl rfl ⟨⟨_,rfl,.inl ⟨rfl,rfl⟩⟩,trivial⟩ ⟨rfl,rfl,rfl,rfl,rfl,trivial⟩ rfl rfl rfl rfl rfl rfl trivial ⟨⟨trivial,trivial,trivial,trivial,trivial,trivial,trivial,trivial,trivial,trivial,trivial,trivial,trivial,trivial,trivial,trivial,trivial,trivial,trivial,trivial,trivial⟩,⟨trivial,trivial,trivial,trivial,trivial,trivial,trivial,trivial,trivial,trivial,trivial,trivial,trivial,trivial,trivial,trivial,trivial,trivial,trivial,trivial,trivial⟩,(fun _ _ _ _=>trivial),(fun _ _ _ _=>trivial),(fun _ _ _ _=>trivial),(fun _ _ _ _=>trivial),(fun _ _ _ _=>trivial),(fun _ _ _ _=>trivial),(fun _ _ _ _=>trivial),(fun _ _ _ _=>trivial),trivial⟩ rfl rfl rfl rfl) rfl ?_
 refine ad aa 1 rfl ?_
 refine af ?_
 refine ah ?_
 refine aH aa 5 rfl ?_
 refine aE (dH rfl rfl rfl rfl rfl Try.underlying31) rfl ?_
 refine ad aa 1 rfl ?_
 refine af ?_
 refine aY ?_
 refine cz (β:=Nat×List bD×List bl×Int) (fun (p:Nat×List bD×List bl×Int)=>match p with|(q,cs,xs,e)=>⟨[(0,(aC (.p 0 0 0 0))),(2,(aC (.p 5 0 0 0))),(12,(aC (.s 12 0 8 xs.length))),(13,(aI (↑b.aj.length:Int))),(14,(aI (↑q:Int)))],[(0,(.box 98 (aZ b 6 7 8 9 (.d (.v (x 17))) (.d (.v (x 19)))))),(5,(.box 147 (((aZ b 10 11 12 13 (.d (.v (x 17))) (cI e)).set 2 (.s 10 0 6 cs.length)).set 4 (.s 12 0 8 xs.length)))),(6,(ek b.ag)),(7,(dS b.due)),(8,(ep b.aj)),(9,(cU b.aQ)),(10,(ek cs)),(11,(dS b.due)),(12,(ep xs)),(13,(cU b.aQ))],14⟩) (fun (p:Nat×List bD×List bl×Int)=>match p with|(q,cs,xs,e)=>q<=b.aj.length/\eL b.time b.aj 0 b.ag b.aj 0=eL b.time (b.aj.drop q) q cs xs e/\cs.length=b.ag.length/\xs.length=b.aj.length/\(∀ i,q<=i->xs[i]?=b.aj[i]?)) (fun (p:Nat×List bD×List bl×Int)=>match p with|(q,cs,xs,e)=>b.aj.length - q) (0,b.ag,b.aj,0) ?_ ?_ ?_
 ·exact ⟨by omega,rfl,rfl,rfl,fun _ _=>rfl⟩
 ·exact aJ.cc id (by refine ⟨?_,?_,?_,?_,?_,trivial⟩<;>first|rfl|(simp only [bn];done)|(congr 3;omega)|(congr 4;omega)|(simp only [bo];rfl)) (by refine ⟨?_,?_,?_,?_,?_,?_,?_,?_,?_,?_,trivial⟩<;>first|rfl|(simp only [bn];done)|(congr 3;omega)|(congr 4;omega)|(simp only [bo];rfl)) rfl
 rintro ⟨q,cs,xs,e⟩ ⟨hi0_0,hi0_1,hi0_2,hi0_3,hi0_4⟩
 refine ae aa 1 rfl ?_
 refine ah ?_
 refine an rfl (fun hc1=>?_) (fun hc1=>?_)
 ·
  have hc1':=of_decide_eq_true hc1
  refine aU ?_
  refine ah ?_
  refine aY ?_
  refine aH aa 1 rfl ?_
  refine aE (br (i:=q) rfl rfl rfl Try.underlying31 mq (by first|omega|(simp;done)|(simp;omega)) (by first|omega|(simp;done)|(simp;omega))) rfl ?_
  obtain ⟨x1,hx1⟩:=cr (xs:=xs) (i:=q) (by first|omega|(simp;done)|(simp;omega))
  have hx1w:=okp x1 (List.mem_of_getElem? (show b.aj[q]?=some x1 by rw [<-hi0_4 q (by omega)];exact hx1))
  have hx1A:=hx1w.2
  replace hx1w:=hx1w.1
  refine aE (dy rfl rfl rfl Try.underlying67 rfl mq (bz hx1) rfl) rfl ?_
  refine ad aa 3 rfl ?_
  refine af ?_
  refine ah ?_
  obtain ⟨b0,hr0⟩:∃ (b0:bl),ei x1 b.time=b0:=⟨_,rfl⟩
  have hlw:bL b0=0:=by rw [<-hr0];exact zc hx1w
  refine bd [0,2,12,13,14,4,3] [14,0,5,6,7,8,9,10,11,12,13] mixed rfl rfl ?_
  refine aF (kn:=[]) aa 6 rfl trivial ?_
  refine aX (n':=15) [19,24] [] rfl rfl (.inl ⟨(aq.plain rfl),aM.cast (ch 15 (yr x1 b.time b0 hr0) IP rfl rfl ⟨⟨_,rfl,.g ⟨.d _,.d _,.d _,.d _,.d _,.d _,.d _,.d _,trivial⟩⟩,⟨_,rfl,.c (.d _)⟩,trivial⟩ ⟨trivial,trivial,trivial,trivial,trivial,trivial,trivial,trivial,trivial⟩ trivial rfl rfl rfl rfl) rfl⟩) rfl ?_
  refine aF (n':=16) (kn:=[]) aa 1 rfl trivial ?_
  refine bF [15,14,0,5,6,7,8,9,10,11,12,13] rfl rfl rfl rfl (by kernel_rfl) ?_
  refine ad aa 1 rfl ?_
  refine af ?_
  refine ah ?_
  obtain ⟨e1,hr1⟩:∃ (e1:Int),bQ b0=e1:=⟨_,rfl⟩
  have hhb1:=pU (show bL b0=0 by assumption)
  rw [hr1] at hhb1
  obtain ⟨e2,hr2⟩:∃ (e2:Int),bQ x1=e2:=⟨_,rfl⟩
  have hhb2:=pU (show bL x1=0 by assumption)
  rw [hr2] at hhb2
  obtain ⟨l23,e23,hr3⟩:∃ (l23:List bD) (e23:Int),cE cs e x1.aO (e1 - e2) 0=(l23,e23):=⟨_,_,rfl⟩
  have hsl3:l23.length=cs.length:=by have h:=fq cs e x1.aO (e1 - e2) 0;rw [hr3] at h;exact h
  refine dr [0,2,12,13,14,4,3,5] [15,14,0,5,6,7,8,9,10,11,12,13] mixed rfl rfl ?_
  refine bU (kn:=[]) aa 4 rfl trivial ?_
  refine ca (n':=16) [29] [] rfl rfl (.inl ⟨(aq.plain rfl),aM.cast (ch 16 (lg b0 (by first|assumption|omega|rfl|decide) e1 hr1) Aw rfl rfl ⟨⟨_,rfl,.g ⟨.d _,.d _,.d _,.d _,.d _,.d _,.d _,.d _,trivial⟩⟩,trivial⟩ trivial trivial rfl rfl rfl rfl) rfl⟩) rfl ?_
  refine bU (kn:=[]) aa 1 rfl trivial ?_
  refine ca (n':=16) [31] [] rfl rfl (.inl ⟨(aq.plain rfl),aM.cast (ch 16 (lg x1 (by first|assumption|omega|rfl|decide) e2 hr2) Aw rfl rfl ⟨⟨_,rfl,.g ⟨.d _,.d _,.d _,.d _,.d _,.d _,.d _,.d _,trivial⟩⟩,trivial⟩ trivial trivial rfl rfl rfl rfl) rfl⟩) rfl ?_
  refine ca (n':=16) [30,32] [] rfl rfl (.inl ⟨(aq.plain rfl),aM.cast (aN rfl rfl rfl (aK (by first|omega|(simp;done)|(simp;omega)))) rfl⟩) rfl ?_
  refine ca (n':=17) [26,28,33] [10,5] rfl rfl (.inl ⟨(aq.plain rfl),aM.cast (cw (bc [5,10]) (bc [5,16]) (ms:=((dO.set 2 (some (.s 1 0 6 cs.length))).set 19 (some (cI e)))) (ms':=((dO.set 2 (some (.s 1 0 6 l23.length))).set 19 (some (cI e23)))) (fun x hx=>jr x hx cs e x1.aO (e1 - e2) 0 (by first|omega|(simp;done)|(simp;omega)) l23 e23 hr3) oN rfl rfl ⟨⟨_,rfl,.inl ⟨rfl,rfl⟩⟩,⟨_,rfl,.inr (.c (.d _))⟩,⟨_,rfl,.inr (.c (.d _))⟩,⟨_,rfl,.inr (.c (.d _))⟩,trivial⟩ rfl rfl rfl rfl rfl rfl rfl ⟨rfl,trivial⟩ rfl rfl rfl rfl rfl rfl rfl rfl rfl rfl rfl rfl rfl) rfl⟩) rfl ?_
  refine ef [0,2,12,13,14,3,5] [16,5,15,0,6,7,8,9,11,12,13] rfl rfl (by kernel_rfl) ?_
  refine then_ok ?_
  refine bd [0,2,12,13,14,3,5] [16,5,15,0,6,7,8,9,11,12,13] mixed rfl rfl ?_
  refine aF (kn:=[]) aa 7 rfl trivial ?_
  refine aX (n':=17) [39,40] [12] rfl rfl (.inl ⟨(aq.plain rfl),aM.cast (br (i:=q) rfl rfl rfl Try.underlying31 mq (by first|omega|(simp;done)|(simp;omega)) (by first|omega|(simp;done)|(simp;omega))) rfl⟩) rfl ?_
  refine bF [16,5,15,0,6,7,8,9,11,12,13] rfl rfl rfl rfl (by kernel_rfl) ?_
  refine gj [16,5,15,0,6,7,8,9,11,12,13] (dW (ds:=[(dI b0.aO),(dI b0.az),(dI b0.sum),(dI b0.captured),(dI b0.bC),(dI b0.bj),(dI b0.dq),(dB b0.shut)]) rfl rfl rfl rfl rfl mq rfl (Nat.le_of_ble_eq_true rfl) (bz hx1) rfl (eU (x':=b0) rfl)) rfl ?_
  refine cf ?_
  refine bq ?_
  refine then_ok ?_
  refine ga (k:=5) (q:=4) (c':=(.s 12 0 8 (((xs).set q b0).length))) rfl rfl (by first|rfl|(simp;done)|(congr 1;omega)) rfl ?_
  refine ay ?_
  refine aE (aN rfl rfl rfl (aK (by first|omega|(simp;done)|(simp;omega)))) rfl ?_
  refine ad aa 1 rfl ?_
  refine af ?_
  refine ⟨(q+1,l23,(xs).set q b0,e23),⟨by omega,by rw [hi0_1,Af (a:=x1) (by rw [<-hi0_4 q (by omega)];exact hx1),hr0,hr1,hr2,hr3],by omega,by rw [List.length_set];omega,fun i hi=>by rw [List.getElem?_set_ne (by omega)];exact hi0_4 i (by omega)⟩,by first|omega|(simp;done)|(simp;omega),aJ.cc (fun k=>if k=10 then 16 else k) (by refine ⟨?_,?_,?_,?_,?_,trivial⟩<;>first|rfl|(simp only [bn];done)|(congr 3;omega)|(congr 4;omega)|(simp only [bo];rfl)) (by refine ⟨?_,?_,?_,?_,?_,?_,?_,?_,?_,?_,trivial⟩<;>first|rfl|(simp only [bn];done)|(congr 3;omega)|(congr 4;omega)|(simp only [bo];rfl)) rfl⟩
 have hc1':=of_decide_eq_false hc1
 refine cp ?_
 refine aR ?_
 refine aR ?_
 refine bM ?_
 refine then_ok ?_
 rcases (show e=0\/¬e=0 from by omega) with hs2|hs2
 ·
  refine ay ?_
  refine ad aa 2 rfl ?_
  refine aP 18 [0,14,15,16,17] (cO (bc [0,5,6,7,8,9,10,11,12,13]) (bc [0,14,15,16,17]) (fM (x 17) (x 19) b (⟨b.time,b.down,cs,b.due,xs,b.s0,b.s1,b.n0,b.n1,b.w0,b.w1,b.bx,b.aQ,b.book⟩:Bk) e (by first|assumption|omega)) gm rfl rfl ⟨⟨_,rfl,.inl ⟨rfl,rfl⟩⟩,⟨_,rfl,.inl ⟨rfl,rfl⟩⟩,trivial⟩ ⟨rfl,rfl,rfl,rfl,rfl,rfl,rfl,rfl,rfl,rfl,trivial⟩ rfl rfl rfl rfl rfl rfl trivial ⟨⟨trivial,trivial,trivial,trivial,trivial,trivial,trivial,trivial,trivial,trivial,trivial,trivial,trivial,trivial,trivial,trivial,trivial,trivial,trivial,trivial,trivial⟩,(fun _ _ _ _=>trivial),(fun _ _ _ _=>trivial),(fun _ _ _ _=>trivial),(fun _ _ _ _=>trivial),trivial⟩ rfl rfl rfl rfl) rfl ?_
  refine cf ?_
  have hX:fj b=(⟨b.time,b.down,cs,b.due,xs,b.s0,b.s1,b.n0,b.n1,b.w0,b.w1,b.bx,b.aQ,b.book⟩:Bk):=by
    have hL:eL b.time b.aj 0 b.ag b.aj 0=(cs,xs,e):=by rw [hi0_1,List.drop_of_length_le (by omega)];rfl
    unfold fj;rw [hL];dsimp only;first|rw [if_pos (by assumption)]|rw [if_neg (by assumption)]
  rw [hX] at hr;clear hX
  subst hr
  refine cP aa [0,14,15,16,17] 5 rfl rfl rfl rfl rfl rfl ?_ ?_
  all_goals first|rfl|(simp [aD,aZ,bg];done)|(simp [aD,aZ,bg];omega)
 refine ay ?_
 refine ad aa 2 rfl ?_
 refine aP 18 [0,14,15,16,17] (cO (bc [0,5,6,7,8,9,10,11,12,13]) (bc [0,14,15,16,17]) (gI (x 17) (x 19) b (⟨b.time,b.down,cs,b.due,xs,b.s0,b.s1,b.n0,b.n1,b.w0,b.w1,b.bx,b.aQ,b.book⟩:Bk) e (by first|assumption|omega)) gm rfl rfl ⟨⟨_,rfl,.inl ⟨rfl,rfl⟩⟩,⟨_,rfl,.inl ⟨rfl,rfl⟩⟩,trivial⟩ ⟨rfl,rfl,rfl,rfl,rfl,rfl,rfl,rfl,rfl,rfl,trivial⟩ rfl rfl rfl rfl rfl rfl trivial ⟨⟨trivial,trivial,trivial,trivial,trivial,trivial,trivial,trivial,trivial,trivial,trivial,trivial,trivial,trivial,trivial,trivial,trivial,trivial,trivial,trivial,trivial⟩,(fun _ _ _ _=>trivial),(fun _ _ _ _=>trivial),(fun _ _ _ _=>trivial),(fun _ _ _ _=>trivial),trivial⟩ rfl rfl rfl rfl) rfl ?_
 refine cf ?_
 have hX:fj b=b:=by
   have hL:eL b.time b.aj 0 b.ag b.aj 0=(cs,xs,e):=by rw [hi0_1,List.drop_of_length_le (by omega)];rfl
   unfold fj;rw [hL];dsimp only;first|rw [if_pos (by assumption)]|rw [if_neg (by assumption)]
 rw [hX] at hr;clear hX
 subst hr
 refine cP aa [0,14,15,16,17] 5 rfl rfl rfl rfl rfl rfl ?_ ?_
 all_goals first|rfl|(simp [aD,aZ,bg];done)|(simp [aD,aZ,bg];omega)
theorem Gi (x:Nat->Value) (hx:∀ i,(x i).oneCell'=true) (b:Bk) (d:aV) (ok:ct b) (hdn:b.down=false) (b2:Bk) (a2:Answer) (hr:ea b d=(b2,a2)):cL Try.prog 65 [(.c (.p 0 0 0 0)),(.c (.q (cX d) 0))] [(0,(.box 98 (aZ b 1 2 3 4 (.d (.v (x 17))) (.d (.v (x 19)))))),(1,(ek b.ag)),(2,(dS b.due)),(3,(ep b.aj)),(4,(cU b.aQ))] [0] (.v (.g [cI a2.err,cI a2.ba])) [(0,(.box 98 (aZ b2 1 2 3 4 (.d (.v (x 17))) (.d (.v (x 19)))))),(1,(ek b2.ag)),(2,(dS b2.due)),(3,(ep b2.aj)),(4,(cU b2.aQ))]:=by
 refine cL.mk 46 [(0,(aC (.p 0 0 0 0))),(1,(aC (.q (cX d) 0)))] 5 Try.func65 rfl rfl rfl rfl rfl rfl rfl rfl rfl ?_
 intro W0 F0 T0 pg
 obtain ⟨okt,okc,okd,oka,oky,okw0,okw1,okp,okv,okk0,okk1,okg,okl0,okl1,okp0,okp1,okn0,okn1,okq⟩:=id ok
 refine ae aa 1 rfl ?_
 refine ah ?_
 refine ah ?_
 rcases Bool.eq_false_or_eq_true (decide (d.sum < 0)) with hb1|hb1
 ·
  have hb1':=of_decide_eq_true hb1
  refine bd [0,1,4] [5,0,1,2,3,4] mixed rfl rfl ?_
  refine aF (kn:=[(9,true)]) aa 18 rfl ⟨hb1,trivial⟩ ?_
  refine bF [5,0,1,2,3,4] rfl rfl rfl rfl (by kernel_rfl) ?_
  refine af ?_
  refine an rfl (fun _=>?_) (fun hno=>by cases hno)
  refine ae aa 2 rfl ?_
  refine aA ?_
  refine ax ?_
  have hX:ea b d=(b,(⟨3,0⟩:Answer)):=by
    unfold ea;(repeat' split)<;>first|rfl|omega|(exfalso;omega)|(simp_all;done)|(simp_all;omega)
  rw [hX] at hr;clear hX
  simp only [Prod.mk.injEq] at hr;obtain ⟨rfl,rfl⟩:=hr
  refine aw aa [0,1,2,3,4,5] 5 rfl rfl rfl rfl rfl rfl ?_ ?_
  all_goals first|rfl|(simp [aD,aZ,bg];done)|(simp [aD,aZ,bg];omega)
 have hb1':=of_decide_eq_false hb1
 refine bd [0,1,4] [5,0,1,2,3,4] mixed rfl rfl ?_
 refine aF (kn:=[(9,false)]) aa 15 rfl ⟨hb1,trivial⟩ ?_
 refine aX (n':=6) [19,10] [] rfl rfl (.inl ⟨(aq.yes rfl rfl rfl),aM.cast (aN rfl rfl rfl (aK (by first|omega|(simp;done)|(simp;omega)))) rfl⟩) rfl ?_
 refine aF (kn:=[]) aa 2 rfl trivial ?_
 refine bF [5,0,1,2,3,4] rfl rfl rfl rfl (by kernel_rfl) ?_
 refine af ?_
 refine an rfl (fun hc3=>?_) (fun hc3=>?_)
 ·
  have hc3':=of_decide_eq_true hc3
  refine ae aa 2 rfl ?_
  refine aA ?_
  refine ax ?_
  have hX:ea b d=(b,(⟨3,0⟩:Answer)):=by
    unfold ea;(repeat' split)<;>first|rfl|omega|(exfalso;omega)|(simp_all;done)|(simp_all;omega)
  rw [hX] at hr;clear hX
  simp only [Prod.mk.injEq] at hr;obtain ⟨rfl,rfl⟩:=hr
  refine aw aa [0,1,2,3,4,5] 5 rfl rfl rfl rfl rfl rfl ?_ ?_
  all_goals first|rfl|(simp [aD,aZ,bg];done)|(simp [aD,aZ,bg];omega)
 have hc3':=of_decide_eq_false hc3
 refine aU ?_
 refine ah ?_
 refine bd [0,1,4] [5,0,1,2,3,4] mixed rfl rfl ?_
 refine aF (kn:=[]) aa 9 rfl trivial ?_
 refine aX (n':=6) [28,32] [] rfl rfl (.inl ⟨(aq.plain rfl),aM.cast (aN rfl rfl rfl (aK (by first|omega|(simp;done)|(simp;omega)))) rfl⟩) rfl ?_
 refine aF (kn:=[]) aa 3 rfl trivial ?_
 refine bF [5,0,1,2,3,4] rfl rfl rfl rfl (by kernel_rfl) ?_
 refine ad aa 1 rfl ?_
 refine af ?_
 refine ah ?_
 refine ae aa 6 rfl ?_
 refine an rfl (fun _=>?_) (fun hno=>by simp [hdn] at hno)
 refine ay ?_
 refine ad aa 1 rfl ?_
 obtain ⟨b20,hr0⟩:∃ (b20:Bk),fj (⟨b.time+d.sum,b.down,b.ag,b.due,b.aj,b.s0,b.s1,b.n0,b.n1,b.w0,b.w1,b.bx,b.aQ,b.book⟩:Bk)=b20:=⟨_,rfl⟩
 refine aP 10 [0,6,7,8,9,5] (cw id (bc [0,6,7,8,9]) (ms:=[some (cI (b.time+d.sum)),some (cB b.down),some (.s 1 0 6 b.ag.length),some (.s 2 0 1 b.due.length),some (.s 3 0 8 b.aj.length),some (cI b.s0.bG),some (dh b.s0.kept),some (cI b.s1.bG),some (dh b.s1.kept),some (cI b.n0),some (cI b.n1),some (ed b.w0),some (ed b.w1),some (cI b.bx.cap),some (fN b.bx.used),some (gK b.bx.bb),some (.s 4 0 4 b.aQ.length),none,some (dR b.book),none]) (ms':=(jw b20 1 2 3 4 none none)) (fun x hx=>CN x hx (⟨b.time+d.sum,b.down,b.ag,b.due,b.aj,b.s0,b.s1,b.n0,b.n1,b.w0,b.w1,b.bx,b.aQ,b.book⟩:Bk) (by first|assumption|exact ct.tick (by assumption) (by omega) (by omega)) b20 hr0) Hu rfl rfl ⟨⟨_,rfl,.inl ⟨rfl,rfl⟩⟩,trivial⟩ rfl rfl rfl rfl rfl rfl rfl ⟨rfl,rfl,rfl,rfl,trivial⟩ rfl rfl rfl rfl rfl rfl rfl rfl rfl rfl rfl rfl rfl) rfl ?_
 refine af ?_
 refine ae aa 2 rfl ?_
 refine aA ?_
 have hX:ea b d=(b20,(⟨0,0⟩:Answer)):=by
   unfold ea;simp only [cQ,hr0];(repeat' split)<;>first|rfl|omega|(exfalso;omega)|(simp_all;done)|(simp_all;omega)
 rw [hX] at hr;clear hX
 simp only [Prod.mk.injEq] at hr;obtain ⟨rfl,rfl⟩:=hr
 refine aw aa [0,6,7,8,9,5] 5 rfl rfl rfl rfl rfl rfl ?_ ?_
 all_goals first|rfl|(simp [aD,aZ,bg];done)|(simp [aD,aZ,bg];omega)
theorem Gj (x:Nat->Value) (hx:∀ i,(x i).oneCell'=true) (b:Bk) (d:aV) (ok:ct b) (hdn:b.down=true) (b2:Bk) (a2:Answer) (hr:ea b d=(b2,a2)):cL Try.prog 65 [(.c (.p 0 0 0 0)),(.c (.q (cX d) 0))] [(0,(.box 98 (aZ b 1 2 3 4 (.d (.v (x 17))) (.d (.v (x 19)))))),(1,(ek b.ag)),(2,(dS b.due)),(3,(ep b.aj)),(4,(cU b.aQ))] [0] (.v (.g [cI a2.err,cI a2.ba])) [(0,(.box 98 (aZ b2 1 2 3 4 (.d (.v (x 17))) (.d (.v (x 19)))))),(1,(ek b2.ag)),(2,(dS b2.due)),(3,(ep b2.aj)),(4,(cU b2.aQ))]:=by
 refine cL.mk 46 [(0,(aC (.p 0 0 0 0))),(1,(aC (.q (cX d) 0)))] 5 Try.func65 rfl rfl rfl rfl rfl rfl rfl rfl rfl ?_
 intro W0 F0 T0 pg
 obtain ⟨okt,okc,okd,oka,oky,okw0,okw1,okp,okv,okk0,okk1,okg,okl0,okl1,okp0,okp1,okn0,okn1,okq⟩:=id ok
 refine ae aa 1 rfl ?_
 refine ah ?_
 refine ah ?_
 rcases Bool.eq_false_or_eq_true (decide (d.sum < 0)) with hb1|hb1
 ·
  have hb1':=of_decide_eq_true hb1
  refine bd [0,1,4] [5,0,1,2,3,4] mixed rfl rfl ?_
  refine aF (kn:=[(9,true)]) aa 18 rfl ⟨hb1,trivial⟩ ?_
  refine bF [5,0,1,2,3,4] rfl rfl rfl rfl (by kernel_rfl) ?_
  refine af ?_
  refine an rfl (fun _=>?_) (fun hno=>by cases hno)
  refine ae aa 2 rfl ?_
  refine aA ?_
  refine ax ?_
  have hX:ea b d=(b,(⟨3,0⟩:Answer)):=by
    unfold ea;(repeat' split)<;>first|rfl|omega|(exfalso;omega)|(simp_all;done)|(simp_all;omega)
  rw [hX] at hr;clear hX
  simp only [Prod.mk.injEq] at hr;obtain ⟨rfl,rfl⟩:=hr
  refine aw aa [0,1,2,3,4,5] 5 rfl rfl rfl rfl rfl rfl ?_ ?_
  all_goals first|rfl|(simp [aD,aZ,bg];done)|(simp [aD,aZ,bg];omega)
 have hb1':=of_decide_eq_false hb1
 refine bd [0,1,4] [5,0,1,2,3,4] mixed rfl rfl ?_
 refine aF (kn:=[(9,false)]) aa 15 rfl ⟨hb1,trivial⟩ ?_
 refine aX (n':=6) [19,10] [] rfl rfl (.inl ⟨(aq.yes rfl rfl rfl),aM.cast (aN rfl rfl rfl (aK (by first|omega|(simp;done)|(simp;omega)))) rfl⟩) rfl ?_
 refine aF (kn:=[]) aa 2 rfl trivial ?_
 refine bF [5,0,1,2,3,4] rfl rfl rfl rfl (by kernel_rfl) ?_
 refine af ?_
 refine an rfl (fun hc3=>?_) (fun hc3=>?_)
 ·
  have hc3':=of_decide_eq_true hc3
  refine ae aa 2 rfl ?_
  refine aA ?_
  refine ax ?_
  have hX:ea b d=(b,(⟨3,0⟩:Answer)):=by
    unfold ea;(repeat' split)<;>first|rfl|omega|(exfalso;omega)|(simp_all;done)|(simp_all;omega)
  rw [hX] at hr;clear hX
  simp only [Prod.mk.injEq] at hr;obtain ⟨rfl,rfl⟩:=hr
  refine aw aa [0,1,2,3,4,5] 5 rfl rfl rfl rfl rfl rfl ?_ ?_
  all_goals first|rfl|(simp [aD,aZ,bg];done)|(simp [aD,aZ,bg];omega)
 have hc3':=of_decide_eq_false hc3
 refine aU ?_
 refine ah ?_
 refine bd [0,1,4] [5,0,1,2,3,4] mixed rfl rfl ?_
 refine aF (kn:=[]) aa 9 rfl trivial ?_
 refine aX (n':=6) [28,32] [] rfl rfl (.inl ⟨(aq.plain rfl),aM.cast (aN rfl rfl rfl (aK (by first|omega|(simp;done)|(simp;omega)))) rfl⟩) rfl ?_
 refine aF (kn:=[]) aa 3 rfl trivial ?_
 refine bF [5,0,1,2,3,4] rfl rfl rfl rfl (by kernel_rfl) ?_
 refine ad aa 1 rfl ?_
 refine af ?_
 refine ah ?_
 refine ae aa 6 rfl ?_
 refine an rfl (fun hno=>by simp [hdn] at hno) (fun _=>?_)
 refine aU ?_
 refine ae aa 2 rfl ?_
 refine aA ?_
 have hX:ea b d=((⟨b.time+d.sum,b.down,b.ag,b.due,b.aj,b.s0,b.s1,b.n0,b.n1,b.w0,b.w1,b.bx,b.aQ,b.book⟩:Bk),(⟨0,0⟩:Answer)):=by
   unfold ea;(repeat' split)<;>first|rfl|omega|(exfalso;omega)|(simp_all;done)|(simp_all;omega)
 rw [hX] at hr;clear hX
 simp only [Prod.mk.injEq] at hr;obtain ⟨rfl,rfl⟩:=hr
 refine aw aa [0,1,2,3,4,5] 5 rfl rfl rfl rfl rfl rfl ?_ ?_
 all_goals first|rfl|(simp [aD,aZ,bg];done)|(simp [aD,aZ,bg];omega)
theorem HK (x:Nat->Value) (hx:∀ i,(x i).oneCell'=true) (b:Bk) (d:aV) (ok:ct b) (b2:Bk) (a2:Answer) (hr:ea b d=(b2,a2)):cL Try.prog 65 [(.c (.p 0 0 0 0)),(.c (.q (cX d) 0))] [(0,(.box 98 (aZ b 1 2 3 4 (.d (.v (x 17))) (.d (.v (x 19)))))),(1,(ek b.ag)),(2,(dS b.due)),(3,(ep b.aj)),(4,(cU b.aQ))] [0] (.v (.g [cI a2.err,cI a2.ba])) [(0,(.box 98 (aZ b2 1 2 3 4 (.d (.v (x 17))) (.d (.v (x 19)))))),(1,(ek b2.ag)),(2,(dS b2.due)),(3,(ep b2.aj)),(4,(cU b2.aQ))]:=by
  cases hdn:b.down
  ·exact Gi x hx b d ok hdn b2 a2 hr
  ·exact Gj x hx b d ok hdn b2 a2 hr
end Go.Proofs.Ytegepioggeggaaa.Dev
