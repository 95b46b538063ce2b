/- A part of the proof: BankUp, Bank12, Bank13, Play0, Play1, Top1, Top2, Top3, PlLaw1. No condition. -/
import Derived.Test.YtegepioggeggaaaD12
import Derived.Test.YtegepioggeggaaaD13
set_option linter.unusedVariables false
set_option linter.unusedSimpArgs false
set_option maxHeartbeats 8000000
set_option maxRecDepth 100000
namespace Go.Proofs.Ytegepioggeggaaa.Dev
open Go.RowKit

theorem Gi (x:Nat->Value) (hx:∀ i,(x i).oneCell'=true) (b:Bk) (ok:cj b) (b2:Bk) (a2:Answer) (hr:iK b=(b2,a2)):cA Try.prog 68 [(.c (.p 0 0 0 0))] [(0,(.box 98 (aU b 1 2 3 4 (.d (.v (x 17))) (.d (.v (x 19)))))),(1,(dK b.ao)),(2,(dC b.due)),(3,(dS b.aq)),(4,(cK b.aS))] [0] (.v (.g [cI a2.err,cI a2.ba])) [(0,(.box 98 (aU b2 1 2 3 4 (.d (.v (x 17))) (.d (.v (x 19)))))),(1,(dK b2.ao)),(2,(dC b2.due)),(3,(dS b2.aq)),(4,(cK b2.aS))]:=by
 refine cA.mk 116 [(0,(aC (.p 0 0 0 0)))] 5 Try.func68 rfl rfl rfl rfl rfl rfl rfl rfl rfl ?_
 intro W0 F0 T0 pg
 obtain ⟨okt,okc,okd,oka,oky,okw0,okw1,okp,okv,okk0,okk1,okg,okl0,okl1,okp0,okp1,okn0,okn1,okq⟩:=id ok
 refine ad aa 1 rfl ?_
 refine af ?_
 refine ad aa 6 rfl ?_
 refine ag rfl (fun hc1=>?_) (fun hc1=>?_)
 ·
  have hc1':=hc1;try simp only [bl,bJ] at hc1'
  refine ad aa 2 rfl ?_
  refine ax ?_
  refine an ?_
  have hX:iK b=(b,(⟨8,0⟩:Answer)):=by
    unfold iK;rw [if_pos (by cases hd:b.down<;>simp_all)]
  rw [hX] at hr;clear hX
  simp only [Prod.mk.injEq] at hr;obtain ⟨rfl,rfl⟩:=hr
  refine al aa [0,1,2,3,4,5] 5 rfl rfl rfl rfl rfl rfl ?_ ?_
  all_goals first|rfl|(simp [ar,aU,bb];done)|(simp [ar,aU,bb];omega)
 have hc1':=hc1;try simp only [bl,bJ] at hc1'
 refine aP ?_
 refine aE aa 5 rfl ?_
 obtain ⟨xr0,l0,e0,hr0⟩:∃ (xr0:cv) (l0:List ca) (e0:Int),cU b.bF=(xr0,l0,e0):=⟨_,_,_,rfl⟩
 refine aM 6 [5,0,1,2,3,4] (bP 6 (Fn.frozen (av':=(.t [(.g [(cI xr0.cap),(gn xr0.used),(gI xr0.aY)]),(.c (gI l0)),(.c (cI e0))])) (tH b.bF xr0 l0 e0 hr0) ⟨⟨.inl ⟨_,rfl,rfl⟩,.inr ⟨_,_,_,_,_,rfl,rfl,rfl,by simp⟩,.inr ⟨_,_,_,_,_,rfl,rfl,rfl,by simp⟩,trivial⟩,.inr ⟨_,_,_,_,_,rfl,rfl,rfl,by simp⟩,.inl ⟨_,rfl,rfl⟩,trivial⟩) FI rfl rfl ⟨⟨_,rfl,.g ⟨.d _,.d _,.d _,trivial⟩⟩,trivial⟩ ⟨⟨trivial,trivial,trivial,trivial⟩,trivial,trivial,trivial⟩ trivial rfl rfl rfl rfl) rfl ?_
 refine ab aa 8 rfl ?_
 refine ae ?_
 refine af ?_
 refine ad aa 2 rfl ?_
 refine ag rfl (fun hc2=>?_) (fun hc2=>?_)
 ·
  have hc2':=of_decide_eq_true hc2
  refine ad aa 3 rfl ?_
  refine ax ?_
  refine an ?_
  have hX:iK b=(b,(⟨e0,0⟩:Answer)):=by
    unfold iK;rw [if_neg (by cases hd:b.down<;>simp_all),hr0];dsimp only;rw [if_pos (by omega)]
  rw [hX] at hr;clear hX
  simp only [Prod.mk.injEq] at hr;obtain ⟨rfl,rfl⟩:=hr
  refine al aa [0,1,2,3,4,5] 5 rfl rfl rfl rfl rfl rfl ?_ ?_
  all_goals first|rfl|(simp [ar,aU,bb];done)|(simp [ar,aU,bb];omega)
 have hc2':=of_decide_eq_false hc2
 refine aP ?_
 refine aE aa 1 rfl ?_
 refine aM 16 [0,7,8,9,10,11,12,13,14,15,6,5] (cE id (aX [0,7,8,9,10,11,12,13,14,15]) (jS (x 17) (x 19) b (by first|omega|(simp;done)|(simp;omega)) (by first|omega|(simp;done)|(simp;omega)) (by first|omega|(simp;done)|(simp;omega)) (by first|omega|(simp;done)|(simp;omega))) qi rfl rfl ⟨⟨_,rfl,.inl ⟨rfl,rfl⟩⟩,trivial⟩ ⟨rfl,rfl,rfl,rfl,rfl,trivial⟩ rfl rfl rfl rfl rfl rfl trivial ⟨⟨trivial,trivial,trivial,trivial,trivial,trivial,trivial,trivial,trivial,trivial,trivial,trivial,trivial,trivial,trivial,trivial,trivial,trivial,trivial,trivial,trivial⟩,⟨trivial,trivial,trivial,trivial,trivial,trivial,trivial,trivial,trivial,trivial,trivial,trivial,trivial,trivial,trivial,trivial,trivial,trivial,trivial,trivial,trivial⟩,(fun _ _ _ _=>trivial),(fun _ _ _ _=>trivial),(fun _ _ _ _=>trivial),(fun _ _ _ _=>trivial),(fun _ _ _ _=>trivial),(fun _ _ _ _=>trivial),(fun _ _ _ _=>trivial),(fun _ _ _ _=>trivial),trivial⟩ rfl rfl rfl rfl) rfl ?_
 refine ab aa 1 rfl ?_
 refine ae ?_
 refine af ?_
 obtain rfl:e0=0:=by omega
 have hcl:l0=b.bF.aY:=by have h:=(qm (s:=b.bF) (by rw [hr0])).2.2;rw [hr0] at h;exact h
 refine aE aa 1 rfl ?_
 refine ay (cY rfl rfl rfl rfl rfl Try.underlying39) rfl ?_
 refine ab aa 1 rfl ?_
 refine ae ?_
 refine aW ?_
 refine cw (β:=Nat×List bD×List bB) (fun (p:Nat×List bD×List bB)=>match p with|(q,cs,xs)=>⟨[(0,(aC (.p 0 0 0 0))),(2,(aC (.p 5 0 0 0))),(3,(aC (.p 6 0 0 0))),(6,(aC (.p 7 0 0 0))),(36,(aC (gI l0))),(37,(aI (↑l0.length:Int))),(38,(aI (↑q:Int)))],[(0,(.box 98 (aU b 8 9 10 11 (.d (.v (x 17))) (.d (.v (x 19)))))),(7,(.box 147 (((aU b 12 13 14 15 (.d (.v (x 17))) (cI 0)).set 2 (.s 12 0 6 cs.length)).set 4 (.s 14 0 8 xs.length)))),(8,(dK b.ao)),(9,(dC b.due)),(10,(dS b.aq)),(11,(cK b.aS)),(12,(dK cs)),(13,(dC b.due)),(14,(dS xs)),(15,(cK b.aS)),(6,(.box 41 [(cI xr0.cap),(gn xr0.used),(gI xr0.aY)])),(5,(.box 65 [(cI 0),(cI 0)]))],16⟩) (fun (p:Nat×List bD×List bB)=>match p with|(q,cs,xs)=>q<=l0.length/\fW l0 b.ao b.aq=fW (l0.drop q) cs xs/\cs.length=b.ao.length/\xs.length=b.aq.length+q) (fun (p:Nat×List bD×List bB)=>match p with|(q,cs,xs)=>l0.length - q) (0,b.ao,b.aq) ?_ ?_ ?_
 ·exact ⟨by omega,rfl,rfl,rfl⟩
 ·exact aD.bY id (by refine ⟨?_,?_,?_,?_,?_,?_,?_,trivial⟩<;>first|rfl|(simp only [bo];done)|(congr 3;omega)|(congr 4;omega)|(simp only [bp];rfl)) (by refine ⟨?_,?_,?_,?_,?_,?_,?_,?_,?_,?_,?_,?_,trivial⟩<;>first|rfl|(simp only [bo];done)|(congr 3;omega)|(congr 4;omega)|(simp only [bp];rfl)) rfl
 rintro ⟨q,cs,xs⟩ ⟨hi0_0,hi0_1,hi0_2,hi0_3⟩
 have hll:b.aq.length+l0.length<=30:=by rw [hcl];exact oka
 refine ad aa 1 rfl ?_
 refine af ?_
 refine ag rfl (fun hc3=>?_) (fun hc3=>?_)
 ·
  have hc3':=of_decide_eq_true hc3
  refine aP ?_
  refine af ?_
  refine aW ?_
  refine eN ?_
  obtain ⟨x1,hx1⟩:=cq (xs:=l0) (i:=q) (by first|omega|(simp;done)|(simp;omega))
  have hx1A:=okv x1 (by rw [<-hcl];exact List.mem_of_getElem? hx1)
  refine ay (cS (i:=q) rfl rfl rfl Try.underlying39 BC (by first|omega|(simp;done)|(simp;omega)) (bu hx1)) rfl ?_
  refine ab aa 3 rfl ?_
  refine ae ?_
  refine aE aa 8 rfl ?_
  obtain ⟨b1,e1,hr1⟩:∃ (b1:bB) (e1:Int),cV x1.aL x1.az x1.sum x1.time=(b1,e1):=⟨_,_,rfl⟩
  refine aM 17 [16,0,7,8,9,10,11,12,13,14,15,6,5] (bP 17 (rp x1.aL x1.az x1.sum x1.time b1 e1 hr1) DH rfl rfl ⟨⟨_,rfl,.c (.d _)⟩,⟨_,rfl,.c (.d _)⟩,⟨_,rfl,.c (.d _)⟩,⟨_,rfl,.c (.d _)⟩,trivial⟩ ⟨⟨trivial,trivial,trivial,trivial,trivial,trivial,trivial,trivial,trivial⟩,trivial,trivial⟩ trivial rfl rfl rfl rfl) rfl ?_
  refine ab aa 6 rfl ?_
  refine ae ?_
  refine af ?_
  refine aE aa 2 rfl ?_
  obtain ⟨e22,hr2⟩:∃ (e22:Int),dw 0 e1=e22:=⟨_,rfl⟩
  refine aM 18 [7,17,16,0,8,9,10,11,12,13,14,15,6,5] (cf (aX [7]) (aX [7]) (ms:=(dq.set 19 (some (cI 0)))) (ms':=(dq.set 19 (some (cI e22)))) (fun x hx=>jA x hx 0 e1 e22 hr2) nm rfl rfl ⟨⟨_,rfl,.inl ⟨rfl,rfl⟩⟩,⟨_,rfl,.inr (.c (.d _))⟩,trivial⟩ rfl rfl rfl rfl rfl rfl rfl trivial rfl rfl rfl rfl rfl rfl rfl rfl rfl rfl rfl rfl rfl) rfl ?_
  refine ae ?_
  refine ag rfl (fun hc4=>?_) (fun hc4=>?_)
  ·
   have hc4':=of_decide_eq_true hc4
   refine cm ?_
   refine aQ ?_
   refine rv rfl ?_
   refine aQ ?_
   refine aQ ?_
   refine bO ?_
   refine then_ok ?_
   refine ad aa 11 rfl ?_
   refine af ?_
   refine aE aa 2 rfl ?_
   refine aM 22 [0,18,19,20,21,17,16,6,5] (cE (aX [0,7,8,9,10,11,12,13,14,15]) (aX [0,18,19,20,21]) (fN (x 17) (x 19) b (⟨b.time,false,cs,b.due,xs,b.s0,b.s1,b.n0,b.n1,b.w0,b.w1,xr0,b.aS,b.book⟩:Bk) e22 (by first|assumption|omega)) fx rfl rfl ⟨⟨_,rfl,.inl ⟨rfl,rfl⟩⟩,⟨_,rfl,.inl ⟨rfl,rfl⟩⟩,trivial⟩ ⟨rfl,rfl,rfl,rfl,rfl,rfl,rfl,rfl,rfl,rfl,trivial⟩ rfl rfl rfl rfl rfl rfl trivial ⟨⟨trivial,trivial,trivial,trivial,trivial,trivial,trivial,trivial,trivial,trivial,trivial,trivial,trivial,trivial,trivial,trivial,trivial,trivial,trivial,trivial,trivial⟩,(fun _ _ _ _=>trivial),(fun _ _ _ _=>trivial),(fun _ _ _ _=>trivial),(fun _ _ _ _=>trivial),trivial⟩ rfl rfl rfl rfl) rfl ?_
   refine ab aa 1 rfl ?_
   refine ae ?_
   refine ad aa 2 rfl ?_
   refine ag rfl (fun _=>?_) (fun hno=>absurd (hc4.symm.trans hno) (by decide))
   refine ad aa 3 rfl ?_
   refine ax ?_
   refine an ?_
   have hX:iK b=(b,(⟨e22,0⟩:Answer)):=by
     exact yp (by cases hd:b.down<;>simp_all) hr0 (hi0_1.trans (zY hx1 hr1 hr2 (by omega))) (by omega)
   rw [hX] at hr;clear hX
   simp only [Prod.mk.injEq] at hr;obtain ⟨rfl,rfl⟩:=hr
   refine al aa [0,18,19,20,21,5] 5 rfl rfl rfl rfl rfl rfl ?_ ?_
   all_goals first|rfl|(simp [ar,aU,bb];done)|(simp [ar,aU,bb];omega)
  have hc4':=of_decide_eq_false hc4
  refine aP ?_
  obtain rfl:e22=0:=by omega
  refine af ?_
  obtain ⟨x2,hx2⟩:=cq (xs:=cs) (i:=Int.toNat (x1.aL)) (by first|omega|(simp;done)|(simp;omega))
  obtain ⟨xr3,e3,hr3⟩:∃ (xr3:bD) (e3:Int),eJ x2 x1.sum=(xr3,e3):=⟨_,_,rfl⟩
  refine cZ [0,2,3,6,36,37,38,8,9] [7,17,16,0,8,9,10,11,12,13,14,15,6,5] mixed rfl rfl ?_
  refine bQ (kn:=[]) aa 7 rfl trivial ?_
  refine bU (n':=18) [62,64] [12] rfl rfl (.inl ⟨(ah.plain rfl),aJ.cast (br (i:=Int.toNat (x1.aL)) rfl rfl rfl Try.underlying29 iH (by first|omega|(simp;done)|(simp;omega)) (by first|omega|(simp;done)|(simp;omega))) rfl⟩) rfl ?_
  refine bU (n':=18) [65] [12] rfl rfl (.inl ⟨(ah.plain rfl),aJ.cast (dc rfl rfl rfl Try.underlying61 rfl iH (bu hx2) rfl) rfl⟩) rfl ?_
  refine bQ (kn:=[]) aa 2 rfl trivial ?_
  refine bU (n':=18) [66,68] [] rfl rfl (.inl ⟨(ah.plain rfl),aJ.cast (bP 18 (Fn.frozen (av':=(.t [(.g [(cI xr3.bx),(cI xr3.held),(cI xr3.bZ.aO),(cI xr3.bZ.count),(cI xr3.bZ.sum),(fj xr3.cM)]),(.c (cI e3))])) (vn x2 x1.sum xr3 e3 hr3) ⟨⟨.inl ⟨_,rfl,rfl⟩,.inl ⟨_,rfl,rfl⟩,.inl ⟨_,rfl,rfl⟩,.inl ⟨_,rfl,rfl⟩,.inl ⟨_,rfl,rfl⟩,.inr ⟨_,_,_,_,_,rfl,rfl,rfl,by simp⟩,trivial⟩,.inl ⟨_,rfl,rfl⟩,trivial⟩) FH rfl rfl ⟨⟨_,rfl,.g ⟨.d _,.d _,.d _,.d _,.d _,.d _,trivial⟩⟩,⟨_,rfl,.c (.d _)⟩,trivial⟩ ⟨⟨trivial,trivial,trivial,trivial,trivial,trivial,trivial⟩,trivial,trivial⟩ trivial rfl rfl rfl rfl) rfl⟩) rfl ?_
  refine bQ (n':=19) (kn:=[]) aa 6 rfl trivial ?_
  refine dL [0,2,3,6,36,37,38,8,9,11,10] [18,7,17,16,0,8,9,10,11,12,13,14,15,6,5] rfl rfl (by kernel_rfl) ?_
  refine then_ok ?_
  refine af ?_
  refine aE aa 2 rfl ?_
  obtain ⟨e24,hr4⟩:∃ (e24:Int),dw 0 e3=e24:=⟨_,rfl⟩
  refine aM 19 [7,18,17,16,0,8,9,10,11,12,13,14,15,6,5] (cf (aX [7]) (aX [7]) (ms:=(dq.set 19 (some (cI 0)))) (ms':=(dq.set 19 (some (cI e24)))) (fun x hx=>jA x hx 0 e3 e24 hr4) nm rfl rfl ⟨⟨_,rfl,.inl ⟨rfl,rfl⟩⟩,⟨_,rfl,.inr (.c (.d _))⟩,trivial⟩ rfl rfl rfl rfl rfl rfl rfl trivial rfl rfl rfl rfl rfl rfl rfl rfl rfl rfl rfl rfl rfl) rfl ?_
  refine ae ?_
  refine ag rfl (fun hc6=>?_) (fun hc6=>?_)
  ·
   have hc6':=of_decide_eq_true hc6
   refine cm ?_
   refine aQ ?_
   refine rv rfl ?_
   refine aQ ?_
   refine aQ ?_
   refine bO ?_
   refine then_ok ?_
   refine ad aa 11 rfl ?_
   refine af ?_
   refine aE aa 2 rfl ?_
   refine aM 23 [0,19,20,21,22,18,17,16,6,5] (cE (aX [0,7,8,9,10,11,12,13,14,15]) (aX [0,19,20,21,22]) (fN (x 17) (x 19) b (⟨b.time,false,cs,b.due,xs,b.s0,b.s1,b.n0,b.n1,b.w0,b.w1,xr0,b.aS,b.book⟩:Bk) e24 (by first|assumption|omega)) fx rfl rfl ⟨⟨_,rfl,.inl ⟨rfl,rfl⟩⟩,⟨_,rfl,.inl ⟨rfl,rfl⟩⟩,trivial⟩ ⟨rfl,rfl,rfl,rfl,rfl,rfl,rfl,rfl,rfl,rfl,trivial⟩ rfl rfl rfl rfl rfl rfl trivial ⟨⟨trivial,trivial,trivial,trivial,trivial,trivial,trivial,trivial,trivial,trivial,trivial,trivial,trivial,trivial,trivial,trivial,trivial,trivial,trivial,trivial,trivial⟩,(fun _ _ _ _=>trivial),(fun _ _ _ _=>trivial),(fun _ _ _ _=>trivial),(fun _ _ _ _=>trivial),trivial⟩ rfl rfl rfl rfl) rfl ?_
   refine ab aa 1 rfl ?_
   refine ae ?_
   refine ad aa 2 rfl ?_
   refine ag rfl (fun _=>?_) (fun hno=>absurd (hc6.symm.trans hno) (by decide))
   refine ad aa 3 rfl ?_
   refine ax ?_
   refine an ?_
   have hX:iK b=(b,(⟨e24,0⟩:Answer)):=by
     exact yp (by cases hd:b.down<;>simp_all) hr0 (hi0_1.trans (zX hx1 hr1 hr2 hx2 hr3 hr4 (by omega))) (by omega)
   rw [hX] at hr;clear hX
   simp only [Prod.mk.injEq] at hr;obtain ⟨rfl,rfl⟩:=hr
   refine al aa [0,19,20,21,22,5] 5 rfl rfl rfl rfl rfl rfl ?_ ?_
   all_goals first|rfl|(simp [ar,aU,bb];done)|(simp [ar,aU,bb];omega)
  have hc6':=of_decide_eq_false hc6
  refine aP ?_
  obtain rfl:e24=0:=by omega
  refine af ?_
  refine bc [0,2,3,6,36,37,38,8,9,11] [7,18,17,16,0,8,9,10,11,12,13,14,15,6,5] mixed rfl rfl ?_
  refine aA (kn:=[]) aa 8 rfl trivial ?_
  refine aT (n':=19) [79,81] [12] rfl rfl (.inl ⟨(ah.plain rfl),aJ.cast (br (i:=Int.toNat (x1.aL)) rfl rfl rfl Try.underlying29 iH (by first|omega|(simp;done)|(simp;omega)) (by first|omega|(simp;done)|(simp;omega))) rfl⟩) rfl ?_
  refine bC [7,18,17,16,0,8,9,10,11,12,13,14,15,6,5] rfl rfl rfl rfl (by kernel_rfl) ?_
  refine fV [7,18,17,16,0,8,9,10,11,12,13,14,15,6,5] (dH (ds:=[(dI xr3.bx),(dI xr3.held),(dI xr3.bZ.aO),(dI xr3.bZ.count),(dI xr3.bZ.sum),(DS xr3.cM)]) rfl rfl rfl rfl rfl iH rfl (Nat.le_of_ble_eq_true rfl) (bu hx2) rfl (eG (x':=xr3) rfl)) rfl ?_
  refine ae ?_
  refine fq (k:=7) (q:=2) (c':=(.s 12 0 6 (((cs).set (Int.toNat (x1.aL)) xr3).length))) rfl rfl (by first|rfl|(simp;done)|(congr 1;omega)) rfl ?_
  refine bc [0,2,3,6,36,37,38,9] [7,17,0,8,9,10,11,12,13,14,15,6,5] mixed rfl rfl ?_
  refine aA (kn:=[]) aa 7 rfl trivial ?_
  refine aT (n':=20) [90] [] rfl rfl (.inl ⟨(ah.plain rfl),aJ.cast (dv (ys:=[(0,(.g [(cI b1.aL),(cI b1.az),(cI b1.sum),(cI b1.captured),(cI b1.bz),(cI b1.bm),(cI b1.cQ),(cB b1.shut)]))]) (rows:=([b1]).map ix) 19 rF rfl (by decide) ⟨⟨rfl,rfl⟩,trivial⟩ rfl rfl rfl rfl) rfl⟩) rfl ?_
  refine aT (n':=21) [89,91] [19,14] rfl rfl (.inl ⟨(ah.plain rfl),aJ.cast (dd (m:=1) (N:=xs.length+1) (k2:=20) (ys:=([b1]).map ix) rF rfl rfl rfl rfl rfl rfl (by first|omega|(simp;done)|(simp;omega)) rfl (.s rfl (by first|omega|(simp;done)|(simp;omega))) (by first|omega|(simp;done)|(simp;omega)) (by first|omega|(simp;done)|(simp;omega)) eP (by decide) (by first|omega|(simp;done)|(simp;omega)) (by first|omega|(simp;done)|(simp;omega))) rfl⟩) rfl ?_
  refine aA (kn:=[]) aa 3 rfl trivial ?_
  refine bC [20,7,17,0,8,9,10,11,12,13,15,6,5] rfl rfl rfl rfl (by kernel_rfl) ?_
  refine ab aa 1 rfl ?_
  refine bX ?_
  refine bn ?_
  refine then_ok ?_
  refine fq (k:=7) (q:=4) (c':=(.s 20 0 8 ((xs++([b1])).length))) rfl rfl (by first|rfl|(simp;done)|(congr 1;omega)) rfl ?_
  refine aw ?_
  refine ay (aK rfl rfl rfl (aH (by first|omega|(simp;done)|(simp;omega)))) rfl ?_
  refine ab aa 1 rfl ?_
  refine ae ?_
  refine ⟨(q+1,(cs).set (Int.toNat (x1.aL)) xr3,xs++([b1])),⟨by omega,by rw [hi0_1];exact zW hx1 hr1 hr2 hx2 hr3 hr4,by rw [List.length_set];omega,by rw [List.length_append,List.length_singleton];omega⟩,by first|omega|(simp;done)|(simp;omega),aD.bY (fun k=>if k=14 then 20 else k) (by refine ⟨?_,?_,?_,?_,?_,?_,?_,trivial⟩<;>first|rfl|(simp only [bo];done)|(congr 3;omega)|(congr 4;omega)|(simp only [bp];rfl)) (by refine ⟨?_,?_,?_,?_,?_,?_,?_,?_,?_,?_,?_,?_,trivial⟩<;>first|rfl|(simp only [bo];done)|(congr 3;omega)|(congr 4;omega)|(simp only [bp];rfl)) rfl⟩
 have hc3':=of_decide_eq_false hc3
 refine cm ?_
 refine aQ ?_
 refine aQ ?_
 refine bO ?_
 refine then_ok ?_
 refine ad aa 11 rfl ?_
 refine af ?_
 refine aE aa 2 rfl ?_
 refine aM 20 [0,16,17,18,19,6,5] (cE (aX [0,7,8,9,10,11,12,13,14,15]) (aX [0,16,17,18,19]) (fb (x 17) (x 19) b (⟨b.time,false,cs,b.due,xs,b.s0,b.s1,b.n0,b.n1,b.w0,b.w1,xr0,b.aS,b.book⟩:Bk) 0 (by first|assumption|omega)) fx rfl rfl ⟨⟨_,rfl,.inl ⟨rfl,rfl⟩⟩,⟨_,rfl,.inl ⟨rfl,rfl⟩⟩,trivial⟩ ⟨rfl,rfl,rfl,rfl,rfl,rfl,rfl,rfl,rfl,rfl,trivial⟩ rfl rfl rfl rfl rfl rfl trivial ⟨⟨trivial,trivial,trivial,trivial,trivial,trivial,trivial,trivial,trivial,trivial,trivial,trivial,trivial,trivial,trivial,trivial,trivial,trivial,trivial,trivial,trivial⟩,(fun _ _ _ _=>trivial),(fun _ _ _ _=>trivial),(fun _ _ _ _=>trivial),(fun _ _ _ _=>trivial),trivial⟩ rfl rfl rfl rfl) rfl ?_
 refine ab aa 1 rfl ?_
 refine ae ?_
 refine aE aa 1 rfl ?_
 refine ay (aK rfl rfl rfl (show _=some (Value.bool false) from rfl)) rfl ?_
 refine ae ?_
 refine ag rfl (fun hno=>by cases hno) (fun _=>?_)
 refine aP ?_
 have hL:=hi0_1;rw [BW (by omega)] at hL
 have okU:=ok.En hr0 hL
 refine aE aa 1 rfl ?_
 obtain ⟨b25,hr5⟩:∃ (b25:Bk),gk (⟨b.time,false,cs,b.due,xs,b.s0,b.s1,b.n0,b.n1,b.w0,b.w1,xr0,b.aS,b.book⟩:Bk)=b25:=⟨_,rfl⟩
 refine aM 24 [0,20,21,22,23,6,5] (cf (aX [0,16,17,18,19]) (aX [0,20,21,22,23]) (ms:=[some (cI b.time),some (cB false),some (.s 1 0 6 cs.length),some (.s 2 0 1 b.due.length),some (.s 3 0 8 xs.length),some (cI b.s0.bW),some (de b.s0.kept),some (cI b.s1.bW),some (de b.s1.kept),some (cI b.n0),some (cI b.n1),some (ej b.w0),some (ej b.w1),some (cI xr0.cap),some (gn xr0.used),some (gI xr0.aY),some (.s 4 0 4 b.aS.length),none,some (dP b.book),none]) (ms':=(iG b25 1 2 3 4 none none)) (fun x hx=>zy x hx (⟨b.time,false,cs,b.due,xs,b.s0,b.s1,b.n0,b.n1,b.w0,b.w1,xr0,b.aS,b.book⟩:Bk) (by first|assumption|exact cj.tick (by assumption) (by omega) (by omega)) b25 hr5) DG rfl rfl ⟨⟨_,rfl,.inl ⟨rfl,rfl⟩⟩,trivial⟩ rfl rfl rfl rfl rfl rfl rfl ⟨rfl,rfl,rfl,rfl,trivial⟩ rfl rfl rfl rfl rfl rfl rfl rfl rfl rfl rfl rfl rfl) rfl ?_
 refine ae ?_
 refine ad aa 2 rfl ?_
 refine ax ?_
 have hX:iK b=(b25,(⟨0,0⟩:Answer)):=by
   rw [CJ (by cases hd:b.down<;>simp_all) hr0 hL,hr5]
 rw [hX] at hr;clear hX
 simp only [Prod.mk.injEq] at hr;obtain ⟨rfl,rfl⟩:=hr
 refine al aa [0,20,21,22,23,5] 5 rfl rfl rfl rfl rfl rfl ?_ ?_
 all_goals first|rfl|(simp [ar,aU,bb];done)|(simp [ar,aU,bb];omega)

theorem Gj (x:Nat->Value) (hx:∀ i,(x i).oneCell'=true) (b:Bk) (days:List (List Int)) (d:aV) (ok:cj b) (hy:days.length<=1000) (b2:Bk) (y2:List (List Int)) (a2:Answer) (hr:dR b days d=(b2,y2,a2)):cA Try.prog 56 [(.c (.p 0 0 0 0)),(.c (.q (cP d) 0))] [(0,(.box 98 (aU b 1 2 3 4 (.s 5 0 1 days.length) (.d (.v (x 19)))))),(1,(dK b.ao)),(2,(dC b.due)),(3,(dS b.aq)),(4,(cK b.aS)),(5,(pJ days))] [0] (.v (.g [cI a2.err,cI a2.ba])) [(0,(.box 98 (aU b2 1 2 3 4 (.s 5 0 1 y2.length) (.d (.v (x 19)))))),(1,(dK b2.ao)),(2,(dC b2.due)),(3,(dS b2.aq)),(4,(cK b2.aS)),(5,(pJ y2))]:=by
 refine cA.mk 67 [(0,(aC (.p 0 0 0 0))),(1,(aC (.q (cP d) 0)))] 6 Try.func56 rfl rfl rfl rfl rfl rfl rfl rfl rfl ?_
 intro W0 F0 T0 pg
 obtain ⟨okt,okc,okd,oka,oky,okw0,okw1,okp,okv,okk0,okk1,okg,okl0,okl1,okp0,okp1,okn0,okn1,okq⟩:=id ok
 refine ad aa 1 rfl ?_
 refine af ?_
 refine ad aa 4 rfl ?_
 refine aW ?_
 refine ad aa 2 rfl ?_
 refine ag rfl (fun hc1=>?_) (fun hc1=>?_)
 ·
  have hc1':=of_decide_eq_true hc1
  refine aE aa 2 rfl ?_
  obtain ⟨b20,a20,hr0⟩:∃ (b20:Bk) (a20:Answer),ft b d=(b20,a20):=⟨_,_,rfl⟩
  refine aM 11 [0,7,8,9,10,6,5] (cf id (aX [0,7,8,9,10]) (ms:=(iG b 1 2 3 4 none none)) (ms':=(iG b20 1 2 3 4 none none)) (fun x hx=>DZ x hx b d (by first|assumption|exact cj.tick (by assumption) (by omega) (by omega)) b20 a20 hr0) FV rfl rfl ⟨⟨_,rfl,.inl ⟨rfl,rfl⟩⟩,⟨_,rfl,.inl ⟨rfl,rfl⟩⟩,trivial⟩ rfl rfl rfl rfl rfl rfl rfl ⟨rfl,rfl,rfl,rfl,trivial⟩ rfl rfl rfl rfl rfl rfl rfl rfl rfl rfl rfl rfl rfl) rfl ?_
  refine ab aa 1 rfl ?_
  refine ae ?_
  refine ax ?_
  refine bf ?_
  refine an ?_
  have hX:dR b days d=(b20,days,a20):=by
    unfold dR;(repeat' (first|rw [if_pos (by omega)]|rw [if_neg (by omega)]|fail))<;>first|rfl|(simp only [hr0];done)|(simp only [hr0];rfl)|(simp_all;done)
  rw [hX] at hr;clear hX
  simp only [Prod.mk.injEq] at hr;obtain ⟨rfl,rfl,rfl⟩:=hr
  refine al aa [0,7,8,9,10,5,6] 6 rfl rfl rfl rfl rfl rfl ?_ ?_
  all_goals first|rfl|(simp [ar,aU,bb];done)|(simp [ar,aU,bb];omega)
 have hc1':=of_decide_eq_false hc1
 refine ad aa 2 rfl ?_
 refine ag rfl (fun hc2=>?_) (fun hc2=>?_)
 ·
  have hc2':=of_decide_eq_true hc2
  refine aE aa 2 rfl ?_
  obtain ⟨b21,a21,hr1⟩:∃ (b21:Bk) (a21:Answer),du b d=(b21,a21):=⟨_,_,rfl⟩
  refine aM 11 [0,7,8,9,10,6,5] (cf id (aX [0,7,8,9,10]) (ms:=(iG b 1 2 3 4 none none)) (ms':=(iG b21 1 2 3 4 none none)) (fun x hx=>EZ x hx b d (by first|assumption|exact cj.tick (by assumption) (by omega) (by omega)) b21 a21 hr1) FU rfl rfl ⟨⟨_,rfl,.inl ⟨rfl,rfl⟩⟩,⟨_,rfl,.inl ⟨rfl,rfl⟩⟩,trivial⟩ rfl rfl rfl rfl rfl rfl rfl ⟨rfl,rfl,rfl,rfl,trivial⟩ rfl rfl rfl rfl rfl rfl rfl rfl rfl rfl rfl rfl rfl) rfl ?_
  refine ab aa 1 rfl ?_
  refine ae ?_
  refine ax ?_
  refine bf ?_
  refine an ?_
  have hX:dR b days d=(b21,days,a21):=by
    unfold dR;(repeat' (first|rw [if_pos (by omega)]|rw [if_neg (by omega)]|fail))<;>first|rfl|(simp only [hr1];done)|(simp only [hr1];rfl)|(simp_all;done)
  rw [hX] at hr;clear hX
  simp only [Prod.mk.injEq] at hr;obtain ⟨rfl,rfl,rfl⟩:=hr
  refine al aa [0,7,8,9,10,5,6] 6 rfl rfl rfl rfl rfl rfl ?_ ?_
  all_goals first|rfl|(simp [ar,aU,bb];done)|(simp [ar,aU,bb];omega)
 have hc2':=of_decide_eq_false hc2
 refine ad aa 2 rfl ?_
 refine ag rfl (fun hc3=>?_) (fun hc3=>?_)
 ·
  have hc3':=of_decide_eq_true hc3
  refine aE aa 2 rfl ?_
  obtain ⟨b22,a22,hr2⟩:∃ (b22:Bk) (a22:Answer),dN b d=(b22,a22):=⟨_,_,rfl⟩
  refine aM 11 [0,7,8,9,10,6,5] (cf id (aX [0,7,8,9,10]) (ms:=(iG b 1 2 3 4 none none)) (ms':=(iG b22 1 2 3 4 none none)) (fun x hx=>Bj x hx b d (by first|assumption|exact cj.tick (by assumption) (by omega) (by omega)) b22 a22 hr2) FT rfl rfl ⟨⟨_,rfl,.inl ⟨rfl,rfl⟩⟩,⟨_,rfl,.inl ⟨rfl,rfl⟩⟩,trivial⟩ rfl rfl rfl rfl rfl rfl rfl ⟨rfl,rfl,rfl,rfl,trivial⟩ rfl rfl rfl rfl rfl rfl rfl rfl rfl rfl rfl rfl rfl) rfl ?_
  refine ab aa 1 rfl ?_
  refine ae ?_
  refine ax ?_
  refine bf ?_
  refine an ?_
  have hX:dR b days d=(b22,days,a22):=by
    unfold dR;(repeat' (first|rw [if_pos (by omega)]|rw [if_neg (by omega)]|fail))<;>first|rfl|(simp only [hr2];done)|(simp only [hr2];rfl)|(simp_all;done)
  rw [hX] at hr;clear hX
  simp only [Prod.mk.injEq] at hr;obtain ⟨rfl,rfl,rfl⟩:=hr
  refine al aa [0,7,8,9,10,5,6] 6 rfl rfl rfl rfl rfl rfl ?_ ?_
  all_goals first|rfl|(simp [ar,aU,bb];done)|(simp [ar,aU,bb];omega)
 have hc3':=of_decide_eq_false hc3
 refine ad aa 2 rfl ?_
 refine ag rfl (fun hc4=>?_) (fun hc4=>?_)
 ·
  have hc4':=of_decide_eq_true hc4
  refine aE aa 2 rfl ?_
  obtain ⟨b23,a23,hr3⟩:∃ (b23:Bk) (a23:Answer),eT b d=(b23,a23):=⟨_,_,rfl⟩
  refine aM 11 [0,7,8,9,10,6,5] (cf id (aX [0,7,8,9,10]) (ms:=(iG b 1 2 3 4 none none)) (ms':=(iG b23 1 2 3 4 none none)) (fun x hx=>DU x hx b d (by first|assumption|exact cj.tick (by assumption) (by omega) (by omega)) b23 a23 hr3) FR rfl rfl ⟨⟨_,rfl,.inl ⟨rfl,rfl⟩⟩,⟨_,rfl,.inl ⟨rfl,rfl⟩⟩,trivial⟩ rfl rfl rfl rfl rfl rfl rfl ⟨rfl,rfl,rfl,rfl,trivial⟩ rfl rfl rfl rfl rfl rfl rfl rfl rfl rfl rfl rfl rfl) rfl ?_
  refine ab aa 1 rfl ?_
  refine ae ?_
  refine ax ?_
  refine bf ?_
  refine an ?_
  have hX:dR b days d=(b23,days,a23):=by
    unfold dR;(repeat' (first|rw [if_pos (by omega)]|rw [if_neg (by omega)]|fail))<;>first|rfl|(simp only [hr3];done)|(simp only [hr3];rfl)|(simp_all;done)
  rw [hX] at hr;clear hX
  simp only [Prod.mk.injEq] at hr;obtain ⟨rfl,rfl,rfl⟩:=hr
  refine al aa [0,7,8,9,10,5,6] 6 rfl rfl rfl rfl rfl rfl ?_ ?_
  all_goals first|rfl|(simp [ar,aU,bb];done)|(simp [ar,aU,bb];omega)
 have hc4':=of_decide_eq_false hc4
 refine ad aa 2 rfl ?_
 refine ag rfl (fun hc5=>?_) (fun hc5=>?_)
 ·
  have hc5':=of_decide_eq_true hc5
  refine aE aa 2 rfl ?_
  obtain ⟨v04,v14,a24,hr4⟩:∃ (v04:List cc) (v14:List cc) (a24:Answer),eK b.s0 b.s1 b.n0 b.n1 b.w0 b.w1 d=(v04,v14,a24):=⟨_,_,_,rfl⟩
  refine aM 7 [0,6,1,2,3,4,5] (cf id id (ms:=[none,none,none,none,none,some (cI b.s0.bW),some (de b.s0.kept),some (cI b.s1.bW),some (de b.s1.kept),some (cI b.n0),some (cI b.n1),some (ej b.w0),some (ej b.w1),none,none,none,none,none,none,none]) (ms':=[none,none,none,none,none,some (cI b.s0.bW),some (de b.s0.kept),some (cI b.s1.bW),some (de b.s1.kept),some (cI b.n0),some (cI b.n1),some (ej v04),some (ej v14),none,none,none,none,none,none,none]) (fun x hx=>Cz x hx b.s0 b.s1 b.n0 b.n1 b.w0 b.w1 d (by first|omega|(simp;done)|(simp;omega)) (by first|omega|(simp;done)|(simp;omega)) (by first|omega|(simp;done)|(simp;omega)) (by first|omega|(simp;done)|(simp;omega)) v04 v14 a24 hr4) FQ rfl rfl ⟨⟨_,rfl,.inl ⟨rfl,rfl⟩⟩,⟨_,rfl,.inl ⟨rfl,rfl⟩⟩,trivial⟩ rfl rfl rfl rfl rfl rfl rfl trivial rfl rfl rfl rfl rfl rfl rfl rfl rfl rfl rfl rfl rfl) rfl ?_
  refine ab aa 1 rfl ?_
  refine ae ?_
  refine ax ?_
  refine bf ?_
  refine an ?_
  have hX:dR b days d=((⟨b.time,b.down,b.ao,b.due,b.aq,b.s0,b.s1,b.n0,b.n1,v04,v14,b.bF,b.aS,b.book⟩:Bk),days,a24):=by
    unfold dR;(repeat' (first|rw [if_pos (by omega)]|rw [if_neg (by omega)]|fail))<;>first|rfl|(simp only [hr4];done)|(simp only [hr4];rfl)|(simp_all;done)
  rw [hX] at hr;clear hX
  simp only [Prod.mk.injEq] at hr;obtain ⟨rfl,rfl,rfl⟩:=hr
  refine al aa [0,1,2,3,4,5,6] 6 rfl rfl rfl rfl rfl rfl ?_ ?_
  all_goals first|rfl|(simp [ar,aU,bb];done)|(simp [ar,aU,bb];omega)
 have hc5':=of_decide_eq_false hc5
 refine af ?_
 refine ad aa 2 rfl ?_
 refine ag rfl (fun hc6=>?_) (fun hc6=>?_)
 ·
  have hc6':=of_decide_eq_true hc6
  refine aP ?_
  refine ag rfl (fun _=>?_) (fun hno=>absurd (hc6.symm.trans hno) (by decide))
  refine aE aa 2 rfl ?_
  obtain ⟨b25,a25,hr5⟩:∃ (b25:Bk) (a25:Answer),cr b d=(b25,a25):=⟨_,_,rfl⟩
  refine aM 11 [0,7,8,9,10,6,5] (cf id (aX [0,7,8,9,10]) (ms:=(iG b 1 2 3 4 none none)) (ms':=(iG b25 1 2 3 4 none none)) (fun x hx=>vr x hx b d (by assumption) b25 a25 hr5) DJ rfl rfl ⟨⟨_,rfl,.inl ⟨rfl,rfl⟩⟩,⟨_,rfl,.inl ⟨rfl,rfl⟩⟩,trivial⟩ rfl rfl rfl rfl rfl rfl rfl ⟨rfl,rfl,rfl,rfl,trivial⟩ rfl rfl rfl rfl rfl rfl rfl rfl rfl rfl rfl rfl rfl) rfl ?_
  refine ab aa 1 rfl ?_
  refine ae ?_
  refine ax ?_
  refine bf ?_
  refine an ?_
  have hX:dR b days d=(b25,days,a25):=by
    unfold dR;(repeat' (first|rw [if_pos (by omega)]|rw [if_neg (by omega)]|fail))<;>first|rfl|(simp only [hr5];done)|(simp only [hr5];rfl)|(simp_all;done)
  rw [hX] at hr;clear hX
  simp only [Prod.mk.injEq] at hr;obtain ⟨rfl,rfl,rfl⟩:=hr
  refine al aa [0,7,8,9,10,5,6] 6 rfl rfl rfl rfl rfl rfl ?_ ?_
  all_goals first|rfl|(simp [ar,aU,bb];done)|(simp [ar,aU,bb];omega)
 have hc6':=of_decide_eq_false hc6
 refine aw ?_
 refine ab aa 2 rfl ?_
 refine ae ?_
 refine ag rfl (fun hc8=>?_) (fun hc8=>?_)
 ·
  have hc8':=of_decide_eq_true hc8
  refine aE aa 2 rfl ?_
  obtain ⟨b26,a26,hr6⟩:∃ (b26:Bk) (a26:Answer),cr b d=(b26,a26):=⟨_,_,rfl⟩
  refine aM 11 [0,7,8,9,10,6,5] (cf id (aX [0,7,8,9,10]) (ms:=(iG b 1 2 3 4 none none)) (ms':=(iG b26 1 2 3 4 none none)) (fun x hx=>vr x hx b d (by assumption) b26 a26 hr6) DJ rfl rfl ⟨⟨_,rfl,.inl ⟨rfl,rfl⟩⟩,⟨_,rfl,.inl ⟨rfl,rfl⟩⟩,trivial⟩ rfl rfl rfl rfl rfl rfl rfl ⟨rfl,rfl,rfl,rfl,trivial⟩ rfl rfl rfl rfl rfl rfl rfl rfl rfl rfl rfl rfl rfl) rfl ?_
  refine ab aa 1 rfl ?_
  refine ae ?_
  refine ax ?_
  refine bf ?_
  refine an ?_
  have hX:dR b days d=(b26,days,a26):=by
    unfold dR;(repeat' (first|rw [if_pos (by omega)]|rw [if_neg (by omega)]|fail))<;>first|rfl|(simp only [hr6];done)|(simp only [hr6];rfl)|(simp_all;done)
  rw [hX] at hr;clear hX
  simp only [Prod.mk.injEq] at hr;obtain ⟨rfl,rfl,rfl⟩:=hr
  refine al aa [0,7,8,9,10,5,6] 6 rfl rfl rfl rfl rfl rfl ?_ ?_
  all_goals first|rfl|(simp [ar,aU,bb];done)|(simp [ar,aU,bb];omega)
 have hc8':=of_decide_eq_false hc8
 refine ad aa 2 rfl ?_
 refine ag rfl (fun hc9=>?_) (fun hc9=>?_)
 ·
  have hc9':=of_decide_eq_true hc9
  refine af ?_
  refine ad aa 5 rfl ?_
  refine ag rfl (fun hc10=>?_) (fun hc10=>?_)
  ·
   have hc10':=hc10;try simp only [bl,bJ] at hc10'
   refine ad aa 2 rfl ?_
   refine ax ?_
   refine an ?_
   refine bf ?_
   refine an ?_
   have hX:dR b days d=(b,days,(⟨8,0⟩:Answer)):=by
     unfold dR;(repeat' (first|rw [if_pos (by omega)]|rw [if_neg (by omega)]|fail))<;>first|rfl|(simp_all;done)
   rw [hX] at hr;clear hX
   simp only [Prod.mk.injEq] at hr;obtain ⟨rfl,rfl,rfl⟩:=hr
   refine al aa [0,1,2,3,4,5,6] 6 rfl rfl rfl rfl rfl rfl ?_ ?_
   all_goals first|rfl|(simp [ar,aU,bb];done)|(simp [ar,aU,bb];omega)
  have hc10':=hc10;try simp only [bl,bJ] at hc10'
  refine aP ?_
  refine ad aa 5 rfl ?_
  refine ad aa 2 rfl ?_
  refine ax ?_
  refine bf ?_
  refine an ?_
  have hX:dR b days d=((⟨b.time,true,b.ao,b.due,b.aq,b.s0,b.s1,b.n0,b.n1,b.w0,b.w1,b.bF,b.aS,b.book⟩:Bk),days,(⟨0,0⟩:Answer)):=by
    unfold dR;(repeat' (first|rw [if_pos (by omega)]|rw [if_neg (by omega)]|fail))<;>first|rfl|(simp_all;done)
  rw [hX] at hr;clear hX
  simp only [Prod.mk.injEq] at hr;obtain ⟨rfl,rfl,rfl⟩:=hr
  refine al aa [0,1,2,3,4,5,6] 6 rfl rfl rfl rfl rfl rfl ?_ ?_
  all_goals first|rfl|(simp [ar,aU,bb];done)|(simp [ar,aU,bb];omega)
 have hc9':=of_decide_eq_false hc9
 refine ad aa 2 rfl ?_
 refine ag rfl (fun hc11=>?_) (fun hc11=>?_)
 ·
  have hc11':=of_decide_eq_true hc11
  refine aE aa 1 rfl ?_
  obtain ⟨b27,a27,hr7⟩:∃ (b27:Bk) (a27:Answer),iK b=(b27,a27):=⟨_,_,rfl⟩
  refine aM 11 [0,7,8,9,10,6,5] (cf id (aX [0,7,8,9,10]) (ms:=(iG b 1 2 3 4 none none)) (ms':=(iG b27 1 2 3 4 none none)) (fun x hx=>Gi x hx b (by first|assumption|exact cj.tick (by assumption) (by omega) (by omega)) b27 a27 hr7) FP rfl rfl ⟨⟨_,rfl,.inl ⟨rfl,rfl⟩⟩,trivial⟩ rfl rfl rfl rfl rfl rfl rfl ⟨rfl,rfl,rfl,rfl,trivial⟩ rfl rfl rfl rfl rfl rfl rfl rfl rfl rfl rfl rfl rfl) rfl ?_
  refine ab aa 1 rfl ?_
  refine ae ?_
  refine ax ?_
  refine bf ?_
  refine an ?_
  have hX:dR b days d=(b27,days,a27):=by
    unfold dR;(repeat' (first|rw [if_pos (by omega)]|rw [if_neg (by omega)]|fail))<;>first|rfl|(simp only [hr7];done)|(simp only [hr7];rfl)|(simp_all;done)
  rw [hX] at hr;clear hX
  simp only [Prod.mk.injEq] at hr;obtain ⟨rfl,rfl,rfl⟩:=hr
  refine al aa [0,7,8,9,10,5,6] 6 rfl rfl rfl rfl rfl rfl ?_ ?_
  all_goals first|rfl|(simp [ar,aU,bb];done)|(simp [ar,aU,bb];omega)
 have hc11':=of_decide_eq_false hc11
 refine ad aa 2 rfl ?_
 refine ag rfl (fun hc12=>?_) (fun hc12=>?_)
 ·
  have hc12':=of_decide_eq_true hc12
  refine aE aa 1 rfl ?_
  obtain ⟨today28,days28,a28,hr8⟩:∃ (today28:List ak) (days28:List (List Int)) (a28:Answer),iy b.aS days=(today28,days28,a28):=⟨_,_,_,rfl⟩
  refine aM 9 [0,7,8,6,1,2,3] (cf (aX [0,4,5]) (aX [0,7,8]) (ms:=((dq.set 16 (some (.s 1 0 4 b.aS.length))).set 17 (some (.s 2 0 1 days.length)))) (ms':=((dq.set 16 (some (.s 1 0 4 today28.length))).set 17 (some (.s 2 0 1 days28.length)))) (fun x hx=>DW x hx b.aS days (by first|omega|(simp;done)|(simp;omega)) (by first|omega|(simp;done)|(simp;omega)) today28 days28 a28 hr8) FO rfl rfl ⟨⟨_,rfl,.inl ⟨rfl,rfl⟩⟩,trivial⟩ rfl rfl rfl rfl rfl rfl rfl ⟨rfl,rfl,trivial⟩ rfl rfl rfl rfl rfl rfl rfl rfl rfl rfl rfl rfl rfl) rfl ?_
  refine ab aa 1 rfl ?_
  refine ae ?_
  refine ax ?_
  refine bf ?_
  refine an ?_
  have hX:dR b days d=((⟨b.time,b.down,b.ao,b.due,b.aq,b.s0,b.s1,b.n0,b.n1,b.w0,b.w1,b.bF,today28,b.book⟩:Bk),days28,a28):=by
    unfold dR;(repeat' (first|rw [if_pos (by omega)]|rw [if_neg (by omega)]|fail))<;>first|rfl|(simp only [hr8];done)|(simp only [hr8];rfl)|(simp_all;done)
  rw [hX] at hr;clear hX
  simp only [Prod.mk.injEq] at hr;obtain ⟨rfl,rfl,rfl⟩:=hr
  refine al aa [0,1,2,3,7,8,6] 6 rfl rfl rfl rfl rfl rfl ?_ ?_
  all_goals first|rfl|(simp [ar,aU,bb];done)|(simp [ar,aU,bb];omega)
 have hc12':=of_decide_eq_false hc12
 refine ad aa 2 rfl ?_
 refine ag rfl (fun hc13=>?_) (fun hc13=>?_)
 ·
  have hc13':=of_decide_eq_true hc13
  refine aE aa 2 rfl ?_
  obtain ⟨b29,a29,hr9⟩:∃ (b29:Bk) (a29:Answer),gL b d=(b29,a29):=⟨_,_,rfl⟩
  refine aM 11 [0,7,8,9,10,6,5] (cf id (aX [0,7,8,9,10]) (ms:=(iG b 1 2 3 4 none none)) (ms':=(iG b29 1 2 3 4 none none)) (fun x hx=>EY x hx b d (by first|assumption|exact cj.tick (by assumption) (by omega) (by omega)) b29 a29 hr9) FN rfl rfl ⟨⟨_,rfl,.inl ⟨rfl,rfl⟩⟩,⟨_,rfl,.inl ⟨rfl,rfl⟩⟩,trivial⟩ rfl rfl rfl rfl rfl rfl rfl ⟨rfl,rfl,rfl,rfl,trivial⟩ rfl rfl rfl rfl rfl rfl rfl rfl rfl rfl rfl rfl rfl) rfl ?_
  refine ab aa 1 rfl ?_
  refine ae ?_
  refine ax ?_
  refine bf ?_
  refine an ?_
  have hX:dR b days d=(b29,days,a29):=by
    unfold dR;(repeat' (first|rw [if_pos (by omega)]|rw [if_neg (by omega)]|fail))<;>first|rfl|(simp only [hr9];done)|(simp only [hr9];rfl)|(simp_all;done)
  rw [hX] at hr;clear hX
  simp only [Prod.mk.injEq] at hr;obtain ⟨rfl,rfl,rfl⟩:=hr
  refine al aa [0,7,8,9,10,5,6] 6 rfl rfl rfl rfl rfl rfl ?_ ?_
  all_goals first|rfl|(simp [ar,aU,bb];done)|(simp [ar,aU,bb];omega)
 have hc13':=of_decide_eq_false hc13
 refine cW ?_
 refine bn ?_
 refine then_ok ?_
 refine ad aa 2 rfl ?_
 refine ax ?_
 have hX:dR b days d=(b,days,(⟨1,0⟩:Answer)):=by
   unfold dR;(repeat' (first|rw [if_pos (by omega)]|rw [if_neg (by omega)]|fail))<;>first|rfl|(simp_all;done)
 rw [hX] at hr;clear hX
 simp only [Prod.mk.injEq] at hr;obtain ⟨rfl,rfl,rfl⟩:=hr
 refine al aa [0,1,2,3,4,5,6] 6 rfl rfl rfl rfl rfl rfl ?_ ?_
 all_goals first|rfl|(simp [ar,aU,bb];done)|(simp [ar,aU,bb];omega)

theorem DX (x:Nat->Value) (hx:∀ i,(x i).oneCell'=true) (b:Bk) (days:List (List Int)) (told:List (Int×Answer)) (cl:Nat) (d:aV) (ok:cj b) (hy:days.length<=1000) (b2:Bk) (y2:List (List Int)) (t2:List (Int×Answer)) (c2:Nat) (a2:Answer) (hr:fA b days told cl d=(b2,y2,t2,c2,a2)):cA Try.prog 42 [(.c (.p 0 0 0 0)),(.c (.q (cP d) 0))] [(0,(.box 98 (aU b 1 2 3 4 (.s 5 0 1 days.length) (.m 6)))),(1,(dK b.ao)),(2,(dC b.due)),(3,(dS b.aq)),(4,(cK b.aS)),(5,(pJ days)),(6,(.map (tV told) cl))] [0] (.v (.g [cI a2.err,cI a2.ba])) [(0,(.box 98 (aU b2 1 2 3 4 (.s 5 0 1 y2.length) (.m 6)))),(1,(dK b2.ao)),(2,(dC b2.due)),(3,(dS b2.aq)),(4,(cK b2.aS)),(5,(pJ y2)),(6,(.map (tV t2) c2))]:=by
 refine cA.mk 42 [(0,(aC (.p 0 0 0 0))),(1,(aC (.q (cP d) 0)))] 7 Try.func42 rfl rfl rfl rfl rfl rfl rfl rfl rfl ?_
 intro W0 F0 T0 pg
 obtain ⟨okt,okc,okd,oka,oky,okw0,okw1,okp,okv,okk0,okk1,okg,okl0,okl1,okp0,okp1,okn0,okn1,okq⟩:=id ok
 refine ad aa 1 rfl ?_
 refine af ?_
 refine af ?_
 refine cZ [0,1,4] [7,0,1,2,3,4,5,6] mixed rfl rfl ?_
 refine bQ (kn:=[]) aa 8 rfl trivial ?_
 refine bU (n':=8) [12,16] [6] rfl rfl (.inl ⟨(ah.plain rfl),aJ.cast (zl (ps:=told) Try.underlying96 Try.underlying3 Fp rfl rfl rfl rfl) rfl⟩) rfl ?_
 refine bQ (n':=9) (kn:=[]) aa 6 rfl trivial ?_
 refine dL [0,1,4,5,6] [8,7,0,1,2,3,4,5,6] rfl rfl (by kernel_rfl) ?_
 refine then_ok ?_
 refine cp 27 (((ik told d.id).isSome) && (decide (¬d.id=0))) ?_ ?_
 ·
  refine aw ?_
  refine ab aa 2 rfl ?_
  refine bw (t:=21) rfl (fun hb1=>?_) (fun hb1=>?_)
  ·
   have hb1':=hb1;try simp only [bl,bJ] at hb1'
   refine ab aa 6 rfl ?_
   refine ae ?_
   exact aD.bA 9 rfl rfl (by first|(simp [hb1];done)|(simp_all;done)|(exfalso;simp_all;done)|(simp_all;omega)) rfl
  have hb1':=hb1;try simp only [bl,bJ] at hb1'
  refine ab aa 6 rfl ?_
  refine ae ?_
  exact aD.bA 9 rfl rfl (by first|(simp [hb1];done)|(simp_all;done)|(exfalso;simp_all;done)|(simp_all;omega)) rfl
 refine ag rfl (fun hc2=>?_) (fun hc2=>?_)
 ·
  have hc2':=hc2;try simp only [bl,bJ] at hc2'
  refine ad aa 2 rfl ?_
  refine ax ?_
  refine an ?_
  have hX:fA b days told cl d=(b,days,told,cl,((ik told d.id).getD ⟨0,0⟩)):=by
    unfold fA;(repeat' split)<;>first|rfl|omega|(exfalso;omega)|(simp_all;done)|(simp_all;omega)
  rw [hX] at hr;clear hX
  simp only [Prod.mk.injEq] at hr;obtain ⟨rfl,rfl,rfl,rfl,rfl⟩:=hr
  refine al aa [0,1,2,3,4,5,6,7] 7 rfl rfl rfl rfl rfl rfl ?_ ?_
  all_goals first|rfl|(simp [ar,aU,bb];done)|(simp [ar,aU,bb];omega)
 have hc2':=hc2;try simp only [bl,bJ] at hc2'
 refine aP ?_
 refine aE aa 2 rfl ?_
 obtain ⟨b20,y20,a20,hr0⟩:∃ (b20:Bk) (y20:List (List Int)) (a20:Answer),dR b days d=(b20,y20,a20):=⟨_,_,_,rfl⟩
 refine aM 14 [0,9,10,11,12,13,8,7,6] (cf id (aX [0,9,10,11,12,13]) (ms:=(iG b 1 2 3 4 (some (.s 5 0 1 days.length)) none)) (ms':=(iG b20 1 2 3 4 (some (.s 5 0 1 y20.length)) none)) (fun x hx=>Gj x hx b days d (by first|assumption|exact cj.tick (by assumption) (by omega) (by omega)) (by first|omega|(simp;done)|(simp;omega)) b20 y20 a20 hr0) FX rfl rfl ⟨⟨_,rfl,.inl ⟨rfl,rfl⟩⟩,⟨_,rfl,.inl ⟨rfl,rfl⟩⟩,trivial⟩ rfl rfl rfl rfl rfl rfl rfl ⟨rfl,rfl,rfl,rfl,rfl,trivial⟩ rfl rfl rfl rfl rfl rfl rfl rfl rfl rfl rfl rfl rfl) rfl ?_
 refine ab aa 2 rfl ?_
 refine ae ?_
 refine af ?_
 refine bc [0,1,4,7] [14,0,9,10,11,12,13,7,6] mixed rfl rfl ?_
 refine aA (kn:=[]) aa 9 rfl trivial ?_
 refine bC [14,0,9,10,11,12,13,7,6] rfl rfl rfl rfl (by kernel_rfl) ?_
 refine fV [14,0,9,10,11,12,13,7,6] (zj Try.underlying96 Try.underlying3 rfl rfl rfl rfl rfl) rfl ?_
 refine ae ?_
 refine ad aa 2 rfl ?_
 refine ax ?_
 have hX:fA b days told cl d=(b20,y20,nN told d.id a20,if (ik told d.id).isSome then cl else cl+1,a20):=by
   unfold fA;simp only [hr0];(repeat' split)<;>first|rfl|omega|(exfalso;omega)|(simp_all;done)|(simp_all;omega)
 rw [hX] at hr;clear hX
 simp only [Prod.mk.injEq] at hr;obtain ⟨rfl,rfl,rfl,rfl,rfl⟩:=hr
 refine al aa [0,9,10,11,12,13,6,7] 7 rfl rfl rfl rfl rfl rfl ?_ ?_
 all_goals first|rfl|(simp [ar,aU,bb];done)|(simp [ar,aU,bb];omega)

theorem vq (s:Setup) (f:cX) (hr:ea s=f):Fn Try.prog 40 [(.g [(cR 3 ((s.da).map fR)),(cI s.ib),(cI s.cap)])] (.v (.g [(cI f.err),(cI f.at_)])) []:=by
 refine Fn.mk' 47 [(0,(aG [(cR 3 ((s.da).map fR)),(cI s.ib),(cI s.cap)]))] Try.func40 rfl rfl rfl rfl ?_
 intro W0 T0
 refine ff 0 0 rfl rfl (fun hlen0_0=>?_)
 refine ad aa 2 rfl ?_
 refine af ?_
 refine cp 19 (((decide ((↑s.da.length:Int) > 8))||(decide (s.ib < 0)))||(decide (s.ib > 8))) ?_ ?_
 ·
  refine aw ?_
  refine ab aa 2 rfl ?_
  refine ay (cY rfl rfl rfl rfl rfl Try.underlying53) rfl ?_
  refine ab aa 2 rfl ?_
  refine bw (t:=10) rfl (fun hb1=>?_) (fun hb1=>?_)
  ·
   have hb1':=of_decide_eq_true hb1
   refine ab aa 9 rfl ?_
   refine ae ?_
   exact aD.bA 15 rfl rfl (by first|(simp [hb1];done)|(simp_all;done)|(exfalso;simp_all;done)|(simp_all;omega)) rfl
  have hb1':=of_decide_eq_false hb1
  refine ab aa 5 rfl ?_
  refine bw (t:=15) rfl (fun hb2=>?_) (fun hb2=>?_)
  ·
   have hb2':=of_decide_eq_true hb2
   refine ab aa 4 rfl ?_
   refine ae ?_
   exact aD.bA 16 rfl rfl (by first|(simp [hb1,hb2];done)|(simp_all;done)|(exfalso;simp_all;done)|(simp_all;omega)) rfl
  have hb2':=of_decide_eq_false hb2
  refine ab aa 4 rfl ?_
  refine ae ?_
  exact aD.bA 16 rfl rfl (by first|(simp [hb1,hb2];done)|(simp_all;done)|(exfalso;simp_all;done)|(simp_all;omega)) rfl
 refine ag rfl (fun hc3=>?_) (fun hc3=>?_)
 ·
  have hc3':=hc3;try simp only [bl,bJ] at hc3'
  refine ad aa 2 rfl ?_
  refine ax ?_
  refine an ?_
  have hX:ea s=(⟨5,0⟩:cX):=by
    unfold ea;rw [if_pos (by omega)]
  rw [hX] at hr;clear hX
  subst hr
  refine al aa [1] 0 rfl rfl rfl rfl rfl rfl ?_ ?_
  all_goals first|rfl|(simp [ar,aU,bb];done)|(simp [ar,aU,bb];omega)
 have hc3':=hc3;try simp only [bl,bJ] at hc3'
 refine aP ?_
 refine af ?_
 refine cp 28 ((decide (s.cap < 0))||(decide (s.cap > 1000000))) ?_ ?_
 ·
  refine aw ?_
  refine ab aa 4 rfl ?_
  refine bw (t:=24) rfl (fun hb4=>?_) (fun hb4=>?_)
  ·
   have hb4':=of_decide_eq_true hb4
   refine ab aa 4 rfl ?_
   refine ae ?_
   exact aD.bA 9 rfl rfl (by first|(simp [hb4];done)|(simp_all;done)|(exfalso;simp_all;done)|(simp_all;omega)) rfl
  have hb4':=of_decide_eq_false hb4
  refine ab aa 4 rfl ?_
  refine ae ?_
  exact aD.bA 9 rfl rfl (by first|(simp [hb4];done)|(simp_all;done)|(exfalso;simp_all;done)|(simp_all;omega)) rfl
 refine ag rfl (fun hc5=>?_) (fun hc5=>?_)
 ·
  have hc5':=hc5;try simp only [bl,bJ] at hc5'
  refine ad aa 2 rfl ?_
  refine ax ?_
  refine an ?_
  have hX:ea s=(⟨3,0⟩:cX):=by
    unfold ea;rw [if_neg (by omega),if_pos (by omega)]
  rw [hX] at hr;clear hX
  subst hr
  refine al aa [1] 0 rfl rfl rfl rfl rfl rfl ?_ ?_
  all_goals first|rfl|(simp [ar,aU,bb];done)|(simp [ar,aU,bb];omega)
 have hc5':=hc5;try simp only [bl,bJ] at hc5'
 refine aP ?_
 refine af ?_
 refine aE aa 2 rfl ?_
 refine ay (cY rfl rfl rfl rfl rfl Try.underlying53) rfl ?_
 refine ab aa 1 rfl ?_
 refine ae ?_
 refine aW ?_
 refine cw (β:=Nat) (fun (q:Nat)=>⟨[(2,(aC (.p 1 0 0 0))),(31,(aC (cR 3 ((s.da).map fR)))),(32,(aI (↑s.da.length:Int))),(33,(aI (↑q:Int)))],[(1,(.box 50 [(cI 0),(cI 0)]))],2⟩) (fun (q:Nat)=>q<=s.da.length/\mZ s.da 0=mZ (s.da.drop q) q) (fun (q:Nat)=>s.da.length - q) 0 ?_ ?_ ?_
 ·exact ⟨by omega,rfl⟩
 ·exact aD.bY id (by refine ⟨?_,?_,?_,?_,trivial⟩<;>first|rfl|(simp only [bo];done)|(congr 3;omega)|(congr 4;omega)|(simp only [bp];rfl)) (⟨by first|rfl|(simp only [bo];done)|(congr 3;omega)|(congr 4;omega)|(simp only [bp];rfl),trivial⟩) rfl
 rintro q ⟨hi0_0,hi0_1⟩
 refine ad aa 1 rfl ?_
 refine af ?_
 refine ag rfl (fun hc6=>?_) (fun hc6=>?_)
 ·
  have hc6':=of_decide_eq_true hc6
  refine aP ?_
  refine af ?_
  refine aW ?_
  refine aE aa 1 rfl ?_
  obtain ⟨x1,hx1⟩:=cq (xs:=s.da) (i:=q) (by first|omega|(simp;done)|(simp;omega))
  refine ay (cS (i:=q) rfl rfl rfl Try.underlying53 CK (by first|omega|(simp;done)|(simp;omega)) (bu hx1)) rfl ?_
  refine ab aa 4 rfl ?_
  refine ae ?_
  refine aE aa 1 rfl ?_
  obtain ⟨e0,hr0⟩:∃ (e0:Int),eY x1=e0:=⟨_,rfl⟩
  refine aM 3 [2,1] (bP 3 (kz x1 e0 hr0) AS rfl rfl ⟨⟨_,rfl,.g ⟨.d _,.d _,.d _,trivial⟩⟩,trivial⟩ trivial trivial rfl rfl rfl rfl) rfl ?_
  refine ab aa 1 rfl ?_
  refine ae ?_
  refine ad aa 2 rfl ?_
  refine ag rfl (fun hc7=>?_) (fun hc7=>?_)
  ·
   have hc7':=of_decide_eq_true hc7
   refine ad aa 4 rfl ?_
   refine ax ?_
   refine bf ?_
   refine an ?_
   refine an ?_
   refine bf ?_
   refine an ?_
   have hX:ea s=(⟨e0,(↑q:Int)⟩:cX):=by
     unfold ea;rw [if_neg (by omega),if_neg (by omega),hi0_1,sN hx1,if_pos (by omega)];simp_all
   rw [hX] at hr;clear hX
   subst hr
   refine al aa [1] 0 rfl rfl rfl rfl rfl rfl ?_ ?_
   all_goals first|rfl|(simp [ar,aU,bb];done)|(simp [ar,aU,bb];omega)
  have hc7':=of_decide_eq_false hc7
  refine cW ?_
  refine bn ?_
  refine then_ok ?_
  refine aw ?_
  refine ay (aK rfl rfl rfl (aH (by first|omega|(simp;done)|(simp;omega)))) rfl ?_
  refine ab aa 1 rfl ?_
  refine ae ?_
  refine ⟨q+1,⟨by omega,by rw [hi0_1,sN hx1,if_neg (by omega)]⟩,by first|omega|(simp;done)|(simp;omega),aD.bY id (by refine ⟨?_,?_,?_,?_,trivial⟩<;>first|rfl|(simp only [bo];done)|(congr 3;omega)|(congr 4;omega)|(simp only [bp];rfl)) (⟨by first|rfl|(simp only [bo];done)|(congr 3;omega)|(congr 4;omega)|(simp only [bp];rfl),trivial⟩) rfl⟩
 have hc6':=of_decide_eq_false hc6
 refine cm ?_
 refine aQ ?_
 refine aQ ?_
 refine bO ?_
 refine then_ok ?_
 refine ad aa 2 rfl ?_
 refine ax ?_
 have hX:ea s=(⟨0,0⟩:cX):=by
   unfold ea;rw [if_neg (by omega),if_neg (by omega),hi0_1,List.drop_of_length_le (by omega)];rfl
 rw [hX] at hr;clear hX
 subst hr
 refine al aa [1] 0 rfl rfl rfl rfl rfl rfl ?_ ?_
 all_goals first|rfl|(simp [ar,aU,bb];done)|(simp [ar,aU,bb];omega)

theorem zH (s:Setup) (l:List aV) (b2:Bk) (y2:List (List Int)) (o2:List Answer) (f2:cX) (hr:gX s l=(b2,y2,o2,f2)):Fn Try.prog 22 [(.g [(cR 3 ((s.da).map fR)),(cI s.ib),(cI s.cap)]),(.c (pf l))] (.t [(.g [(cI b2.time),(cB b2.down),(.s 0 0 6 b2.ao.length),(.s 1 0 1 b2.due.length),(.s 2 0 8 b2.aq.length),(cI b2.s0.bW),(de b2.s0.kept),(cI b2.s1.bW),(de b2.s1.kept),(cI b2.n0),(cI b2.n1),(ej b2.w0),(ej b2.w1),(cI b2.bF.cap),(gn b2.bF.used),(gI b2.bF.aY),(.s 3 0 4 b2.aS.length),(.s 4 0 1 y2.length),(dP b2.book)]),(.c (.s 5 0 2 o2.length)),(.g [(cI f2.err),(cI f2.at_)])]) [(0,(dK b2.ao)),(1,(dC b2.due)),(2,(dS b2.aq)),(3,(cK b2.aS)),(4,(pJ y2)),(5,(Ee o2))]:=by
 refine Fn.mk' 89 [(0,(aG [(cR 3 ((s.da).map fR)),(cI s.ib),(cI s.cap)])),(1,(aC (pf l)))] Try.func22 rfl rfl rfl rfl ?_
 intro W0 T0
 refine ff 0 0 rfl rfl (fun hlen0_0=>?_)
 refine dF 1 rfl (fun hlen1=>?_)
 refine ad aa 4 rfl ?_
 refine af ?_
 refine aE aa 1 rfl ?_
 obtain ⟨f0,hr0⟩:∃ (f0:cX),ea s=f0:=⟨_,rfl⟩
 refine aM 3 [2,1,0] (bP 3 (vq s f0 hr0) Ga rfl rfl ⟨⟨_,rfl,.g ⟨.d _,.d _,.d _,trivial⟩⟩,trivial⟩ ⟨trivial,trivial,trivial⟩ trivial rfl rfl rfl rfl) rfl ?_
 refine ab aa 2 rfl ?_
 refine ae ?_
 refine ad aa 3 rfl ?_
 refine ag rfl (fun hc1=>?_) (fun hc1=>?_)
 ·
  have hc1':=of_decide_eq_true hc1
  refine af ?_
  refine cZ [1,2,4,6,7] [3,2,1,0] mixed rfl rfl ?_
  refine bQ (kn:=[]) aa 5 rfl trivial ?_
  refine dL [1,2,4,6,5] [2,1,0] rfl rfl (by kernel_rfl) ?_
  refine then_ok ?_
  refine ax ?_
  refine an ?_
  refine cb 1 2 61 6 rfl rfl rfl ?_
  refine cb 1 3 3 1 rfl rfl rfl ?_
  refine cb 1 4 67 8 rfl rfl rfl ?_
  refine eU 1 6 4 rfl rfl rfl ?_
  refine eU 1 8 4 rfl rfl rfl ?_
  refine eU 1 11 5 rfl rfl rfl ?_
  refine eU 1 12 5 rfl rfl rfl ?_
  refine eU 1 14 1 rfl rfl rfl ?_
  refine eU 1 15 4 rfl rfl rfl ?_
  refine cb 1 16 83 4 rfl rfl rfl ?_
  refine cb 1 17 86 1 rfl rfl rfl ?_
  refine eU 1 18 2 rfl rfl rfl ?_
  refine cT (aD.nil 5 65 2 (by decide) rfl) ?_
  have hX:gX s l=((⟨0,false,([]:List bD),([]:List Int),([]:List bB),(⟨0,[]⟩:bV),(⟨0,[]⟩:bV),0,0,[],[],(⟨0,[],[]⟩:cv),([]:List ak),[]⟩:Bk),([]:List (List Int)),([]:List Answer),f0):=by
    unfold gX;rw [hr0,if_pos (by omega)];rfl
  rw [hX] at hr;clear hX
  simp only [Prod.mk.injEq] at hr;obtain ⟨rfl,rfl,rfl,rfl⟩:=hr
  refine al aa [4,5,6,7,8,9,1,2] 6 rfl rfl rfl rfl rfl rfl ?_ ?_
  all_goals first|rfl|(simp [ar,aU,bb];done)|(simp [ar,aU,bb];omega)
 have hc1':=of_decide_eq_false hc1
 refine aP ?_
 refine af ?_
 refine aE aa 1 rfl ?_
 refine ay (cY rfl rfl rfl rfl rfl Try.underlying24) rfl ?_
 refine ab aa 1 rfl ?_
 refine ae ?_
 refine ag rfl (fun hc2=>?_) (fun hc2=>?_)
 ·
  have hc2':=of_decide_eq_true hc2
  refine ad aa 5 rfl ?_
  refine ax ?_
  refine an ?_
  refine cb 1 2 61 6 rfl rfl rfl ?_
  refine cb 1 3 3 1 rfl rfl rfl ?_
  refine cb 1 4 67 8 rfl rfl rfl ?_
  refine eU 1 6 4 rfl rfl rfl ?_
  refine eU 1 8 4 rfl rfl rfl ?_
  refine eU 1 11 5 rfl rfl rfl ?_
  refine eU 1 12 5 rfl rfl rfl ?_
  refine eU 1 14 1 rfl rfl rfl ?_
  refine eU 1 15 4 rfl rfl rfl ?_
  refine cb 1 16 83 4 rfl rfl rfl ?_
  refine cb 1 17 86 1 rfl rfl rfl ?_
  refine eU 1 18 2 rfl rfl rfl ?_
  refine cT (aD.nil 5 65 2 (by decide) rfl) ?_
  have hX:gX s l=((⟨0,false,([]:List bD),([]:List Int),([]:List bB),(⟨0,[]⟩:bV),(⟨0,[]⟩:bV),0,0,[],[],(⟨0,[],[]⟩:cv),([]:List ak),[]⟩:Bk),([]:List (List Int)),([]:List Answer),(⟨5,0⟩:cX)):=by
    unfold gX;rw [hr0,if_neg (by omega),if_pos (by omega)];rfl
  rw [hX] at hr;clear hX
  simp only [Prod.mk.injEq] at hr;obtain ⟨rfl,rfl,rfl,rfl⟩:=hr
  refine al aa [4,5,6,7,8,9,1,2] 6 rfl rfl rfl rfl rfl rfl ?_ ?_
  all_goals first|rfl|(simp [ar,aU,bb];done)|(simp [ar,aU,bb];omega)
 have hc2':=of_decide_eq_false hc2
 refine aP ?_
 refine eN ?_
 refine aM 5 [4,3,2,1,0] (xI 4 rfl) rfl ?_
 refine ab aa 3 rfl ?_
 refine ae ?_
 refine af ?_
 obtain ⟨w1,w2,w3,w4,w5,w6⟩:=kp (s:=s) (by rw [hr0];omega)
 refine pb 5 2 61 6 rfl rfl rfl ?_
 refine pb 5 4 67 8 rfl rfl rfl ?_
 refine jV 5 6 4 rfl rfl rfl ?_
 refine jV 5 8 4 rfl rfl rfl ?_
 refine jV 5 11 5 rfl rfl rfl ?_
 refine jV 5 12 5 rfl rfl rfl ?_
 refine jV 5 14 1 rfl rfl rfl ?_
 refine jV 5 15 4 rfl rfl rfl ?_
 refine pb 5 16 83 4 rfl rfl rfl ?_
 refine pb 5 17 86 1 rfl rfl rfl ?_
 refine jV 5 18 2 rfl rfl rfl ?_
 refine aE aa 2 rfl ?_
 refine ay (cY rfl rfl rfl rfl rfl Try.underlying53) rfl ?_
 refine ab aa 1 rfl ?_
 refine ae ?_
 refine aW ?_
 refine cw (β:=Nat×List bD) (fun (p:Nat×List bD)=>match p with|(q,m)=>⟨[(1,(aC (pf l))),(2,(aC (.p 0 0 0 0))),(4,(aC (.p 1 0 0 0))),(5,(aC cN)),(6,(aC (.p 2 0 0 0))),(8,(aC (.p 5 0 0 0))),(29,(aC (cR 3 ((s.da).map fR)))),(30,(aI (↑s.da.length:Int))),(31,(aI (↑q:Int)))],[(9,(pJ ([]:List (List Int)))),(8,(cK ([]:List ak))),(7,(dS ([]:List bB))),(6,(dK m)),(5,(.box 98 [(cI 0),(cB false),(.s 6 0 6 m.length),cN,(.s 7 0 8 0),(cI 0),(de ([]:List bj)),(cI 0),(de ([]:List bj)),(cI 0),(cI 0),(ej ([]:List cc)),(ej ([]:List cc)),(cI 0),(gn ([]:List Int)),(gI ([]:List ca)),(.s 8 0 4 0),(.s 9 0 1 0),(dP ([]:List Entry)),(.m 4)])),(4,(.map (tV ([]:List (Int×Answer))) 0)),(2,(.box 50 [(cI 0),(cI 0)])),(1,(.box 46 [(cI 0),(cB false),cN,cN,cN,(cI 0),cN,(cI 0),cN,(cI 0),(cI 0),cN,cN,(cI 0),cN,cN,cN,cN,cN])),(0,(.box 55 [(cR 3 ((s.da).map fR)),(cI s.ib),(cI s.cap)]))],10⟩) (fun (p:Nat×List bD)=>match p with|(q,m)=>q<=s.da.length/\m=(s.da.take q).map kN/\m.length=q) (fun (p:Nat×List bD)=>match p with|(q,m)=>s.da.length - q) (0,([]:List bD)) ?_ ?_ ?_
 ·exact ⟨by omega,rfl,rfl⟩
 ·exact aD.bY id (by refine ⟨?_,?_,?_,?_,?_,?_,?_,?_,?_,trivial⟩<;>first|rfl|(simp only [bo];done)|(congr 3;omega)|(congr 4;omega)|(simp only [bp];rfl)) (by refine ⟨?_,?_,?_,?_,?_,?_,?_,?_,?_,trivial⟩<;>first|rfl|(simp only [bo];done)|(congr 3;omega)|(congr 4;omega)|(simp only [bp];rfl)) rfl
 rintro ⟨q,m⟩ ⟨hi0_0,hi0_1,hi0_2⟩
 refine ad aa 1 rfl ?_
 refine af ?_
 refine ag rfl (fun hc3=>?_) (fun hc3=>?_)
 ·
  have hc3':=of_decide_eq_true hc3
  refine aP ?_
  refine af ?_
  refine aW ?_
  refine eN ?_
  obtain ⟨x1,hx1⟩:=cq (xs:=s.da) (i:=q) (by first|omega|(simp;done)|(simp;omega))
  refine ay (cS (i:=q) rfl rfl rfl Try.underlying53 CK (by first|omega|(simp;done)|(simp;omega)) (bu hx1)) rfl ?_
  refine ab aa 3 rfl ?_
  refine ae ?_
  refine bc [1,2,4,5,6,8,29,30,31,10] [10,9,8,7,6,5,4,2,1,0] mixed rfl rfl ?_
  refine aA (kn:=[]) aa 7 rfl trivial ?_
  refine aT (n':=11) [41] [] rfl rfl (.inl ⟨(ah.plain rfl),aJ.cast (aJ.Fx (cs':=[(cI 0),(cI 0),(cI x1.aO),(cI x1.count),(cI x1.sum),(fj ([]:List cF))]) 5 2 (wK (ys:=[(2,(.g [(cI x1.aO),(cI x1.count),(cI x1.sum)]))]) rfl Fa rfl ⟨⟨rfl,rfl⟩,trivial⟩ rfl rfl) rfl rfl) rfl⟩) rfl ?_
  refine aT (n':=12) [42] [] rfl rfl (.inl ⟨(ah.plain rfl),aJ.cast (dv (ys:=[(0,(.g [(cI 0),(cI 0),(cI x1.aO),(cI x1.count),(cI x1.sum),(fj ([]:List cF))]))]) (rows:=([(⟨0,0,x1,([]:List cF)⟩:bD)]).map oR) 11 xi rfl (by decide) ⟨⟨rfl,rfl⟩,trivial⟩ rfl rfl rfl rfl) rfl⟩) rfl ?_
  refine aT (n':=13) [40,43] [11,6] rfl rfl (.inl ⟨(ah.plain rfl),aJ.cast (dd (m:=1) (N:=m.length+1) (k2:=12) (ys:=([(⟨0,0,x1,([]:List cF)⟩:bD)]).map oR) xi rfl rfl rfl rfl rfl rfl (by first|omega|(simp;done)|(simp;omega)) rfl (.s rfl (by first|omega|(simp;done)|(simp;omega))) (by first|omega|(simp;done)|(simp;omega)) (by first|omega|(simp;done)|(simp;omega)) eP (by decide) (by first|omega|(simp;done)|(simp;omega)) (by first|omega|(simp;done)|(simp;omega))) rfl⟩) rfl ?_
  refine aA (kn:=[]) aa 3 rfl trivial ?_
  refine bC [12,10,9,8,7,5,4,2,1,0] rfl rfl rfl rfl (by kernel_rfl) ?_
  refine ab aa 1 rfl ?_
  refine bX ?_
  refine bn ?_
  refine then_ok ?_
  refine aw ?_
  refine ay (aK rfl rfl rfl (aH (by first|omega|(simp;done)|(simp;omega)))) rfl ?_
  refine ab aa 1 rfl ?_
  refine ae ?_
  refine ⟨(q+1,m++([(⟨0,0,x1,([]:List cF)⟩:bD)])),⟨by omega,by rw [il hx1,List.map_append,<-hi0_1];rfl,by rw [List.length_append,hi0_2];rfl⟩,by first|omega|(simp;done)|(simp;omega),aD.bY (fun k=>if k=6 then 12 else k) (by refine ⟨?_,?_,?_,?_,?_,?_,?_,?_,?_,trivial⟩<;>first|rfl|(simp only [bo];done)|(congr 3;omega)|(congr 4;omega)|(simp only [bp];rfl)) (by refine ⟨?_,?_,?_,?_,?_,?_,?_,?_,?_,trivial⟩<;>first|rfl|(simp only [bo];done)|(congr 3;omega)|(congr 4;omega)|(simp only [bp];rfl)) rfl⟩
 have hc3':=of_decide_eq_false hc3
 refine cm ?_
 refine aQ ?_
 refine aQ ?_
 refine bO ?_
 refine then_ok ?_
 refine aE aa 3 rfl ?_
 refine aM 11 [10,9,8,7,6,5,4,2,1,0] (oT 10 mM Bx rfl rfl rfl (n:=Int.toNat (s.ib)) (by first|omega|(simp;done)|(simp;omega)) (by first|omega|(simp;done)|(simp;omega)) (by first|omega|(simp;done)|(simp;omega)) (by first|omega|(simp;done)|(simp;omega))) rfl ?_
 refine ab aa 4 rfl ?_
 refine ae ?_
 refine aE aa 5 rfl ?_
 refine ay (cY rfl rfl rfl rfl rfl Try.underlying53) rfl ?_
 have hr1:dy s.cap (↑s.da.length:Int)=((dy s.cap (↑s.da.length:Int)).1,(dy s.cap (↑s.da.length:Int)).2):=rfl
 refine aM 11 [10,9,8,7,6,5,4,2,1,0] (bP 11 (Fn.frozen (av':=(.t [(.g [(cI (((dy s.cap (↑s.da.length:Int)).1).cap)),(gn (((dy s.cap (↑s.da.length:Int)).1).used)),(gI (((dy s.cap (↑s.da.length:Int)).1).aY))]),(.c (cI ((dy s.cap (↑s.da.length:Int)).2)))])) (vP s.cap (↑s.da.length:Int) ((dy s.cap (↑s.da.length:Int)).1) ((dy s.cap (↑s.da.length:Int)).2) hr1) ⟨⟨.inl ⟨_,rfl,rfl⟩,.inr ⟨_,_,_,_,_,rfl,rfl,rfl,by simp⟩,.inr ⟨_,_,_,_,_,rfl,rfl,rfl,by simp⟩,trivial⟩,.inl ⟨_,rfl,rfl⟩,trivial⟩) FZ rfl rfl ⟨⟨_,rfl,.c (.d _)⟩,⟨_,rfl,.c (.d _)⟩,trivial⟩ ⟨⟨trivial,trivial,trivial,trivial⟩,trivial,trivial⟩ trivial rfl rfl rfl rfl) rfl ?_
 refine ab aa 7 rfl ?_
 refine ae ?_
 refine ad aa 1 rfl ?_
 refine af ?_
 refine aE aa 1 rfl ?_
 refine ay (cY rfl rfl rfl rfl rfl Try.underlying24) rfl ?_
 refine ab aa 1 rfl ?_
 refine ae ?_
 refine aW ?_
 refine gQ (aD.nil 11 65 2 (by decide) rfl) ?_
 have htk:m=s.da.map kN:=by rw [hi0_1,List.take_of_length_le (by omega)]
 subst htk
 refine cw (β:=Nat×Bk×List (List Int)×List (Int×Answer)×Nat×List Answer) (fun (p:Nat×Bk×List (List Int)×List (Int×Answer)×Nat×List Answer)=>match p with|(u,b,days,told,cl,out)=>⟨[(1,(aC (pf l))),(2,(aC (.p 0 0 0 0))),(4,(aC (.p 1 0 0 0))),(5,(aC cN)),(6,(aC (.p 2 0 0 0))),(8,(aC (.p 5 0 0 0))),(29,(aC (cR 3 ((s.da).map fR)))),(30,(aI (↑s.da.length:Int))),(31,(aI (↑q:Int))),(11,(aC (.s 11 0 2 out.length))),(70,(aI (↑l.length:Int))),(71,(aI (↑u:Int)))],[(11,(Ee out)),(10,(dC b.due)),(9,(pJ days)),(8,(cK b.aS)),(7,(dS b.aq)),(6,(dK b.ao)),(5,(.box 98 (aU b 6 10 7 8 (.s 9 0 1 days.length) (.m 4)))),(4,(.map (tV told) cl)),(2,(.box 50 [(cI 0),(cI 0)])),(1,(.box 46 [(cI 0),(cB false),cN,cN,cN,(cI 0),cN,(cI 0),cN,(cI 0),(cI 0),cN,cN,(cI 0),cN,cN,cN,cN,cN])),(0,(.box 55 [(cR 3 ((s.da).map fR)),(cI s.ib),(cI s.cap)]))],12⟩) (fun (p:Nat×Bk×List (List Int)×List (Int×Answer)×Nat×List Answer)=>match p with|(u,b,days,told,cl,out)=>u<=l.length/\jW l (fC s) [] [] 0 []=jW (l.drop u) b days told cl out/\cj b/\days.length<=u/\out.length=u) (fun (p:Nat×Bk×List (List Int)×List (Int×Answer)×Nat×List Answer)=>match p with|(u,b,days,told,cl,out)=>l.length - u) (0,fC s,([]:List (List Int)),([]:List (Int×Answer)),0,([]:List Answer)) ?_ ?_ ?_
 ·exact ⟨by omega,rfl,cj.start (by rw [hr0];omega),by simp,rfl⟩
 ·exact aD.bY id (by refine ⟨?_,?_,?_,?_,?_,?_,?_,?_,?_,?_,?_,?_,trivial⟩<;>first|rfl|(simp only [bo];done)|(congr 3;omega)|(congr 4;omega)|(simp only [bp];rfl)) (by refine ⟨?_,?_,?_,?_,?_,?_,?_,?_,?_,?_,?_,trivial⟩<;>first|rfl|(simp only [bo];done)|(congr 3;omega)|(congr 4;omega)|(simp only [bp];rfl)|(simp only [aU,fC,List.length_replicate];rfl)) rfl
 rintro ⟨u,b,days,told,cl,out⟩ ⟨hi1_0,hi1_1,hi1_2,hi1_3,hi1_4⟩
 refine ad aa 1 rfl ?_
 refine af ?_
 refine ag rfl (fun hc4=>?_) (fun hc4=>?_)
 ·
  have hc4':=of_decide_eq_true hc4
  refine aP ?_
  refine af ?_
  refine aW ?_
  refine ad aa 2 rfl ?_
  refine aw ?_
  refine ab aa 4 rfl ?_
  obtain ⟨x1,hx1⟩:=cq (xs:=l) (i:=u) (by first|omega|(simp;done)|(simp;omega))
  refine ay (cS (i:=u) rfl rfl rfl Try.underlying24 Fs (by first|omega|(simp;done)|(simp;omega)) (bu hx1)) rfl ?_
  obtain ⟨b22,y22,t22,c22,a22,hr2⟩:∃ (b22:Bk) (y22:List (List Int)) (t22:List (Int×Answer)) (c22:Nat) (a22:Answer),fA b days told cl x1=(b22,y22,t22,c22,a22):=⟨_,_,_,_,_,rfl⟩
  refine aM 18 [5,12,13,14,15,16,17,11,2,1,0] (cf (aX [5,6,10,7,8,9,4]) (aX [5,12,13,14,15,16,17]) (ms:=(iG b 1 2 3 4 (some (.s 5 0 1 days.length)) (some (.m 6)))) (ms':=(iG b22 1 2 3 4 (some (.s 5 0 1 y22.length)) (some (.m 6)))) (fun x hx=>DX x hx b days told cl x1 (by first|assumption|exact cj.tick (by assumption) (by omega) (by omega)) (by first|omega|(simp;done)|(simp;omega)) b22 y22 t22 c22 a22 hr2) FY rfl rfl ⟨⟨_,rfl,.inl ⟨rfl,rfl⟩⟩,⟨_,rfl,.inl ⟨rfl,rfl⟩⟩,trivial⟩ rfl rfl rfl rfl rfl rfl rfl ⟨rfl,rfl,rfl,rfl,rfl,rfl,trivial⟩ rfl rfl rfl rfl rfl rfl rfl rfl rfl rfl rfl rfl rfl) rfl ?_
  refine aM 19 [18,5,12,13,14,15,16,17,11,2,1,0] (dv (ys:=[(0,(.g [(cI a22.err),(cI a22.ba)]))]) (rows:=([a22]).map kR) 18 CM rfl (by decide) ⟨⟨rfl,rfl⟩,trivial⟩ rfl rfl rfl rfl) rfl ?_
  refine aM 20 [19,18,5,12,13,14,15,16,17,2,1,0] (dd (m:=1) (N:=out.length+1) (k2:=19) (ys:=([a22]).map kR) CM rfl rfl rfl rfl rfl rfl (by first|omega|(simp;done)|(simp;omega)) rfl (.s rfl (by first|omega|(simp;done)|(simp;omega))) (by first|omega|(simp;done)|(simp;omega)) (by first|omega|(simp;done)|(simp;omega)) eP (by decide) (by first|omega|(simp;done)|(simp;omega)) (by first|omega|(simp;done)|(simp;omega))) rfl ?_
  refine ab aa 1 rfl ?_
  refine bX ?_
  refine bn ?_
  refine then_ok ?_
  refine aw ?_
  refine ay (aK rfl rfl rfl (aH (by first|omega|(simp;done)|(simp;omega)))) rfl ?_
  refine ab aa 1 rfl ?_
  refine ae ?_
  refine ⟨(u+1,b22,y22,t22,c22,out++([a22])),⟨by omega,by rw [hi1_1,xp hx1,hr2],(by have h:=cj.once hi1_2 days told cl x1;rw [hr2] at h;exact h.1),(by have h:=(cj.once hi1_2 days told cl x1).2;rw [hr2] at h;dsimp only at h;omega),by rw [List.length_append,hi1_4];rfl⟩,by first|omega|(simp;done)|(simp;omega),aD.bY (fun k=>if k=11 then 19 else if k=4 then 17 else if k=9 then 16 else if k=8 then 15 else if k=7 then 14 else if k=10 then 13 else if k=6 then 12 else k) (by refine ⟨?_,?_,?_,?_,?_,?_,?_,?_,?_,?_,?_,?_,trivial⟩<;>first|rfl|(simp only [bo];done)|(congr 3;omega)|(congr 4;omega)|(simp only [bp];rfl)) (by refine ⟨?_,?_,?_,?_,?_,?_,?_,?_,?_,?_,?_,trivial⟩<;>first|rfl|(simp only [bo];done)|(congr 3;omega)|(congr 4;omega)|(simp only [bp];rfl)) rfl⟩
 have hc4':=of_decide_eq_false hc4
 refine cm ?_
 refine aQ ?_
 refine aQ ?_
 refine bO ?_
 refine then_ok ?_
 refine ad aa 9 rfl ?_
 refine ax ?_
 have hX:gX s l=(b,days,out,(⟨0,0⟩:cX)):=by
   unfold gX;rw [hr0,if_neg (by omega),if_neg (by omega),hi1_1,List.drop_of_length_le (by omega)];rfl
 rw [hX] at hr;clear hX
 simp only [Prod.mk.injEq] at hr;obtain ⟨rfl,rfl,rfl,rfl⟩:=hr
 refine al aa [6,10,7,8,9,11,1,2] 6 rfl rfl rfl rfl rfl rfl ?_ ?_
 all_goals first|rfl|(simp [ar,aU,bb];done)|(simp [ar,aU,bb];omega)


def Fu (limit:Int):Setup:=⟨[⟨1000,30,1000000000000⟩,⟨1000,30,1000000000000⟩],2,limit⟩
def nu (n:Int) (k:Nat):List aV:=List.replicate k ⟨0,6,n,0,0,0⟩
def qD (j:Nat):List aV:=if j=0 then nu 0 5++nu 1 5 else if j=1 then nu 1 5 else []
def tQ:List aV:=[⟨0,5,0,0,0,0⟩,⟨0,5,1,0,0,0⟩]++qD 0
def rk (n:Nat):List aV:=(List.replicate n tQ).flatten
def iT (l:List aV):List aV:=l++rk 2
theorem zJ {n:Int} {k:Nat} (h:k < 5):nu n (5 - k)=[⟨0,6,n,0,0,0⟩]++nu n (5 - (k+1)):=by
  have:5 - k=(5 - (k+1))+1:=by omega
  rw [this];rfl
theorem xj {j:Nat} (h:j < 2):qD j=nu (↑j) 5++qD (j+1):=by
  rcases j with _|_|j
  ·rfl
  ·rfl
  ·omega
theorem xT {i:Nat} (h:i < 2):rk (2 - i)=tQ++rk (2 - (i+1)):=by
  have:2 - i=(2 - (i+1))+1:=by omega
  rw [this];rfl
theorem Be (limit:Int):Fn Try.prog 23 [(.c (cI limit))] (.v (.g [(.s 0 0 3 2),(cI 2),(cI limit)])) [(0,.arr 58 3 ((Fu limit).da.map fR))]:=by
 refine Fn.mk' 10 [(0,(aI limit))] Try.func23 rfl rfl rfl rfl ?_
 intro W0 T0
 refine ad aa 1 rfl ?_
 refine ad aa 3 rfl ?_
 refine aE aa 2 rfl ?_
 refine aM 3 [2,1,0] (dv (ys:=[(0,(.g [(cI 1000),(cI 30),(cI 1000000000000)])),(1,(.g [(cI 1000),(cI 30),(cI 1000000000000)]))]) (rows:=([(⟨1000,30,1000000000000⟩:dg),(⟨1000,30,1000000000000⟩:dg)]).map fR) 2 CL rfl (by decide) ⟨⟨rfl,rfl⟩,⟨rfl,rfl⟩,trivial⟩ rfl rfl rfl rfl) rfl ?_
 refine ab aa 3 rfl ?_
 refine ae ?_
 refine ax ?_
 refine al aa [2,0] 1 rfl rfl rfl rfl rfl rfl ?_ ?_
 all_goals first|rfl|(simp [ar,aU,bb];done)|(simp [ar,aU,bb];omega)
theorem jB (k n s:Int):Fn Try.prog 20 [(.c (cI k)),(.c (cI n)),(.c (cI s))] (.v (.g [(cI 0),(cI k),(cI n),(cI 0),(cI 0),(cI s)])) []:=by
 refine Fn.mk' 11 [(0,(aI k)),(1,(aI n)),(2,(aI s))] Try.func20 rfl rfl rfl rfl ?_
 intro W0 T0
 refine ad aa 1 rfl ?_
 refine ad aa 5 rfl ?_
 refine ax ?_
 refine al aa [0] 0 rfl rfl rfl rfl rfl rfl ?_ ?_
 all_goals first|rfl|(simp [ar,aU,bb];done)|(simp [ar,aU,bb];omega)
theorem Cy (k n s:Int):Fn Try.prog 21 [(.c (cI k)),(.c (cI n)),(.c (cI s))] (.v (.g [(cI 0),(cI 3),(cI n),(cI 0),(cI k),(cI s)])) []:=by
 refine Fn.mk' 11 [(0,(aI k)),(1,(aI n)),(2,(aI s))] Try.func21 rfl rfl rfl rfl ?_
 intro W0 T0
 refine ad aa 1 rfl ?_
 refine ad aa 5 rfl ?_
 refine ax ?_
 refine al aa [0] 0 rfl rfl rfl rfl rfl rfl ?_ ?_
 all_goals first|rfl|(simp [ar,aU,bb];done)|(simp [ar,aU,bb];omega)

theorem Ea (l:List aV) (N:Nat) (hN:N=l.length) (hl:l.length<=1000) (r:List aV) (hr:iT l=r):cA Try.prog 19 [(.c (.s 0 0 6 N))] [(0,(tw l))] [] (.v (.c (.s 0 0 6 r.length))) [(0,(tw r))]:=by
 refine cA.mk 25 [(0,(aC (.s 0 0 6 N)))] 1 Try.func19 rfl rfl rfl rfl rfl rfl rfl rfl rfl ?_
 intro W0 F0 T0 pg
 refine fK 0 rfl (fun hlen0=>?_)
 refine ad aa 1 rfl ?_
 refine af ?_
 refine ad aa 1 rfl ?_
 refine aW ?_
 refine cw (β:=Nat×List aV) (fun (p:Nat×List aV)=>match p with|(i,m0)=>⟨[(0,(aC (.s 0 0 6 m0.length))),(2,(aC cN)),(4,(aI (↑i:Int)))],[(0,(tw m0))],1⟩) (fun (p:Nat×List aV)=>match p with|(i,m0)=>i<=2/\m0++rk (2 - i)=iT l/\m0.length+12 * (2 - i)=l.length+24) (fun (p:Nat×List aV)=>match p with|(i,m0)=>2 - i) (0,l) ?_ ?_ ?_
 ·exact ⟨by omega,rfl,by omega⟩
 ·exact aD.bY id (by refine ⟨?_,?_,?_,trivial⟩<;>first|rfl|(simp only [bo];done)|(congr 3;omega)|(congr 4;omega)|(simp only [bp];rfl)|(first|exact cC rfl (by omega)|exact gO rfl (by first|omega|(simp only [List.length_append,List.length_cons,List.length_nil] at *;omega)))) (⟨by first|rfl|(simp only [bo];done)|(congr 3;omega)|(congr 4;omega)|(simp only [bp];rfl),trivial⟩) rfl
 rintro ⟨i,m0⟩ ⟨hi0_0,hi0_1,hi0_2⟩
 refine ad aa 1 rfl ?_
 refine af ?_
 refine ag rfl (fun hc1=>?_) (fun hc1=>?_)
 ·
  have hc1':=of_decide_eq_true hc1
  refine aP ?_
  refine af ?_
  refine aW ?_
  refine aE aa 1 rfl ?_
  refine aM 1 [0] (bP 1 (jB 5 0 0) lg rfl rfl ⟨⟨_,rfl,.c (.d _)⟩,⟨_,rfl,.c (.d _)⟩,⟨_,rfl,.c (.d _)⟩,trivial⟩ ⟨trivial,trivial,trivial,trivial,trivial,trivial,trivial⟩ trivial rfl rfl rfl rfl) rfl ?_
  refine aM 1 [0] (bP 1 (jB 5 1 0) lg rfl rfl ⟨⟨_,rfl,.c (.d _)⟩,⟨_,rfl,.c (.d _)⟩,⟨_,rfl,.c (.d _)⟩,trivial⟩ ⟨trivial,trivial,trivial,trivial,trivial,trivial,trivial⟩ trivial rfl rfl rfl rfl) rfl ?_
  refine aM 2 [1,0] (dv (ys:=[(0,(.g [(cI 0),(cI 5),(cI 0),(cI 0),(cI 0),(cI 0)])),(1,(.g [(cI 0),(cI 5),(cI 1),(cI 0),(cI 0),(cI 0)]))]) (rows:=([(⟨0,5,0,0,0,0⟩:aV),(⟨0,5,1,0,0,0⟩:aV)]).map cP) 1 lY rfl (by decide) ⟨⟨rfl,rfl⟩,⟨rfl,rfl⟩,trivial⟩ rfl rfl rfl rfl) rfl ?_
  refine aM 3 [2,1] (dd (m:=2) (N:=m0.length+2) (k2:=2) (ys:=([(⟨0,5,0,0,0,0⟩:aV),(⟨0,5,1,0,0,0⟩:aV)]).map cP) lY rfl rfl rfl rfl rfl rfl (by first|omega|(simp;done)|(simp;omega)) rfl (.s rfl (by first|omega|(simp;done)|(simp;omega))) (by first|omega|(simp;done)|(simp;omega)) (by first|omega|(simp;done)|(simp;omega)) eP (by decide) (by first|omega|(simp;done)|(simp;omega)) (by first|omega|(simp;done)|(simp;omega))) rfl ?_
  refine ab aa 1 rfl ?_
  refine ae ?_
  refine ad aa 1 rfl ?_
  refine aW ?_
  refine cw (β:=Nat×List aV) (fun (p:Nat×List aV)=>match p with|(j,m1)=>⟨[(0,(aC (.s 2 0 6 m1.length))),(2,(aC cN)),(4,(aI (↑i:Int))),(11,(aI (↑j:Int)))],[(2,(tw m1))],3⟩) (fun (p:Nat×List aV)=>match p with|(j,m1)=>j<=2/\m1++qD j=m0++tQ/\m1.length+5 * (2 - j)=m0.length+12) (fun (p:Nat×List aV)=>match p with|(j,m1)=>2 - j) (0,m0++([(⟨0,5,0,0,0,0⟩:aV),(⟨0,5,1,0,0,0⟩:aV)])) ?_ ?_ ?_
  ·exact ⟨by omega,by simp [tQ],by simp⟩
  ·exact aD.bY id (by refine ⟨?_,?_,?_,?_,trivial⟩<;>first|rfl|(simp only [bo];done)|(congr 3;omega)|(congr 4;omega)|(simp only [bp];rfl)|(first|exact cC rfl (by omega)|exact gO rfl (by first|omega|(simp only [List.length_append,List.length_cons,List.length_nil] at *;omega)))) (⟨by first|rfl|(simp only [bo];done)|(congr 3;omega)|(congr 4;omega)|(simp only [bp];rfl),trivial⟩) rfl
  rintro ⟨j,m1⟩ ⟨hi1_0,hi1_1,hi1_2⟩
  refine ad aa 1 rfl ?_
  refine af ?_
  refine ag rfl (fun hc2=>?_) (fun hc2=>?_)
  ·
   have hc2':=of_decide_eq_true hc2
   refine aP ?_
   refine af ?_
   refine aW ?_
   refine ad aa 2 rfl ?_
   refine ad aa 1 rfl ?_
   refine aW ?_
   refine cw (β:=Nat×List aV) (fun (p:Nat×List aV)=>match p with|(k,m2)=>⟨[(0,(aC (.s 2 0 6 m2.length))),(2,(aC cN)),(4,(aI (↑i:Int))),(11,(aI (↑j:Int))),(3,(aI (↑j:Int))),(14,(aI (↑k:Int)))],[(2,(tw m2))],3⟩) (fun (p:Nat×List aV)=>match p with|(k,m2)=>k<=5/\m2++nu (↑j) (5 - k)=m1++nu (↑j) 5/\m2.length+(5 - k)=m1.length+5) (fun (p:Nat×List aV)=>match p with|(k,m2)=>5 - k) (0,m1) ?_ ?_ ?_
   ·exact ⟨by omega,rfl,by omega⟩
   ·exact aD.bY id (by refine ⟨?_,?_,?_,?_,?_,?_,trivial⟩<;>first|rfl|(simp only [bo];done)|(congr 3;omega)|(congr 4;omega)|(simp only [bp];rfl)|(first|exact cC rfl (by omega)|exact gO rfl (by first|omega|(simp only [List.length_append,List.length_cons,List.length_nil] at *;omega)))) (⟨by first|rfl|(simp only [bo];done)|(congr 3;omega)|(congr 4;omega)|(simp only [bp];rfl),trivial⟩) rfl
   rintro ⟨k,m2⟩ ⟨hi2_0,hi2_1,hi2_2⟩
   refine ad aa 1 rfl ?_
   refine af ?_
   refine ag rfl (fun hc3=>?_) (fun hc3=>?_)
   ·
    have hc3':=of_decide_eq_true hc3
    refine aP ?_
    refine af ?_
    refine aW ?_
    refine aw ?_
    refine ab aa 2 rfl ?_
    refine aM 3 [2] (bP 3 (jB 6 (↑j:Int) 0) lg rfl rfl ⟨⟨_,rfl,.c (.d _)⟩,⟨_,rfl,.c (.d _)⟩,⟨_,rfl,.c (.d _)⟩,trivial⟩ ⟨trivial,trivial,trivial,trivial,trivial,trivial,trivial⟩ trivial rfl rfl rfl rfl) rfl ?_
    refine aM 4 [3,2] (dv (ys:=[(0,(.g [(cI 0),(cI 6),(cI (↑j:Int)),(cI 0),(cI 0),(cI 0)]))]) (rows:=([(⟨0,6,(↑j:Int),0,0,0⟩:aV)]).map cP) 3 lY rfl (by decide) ⟨⟨rfl,rfl⟩,trivial⟩ rfl rfl rfl rfl) rfl ?_
    refine aM 5 [4,3] (dd (m:=1) (N:=m2.length+1) (k2:=4) (ys:=([(⟨0,6,(↑j:Int),0,0,0⟩:aV)]).map cP) lY rfl rfl rfl rfl rfl rfl (by first|omega|(simp;done)|(simp;omega)) rfl (.s rfl (by first|omega|(simp;done)|(simp;omega))) (by first|omega|(simp;done)|(simp;omega)) (by first|omega|(simp;done)|(simp;omega)) eP (by decide) (by first|omega|(simp;done)|(simp;omega)) (by first|omega|(simp;done)|(simp;omega))) rfl ?_
    refine ab aa 1 rfl ?_
    refine bX ?_
    refine bn ?_
    refine then_ok ?_
    refine aw ?_
    refine ay (aK rfl rfl rfl (aH (by first|omega|(simp;done)|(simp;omega)))) rfl ?_
    refine ab aa 1 rfl ?_
    refine ae ?_
    refine ⟨(k+1,m2++([(⟨0,6,(↑j:Int),0,0,0⟩:aV)])),⟨by omega,by rw [<-hi2_1,zJ (k:=k) (by omega),List.append_assoc],by simp only [List.length_append,List.length_cons,List.length_nil];omega⟩,by first|omega|(simp;done)|(simp;omega),aD.bY (fun k=>if k=2 then 4 else k) (by refine ⟨?_,?_,?_,?_,?_,?_,trivial⟩<;>first|rfl|(simp only [bo];done)|(congr 3;omega)|(congr 4;omega)|(simp only [bp];rfl)|(first|exact cC rfl (by omega)|exact gO rfl (by first|omega|(simp only [List.length_append,List.length_cons,List.length_nil] at *;omega)))) (⟨by first|rfl|(simp only [bo];done)|(congr 3;omega)|(congr 4;omega)|(simp only [bp];rfl),trivial⟩) rfl⟩
   have hc3':=of_decide_eq_false hc3
   refine cm ?_
   refine aQ ?_
   refine aQ ?_
   refine bO ?_
   refine bn ?_
   refine then_ok ?_
   refine aw ?_
   refine ay (aK rfl rfl rfl (aH (by first|omega|(simp;done)|(simp;omega)))) rfl ?_
   refine ab aa 1 rfl ?_
   refine ae ?_
   refine ⟨(j+1,m2),⟨by omega,by rw [<-hi1_1,xj (j:=j) (by omega),<-List.append_assoc,<-hi2_1,(show 5 - k=0 by omega)];simp [nu],by omega⟩,by first|omega|(simp;done)|(simp;omega),aD.bY id (by refine ⟨?_,?_,?_,?_,trivial⟩<;>first|rfl|(simp only [bo];done)|(congr 3;omega)|(congr 4;omega)|(simp only [bp];rfl)|(first|exact cC rfl (by omega)|exact gO rfl (by first|omega|(simp only [List.length_append,List.length_cons,List.length_nil] at *;omega)))) (⟨by first|rfl|(simp only [bo];done)|(congr 3;omega)|(congr 4;omega)|(simp only [bp];rfl),trivial⟩) rfl⟩
  have hc2':=of_decide_eq_false hc2
  refine cm ?_
  refine aQ ?_
  refine aQ ?_
  refine bO ?_
  refine bn ?_
  refine then_ok ?_
  refine aw ?_
  refine ay (aK rfl rfl rfl (aH (by first|omega|(simp;done)|(simp;omega)))) rfl ?_
  refine ab aa 1 rfl ?_
  refine ae ?_
  refine ⟨(i+1,m1),⟨by omega,by rw [<-hi0_1,xT (i:=i) (by omega),<-List.append_assoc,<-hi1_1,(show j=2 by omega)];simp [qD],by omega⟩,by first|omega|(simp;done)|(simp;omega),aD.bY (fun k=>if k=0 then 2 else k) (by refine ⟨?_,?_,?_,trivial⟩<;>first|rfl|(simp only [bo];done)|(congr 3;omega)|(congr 4;omega)|(simp only [bp];rfl)|(first|exact cC rfl (by omega)|exact gO rfl (by first|omega|(simp only [List.length_append,List.length_cons,List.length_nil] at *;omega)))) (⟨by first|rfl|(simp only [bo];done)|(congr 3;omega)|(congr 4;omega)|(simp only [bp];rfl),trivial⟩) rfl⟩
 have hc1':=of_decide_eq_false hc1
 refine cm ?_
 refine aQ ?_
 refine aQ ?_
 refine bO ?_
 refine then_ok ?_
 refine ad aa 2 rfl ?_
 refine ax ?_
 have hX:iT l=m0:=by
   have:i=2:=by omega
   subst this
   rw [<-hi0_1];simp [rk]
 rw [hX] at hr;clear hX
 subst hr
 refine al aa [0] 1 rfl rfl rfl rfl rfl rfl ?_ ?_
 all_goals first|rfl|(simp [ar,aU,bb];done)|(simp [ar,aU,bb];omega)

theorem Bl:Fn Try.prog 17 [] (aB true) []:=by
 refine Fn.mk' 53 [] Try.func17 rfl rfl rfl rfl ?_
 intro W0 T0
 refine ad aa 1 rfl ?_
 refine eN ?_
 refine aM 0 [] (bP 0 (Fn.frozen (av':=(aG [(cR 3 (([(⟨1000,30,1000000000000⟩:dg),(⟨1000,30,1000000000000⟩:dg)]).map fR)),(cI 2),(cI 0)])) (Be 0) ⟨.inr ⟨_,_,_,_,_,rfl,rfl,rfl,by simp⟩,.inl ⟨_,rfl,rfl⟩,.inl ⟨_,rfl,rfl⟩,trivial⟩) Ge rfl rfl ⟨⟨_,rfl,.c (.d _)⟩,trivial⟩ ⟨trivial,trivial,trivial,trivial⟩ trivial rfl rfl rfl rfl) rfl ?_
 refine aM 0 [] (bP 0 (jB 1 0 100) lg rfl rfl ⟨⟨_,rfl,.c (.d _)⟩,⟨_,rfl,.c (.d _)⟩,⟨_,rfl,.c (.d _)⟩,trivial⟩ ⟨trivial,trivial,trivial,trivial,trivial,trivial,trivial⟩ trivial rfl rfl rfl rfl) rfl ?_
 refine aM 0 [] (bP 0 (jB 2 0 60) lg rfl rfl ⟨⟨_,rfl,.c (.d _)⟩,⟨_,rfl,.c (.d _)⟩,⟨_,rfl,.c (.d _)⟩,trivial⟩ ⟨trivial,trivial,trivial,trivial,trivial,trivial,trivial⟩ trivial rfl rfl rfl rfl) rfl ?_
 refine aM 0 [] (bP 0 (Cy 3 0 40) Gf rfl rfl ⟨⟨_,rfl,.c (.d _)⟩,⟨_,rfl,.c (.d _)⟩,⟨_,rfl,.c (.d _)⟩,trivial⟩ ⟨trivial,trivial,trivial,trivial,trivial,trivial,trivial⟩ trivial rfl rfl rfl rfl) rfl ?_
 refine aM 1 [0] (dv (ys:=[(0,(.g [(cI 0),(cI 1),(cI 0),(cI 0),(cI 0),(cI 100)])),(1,(.g [(cI 0),(cI 2),(cI 0),(cI 0),(cI 0),(cI 60)])),(2,(.g [(cI 0),(cI 3),(cI 0),(cI 0),(cI 3),(cI 40)]))]) (rows:=([(⟨0,1,0,0,0,100⟩:aV),(⟨0,2,0,0,0,60⟩:aV),(⟨0,3,0,0,3,40⟩:aV)]).map cP) 0 lY rfl (by decide) ⟨⟨rfl,rfl⟩,⟨rfl,rfl⟩,⟨rfl,rfl⟩,trivial⟩ rfl rfl rfl rfl) rfl ?_
 have hr0:iT ([(⟨0,1,0,0,0,100⟩:aV),(⟨0,2,0,0,0,60⟩:aV),(⟨0,3,0,0,3,40⟩:aV)])=(iT ([(⟨0,1,0,0,0,100⟩:aV),(⟨0,2,0,0,0,60⟩:aV),(⟨0,3,0,0,3,40⟩:aV)])):=rfl
 refine aM 2 [1] (cE id (aX [1]) (Ea ([(⟨0,1,0,0,0,100⟩:aV),(⟨0,2,0,0,0,60⟩:aV),(⟨0,3,0,0,3,40⟩:aV)]) 3 (by first|omega|(simp;done)|(simp;omega)) (by first|omega|(simp;done)|(simp;omega)) (iT ([(⟨0,1,0,0,0,100⟩:aV),(⟨0,2,0,0,0,60⟩:aV),(⟨0,3,0,0,3,40⟩:aV)])) hr0) Gg rfl rfl ⟨⟨_,rfl,.inl ⟨rfl,rfl⟩⟩,trivial⟩ ⟨rfl,trivial⟩ rfl rfl rfl rfl rfl rfl trivial ⟨(fun _ _ _ _=>trivial),trivial⟩ rfl rfl rfl rfl) rfl ?_
 refine lP (s':=[(0,(aB false)),(5,(aG [(cR 3 (([(⟨1000,30,1000000000000⟩:dg),(⟨1000,30,1000000000000⟩:dg)]).map fR)),(cI 2),(cI 0)])),(6,(aG [(cI 0),(cI 1),(cI 0),(cI 0),(cI 0),(cI 100)])),(7,(aG [(cI 0),(cI 2),(cI 0),(cI 0),(cI 0),(cI 60)])),(8,(aG [(cI 0),(cI 3),(cI 0),(cI 0),(cI 3),(cI 40)])),(10,(aC (pf (iT ([(⟨0,1,0,0,0,100⟩:aV),(⟨0,2,0,0,0,60⟩:aV),(⟨0,3,0,0,3,40⟩:aV)])))))]) (h':=[]) 1 rfl ⟨⟨_,rfl,.inl ⟨rfl,rfl⟩⟩,⟨_,rfl,.inl ⟨rfl,rfl⟩⟩,⟨_,rfl,.inl ⟨rfl,rfl⟩⟩,⟨_,rfl,.inl ⟨rfl,rfl⟩⟩,⟨_,rfl,.inl ⟨rfl,rfl⟩⟩,⟨_,rfl,.inr ⟨_,_,rfl,rfl,.s rfl (by decide) (by first|omega|(simp;done)|(simp;omega))⟩⟩,trivial⟩ trivial rfl ?_
 have hr1:gX (⟨[(⟨1000,30,1000000000000⟩:dg),(⟨1000,30,1000000000000⟩:dg)],2,0⟩:Setup) (iT ([(⟨0,1,0,0,0,100⟩:aV),(⟨0,2,0,0,0,60⟩:aV),(⟨0,3,0,0,3,40⟩:aV)]))=((⟨0,false,[⟨60,0,⟨1000,30,1000000000000⟩,[⟨0,60⟩]⟩,⟨0,0,⟨1000,30,1000000000000⟩,[]⟩],[40,0],[⟨0,0,60,40,0,0,100,true⟩],⟨1,[]⟩,⟨0,[]⟩,0,1,[],[],⟨0,[0,0],[]⟩,[⟨0,0,3,40⟩],[⟨0,-100⟩,⟨10,60⟩,⟨50,40⟩]⟩:Bk),[],(gX (⟨[(⟨1000,30,1000000000000⟩:dg),(⟨1000,30,1000000000000⟩:dg)],2,0⟩:Setup) (iT ([(⟨0,1,0,0,0,100⟩:aV),(⟨0,2,0,0,0,60⟩:aV),(⟨0,3,0,0,3,40⟩:aV)]))).2.2.1,(⟨0,0⟩:cX)):=by kernel_rfl
 refine aM 2 [] (bP 2 (Fn.frozen (av':=(.t [(.g [(cI 0),(cB false),(CG ([⟨60,0,⟨1000,30,1000000000000⟩,[⟨0,60⟩]⟩,⟨0,0,⟨1000,30,1000000000000⟩,[]⟩])),(gn ([40,0])),(yl ([⟨0,0,60,40,0,0,100,true⟩])),(cI 1),(de ([])),(cI 0),(de ([])),(cI 0),(cI 1),(ej ([])),(ej ([])),(cI 0),(gn ([0,0])),(gI ([])),(iJ ([⟨0,0,3,40⟩])),(CF ([])),(dP ([⟨0,-100⟩,⟨10,60⟩,⟨50,40⟩]))]),(.c (BB ((gX (⟨[(⟨1000,30,1000000000000⟩:dg),(⟨1000,30,1000000000000⟩:dg)],2,0⟩:Setup) (iT ([(⟨0,1,0,0,0,100⟩:aV),(⟨0,2,0,0,0,60⟩:aV),(⟨0,3,0,0,3,40⟩:aV)]))).2.2.1))),(.g [(cI 0),(cI 0)])])) (zH (⟨[(⟨1000,30,1000000000000⟩:dg),(⟨1000,30,1000000000000⟩:dg)],2,0⟩:Setup) (iT ([(⟨0,1,0,0,0,100⟩:aV),(⟨0,2,0,0,0,60⟩:aV),(⟨0,3,0,0,3,40⟩:aV)])) (⟨0,false,[⟨60,0,⟨1000,30,1000000000000⟩,[⟨0,60⟩]⟩,⟨0,0,⟨1000,30,1000000000000⟩,[]⟩],[40,0],[⟨0,0,60,40,0,0,100,true⟩],⟨1,[]⟩,⟨0,[]⟩,0,1,[],[],⟨0,[0,0],[]⟩,[⟨0,0,3,40⟩],[⟨0,-100⟩,⟨10,60⟩,⟨50,40⟩]⟩:Bk) ([]) ((gX (⟨[(⟨1000,30,1000000000000⟩:dg),(⟨1000,30,1000000000000⟩:dg)],2,0⟩:Setup) (iT ([(⟨0,1,0,0,0,100⟩:aV),(⟨0,2,0,0,0,60⟩:aV),(⟨0,3,0,0,3,40⟩:aV)]))).2.2.1) (⟨0,0⟩:cX) hr1) ⟨⟨.inl ⟨_,rfl,rfl⟩,.inl ⟨_,rfl,rfl⟩,.inr ⟨_,_,_,_,_,rfl,rfl,rfl,by simp⟩,.inr ⟨_,_,_,_,_,rfl,rfl,rfl,by simp⟩,.inr ⟨_,_,_,_,_,rfl,rfl,rfl,by simp⟩,.inl ⟨_,rfl,rfl⟩,.inl ⟨_,rfl,rfl⟩,.inl ⟨_,rfl,rfl⟩,.inl ⟨_,rfl,rfl⟩,.inl ⟨_,rfl,rfl⟩,.inl ⟨_,rfl,rfl⟩,.inl ⟨_,rfl,rfl⟩,.inl ⟨_,rfl,rfl⟩,.inl ⟨_,rfl,rfl⟩,.inl ⟨_,rfl,rfl⟩,.inl ⟨_,rfl,rfl⟩,.inr ⟨_,_,_,_,_,rfl,rfl,rfl,by simp⟩,.inr ⟨_,_,_,_,_,rfl,rfl,rfl,by simp⟩,.inl ⟨_,rfl,rfl⟩,trivial⟩,.inr ⟨_,_,_,_,_,rfl,rfl,rfl,by simp⟩,⟨.inl ⟨_,rfl,rfl⟩,.inl ⟨_,rfl,rfl⟩,trivial⟩,trivial⟩) DR rfl rfl ⟨⟨_,rfl,.g ⟨.d _,.d _,.d _,trivial⟩⟩,⟨_,rfl,.c (.d _)⟩,trivial⟩ ⟨⟨trivial,trivial,trivial,trivial,trivial,trivial,trivial,trivial,trivial,trivial,trivial,trivial,trivial,trivial,trivial,trivial,trivial,trivial,trivial,trivial⟩,trivial,⟨trivial,trivial,trivial⟩,trivial⟩ trivial rfl rfl rfl rfl) rfl ?_
 refine ab aa 9 rfl ?_
 refine ae ?_
 refine aE aa 2 rfl ?_
 refine ay (aK rfl rfl rfl (show _=some (Value.bool true) from rfl)) rfl ?_
 refine ab aa 3 rfl ?_
 refine dD (ah.yes rfl rfl rfl) (cY rfl rfl rfl rfl rfl Try.underlying29) rfl rfl ?_
 refine dD (ah.yes rfl rfl rfl) (aK rfl rfl rfl (show _=some (Value.bool true) from rfl)) rfl rfl ?_
 refine ab aa 4 rfl ?_
 refine dD (ah.yes rfl rfl rfl) (cY rfl rfl rfl rfl rfl Try.underlying30) rfl rfl ?_
 refine dD (ah.yes rfl rfl rfl) (aK rfl rfl rfl (show _=some (Value.bool true) from rfl)) rfl rfl ?_
 refine ab aa 4 rfl ?_
 refine dD (ah.yes rfl rfl rfl) (cS (i:=0) rfl rfl rfl Try.underlying29 iH (by first|omega|(simp;done)|(simp;omega)) (bu (show ([⟨60,0,⟨1000,30,1000000000000⟩,[⟨0,60⟩]⟩,⟨0,0,⟨1000,30,1000000000000⟩,[]⟩]:List bD)[0]?=some (⟨60,0,⟨1000,30,1000000000000⟩,[⟨0,60⟩]⟩:bD) from rfl))) rfl rfl ?_
 refine ab aa 2 rfl ?_
 refine dD (ah.yes rfl rfl rfl) (aK rfl rfl rfl (show _=some (Value.bool true) from rfl)) rfl rfl ?_
 refine ab aa 4 rfl ?_
 refine dD (ah.yes rfl rfl rfl) (cS (i:=0) rfl rfl rfl Try.underlying29 iH (by first|omega|(simp;done)|(simp;omega)) (bu (show ([⟨60,0,⟨1000,30,1000000000000⟩,[⟨0,60⟩]⟩,⟨0,0,⟨1000,30,1000000000000⟩,[]⟩]:List bD)[0]?=some (⟨60,0,⟨1000,30,1000000000000⟩,[⟨0,60⟩]⟩:bD) from rfl))) rfl rfl ?_
 refine ab aa 2 rfl ?_
 refine dD (ah.yes rfl rfl rfl) (aK rfl rfl rfl (show _=some (Value.bool true) from rfl)) rfl rfl ?_
 refine ab aa 4 rfl ?_
 refine dD (ah.yes rfl rfl rfl) (cS (i:=0) rfl rfl rfl Try.underlying30 fX (by first|omega|(simp;done)|(simp;omega)) (bu (show ([40,0]:List Int)[0]?=some 40 from rfl))) rfl rfl ?_
 refine ab aa 1 rfl ?_
 refine dD (ah.yes rfl rfl rfl) (aK rfl rfl rfl (show _=some (Value.bool true) from rfl)) rfl rfl ?_
 refine ab aa 2 rfl ?_
 refine ae ?_
 refine ax ?_
 refine al aa [] 0 rfl rfl rfl rfl rfl rfl ?_ ?_
 all_goals first|rfl|(simp [ar,aU,bb];done)|(simp [ar,aU,bb];omega)
def ka (l:List bD):Prop:=∀ c∈l,0<=c.bx - c.held
theorem pk {l:List bD} {e k h m:Int} (hl:ka l) (hc:∀ c,l[k.toNat]?=some c->h - m<=c.bx - c.held):ka (cz l e k h m).1:=by
 unfold cz
 split
 ·exact hl
 ·rename_i c hk
  split
  ·rename_i h0
   intro z hz
   rcases fT hz with hz|rfl
   ·exact hl z hz
   ·have he:=(fB h0).2
    rcases pR (show dQ c h m=((dQ c h m).1,(dQ c h m).2) from rfl) with ⟨h1,_⟩|h1
    ·exact absurd he h1
    ·have h2:=h1.2.2.2.2.2.2.1
     have h3:=hc c hk
     rw [h2];dsimp only;omega
  ·exact hl
theorem iL {l:List bD} {e k h m:Int} (hl:ka l) (hm:h<=m):ka (cz l e k h m).1:=pk hl fun c hc=>by have:=hl c (List.mem_of_getElem? hc);omega
theorem zd {a:bB} {t:Int} (h:bG a=0):bK (dU a t) - bK a<=0:=by
 have:=eI h
 unfold bK dU
 cases hs:a.shut<;>cases ht:decide (a.cQ<=t)<;>simp<;>omega
theorem qT {time:Int}:∀ (l:List bB) (i:Nat) (ao:List bD) (aq:List bB) (e:Int),(∀ a∈l,bG a=0)->ka ao->ka (fk time l i ao aq e).1
 |[],_,_,_,_,_,h=>h
 |a::l,i,ao,aq,e,hw,h=>qT l (i+1) _ _ _ (fun x hx=>hw x (List.mem_cons_of_mem _ hx)) (iL h (zd (hw a List.mem_cons_self)))
theorem qU {time:Int} {n:Int}:∀ (l:List bB) (i:Nat) (ao:List bD) (aq:List bB) (e:Int),(∀ a∈l,a.bm=n)->(∀ a∈aq,a.bm=n)->∀ a∈(fk time l i ao aq e).2.1,a.bm=n
 |[],_,_,_,_,_,h=>h
 |a::l,i,ao,aq,e,hl,h=>qU l (i+1) _ _ _ (fun x hx=>hl x (List.mem_cons_of_mem _ hx)) fun x hx=>by
  rcases fT hx with hx|rfl
  ·exact h x hx
  ·exact hl a List.mem_cons_self
structure eM (b:Bk):Prop where
 ok:cj b
 up:b.down=false
 hZ:∀ a∈b.aq,a.bm=0
 free:ka b.ao
 k0:∀ t∈b.s0.kept,0<=t.sum
 k1:∀ t∈b.s1.kept,0<=t.sum
 p0:∀ p∈b.w0,0<=p.cu.sum
 p1:∀ p∈b.w1,0<=p.cu.sum
theorem eM.dt {b c:Bk} {e:Int} (h:eM b) (hc:e=0->eM c):eM (dt b c e).1:=by
 unfold Dev.dt;split
 ·exact hc (by assumption)
 ·exact h
theorem eM.late {b:Bk} (h:eM b):eM (gk b):=by
 have hok:=h.ok.late
 unfold gk at hok ⊢
 split
 ·rename_i h0
  rw [if_pos h0] at hok
  exact ⟨hok,h.up,qU _ _ _ _ _ h.hZ h.hZ,qT _ _ _ _ _ (fun a ha=>(h.ok.perm a ha).1) h.free,h.k0,h.k1,h.p0,h.p1⟩
 ·exact h
theorem eM.start {s:Setup} (h:(ea s).err=0):eM (fC s):=
 ⟨cj.start h,rfl,fun a ha=>(by cases ha),fun c hc=>(by
  obtain ⟨p,_,rfl⟩:=List.mem_map.1 (show c∈s.da.map kN from hc)
  exact Int.le_refl _),fun a ha=>(by cases ha),fun a ha=>(by cases ha),fun a ha=>(by cases ha),fun a ha=>(by cases ha)⟩
theorem yd {c:bD} {n t:Int} (h:(dx c n t).2=0):0<=(dx c n t).1.bx - (dx c n t).1.held:=by
 rcases qo (show dx c n t=((dx c n t).1,(dx c n t).2) from rfl) with ⟨h5,_⟩|⟨h5,h6,h7,h8,h9,h10,h11,l,h12,h13⟩
 ·exact absurd h h5
 ·rw [h13];dsimp only;omega
theorem eM.asks {b:Bk} (h:eM b) (d:aV):eM (du b d).1:=by
 have hok:=h.ok.asks d
 unfold du at hok ⊢
 rw [h.up] at hok ⊢
 simp only [Bool.false_eq_true,if_false] at hok ⊢
 split
 ·exact h
 rename_i c1
 rw [if_neg c1] at hok
 split
 ·exact h
 rename_i c2
 rw [if_neg c2] at hok
 split
 ·exact h
 rename_i c3
 rw [if_neg c3] at hok
 obtain ⟨_,w2,_⟩:=oa (show (cV d.n d.az d.sum b.time).2=0 by omega)
 split
 ·exact h
 rename_i c hc
 rw [hc] at hok
 dsimp only at hok
 split
 ·exact h
 rename_i c4
 rw [if_neg c4] at hok
 refine ⟨hok,rfl,fun a ha=>?_,fun z hz=>?_,h.k0,h.k1,h.p0,h.p1⟩
 ·rcases List.mem_append.1 ha with ha|ha
  ·exact h.hZ a ha
  ·obtain rfl:=List.mem_singleton.1 ha;rw [w2]
 ·rcases fT hz with hz|rfl
  ·exact h.free z hz
  ·exact yd (by omega)
theorem xx {a b:bB} {k n:Int} (hw:bG a=0) (h1:1<=n) (hm:jE a k n b):(k=1->bK b - bK a=n)/\(k=2\/k=3->bK b - bK a<=0 - n)/\(k=4->bK b - bK a<=0)/\(k=6\/b.bm<=a.bm):=by
 have hr:=eI hw
 cases hm with
 |more h hs hn=>subst h;unfold bK;rw [hs];simp;omega
 |take h hs hn=>
  unfold bK;rw [hs];dsimp only
  refine ⟨fun h=>by omega,fun _=>?_,fun h=>by omega,.inr (Int.le_refl _)⟩
  split<;>simp at *<;>omega
 |less h hs hn=>
  subst h;unfold bK;rw [hs];dsimp only
  refine ⟨fun h=>by omega,fun h=>by omega,fun _=>?_,.inr (Int.le_refl _)⟩
  split<;>simp at *<;>omega
 |uv h hn=>subst h;exact ⟨fun h=>by omega,fun h=>by omega,fun h=>by omega,.inr (Int.le_refl _)⟩
 |rZ h hn=>subst h;exact ⟨fun h=>by omega,fun h=>by omega,fun h=>by omega,.inl rfl⟩
 |rW h hn=>subst h;exact ⟨fun h=>by omega,fun h=>by omega,fun h=>by omega,.inr (by dsimp only;omega)⟩
 |rV h hn=>subst h;exact ⟨fun h=>by omega,fun h=>by omega,fun h=>by omega,.inr (by dsimp only;omega)⟩
theorem xw {a b:bB} {k n:Int} (hm:jE a k n b) (h1:1<=n) (hk:k=7\/k=8):1<=a.bm:=by
 cases hm<;>omega
theorem nS {s:bV} {e:Int} {t:bj} (h:∀ t∈s.kept,0<=t.sum) (ht:0<=t.sum):∀ u∈(eA s e t).1.kept,0<=u.sum:=by
 unfold eA
 split
 ·rename_i h0
  have he:=(fB h0).2
  unfold gf at he
  split at he
  ·rename_i h1;exact absurd he h1
  split at he
  ·rename_i h1;exact absurd he h1
  ·rename_i h1 h2
   have hp:(gf s t).1=la s t:=by unfold gf;rw [if_neg h1,if_neg h2]
   dsimp only
   rw [hp]
   intro u hu
   rcases List.mem_append.1 hu with hu|hu
   ·exact h u hu
   ·obtain rfl:=List.mem_singleton.1 hu;exact ht
 ·exact h
theorem eM.ll {b:Bk} (h:eM b) (d:aV) (hd:¬d.move=6):eM (dN b d).1:=by
 have hok:=h.ok.ll d
 unfold dN at hok ⊢
 rw [h.up] at hok ⊢
 simp only [Bool.false_eq_true,if_false] at hok ⊢
 split
 ·exact h
 rename_i c1
 rw [if_neg c1] at hok
 split
 ·exact h
 rename_i cx ho
 rw [ho] at hok
 dsimp only at hok
 split
 ·exact h
 rename_i c2
 rw [if_neg c2] at hok
 split
 ·exact h
 rename_i c3
 rw [if_neg c3] at hok
 have hmv:ck cx d.move d.sum=((ck cx d.move d.sum).1,0):=Prod.ext rfl (by dsimp only;omega)
 generalize (ck cx d.move d.sum).1=a at *
 rcases pY hmv with ⟨h4,_⟩|⟨_,hw,hn1,hn2,hm⟩
 ·exact absurd rfl h4
 have hold:=h.hZ cx (List.mem_of_getElem? ho)
 have hr:=eI hw
 obtain ⟨m1,m2,m3,m4⟩:=xx hw hn1 hm
 have hcard:a.aL=cx.aL:=(pw hmv).2.1
 have hra:=eI (pw hmv).1
 unfold oX at hok ⊢
 have hcards:ka (dT b a cx d).1:=by
  unfold dT
  split
  ·rename_i hk
   rcases hk with hk|hk
   ·refine pk h.free fun c hc=>?_
    have hf:¬d.sum > km b.ao a.aL:=fun hf=>c3 ⟨hk,hf⟩
    unfold km at hf;rw [hc] at hf;dsimp only at hf
    have:=m1 hk;omega
   ·exact iL h.free (m3 hk)
  split
  ·rename_i hk;exact iL h.free (m2 hk)
  split
  ·exact h.free
  split
  ·exact h.free
  split
  ·rename_i hk;have:=xw hm hn1 (.inr hk);omega
  ·exact h.free
 unfold Dev.dt at hok ⊢
 split
 ·rename_i h0
  rw [if_pos h0] at hok
  have hks:(∀ t∈(dT b a cx d).2.2.2.1.kept,0<=t.sum)/\∀ t∈(dT b a cx d).2.2.2.2.1.kept,0<=t.sum:=by
   unfold dT
   split
   ·exact ⟨h.k0,h.k1⟩
   split
   ·exact ⟨nS h.k0 (by dsimp only;omega),h.k1⟩
   split
   ·exact ⟨h.k0,nS h.k1 (by dsimp only;omega)⟩
   split
   ·exact ⟨nS h.k0 (by dsimp only;omega),h.k1⟩
   split
   ·exact ⟨h.k0,h.k1⟩
   ·exact ⟨h.k0,h.k1⟩
  refine ⟨hok,h.up,fun x hx=>?_,hcards,hks.1,hks.2,h.p0,h.p1⟩
  rcases fT hx with hx|rfl
  ·exact h.hZ x hx
  ·rcases m4 with h6|h6
   ·exact absurd h6 hd
   ·omega
 ·exact h
theorem qB {aq:List bB} {due:List Int} {ao:List bD} {book:List Entry} {e:Int} {t:bj} (h:ka ao) (ht:0<=t.sum):ka (ez aq due ao book e t).2.1:=by
 unfold ez
 split
 ·exact h
 split
 ·exact h
 split
 ·exact iL h ht
 split
 ·exact h
 ·exact h
theorem eM.load {b:Bk} (h:eM b) (d:aV):eM (ft b d).1:=by
 have hok:=h.ok.load d
 unfold ft at hok ⊢
 split
 ·exact h
 rename_i c1
 rw [if_neg c1] at hok
 split
 ·exact h
 rename_i c2
 rw [if_neg c2] at hok
 unfold Dev.dt at hok ⊢
 split
 ·rename_i h0;rw [if_pos h0] at hok;exact ⟨hok,h.up,h.hZ,iL h.free (by omega),h.k0,h.k1,h.p0,h.p1⟩
 ·exact h
theorem eM.uz {b:Bk} (h:eM b) (d:aV):eM (gL b d).1:=by
 have hok:=h.ok.uz d
 unfold gL at hok ⊢
 split
 ·exact h
 rename_i c1
 rw [if_neg c1] at hok
 split
 ·exact h
 rename_i c2
 rw [if_neg c2] at hok
 unfold Dev.dt at hok ⊢
 split
 ·rename_i h0;rw [if_pos h0] at hok;exact ⟨hok,h.up,h.hZ,h.free,h.k0,h.k1,h.p0,h.p1⟩
 ·exact h
theorem eM.aO {b:Bk} (h:eM b) (d:aV):eM (eT b d).1:=by
 unfold eT
 split
 ·exact h
 ·rw [h.up]
  simp only [Bool.false_eq_true,if_false]
  have h1:eM {b with time:=b.time+d.sum}:=⟨h.ok.tick (by have:=h.ok.time;omega) (by have:=h.ok.time;omega),h.up,h.hZ,h.free,h.k0,h.k1,h.p0,h.p1⟩
  have h2:=h1.late
  rwa [show ({b with time:=b.time+d.sum}:Bk)={b with time:=b.time+d.sum,down:=false} by rw [<-h.up]] at h2
theorem sE {w:List cc} {ks:List bj} {n:Int} (h:∀ p∈w,0<=p.cu.sum) (hk:∀ t∈ks,0<=t.sum):∀ p∈(jo w ks n).1,0<=p.cu.sum:=by
 unfold jo
 split
 ·exact h
 ·intro p hp
  rcases sL hp with hp|⟨t,ht,rfl⟩|rfl
  ·exact h p hp
  ·exact hk t ht
  ·exact Int.le_refl _
theorem eM.send {b:Bk} (h:eM b) (d:aV):eM {b with w0:=(eK b.s0 b.s1 b.n0 b.n1 b.w0 b.w1 d).1,w1:=(eK b.s0 b.s1 b.n0 b.n1 b.w0 b.w1 d).2.1}:=by
 refine ⟨h.ok.send d,h.up,h.hZ,h.free,h.k0,h.k1,?_,?_⟩
 ·dsimp only;unfold eK
  split
  ·exact h.p0
  split
  ·exact sE h.p0 h.k1
  ·exact h.p0
 ·dsimp only;unfold eK
  split
  ·exact sE h.p1 h.k0
  split
  ·exact h.p1
  ·exact h.p1
theorem tp {s:bV} {n:Int} (h:∀ t∈s.kept,0<=t.sum) (hb:(dW s n).2=0):∀ t∈(dW s n).1.kept,0<=t.sum:=by
 rcases oZ (show dW s n=((dW s n).1,(dW s n).2) from rfl) with ⟨h1,_⟩|⟨_,_,_,_,h2⟩
 ·exact absurd hb h1
 ·rw [h2];exact fun t ht=>h t (sT ht)
theorem eM.ln {b:Bk} (h:eM b) (d:aV):eM (cr b d).1:=by
 have hok:=h.ok.ln d
 unfold cr at hok ⊢
 split
 ·rename_i c0
  rw [if_pos c0] at hok
  unfold fJ at hok ⊢
  split
  ·exact h
  rename_i p hp
  rw [hp] at hok
  dsimp only at hok
  have hps:=h.p0 p (List.mem_of_getElem? hp)
  have hd:∀ p∈b.w0.drop 1,0<=p.cu.sum:=fun p hp=>h.p0 p (List.mem_of_mem_drop hp)
  split
  ·rename_i c1;rw [if_pos c1] at hok;exact ⟨hok,h.up,h.hZ,h.free,h.k0,h.k1,hd,h.p1⟩
  rename_i c1
  rw [if_neg c1] at hok
  split
  ·rename_i c2
   rw [if_pos c2] at hok
   split
   ·rename_i c3;rw [if_pos c3] at hok;exact ⟨hok,h.up,h.hZ,h.free,tp h.k0 c3,h.k1,hd,h.p1⟩
   ·exact h
  rename_i c2
  rw [if_neg c2] at hok
  split
  ·rename_i c3
   rw [if_pos c3] at hok
   unfold Dev.dt at hok ⊢
   split
   ·rename_i c4;rw [if_pos c4] at hok;exact ⟨hok,h.up,h.hZ,qB h.free hps,h.k0,h.k1,hd,h.p1⟩
   ·exact h
  ·rename_i c3;rw [if_neg c3] at hok;exact ⟨hok,h.up,h.hZ,h.free,h.k0,h.k1,hd,h.p1⟩
 rename_i c0
 rw [if_neg c0] at hok
 split
 ·rename_i c01
  rw [if_pos c01] at hok
  unfold fI at hok ⊢
  split
  ·exact h
  rename_i p hp
  rw [hp] at hok
  dsimp only at hok
  have hps:=h.p1 p (List.mem_of_getElem? hp)
  have hd:∀ p∈b.w1.drop 1,0<=p.cu.sum:=fun p hp=>h.p1 p (List.mem_of_mem_drop hp)
  split
  ·rename_i c1;rw [if_pos c1] at hok;exact ⟨hok,h.up,h.hZ,h.free,h.k0,h.k1,h.p0,hd⟩
  rename_i c1
  rw [if_neg c1] at hok
  split
  ·rename_i c2
   rw [if_pos c2] at hok
   split
   ·rename_i c3;rw [if_pos c3] at hok;exact ⟨hok,h.up,h.hZ,h.free,h.k0,tp h.k1 c3,h.p0,hd⟩
   ·exact h
  rename_i c2
  rw [if_neg c2] at hok
  split
  ·rename_i c3
   rw [if_pos c3] at hok
   unfold Dev.dt at hok ⊢
   split
   ·rename_i c4;rw [if_pos c4] at hok;exact ⟨hok,h.up,h.hZ,qB h.free hps,h.k0,h.k1,h.p0,hd⟩
   ·exact h
  ·rename_i c3;rw [if_neg c3] at hok;exact ⟨hok,h.up,h.hZ,h.free,h.k0,h.k1,h.p0,hd⟩
 ·exact h
theorem eM.AY {b:Bk} (h:eM b) (y:List (List Int)) (d:aV) (h8:¬d.kind=8) (h6:¬(d.kind=3/\d.move=6)):eM (dR b y d).1:=by
 unfold dR
 split
 ·exact h.load d
 split
 ·exact h.asks d
 split
 ·rename_i h3;exact h.ll d fun e=>h6 ⟨h3,e⟩
 split
 ·exact h.aO d
 split
 ·exact h.send d
 split
 ·exact h.ln d
 split
 ·have:(iK b).1=b:=by unfold iK;rw [if_pos h.up]
  rw [this];exact h
 split
 ·exact ⟨h.ok.pS (lE (y:=y) h.ok.aS).1,h.up,h.hZ,h.free,h.k0,h.k1,h.p0,h.p1⟩
 split
 ·exact h.uz d
 ·exact h
end Go.Proofs.Ytegepioggeggaaa.Dev
