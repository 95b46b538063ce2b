/- A part of the proof: BankUp, Bank12, Bank13, Play0, Play1, Law8, Sh35, Sh36. No condition. -/
import Derived.Test.YtegepioggeggaaaD12
import Derived.Test.YtegepioggeggaaaD13
set_option linter.unusedVariables false
set_option linter.unusedSimpArgs false
set_option maxHeartbeats 8000000
set_option maxRecDepth 100000
namespace Go.Proofs.Ytegepioggeggaaa.Dev
open Go.RowKit

theorem GR (x:Nat->Value) (hx:∀ i,(x i).oneCell'=true) (b:Bk) (ok:ct b) (b2:Bk) (a2:Answer) (hr:iv b=(b2,a2)):cJ Try.prog 68 [(.c (.p 0 0 0 0))] [(0,(.box 98 (aX b 1 2 3 4 (.d (.v (x 17))) (.d (.v (x 19)))))),(1,(dO b.aq)),(2,(dF b.due)),(3,(dR b.ax)),(4,(cP b.aR))] [0] (.v (.g [cI a2.err,cI a2.aZ])) [(0,(.box 98 (aX b2 1 2 3 4 (.d (.v (x 17))) (.d (.v (x 19)))))),(1,(dO b2.aq)),(2,(dF b2.due)),(3,(dR b2.ax)),(4,(cP b2.aR))]:=by
 refine cJ.mk 116 [(0,(aC (.p 0 0 0 0)))] 5 Try.func68 rfl rfl rfl rfl rfl rfl rfl rfl rfl ?_
 intro W0 F0 T0 pg
 obtain ⟨okt,okc,okd,oka,oky,okw0,okw1,okp,okv,okk0,okk1,okg,okl0,okl1,okp0,okp1,okn0,okn1,okq⟩:=id ok
 refine ae aa 1 rfl ?_
 refine ag ?_
 refine ae aa 6 rfl ?_
 refine aj rfl (fun hc1=>?_) (fun hc1=>?_)
 ·
  have hc1':=hc1;try simp only [bu,bR] at hc1'
  refine ae aa 2 rfl ?_
  refine ay ?_
  refine ar ?_
  have hX:iv b=(b,(⟨8,0⟩:Answer)):=by
    unfold iv;rw [if_pos (by cases hd:b.down<;>simp_all)]
  rw [hX] at hr;clear hX
  simp only [Prod.mk.injEq] at hr;obtain ⟨rfl,rfl⟩:=hr
  refine an aa [0,1,2,3,4,5] 5 rfl rfl rfl rfl rfl rfl ?_ ?_
  all_goals first|rfl|(simp [az,aX,bc];done)|(simp [az,aX,bc];omega)
 have hc1':=hc1;try simp only [bu,bR] at hc1'
 refine aP ?_
 refine aF aa 5 rfl ?_
 obtain ⟨xr0,l0,e0,hr0⟩:∃ (xr0:cA) (l0:List cg) (e0:Int),db b.ba=(xr0,l0,e0):=⟨_,_,_,rfl⟩
 refine aQ 6 [5,0,1,2,3,4] (bX 6 (Fn.frozen (av':=(.t [(.g [(cI xr0.cap),(dr xr0.used),(ei xr0.aT)]),(.c (ei l0)),(.c (cI e0))])) (tz b.ba xr0 l0 e0 hr0) ⟨⟨.inl ⟨_,rfl,rfl⟩,.inr ⟨_,_,_,_,_,rfl,rfl,rfl,by simp⟩,.inr ⟨_,_,_,_,_,rfl,rfl,rfl,by simp⟩,trivial⟩,.inr ⟨_,_,_,_,_,rfl,rfl,rfl,by simp⟩,.inl ⟨_,rfl,rfl⟩,trivial⟩) Gm rfl rfl ⟨⟨_,rfl,.g ⟨.d _,.d _,.d _,trivial⟩⟩,trivial⟩ ⟨⟨trivial,trivial,trivial,trivial⟩,trivial,trivial,trivial⟩ trivial rfl rfl rfl rfl) rfl ?_
 refine ad aa 8 rfl ?_
 refine af ?_
 refine ag ?_
 refine ae aa 2 rfl ?_
 refine aj rfl (fun hc2=>?_) (fun hc2=>?_)
 ·
  have hc2':=of_decide_eq_true hc2
  refine ae aa 3 rfl ?_
  refine ay ?_
  refine ar ?_
  have hX:iv b=(b,(⟨e0,0⟩:Answer)):=by
    unfold iv;rw [if_neg (by cases hd:b.down<;>simp_all),hr0];dsimp only;rw [if_pos (by omega)]
  rw [hX] at hr;clear hX
  simp only [Prod.mk.injEq] at hr;obtain ⟨rfl,rfl⟩:=hr
  refine an aa [0,1,2,3,4,5] 5 rfl rfl rfl rfl rfl rfl ?_ ?_
  all_goals first|rfl|(simp [az,aX,bc];done)|(simp [az,aX,bc];omega)
 have hc2':=of_decide_eq_false hc2
 refine aP ?_
 refine aF aa 1 rfl ?_
 refine aQ 16 [0,7,8,9,10,11,12,13,14,15,6,5] (cK id (bb [0,7,8,9,10,11,12,13,14,15]) (ke (x 17) (x 19) b (by first|omega|(simp;done)|(simp;omega)) (by first|omega|(simp;done)|(simp;omega)) (by first|omega|(simp;done)|(simp;omega)) (by first|omega|(simp;done)|(simp;omega))) qf rfl rfl ⟨⟨_,rfl,.inl ⟨rfl,rfl⟩⟩,trivial⟩ ⟨rfl,rfl,rfl,rfl,rfl,trivial⟩ rfl rfl rfl rfl rfl rfl trivial ⟨⟨trivial,trivial,trivial,trivial,trivial,trivial,trivial,trivial,trivial,trivial,trivial,trivial,trivial,trivial,trivial,trivial,trivial,trivial,trivial,trivial,trivial⟩,⟨trivial,trivial,trivial,trivial,trivial,trivial,trivial,trivial,trivial,trivial,trivial,trivial,trivial,trivial,trivial,trivial,trivial,trivial,trivial,trivial,trivial⟩,(fun _ _ _ _=>trivial),(fun _ _ _ _=>trivial),(fun _ _ _ _=>trivial),(fun _ _ _ _=>trivial),(fun _ _ _ _=>trivial),(fun _ _ _ _=>trivial),(fun _ _ _ _=>trivial),(fun _ _ _ _=>trivial),trivial⟩ rfl rfl rfl rfl) rfl ?_
 refine ad aa 1 rfl ?_
 refine af ?_
 refine ag ?_
 obtain rfl:e0=0:=by omega
 have hcl:l0=b.ba.aT:=by have h:=(qj (s:=b.ba) (by rw [hr0])).2.2;rw [hr0] at h;exact h
 refine aF aa 1 rfl ?_
 refine aA (bQ rfl rfl rfl rfl rfl Try.underlying39) rfl ?_
 refine ad aa 1 rfl ?_
 refine af ?_
 refine aU ?_
 refine cj (β:=Nat×List bI×List bH) (fun (p:Nat×List bI×List bH)=>match p with|(q,cs,xs)=>⟨[(0,(aC (.p 0 0 0 0))),(2,(aC (.p 5 0 0 0))),(3,(aC (.p 6 0 0 0))),(6,(aC (.p 7 0 0 0))),(36,(aC (ei l0))),(37,(aI (↑l0.length:Int))),(38,(aI (↑q:Int)))],[(0,(.box 98 (aX b 8 9 10 11 (.d (.v (x 17))) (.d (.v (x 19)))))),(7,(.box 147 (((aX b 12 13 14 15 (.d (.v (x 17))) (cI 0)).set 2 (.s 12 0 6 cs.length)).set 4 (.s 14 0 8 xs.length)))),(8,(dO b.aq)),(9,(dF b.due)),(10,(dR b.ax)),(11,(cP b.aR)),(12,(dO cs)),(13,(dF b.due)),(14,(dR xs)),(15,(cP b.aR)),(6,(.box 41 [(cI xr0.cap),(dr xr0.used),(ei xr0.aT)])),(5,(.box 65 [(cI 0),(cI 0)]))],16⟩) (fun (p:Nat×List bI×List bH)=>match p with|(q,cs,xs)=>q<=l0.length/\ga l0 b.aq b.ax=ga (l0.drop q) cs xs/\cs.length=b.aq.length/\xs.length=b.ax.length+q) (fun (p:Nat×List bI×List bH)=>match p with|(q,cs,xs)=>l0.length - q) (0,b.aq,b.ax) ?_ ?_ ?_
 ·exact ⟨by omega,rfl,rfl,rfl⟩
 ·exact aH.bS id (by refine ⟨?_,?_,?_,?_,?_,?_,?_,trivial⟩<;>first|rfl|(simp only [bh];done)|(congr 3;omega)|(congr 4;omega)|(simp only [bj];rfl)) (by refine ⟨?_,?_,?_,?_,?_,?_,?_,?_,?_,?_,?_,?_,trivial⟩<;>first|rfl|(simp only [bh];done)|(congr 3;omega)|(congr 4;omega)|(simp only [bj];rfl)) rfl
 rintro ⟨q,cs,xs⟩ ⟨hi0_0,hi0_1,hi0_2,hi0_3⟩
 have hll:b.ax.length+l0.length<=30:=by rw [hcl];exact oka
 refine ae aa 1 rfl ?_
 refine ag ?_
 refine aj rfl (fun hc3=>?_) (fun hc3=>?_)
 ·
  have hc3':=of_decide_eq_true hc3
  refine aP ?_
  refine ag ?_
  refine aU ?_
  refine fa ?_
  obtain ⟨x1,hx1⟩:=cb (xs:=l0) (i:=q) (by first|omega|(simp;done)|(simp;omega))
  have hx1A:=okv x1 (by rw [<-hcl];exact List.mem_of_getElem? hx1)
  refine aA (ca (i:=q) rfl rfl rfl Try.underlying39 tH (by first|omega|(simp;done)|(simp;omega)) (bf hx1)) rfl ?_
  refine ad aa 3 rfl ?_
  refine af ?_
  refine aF aa 8 rfl ?_
  obtain ⟨b1,e1,hr1⟩:∃ (b1:bH) (e1:Int),dm x1.aN x1.aD x1.sum x1.time=(b1,e1):=⟨_,_,rfl⟩
  refine aQ 17 [16,0,7,8,9,10,11,12,13,14,15,6,5] (bX 17 (ra x1.aN x1.aD x1.sum x1.time b1 e1 hr1) DZ rfl rfl ⟨⟨_,rfl,.c (.d _)⟩,⟨_,rfl,.c (.d _)⟩,⟨_,rfl,.c (.d _)⟩,⟨_,rfl,.c (.d _)⟩,trivial⟩ ⟨⟨trivial,trivial,trivial,trivial,trivial,trivial,trivial,trivial,trivial⟩,trivial,trivial⟩ trivial rfl rfl rfl rfl) rfl ?_
  refine ad aa 6 rfl ?_
  refine af ?_
  refine ag ?_
  refine aF aa 2 rfl ?_
  obtain ⟨e22,hr2⟩:∃ (e22:Int),dz 0 e1=e22:=⟨_,rfl⟩
  refine aQ 18 [7,17,16,0,8,9,10,11,12,13,14,15,6,5] (cq (bb [7]) (bb [7]) (ms:=(dw.set 19 (some (cI 0)))) (ms':=(dw.set 19 (some (cI e22)))) (fun x hx=>jJ x hx 0 e1 e22 hr2) nj rfl rfl ⟨⟨_,rfl,.inl ⟨rfl,rfl⟩⟩,⟨_,rfl,.inr (.c (.d _))⟩,trivial⟩ rfl rfl rfl rfl rfl rfl rfl trivial rfl rfl rfl rfl rfl rfl rfl rfl rfl rfl rfl rfl rfl) rfl ?_
  refine af ?_
  refine aj rfl (fun hc4=>?_) (fun hc4=>?_)
  ·
   have hc4':=of_decide_eq_true hc4
   refine bZ ?_
   refine aO ?_
   refine rh rfl ?_
   refine aO ?_
   refine aO ?_
   refine bF ?_
   refine then_ok ?_
   refine ae aa 11 rfl ?_
   refine ag ?_
   refine aF aa 2 rfl ?_
   refine aQ 22 [0,18,19,20,21,17,16,6,5] (cK (bb [0,7,8,9,10,11,12,13,14,15]) (bb [0,18,19,20,21]) (fS (x 17) (x 19) b (⟨b.time,false,cs,b.due,xs,b.s0,b.s1,b.n0,b.n1,b.w0,b.w1,xr0,b.aR,b.book⟩:Bk) e22 (by first|assumption|omega)) fC rfl rfl ⟨⟨_,rfl,.inl ⟨rfl,rfl⟩⟩,⟨_,rfl,.inl ⟨rfl,rfl⟩⟩,trivial⟩ ⟨rfl,rfl,rfl,rfl,rfl,rfl,rfl,rfl,rfl,rfl,trivial⟩ rfl rfl rfl rfl rfl rfl trivial ⟨⟨trivial,trivial,trivial,trivial,trivial,trivial,trivial,trivial,trivial,trivial,trivial,trivial,trivial,trivial,trivial,trivial,trivial,trivial,trivial,trivial,trivial⟩,(fun _ _ _ _=>trivial),(fun _ _ _ _=>trivial),(fun _ _ _ _=>trivial),(fun _ _ _ _=>trivial),trivial⟩ rfl rfl rfl rfl) rfl ?_
   refine ad aa 1 rfl ?_
   refine af ?_
   refine ae aa 2 rfl ?_
   refine aj rfl (fun _=>?_) (fun hno=>absurd (hc4.symm.trans hno) (by decide))
   refine ae aa 3 rfl ?_
   refine ay ?_
   refine ar ?_
   have hX:iv b=(b,(⟨e22,0⟩:Answer)):=by
     exact yB (by cases hd:b.down<;>simp_all) hr0 (hi0_1.trans (Ak hx1 hr1 hr2 (by omega))) (by omega)
   rw [hX] at hr;clear hX
   simp only [Prod.mk.injEq] at hr;obtain ⟨rfl,rfl⟩:=hr
   refine an aa [0,18,19,20,21,5] 5 rfl rfl rfl rfl rfl rfl ?_ ?_
   all_goals first|rfl|(simp [az,aX,bc];done)|(simp [az,aX,bc];omega)
  have hc4':=of_decide_eq_false hc4
  refine aP ?_
  obtain rfl:e22=0:=by omega
  refine ag ?_
  obtain ⟨x2,hx2⟩:=cb (xs:=cs) (i:=Int.toNat (x1.aN)) (by first|omega|(simp;done)|(simp;omega))
  obtain ⟨xr3,e3,hr3⟩:∃ (xr3:bI) (e3:Int),eN x2 x1.sum=(xr3,e3):=⟨_,_,rfl⟩
  refine dd [0,2,3,6,36,37,38,8,9] [7,17,16,0,8,9,10,11,12,13,14,15,6,5] mixed rfl rfl ?_
  refine bP (kn:=[]) aa 7 rfl trivial ?_
  refine bU (n':=18) [62,64] [12] rfl rfl (.inl ⟨(ah.plain rfl),aE.cast (bw (i:=Int.toNat (x1.aN)) rfl rfl rfl Try.underlying29 iq (by first|omega|(simp;done)|(simp;omega)) (by first|omega|(simp;done)|(simp;omega))) rfl⟩) rfl ?_
  refine bU (n':=18) [65] [12] rfl rfl (.inl ⟨(ah.plain rfl),aE.cast (di rfl rfl rfl Try.underlying61 rfl iq (bf hx2) rfl) rfl⟩) rfl ?_
  refine bP (kn:=[]) aa 2 rfl trivial ?_
  refine bU (n':=18) [66,68] [] rfl rfl (.inl ⟨(ah.plain rfl),aE.cast (bX 18 (Fn.frozen (av':=(.t [(.g [(cI xr3.bJ),(cI xr3.held),(cI xr3.bV.cD),(cI xr3.bV.count),(cI xr3.bV.sum),(eC xr3.cT)]),(.c (cI e3))])) (vn x2 x1.sum xr3 e3 hr3) ⟨⟨.inl ⟨_,rfl,rfl⟩,.inl ⟨_,rfl,rfl⟩,.inl ⟨_,rfl,rfl⟩,.inl ⟨_,rfl,rfl⟩,.inl ⟨_,rfl,rfl⟩,.inr ⟨_,_,_,_,_,rfl,rfl,rfl,by simp⟩,trivial⟩,.inl ⟨_,rfl,rfl⟩,trivial⟩) Gl rfl rfl ⟨⟨_,rfl,.g ⟨.d _,.d _,.d _,.d _,.d _,.d _,trivial⟩⟩,⟨_,rfl,.c (.d _)⟩,trivial⟩ ⟨⟨trivial,trivial,trivial,trivial,trivial,trivial,trivial⟩,trivial,trivial⟩ trivial rfl rfl rfl rfl) rfl⟩) rfl ?_
  refine bP (n':=19) (kn:=[]) aa 6 rfl trivial ?_
  refine dJ [0,2,3,6,36,37,38,8,9,11,10] [18,7,17,16,0,8,9,10,11,12,13,14,15,6,5] rfl rfl (by kernel_rfl) ?_
  refine then_ok ?_
  refine ag ?_
  refine aF aa 2 rfl ?_
  obtain ⟨e24,hr4⟩:∃ (e24:Int),dz 0 e3=e24:=⟨_,rfl⟩
  refine aQ 19 [7,18,17,16,0,8,9,10,11,12,13,14,15,6,5] (cq (bb [7]) (bb [7]) (ms:=(dw.set 19 (some (cI 0)))) (ms':=(dw.set 19 (some (cI e24)))) (fun x hx=>jJ x hx 0 e3 e24 hr4) nj rfl rfl ⟨⟨_,rfl,.inl ⟨rfl,rfl⟩⟩,⟨_,rfl,.inr (.c (.d _))⟩,trivial⟩ rfl rfl rfl rfl rfl rfl rfl trivial rfl rfl rfl rfl rfl rfl rfl rfl rfl rfl rfl rfl rfl) rfl ?_
  refine af ?_
  refine aj rfl (fun hc6=>?_) (fun hc6=>?_)
  ·
   have hc6':=of_decide_eq_true hc6
   refine bZ ?_
   refine aO ?_
   refine rh rfl ?_
   refine aO ?_
   refine aO ?_
   refine bF ?_
   refine then_ok ?_
   refine ae aa 11 rfl ?_
   refine ag ?_
   refine aF aa 2 rfl ?_
   refine aQ 23 [0,19,20,21,22,18,17,16,6,5] (cK (bb [0,7,8,9,10,11,12,13,14,15]) (bb [0,19,20,21,22]) (fS (x 17) (x 19) b (⟨b.time,false,cs,b.due,xs,b.s0,b.s1,b.n0,b.n1,b.w0,b.w1,xr0,b.aR,b.book⟩:Bk) e24 (by first|assumption|omega)) fC rfl rfl ⟨⟨_,rfl,.inl ⟨rfl,rfl⟩⟩,⟨_,rfl,.inl ⟨rfl,rfl⟩⟩,trivial⟩ ⟨rfl,rfl,rfl,rfl,rfl,rfl,rfl,rfl,rfl,rfl,trivial⟩ rfl rfl rfl rfl rfl rfl trivial ⟨⟨trivial,trivial,trivial,trivial,trivial,trivial,trivial,trivial,trivial,trivial,trivial,trivial,trivial,trivial,trivial,trivial,trivial,trivial,trivial,trivial,trivial⟩,(fun _ _ _ _=>trivial),(fun _ _ _ _=>trivial),(fun _ _ _ _=>trivial),(fun _ _ _ _=>trivial),trivial⟩ rfl rfl rfl rfl) rfl ?_
   refine ad aa 1 rfl ?_
   refine af ?_
   refine ae aa 2 rfl ?_
   refine aj rfl (fun _=>?_) (fun hno=>absurd (hc6.symm.trans hno) (by decide))
   refine ae aa 3 rfl ?_
   refine ay ?_
   refine ar ?_
   have hX:iv b=(b,(⟨e24,0⟩:Answer)):=by
     exact yB (by cases hd:b.down<;>simp_all) hr0 (hi0_1.trans (Aj hx1 hr1 hr2 hx2 hr3 hr4 (by omega))) (by omega)
   rw [hX] at hr;clear hX
   simp only [Prod.mk.injEq] at hr;obtain ⟨rfl,rfl⟩:=hr
   refine an aa [0,19,20,21,22,5] 5 rfl rfl rfl rfl rfl rfl ?_ ?_
   all_goals first|rfl|(simp [az,aX,bc];done)|(simp [az,aX,bc];omega)
  have hc6':=of_decide_eq_false hc6
  refine aP ?_
  obtain rfl:e24=0:=by omega
  refine ag ?_
  refine aW [0,2,3,6,36,37,38,8,9,11] [7,18,17,16,0,8,9,10,11,12,13,14,15,6,5] mixed rfl rfl ?_
  refine au (kn:=[]) aa 8 rfl trivial ?_
  refine aM (n':=19) [79,81] [12] rfl rfl (.inl ⟨(ah.plain rfl),aE.cast (bw (i:=Int.toNat (x1.aN)) rfl rfl rfl Try.underlying29 iq (by first|omega|(simp;done)|(simp;omega)) (by first|omega|(simp;done)|(simp;omega))) rfl⟩) rfl ?_
  refine br [7,18,17,16,0,8,9,10,11,12,13,14,15,6,5] rfl rfl rfl rfl (by kernel_rfl) ?_
  refine fZ [7,18,17,16,0,8,9,10,11,12,13,14,15,6,5] (dM (ds:=[(dI xr3.bJ),(dI xr3.held),(dI xr3.bV.cD),(dI xr3.bV.count),(dI xr3.bV.sum),(Em xr3.cT)]) rfl rfl rfl rfl rfl iq rfl (Nat.le_of_ble_eq_true rfl) (bf hx2) rfl (eK (x':=xr3) rfl)) rfl ?_
  refine af ?_
  refine fw (k:=7) (q:=2) (c':=(.s 12 0 6 (((cs).set (Int.toNat (x1.aN)) xr3).length))) rfl rfl (by first|rfl|(simp;done)|(congr 1;omega)) rfl ?_
  refine aW [0,2,3,6,36,37,38,9] [7,17,0,8,9,10,11,12,13,14,15,6,5] mixed rfl rfl ?_
  refine au (kn:=[]) aa 7 rfl trivial ?_
  refine aM (n':=20) [90] [] rfl rfl (.inl ⟨(ah.plain rfl),aE.cast (dW (ys:=[(0,(.g [(cI b1.aN),(cI b1.aD),(cI b1.sum),(cI b1.captured),(cI b1.bx),(cI b1.bn),(cI b1.cZ),(cB b1.shut)]))]) (rows:=([b1]).map iH) 19 ru rfl (by decide) ⟨⟨rfl,rfl⟩,trivial⟩ rfl rfl rfl rfl) rfl⟩) rfl ?_
  refine aM (n':=21) [89,91] [19,14] rfl rfl (.inl ⟨(ah.plain rfl),aE.cast (dx (m:=1) (N:=xs.length+1) (k2:=20) (ys:=([b1]).map iH) ru rfl rfl rfl rfl rfl rfl (by first|omega|(simp;done)|(simp;omega)) rfl (.s rfl (by first|omega|(simp;done)|(simp;omega))) (by first|omega|(simp;done)|(simp;omega)) (by first|omega|(simp;done)|(simp;omega)) fA (by decide) (by first|omega|(simp;done)|(simp;omega)) (by first|omega|(simp;done)|(simp;omega))) rfl⟩) rfl ?_
  refine au (kn:=[]) aa 3 rfl trivial ?_
  refine br [20,7,17,0,8,9,10,11,12,13,15,6,5] rfl rfl rfl rfl (by kernel_rfl) ?_
  refine ad aa 1 rfl ?_
  refine cf ?_
  refine bl ?_
  refine then_ok ?_
  refine fw (k:=7) (q:=4) (c':=(.s 20 0 8 ((xs++([b1])).length))) rfl rfl (by first|rfl|(simp;done)|(congr 1;omega)) rfl ?_
  refine aw ?_
  refine aA (aK rfl rfl rfl (aL (by first|omega|(simp;done)|(simp;omega)))) rfl ?_
  refine ad aa 1 rfl ?_
  refine af ?_
  refine ⟨(q+1,(cs).set (Int.toNat (x1.aN)) xr3,xs++([b1])),⟨by omega,by rw [hi0_1];exact Ai hx1 hr1 hr2 hx2 hr3 hr4,by rw [List.length_set];omega,by rw [List.length_append,List.length_singleton];omega⟩,by first|omega|(simp;done)|(simp;omega),aH.bS (fun k=>if k=14 then 20 else k) (by refine ⟨?_,?_,?_,?_,?_,?_,?_,trivial⟩<;>first|rfl|(simp only [bh];done)|(congr 3;omega)|(congr 4;omega)|(simp only [bj];rfl)) (by refine ⟨?_,?_,?_,?_,?_,?_,?_,?_,?_,?_,?_,?_,trivial⟩<;>first|rfl|(simp only [bh];done)|(congr 3;omega)|(congr 4;omega)|(simp only [bj];rfl)) rfl⟩
 have hc3':=of_decide_eq_false hc3
 refine bZ ?_
 refine aO ?_
 refine aO ?_
 refine bF ?_
 refine then_ok ?_
 refine ae aa 11 rfl ?_
 refine ag ?_
 refine aF aa 2 rfl ?_
 refine aQ 20 [0,16,17,18,19,6,5] (cK (bb [0,7,8,9,10,11,12,13,14,15]) (bb [0,16,17,18,19]) (fi (x 17) (x 19) b (⟨b.time,false,cs,b.due,xs,b.s0,b.s1,b.n0,b.n1,b.w0,b.w1,xr0,b.aR,b.book⟩:Bk) 0 (by first|assumption|omega)) fC rfl rfl ⟨⟨_,rfl,.inl ⟨rfl,rfl⟩⟩,⟨_,rfl,.inl ⟨rfl,rfl⟩⟩,trivial⟩ ⟨rfl,rfl,rfl,rfl,rfl,rfl,rfl,rfl,rfl,rfl,trivial⟩ rfl rfl rfl rfl rfl rfl trivial ⟨⟨trivial,trivial,trivial,trivial,trivial,trivial,trivial,trivial,trivial,trivial,trivial,trivial,trivial,trivial,trivial,trivial,trivial,trivial,trivial,trivial,trivial⟩,(fun _ _ _ _=>trivial),(fun _ _ _ _=>trivial),(fun _ _ _ _=>trivial),(fun _ _ _ _=>trivial),trivial⟩ rfl rfl rfl rfl) rfl ?_
 refine ad aa 1 rfl ?_
 refine af ?_
 refine aF aa 1 rfl ?_
 refine aA (aK rfl rfl rfl (show _=some (Value.bool false) from rfl)) rfl ?_
 refine af ?_
 refine aj rfl (fun hno=>by cases hno) (fun _=>?_)
 refine aP ?_
 have hL:=hi0_1;rw [Cl (by omega)] at hL
 have okU:=ok.EO hr0 hL
 refine aF aa 1 rfl ?_
 obtain ⟨b25,hr5⟩:∃ (b25:Bk),gQ (⟨b.time,false,cs,b.due,xs,b.s0,b.s1,b.n0,b.n1,b.w0,b.w1,xr0,b.aR,b.book⟩:Bk)=b25:=⟨_,rfl⟩
 refine aQ 24 [0,20,21,22,23,6,5] (cq (bb [0,16,17,18,19]) (bb [0,20,21,22,23]) (ms:=[some (cI b.time),some (cB false),some (.s 1 0 6 cs.length),some (.s 2 0 1 b.due.length),some (.s 3 0 8 xs.length),some (cI b.s0.bz),some (cw b.s0.kept),some (cI b.s1.bz),some (cw b.s1.kept),some (cI b.n0),some (cI b.n1),some (cW b.w0),some (cW b.w1),some (cI xr0.cap),some (dr xr0.used),some (ei xr0.aT),some (.s 4 0 4 b.aR.length),none,some (de b.book),none]) (ms':=(iQ b25 1 2 3 4 none none)) (fun x hx=>zN x hx (⟨b.time,false,cs,b.due,xs,b.s0,b.s1,b.n0,b.n1,b.w0,b.w1,xr0,b.aR,b.book⟩:Bk) (by first|assumption|exact ct.tick (by assumption) (by omega) (by omega)) b25 hr5) DY rfl rfl ⟨⟨_,rfl,.inl ⟨rfl,rfl⟩⟩,trivial⟩ rfl rfl rfl rfl rfl rfl rfl ⟨rfl,rfl,rfl,rfl,trivial⟩ rfl rfl rfl rfl rfl rfl rfl rfl rfl rfl rfl rfl rfl) rfl ?_
 refine af ?_
 refine ae aa 2 rfl ?_
 refine ay ?_
 have hX:iv b=(b25,(⟨0,0⟩:Answer)):=by
   rw [CX (by cases hd:b.down<;>simp_all) hr0 hL,hr5]
 rw [hX] at hr;clear hX
 simp only [Prod.mk.injEq] at hr;obtain ⟨rfl,rfl⟩:=hr
 refine an aa [0,20,21,22,23,5] 5 rfl rfl rfl rfl rfl rfl ?_ ?_
 all_goals first|rfl|(simp [az,aX,bc];done)|(simp [az,aX,bc];omega)

theorem GS (x:Nat->Value) (hx:∀ i,(x i).oneCell'=true) (b:Bk) (days:List (List Int)) (d:bB) (ok:ct b) (hy:days.length<=1000) (b2:Bk) (y2:List (List Int)) (a2:Answer) (hr:ff b days d=(b2,y2,a2)):cJ Try.prog 56 [(.c (.p 0 0 0 0)),(.c (.q (df d) 0))] [(0,(.box 98 (aX b 1 2 3 4 (.s 5 0 1 days.length) (.d (.v (x 19)))))),(1,(dO b.aq)),(2,(dF b.due)),(3,(dR b.ax)),(4,(cP b.aR)),(5,(pF days))] [0] (.v (.g [cI a2.err,cI a2.aZ])) [(0,(.box 98 (aX b2 1 2 3 4 (.s 5 0 1 y2.length) (.d (.v (x 19)))))),(1,(dO b2.aq)),(2,(dF b2.due)),(3,(dR b2.ax)),(4,(cP b2.aR)),(5,(pF y2))]:=by
 refine cJ.mk 67 [(0,(aC (.p 0 0 0 0))),(1,(aC (.q (df d) 0)))] 6 Try.func56 rfl rfl rfl rfl rfl rfl rfl rfl rfl ?_
 intro W0 F0 T0 pg
 obtain ⟨okt,okc,okd,oka,oky,okw0,okw1,okp,okv,okk0,okk1,okg,okl0,okl1,okp0,okp1,okn0,okn1,okq⟩:=id ok
 refine ae aa 1 rfl ?_
 refine ag ?_
 refine ae aa 4 rfl ?_
 refine aU ?_
 refine ae aa 2 rfl ?_
 refine aj rfl (fun hc1=>?_) (fun hc1=>?_)
 ·
  have hc1':=of_decide_eq_true hc1
  refine aF aa 2 rfl ?_
  obtain ⟨b20,a20,hr0⟩:∃ (b20:Bk) (a20:Answer),fr b d=(b20,a20):=⟨_,_,rfl⟩
  refine aQ 11 [0,7,8,9,10,6,5] (cq id (bb [0,7,8,9,10]) (ms:=(iQ b 1 2 3 4 none none)) (ms':=(iQ b20 1 2 3 4 none none)) (fun x hx=>Ex x hx b d (by first|assumption|exact ct.tick (by assumption) (by omega) (by omega)) b20 a20 hr0) Gz rfl rfl ⟨⟨_,rfl,.inl ⟨rfl,rfl⟩⟩,⟨_,rfl,.inl ⟨rfl,rfl⟩⟩,trivial⟩ rfl rfl rfl rfl rfl rfl rfl ⟨rfl,rfl,rfl,rfl,trivial⟩ rfl rfl rfl rfl rfl rfl rfl rfl rfl rfl rfl rfl rfl) rfl ?_
  refine ad aa 1 rfl ?_
  refine af ?_
  refine ay ?_
  refine bo ?_
  refine ar ?_
  have hX:ff b days d=(b20,days,a20):=by
    unfold ff;(repeat' (first|rw [if_pos (by omega)]|rw [if_neg (by omega)]|fail))<;>first|rfl|(simp only [hr0];done)|(simp only [hr0];rfl)|(simp_all;done)
  rw [hX] at hr;clear hX
  simp only [Prod.mk.injEq] at hr;obtain ⟨rfl,rfl,rfl⟩:=hr
  refine an aa [0,7,8,9,10,5,6] 6 rfl rfl rfl rfl rfl rfl ?_ ?_
  all_goals first|rfl|(simp [az,aX,bc];done)|(simp [az,aX,bc];omega)
 have hc1':=of_decide_eq_false hc1
 refine ae aa 2 rfl ?_
 refine aj rfl (fun hc2=>?_) (fun hc2=>?_)
 ·
  have hc2':=of_decide_eq_true hc2
  refine aF aa 2 rfl ?_
  obtain ⟨b21,a21,hr1⟩:∃ (b21:Bk) (a21:Answer),dD b d=(b21,a21):=⟨_,_,rfl⟩
  refine aQ 11 [0,7,8,9,10,6,5] (cq id (bb [0,7,8,9,10]) (ms:=(iQ b 1 2 3 4 none none)) (ms':=(iQ b21 1 2 3 4 none none)) (fun x hx=>FG x hx b d (by first|assumption|exact ct.tick (by assumption) (by omega) (by omega)) b21 a21 hr1) Gy rfl rfl ⟨⟨_,rfl,.inl ⟨rfl,rfl⟩⟩,⟨_,rfl,.inl ⟨rfl,rfl⟩⟩,trivial⟩ rfl rfl rfl rfl rfl rfl rfl ⟨rfl,rfl,rfl,rfl,trivial⟩ rfl rfl rfl rfl rfl rfl rfl rfl rfl rfl rfl rfl rfl) rfl ?_
  refine ad aa 1 rfl ?_
  refine af ?_
  refine ay ?_
  refine bo ?_
  refine ar ?_
  have hX:ff b days d=(b21,days,a21):=by
    unfold ff;(repeat' (first|rw [if_pos (by omega)]|rw [if_neg (by omega)]|fail))<;>first|rfl|(simp only [hr1];done)|(simp only [hr1];rfl)|(simp_all;done)
  rw [hX] at hr;clear hX
  simp only [Prod.mk.injEq] at hr;obtain ⟨rfl,rfl,rfl⟩:=hr
  refine an aa [0,7,8,9,10,5,6] 6 rfl rfl rfl rfl rfl rfl ?_ ?_
  all_goals first|rfl|(simp [az,aX,bc];done)|(simp [az,aX,bc];omega)
 have hc2':=of_decide_eq_false hc2
 refine ae aa 2 rfl ?_
 refine aj rfl (fun hc3=>?_) (fun hc3=>?_)
 ·
  have hc3':=of_decide_eq_true hc3
  refine aF aa 2 rfl ?_
  obtain ⟨b22,a22,hr2⟩:∃ (b22:Bk) (a22:Answer),dA b d=(b22,a22):=⟨_,_,rfl⟩
  refine aQ 11 [0,7,8,9,10,6,5] (cq id (bb [0,7,8,9,10]) (ms:=(iQ b 1 2 3 4 none none)) (ms':=(iQ b22 1 2 3 4 none none)) (fun x hx=>BC x hx b d (by first|assumption|exact ct.tick (by assumption) (by omega) (by omega)) b22 a22 hr2) Gx rfl rfl ⟨⟨_,rfl,.inl ⟨rfl,rfl⟩⟩,⟨_,rfl,.inl ⟨rfl,rfl⟩⟩,trivial⟩ rfl rfl rfl rfl rfl rfl rfl ⟨rfl,rfl,rfl,rfl,trivial⟩ rfl rfl rfl rfl rfl rfl rfl rfl rfl rfl rfl rfl rfl) rfl ?_
  refine ad aa 1 rfl ?_
  refine af ?_
  refine ay ?_
  refine bo ?_
  refine ar ?_
  have hX:ff b days d=(b22,days,a22):=by
    unfold ff;(repeat' (first|rw [if_pos (by omega)]|rw [if_neg (by omega)]|fail))<;>first|rfl|(simp only [hr2];done)|(simp only [hr2];rfl)|(simp_all;done)
  rw [hX] at hr;clear hX
  simp only [Prod.mk.injEq] at hr;obtain ⟨rfl,rfl,rfl⟩:=hr
  refine an aa [0,7,8,9,10,5,6] 6 rfl rfl rfl rfl rfl rfl ?_ ?_
  all_goals first|rfl|(simp [az,aX,bc];done)|(simp [az,aX,bc];omega)
 have hc3':=of_decide_eq_false hc3
 refine ae aa 2 rfl ?_
 refine aj rfl (fun hc4=>?_) (fun hc4=>?_)
 ·
  have hc4':=of_decide_eq_true hc4
  refine aF aa 2 rfl ?_
  obtain ⟨b23,a23,hr3⟩:∃ (b23:Bk) (a23:Answer),eQ b d=(b23,a23):=⟨_,_,rfl⟩
  refine aQ 11 [0,7,8,9,10,6,5] (cq id (bb [0,7,8,9,10]) (ms:=(iQ b 1 2 3 4 none none)) (ms':=(iQ b23 1 2 3 4 none none)) (fun x hx=>Es x hx b d (by first|assumption|exact ct.tick (by assumption) (by omega) (by omega)) b23 a23 hr3) Gw rfl rfl ⟨⟨_,rfl,.inl ⟨rfl,rfl⟩⟩,⟨_,rfl,.inl ⟨rfl,rfl⟩⟩,trivial⟩ rfl rfl rfl rfl rfl rfl rfl ⟨rfl,rfl,rfl,rfl,trivial⟩ rfl rfl rfl rfl rfl rfl rfl rfl rfl rfl rfl rfl rfl) rfl ?_
  refine ad aa 1 rfl ?_
  refine af ?_
  refine ay ?_
  refine bo ?_
  refine ar ?_
  have hX:ff b days d=(b23,days,a23):=by
    unfold ff;(repeat' (first|rw [if_pos (by omega)]|rw [if_neg (by omega)]|fail))<;>first|rfl|(simp only [hr3];done)|(simp only [hr3];rfl)|(simp_all;done)
  rw [hX] at hr;clear hX
  simp only [Prod.mk.injEq] at hr;obtain ⟨rfl,rfl,rfl⟩:=hr
  refine an aa [0,7,8,9,10,5,6] 6 rfl rfl rfl rfl rfl rfl ?_ ?_
  all_goals first|rfl|(simp [az,aX,bc];done)|(simp [az,aX,bc];omega)
 have hc4':=of_decide_eq_false hc4
 refine ae aa 2 rfl ?_
 refine aj rfl (fun hc5=>?_) (fun hc5=>?_)
 ·
  have hc5':=of_decide_eq_true hc5
  refine aF aa 2 rfl ?_
  obtain ⟨v04,v14,a24,hr4⟩:∃ (v04:List cp) (v14:List cp) (a24:Answer),ew b.s0 b.s1 b.n0 b.n1 b.w0 b.w1 d=(v04,v14,a24):=⟨_,_,_,rfl⟩
  refine aQ 7 [0,6,1,2,3,4,5] (cq id id (ms:=[none,none,none,none,none,some (cI b.s0.bz),some (cw b.s0.kept),some (cI b.s1.bz),some (cw b.s1.kept),some (cI b.n0),some (cI b.n1),some (cW b.w0),some (cW b.w1),none,none,none,none,none,none,none]) (ms':=[none,none,none,none,none,some (cI b.s0.bz),some (cw b.s0.kept),some (cI b.s1.bz),some (cw b.s1.kept),some (cI b.n0),some (cI b.n1),some (cW v04),some (cW v14),none,none,none,none,none,none,none]) (fun x hx=>CM x hx b.s0 b.s1 b.n0 b.n1 b.w0 b.w1 d (by first|omega|(simp;done)|(simp;omega)) (by first|omega|(simp;done)|(simp;omega)) (by first|omega|(simp;done)|(simp;omega)) (by first|omega|(simp;done)|(simp;omega)) v04 v14 a24 hr4) Gv rfl rfl ⟨⟨_,rfl,.inl ⟨rfl,rfl⟩⟩,⟨_,rfl,.inl ⟨rfl,rfl⟩⟩,trivial⟩ rfl rfl rfl rfl rfl rfl rfl trivial rfl rfl rfl rfl rfl rfl rfl rfl rfl rfl rfl rfl rfl) rfl ?_
  refine ad aa 1 rfl ?_
  refine af ?_
  refine ay ?_
  refine bo ?_
  refine ar ?_
  have hX:ff b days d=((⟨b.time,b.down,b.aq,b.due,b.ax,b.s0,b.s1,b.n0,b.n1,v04,v14,b.ba,b.aR,b.book⟩:Bk),days,a24):=by
    unfold ff;(repeat' (first|rw [if_pos (by omega)]|rw [if_neg (by omega)]|fail))<;>first|rfl|(simp only [hr4];done)|(simp only [hr4];rfl)|(simp_all;done)
  rw [hX] at hr;clear hX
  simp only [Prod.mk.injEq] at hr;obtain ⟨rfl,rfl,rfl⟩:=hr
  refine an aa [0,1,2,3,4,5,6] 6 rfl rfl rfl rfl rfl rfl ?_ ?_
  all_goals first|rfl|(simp [az,aX,bc];done)|(simp [az,aX,bc];omega)
 have hc5':=of_decide_eq_false hc5
 refine ag ?_
 refine ae aa 2 rfl ?_
 refine aj rfl (fun hc6=>?_) (fun hc6=>?_)
 ·
  have hc6':=of_decide_eq_true hc6
  refine aP ?_
  refine aj rfl (fun _=>?_) (fun hno=>absurd (hc6.symm.trans hno) (by decide))
  refine aF aa 2 rfl ?_
  obtain ⟨b25,a25,hr5⟩:∃ (b25:Bk) (a25:Answer),cv b d=(b25,a25):=⟨_,_,rfl⟩
  refine aQ 11 [0,7,8,9,10,6,5] (cq id (bb [0,7,8,9,10]) (ms:=(iQ b 1 2 3 4 none none)) (ms':=(iQ b25 1 2 3 4 none none)) (fun x hx=>vr x hx b d (by assumption) b25 a25 hr5) Eb rfl rfl ⟨⟨_,rfl,.inl ⟨rfl,rfl⟩⟩,⟨_,rfl,.inl ⟨rfl,rfl⟩⟩,trivial⟩ rfl rfl rfl rfl rfl rfl rfl ⟨rfl,rfl,rfl,rfl,trivial⟩ rfl rfl rfl rfl rfl rfl rfl rfl rfl rfl rfl rfl rfl) rfl ?_
  refine ad aa 1 rfl ?_
  refine af ?_
  refine ay ?_
  refine bo ?_
  refine ar ?_
  have hX:ff b days d=(b25,days,a25):=by
    unfold ff;(repeat' (first|rw [if_pos (by omega)]|rw [if_neg (by omega)]|fail))<;>first|rfl|(simp only [hr5];done)|(simp only [hr5];rfl)|(simp_all;done)
  rw [hX] at hr;clear hX
  simp only [Prod.mk.injEq] at hr;obtain ⟨rfl,rfl,rfl⟩:=hr
  refine an aa [0,7,8,9,10,5,6] 6 rfl rfl rfl rfl rfl rfl ?_ ?_
  all_goals first|rfl|(simp [az,aX,bc];done)|(simp [az,aX,bc];omega)
 have hc6':=of_decide_eq_false hc6
 refine aw ?_
 refine ad aa 2 rfl ?_
 refine af ?_
 refine aj rfl (fun hc8=>?_) (fun hc8=>?_)
 ·
  have hc8':=of_decide_eq_true hc8
  refine aF aa 2 rfl ?_
  obtain ⟨b26,a26,hr6⟩:∃ (b26:Bk) (a26:Answer),cv b d=(b26,a26):=⟨_,_,rfl⟩
  refine aQ 11 [0,7,8,9,10,6,5] (cq id (bb [0,7,8,9,10]) (ms:=(iQ b 1 2 3 4 none none)) (ms':=(iQ b26 1 2 3 4 none none)) (fun x hx=>vr x hx b d (by assumption) b26 a26 hr6) Eb rfl rfl ⟨⟨_,rfl,.inl ⟨rfl,rfl⟩⟩,⟨_,rfl,.inl ⟨rfl,rfl⟩⟩,trivial⟩ rfl rfl rfl rfl rfl rfl rfl ⟨rfl,rfl,rfl,rfl,trivial⟩ rfl rfl rfl rfl rfl rfl rfl rfl rfl rfl rfl rfl rfl) rfl ?_
  refine ad aa 1 rfl ?_
  refine af ?_
  refine ay ?_
  refine bo ?_
  refine ar ?_
  have hX:ff b days d=(b26,days,a26):=by
    unfold ff;(repeat' (first|rw [if_pos (by omega)]|rw [if_neg (by omega)]|fail))<;>first|rfl|(simp only [hr6];done)|(simp only [hr6];rfl)|(simp_all;done)
  rw [hX] at hr;clear hX
  simp only [Prod.mk.injEq] at hr;obtain ⟨rfl,rfl,rfl⟩:=hr
  refine an aa [0,7,8,9,10,5,6] 6 rfl rfl rfl rfl rfl rfl ?_ ?_
  all_goals first|rfl|(simp [az,aX,bc];done)|(simp [az,aX,bc];omega)
 have hc8':=of_decide_eq_false hc8
 refine ae aa 2 rfl ?_
 refine aj rfl (fun hc9=>?_) (fun hc9=>?_)
 ·
  have hc9':=of_decide_eq_true hc9
  refine ag ?_
  refine ae aa 5 rfl ?_
  refine aj rfl (fun hc10=>?_) (fun hc10=>?_)
  ·
   have hc10':=hc10;try simp only [bu,bR] at hc10'
   refine ae aa 2 rfl ?_
   refine ay ?_
   refine ar ?_
   refine bo ?_
   refine ar ?_
   have hX:ff b days d=(b,days,(⟨8,0⟩:Answer)):=by
     unfold ff;(repeat' (first|rw [if_pos (by omega)]|rw [if_neg (by omega)]|fail))<;>first|rfl|(simp_all;done)
   rw [hX] at hr;clear hX
   simp only [Prod.mk.injEq] at hr;obtain ⟨rfl,rfl,rfl⟩:=hr
   refine an aa [0,1,2,3,4,5,6] 6 rfl rfl rfl rfl rfl rfl ?_ ?_
   all_goals first|rfl|(simp [az,aX,bc];done)|(simp [az,aX,bc];omega)
  have hc10':=hc10;try simp only [bu,bR] at hc10'
  refine aP ?_
  refine ae aa 5 rfl ?_
  refine ae aa 2 rfl ?_
  refine ay ?_
  refine bo ?_
  refine ar ?_
  have hX:ff b days d=((⟨b.time,true,b.aq,b.due,b.ax,b.s0,b.s1,b.n0,b.n1,b.w0,b.w1,b.ba,b.aR,b.book⟩:Bk),days,(⟨0,0⟩:Answer)):=by
    unfold ff;(repeat' (first|rw [if_pos (by omega)]|rw [if_neg (by omega)]|fail))<;>first|rfl|(simp_all;done)
  rw [hX] at hr;clear hX
  simp only [Prod.mk.injEq] at hr;obtain ⟨rfl,rfl,rfl⟩:=hr
  refine an aa [0,1,2,3,4,5,6] 6 rfl rfl rfl rfl rfl rfl ?_ ?_
  all_goals first|rfl|(simp [az,aX,bc];done)|(simp [az,aX,bc];omega)
 have hc9':=of_decide_eq_false hc9
 refine ae aa 2 rfl ?_
 refine aj rfl (fun hc11=>?_) (fun hc11=>?_)
 ·
  have hc11':=of_decide_eq_true hc11
  refine aF aa 1 rfl ?_
  obtain ⟨b27,a27,hr7⟩:∃ (b27:Bk) (a27:Answer),iv b=(b27,a27):=⟨_,_,rfl⟩
  refine aQ 11 [0,7,8,9,10,6,5] (cq id (bb [0,7,8,9,10]) (ms:=(iQ b 1 2 3 4 none none)) (ms':=(iQ b27 1 2 3 4 none none)) (fun x hx=>GR x hx b (by first|assumption|exact ct.tick (by assumption) (by omega) (by omega)) b27 a27 hr7) Gu rfl rfl ⟨⟨_,rfl,.inl ⟨rfl,rfl⟩⟩,trivial⟩ rfl rfl rfl rfl rfl rfl rfl ⟨rfl,rfl,rfl,rfl,trivial⟩ rfl rfl rfl rfl rfl rfl rfl rfl rfl rfl rfl rfl rfl) rfl ?_
  refine ad aa 1 rfl ?_
  refine af ?_
  refine ay ?_
  refine bo ?_
  refine ar ?_
  have hX:ff b days d=(b27,days,a27):=by
    unfold ff;(repeat' (first|rw [if_pos (by omega)]|rw [if_neg (by omega)]|fail))<;>first|rfl|(simp only [hr7];done)|(simp only [hr7];rfl)|(simp_all;done)
  rw [hX] at hr;clear hX
  simp only [Prod.mk.injEq] at hr;obtain ⟨rfl,rfl,rfl⟩:=hr
  refine an aa [0,7,8,9,10,5,6] 6 rfl rfl rfl rfl rfl rfl ?_ ?_
  all_goals first|rfl|(simp [az,aX,bc];done)|(simp [az,aX,bc];omega)
 have hc11':=of_decide_eq_false hc11
 refine ae aa 2 rfl ?_
 refine aj rfl (fun hc12=>?_) (fun hc12=>?_)
 ·
  have hc12':=of_decide_eq_true hc12
  refine aF aa 1 rfl ?_
  obtain ⟨today28,days28,a28,hr8⟩:∃ (today28:List al) (days28:List (List Int)) (a28:Answer),gC b.aR days=(today28,days28,a28):=⟨_,_,_,rfl⟩
  refine aQ 9 [0,7,8,6,1,2,3] (cq (bb [0,4,5]) (bb [0,7,8]) (ms:=((dw.set 16 (some (.s 1 0 4 b.aR.length))).set 17 (some (.s 2 0 1 days.length)))) (ms':=((dw.set 16 (some (.s 1 0 4 today28.length))).set 17 (some (.s 2 0 1 days28.length)))) (fun x hx=>Eu x hx b.aR days (by first|omega|(simp;done)|(simp;omega)) (by first|omega|(simp;done)|(simp;omega)) today28 days28 a28 hr8) Gt rfl rfl ⟨⟨_,rfl,.inl ⟨rfl,rfl⟩⟩,trivial⟩ rfl rfl rfl rfl rfl rfl rfl ⟨rfl,rfl,trivial⟩ rfl rfl rfl rfl rfl rfl rfl rfl rfl rfl rfl rfl rfl) rfl ?_
  refine ad aa 1 rfl ?_
  refine af ?_
  refine ay ?_
  refine bo ?_
  refine ar ?_
  have hX:ff b days d=((⟨b.time,b.down,b.aq,b.due,b.ax,b.s0,b.s1,b.n0,b.n1,b.w0,b.w1,b.ba,today28,b.book⟩:Bk),days28,a28):=by
    unfold ff;(repeat' (first|rw [if_pos (by omega)]|rw [if_neg (by omega)]|fail))<;>first|rfl|(simp only [hr8];done)|(simp only [hr8];rfl)|(simp_all;done)
  rw [hX] at hr;clear hX
  simp only [Prod.mk.injEq] at hr;obtain ⟨rfl,rfl,rfl⟩:=hr
  refine an aa [0,1,2,3,7,8,6] 6 rfl rfl rfl rfl rfl rfl ?_ ?_
  all_goals first|rfl|(simp [az,aX,bc];done)|(simp [az,aX,bc];omega)
 have hc12':=of_decide_eq_false hc12
 refine ae aa 2 rfl ?_
 refine aj rfl (fun hc13=>?_) (fun hc13=>?_)
 ·
  have hc13':=of_decide_eq_true hc13
  refine aF aa 2 rfl ?_
  obtain ⟨b29,a29,hr9⟩:∃ (b29:Bk) (a29:Answer),gk b d=(b29,a29):=⟨_,_,rfl⟩
  refine aQ 11 [0,7,8,9,10,6,5] (cq id (bb [0,7,8,9,10]) (ms:=(iQ b 1 2 3 4 none none)) (ms':=(iQ b29 1 2 3 4 none none)) (fun x hx=>FF x hx b d (by first|assumption|exact ct.tick (by assumption) (by omega) (by omega)) b29 a29 hr9) Gs rfl rfl ⟨⟨_,rfl,.inl ⟨rfl,rfl⟩⟩,⟨_,rfl,.inl ⟨rfl,rfl⟩⟩,trivial⟩ rfl rfl rfl rfl rfl rfl rfl ⟨rfl,rfl,rfl,rfl,trivial⟩ rfl rfl rfl rfl rfl rfl rfl rfl rfl rfl rfl rfl rfl) rfl ?_
  refine ad aa 1 rfl ?_
  refine af ?_
  refine ay ?_
  refine bo ?_
  refine ar ?_
  have hX:ff b days d=(b29,days,a29):=by
    unfold ff;(repeat' (first|rw [if_pos (by omega)]|rw [if_neg (by omega)]|fail))<;>first|rfl|(simp only [hr9];done)|(simp only [hr9];rfl)|(simp_all;done)
  rw [hX] at hr;clear hX
  simp only [Prod.mk.injEq] at hr;obtain ⟨rfl,rfl,rfl⟩:=hr
  refine an aa [0,7,8,9,10,5,6] 6 rfl rfl rfl rfl rfl rfl ?_ ?_
  all_goals first|rfl|(simp [az,aX,bc];done)|(simp [az,aX,bc];omega)
 have hc13':=of_decide_eq_false hc13
 refine cG ?_
 refine bl ?_
 refine then_ok ?_
 refine ae aa 2 rfl ?_
 refine ay ?_
 have hX:ff b days d=(b,days,(⟨1,0⟩:Answer)):=by
   unfold ff;(repeat' (first|rw [if_pos (by omega)]|rw [if_neg (by omega)]|fail))<;>first|rfl|(simp_all;done)
 rw [hX] at hr;clear hX
 simp only [Prod.mk.injEq] at hr;obtain ⟨rfl,rfl,rfl⟩:=hr
 refine an aa [0,1,2,3,4,5,6] 6 rfl rfl rfl rfl rfl rfl ?_ ?_
 all_goals first|rfl|(simp [az,aX,bc];done)|(simp [az,aX,bc];omega)

theorem Ev (x:Nat->Value) (hx:∀ i,(x i).oneCell'=true) (b:Bk) (days:List (List Int)) (told:List (Int×Answer)) (cl:Nat) (d:bB) (ok:ct b) (hy:days.length<=1000) (b2:Bk) (y2:List (List Int)) (t2:List (Int×Answer)) (c2:Nat) (a2:Answer) (hr:eG b days told cl d=(b2,y2,t2,c2,a2)):cJ Try.prog 42 [(.c (.p 0 0 0 0)),(.c (.q (df d) 0))] [(0,(.box 98 (aX b 1 2 3 4 (.s 5 0 1 days.length) (.m 6)))),(1,(dO b.aq)),(2,(dF b.due)),(3,(dR b.ax)),(4,(cP b.aR)),(5,(pF days)),(6,(.map (tV told) cl))] [0] (.v (.g [cI a2.err,cI a2.aZ])) [(0,(.box 98 (aX b2 1 2 3 4 (.s 5 0 1 y2.length) (.m 6)))),(1,(dO b2.aq)),(2,(dF b2.due)),(3,(dR b2.ax)),(4,(cP b2.aR)),(5,(pF y2)),(6,(.map (tV t2) c2))]:=by
 refine cJ.mk 42 [(0,(aC (.p 0 0 0 0))),(1,(aC (.q (df d) 0)))] 7 Try.func42 rfl rfl rfl rfl rfl rfl rfl rfl rfl ?_
 intro W0 F0 T0 pg
 obtain ⟨okt,okc,okd,oka,oky,okw0,okw1,okp,okv,okk0,okk1,okg,okl0,okl1,okp0,okp1,okn0,okn1,okq⟩:=id ok
 refine ae aa 1 rfl ?_
 refine ag ?_
 refine ag ?_
 refine dd [0,1,4] [7,0,1,2,3,4,5,6] mixed rfl rfl ?_
 refine bP (kn:=[]) aa 8 rfl trivial ?_
 refine bU (n':=8) [12,16] [6] rfl rfl (.inl ⟨(ah.plain rfl),aE.cast (zB (ps:=told) Try.underlying96 Try.underlying3 FT rfl rfl rfl rfl) rfl⟩) rfl ?_
 refine bP (n':=9) (kn:=[]) aa 6 rfl trivial ?_
 refine dJ [0,1,4,5,6] [8,7,0,1,2,3,4,5,6] rfl rfl (by kernel_rfl) ?_
 refine then_ok ?_
 refine ck 27 (((iR told d.id).isSome) && (decide (¬d.id=0))) ?_ ?_
 ·
  refine aw ?_
  refine ad aa 2 rfl ?_
  refine bE (t:=21) rfl (fun hb1=>?_) (fun hb1=>?_)
  ·
   have hb1':=hb1;try simp only [bu,bR] at hb1'
   refine ad aa 6 rfl ?_
   refine af ?_
   exact aH.bA 9 rfl rfl (by first|(simp [hb1];done)|(simp_all;done)|(exfalso;simp_all;done)|(simp_all;omega)) rfl
  have hb1':=hb1;try simp only [bu,bR] at hb1'
  refine ad aa 6 rfl ?_
  refine af ?_
  exact aH.bA 9 rfl rfl (by first|(simp [hb1];done)|(simp_all;done)|(exfalso;simp_all;done)|(simp_all;omega)) rfl
 refine aj rfl (fun hc2=>?_) (fun hc2=>?_)
 ·
  have hc2':=hc2;try simp only [bu,bR] at hc2'
  refine ae aa 2 rfl ?_
  refine ay ?_
  refine ar ?_
  have hX:eG b days told cl d=(b,days,told,cl,((iR told d.id).getD ⟨0,0⟩)):=by
    unfold eG;(repeat' split)<;>first|rfl|omega|(exfalso;omega)|(simp_all;done)|(simp_all;omega)
  rw [hX] at hr;clear hX
  simp only [Prod.mk.injEq] at hr;obtain ⟨rfl,rfl,rfl,rfl,rfl⟩:=hr
  refine an aa [0,1,2,3,4,5,6,7] 7 rfl rfl rfl rfl rfl rfl ?_ ?_
  all_goals first|rfl|(simp [az,aX,bc];done)|(simp [az,aX,bc];omega)
 have hc2':=hc2;try simp only [bu,bR] at hc2'
 refine aP ?_
 refine aF aa 2 rfl ?_
 obtain ⟨b20,y20,a20,hr0⟩:∃ (b20:Bk) (y20:List (List Int)) (a20:Answer),ff b days d=(b20,y20,a20):=⟨_,_,_,rfl⟩
 refine aQ 14 [0,9,10,11,12,13,8,7,6] (cq id (bb [0,9,10,11,12,13]) (ms:=(iQ b 1 2 3 4 (some (.s 5 0 1 days.length)) none)) (ms':=(iQ b20 1 2 3 4 (some (.s 5 0 1 y20.length)) none)) (fun x hx=>GS x hx b days d (by first|assumption|exact ct.tick (by assumption) (by omega) (by omega)) (by first|omega|(simp;done)|(simp;omega)) b20 y20 a20 hr0) GC rfl rfl ⟨⟨_,rfl,.inl ⟨rfl,rfl⟩⟩,⟨_,rfl,.inl ⟨rfl,rfl⟩⟩,trivial⟩ rfl rfl rfl rfl rfl rfl rfl ⟨rfl,rfl,rfl,rfl,rfl,trivial⟩ rfl rfl rfl rfl rfl rfl rfl rfl rfl rfl rfl rfl rfl) rfl ?_
 refine ad aa 2 rfl ?_
 refine af ?_
 refine ag ?_
 refine aW [0,1,4,7] [14,0,9,10,11,12,13,7,6] mixed rfl rfl ?_
 refine au (kn:=[]) aa 9 rfl trivial ?_
 refine br [14,0,9,10,11,12,13,7,6] rfl rfl rfl rfl (by kernel_rfl) ?_
 refine fZ [14,0,9,10,11,12,13,7,6] (zy Try.underlying96 Try.underlying3 rfl rfl rfl rfl rfl) rfl ?_
 refine af ?_
 refine ae aa 2 rfl ?_
 refine ay ?_
 have hX:eG b days told cl d=(b20,y20,pN told d.id a20,if (iR told d.id).isSome then cl else cl+1,a20):=by
   unfold eG;simp only [hr0];(repeat' split)<;>first|rfl|omega|(exfalso;omega)|(simp_all;done)|(simp_all;omega)
 rw [hX] at hr;clear hX
 simp only [Prod.mk.injEq] at hr;obtain ⟨rfl,rfl,rfl,rfl,rfl⟩:=hr
 refine an aa [0,9,10,11,12,13,6,7] 7 rfl rfl rfl rfl rfl rfl ?_ ?_
 all_goals first|rfl|(simp [az,aX,bc];done)|(simp [az,aX,bc];omega)

theorem vq (s:Setup) (f:cY) (hr:eu s=f):Fn Try.prog 40 [(.g [(cR 3 ((s.cX).map gy)),(cI s.gn),(cI s.cap)])] (.v (.g [(cI f.err),(cI f.at_)])) []:=by
 refine Fn.mk' 47 [(0,(aG [(cR 3 ((s.cX).map gy)),(cI s.gn),(cI s.cap)]))] Try.func40 rfl rfl rfl rfl ?_
 intro W0 T0
 refine cz 0 0 rfl rfl (fun hlen0_0=>?_)
 refine ae aa 2 rfl ?_
 refine ag ?_
 refine ck 19 (((decide ((↑s.cX.length:Int) > 8))||(decide (s.gn < 0)))||(decide (s.gn > 8))) ?_ ?_
 ·
  refine aw ?_
  refine ad aa 2 rfl ?_
  refine aA (bQ rfl rfl rfl rfl rfl Try.underlying53) rfl ?_
  refine ad aa 2 rfl ?_
  refine bE (t:=10) rfl (fun hb1=>?_) (fun hb1=>?_)
  ·
   have hb1':=of_decide_eq_true hb1
   refine ad aa 9 rfl ?_
   refine af ?_
   exact aH.bA 15 rfl rfl (by first|(simp [hb1];done)|(simp_all;done)|(exfalso;simp_all;done)|(simp_all;omega)) rfl
  have hb1':=of_decide_eq_false hb1
  refine ad aa 5 rfl ?_
  refine bE (t:=15) rfl (fun hb2=>?_) (fun hb2=>?_)
  ·
   have hb2':=of_decide_eq_true hb2
   refine ad aa 4 rfl ?_
   refine af ?_
   exact aH.bA 16 rfl rfl (by first|(simp [hb1,hb2];done)|(simp_all;done)|(exfalso;simp_all;done)|(simp_all;omega)) rfl
  have hb2':=of_decide_eq_false hb2
  refine ad aa 4 rfl ?_
  refine af ?_
  exact aH.bA 16 rfl rfl (by first|(simp [hb1,hb2];done)|(simp_all;done)|(exfalso;simp_all;done)|(simp_all;omega)) rfl
 refine aj rfl (fun hc3=>?_) (fun hc3=>?_)
 ·
  have hc3':=hc3;try simp only [bu,bR] at hc3'
  refine ae aa 2 rfl ?_
  refine ay ?_
  refine ar ?_
  have hX:eu s=(⟨5,0⟩:cY):=by
    unfold eu;rw [if_pos (by omega)]
  rw [hX] at hr;clear hX
  subst hr
  refine an aa [1] 0 rfl rfl rfl rfl rfl rfl ?_ ?_
  all_goals first|rfl|(simp [az,aX,bc];done)|(simp [az,aX,bc];omega)
 have hc3':=hc3;try simp only [bu,bR] at hc3'
 refine aP ?_
 refine ag ?_
 refine ck 28 ((decide (s.cap < 0))||(decide (s.cap > 1000000))) ?_ ?_
 ·
  refine aw ?_
  refine ad aa 4 rfl ?_
  refine bE (t:=24) rfl (fun hb4=>?_) (fun hb4=>?_)
  ·
   have hb4':=of_decide_eq_true hb4
   refine ad aa 4 rfl ?_
   refine af ?_
   exact aH.bA 9 rfl rfl (by first|(simp [hb4];done)|(simp_all;done)|(exfalso;simp_all;done)|(simp_all;omega)) rfl
  have hb4':=of_decide_eq_false hb4
  refine ad aa 4 rfl ?_
  refine af ?_
  exact aH.bA 9 rfl rfl (by first|(simp [hb4];done)|(simp_all;done)|(exfalso;simp_all;done)|(simp_all;omega)) rfl
 refine aj rfl (fun hc5=>?_) (fun hc5=>?_)
 ·
  have hc5':=hc5;try simp only [bu,bR] at hc5'
  refine ae aa 2 rfl ?_
  refine ay ?_
  refine ar ?_
  have hX:eu s=(⟨3,0⟩:cY):=by
    unfold eu;rw [if_neg (by omega),if_pos (by omega)]
  rw [hX] at hr;clear hX
  subst hr
  refine an aa [1] 0 rfl rfl rfl rfl rfl rfl ?_ ?_
  all_goals first|rfl|(simp [az,aX,bc];done)|(simp [az,aX,bc];omega)
 have hc5':=hc5;try simp only [bu,bR] at hc5'
 refine aP ?_
 refine ag ?_
 refine aF aa 2 rfl ?_
 refine aA (bQ rfl rfl rfl rfl rfl Try.underlying53) rfl ?_
 refine ad aa 1 rfl ?_
 refine af ?_
 refine aU ?_
 refine cj (β:=Nat) (fun (q:Nat)=>⟨[(2,(aC (.p 1 0 0 0))),(31,(aC (cR 3 ((s.cX).map gy)))),(32,(aI (↑s.cX.length:Int))),(33,(aI (↑q:Int)))],[(1,(.box 50 [(cI 0),(cI 0)]))],2⟩) (fun (q:Nat)=>q<=s.cX.length/\nR s.cX 0=nR (s.cX.drop q) q) (fun (q:Nat)=>s.cX.length - q) 0 ?_ ?_ ?_
 ·exact ⟨by omega,rfl⟩
 ·exact aH.bS id (by refine ⟨?_,?_,?_,?_,trivial⟩<;>first|rfl|(simp only [bh];done)|(congr 3;omega)|(congr 4;omega)|(simp only [bj];rfl)) (⟨by first|rfl|(simp only [bh];done)|(congr 3;omega)|(congr 4;omega)|(simp only [bj];rfl),trivial⟩) rfl
 rintro q ⟨hi0_0,hi0_1⟩
 refine ae aa 1 rfl ?_
 refine ag ?_
 refine aj rfl (fun hc6=>?_) (fun hc6=>?_)
 ·
  have hc6':=of_decide_eq_true hc6
  refine aP ?_
  refine ag ?_
  refine aU ?_
  refine aF aa 1 rfl ?_
  obtain ⟨x1,hx1⟩:=cb (xs:=s.cX) (i:=q) (by first|omega|(simp;done)|(simp;omega))
  refine aA (ca (i:=q) rfl rfl rfl Try.underlying53 Da (by first|omega|(simp;done)|(simp;omega)) (bf hx1)) rfl ?_
  refine ad aa 4 rfl ?_
  refine af ?_
  refine aF aa 1 rfl ?_
  obtain ⟨e0,hr0⟩:∃ (e0:Int),fq x1=e0:=⟨_,rfl⟩
  refine aQ 3 [2,1] (bX 3 (kL x1 e0 hr0) Bm rfl rfl ⟨⟨_,rfl,.g ⟨.d _,.d _,.d _,trivial⟩⟩,trivial⟩ trivial trivial rfl rfl rfl rfl) rfl ?_
  refine ad aa 1 rfl ?_
  refine af ?_
  refine ae aa 2 rfl ?_
  refine aj rfl (fun hc7=>?_) (fun hc7=>?_)
  ·
   have hc7':=of_decide_eq_true hc7
   refine ae aa 4 rfl ?_
   refine ay ?_
   refine bo ?_
   refine ar ?_
   refine ar ?_
   refine bo ?_
   refine ar ?_
   have hX:eu s=(⟨e0,(↑q:Int)⟩:cY):=by
     unfold eu;rw [if_neg (by omega),if_neg (by omega),hi0_1,sG hx1,if_pos (by omega)];simp_all
   rw [hX] at hr;clear hX
   subst hr
   refine an aa [1] 0 rfl rfl rfl rfl rfl rfl ?_ ?_
   all_goals first|rfl|(simp [az,aX,bc];done)|(simp [az,aX,bc];omega)
  have hc7':=of_decide_eq_false hc7
  refine cG ?_
  refine bl ?_
  refine then_ok ?_
  refine aw ?_
  refine aA (aK rfl rfl rfl (aL (by first|omega|(simp;done)|(simp;omega)))) rfl ?_
  refine ad aa 1 rfl ?_
  refine af ?_
  refine ⟨q+1,⟨by omega,by rw [hi0_1,sG hx1,if_neg (by omega)]⟩,by first|omega|(simp;done)|(simp;omega),aH.bS id (by refine ⟨?_,?_,?_,?_,trivial⟩<;>first|rfl|(simp only [bh];done)|(congr 3;omega)|(congr 4;omega)|(simp only [bj];rfl)) (⟨by first|rfl|(simp only [bh];done)|(congr 3;omega)|(congr 4;omega)|(simp only [bj];rfl),trivial⟩) rfl⟩
 have hc6':=of_decide_eq_false hc6
 refine bZ ?_
 refine aO ?_
 refine aO ?_
 refine bF ?_
 refine then_ok ?_
 refine ae aa 2 rfl ?_
 refine ay ?_
 have hX:eu s=(⟨0,0⟩:cY):=by
   unfold eu;rw [if_neg (by omega),if_neg (by omega),hi0_1,List.drop_of_length_le (by omega)];rfl
 rw [hX] at hr;clear hX
 subst hr
 refine an aa [1] 0 rfl rfl rfl rfl rfl rfl ?_ ?_
 all_goals first|rfl|(simp [az,aX,bc];done)|(simp [az,aX,bc];omega)

theorem vu (s:Setup) (l:List bB) (b2:Bk) (y2:List (List Int)) (o2:List Answer) (f2:cY) (hr:fH s l=(b2,y2,o2,f2)):Fn Try.prog 22 [(.g [(cR 3 ((s.cX).map gy)),(cI s.gn),(cI s.cap)]),(.c (sa l))] (.t [(.g [(cI b2.time),(cB b2.down),(.s 0 0 6 b2.aq.length),(.s 1 0 1 b2.due.length),(.s 2 0 8 b2.ax.length),(cI b2.s0.bz),(cw b2.s0.kept),(cI b2.s1.bz),(cw b2.s1.kept),(cI b2.n0),(cI b2.n1),(cW b2.w0),(cW b2.w1),(cI b2.ba.cap),(dr b2.ba.used),(ei b2.ba.aT),(.s 3 0 4 b2.aR.length),(.s 4 0 1 y2.length),(de b2.book)]),(.c (.s 5 0 2 o2.length)),(.g [(cI f2.err),(cI f2.at_)])]) [(0,(dO b2.aq)),(1,(dF b2.due)),(2,(dR b2.ax)),(3,(cP b2.aR)),(4,(pF y2)),(5,(EF o2))]:=by
 refine Fn.mk' 89 [(0,(aG [(cR 3 ((s.cX).map gy)),(cI s.gn),(cI s.cap)])),(1,(aC (sa l)))] Try.func22 rfl rfl rfl rfl ?_
 intro W0 T0
 refine cz 0 0 rfl rfl (fun hlen0_0=>?_)
 refine dj 1 rfl (fun hlen1=>?_)
 refine ae aa 4 rfl ?_
 refine ag ?_
 refine aF aa 1 rfl ?_
 obtain ⟨f0,hr0⟩:∃ (f0:cY),eu s=f0:=⟨_,rfl⟩
 refine aQ 3 [2,1,0] (bX 3 (vq s f0 hr0) GK rfl rfl ⟨⟨_,rfl,.g ⟨.d _,.d _,.d _,trivial⟩⟩,trivial⟩ ⟨trivial,trivial,trivial⟩ trivial rfl rfl rfl rfl) rfl ?_
 refine ad aa 2 rfl ?_
 refine af ?_
 refine ae aa 3 rfl ?_
 refine aj rfl (fun hc1=>?_) (fun hc1=>?_)
 ·
  have hc1':=of_decide_eq_true hc1
  refine ag ?_
  refine dd [1,2,4,6,7] [3,2,1,0] mixed rfl rfl ?_
  refine bP (kn:=[]) aa 5 rfl trivial ?_
  refine dJ [1,2,4,6,5] [2,1,0] rfl rfl (by kernel_rfl) ?_
  refine then_ok ?_
  refine ay ?_
  refine ar ?_
  refine cm 1 2 61 6 rfl rfl rfl ?_
  refine cm 1 3 3 1 rfl rfl rfl ?_
  refine cm 1 4 67 8 rfl rfl rfl ?_
  refine eZ 1 6 4 rfl rfl rfl ?_
  refine eZ 1 8 4 rfl rfl rfl ?_
  refine eZ 1 11 5 rfl rfl rfl ?_
  refine eZ 1 12 5 rfl rfl rfl ?_
  refine eZ 1 14 1 rfl rfl rfl ?_
  refine eZ 1 15 4 rfl rfl rfl ?_
  refine cm 1 16 83 4 rfl rfl rfl ?_
  refine cm 1 17 86 1 rfl rfl rfl ?_
  refine eZ 1 18 2 rfl rfl rfl ?_
  refine da (aH.nil 5 65 2 (by decide) rfl) ?_
  have hX:fH s l=((⟨0,false,([]:List bI),([]:List Int),([]:List bH),(⟨0,[]⟩:bY),(⟨0,[]⟩:bY),0,0,[],[],(⟨0,[],[]⟩:cA),([]:List al),[]⟩:Bk),([]:List (List Int)),([]:List Answer),f0):=by
    unfold fH;rw [hr0,if_pos (by omega)];rfl
  rw [hX] at hr;clear hX
  simp only [Prod.mk.injEq] at hr;obtain ⟨rfl,rfl,rfl,rfl⟩:=hr
  refine an aa [4,5,6,7,8,9,1,2] 6 rfl rfl rfl rfl rfl rfl ?_ ?_
  all_goals first|rfl|(simp [az,aX,bc];done)|(simp [az,aX,bc];omega)
 have hc1':=of_decide_eq_false hc1
 refine aP ?_
 refine ag ?_
 refine aF aa 1 rfl ?_
 refine aA (bQ rfl rfl rfl rfl rfl Try.underlying24) rfl ?_
 refine ad aa 1 rfl ?_
 refine af ?_
 refine aj rfl (fun hc2=>?_) (fun hc2=>?_)
 ·
  have hc2':=of_decide_eq_true hc2
  refine ae aa 5 rfl ?_
  refine ay ?_
  refine ar ?_
  refine cm 1 2 61 6 rfl rfl rfl ?_
  refine cm 1 3 3 1 rfl rfl rfl ?_
  refine cm 1 4 67 8 rfl rfl rfl ?_
  refine eZ 1 6 4 rfl rfl rfl ?_
  refine eZ 1 8 4 rfl rfl rfl ?_
  refine eZ 1 11 5 rfl rfl rfl ?_
  refine eZ 1 12 5 rfl rfl rfl ?_
  refine eZ 1 14 1 rfl rfl rfl ?_
  refine eZ 1 15 4 rfl rfl rfl ?_
  refine cm 1 16 83 4 rfl rfl rfl ?_
  refine cm 1 17 86 1 rfl rfl rfl ?_
  refine eZ 1 18 2 rfl rfl rfl ?_
  refine da (aH.nil 5 65 2 (by decide) rfl) ?_
  have hX:fH s l=((⟨0,false,([]:List bI),([]:List Int),([]:List bH),(⟨0,[]⟩:bY),(⟨0,[]⟩:bY),0,0,[],[],(⟨0,[],[]⟩:cA),([]:List al),[]⟩:Bk),([]:List (List Int)),([]:List Answer),(⟨5,0⟩:cY)):=by
    unfold fH;rw [hr0,if_neg (by omega),if_pos (by omega)];rfl
  rw [hX] at hr;clear hX
  simp only [Prod.mk.injEq] at hr;obtain ⟨rfl,rfl,rfl,rfl⟩:=hr
  refine an aa [4,5,6,7,8,9,1,2] 6 rfl rfl rfl rfl rfl rfl ?_ ?_
  all_goals first|rfl|(simp [az,aX,bc];done)|(simp [az,aX,bc];omega)
 have hc2':=of_decide_eq_false hc2
 refine aP ?_
 refine fa ?_
 refine aQ 5 [4,3,2,1,0] (xS 4 rfl) rfl ?_
 refine ad aa 3 rfl ?_
 refine af ?_
 refine ag ?_
 obtain ⟨w1,w2,w3,w4,w5,w6⟩:=kD (s:=s) (by rw [hr0];omega)
 refine oY 5 2 61 6 rfl rfl rfl ?_
 refine oY 5 4 67 8 rfl rfl rfl ?_
 refine kh 5 6 4 rfl rfl rfl ?_
 refine kh 5 8 4 rfl rfl rfl ?_
 refine kh 5 11 5 rfl rfl rfl ?_
 refine kh 5 12 5 rfl rfl rfl ?_
 refine kh 5 14 1 rfl rfl rfl ?_
 refine kh 5 15 4 rfl rfl rfl ?_
 refine oY 5 16 83 4 rfl rfl rfl ?_
 refine oY 5 17 86 1 rfl rfl rfl ?_
 refine kh 5 18 2 rfl rfl rfl ?_
 refine aF aa 2 rfl ?_
 refine aA (bQ rfl rfl rfl rfl rfl Try.underlying53) rfl ?_
 refine ad aa 1 rfl ?_
 refine af ?_
 refine aU ?_
 refine cj (β:=Nat×List bI) (fun (p:Nat×List bI)=>match p with|(q,m)=>⟨[(1,(aC (sa l))),(2,(aC (.p 0 0 0 0))),(4,(aC (.p 1 0 0 0))),(5,(aC cN)),(6,(aC (.p 2 0 0 0))),(8,(aC (.p 5 0 0 0))),(29,(aC (cR 3 ((s.cX).map gy)))),(30,(aI (↑s.cX.length:Int))),(31,(aI (↑q:Int)))],[(9,(pF ([]:List (List Int)))),(8,(cP ([]:List al))),(7,(dR ([]:List bH))),(6,(dO m)),(5,(.box 98 [(cI 0),(cB false),(.s 6 0 6 m.length),cN,(.s 7 0 8 0),(cI 0),(cw ([]:List bq)),(cI 0),(cw ([]:List bq)),(cI 0),(cI 0),(cW ([]:List cp)),(cW ([]:List cp)),(cI 0),(dr ([]:List Int)),(ei ([]:List cg)),(.s 8 0 4 0),(.s 9 0 1 0),(de ([]:List Entry)),(.m 4)])),(4,(.map (tV ([]:List (Int×Answer))) 0)),(2,(.box 50 [(cI 0),(cI 0)])),(1,(.box 46 [(cI 0),(cB false),cN,cN,cN,(cI 0),cN,(cI 0),cN,(cI 0),(cI 0),cN,cN,(cI 0),cN,cN,cN,cN,cN])),(0,(.box 55 [(cR 3 ((s.cX).map gy)),(cI s.gn),(cI s.cap)]))],10⟩) (fun (p:Nat×List bI)=>match p with|(q,m)=>q<=s.cX.length/\m=(s.cX.take q).map oT/\m.length=q) (fun (p:Nat×List bI)=>match p with|(q,m)=>s.cX.length - q) (0,([]:List bI)) ?_ ?_ ?_
 ·exact ⟨by omega,rfl,rfl⟩
 ·exact aH.bS id (by refine ⟨?_,?_,?_,?_,?_,?_,?_,?_,?_,trivial⟩<;>first|rfl|(simp only [bh];done)|(congr 3;omega)|(congr 4;omega)|(simp only [bj];rfl)) (by refine ⟨?_,?_,?_,?_,?_,?_,?_,?_,?_,trivial⟩<;>first|rfl|(simp only [bh];done)|(congr 3;omega)|(congr 4;omega)|(simp only [bj];rfl)) rfl
 rintro ⟨q,m⟩ ⟨hi0_0,hi0_1,hi0_2⟩
 refine ae aa 1 rfl ?_
 refine ag ?_
 refine aj rfl (fun hc3=>?_) (fun hc3=>?_)
 ·
  have hc3':=of_decide_eq_true hc3
  refine aP ?_
  refine ag ?_
  refine aU ?_
  refine fa ?_
  obtain ⟨x1,hx1⟩:=cb (xs:=s.cX) (i:=q) (by first|omega|(simp;done)|(simp;omega))
  refine aA (ca (i:=q) rfl rfl rfl Try.underlying53 Da (by first|omega|(simp;done)|(simp;omega)) (bf hx1)) rfl ?_
  refine ad aa 3 rfl ?_
  refine af ?_
  refine aW [1,2,4,5,6,8,29,30,31,10] [10,9,8,7,6,5,4,2,1,0] mixed rfl rfl ?_
  refine au (kn:=[]) aa 7 rfl trivial ?_
  refine aM (n':=11) [41] [] rfl rfl (.inl ⟨(ah.plain rfl),aE.cast (aE.Gb (cs':=[(cI 0),(cI 0),(cI x1.cD),(cI x1.count),(cI x1.sum),(eC ([]:List dc))]) 5 2 (wS (ys:=[(2,(.g [(cI x1.cD),(cI x1.count),(cI x1.sum)]))]) rfl FH rfl ⟨⟨rfl,rfl⟩,trivial⟩ rfl rfl) rfl rfl) rfl⟩) rfl ?_
  refine aM (n':=12) [42] [] rfl rfl (.inl ⟨(ah.plain rfl),aE.cast (dW (ys:=[(0,(.g [(cI 0),(cI 0),(cI x1.cD),(cI x1.count),(cI x1.sum),(eC ([]:List dc))]))]) (rows:=([(⟨0,0,x1,([]:List dc)⟩:bI)]).map oK) 11 xu rfl (by decide) ⟨⟨rfl,rfl⟩,trivial⟩ rfl rfl rfl rfl) rfl⟩) rfl ?_
  refine aM (n':=13) [40,43] [11,6] rfl rfl (.inl ⟨(ah.plain rfl),aE.cast (dx (m:=1) (N:=m.length+1) (k2:=12) (ys:=([(⟨0,0,x1,([]:List dc)⟩:bI)]).map oK) xu rfl rfl rfl rfl rfl rfl (by first|omega|(simp;done)|(simp;omega)) rfl (.s rfl (by first|omega|(simp;done)|(simp;omega))) (by first|omega|(simp;done)|(simp;omega)) (by first|omega|(simp;done)|(simp;omega)) fA (by decide) (by first|omega|(simp;done)|(simp;omega)) (by first|omega|(simp;done)|(simp;omega))) rfl⟩) rfl ?_
  refine au (kn:=[]) aa 3 rfl trivial ?_
  refine br [12,10,9,8,7,5,4,2,1,0] rfl rfl rfl rfl (by kernel_rfl) ?_
  refine ad aa 1 rfl ?_
  refine cf ?_
  refine bl ?_
  refine then_ok ?_
  refine aw ?_
  refine aA (aK rfl rfl rfl (aL (by first|omega|(simp;done)|(simp;omega)))) rfl ?_
  refine ad aa 1 rfl ?_
  refine af ?_
  refine ⟨(q+1,m++([(⟨0,0,x1,([]:List dc)⟩:bI)])),⟨by omega,by rw [hO hx1,List.map_append,<-hi0_1];rfl,by rw [List.length_append,hi0_2];rfl⟩,by first|omega|(simp;done)|(simp;omega),aH.bS (fun k=>if k=6 then 12 else k) (by refine ⟨?_,?_,?_,?_,?_,?_,?_,?_,?_,trivial⟩<;>first|rfl|(simp only [bh];done)|(congr 3;omega)|(congr 4;omega)|(simp only [bj];rfl)) (by refine ⟨?_,?_,?_,?_,?_,?_,?_,?_,?_,trivial⟩<;>first|rfl|(simp only [bh];done)|(congr 3;omega)|(congr 4;omega)|(simp only [bj];rfl)) rfl⟩
 have hc3':=of_decide_eq_false hc3
 refine bZ ?_
 refine aO ?_
 refine aO ?_
 refine bF ?_
 refine then_ok ?_
 refine aF aa 3 rfl ?_
 refine aQ 11 [10,9,8,7,6,5,4,2,1,0] (oO 10 mJ BO rfl rfl rfl (n:=Int.toNat (s.gn)) (by first|omega|(simp;done)|(simp;omega)) (by first|omega|(simp;done)|(simp;omega)) (by first|omega|(simp;done)|(simp;omega)) (by first|omega|(simp;done)|(simp;omega))) rfl ?_
 refine ad aa 4 rfl ?_
 refine af ?_
 refine aF aa 5 rfl ?_
 refine aA (bQ rfl rfl rfl rfl rfl Try.underlying53) rfl ?_
 have hr1:dC s.cap (↑s.cX.length:Int)=((dC s.cap (↑s.cX.length:Int)).1,(dC s.cap (↑s.cX.length:Int)).2):=rfl
 refine aQ 11 [10,9,8,7,6,5,4,2,1,0] (bX 11 (Fn.frozen (av':=(.t [(.g [(cI (((dC s.cap (↑s.cX.length:Int)).1).cap)),(dr (((dC s.cap (↑s.cX.length:Int)).1).used)),(ei (((dC s.cap (↑s.cX.length:Int)).1).aT))]),(.c (cI ((dC s.cap (↑s.cX.length:Int)).2)))])) (vU s.cap (↑s.cX.length:Int) ((dC s.cap (↑s.cX.length:Int)).1) ((dC s.cap (↑s.cX.length:Int)).2) hr1) ⟨⟨.inl ⟨_,rfl,rfl⟩,.inr ⟨_,_,_,_,_,rfl,rfl,rfl,by simp⟩,.inr ⟨_,_,_,_,_,rfl,rfl,rfl,by simp⟩,trivial⟩,.inl ⟨_,rfl,rfl⟩,trivial⟩) GJ rfl rfl ⟨⟨_,rfl,.c (.d _)⟩,⟨_,rfl,.c (.d _)⟩,trivial⟩ ⟨⟨trivial,trivial,trivial,trivial⟩,trivial,trivial⟩ trivial rfl rfl rfl rfl) rfl ?_
 refine ad aa 7 rfl ?_
 refine af ?_
 refine ae aa 1 rfl ?_
 refine ag ?_
 refine aF aa 1 rfl ?_
 refine aA (bQ rfl rfl rfl rfl rfl Try.underlying24) rfl ?_
 refine ad aa 1 rfl ?_
 refine af ?_
 refine aU ?_
 refine gY (aH.nil 11 65 2 (by decide) rfl) ?_
 have htk:m=s.cX.map oT:=by rw [hi0_1,List.take_of_length_le (by omega)]
 subst htk
 refine cj (β:=Nat×Bk×List (List Int)×List (Int×Answer)×Nat×List Answer) (fun (p:Nat×Bk×List (List Int)×List (Int×Answer)×Nat×List Answer)=>match p with|(u,b,days,told,cl,out)=>⟨[(1,(aC (sa l))),(2,(aC (.p 0 0 0 0))),(4,(aC (.p 1 0 0 0))),(5,(aC cN)),(6,(aC (.p 2 0 0 0))),(8,(aC (.p 5 0 0 0))),(29,(aC (cR 3 ((s.cX).map gy)))),(30,(aI (↑s.cX.length:Int))),(31,(aI (↑q:Int))),(11,(aC (.s 11 0 2 out.length))),(70,(aI (↑l.length:Int))),(71,(aI (↑u:Int)))],[(11,(EF out)),(10,(dF b.due)),(9,(pF days)),(8,(cP b.aR)),(7,(dR b.ax)),(6,(dO b.aq)),(5,(.box 98 (aX b 6 10 7 8 (.s 9 0 1 days.length) (.m 4)))),(4,(.map (tV told) cl)),(2,(.box 50 [(cI 0),(cI 0)])),(1,(.box 46 [(cI 0),(cB false),cN,cN,cN,(cI 0),cN,(cI 0),cN,(cI 0),(cI 0),cN,cN,(cI 0),cN,cN,cN,cN,cN])),(0,(.box 55 [(cR 3 ((s.cX).map gy)),(cI s.gn),(cI s.cap)]))],12⟩) (fun (p:Nat×Bk×List (List Int)×List (Int×Answer)×Nat×List Answer)=>match p with|(u,b,days,told,cl,out)=>u<=l.length/\jc l (gS s) [] [] 0 []=jc (l.drop u) b days told cl out/\ct b/\days.length<=u/\out.length=u) (fun (p:Nat×Bk×List (List Int)×List (Int×Answer)×Nat×List Answer)=>match p with|(u,b,days,told,cl,out)=>l.length - u) (0,gS s,([]:List (List Int)),([]:List (Int×Answer)),0,([]:List Answer)) ?_ ?_ ?_
 ·exact ⟨by omega,rfl,ct.start (by rw [hr0];omega),by simp,rfl⟩
 ·exact aH.bS id (by refine ⟨?_,?_,?_,?_,?_,?_,?_,?_,?_,?_,?_,?_,trivial⟩<;>first|rfl|(simp only [bh];done)|(congr 3;omega)|(congr 4;omega)|(simp only [bj];rfl)) (by refine ⟨?_,?_,?_,?_,?_,?_,?_,?_,?_,?_,?_,trivial⟩<;>first|rfl|(simp only [bh];done)|(congr 3;omega)|(congr 4;omega)|(simp only [bj];rfl)|(simp only [aX,gS,List.length_replicate];rfl)) rfl
 rintro ⟨u,b,days,told,cl,out⟩ ⟨hi1_0,hi1_1,hi1_2,hi1_3,hi1_4⟩
 refine ae aa 1 rfl ?_
 refine ag ?_
 refine aj rfl (fun hc4=>?_) (fun hc4=>?_)
 ·
  have hc4':=of_decide_eq_true hc4
  refine aP ?_
  refine ag ?_
  refine aU ?_
  refine ae aa 2 rfl ?_
  refine aw ?_
  refine ad aa 4 rfl ?_
  obtain ⟨x1,hx1⟩:=cb (xs:=l) (i:=u) (by first|omega|(simp;done)|(simp;omega))
  refine aA (ca (i:=u) rfl rfl rfl Try.underlying24 Dc (by first|omega|(simp;done)|(simp;omega)) (bf hx1)) rfl ?_
  obtain ⟨b22,y22,t22,c22,a22,hr2⟩:∃ (b22:Bk) (y22:List (List Int)) (t22:List (Int×Answer)) (c22:Nat) (a22:Answer),eG b days told cl x1=(b22,y22,t22,c22,a22):=⟨_,_,_,_,_,rfl⟩
  refine aQ 18 [5,12,13,14,15,16,17,11,2,1,0] (cq (bb [5,6,10,7,8,9,4]) (bb [5,12,13,14,15,16,17]) (ms:=(iQ b 1 2 3 4 (some (.s 5 0 1 days.length)) (some (.m 6)))) (ms':=(iQ b22 1 2 3 4 (some (.s 5 0 1 y22.length)) (some (.m 6)))) (fun x hx=>Ev x hx b days told cl x1 (by first|assumption|exact ct.tick (by assumption) (by omega) (by omega)) (by first|omega|(simp;done)|(simp;omega)) b22 y22 t22 c22 a22 hr2) GI rfl rfl ⟨⟨_,rfl,.inl ⟨rfl,rfl⟩⟩,⟨_,rfl,.inl ⟨rfl,rfl⟩⟩,trivial⟩ rfl rfl rfl rfl rfl rfl rfl ⟨rfl,rfl,rfl,rfl,rfl,rfl,trivial⟩ rfl rfl rfl rfl rfl rfl rfl rfl rfl rfl rfl rfl rfl) rfl ?_
  refine aQ 19 [18,5,12,13,14,15,16,17,11,2,1,0] (dW (ys:=[(0,(.g [(cI a22.err),(cI a22.aZ)]))]) (rows:=([a22]).map kZ) 18 Dd rfl (by decide) ⟨⟨rfl,rfl⟩,trivial⟩ rfl rfl rfl rfl) rfl ?_
  refine aQ 20 [19,18,5,12,13,14,15,16,17,2,1,0] (dx (m:=1) (N:=out.length+1) (k2:=19) (ys:=([a22]).map kZ) Dd rfl rfl rfl rfl rfl rfl (by first|omega|(simp;done)|(simp;omega)) rfl (.s rfl (by first|omega|(simp;done)|(simp;omega))) (by first|omega|(simp;done)|(simp;omega)) (by first|omega|(simp;done)|(simp;omega)) fA (by decide) (by first|omega|(simp;done)|(simp;omega)) (by first|omega|(simp;done)|(simp;omega))) rfl ?_
  refine ad aa 1 rfl ?_
  refine cf ?_
  refine bl ?_
  refine then_ok ?_
  refine aw ?_
  refine aA (aK rfl rfl rfl (aL (by first|omega|(simp;done)|(simp;omega)))) rfl ?_
  refine ad aa 1 rfl ?_
  refine af ?_
  refine ⟨(u+1,b22,y22,t22,c22,out++([a22])),⟨by omega,by rw [hi1_1,xC hx1,hr2],(by have h:=ct.once hi1_2 days told cl x1;rw [hr2] at h;exact h.1),(by have h:=(ct.once hi1_2 days told cl x1).2;rw [hr2] at h;dsimp only at h;omega),by rw [List.length_append,hi1_4];rfl⟩,by first|omega|(simp;done)|(simp;omega),aH.bS (fun k=>if k=11 then 19 else if k=4 then 17 else if k=9 then 16 else if k=8 then 15 else if k=7 then 14 else if k=10 then 13 else if k=6 then 12 else k) (by refine ⟨?_,?_,?_,?_,?_,?_,?_,?_,?_,?_,?_,?_,trivial⟩<;>first|rfl|(simp only [bh];done)|(congr 3;omega)|(congr 4;omega)|(simp only [bj];rfl)) (by refine ⟨?_,?_,?_,?_,?_,?_,?_,?_,?_,?_,?_,trivial⟩<;>first|rfl|(simp only [bh];done)|(congr 3;omega)|(congr 4;omega)|(simp only [bj];rfl)) rfl⟩
 have hc4':=of_decide_eq_false hc4
 refine bZ ?_
 refine aO ?_
 refine aO ?_
 refine bF ?_
 refine then_ok ?_
 refine ae aa 9 rfl ?_
 refine ay ?_
 have hX:fH s l=(b,days,out,(⟨0,0⟩:cY)):=by
   unfold fH;rw [hr0,if_neg (by omega),if_neg (by omega),hi1_1,List.drop_of_length_le (by omega)];rfl
 rw [hX] at hr;clear hX
 simp only [Prod.mk.injEq] at hr;obtain ⟨rfl,rfl,rfl,rfl⟩:=hr
 refine an aa [6,10,7,8,9,11,1,2] 6 rfl rfl rfl rfl rfl rfl ?_ ?_
 all_goals first|rfl|(simp [az,aX,bc];done)|(simp [az,aX,bc];omega)

theorem Bw:Fn Try.prog 43 [] (.v (.g [(.s 0 0 3 1),(cI 1),(cI 30)])) [(0,.arr 58 3 ([(⟨10,5,1000⟩:ey)].map gy))]:=by
 refine Fn.mk' 4 [] Try.func43 rfl rfl rfl rfl ?_
 intro W0 T0
 refine ae aa 1 rfl ?_
 refine aF aa 1 rfl ?_
 refine aQ 2 [1,0] (dW (ys:=[(0,(.g [(cI 10),(cI 5),(cI 1000)]))]) (rows:=([(⟨10,5,1000⟩:ey)]).map gy) 1 FW rfl (by decide) ⟨⟨rfl,rfl⟩,trivial⟩ rfl rfl rfl rfl) rfl ?_
 refine ad aa 2 rfl ?_
 refine af ?_
 refine ay ?_
 refine an aa [1,0] 1 rfl rfl rfl rfl rfl rfl ?_ ?_
 all_goals first|rfl|(simp [az,aX,bc];done)|(simp [az,aX,bc];omega)
theorem BD:Fn Try.prog 25 [] (aB true) []:=by
 refine Fn.mk' 66 [] Try.func25 rfl rfl rfl rfl ?_
 intro W0 T0
 refine ae aa 1 rfl ?_
 refine fa ?_
 refine aQ 0 [] (bX 0 (Fn.frozen (av':=(aG [(cR 3 (([(⟨10,5,1000⟩:ey)]).map gy)),(cI 1),(cI 30)])) (Bw) ⟨.inr ⟨_,_,_,_,_,rfl,rfl,rfl,by simp⟩,.inl ⟨_,rfl,rfl⟩,.inl ⟨_,rfl,rfl⟩,trivial⟩) GH rfl rfl trivial ⟨trivial,trivial,trivial,trivial⟩ trivial rfl rfl rfl rfl) rfl ?_
 refine ad aa 5 rfl ?_
 refine aQ 1 [0] (dW (ys:=[(0,(.g [(cI 0),(cI 1),(cI 0),(cI 0),(cI 0),(cI 100)])),(1,(.g [(cI 0),(cI 2),(cI 0),(cI 0),(cI 0),(cI 60)])),(2,(.g [(cI 0),(cI 3),(cI 0),(cI 0),(cI 2),(cI 40)])),(3,(.g [(cI 0),(cI 5),(cI 0),(cI 0),(cI 0),(cI 0)])),(4,(.g [(cI 0),(cI 6),(cI 1),(cI 0),(cI 0),(cI 0)]))]) (rows:=([(⟨0,1,0,0,0,100⟩:bB),(⟨0,2,0,0,0,60⟩:bB),(⟨0,3,0,0,2,40⟩:bB),(⟨0,5,0,0,0,0⟩:bB),(⟨0,6,1,0,0,0⟩:bB)]).map df) 0 FX rfl (by decide) ⟨⟨rfl,rfl⟩,⟨rfl,rfl⟩,⟨rfl,rfl⟩,⟨rfl,rfl⟩,⟨rfl,rfl⟩,trivial⟩ rfl rfl rfl rfl) rfl ?_
 refine tm (s':=[(0,(aB false)),(5,(aG [(cR 3 (([(⟨10,5,1000⟩:ey)]).map gy)),(cI 1),(cI 30)])),(6,(aG [(cI 0),(cI 1),(cI 0),(cI 0),(cI 0),(cI 100)])),(7,(aG [(cI 0),(cI 2),(cI 0),(cI 0),(cI 0),(cI 60)])),(8,(aG [(cI 0),(cI 3),(cI 0),(cI 0),(cI 2),(cI 40)])),(9,(aG [(cI 0),(cI 5),(cI 0),(cI 0),(cI 0),(cI 0)])),(10,(aG [(cI 0),(cI 6),(cI 1),(cI 0),(cI 0),(cI 0)])),(11,(aC (sa ([(⟨0,1,0,0,0,100⟩:bB),(⟨0,2,0,0,0,60⟩:bB),(⟨0,3,0,0,2,40⟩:bB),(⟨0,5,0,0,0,0⟩:bB),(⟨0,6,1,0,0,0⟩:bB)]))))]) (h':=[]) 0 rfl ⟨⟨_,rfl,.inl ⟨rfl,rfl⟩⟩,⟨_,rfl,.inl ⟨rfl,rfl⟩⟩,⟨_,rfl,.inl ⟨rfl,rfl⟩⟩,⟨_,rfl,.inl ⟨rfl,rfl⟩⟩,⟨_,rfl,.inl ⟨rfl,rfl⟩⟩,⟨_,rfl,.inl ⟨rfl,rfl⟩⟩,⟨_,rfl,.inl ⟨rfl,rfl⟩⟩,⟨_,rfl,.inr ⟨_,_,rfl,rfl,.s rfl (by decide) (by first|omega|(simp;done)|(simp;omega))⟩⟩,trivial⟩ trivial rfl ?_
 have hr0:fH (⟨[(⟨10,5,1000⟩:ey)],1,30⟩:Setup) ([(⟨0,1,0,0,0,100⟩:bB),(⟨0,2,0,0,0,60⟩:bB),(⟨0,3,0,0,2,40⟩:bB),(⟨0,5,0,0,0,0⟩:bB),(⟨0,6,1,0,0,0⟩:bB)])=((⟨0,false,[⟨60,20,⟨10,5,1000⟩,[⟨0,60⟩]⟩],[40],[⟨0,0,60,40,0,0,100,false⟩],⟨1,[⟨1,1,0,40⟩]⟩,⟨0,[]⟩,0,1,[],[⟨⟨0,0,0,0⟩,0⟩],⟨30,[0],[]⟩,[⟨0,0,2,40⟩],[⟨0,-100⟩,⟨10,60⟩,⟨50,40⟩]⟩:Bk),[],[(⟨0,0⟩:Answer),(⟨0,0⟩:Answer),(⟨0,0⟩:Answer),(⟨0,0⟩:Answer),(⟨0,0⟩:Answer)],(⟨0,0⟩:cY)):=by kernel_rfl
 refine aQ 1 [] (bX 1 (Fn.frozen (av':=(.t [(.g [(cI 0),(cB false),(iN ([⟨60,20,⟨10,5,1000⟩,[⟨0,60⟩]⟩])),(dr ([40])),(iu ([⟨0,0,60,40,0,0,100,false⟩])),(cI 1),(cw ([⟨1,1,0,40⟩])),(cI 0),(cw ([])),(cI 0),(cI 1),(cW ([])),(cW ([⟨⟨0,0,0,0⟩,0⟩])),(cI 30),(dr ([0])),(ei ([])),(eP ([⟨0,0,2,40⟩])),(iM ([])),(de ([⟨0,-100⟩,⟨10,60⟩,⟨50,40⟩]))]),(.c (BR ([(⟨0,0⟩:Answer),(⟨0,0⟩:Answer),(⟨0,0⟩:Answer),(⟨0,0⟩:Answer),(⟨0,0⟩:Answer)]))),(.g [(cI 0),(cI 0)])])) (vu (⟨[(⟨10,5,1000⟩:ey)],1,30⟩:Setup) ([(⟨0,1,0,0,0,100⟩:bB),(⟨0,2,0,0,0,60⟩:bB),(⟨0,3,0,0,2,40⟩:bB),(⟨0,5,0,0,0,0⟩:bB),(⟨0,6,1,0,0,0⟩:bB)]) (⟨0,false,[⟨60,20,⟨10,5,1000⟩,[⟨0,60⟩]⟩],[40],[⟨0,0,60,40,0,0,100,false⟩],⟨1,[⟨1,1,0,40⟩]⟩,⟨0,[]⟩,0,1,[],[⟨⟨0,0,0,0⟩,0⟩],⟨30,[0],[]⟩,[⟨0,0,2,40⟩],[⟨0,-100⟩,⟨10,60⟩,⟨50,40⟩]⟩:Bk) ([]) ([(⟨0,0⟩:Answer),(⟨0,0⟩:Answer),(⟨0,0⟩:Answer),(⟨0,0⟩:Answer),(⟨0,0⟩:Answer)]) (⟨0,0⟩:cY) hr0) ⟨⟨.inl ⟨_,rfl,rfl⟩,.inl ⟨_,rfl,rfl⟩,.inr ⟨_,_,_,_,_,rfl,rfl,rfl,by simp⟩,.inr ⟨_,_,_,_,_,rfl,rfl,rfl,by simp⟩,.inr ⟨_,_,_,_,_,rfl,rfl,rfl,by simp⟩,.inl ⟨_,rfl,rfl⟩,.inl ⟨_,rfl,rfl⟩,.inl ⟨_,rfl,rfl⟩,.inl ⟨_,rfl,rfl⟩,.inl ⟨_,rfl,rfl⟩,.inl ⟨_,rfl,rfl⟩,.inl ⟨_,rfl,rfl⟩,.inl ⟨_,rfl,rfl⟩,.inl ⟨_,rfl,rfl⟩,.inl ⟨_,rfl,rfl⟩,.inl ⟨_,rfl,rfl⟩,.inr ⟨_,_,_,_,_,rfl,rfl,rfl,by simp⟩,.inr ⟨_,_,_,_,_,rfl,rfl,rfl,by simp⟩,.inl ⟨_,rfl,rfl⟩,trivial⟩,.inr ⟨_,_,_,_,_,rfl,rfl,rfl,by simp⟩,⟨.inl ⟨_,rfl,rfl⟩,.inl ⟨_,rfl,rfl⟩,trivial⟩,trivial⟩) Bo rfl rfl ⟨⟨_,rfl,.g ⟨.d _,.d _,.d _,trivial⟩⟩,⟨_,rfl,.c (.d _)⟩,trivial⟩ ⟨⟨trivial,trivial,trivial,trivial,trivial,trivial,trivial,trivial,trivial,trivial,trivial,trivial,trivial,trivial,trivial,trivial,trivial,trivial,trivial,trivial⟩,trivial,⟨trivial,trivial,trivial⟩,trivial⟩ trivial rfl rfl rfl rfl) rfl ?_
 refine ad aa 9 rfl ?_
 refine af ?_
 refine aF aa 2 rfl ?_
 refine aA (aK rfl rfl rfl (show _=some (Value.bool true) from rfl)) rfl ?_
 refine ad aa 2 rfl ?_
 refine cC (ah.yes rfl rfl rfl) (bQ rfl rfl rfl rfl rfl Try.underlying47) rfl rfl ?_
 refine cC (ah.yes rfl rfl rfl) (aK rfl rfl rfl (show _=some (Value.bool true) from rfl)) rfl rfl ?_
 refine ad aa 3 rfl ?_
 refine cC (ah.yes rfl rfl rfl) (ca (i:=4) rfl rfl rfl Try.underlying47 CZ (by first|omega|(simp;done)|(simp;omega)) (bf (show ([(⟨0,0⟩:Answer),(⟨0,0⟩:Answer),(⟨0,0⟩:Answer),(⟨0,0⟩:Answer),(⟨0,0⟩:Answer)]:List Answer)[4]?=some (⟨0,0⟩:Answer) from rfl))) rfl rfl ?_
 refine ad aa 2 rfl ?_
 refine cC (ah.yes rfl rfl rfl) (aK rfl rfl rfl (show _=some (Value.bool true) from rfl)) rfl rfl ?_
 refine ad aa 4 rfl ?_
 refine cC (ah.yes rfl rfl rfl) (bQ rfl rfl rfl rfl rfl Try.underlying30) rfl rfl ?_
 refine cC (ah.yes rfl rfl rfl) (aK rfl rfl rfl (show _=some (Value.bool true) from rfl)) rfl rfl ?_
 refine ad aa 4 rfl ?_
 refine cC (ah.yes rfl rfl rfl) (bQ rfl rfl rfl rfl rfl Try.underlying29) rfl rfl ?_
 refine cC (ah.yes rfl rfl rfl) (aK rfl rfl rfl (show _=some (Value.bool true) from rfl)) rfl rfl ?_
 refine ad aa 4 rfl ?_
 refine cC (ah.yes rfl rfl rfl) (ca (i:=0) rfl rfl rfl Try.underlying30 fF (by first|omega|(simp;done)|(simp;omega)) (bf (show ([40]:List Int)[0]?=some 40 from rfl))) rfl rfl ?_
 refine ad aa 1 rfl ?_
 refine cC (ah.yes rfl rfl rfl) (aK rfl rfl rfl (show _=some (Value.bool true) from rfl)) rfl rfl ?_
 refine ad aa 4 rfl ?_
 refine cC (ah.yes rfl rfl rfl) (ca (i:=0) rfl rfl rfl Try.underlying29 iq (by first|omega|(simp;done)|(simp;omega)) (bf (show ([⟨60,20,⟨10,5,1000⟩,[⟨0,60⟩]⟩]:List bI)[0]?=some (⟨60,20,⟨10,5,1000⟩,[⟨0,60⟩]⟩:bI) from rfl))) rfl rfl ?_
 refine ad aa 2 rfl ?_
 refine cC (ah.yes rfl rfl rfl) (aK rfl rfl rfl (show _=some (Value.bool true) from rfl)) rfl rfl ?_
 refine ad aa 4 rfl ?_
 refine cC (ah.yes rfl rfl rfl) (ca (i:=0) rfl rfl rfl Try.underlying29 iq (by first|omega|(simp;done)|(simp;omega)) (bf (show ([⟨60,20,⟨10,5,1000⟩,[⟨0,60⟩]⟩]:List bI)[0]?=some (⟨60,20,⟨10,5,1000⟩,[⟨0,60⟩]⟩:bI) from rfl))) rfl rfl ?_
 refine ad aa 2 rfl ?_
 refine cC (ah.yes rfl rfl rfl) (aK rfl rfl rfl (show _=some (Value.bool true) from rfl)) rfl rfl ?_
 refine ad aa 2 rfl ?_
 refine af ?_
 refine ay ?_
 refine an aa [] 0 rfl rfl rfl rfl rfl rfl ?_ ?_
 all_goals first|rfl|(simp [az,aX,bc];done)|(simp [az,aX,bc];omega)
section
section
variable {P:Program} {W0:World} {F:Nat->Prop} {N:NT} {T0:Nat->Prop} {pin:List (Nat×bM)} {Q:Exit->aJ->Prop} {st:aJ}
def yo:List Oper->List Oper->Option (List Oper)
 |[],m=>some m
 |o::l,m=>match yo l m with
  |some r=>some (o::r)
  |none=>none
theorem xc:∀ {l m r:List Oper},yo l m=some r->l++m=r
 |[],m,r,h=>by cases h;rfl
 |o::l,m,r,h=>by
  unfold yo at h
  split at h
  ·rename_i r' h';injection h with h;subst h;rw [List.cons_append,xc h']
  ·cases h
end
def tM (P:Program):Nat->TypeId->Value->Prop
 |0,_,_=>False
 |d+1,t,v=>(∃ k k' a,P.underlying t=some (.int k')/\v=.int k a)\/(∃ a,P.underlying t=some .bool/\v=.bool a)\/
  (∃ fs xs,P.underlying t=some (.struct fs)/\P.stoodInHeld t=false/\v=.agg xs/\∀ f∈fs.toList,f.name≠ "_"/\∃ u,(∀ w,(part f.type xs f.offset).run P w=.ok u w)/\tM P d f.type u)\/
  (∃ n e m xs,P.underlying t=some (.array n e)/\(P.info? e).map (·.size)=some m/\v=.agg xs/\∀ j,j < n->∃ u,(∀ w,(part e xs (j * m)).run P w=.ok u w)/\tM P d e u)
theorem mN {P:Program} (c:Nat):∀ (d:Nat) (t:TypeId) (v:Value),tM P d t v->∀ w,(Op.equalIn (c+d) t v v).run P w=.ok true w
 |0,_,_,h,_=>h.elim
 |d+1,t,v,h,w=>by
  rcases h with ⟨k,k',a,hu,rfl⟩|⟨a,hu,rfl⟩|⟨fs,xs,hu,hp,rfl,hf⟩|⟨n,e,m,xs,hu,hm,rfl,hf⟩
  ·have:=run_equalIn_int (P:=P) w (c+d) t k k' a a hu
   rw [show c+(d+1)=c+d+1 by omega,this];simp
  ·have:=run_equalIn_bool (P:=P) w (c+d) t a a hu
   rw [show c+(d+1)=c+d+1 by omega,this];simp
  ·have hfs:Go.Program.fieldsOf P t=fs:=by simp [Go.Program.fieldsOf,hu]
   have:=run_equalIn_struct (P:=P) w (c+d) t xs xs (by rw [hfs];exact hu) hp
   rw [show c+(d+1)=c+d+1 by omega,this,hfs]
   clear this hfs hu
   generalize fs.toList=l at hf
   induction l with
   |nil=>simp [Op.eqFields]
   |cons f l ih=>
    obtain ⟨h1,u,h2,h3⟩:=hf f List.mem_cons_self
    simp only [Op.eqFields,h1,ne_eq,not_false_eq_true,if_true,Sem.run_bind,h2,Result.andThen_ok,mN c d f.type u h3 w,Bool.not_true,Bool.false_eq_true,if_false]
    exact ih fun g hg=>hf g (List.mem_cons_of_mem _ hg)
  ·cases hi:P.info? e with
   |none=>rw [hi] at hm;cases hm
   |some i=>
    have hc:P.cellsOf e=m:=by rw [hi] at hm;unfold Program.cellsOf;rw [hi];simpa using hm
    have:=run_equalIn_array (P:=P) w (c+d) xs xs hu hi
    rw [show c+(d+1)=c+d+1 by omega,this,hc]
    have hl:∀ j∈List.range n,∃ u,(∀ w,(part e xs (j * m)).run P w=.ok u w)/\tM P d e u:=fun j hj=>hf j (List.mem_range.1 hj)
    clear this hf
    generalize List.range n=l at hl
    induction l with
    |nil=>simp [Op.eqItems]
    |cons j l ih=>
     obtain ⟨u,h2,h3⟩:=hl j List.mem_cons_self
     simp only [Op.eqItems,Sem.run_bind,h2,Result.andThen_ok,mN c d e u h3 w,Bool.not_true,Bool.false_eq_true,if_false]
     exact ih fun g hg=>hl g (List.mem_cons_of_mem _ hg)
theorem mU {P:Program} {t off:Nat} {d:TypeDesc} {xs:Array Value} {v:Value} (hu:P.underlying t=some d) (hd:jj d=false) (h:xs[off]?=some v):∀ w,(part t xs off).run P w=.ok v w:=fun w=>by
 simp [part,gZ hu,hd,h]
theorem AD {P:Program} {t off n:Nat} {d:TypeDesc} {xs ys:Array Value} (hu:P.underlying t=some d) (hd:jj d=true) (hz:(P.info? t).map (·.size)=some n) (h:xs.extract off (off+n)=ys):∀ w,(part t xs off).run P w=.ok (.agg ys) w:=fun w=>by
 cases hi:P.info? t with
 |none=>rw [hi] at hz;cases hz
 |some i=>
  have hc:P.cellsOf t=n:=by rw [hi] at hz;unfold Program.cellsOf;rw [hi];simpa using hz
  simp [part,gZ hu,hd,run_sizeOf w hi,hc,h]
theorem uU {P:Program} {st:aJ} {o:Oper} {t yt:TypeId} {x y:Operand} {xs:List Value} {cx:List CV} (hg:P.eqGuardType P.depth t=false) (hs:∀ w,(Op.equalIn 10000 t (.agg xs.toArray) (.agg xs.toArray)).run P w=.ok true w) (ho:o.op=.binOp .neq t x y yt) (hx:ev st x (.v (.g cx))) (hy:ev st y (.v (.g cx))) (hcx:(xs.map fun x=>CV.d (.v x))=cx):aE P o st (aB false) [] []:=
 aE.val fun σ T a w C=>by
  subst hcx
  obtain ⟨vs,h1,h2⟩:=bD C hx
  obtain ⟨us,h3,h4⟩:=bD C hy
  rw [iE h2] at h1
  rw [iE h4] at h3
  refine ⟨.bool false,?_,bm.v _ rfl⟩
  unfold execOp
  simp only [ho,h1,h3,Sem.run_bind,run_eqGuard_agg w .neq t x y _ _ hg,Result.andThen_ok,run_neq_struct,hs]
  rfl
end
section
section
variable {P:Program} {W0:World} {F:Nat->Prop} {N:NT} {T0:Nat->Prop} {pin:List (Nat×bM)} {Q:Exit->aJ->Prop} {st:aJ}
theorem Ae {id:Nat} {l m r:List Oper} (hr:yo l m=some r) (h:AL P W0 F N T0 pin r.toArray Q r st):AC P W0 F N T0 pin Q (.region id (List.toArray (List.append l m)) false) st:=by
 have e:List.toArray (List.append l m)=r.toArray:=by rw [<-xc hr];rfl
 rw [e]
 exact aw h
end
end
end Go.Proofs.Ytegepioggeggaaa.Dev
