/- A part of the proof: BankUp, Bank12, Bank13, Play0, Play1, Law8, Sh35, Sh36. No condition. -/
import Derived.Test.YtegepioggeggaaaD12
import Derived.Test.YtegepioggeggaaaD13
set_option linter.unusedVariables false
set_option linter.unusedSimpArgs false
set_option maxHeartbeats 8000000
set_option maxRecDepth 100000
namespace Go.Proofs.Ytegepioggeggaaa.Dev
open Go.RowKit

theorem HF (x:Nat->Value) (hx:∀ i,(x i).oneCell'=true) (b:Bk) (ok:cz b) (b2:Bk) (a2:Answer) (hr:iM b=(b2,a2)):cM Try.prog 68 [(.c (.p 0 0 0 0))] [(0,(.box 98 (aZ b 1 2 3 4 (.d (.v (x 17))) (.d (.v (x 19)))))),(1,(dV b.al)),(2,(dL b.due)),(3,(dY b.au)),(4,(cT b.aS))] [0] (.v (.g [cI a2.err,cI a2.bd])) [(0,(.box 98 (aZ b2 1 2 3 4 (.d (.v (x 17))) (.d (.v (x 19)))))),(1,(dV b2.al)),(2,(dL b2.due)),(3,(dY b2.au)),(4,(cT b2.aS))]:=by
 refine cM.mk 116 [(0,(aC (.p 0 0 0 0)))] 5 Try.func68 rfl rfl rfl rfl rfl rfl rfl rfl rfl ?_
 intro W0 F0 T0 pg
 obtain ⟨okt,okc,okd,oka,oky,okw0,okw1,okp,okv,okk0,okk1,okg,okl0,okl1,okp0,okp1,okn0,okn1,okq⟩:=id ok
 refine ae aa 1 rfl ?_
 refine ag ?_
 refine ae aa 6 rfl ?_
 refine aj rfl (fun hc1=>?_) (fun hc1=>?_)
 ·
  have hc1':=hc1;try simp only [bx,bV] at hc1'
  refine ae aa 2 rfl ?_
  refine aA ?_
  refine ax ?_
  have hX:iM b=(b,(⟨8,0⟩:Answer)):=by
    unfold iM;rw [if_pos (by cases hd:b.down<;>simp_all)]
  rw [hX] at hr;clear hX
  simp only [Prod.mk.injEq] at hr;obtain ⟨rfl,rfl⟩:=hr
  refine aq aa [0,1,2,3,4,5] 5 rfl rfl rfl rfl rfl rfl ?_ ?_
  all_goals first|rfl|(simp [aD,aZ,bm];done)|(simp [aD,aZ,bm];omega)
 have hc1':=hc1;try simp only [bx,bV] at hc1'
 refine aQ ?_
 refine aH aa 5 rfl ?_
 obtain ⟨xr0,l0,e0,hr0⟩:∃ (xr0:cH) (l0:List cp) (e0:Int),cX b.aY=(xr0,l0,e0):=⟨_,_,_,rfl⟩
 refine aT 6 [5,0,1,2,3,4] (bU 6 (Fn.frozen (av':=(.t [(.g [(cI xr0.cap),(df xr0.used),(eb xr0.aU)]),(.c (eb l0)),(.c (cI e0))])) (uA b.aY xr0 l0 e0 hr0) ⟨⟨.inl ⟨_,rfl,rfl⟩,.inr ⟨_,_,_,_,_,rfl,rfl,rfl,by simp⟩,.inr ⟨_,_,_,_,_,rfl,rfl,rfl,by simp⟩,trivial⟩,.inr ⟨_,_,_,_,_,rfl,rfl,rfl,by simp⟩,.inl ⟨_,rfl,rfl⟩,trivial⟩) Hd rfl rfl ⟨⟨_,rfl,.g ⟨.d _,.d _,.d _,trivial⟩⟩,trivial⟩ ⟨⟨trivial,trivial,trivial,trivial⟩,trivial,trivial,trivial⟩ trivial rfl rfl rfl rfl) rfl ?_
 refine ad aa 8 rfl ?_
 refine af ?_
 refine ag ?_
 refine ae aa 2 rfl ?_
 refine aj rfl (fun hc2=>?_) (fun hc2=>?_)
 ·
  have hc2':=of_decide_eq_true hc2
  refine ae aa 3 rfl ?_
  refine aA ?_
  refine ax ?_
  have hX:iM b=(b,(⟨e0,0⟩:Answer)):=by
    unfold iM;rw [if_neg (by cases hd:b.down<;>simp_all),hr0];dsimp only;rw [if_pos (by omega)]
  rw [hX] at hr;clear hX
  simp only [Prod.mk.injEq] at hr;obtain ⟨rfl,rfl⟩:=hr
  refine aq aa [0,1,2,3,4,5] 5 rfl rfl rfl rfl rfl rfl ?_ ?_
  all_goals first|rfl|(simp [aD,aZ,bm];done)|(simp [aD,aZ,bm];omega)
 have hc2':=of_decide_eq_false hc2
 refine aQ ?_
 refine aH aa 1 rfl ?_
 refine aT 16 [0,7,8,9,10,11,12,13,14,15,6,5] (cO id (bh [0,7,8,9,10,11,12,13,14,15]) (kD (x 17) (x 19) b (by first|omega|(simp;done)|(simp;omega)) (by first|omega|(simp;done)|(simp;omega)) (by first|omega|(simp;done)|(simp;omega)) (by first|omega|(simp;done)|(simp;omega))) qY rfl rfl ⟨⟨_,rfl,.inl ⟨rfl,rfl⟩⟩,trivial⟩ ⟨rfl,rfl,rfl,rfl,rfl,trivial⟩ rfl rfl rfl rfl rfl rfl trivial ⟨⟨trivial,trivial,trivial,trivial,trivial,trivial,trivial,trivial,trivial,trivial,trivial,trivial,trivial,trivial,trivial,trivial,trivial,trivial,trivial,trivial,trivial⟩,⟨trivial,trivial,trivial,trivial,trivial,trivial,trivial,trivial,trivial,trivial,trivial,trivial,trivial,trivial,trivial,trivial,trivial,trivial,trivial,trivial,trivial⟩,(fun _ _ _ _=>trivial),(fun _ _ _ _=>trivial),(fun _ _ _ _=>trivial),(fun _ _ _ _=>trivial),(fun _ _ _ _=>trivial),(fun _ _ _ _=>trivial),(fun _ _ _ _=>trivial),(fun _ _ _ _=>trivial),trivial⟩ rfl rfl rfl rfl) rfl ?_
 refine ad aa 1 rfl ?_
 refine af ?_
 refine ag ?_
 obtain rfl:e0=0:=by omega
 have hcl:l0=b.aY.aU:=by have h:=(nY (s:=b.aY) (by rw [hr0])).2.2;rw [hr0] at h;exact h
 refine aH aa 1 rfl ?_
 refine az (bP rfl rfl rfl rfl rfl Try.underlying39) rfl ?_
 refine ad aa 1 rfl ?_
 refine af ?_
 refine aR ?_
 refine ch (β:=Nat×List bD×List bC) (fun (p:Nat×List bD×List bC)=>match p with|(q,cs,xs)=>⟨[(0,(aC (.p 0 0 0 0))),(2,(aC (.p 5 0 0 0))),(3,(aC (.p 6 0 0 0))),(6,(aC (.p 7 0 0 0))),(36,(aC (eb l0))),(37,(aI (↑l0.length:Int))),(38,(aI (↑q:Int)))],[(0,(.box 98 (aZ b 8 9 10 11 (.d (.v (x 17))) (.d (.v (x 19)))))),(7,(.box 147 (((aZ b 12 13 14 15 (.d (.v (x 17))) (cI 0)).set 2 (.s 12 0 6 cs.length)).set 4 (.s 14 0 8 xs.length)))),(8,(dV b.al)),(9,(dL b.due)),(10,(dY b.au)),(11,(cT b.aS)),(12,(dV cs)),(13,(dL b.due)),(14,(dY xs)),(15,(cT b.aS)),(6,(.box 41 [(cI xr0.cap),(df xr0.used),(eb xr0.aU)])),(5,(.box 65 [(cI 0),(cI 0)]))],16⟩) (fun (p:Nat×List bD×List bC)=>match p with|(q,cs,xs)=>q<=l0.length/\fK l0 b.al b.au=fK (l0.drop q) cs xs/\cs.length=b.al.length/\xs.length=b.au.length+q) (fun (p:Nat×List bD×List bC)=>match p with|(q,cs,xs)=>l0.length - q) (0,b.al,b.au) ?_ ?_ ?_
 ·exact ⟨by omega,rfl,rfl,rfl⟩
 ·exact aF.bL id (by refine ⟨?_,?_,?_,?_,?_,?_,?_,trivial⟩<;>first|rfl|(simp only [ba];done)|(congr 3;omega)|(congr 4;omega)|(simp only [bb];rfl)) (by refine ⟨?_,?_,?_,?_,?_,?_,?_,?_,?_,?_,?_,?_,trivial⟩<;>first|rfl|(simp only [ba];done)|(congr 3;omega)|(congr 4;omega)|(simp only [bb];rfl)) rfl
 rintro ⟨q,cs,xs⟩ ⟨hi0_0,hi0_1,hi0_2,hi0_3⟩
 have hll:b.au.length+l0.length<=30:=by rw [hcl];exact oka
 refine ae aa 1 rfl ?_
 refine ag ?_
 refine aj rfl (fun hc3=>?_) (fun hc3=>?_)
 ·
  have hc3':=of_decide_eq_true hc3
  refine aQ ?_
  refine ag ?_
  refine aR ?_
  refine eK ?_
  obtain ⟨x1,hx1⟩:=cg (xs:=l0) (i:=q) (by first|omega|(simp;done)|(simp;omega))
  have hx1A:=okv x1 (by rw [<-hcl];exact List.mem_of_getElem? hx1)
  refine az (bX (i:=q) rfl rfl rfl Try.underlying39 uF (by first|omega|(simp;done)|(simp;omega)) (bj hx1)) rfl ?_
  refine ad aa 3 rfl ?_
  refine af ?_
  refine aH aa 8 rfl ?_
  obtain ⟨b1,e1,hr1⟩:∃ (b1:bC) (e1:Int),dm x1.aO x1.aE x1.sum x1.time=(b1,e1):=⟨_,_,rfl⟩
  refine aT 17 [16,0,7,8,9,10,11,12,13,14,15,6,5] (bU 17 (sc x1.aO x1.aE x1.sum x1.time b1 e1 hr1) EK rfl rfl ⟨⟨_,rfl,.c (.d _)⟩,⟨_,rfl,.c (.d _)⟩,⟨_,rfl,.c (.d _)⟩,⟨_,rfl,.c (.d _)⟩,trivial⟩ ⟨⟨trivial,trivial,trivial,trivial,trivial,trivial,trivial,trivial,trivial⟩,trivial,trivial⟩ trivial rfl rfl rfl rfl) rfl ?_
  refine ad aa 6 rfl ?_
  refine af ?_
  refine ag ?_
  refine aH aa 2 rfl ?_
  obtain ⟨e22,hr2⟩:∃ (e22:Int),dG 0 e1=e22:=⟨_,rfl⟩
  refine aT 18 [7,17,16,0,8,9,10,11,12,13,14,15,6,5] (cu (bh [7]) (bh [7]) (ms:=(dD.set 19 (some (cI 0)))) (ms':=(dD.set 19 (some (cI e22)))) (fun x hx=>kd x hx 0 e1 e22 hr2) nT rfl rfl ⟨⟨_,rfl,.inl ⟨rfl,rfl⟩⟩,⟨_,rfl,.inr (.c (.d _))⟩,trivial⟩ rfl rfl rfl rfl rfl rfl rfl trivial rfl rfl rfl rfl rfl rfl rfl rfl rfl rfl rfl rfl rfl) rfl ?_
  refine af ?_
  refine aj rfl (fun hc4=>?_) (fun hc4=>?_)
  ·
   have hc4':=of_decide_eq_true hc4
   refine bT ?_
   refine aN ?_
   refine si rfl ?_
   refine aN ?_
   refine aN ?_
   refine bA ?_
   refine then_ok ?_
   refine ae aa 11 rfl ?_
   refine ag ?_
   refine aH aa 2 rfl ?_
   refine aT 22 [0,18,19,20,21,17,16,6,5] (cO (bh [0,7,8,9,10,11,12,13,14,15]) (bh [0,18,19,20,21]) (gh (x 17) (x 19) b (⟨b.time,false,cs,b.due,xs,b.s0,b.s1,b.n0,b.n1,b.w0,b.w1,xr0,b.aS,b.book⟩:Bk) e22 (by first|assumption|omega)) fO rfl rfl ⟨⟨_,rfl,.inl ⟨rfl,rfl⟩⟩,⟨_,rfl,.inl ⟨rfl,rfl⟩⟩,trivial⟩ ⟨rfl,rfl,rfl,rfl,rfl,rfl,rfl,rfl,rfl,rfl,trivial⟩ rfl rfl rfl rfl rfl rfl trivial ⟨⟨trivial,trivial,trivial,trivial,trivial,trivial,trivial,trivial,trivial,trivial,trivial,trivial,trivial,trivial,trivial,trivial,trivial,trivial,trivial,trivial,trivial⟩,(fun _ _ _ _=>trivial),(fun _ _ _ _=>trivial),(fun _ _ _ _=>trivial),(fun _ _ _ _=>trivial),trivial⟩ rfl rfl rfl rfl) rfl ?_
   refine ad aa 1 rfl ?_
   refine af ?_
   refine ae aa 2 rfl ?_
   refine aj rfl (fun _=>?_) (fun hno=>absurd (hc4.symm.trans hno) (by decide))
   refine ae aa 3 rfl ?_
   refine aA ?_
   refine ax ?_
   have hX:iM b=(b,(⟨e22,0⟩:Answer)):=by
     exact zy (by cases hd:b.down<;>simp_all) hr0 (hi0_1.trans (Bo hx1 hr1 hr2 (by omega))) (by omega)
   rw [hX] at hr;clear hX
   simp only [Prod.mk.injEq] at hr;obtain ⟨rfl,rfl⟩:=hr
   refine aq aa [0,18,19,20,21,5] 5 rfl rfl rfl rfl rfl rfl ?_ ?_
   all_goals first|rfl|(simp [aD,aZ,bm];done)|(simp [aD,aZ,bm];omega)
  have hc4':=of_decide_eq_false hc4
  refine aQ ?_
  obtain rfl:e22=0:=by omega
  refine ag ?_
  obtain ⟨x2,hx2⟩:=cg (xs:=cs) (i:=Int.toNat (x1.aO)) (by first|omega|(simp;done)|(simp;omega))
  obtain ⟨xr3,e3,hr3⟩:∃ (xr3:bD) (e3:Int),eP x2 x1.sum=(xr3,e3):=⟨_,_,rfl⟩
  refine di [0,2,3,6,36,37,38,8,9] [7,17,16,0,8,9,10,11,12,13,14,15,6,5] mixed rfl rfl ?_
  refine bW (kn:=[]) aa 7 rfl trivial ?_
  refine cb (n':=18) [62,64] [12] rfl rfl (.inl ⟨(ah.plain rfl),aJ.cast (bz (i:=Int.toNat (x1.aO)) rfl rfl rfl Try.underlying29 iu (by first|omega|(simp;done)|(simp;omega)) (by first|omega|(simp;done)|(simp;omega))) rfl⟩) rfl ?_
  refine cb (n':=18) [65] [12] rfl rfl (.inl ⟨(ah.plain rfl),aJ.cast (dr rfl rfl rfl Try.underlying61 rfl iu (bj hx2) rfl) rfl⟩) rfl ?_
  refine bW (kn:=[]) aa 2 rfl trivial ?_
  refine cb (n':=18) [66,68] [] rfl rfl (.inl ⟨(ah.plain rfl),aJ.cast (bU 18 (Fn.frozen (av':=(.t [(.g [(cI xr3.bE),(cI xr3.held),(cI xr3.bZ.cG),(cI xr3.bZ.count),(cI xr3.bZ.sum),(eL xr3.cW)]),(.c (cI e3))])) (wg x2 x1.sum xr3 e3 hr3) ⟨⟨.inl ⟨_,rfl,rfl⟩,.inl ⟨_,rfl,rfl⟩,.inl ⟨_,rfl,rfl⟩,.inl ⟨_,rfl,rfl⟩,.inl ⟨_,rfl,rfl⟩,.inr ⟨_,_,_,_,_,rfl,rfl,rfl,by simp⟩,trivial⟩,.inl ⟨_,rfl,rfl⟩,trivial⟩) Hc rfl rfl ⟨⟨_,rfl,.g ⟨.d _,.d _,.d _,.d _,.d _,.d _,trivial⟩⟩,⟨_,rfl,.c (.d _)⟩,trivial⟩ ⟨⟨trivial,trivial,trivial,trivial,trivial,trivial,trivial⟩,trivial,trivial⟩ trivial rfl rfl rfl rfl) rfl⟩) rfl ?_
  refine bW (n':=19) (kn:=[]) aa 6 rfl trivial ?_
  refine dW [0,2,3,6,36,37,38,8,9,11,10] [18,7,17,16,0,8,9,10,11,12,13,14,15,6,5] rfl rfl (by kernel_rfl) ?_
  refine then_ok ?_
  refine ag ?_
  refine aH aa 2 rfl ?_
  obtain ⟨e24,hr4⟩:∃ (e24:Int),dG 0 e3=e24:=⟨_,rfl⟩
  refine aT 19 [7,18,17,16,0,8,9,10,11,12,13,14,15,6,5] (cu (bh [7]) (bh [7]) (ms:=(dD.set 19 (some (cI 0)))) (ms':=(dD.set 19 (some (cI e24)))) (fun x hx=>kd x hx 0 e3 e24 hr4) nT rfl rfl ⟨⟨_,rfl,.inl ⟨rfl,rfl⟩⟩,⟨_,rfl,.inr (.c (.d _))⟩,trivial⟩ rfl rfl rfl rfl rfl rfl rfl trivial rfl rfl rfl rfl rfl rfl rfl rfl rfl rfl rfl rfl rfl) rfl ?_
  refine af ?_
  refine aj rfl (fun hc6=>?_) (fun hc6=>?_)
  ·
   have hc6':=of_decide_eq_true hc6
   refine bT ?_
   refine aN ?_
   refine si rfl ?_
   refine aN ?_
   refine aN ?_
   refine bA ?_
   refine then_ok ?_
   refine ae aa 11 rfl ?_
   refine ag ?_
   refine aH aa 2 rfl ?_
   refine aT 23 [0,19,20,21,22,18,17,16,6,5] (cO (bh [0,7,8,9,10,11,12,13,14,15]) (bh [0,19,20,21,22]) (gh (x 17) (x 19) b (⟨b.time,false,cs,b.due,xs,b.s0,b.s1,b.n0,b.n1,b.w0,b.w1,xr0,b.aS,b.book⟩:Bk) e24 (by first|assumption|omega)) fO rfl rfl ⟨⟨_,rfl,.inl ⟨rfl,rfl⟩⟩,⟨_,rfl,.inl ⟨rfl,rfl⟩⟩,trivial⟩ ⟨rfl,rfl,rfl,rfl,rfl,rfl,rfl,rfl,rfl,rfl,trivial⟩ rfl rfl rfl rfl rfl rfl trivial ⟨⟨trivial,trivial,trivial,trivial,trivial,trivial,trivial,trivial,trivial,trivial,trivial,trivial,trivial,trivial,trivial,trivial,trivial,trivial,trivial,trivial,trivial⟩,(fun _ _ _ _=>trivial),(fun _ _ _ _=>trivial),(fun _ _ _ _=>trivial),(fun _ _ _ _=>trivial),trivial⟩ rfl rfl rfl rfl) rfl ?_
   refine ad aa 1 rfl ?_
   refine af ?_
   refine ae aa 2 rfl ?_
   refine aj rfl (fun _=>?_) (fun hno=>absurd (hc6.symm.trans hno) (by decide))
   refine ae aa 3 rfl ?_
   refine aA ?_
   refine ax ?_
   have hX:iM b=(b,(⟨e24,0⟩:Answer)):=by
     exact zy (by cases hd:b.down<;>simp_all) hr0 (hi0_1.trans (Bn hx1 hr1 hr2 hx2 hr3 hr4 (by omega))) (by omega)
   rw [hX] at hr;clear hX
   simp only [Prod.mk.injEq] at hr;obtain ⟨rfl,rfl⟩:=hr
   refine aq aa [0,19,20,21,22,5] 5 rfl rfl rfl rfl rfl rfl ?_ ?_
   all_goals first|rfl|(simp [aD,aZ,bm];done)|(simp [aD,aZ,bm];omega)
  have hc6':=of_decide_eq_false hc6
  refine aQ ?_
  obtain rfl:e24=0:=by omega
  refine ag ?_
  refine aX [0,2,3,6,36,37,38,8,9,11] [7,18,17,16,0,8,9,10,11,12,13,14,15,6,5] mixed rfl rfl ?_
  refine ay (kn:=[]) aa 8 rfl trivial ?_
  refine aP (n':=19) [79,81] [12] rfl rfl (.inl ⟨(ah.plain rfl),aJ.cast (bz (i:=Int.toNat (x1.aO)) rfl rfl rfl Try.underlying29 iu (by first|omega|(simp;done)|(simp;omega)) (by first|omega|(simp;done)|(simp;omega))) rfl⟩) rfl ?_
  refine bw [7,18,17,16,0,8,9,10,11,12,13,14,15,6,5] rfl rfl rfl rfl (by kernel_rfl) ?_
  refine gw [7,18,17,16,0,8,9,10,11,12,13,14,15,6,5] (dS (ds:=[(dI xr3.bE),(dI xr3.held),(dI xr3.bZ.cG),(dI xr3.bZ.count),(dI xr3.bZ.sum),(EZ xr3.cW)]) rfl rfl rfl rfl rfl iu rfl (Nat.le_of_ble_eq_true rfl) (bj hx2) rfl (eU (x':=xr3) rfl)) rfl ?_
  refine af ?_
  refine fF (k:=7) (q:=2) (c':=(.s 12 0 6 (((cs).set (Int.toNat (x1.aO)) xr3).length))) rfl rfl (by first|rfl|(simp;done)|(congr 1;omega)) rfl ?_
  refine aX [0,2,3,6,36,37,38,9] [7,17,0,8,9,10,11,12,13,14,15,6,5] mixed rfl rfl ?_
  refine ay (kn:=[]) aa 7 rfl trivial ?_
  refine aP (n':=20) [90] [] rfl rfl (.inl ⟨(ah.plain rfl),aJ.cast (ec (ys:=[(0,(.g [(cI b1.aO),(cI b1.aE),(cI b1.sum),(cI b1.captured),(cI b1.bB),(cI b1.bl),(cI b1.dg),(cB b1.shut)]))]) (rows:=([b1]).map iX) 19 sw rfl (by decide) ⟨⟨rfl,rfl⟩,trivial⟩ rfl rfl rfl rfl) rfl⟩) rfl ?_
  refine aP (n':=21) [89,91] [19,14] rfl rfl (.inl ⟨(ah.plain rfl),aJ.cast (dE (m:=1) (N:=xs.length+1) (k2:=20) (ys:=([b1]).map iX) sw rfl rfl rfl rfl rfl rfl (by first|omega|(simp;done)|(simp;omega)) rfl (.s rfl (by first|omega|(simp;done)|(simp;omega))) (by first|omega|(simp;done)|(simp;omega)) (by first|omega|(simp;done)|(simp;omega)) fM (by decide) (by first|omega|(simp;done)|(simp;omega)) (by first|omega|(simp;done)|(simp;omega))) rfl⟩) rfl ?_
  refine ay (kn:=[]) aa 3 rfl trivial ?_
  refine bw [20,7,17,0,8,9,10,11,12,13,15,6,5] rfl rfl rfl rfl (by kernel_rfl) ?_
  refine ad aa 1 rfl ?_
  refine cf ?_
  refine bf ?_
  refine then_ok ?_
  refine fF (k:=7) (q:=4) (c':=(.s 20 0 8 ((xs++([b1])).length))) rfl rfl (by first|rfl|(simp;done)|(congr 1;omega)) rfl ?_
  refine aw ?_
  refine az (aK rfl rfl rfl (aL (by first|omega|(simp;done)|(simp;omega)))) rfl ?_
  refine ad aa 1 rfl ?_
  refine af ?_
  refine ⟨(q+1,(cs).set (Int.toNat (x1.aO)) xr3,xs++([b1])),⟨by omega,by rw [hi0_1];exact Bm hx1 hr1 hr2 hx2 hr3 hr4,by rw [List.length_set];omega,by rw [List.length_append,List.length_singleton];omega⟩,by first|omega|(simp;done)|(simp;omega),aF.bL (fun k=>if k=14 then 20 else k) (by refine ⟨?_,?_,?_,?_,?_,?_,?_,trivial⟩<;>first|rfl|(simp only [ba];done)|(congr 3;omega)|(congr 4;omega)|(simp only [bb];rfl)) (by refine ⟨?_,?_,?_,?_,?_,?_,?_,?_,?_,?_,?_,?_,trivial⟩<;>first|rfl|(simp only [ba];done)|(congr 3;omega)|(congr 4;omega)|(simp only [bb];rfl)) rfl⟩
 have hc3':=of_decide_eq_false hc3
 refine bT ?_
 refine aN ?_
 refine aN ?_
 refine bA ?_
 refine then_ok ?_
 refine ae aa 11 rfl ?_
 refine ag ?_
 refine aH aa 2 rfl ?_
 refine aT 20 [0,16,17,18,19,6,5] (cO (bh [0,7,8,9,10,11,12,13,14,15]) (bh [0,16,17,18,19]) (fw (x 17) (x 19) b (⟨b.time,false,cs,b.due,xs,b.s0,b.s1,b.n0,b.n1,b.w0,b.w1,xr0,b.aS,b.book⟩:Bk) 0 (by first|assumption|omega)) fO rfl rfl ⟨⟨_,rfl,.inl ⟨rfl,rfl⟩⟩,⟨_,rfl,.inl ⟨rfl,rfl⟩⟩,trivial⟩ ⟨rfl,rfl,rfl,rfl,rfl,rfl,rfl,rfl,rfl,rfl,trivial⟩ rfl rfl rfl rfl rfl rfl trivial ⟨⟨trivial,trivial,trivial,trivial,trivial,trivial,trivial,trivial,trivial,trivial,trivial,trivial,trivial,trivial,trivial,trivial,trivial,trivial,trivial,trivial,trivial⟩,(fun _ _ _ _=>trivial),(fun _ _ _ _=>trivial),(fun _ _ _ _=>trivial),(fun _ _ _ _=>trivial),trivial⟩ rfl rfl rfl rfl) rfl ?_
 refine ad aa 1 rfl ?_
 refine af ?_
 refine aH aa 1 rfl ?_
 refine az (aK rfl rfl rfl (show _=some (Value.bool false) from rfl)) rfl ?_
 refine af ?_
 refine aj rfl (fun hno=>by cases hno) (fun _=>?_)
 refine aQ ?_
 have hL:=hi0_1;rw [Dc (by omega)] at hL
 have okU:=ok.FC hr0 hL
 refine aH aa 1 rfl ?_
 obtain ⟨b25,hr5⟩:∃ (b25:Bk),gJ (⟨b.time,false,cs,b.due,xs,b.s0,b.s1,b.n0,b.n1,b.w0,b.w1,xr0,b.aS,b.book⟩:Bk)=b25:=⟨_,rfl⟩
 refine aT 24 [0,20,21,22,23,6,5] (cu (bh [0,16,17,18,19]) (bh [0,20,21,22,23]) (ms:=[some (cI b.time),some (cB false),some (.s 1 0 6 cs.length),some (.s 2 0 1 b.due.length),some (.s 3 0 8 xs.length),some (cI b.s0.bq),some (ck b.s0.kept),some (cI b.s1.bq),some (ck b.s1.kept),some (cI b.n0),some (cI b.n1),some (cV b.w0),some (cV b.w1),some (cI xr0.cap),some (df xr0.used),some (eb xr0.aU),some (.s 4 0 4 b.aS.length),none,some (cZ b.book),none]) (ms':=(ji b25 1 2 3 4 none none)) (fun x hx=>AO x hx (⟨b.time,false,cs,b.due,xs,b.s0,b.s1,b.n0,b.n1,b.w0,b.w1,xr0,b.aS,b.book⟩:Bk) (by first|assumption|exact cz.tick (by assumption) (by omega) (by omega)) b25 hr5) EJ rfl rfl ⟨⟨_,rfl,.inl ⟨rfl,rfl⟩⟩,trivial⟩ rfl rfl rfl rfl rfl rfl rfl ⟨rfl,rfl,rfl,rfl,trivial⟩ rfl rfl rfl rfl rfl rfl rfl rfl rfl rfl rfl rfl rfl) rfl ?_
 refine af ?_
 refine ae aa 2 rfl ?_
 refine aA ?_
 have hX:iM b=(b25,(⟨0,0⟩:Answer)):=by
   rw [DL (by cases hd:b.down<;>simp_all) hr0 hL,hr5]
 rw [hX] at hr;clear hX
 simp only [Prod.mk.injEq] at hr;obtain ⟨rfl,rfl⟩:=hr
 refine aq aa [0,20,21,22,23,5] 5 rfl rfl rfl rfl rfl rfl ?_ ?_
 all_goals first|rfl|(simp [aD,aZ,bm];done)|(simp [aD,aZ,bm];omega)

theorem HG (x:Nat->Value) (hx:∀ i,(x i).oneCell'=true) (b:Bk) (days:List (List Int)) (d:bJ) (ok:cz b) (hy:days.length<=1000) (b2:Bk) (y2:List (List Int)) (a2:Answer) (hr:eX b days d=(b2,y2,a2)):cM Try.prog 56 [(.c (.p 0 0 0 0)),(.c (.q (dj d) 0))] [(0,(.box 98 (aZ b 1 2 3 4 (.s 5 0 1 days.length) (.d (.v (x 19)))))),(1,(dV b.al)),(2,(dL b.due)),(3,(dY b.au)),(4,(cT b.aS)),(5,(qz days))] [0] (.v (.g [cI a2.err,cI a2.bd])) [(0,(.box 98 (aZ b2 1 2 3 4 (.s 5 0 1 y2.length) (.d (.v (x 19)))))),(1,(dV b2.al)),(2,(dL b2.due)),(3,(dY b2.au)),(4,(cT b2.aS)),(5,(qz y2))]:=by
 refine cM.mk 67 [(0,(aC (.p 0 0 0 0))),(1,(aC (.q (dj d) 0)))] 6 Try.func56 rfl rfl rfl rfl rfl rfl rfl rfl rfl ?_
 intro W0 F0 T0 pg
 obtain ⟨okt,okc,okd,oka,oky,okw0,okw1,okp,okv,okk0,okk1,okg,okl0,okl1,okp0,okp1,okn0,okn1,okq⟩:=id ok
 refine ae aa 1 rfl ?_
 refine ag ?_
 refine ae aa 4 rfl ?_
 refine aR ?_
 refine ae aa 2 rfl ?_
 refine aj rfl (fun hc1=>?_) (fun hc1=>?_)
 ·
  have hc1':=of_decide_eq_true hc1
  refine aH aa 2 rfl ?_
  obtain ⟨b20,a20,hr0⟩:∃ (b20:Bk) (a20:Answer),fI b d=(b20,a20):=⟨_,_,rfl⟩
  refine aT 11 [0,7,8,9,10,6,5] (cu id (bh [0,7,8,9,10]) (ms:=(ji b 1 2 3 4 none none)) (ms':=(ji b20 1 2 3 4 none none)) (fun x hx=>Fk x hx b d (by first|assumption|exact cz.tick (by assumption) (by omega) (by omega)) b20 a20 hr0) Hp rfl rfl ⟨⟨_,rfl,.inl ⟨rfl,rfl⟩⟩,⟨_,rfl,.inl ⟨rfl,rfl⟩⟩,trivial⟩ rfl rfl rfl rfl rfl rfl rfl ⟨rfl,rfl,rfl,rfl,trivial⟩ rfl rfl rfl rfl rfl rfl rfl rfl rfl rfl rfl rfl rfl) rfl ?_
  refine ad aa 1 rfl ?_
  refine af ?_
  refine aA ?_
  refine bp ?_
  refine ax ?_
  have hX:eX b days d=(b20,days,a20):=by
    unfold eX;(repeat' (first|rw [if_pos (by omega)]|rw [if_neg (by omega)]|fail))<;>first|rfl|(simp only [hr0];done)|(simp only [hr0];rfl)|(simp_all;done)
  rw [hX] at hr;clear hX
  simp only [Prod.mk.injEq] at hr;obtain ⟨rfl,rfl,rfl⟩:=hr
  refine aq aa [0,7,8,9,10,5,6] 6 rfl rfl rfl rfl rfl rfl ?_ ?_
  all_goals first|rfl|(simp [aD,aZ,bm];done)|(simp [aD,aZ,bm];omega)
 have hc1':=of_decide_eq_false hc1
 refine ae aa 2 rfl ?_
 refine aj rfl (fun hc2=>?_) (fun hc2=>?_)
 ·
  have hc2':=of_decide_eq_true hc2
  refine aH aa 2 rfl ?_
  obtain ⟨b21,a21,hr1⟩:∃ (b21:Bk) (a21:Answer),dK b d=(b21,a21):=⟨_,_,rfl⟩
  refine aT 11 [0,7,8,9,10,6,5] (cu id (bh [0,7,8,9,10]) (ms:=(ji b 1 2 3 4 none none)) (ms':=(ji b21 1 2 3 4 none none)) (fun x hx=>Gs x hx b d (by first|assumption|exact cz.tick (by assumption) (by omega) (by omega)) b21 a21 hr1) Ho rfl rfl ⟨⟨_,rfl,.inl ⟨rfl,rfl⟩⟩,⟨_,rfl,.inl ⟨rfl,rfl⟩⟩,trivial⟩ rfl rfl rfl rfl rfl rfl rfl ⟨rfl,rfl,rfl,rfl,trivial⟩ rfl rfl rfl rfl rfl rfl rfl rfl rfl rfl rfl rfl rfl) rfl ?_
  refine ad aa 1 rfl ?_
  refine af ?_
  refine aA ?_
  refine bp ?_
  refine ax ?_
  have hX:eX b days d=(b21,days,a21):=by
    unfold eX;(repeat' (first|rw [if_pos (by omega)]|rw [if_neg (by omega)]|fail))<;>first|rfl|(simp only [hr1];done)|(simp only [hr1];rfl)|(simp_all;done)
  rw [hX] at hr;clear hX
  simp only [Prod.mk.injEq] at hr;obtain ⟨rfl,rfl,rfl⟩:=hr
  refine aq aa [0,7,8,9,10,5,6] 6 rfl rfl rfl rfl rfl rfl ?_ ?_
  all_goals first|rfl|(simp [aD,aZ,bm];done)|(simp [aD,aZ,bm];omega)
 have hc2':=of_decide_eq_false hc2
 refine ae aa 2 rfl ?_
 refine aj rfl (fun hc3=>?_) (fun hc3=>?_)
 ·
  have hc3':=of_decide_eq_true hc3
  refine aH aa 2 rfl ?_
  obtain ⟨b22,a22,hr2⟩:∃ (b22:Bk) (a22:Answer),dN b d=(b22,a22):=⟨_,_,rfl⟩
  refine aT 11 [0,7,8,9,10,6,5] (cu id (bh [0,7,8,9,10]) (ms:=(ji b 1 2 3 4 none none)) (ms':=(ji b22 1 2 3 4 none none)) (fun x hx=>Ct x hx b d (by first|assumption|exact cz.tick (by assumption) (by omega) (by omega)) b22 a22 hr2) Hn rfl rfl ⟨⟨_,rfl,.inl ⟨rfl,rfl⟩⟩,⟨_,rfl,.inl ⟨rfl,rfl⟩⟩,trivial⟩ rfl rfl rfl rfl rfl rfl rfl ⟨rfl,rfl,rfl,rfl,trivial⟩ rfl rfl rfl rfl rfl rfl rfl rfl rfl rfl rfl rfl rfl) rfl ?_
  refine ad aa 1 rfl ?_
  refine af ?_
  refine aA ?_
  refine bp ?_
  refine ax ?_
  have hX:eX b days d=(b22,days,a22):=by
    unfold eX;(repeat' (first|rw [if_pos (by omega)]|rw [if_neg (by omega)]|fail))<;>first|rfl|(simp only [hr2];done)|(simp only [hr2];rfl)|(simp_all;done)
  rw [hX] at hr;clear hX
  simp only [Prod.mk.injEq] at hr;obtain ⟨rfl,rfl,rfl⟩:=hr
  refine aq aa [0,7,8,9,10,5,6] 6 rfl rfl rfl rfl rfl rfl ?_ ?_
  all_goals first|rfl|(simp [aD,aZ,bm];done)|(simp [aD,aZ,bm];omega)
 have hc3':=of_decide_eq_false hc3
 refine ae aa 2 rfl ?_
 refine aj rfl (fun hc4=>?_) (fun hc4=>?_)
 ·
  have hc4':=of_decide_eq_true hc4
  refine aH aa 2 rfl ?_
  obtain ⟨b23,a23,hr3⟩:∃ (b23:Bk) (a23:Answer),fk b d=(b23,a23):=⟨_,_,rfl⟩
  refine aT 11 [0,7,8,9,10,6,5] (cu id (bh [0,7,8,9,10]) (ms:=(ji b 1 2 3 4 none none)) (ms':=(ji b23 1 2 3 4 none none)) (fun x hx=>Ff x hx b d (by first|assumption|exact cz.tick (by assumption) (by omega) (by omega)) b23 a23 hr3) Hm rfl rfl ⟨⟨_,rfl,.inl ⟨rfl,rfl⟩⟩,⟨_,rfl,.inl ⟨rfl,rfl⟩⟩,trivial⟩ rfl rfl rfl rfl rfl rfl rfl ⟨rfl,rfl,rfl,rfl,trivial⟩ rfl rfl rfl rfl rfl rfl rfl rfl rfl rfl rfl rfl rfl) rfl ?_
  refine ad aa 1 rfl ?_
  refine af ?_
  refine aA ?_
  refine bp ?_
  refine ax ?_
  have hX:eX b days d=(b23,days,a23):=by
    unfold eX;(repeat' (first|rw [if_pos (by omega)]|rw [if_neg (by omega)]|fail))<;>first|rfl|(simp only [hr3];done)|(simp only [hr3];rfl)|(simp_all;done)
  rw [hX] at hr;clear hX
  simp only [Prod.mk.injEq] at hr;obtain ⟨rfl,rfl,rfl⟩:=hr
  refine aq aa [0,7,8,9,10,5,6] 6 rfl rfl rfl rfl rfl rfl ?_ ?_
  all_goals first|rfl|(simp [aD,aZ,bm];done)|(simp [aD,aZ,bm];omega)
 have hc4':=of_decide_eq_false hc4
 refine ae aa 2 rfl ?_
 refine aj rfl (fun hc5=>?_) (fun hc5=>?_)
 ·
  have hc5':=of_decide_eq_true hc5
  refine aH aa 2 rfl ?_
  obtain ⟨v04,v14,a24,hr4⟩:∃ (v04:List cj) (v14:List cj) (a24:Answer),eE b.s0 b.s1 b.n0 b.n1 b.w0 b.w1 d=(v04,v14,a24):=⟨_,_,_,rfl⟩
  refine aT 7 [0,6,1,2,3,4,5] (cu id id (ms:=[none,none,none,none,none,some (cI b.s0.bq),some (ck b.s0.kept),some (cI b.s1.bq),some (ck b.s1.kept),some (cI b.n0),some (cI b.n1),some (cV b.w0),some (cV b.w1),none,none,none,none,none,none,none]) (ms':=[none,none,none,none,none,some (cI b.s0.bq),some (ck b.s0.kept),some (cI b.s1.bq),some (ck b.s1.kept),some (cI b.n0),some (cI b.n1),some (cV v04),some (cV v14),none,none,none,none,none,none,none]) (fun x hx=>DE x hx b.s0 b.s1 b.n0 b.n1 b.w0 b.w1 d (by first|omega|(simp;done)|(simp;omega)) (by first|omega|(simp;done)|(simp;omega)) (by first|omega|(simp;done)|(simp;omega)) (by first|omega|(simp;done)|(simp;omega)) v04 v14 a24 hr4) Hl rfl rfl ⟨⟨_,rfl,.inl ⟨rfl,rfl⟩⟩,⟨_,rfl,.inl ⟨rfl,rfl⟩⟩,trivial⟩ rfl rfl rfl rfl rfl rfl rfl trivial rfl rfl rfl rfl rfl rfl rfl rfl rfl rfl rfl rfl rfl) rfl ?_
  refine ad aa 1 rfl ?_
  refine af ?_
  refine aA ?_
  refine bp ?_
  refine ax ?_
  have hX:eX b days d=((⟨b.time,b.down,b.al,b.due,b.au,b.s0,b.s1,b.n0,b.n1,v04,v14,b.aY,b.aS,b.book⟩:Bk),days,a24):=by
    unfold eX;(repeat' (first|rw [if_pos (by omega)]|rw [if_neg (by omega)]|fail))<;>first|rfl|(simp only [hr4];done)|(simp only [hr4];rfl)|(simp_all;done)
  rw [hX] at hr;clear hX
  simp only [Prod.mk.injEq] at hr;obtain ⟨rfl,rfl,rfl⟩:=hr
  refine aq aa [0,1,2,3,4,5,6] 6 rfl rfl rfl rfl rfl rfl ?_ ?_
  all_goals first|rfl|(simp [aD,aZ,bm];done)|(simp [aD,aZ,bm];omega)
 have hc5':=of_decide_eq_false hc5
 refine ag ?_
 refine ae aa 2 rfl ?_
 refine aj rfl (fun hc6=>?_) (fun hc6=>?_)
 ·
  have hc6':=of_decide_eq_true hc6
  refine aQ ?_
  refine aj rfl (fun _=>?_) (fun hno=>absurd (hc6.symm.trans hno) (by decide))
  refine aH aa 2 rfl ?_
  obtain ⟨b25,a25,hr5⟩:∃ (b25:Bk) (a25:Answer),cA b d=(b25,a25):=⟨_,_,rfl⟩
  refine aT 11 [0,7,8,9,10,6,5] (cu id (bh [0,7,8,9,10]) (ms:=(ji b 1 2 3 4 none none)) (ms':=(ji b25 1 2 3 4 none none)) (fun x hx=>wj x hx b d (by assumption) b25 a25 hr5) EM rfl rfl ⟨⟨_,rfl,.inl ⟨rfl,rfl⟩⟩,⟨_,rfl,.inl ⟨rfl,rfl⟩⟩,trivial⟩ rfl rfl rfl rfl rfl rfl rfl ⟨rfl,rfl,rfl,rfl,trivial⟩ rfl rfl rfl rfl rfl rfl rfl rfl rfl rfl rfl rfl rfl) rfl ?_
  refine ad aa 1 rfl ?_
  refine af ?_
  refine aA ?_
  refine bp ?_
  refine ax ?_
  have hX:eX b days d=(b25,days,a25):=by
    unfold eX;(repeat' (first|rw [if_pos (by omega)]|rw [if_neg (by omega)]|fail))<;>first|rfl|(simp only [hr5];done)|(simp only [hr5];rfl)|(simp_all;done)
  rw [hX] at hr;clear hX
  simp only [Prod.mk.injEq] at hr;obtain ⟨rfl,rfl,rfl⟩:=hr
  refine aq aa [0,7,8,9,10,5,6] 6 rfl rfl rfl rfl rfl rfl ?_ ?_
  all_goals first|rfl|(simp [aD,aZ,bm];done)|(simp [aD,aZ,bm];omega)
 have hc6':=of_decide_eq_false hc6
 refine aw ?_
 refine ad aa 2 rfl ?_
 refine af ?_
 refine aj rfl (fun hc8=>?_) (fun hc8=>?_)
 ·
  have hc8':=of_decide_eq_true hc8
  refine aH aa 2 rfl ?_
  obtain ⟨b26,a26,hr6⟩:∃ (b26:Bk) (a26:Answer),cA b d=(b26,a26):=⟨_,_,rfl⟩
  refine aT 11 [0,7,8,9,10,6,5] (cu id (bh [0,7,8,9,10]) (ms:=(ji b 1 2 3 4 none none)) (ms':=(ji b26 1 2 3 4 none none)) (fun x hx=>wj x hx b d (by assumption) b26 a26 hr6) EM rfl rfl ⟨⟨_,rfl,.inl ⟨rfl,rfl⟩⟩,⟨_,rfl,.inl ⟨rfl,rfl⟩⟩,trivial⟩ rfl rfl rfl rfl rfl rfl rfl ⟨rfl,rfl,rfl,rfl,trivial⟩ rfl rfl rfl rfl rfl rfl rfl rfl rfl rfl rfl rfl rfl) rfl ?_
  refine ad aa 1 rfl ?_
  refine af ?_
  refine aA ?_
  refine bp ?_
  refine ax ?_
  have hX:eX b days d=(b26,days,a26):=by
    unfold eX;(repeat' (first|rw [if_pos (by omega)]|rw [if_neg (by omega)]|fail))<;>first|rfl|(simp only [hr6];done)|(simp only [hr6];rfl)|(simp_all;done)
  rw [hX] at hr;clear hX
  simp only [Prod.mk.injEq] at hr;obtain ⟨rfl,rfl,rfl⟩:=hr
  refine aq aa [0,7,8,9,10,5,6] 6 rfl rfl rfl rfl rfl rfl ?_ ?_
  all_goals first|rfl|(simp [aD,aZ,bm];done)|(simp [aD,aZ,bm];omega)
 have hc8':=of_decide_eq_false hc8
 refine ae aa 2 rfl ?_
 refine aj rfl (fun hc9=>?_) (fun hc9=>?_)
 ·
  have hc9':=of_decide_eq_true hc9
  refine ag ?_
  refine ae aa 5 rfl ?_
  refine aj rfl (fun hc10=>?_) (fun hc10=>?_)
  ·
   have hc10':=hc10;try simp only [bx,bV] at hc10'
   refine ae aa 2 rfl ?_
   refine aA ?_
   refine ax ?_
   refine bp ?_
   refine ax ?_
   have hX:eX b days d=(b,days,(⟨8,0⟩:Answer)):=by
     unfold eX;(repeat' (first|rw [if_pos (by omega)]|rw [if_neg (by omega)]|fail))<;>first|rfl|(simp_all;done)
   rw [hX] at hr;clear hX
   simp only [Prod.mk.injEq] at hr;obtain ⟨rfl,rfl,rfl⟩:=hr
   refine aq aa [0,1,2,3,4,5,6] 6 rfl rfl rfl rfl rfl rfl ?_ ?_
   all_goals first|rfl|(simp [aD,aZ,bm];done)|(simp [aD,aZ,bm];omega)
  have hc10':=hc10;try simp only [bx,bV] at hc10'
  refine aQ ?_
  refine ae aa 5 rfl ?_
  refine ae aa 2 rfl ?_
  refine aA ?_
  refine bp ?_
  refine ax ?_
  have hX:eX b days d=((⟨b.time,true,b.al,b.due,b.au,b.s0,b.s1,b.n0,b.n1,b.w0,b.w1,b.aY,b.aS,b.book⟩:Bk),days,(⟨0,0⟩:Answer)):=by
    unfold eX;(repeat' (first|rw [if_pos (by omega)]|rw [if_neg (by omega)]|fail))<;>first|rfl|(simp_all;done)
  rw [hX] at hr;clear hX
  simp only [Prod.mk.injEq] at hr;obtain ⟨rfl,rfl,rfl⟩:=hr
  refine aq aa [0,1,2,3,4,5,6] 6 rfl rfl rfl rfl rfl rfl ?_ ?_
  all_goals first|rfl|(simp [aD,aZ,bm];done)|(simp [aD,aZ,bm];omega)
 have hc9':=of_decide_eq_false hc9
 refine ae aa 2 rfl ?_
 refine aj rfl (fun hc11=>?_) (fun hc11=>?_)
 ·
  have hc11':=of_decide_eq_true hc11
  refine aH aa 1 rfl ?_
  obtain ⟨b27,a27,hr7⟩:∃ (b27:Bk) (a27:Answer),iM b=(b27,a27):=⟨_,_,rfl⟩
  refine aT 11 [0,7,8,9,10,6,5] (cu id (bh [0,7,8,9,10]) (ms:=(ji b 1 2 3 4 none none)) (ms':=(ji b27 1 2 3 4 none none)) (fun x hx=>HF x hx b (by first|assumption|exact cz.tick (by assumption) (by omega) (by omega)) b27 a27 hr7) Hk rfl rfl ⟨⟨_,rfl,.inl ⟨rfl,rfl⟩⟩,trivial⟩ rfl rfl rfl rfl rfl rfl rfl ⟨rfl,rfl,rfl,rfl,trivial⟩ rfl rfl rfl rfl rfl rfl rfl rfl rfl rfl rfl rfl rfl) rfl ?_
  refine ad aa 1 rfl ?_
  refine af ?_
  refine aA ?_
  refine bp ?_
  refine ax ?_
  have hX:eX b days d=(b27,days,a27):=by
    unfold eX;(repeat' (first|rw [if_pos (by omega)]|rw [if_neg (by omega)]|fail))<;>first|rfl|(simp only [hr7];done)|(simp only [hr7];rfl)|(simp_all;done)
  rw [hX] at hr;clear hX
  simp only [Prod.mk.injEq] at hr;obtain ⟨rfl,rfl,rfl⟩:=hr
  refine aq aa [0,7,8,9,10,5,6] 6 rfl rfl rfl rfl rfl rfl ?_ ?_
  all_goals first|rfl|(simp [aD,aZ,bm];done)|(simp [aD,aZ,bm];omega)
 have hc11':=of_decide_eq_false hc11
 refine ae aa 2 rfl ?_
 refine aj rfl (fun hc12=>?_) (fun hc12=>?_)
 ·
  have hc12':=of_decide_eq_true hc12
  refine aH aa 1 rfl ?_
  obtain ⟨today28,days28,a28,hr8⟩:∃ (today28:List ar) (days28:List (List Int)) (a28:Answer),iY b.aS days=(today28,days28,a28):=⟨_,_,_,rfl⟩
  refine aT 9 [0,7,8,6,1,2,3] (cu (bh [0,4,5]) (bh [0,7,8]) (ms:=((dD.set 16 (some (.s 1 0 4 b.aS.length))).set 17 (some (.s 2 0 1 days.length)))) (ms':=((dD.set 16 (some (.s 1 0 4 today28.length))).set 17 (some (.s 2 0 1 days28.length)))) (fun x hx=>Fh x hx b.aS days (by first|omega|(simp;done)|(simp;omega)) (by first|omega|(simp;done)|(simp;omega)) today28 days28 a28 hr8) Hj rfl rfl ⟨⟨_,rfl,.inl ⟨rfl,rfl⟩⟩,trivial⟩ rfl rfl rfl rfl rfl rfl rfl ⟨rfl,rfl,trivial⟩ rfl rfl rfl rfl rfl rfl rfl rfl rfl rfl rfl rfl rfl) rfl ?_
  refine ad aa 1 rfl ?_
  refine af ?_
  refine aA ?_
  refine bp ?_
  refine ax ?_
  have hX:eX b days d=((⟨b.time,b.down,b.al,b.due,b.au,b.s0,b.s1,b.n0,b.n1,b.w0,b.w1,b.aY,today28,b.book⟩:Bk),days28,a28):=by
    unfold eX;(repeat' (first|rw [if_pos (by omega)]|rw [if_neg (by omega)]|fail))<;>first|rfl|(simp only [hr8];done)|(simp only [hr8];rfl)|(simp_all;done)
  rw [hX] at hr;clear hX
  simp only [Prod.mk.injEq] at hr;obtain ⟨rfl,rfl,rfl⟩:=hr
  refine aq aa [0,1,2,3,7,8,6] 6 rfl rfl rfl rfl rfl rfl ?_ ?_
  all_goals first|rfl|(simp [aD,aZ,bm];done)|(simp [aD,aZ,bm];omega)
 have hc12':=of_decide_eq_false hc12
 refine ae aa 2 rfl ?_
 refine aj rfl (fun hc13=>?_) (fun hc13=>?_)
 ·
  have hc13':=of_decide_eq_true hc13
  refine aH aa 2 rfl ?_
  obtain ⟨b29,a29,hr9⟩:∃ (b29:Bk) (a29:Answer),gN b d=(b29,a29):=⟨_,_,rfl⟩
  refine aT 11 [0,7,8,9,10,6,5] (cu id (bh [0,7,8,9,10]) (ms:=(ji b 1 2 3 4 none none)) (ms':=(ji b29 1 2 3 4 none none)) (fun x hx=>Gr x hx b d (by first|assumption|exact cz.tick (by assumption) (by omega) (by omega)) b29 a29 hr9) Hi rfl rfl ⟨⟨_,rfl,.inl ⟨rfl,rfl⟩⟩,⟨_,rfl,.inl ⟨rfl,rfl⟩⟩,trivial⟩ rfl rfl rfl rfl rfl rfl rfl ⟨rfl,rfl,rfl,rfl,trivial⟩ rfl rfl rfl rfl rfl rfl rfl rfl rfl rfl rfl rfl rfl) rfl ?_
  refine ad aa 1 rfl ?_
  refine af ?_
  refine aA ?_
  refine bp ?_
  refine ax ?_
  have hX:eX b days d=(b29,days,a29):=by
    unfold eX;(repeat' (first|rw [if_pos (by omega)]|rw [if_neg (by omega)]|fail))<;>first|rfl|(simp only [hr9];done)|(simp only [hr9];rfl)|(simp_all;done)
  rw [hX] at hr;clear hX
  simp only [Prod.mk.injEq] at hr;obtain ⟨rfl,rfl,rfl⟩:=hr
  refine aq aa [0,7,8,9,10,5,6] 6 rfl rfl rfl rfl rfl rfl ?_ ?_
  all_goals first|rfl|(simp [aD,aZ,bm];done)|(simp [aD,aZ,bm];omega)
 have hc13':=of_decide_eq_false hc13
 refine cE ?_
 refine bf ?_
 refine then_ok ?_
 refine ae aa 2 rfl ?_
 refine aA ?_
 have hX:eX b days d=(b,days,(⟨1,0⟩:Answer)):=by
   unfold eX;(repeat' (first|rw [if_pos (by omega)]|rw [if_neg (by omega)]|fail))<;>first|rfl|(simp_all;done)
 rw [hX] at hr;clear hX
 simp only [Prod.mk.injEq] at hr;obtain ⟨rfl,rfl,rfl⟩:=hr
 refine aq aa [0,1,2,3,4,5,6] 6 rfl rfl rfl rfl rfl rfl ?_ ?_
 all_goals first|rfl|(simp [aD,aZ,bm];done)|(simp [aD,aZ,bm];omega)

theorem Fi (x:Nat->Value) (hx:∀ i,(x i).oneCell'=true) (b:Bk) (days:List (List Int)) (told:List (Int×Answer)) (cl:Nat) (d:bJ) (ok:cz b) (hy:days.length<=1000) (b2:Bk) (y2:List (List Int)) (t2:List (Int×Answer)) (c2:Nat) (a2:Answer) (hr:fH b days told cl d=(b2,y2,t2,c2,a2)):cM Try.prog 42 [(.c (.p 0 0 0 0)),(.c (.q (dj d) 0))] [(0,(.box 98 (aZ b 1 2 3 4 (.s 5 0 1 days.length) (.m 6)))),(1,(dV b.al)),(2,(dL b.due)),(3,(dY b.au)),(4,(cT b.aS)),(5,(qz days)),(6,(.map (tV told) cl))] [0] (.v (.g [cI a2.err,cI a2.bd])) [(0,(.box 98 (aZ b2 1 2 3 4 (.s 5 0 1 y2.length) (.m 6)))),(1,(dV b2.al)),(2,(dL b2.due)),(3,(dY b2.au)),(4,(cT b2.aS)),(5,(qz y2)),(6,(.map (tV t2) c2))]:=by
 refine cM.mk 42 [(0,(aC (.p 0 0 0 0))),(1,(aC (.q (dj d) 0)))] 7 Try.func42 rfl rfl rfl rfl rfl rfl rfl rfl rfl ?_
 intro W0 F0 T0 pg
 obtain ⟨okt,okc,okd,oka,oky,okw0,okw1,okp,okv,okk0,okk1,okg,okl0,okl1,okp0,okp1,okn0,okn1,okq⟩:=id ok
 refine ae aa 1 rfl ?_
 refine ag ?_
 refine ag ?_
 refine di [0,1,4] [7,0,1,2,3,4,5,6] mixed rfl rfl ?_
 refine bW (kn:=[]) aa 8 rfl trivial ?_
 refine cb (n':=8) [12,16] [6] rfl rfl (.inl ⟨(ah.plain rfl),aJ.cast (Ax (ps:=told) Try.underlying96 Try.underlying3 GF rfl rfl rfl rfl) rfl⟩) rfl ?_
 refine bW (n':=9) (kn:=[]) aa 6 rfl trivial ?_
 refine dW [0,1,4,5,6] [8,7,0,1,2,3,4,5,6] rfl rfl (by kernel_rfl) ?_
 refine then_ok ?_
 refine cr 27 (((jj told d.id).isSome) && (decide (¬d.id=0))) ?_ ?_
 ·
  refine aw ?_
  refine ad aa 2 rfl ?_
  refine bK (t:=21) rfl (fun hb1=>?_) (fun hb1=>?_)
  ·
   have hb1':=hb1;try simp only [bx,bV] at hb1'
   refine ad aa 6 rfl ?_
   refine af ?_
   exact aF.bF 9 rfl rfl (by first|(simp [hb1];done)|(simp_all;done)|(exfalso;simp_all;done)|(simp_all;omega)) rfl
  have hb1':=hb1;try simp only [bx,bV] at hb1'
  refine ad aa 6 rfl ?_
  refine af ?_
  exact aF.bF 9 rfl rfl (by first|(simp [hb1];done)|(simp_all;done)|(exfalso;simp_all;done)|(simp_all;omega)) rfl
 refine aj rfl (fun hc2=>?_) (fun hc2=>?_)
 ·
  have hc2':=hc2;try simp only [bx,bV] at hc2'
  refine ae aa 2 rfl ?_
  refine aA ?_
  refine ax ?_
  have hX:fH b days told cl d=(b,days,told,cl,((jj told d.id).getD ⟨0,0⟩)):=by
    unfold fH;(repeat' split)<;>first|rfl|omega|(exfalso;omega)|(simp_all;done)|(simp_all;omega)
  rw [hX] at hr;clear hX
  simp only [Prod.mk.injEq] at hr;obtain ⟨rfl,rfl,rfl,rfl,rfl⟩:=hr
  refine aq aa [0,1,2,3,4,5,6,7] 7 rfl rfl rfl rfl rfl rfl ?_ ?_
  all_goals first|rfl|(simp [aD,aZ,bm];done)|(simp [aD,aZ,bm];omega)
 have hc2':=hc2;try simp only [bx,bV] at hc2'
 refine aQ ?_
 refine aH aa 2 rfl ?_
 obtain ⟨b20,y20,a20,hr0⟩:∃ (b20:Bk) (y20:List (List Int)) (a20:Answer),eX b days d=(b20,y20,a20):=⟨_,_,_,rfl⟩
 refine aT 14 [0,9,10,11,12,13,8,7,6] (cu id (bh [0,9,10,11,12,13]) (ms:=(ji b 1 2 3 4 (some (.s 5 0 1 days.length)) none)) (ms':=(ji b20 1 2 3 4 (some (.s 5 0 1 y20.length)) none)) (fun x hx=>HG x hx b days d (by first|assumption|exact cz.tick (by assumption) (by omega) (by omega)) (by first|omega|(simp;done)|(simp;omega)) b20 y20 a20 hr0) Hs rfl rfl ⟨⟨_,rfl,.inl ⟨rfl,rfl⟩⟩,⟨_,rfl,.inl ⟨rfl,rfl⟩⟩,trivial⟩ rfl rfl rfl rfl rfl rfl rfl ⟨rfl,rfl,rfl,rfl,rfl,trivial⟩ rfl rfl rfl rfl rfl rfl rfl rfl rfl rfl rfl rfl rfl) rfl ?_
 refine ad aa 2 rfl ?_
 refine af ?_
 refine ag ?_
 refine aX [0,1,4,7] [14,0,9,10,11,12,13,7,6] mixed rfl rfl ?_
 refine ay (kn:=[]) aa 9 rfl trivial ?_
 refine bw [14,0,9,10,11,12,13,7,6] rfl rfl rfl rfl (by kernel_rfl) ?_
 refine gw [14,0,9,10,11,12,13,7,6] (Av Try.underlying96 Try.underlying3 rfl rfl rfl rfl rfl) rfl ?_
 refine af ?_
 refine ae aa 2 rfl ?_
 refine aA ?_
 have hX:fH b days told cl d=(b20,y20,qI told d.id a20,if (jj told d.id).isSome then cl else cl+1,a20):=by
   unfold fH;simp only [hr0];(repeat' split)<;>first|rfl|omega|(exfalso;omega)|(simp_all;done)|(simp_all;omega)
 rw [hX] at hr;clear hX
 simp only [Prod.mk.injEq] at hr;obtain ⟨rfl,rfl,rfl,rfl,rfl⟩:=hr
 refine aq aa [0,9,10,11,12,13,6,7] 7 rfl rfl rfl rfl rfl rfl ?_ ?_
 all_goals first|rfl|(simp [aD,aZ,bm];done)|(simp [aD,aZ,bm];omega)

theorem wi (s:Setup) (f:dc) (hr:eC s=f):Fn Try.prog 40 [(.g [(cR 3 ((s.da).map gR)),(cI s.gn),(cI s.cap)])] (.v (.g [(cI f.err),(cI f.at_)])) []:=by
 refine Fn.mk' 47 [(0,(aG [(cR 3 ((s.da).map gR)),(cI s.gn),(cI s.cap)]))] Try.func40 rfl rfl rfl rfl ?_
 intro W0 T0
 refine cF 0 0 rfl rfl (fun hlen0_0=>?_)
 refine ae aa 2 rfl ?_
 refine ag ?_
 refine cr 19 (((decide ((↑s.da.length:Int) > 8))||(decide (s.gn < 0)))||(decide (s.gn > 8))) ?_ ?_
 ·
  refine aw ?_
  refine ad aa 2 rfl ?_
  refine az (bP rfl rfl rfl rfl rfl Try.underlying53) rfl ?_
  refine ad aa 2 rfl ?_
  refine bK (t:=10) rfl (fun hb1=>?_) (fun hb1=>?_)
  ·
   have hb1':=of_decide_eq_true hb1
   refine ad aa 9 rfl ?_
   refine af ?_
   exact aF.bF 15 rfl rfl (by first|(simp [hb1];done)|(simp_all;done)|(exfalso;simp_all;done)|(simp_all;omega)) rfl
  have hb1':=of_decide_eq_false hb1
  refine ad aa 5 rfl ?_
  refine bK (t:=15) rfl (fun hb2=>?_) (fun hb2=>?_)
  ·
   have hb2':=of_decide_eq_true hb2
   refine ad aa 4 rfl ?_
   refine af ?_
   exact aF.bF 16 rfl rfl (by first|(simp [hb1,hb2];done)|(simp_all;done)|(exfalso;simp_all;done)|(simp_all;omega)) rfl
  have hb2':=of_decide_eq_false hb2
  refine ad aa 4 rfl ?_
  refine af ?_
  exact aF.bF 16 rfl rfl (by first|(simp [hb1,hb2];done)|(simp_all;done)|(exfalso;simp_all;done)|(simp_all;omega)) rfl
 refine aj rfl (fun hc3=>?_) (fun hc3=>?_)
 ·
  have hc3':=hc3;try simp only [bx,bV] at hc3'
  refine ae aa 2 rfl ?_
  refine aA ?_
  refine ax ?_
  have hX:eC s=(⟨5,0⟩:dc):=by
    unfold eC;rw [if_pos (by omega)]
  rw [hX] at hr;clear hX
  subst hr
  refine aq aa [1] 0 rfl rfl rfl rfl rfl rfl ?_ ?_
  all_goals first|rfl|(simp [aD,aZ,bm];done)|(simp [aD,aZ,bm];omega)
 have hc3':=hc3;try simp only [bx,bV] at hc3'
 refine aQ ?_
 refine ag ?_
 refine cr 28 ((decide (s.cap < 0))||(decide (s.cap > 1000000))) ?_ ?_
 ·
  refine aw ?_
  refine ad aa 4 rfl ?_
  refine bK (t:=24) rfl (fun hb4=>?_) (fun hb4=>?_)
  ·
   have hb4':=of_decide_eq_true hb4
   refine ad aa 4 rfl ?_
   refine af ?_
   exact aF.bF 9 rfl rfl (by first|(simp [hb4];done)|(simp_all;done)|(exfalso;simp_all;done)|(simp_all;omega)) rfl
  have hb4':=of_decide_eq_false hb4
  refine ad aa 4 rfl ?_
  refine af ?_
  exact aF.bF 9 rfl rfl (by first|(simp [hb4];done)|(simp_all;done)|(exfalso;simp_all;done)|(simp_all;omega)) rfl
 refine aj rfl (fun hc5=>?_) (fun hc5=>?_)
 ·
  have hc5':=hc5;try simp only [bx,bV] at hc5'
  refine ae aa 2 rfl ?_
  refine aA ?_
  refine ax ?_
  have hX:eC s=(⟨3,0⟩:dc):=by
    unfold eC;rw [if_neg (by omega),if_pos (by omega)]
  rw [hX] at hr;clear hX
  subst hr
  refine aq aa [1] 0 rfl rfl rfl rfl rfl rfl ?_ ?_
  all_goals first|rfl|(simp [aD,aZ,bm];done)|(simp [aD,aZ,bm];omega)
 have hc5':=hc5;try simp only [bx,bV] at hc5'
 refine aQ ?_
 refine ag ?_
 refine aH aa 2 rfl ?_
 refine az (bP rfl rfl rfl rfl rfl Try.underlying53) rfl ?_
 refine ad aa 1 rfl ?_
 refine af ?_
 refine aR ?_
 refine ch (β:=Nat) (fun (q:Nat)=>⟨[(2,(aC (.p 1 0 0 0))),(31,(aC (cR 3 ((s.da).map gR)))),(32,(aI (↑s.da.length:Int))),(33,(aI (↑q:Int)))],[(1,(.box 50 [(cI 0),(cI 0)]))],2⟩) (fun (q:Nat)=>q<=s.da.length/\oQ s.da 0=oQ (s.da.drop q) q) (fun (q:Nat)=>s.da.length - q) 0 ?_ ?_ ?_
 ·exact ⟨by omega,rfl⟩
 ·exact aF.bL id (by refine ⟨?_,?_,?_,?_,trivial⟩<;>first|rfl|(simp only [ba];done)|(congr 3;omega)|(congr 4;omega)|(simp only [bb];rfl)) (⟨by first|rfl|(simp only [ba];done)|(congr 3;omega)|(congr 4;omega)|(simp only [bb];rfl),trivial⟩) rfl
 rintro q ⟨hi0_0,hi0_1⟩
 refine ae aa 1 rfl ?_
 refine ag ?_
 refine aj rfl (fun hc6=>?_) (fun hc6=>?_)
 ·
  have hc6':=of_decide_eq_true hc6
  refine aQ ?_
  refine ag ?_
  refine aR ?_
  refine aH aa 1 rfl ?_
  obtain ⟨x1,hx1⟩:=cg (xs:=s.da) (i:=q) (by first|omega|(simp;done)|(simp;omega))
  refine az (bX (i:=q) rfl rfl rfl Try.underlying53 DN (by first|omega|(simp;done)|(simp;omega)) (bj hx1)) rfl ?_
  refine ad aa 4 rfl ?_
  refine af ?_
  refine aH aa 1 rfl ?_
  obtain ⟨e0,hr0⟩:∃ (e0:Int),ft x1=e0:=⟨_,rfl⟩
  refine aT 3 [2,1] (bU 3 (lf x1 e0 hr0) Cf rfl rfl ⟨⟨_,rfl,.g ⟨.d _,.d _,.d _,trivial⟩⟩,trivial⟩ trivial trivial rfl rfl rfl rfl) rfl ?_
  refine ad aa 1 rfl ?_
  refine af ?_
  refine ae aa 2 rfl ?_
  refine aj rfl (fun hc7=>?_) (fun hc7=>?_)
  ·
   have hc7':=of_decide_eq_true hc7
   refine ae aa 4 rfl ?_
   refine aA ?_
   refine bp ?_
   refine ax ?_
   refine ax ?_
   refine bp ?_
   refine ax ?_
   have hX:eC s=(⟨e0,(↑q:Int)⟩:dc):=by
     unfold eC;rw [if_neg (by omega),if_neg (by omega),hi0_1,tG hx1,if_pos (by omega)];simp_all
   rw [hX] at hr;clear hX
   subst hr
   refine aq aa [1] 0 rfl rfl rfl rfl rfl rfl ?_ ?_
   all_goals first|rfl|(simp [aD,aZ,bm];done)|(simp [aD,aZ,bm];omega)
  have hc7':=of_decide_eq_false hc7
  refine cE ?_
  refine bf ?_
  refine then_ok ?_
  refine aw ?_
  refine az (aK rfl rfl rfl (aL (by first|omega|(simp;done)|(simp;omega)))) rfl ?_
  refine ad aa 1 rfl ?_
  refine af ?_
  refine ⟨q+1,⟨by omega,by rw [hi0_1,tG hx1,if_neg (by omega)]⟩,by first|omega|(simp;done)|(simp;omega),aF.bL id (by refine ⟨?_,?_,?_,?_,trivial⟩<;>first|rfl|(simp only [ba];done)|(congr 3;omega)|(congr 4;omega)|(simp only [bb];rfl)) (⟨by first|rfl|(simp only [ba];done)|(congr 3;omega)|(congr 4;omega)|(simp only [bb];rfl),trivial⟩) rfl⟩
 have hc6':=of_decide_eq_false hc6
 refine bT ?_
 refine aN ?_
 refine aN ?_
 refine bA ?_
 refine then_ok ?_
 refine ae aa 2 rfl ?_
 refine aA ?_
 have hX:eC s=(⟨0,0⟩:dc):=by
   unfold eC;rw [if_neg (by omega),if_neg (by omega),hi0_1,List.drop_of_length_le (by omega)];rfl
 rw [hX] at hr;clear hX
 subst hr
 refine aq aa [1] 0 rfl rfl rfl rfl rfl rfl ?_ ?_
 all_goals first|rfl|(simp [aD,aZ,bm];done)|(simp [aD,aZ,bm];omega)

theorem AY (s:Setup) (l:List bJ) (b2:Bk) (y2:List (List Int)) (o2:List Answer) (f2:dc) (hr:iJ s l=(b2,y2,o2,f2)):Fn Try.prog 22 [(.g [(cR 3 ((s.da).map gR)),(cI s.gn),(cI s.cap)]),(.c (te l))] (.t [(.g [(cI b2.time),(cB b2.down),(.s 0 0 6 b2.al.length),(.s 1 0 1 b2.due.length),(.s 2 0 8 b2.au.length),(cI b2.s0.bq),(ck b2.s0.kept),(cI b2.s1.bq),(ck b2.s1.kept),(cI b2.n0),(cI b2.n1),(cV b2.w0),(cV b2.w1),(cI b2.aY.cap),(df b2.aY.used),(eb b2.aY.aU),(.s 3 0 4 b2.aS.length),(.s 4 0 1 y2.length),(cZ b2.book)]),(.c (.s 5 0 2 o2.length)),(.g [(cI f2.err),(cI f2.at_)])]) [(0,(dV b2.al)),(1,(dL b2.due)),(2,(dY b2.au)),(3,(cT b2.aS)),(4,(qz y2)),(5,(Ft o2))]:=by
 refine Fn.mk' 89 [(0,(aG [(cR 3 ((s.da).map gR)),(cI s.gn),(cI s.cap)])),(1,(aC (te l)))] Try.func22 rfl rfl rfl rfl ?_
 intro W0 T0
 refine cF 0 0 rfl rfl (fun hlen0_0=>?_)
 refine dq 1 rfl (fun hlen1=>?_)
 refine ae aa 4 rfl ?_
 refine ag ?_
 refine aH aa 1 rfl ?_
 obtain ⟨f0,hr0⟩:∃ (f0:dc),eC s=f0:=⟨_,rfl⟩
 refine aT 3 [2,1,0] (bU 3 (wi s f0 hr0) Hz rfl rfl ⟨⟨_,rfl,.g ⟨.d _,.d _,.d _,trivial⟩⟩,trivial⟩ ⟨trivial,trivial,trivial⟩ trivial rfl rfl rfl rfl) rfl ?_
 refine ad aa 2 rfl ?_
 refine af ?_
 refine ae aa 3 rfl ?_
 refine aj rfl (fun hc1=>?_) (fun hc1=>?_)
 ·
  have hc1':=of_decide_eq_true hc1
  refine ag ?_
  refine di [1,2,4,6,7] [3,2,1,0] mixed rfl rfl ?_
  refine bW (kn:=[]) aa 5 rfl trivial ?_
  refine dW [1,2,4,6,5] [2,1,0] rfl rfl (by kernel_rfl) ?_
  refine then_ok ?_
  refine aA ?_
  refine ax ?_
  refine ct 1 2 61 6 rfl rfl rfl ?_
  refine ct 1 3 3 1 rfl rfl rfl ?_
  refine ct 1 4 67 8 rfl rfl rfl ?_
  refine fm 1 6 4 rfl rfl rfl ?_
  refine fm 1 8 4 rfl rfl rfl ?_
  refine fm 1 11 5 rfl rfl rfl ?_
  refine fm 1 12 5 rfl rfl rfl ?_
  refine fm 1 14 1 rfl rfl rfl ?_
  refine fm 1 15 4 rfl rfl rfl ?_
  refine ct 1 16 83 4 rfl rfl rfl ?_
  refine ct 1 17 86 1 rfl rfl rfl ?_
  refine fm 1 18 2 rfl rfl rfl ?_
  refine dh (aF.nil 5 65 2 (by decide) rfl) ?_
  have hX:iJ s l=((⟨0,false,([]:List bD),([]:List Int),([]:List bC),(⟨0,[]⟩:bS),(⟨0,[]⟩:bS),0,0,[],[],(⟨0,[],[]⟩:cH),([]:List ar),[]⟩:Bk),([]:List (List Int)),([]:List Answer),f0):=by
    unfold iJ;rw [hr0,if_pos (by omega)];rfl
  rw [hX] at hr;clear hX
  simp only [Prod.mk.injEq] at hr;obtain ⟨rfl,rfl,rfl,rfl⟩:=hr
  refine aq aa [4,5,6,7,8,9,1,2] 6 rfl rfl rfl rfl rfl rfl ?_ ?_
  all_goals first|rfl|(simp [aD,aZ,bm];done)|(simp [aD,aZ,bm];omega)
 have hc1':=of_decide_eq_false hc1
 refine aQ ?_
 refine ag ?_
 refine aH aa 1 rfl ?_
 refine az (bP rfl rfl rfl rfl rfl Try.underlying24) rfl ?_
 refine ad aa 1 rfl ?_
 refine af ?_
 refine aj rfl (fun hc2=>?_) (fun hc2=>?_)
 ·
  have hc2':=of_decide_eq_true hc2
  refine ae aa 5 rfl ?_
  refine aA ?_
  refine ax ?_
  refine ct 1 2 61 6 rfl rfl rfl ?_
  refine ct 1 3 3 1 rfl rfl rfl ?_
  refine ct 1 4 67 8 rfl rfl rfl ?_
  refine fm 1 6 4 rfl rfl rfl ?_
  refine fm 1 8 4 rfl rfl rfl ?_
  refine fm 1 11 5 rfl rfl rfl ?_
  refine fm 1 12 5 rfl rfl rfl ?_
  refine fm 1 14 1 rfl rfl rfl ?_
  refine fm 1 15 4 rfl rfl rfl ?_
  refine ct 1 16 83 4 rfl rfl rfl ?_
  refine ct 1 17 86 1 rfl rfl rfl ?_
  refine fm 1 18 2 rfl rfl rfl ?_
  refine dh (aF.nil 5 65 2 (by decide) rfl) ?_
  have hX:iJ s l=((⟨0,false,([]:List bD),([]:List Int),([]:List bC),(⟨0,[]⟩:bS),(⟨0,[]⟩:bS),0,0,[],[],(⟨0,[],[]⟩:cH),([]:List ar),[]⟩:Bk),([]:List (List Int)),([]:List Answer),(⟨5,0⟩:dc)):=by
    unfold iJ;rw [hr0,if_neg (by omega),if_pos (by omega)];rfl
  rw [hX] at hr;clear hX
  simp only [Prod.mk.injEq] at hr;obtain ⟨rfl,rfl,rfl,rfl⟩:=hr
  refine aq aa [4,5,6,7,8,9,1,2] 6 rfl rfl rfl rfl rfl rfl ?_ ?_
  all_goals first|rfl|(simp [aD,aZ,bm];done)|(simp [aD,aZ,bm];omega)
 have hc2':=of_decide_eq_false hc2
 refine aQ ?_
 refine eK ?_
 refine aT 5 [4,3,2,1,0] (yL 4 rfl) rfl ?_
 refine ad aa 3 rfl ?_
 refine af ?_
 refine ag ?_
 obtain ⟨w1,w2,w3,w4,w5,w6⟩:=kX (s:=s) (by rw [hr0];omega)
 refine pW 5 2 61 6 rfl rfl rfl ?_
 refine pW 5 4 67 8 rfl rfl rfl ?_
 refine kG 5 6 4 rfl rfl rfl ?_
 refine kG 5 8 4 rfl rfl rfl ?_
 refine kG 5 11 5 rfl rfl rfl ?_
 refine kG 5 12 5 rfl rfl rfl ?_
 refine kG 5 14 1 rfl rfl rfl ?_
 refine kG 5 15 4 rfl rfl rfl ?_
 refine pW 5 16 83 4 rfl rfl rfl ?_
 refine pW 5 17 86 1 rfl rfl rfl ?_
 refine kG 5 18 2 rfl rfl rfl ?_
 refine aH aa 2 rfl ?_
 refine az (bP rfl rfl rfl rfl rfl Try.underlying53) rfl ?_
 refine ad aa 1 rfl ?_
 refine af ?_
 refine aR ?_
 refine ch (β:=Nat×List bD) (fun (p:Nat×List bD)=>match p with|(q,m)=>⟨[(1,(aC (te l))),(2,(aC (.p 0 0 0 0))),(4,(aC (.p 1 0 0 0))),(5,(aC cN)),(6,(aC (.p 2 0 0 0))),(8,(aC (.p 5 0 0 0))),(29,(aC (cR 3 ((s.da).map gR)))),(30,(aI (↑s.da.length:Int))),(31,(aI (↑q:Int)))],[(9,(qz ([]:List (List Int)))),(8,(cT ([]:List ar))),(7,(dY ([]:List bC))),(6,(dV m)),(5,(.box 98 [(cI 0),(cB false),(.s 6 0 6 m.length),cN,(.s 7 0 8 0),(cI 0),(ck ([]:List bg)),(cI 0),(ck ([]:List bg)),(cI 0),(cI 0),(cV ([]:List cj)),(cV ([]:List cj)),(cI 0),(df ([]:List Int)),(eb ([]:List cp)),(.s 8 0 4 0),(.s 9 0 1 0),(cZ ([]:List Entry)),(.m 4)])),(4,(.map (tV ([]:List (Int×Answer))) 0)),(2,(.box 50 [(cI 0),(cI 0)])),(1,(.box 46 [(cI 0),(cB false),cN,cN,cN,(cI 0),cN,(cI 0),cN,(cI 0),(cI 0),cN,cN,(cI 0),cN,cN,cN,cN,cN])),(0,(.box 55 [(cR 3 ((s.da).map gR)),(cI s.gn),(cI s.cap)]))],10⟩) (fun (p:Nat×List bD)=>match p with|(q,m)=>q<=s.da.length/\m=(s.da.take q).map nZ/\m.length=q) (fun (p:Nat×List bD)=>match p with|(q,m)=>s.da.length - q) (0,([]:List bD)) ?_ ?_ ?_
 ·exact ⟨by omega,rfl,rfl⟩
 ·exact aF.bL id (by refine ⟨?_,?_,?_,?_,?_,?_,?_,?_,?_,trivial⟩<;>first|rfl|(simp only [ba];done)|(congr 3;omega)|(congr 4;omega)|(simp only [bb];rfl)) (by refine ⟨?_,?_,?_,?_,?_,?_,?_,?_,?_,trivial⟩<;>first|rfl|(simp only [ba];done)|(congr 3;omega)|(congr 4;omega)|(simp only [bb];rfl)) rfl
 rintro ⟨q,m⟩ ⟨hi0_0,hi0_1,hi0_2⟩
 refine ae aa 1 rfl ?_
 refine ag ?_
 refine aj rfl (fun hc3=>?_) (fun hc3=>?_)
 ·
  have hc3':=of_decide_eq_true hc3
  refine aQ ?_
  refine ag ?_
  refine aR ?_
  refine eK ?_
  obtain ⟨x1,hx1⟩:=cg (xs:=s.da) (i:=q) (by first|omega|(simp;done)|(simp;omega))
  refine az (bX (i:=q) rfl rfl rfl Try.underlying53 DN (by first|omega|(simp;done)|(simp;omega)) (bj hx1)) rfl ?_
  refine ad aa 3 rfl ?_
  refine af ?_
  refine aX [1,2,4,5,6,8,29,30,31,10] [10,9,8,7,6,5,4,2,1,0] mixed rfl rfl ?_
  refine ay (kn:=[]) aa 7 rfl trivial ?_
  refine aP (n':=11) [41] [] rfl rfl (.inl ⟨(ah.plain rfl),aJ.cast (aJ.GQ (cs':=[(cI 0),(cI 0),(cI x1.cG),(cI x1.count),(cI x1.sum),(eL ([]:List de))]) 5 2 (xL (ys:=[(2,(.g [(cI x1.cG),(cI x1.count),(cI x1.sum)]))]) rfl Gt rfl ⟨⟨rfl,rfl⟩,trivial⟩ rfl rfl) rfl rfl) rfl⟩) rfl ?_
  refine aP (n':=12) [42] [] rfl rfl (.inl ⟨(ah.plain rfl),aJ.cast (ec (ys:=[(0,(.g [(cI 0),(cI 0),(cI x1.cG),(cI x1.count),(cI x1.sum),(eL ([]:List de))]))]) (rows:=([(⟨0,0,x1,([]:List de)⟩:bD)]).map pH) 11 yl rfl (by decide) ⟨⟨rfl,rfl⟩,trivial⟩ rfl rfl rfl rfl) rfl⟩) rfl ?_
  refine aP (n':=13) [40,43] [11,6] rfl rfl (.inl ⟨(ah.plain rfl),aJ.cast (dE (m:=1) (N:=m.length+1) (k2:=12) (ys:=([(⟨0,0,x1,([]:List de)⟩:bD)]).map pH) yl rfl rfl rfl rfl rfl rfl (by first|omega|(simp;done)|(simp;omega)) rfl (.s rfl (by first|omega|(simp;done)|(simp;omega))) (by first|omega|(simp;done)|(simp;omega)) (by first|omega|(simp;done)|(simp;omega)) fM (by decide) (by first|omega|(simp;done)|(simp;omega)) (by first|omega|(simp;done)|(simp;omega))) rfl⟩) rfl ?_
  refine ay (kn:=[]) aa 3 rfl trivial ?_
  refine bw [12,10,9,8,7,5,4,2,1,0] rfl rfl rfl rfl (by kernel_rfl) ?_
  refine ad aa 1 rfl ?_
  refine cf ?_
  refine bf ?_
  refine then_ok ?_
  refine aw ?_
  refine az (aK rfl rfl rfl (aL (by first|omega|(simp;done)|(simp;omega)))) rfl ?_
  refine ad aa 1 rfl ?_
  refine af ?_
  refine ⟨(q+1,m++([(⟨0,0,x1,([]:List de)⟩:bD)])),⟨by omega,by rw [gV hx1,List.map_append,<-hi0_1];rfl,by rw [List.length_append,hi0_2];rfl⟩,by first|omega|(simp;done)|(simp;omega),aF.bL (fun k=>if k=6 then 12 else k) (by refine ⟨?_,?_,?_,?_,?_,?_,?_,?_,?_,trivial⟩<;>first|rfl|(simp only [ba];done)|(congr 3;omega)|(congr 4;omega)|(simp only [bb];rfl)) (by refine ⟨?_,?_,?_,?_,?_,?_,?_,?_,?_,trivial⟩<;>first|rfl|(simp only [ba];done)|(congr 3;omega)|(congr 4;omega)|(simp only [bb];rfl)) rfl⟩
 have hc3':=of_decide_eq_false hc3
 refine bT ?_
 refine aN ?_
 refine aN ?_
 refine bA ?_
 refine then_ok ?_
 refine aH aa 3 rfl ?_
 refine aT 11 [10,9,8,7,6,5,4,2,1,0] (pK 10 ns CG rfl rfl rfl (n:=Int.toNat (s.gn)) (by first|omega|(simp;done)|(simp;omega)) (by first|omega|(simp;done)|(simp;omega)) (by first|omega|(simp;done)|(simp;omega)) (by first|omega|(simp;done)|(simp;omega))) rfl ?_
 refine ad aa 4 rfl ?_
 refine af ?_
 refine aH aa 5 rfl ?_
 refine az (bP rfl rfl rfl rfl rfl Try.underlying53) rfl ?_
 have hr1:dH s.cap (↑s.da.length:Int)=((dH s.cap (↑s.da.length:Int)).1,(dH s.cap (↑s.da.length:Int)).2):=rfl
 refine aT 11 [10,9,8,7,6,5,4,2,1,0] (bU 11 (Fn.frozen (av':=(.t [(.g [(cI (((dH s.cap (↑s.da.length:Int)).1).cap)),(df (((dH s.cap (↑s.da.length:Int)).1).used)),(eb (((dH s.cap (↑s.da.length:Int)).1).aU))]),(.c (cI ((dH s.cap (↑s.da.length:Int)).2)))])) (wT s.cap (↑s.da.length:Int) ((dH s.cap (↑s.da.length:Int)).1) ((dH s.cap (↑s.da.length:Int)).2) hr1) ⟨⟨.inl ⟨_,rfl,rfl⟩,.inr ⟨_,_,_,_,_,rfl,rfl,rfl,by simp⟩,.inr ⟨_,_,_,_,_,rfl,rfl,rfl,by simp⟩,trivial⟩,.inl ⟨_,rfl,rfl⟩,trivial⟩) Hy rfl rfl ⟨⟨_,rfl,.c (.d _)⟩,⟨_,rfl,.c (.d _)⟩,trivial⟩ ⟨⟨trivial,trivial,trivial,trivial⟩,trivial,trivial⟩ trivial rfl rfl rfl rfl) rfl ?_
 refine ad aa 7 rfl ?_
 refine af ?_
 refine ae aa 1 rfl ?_
 refine ag ?_
 refine aH aa 1 rfl ?_
 refine az (bP rfl rfl rfl rfl rfl Try.underlying24) rfl ?_
 refine ad aa 1 rfl ?_
 refine af ?_
 refine aR ?_
 refine ik (aF.nil 11 65 2 (by decide) rfl) ?_
 have htk:m=s.da.map nZ:=by rw [hi0_1,List.take_of_length_le (by omega)]
 subst htk
 refine ch (β:=Nat×Bk×List (List Int)×List (Int×Answer)×Nat×List Answer) (fun (p:Nat×Bk×List (List Int)×List (Int×Answer)×Nat×List Answer)=>match p with|(u,b,days,told,cl,out)=>⟨[(1,(aC (te l))),(2,(aC (.p 0 0 0 0))),(4,(aC (.p 1 0 0 0))),(5,(aC cN)),(6,(aC (.p 2 0 0 0))),(8,(aC (.p 5 0 0 0))),(29,(aC (cR 3 ((s.da).map gR)))),(30,(aI (↑s.da.length:Int))),(31,(aI (↑q:Int))),(11,(aC (.s 11 0 2 out.length))),(70,(aI (↑l.length:Int))),(71,(aI (↑u:Int)))],[(11,(Ft out)),(10,(dL b.due)),(9,(qz days)),(8,(cT b.aS)),(7,(dY b.au)),(6,(dV b.al)),(5,(.box 98 (aZ b 6 10 7 8 (.s 9 0 1 days.length) (.m 4)))),(4,(.map (tV told) cl)),(2,(.box 50 [(cI 0),(cI 0)])),(1,(.box 46 [(cI 0),(cB false),cN,cN,cN,(cI 0),cN,(cI 0),cN,(cI 0),(cI 0),cN,cN,(cI 0),cN,cN,cN,cN,cN])),(0,(.box 55 [(cR 3 ((s.da).map gR)),(cI s.gn),(cI s.cap)]))],12⟩) (fun (p:Nat×Bk×List (List Int)×List (Int×Answer)×Nat×List Answer)=>match p with|(u,b,days,told,cl,out)=>u<=l.length/\kH l (iB s) [] [] 0 []=kH (l.drop u) b days told cl out/\cz b/\days.length<=u/\out.length=u) (fun (p:Nat×Bk×List (List Int)×List (Int×Answer)×Nat×List Answer)=>match p with|(u,b,days,told,cl,out)=>l.length - u) (0,iB s,([]:List (List Int)),([]:List (Int×Answer)),0,([]:List Answer)) ?_ ?_ ?_
 ·exact ⟨by omega,rfl,cz.start (by rw [hr0];omega),by simp,rfl⟩
 ·exact aF.bL id (by refine ⟨?_,?_,?_,?_,?_,?_,?_,?_,?_,?_,?_,?_,trivial⟩<;>first|rfl|(simp only [ba];done)|(congr 3;omega)|(congr 4;omega)|(simp only [bb];rfl)) (by refine ⟨?_,?_,?_,?_,?_,?_,?_,?_,?_,?_,?_,trivial⟩<;>first|rfl|(simp only [ba];done)|(congr 3;omega)|(congr 4;omega)|(simp only [bb];rfl)|(simp only [aZ,iB,List.length_replicate];rfl)) rfl
 rintro ⟨u,b,days,told,cl,out⟩ ⟨hi1_0,hi1_1,hi1_2,hi1_3,hi1_4⟩
 refine ae aa 1 rfl ?_
 refine ag ?_
 refine aj rfl (fun hc4=>?_) (fun hc4=>?_)
 ·
  have hc4':=of_decide_eq_true hc4
  refine aQ ?_
  refine ag ?_
  refine aR ?_
  refine ae aa 2 rfl ?_
  refine aw ?_
  refine ad aa 4 rfl ?_
  obtain ⟨x1,hx1⟩:=cg (xs:=l) (i:=u) (by first|omega|(simp;done)|(simp;omega))
  refine az (bX (i:=u) rfl rfl rfl Try.underlying24 GJ (by first|omega|(simp;done)|(simp;omega)) (bj hx1)) rfl ?_
  obtain ⟨b22,y22,t22,c22,a22,hr2⟩:∃ (b22:Bk) (y22:List (List Int)) (t22:List (Int×Answer)) (c22:Nat) (a22:Answer),fH b days told cl x1=(b22,y22,t22,c22,a22):=⟨_,_,_,_,_,rfl⟩
  refine aT 18 [5,12,13,14,15,16,17,11,2,1,0] (cu (bh [5,6,10,7,8,9,4]) (bh [5,12,13,14,15,16,17]) (ms:=(ji b 1 2 3 4 (some (.s 5 0 1 days.length)) (some (.m 6)))) (ms':=(ji b22 1 2 3 4 (some (.s 5 0 1 y22.length)) (some (.m 6)))) (fun x hx=>Fi x hx b days told cl x1 (by first|assumption|exact cz.tick (by assumption) (by omega) (by omega)) (by first|omega|(simp;done)|(simp;omega)) b22 y22 t22 c22 a22 hr2) Hx rfl rfl ⟨⟨_,rfl,.inl ⟨rfl,rfl⟩⟩,⟨_,rfl,.inl ⟨rfl,rfl⟩⟩,trivial⟩ rfl rfl rfl rfl rfl rfl rfl ⟨rfl,rfl,rfl,rfl,rfl,rfl,trivial⟩ rfl rfl rfl rfl rfl rfl rfl rfl rfl rfl rfl rfl rfl) rfl ?_
  refine aT 19 [18,5,12,13,14,15,16,17,11,2,1,0] (ec (ys:=[(0,(.g [(cI a22.err),(cI a22.bd)]))]) (rows:=([a22]).map lD) 18 DP rfl (by decide) ⟨⟨rfl,rfl⟩,trivial⟩ rfl rfl rfl rfl) rfl ?_
  refine aT 20 [19,18,5,12,13,14,15,16,17,2,1,0] (dE (m:=1) (N:=out.length+1) (k2:=19) (ys:=([a22]).map lD) DP rfl rfl rfl rfl rfl rfl (by first|omega|(simp;done)|(simp;omega)) rfl (.s rfl (by first|omega|(simp;done)|(simp;omega))) (by first|omega|(simp;done)|(simp;omega)) (by first|omega|(simp;done)|(simp;omega)) fM (by decide) (by first|omega|(simp;done)|(simp;omega)) (by first|omega|(simp;done)|(simp;omega))) rfl ?_
  refine ad aa 1 rfl ?_
  refine cf ?_
  refine bf ?_
  refine then_ok ?_
  refine aw ?_
  refine az (aK rfl rfl rfl (aL (by first|omega|(simp;done)|(simp;omega)))) rfl ?_
  refine ad aa 1 rfl ?_
  refine af ?_
  refine ⟨(u+1,b22,y22,t22,c22,out++([a22])),⟨by omega,by rw [hi1_1,yr hx1,hr2],(by have h:=cz.once hi1_2 days told cl x1;rw [hr2] at h;exact h.1),(by have h:=(cz.once hi1_2 days told cl x1).2;rw [hr2] at h;dsimp only at h;omega),by rw [List.length_append,hi1_4];rfl⟩,by first|omega|(simp;done)|(simp;omega),aF.bL (fun k=>if k=11 then 19 else if k=4 then 17 else if k=9 then 16 else if k=8 then 15 else if k=7 then 14 else if k=10 then 13 else if k=6 then 12 else k) (by refine ⟨?_,?_,?_,?_,?_,?_,?_,?_,?_,?_,?_,?_,trivial⟩<;>first|rfl|(simp only [ba];done)|(congr 3;omega)|(congr 4;omega)|(simp only [bb];rfl)) (by refine ⟨?_,?_,?_,?_,?_,?_,?_,?_,?_,?_,?_,trivial⟩<;>first|rfl|(simp only [ba];done)|(congr 3;omega)|(congr 4;omega)|(simp only [bb];rfl)) rfl⟩
 have hc4':=of_decide_eq_false hc4
 refine bT ?_
 refine aN ?_
 refine aN ?_
 refine bA ?_
 refine then_ok ?_
 refine ae aa 9 rfl ?_
 refine aA ?_
 have hX:iJ s l=(b,days,out,(⟨0,0⟩:dc)):=by
   unfold iJ;rw [hr0,if_neg (by omega),if_neg (by omega),hi1_1,List.drop_of_length_le (by omega)];rfl
 rw [hX] at hr;clear hX
 simp only [Prod.mk.injEq] at hr;obtain ⟨rfl,rfl,rfl,rfl⟩:=hr
 refine aq aa [6,10,7,8,9,11,1,2] 6 rfl rfl rfl rfl rfl rfl ?_ ?_
 all_goals first|rfl|(simp [aD,aZ,bm];done)|(simp [aD,aZ,bm];omega)

theorem Cn:Fn Try.prog 43 [] (.v (.g [(.s 0 0 3 1),(cI 1),(cI 30)])) [(0,.arr 58 3 ([(⟨10,5,1000⟩:ew)].map gR))]:=by
 refine Fn.mk' 4 [] Try.func43 rfl rfl rfl rfl ?_
 intro W0 T0
 refine ae aa 1 rfl ?_
 refine aH aa 1 rfl ?_
 refine aT 2 [1,0] (ec (ys:=[(0,(.g [(cI 10),(cI 5),(cI 1000)]))]) (rows:=([(⟨10,5,1000⟩:ew)]).map gR) 1 GL rfl (by decide) ⟨⟨rfl,rfl⟩,trivial⟩ rfl rfl rfl rfl) rfl ?_
 refine ad aa 2 rfl ?_
 refine af ?_
 refine aA ?_
 refine aq aa [1,0] 1 rfl rfl rfl rfl rfl rfl ?_ ?_
 all_goals first|rfl|(simp [aD,aZ,bm];done)|(simp [aD,aZ,bm];omega)
theorem Cu:Fn Try.prog 25 [] (aB true) []:=by
 refine Fn.mk' 66 [] Try.func25 rfl rfl rfl rfl ?_
 intro W0 T0
 refine ae aa 1 rfl ?_
 refine eK ?_
 refine aT 0 [] (bU 0 (Fn.frozen (av':=(aG [(cR 3 (([(⟨10,5,1000⟩:ew)]).map gR)),(cI 1),(cI 30)])) (Cn) ⟨.inr ⟨_,_,_,_,_,rfl,rfl,rfl,by simp⟩,.inl ⟨_,rfl,rfl⟩,.inl ⟨_,rfl,rfl⟩,trivial⟩) Hw rfl rfl trivial ⟨trivial,trivial,trivial,trivial⟩ trivial rfl rfl rfl rfl) rfl ?_
 refine ad aa 5 rfl ?_
 refine aT 1 [0] (ec (ys:=[(0,(.g [(cI 0),(cI 1),(cI 0),(cI 0),(cI 0),(cI 100)])),(1,(.g [(cI 0),(cI 2),(cI 0),(cI 0),(cI 0),(cI 60)])),(2,(.g [(cI 0),(cI 3),(cI 0),(cI 0),(cI 2),(cI 40)])),(3,(.g [(cI 0),(cI 5),(cI 0),(cI 0),(cI 0),(cI 0)])),(4,(.g [(cI 0),(cI 6),(cI 1),(cI 0),(cI 0),(cI 0)]))]) (rows:=([(⟨0,1,0,0,0,100⟩:bJ),(⟨0,2,0,0,0,60⟩:bJ),(⟨0,3,0,0,2,40⟩:bJ),(⟨0,5,0,0,0,0⟩:bJ),(⟨0,6,1,0,0,0⟩:bJ)]).map dj) 0 GM rfl (by decide) ⟨⟨rfl,rfl⟩,⟨rfl,rfl⟩,⟨rfl,rfl⟩,⟨rfl,rfl⟩,⟨rfl,rfl⟩,trivial⟩ rfl rfl rfl rfl) rfl ?_
 refine ur (s':=[(0,(aB false)),(5,(aG [(cR 3 (([(⟨10,5,1000⟩:ew)]).map gR)),(cI 1),(cI 30)])),(6,(aG [(cI 0),(cI 1),(cI 0),(cI 0),(cI 0),(cI 100)])),(7,(aG [(cI 0),(cI 2),(cI 0),(cI 0),(cI 0),(cI 60)])),(8,(aG [(cI 0),(cI 3),(cI 0),(cI 0),(cI 2),(cI 40)])),(9,(aG [(cI 0),(cI 5),(cI 0),(cI 0),(cI 0),(cI 0)])),(10,(aG [(cI 0),(cI 6),(cI 1),(cI 0),(cI 0),(cI 0)])),(11,(aC (te ([(⟨0,1,0,0,0,100⟩:bJ),(⟨0,2,0,0,0,60⟩:bJ),(⟨0,3,0,0,2,40⟩:bJ),(⟨0,5,0,0,0,0⟩:bJ),(⟨0,6,1,0,0,0⟩:bJ)]))))]) (h':=[]) 0 rfl ⟨⟨_,rfl,.inl ⟨rfl,rfl⟩⟩,⟨_,rfl,.inl ⟨rfl,rfl⟩⟩,⟨_,rfl,.inl ⟨rfl,rfl⟩⟩,⟨_,rfl,.inl ⟨rfl,rfl⟩⟩,⟨_,rfl,.inl ⟨rfl,rfl⟩⟩,⟨_,rfl,.inl ⟨rfl,rfl⟩⟩,⟨_,rfl,.inl ⟨rfl,rfl⟩⟩,⟨_,rfl,.inr ⟨_,_,rfl,rfl,.s rfl (by decide) (by first|omega|(simp;done)|(simp;omega))⟩⟩,trivial⟩ trivial rfl ?_
 have hr0:iJ (⟨[(⟨10,5,1000⟩:ew)],1,30⟩:Setup) ([(⟨0,1,0,0,0,100⟩:bJ),(⟨0,2,0,0,0,60⟩:bJ),(⟨0,3,0,0,2,40⟩:bJ),(⟨0,5,0,0,0,0⟩:bJ),(⟨0,6,1,0,0,0⟩:bJ)])=((⟨0,false,[⟨60,20,⟨10,5,1000⟩,[⟨0,60⟩]⟩],[40],[⟨0,0,60,40,0,0,100,false⟩],⟨1,[⟨1,1,0,40⟩]⟩,⟨0,[]⟩,0,1,[],[⟨⟨0,0,0,0⟩,0⟩],⟨30,[0],[]⟩,[⟨0,0,2,40⟩],[⟨0,-100⟩,⟨10,60⟩,⟨50,40⟩]⟩:Bk),[],[(⟨0,0⟩:Answer),(⟨0,0⟩:Answer),(⟨0,0⟩:Answer),(⟨0,0⟩:Answer),(⟨0,0⟩:Answer)],(⟨0,0⟩:dc)):=by kernel_rfl
 refine aT 1 [] (bU 1 (Fn.frozen (av':=(.t [(.g [(cI 0),(cB false),(gj ([⟨60,20,⟨10,5,1000⟩,[⟨0,60⟩]⟩])),(df ([40])),(gK ([⟨0,0,60,40,0,0,100,false⟩])),(cI 1),(ck ([⟨1,1,0,40⟩])),(cI 0),(ck ([])),(cI 0),(cI 1),(cV ([])),(cV ([⟨⟨0,0,0,0⟩,0⟩])),(cI 30),(df ([0])),(eb ([])),(eG ([⟨0,0,2,40⟩])),(hP ([])),(cZ ([⟨0,-100⟩,⟨10,60⟩,⟨50,40⟩]))]),(.c (DJ ([(⟨0,0⟩:Answer),(⟨0,0⟩:Answer),(⟨0,0⟩:Answer),(⟨0,0⟩:Answer),(⟨0,0⟩:Answer)]))),(.g [(cI 0),(cI 0)])])) (AY (⟨[(⟨10,5,1000⟩:ew)],1,30⟩:Setup) ([(⟨0,1,0,0,0,100⟩:bJ),(⟨0,2,0,0,0,60⟩:bJ),(⟨0,3,0,0,2,40⟩:bJ),(⟨0,5,0,0,0,0⟩:bJ),(⟨0,6,1,0,0,0⟩:bJ)]) (⟨0,false,[⟨60,20,⟨10,5,1000⟩,[⟨0,60⟩]⟩],[40],[⟨0,0,60,40,0,0,100,false⟩],⟨1,[⟨1,1,0,40⟩]⟩,⟨0,[]⟩,0,1,[],[⟨⟨0,0,0,0⟩,0⟩],⟨30,[0],[]⟩,[⟨0,0,2,40⟩],[⟨0,-100⟩,⟨10,60⟩,⟨50,40⟩]⟩:Bk) ([]) ([(⟨0,0⟩:Answer),(⟨0,0⟩:Answer),(⟨0,0⟩:Answer),(⟨0,0⟩:Answer),(⟨0,0⟩:Answer)]) (⟨0,0⟩:dc) hr0) ⟨⟨.inl ⟨_,rfl,rfl⟩,.inl ⟨_,rfl,rfl⟩,.inr ⟨_,_,_,_,_,rfl,rfl,rfl,by simp⟩,.inr ⟨_,_,_,_,_,rfl,rfl,rfl,by simp⟩,.inr ⟨_,_,_,_,_,rfl,rfl,rfl,by simp⟩,.inl ⟨_,rfl,rfl⟩,.inl ⟨_,rfl,rfl⟩,.inl ⟨_,rfl,rfl⟩,.inl ⟨_,rfl,rfl⟩,.inl ⟨_,rfl,rfl⟩,.inl ⟨_,rfl,rfl⟩,.inl ⟨_,rfl,rfl⟩,.inl ⟨_,rfl,rfl⟩,.inl ⟨_,rfl,rfl⟩,.inl ⟨_,rfl,rfl⟩,.inl ⟨_,rfl,rfl⟩,.inr ⟨_,_,_,_,_,rfl,rfl,rfl,by simp⟩,.inr ⟨_,_,_,_,_,rfl,rfl,rfl,by simp⟩,.inl ⟨_,rfl,rfl⟩,trivial⟩,.inr ⟨_,_,_,_,_,rfl,rfl,rfl,by simp⟩,⟨.inl ⟨_,rfl,rfl⟩,.inl ⟨_,rfl,rfl⟩,trivial⟩,trivial⟩) EX rfl rfl ⟨⟨_,rfl,.g ⟨.d _,.d _,.d _,trivial⟩⟩,⟨_,rfl,.c (.d _)⟩,trivial⟩ ⟨⟨trivial,trivial,trivial,trivial,trivial,trivial,trivial,trivial,trivial,trivial,trivial,trivial,trivial,trivial,trivial,trivial,trivial,trivial,trivial,trivial⟩,trivial,⟨trivial,trivial,trivial⟩,trivial⟩ trivial rfl rfl rfl rfl) rfl ?_
 refine ad aa 9 rfl ?_
 refine af ?_
 refine aH aa 2 rfl ?_
 refine az (aK rfl rfl rfl (show _=some (Value.bool true) from rfl)) rfl ?_
 refine ad aa 2 rfl ?_
 refine cD (ah.yes rfl rfl rfl) (bP rfl rfl rfl rfl rfl Try.underlying47) rfl rfl ?_
 refine cD (ah.yes rfl rfl rfl) (aK rfl rfl rfl (show _=some (Value.bool true) from rfl)) rfl rfl ?_
 refine ad aa 3 rfl ?_
 refine cD (ah.yes rfl rfl rfl) (bX (i:=4) rfl rfl rfl Try.underlying47 GG (by first|omega|(simp;done)|(simp;omega)) (bj (show ([(⟨0,0⟩:Answer),(⟨0,0⟩:Answer),(⟨0,0⟩:Answer),(⟨0,0⟩:Answer),(⟨0,0⟩:Answer)]:List Answer)[4]?=some (⟨0,0⟩:Answer) from rfl))) rfl rfl ?_
 refine ad aa 2 rfl ?_
 refine cD (ah.yes rfl rfl rfl) (aK rfl rfl rfl (show _=some (Value.bool true) from rfl)) rfl rfl ?_
 refine ad aa 4 rfl ?_
 refine cD (ah.yes rfl rfl rfl) (bP rfl rfl rfl rfl rfl Try.underlying30) rfl rfl ?_
 refine cD (ah.yes rfl rfl rfl) (aK rfl rfl rfl (show _=some (Value.bool true) from rfl)) rfl rfl ?_
 refine ad aa 4 rfl ?_
 refine cD (ah.yes rfl rfl rfl) (bP rfl rfl rfl rfl rfl Try.underlying29) rfl rfl ?_
 refine cD (ah.yes rfl rfl rfl) (aK rfl rfl rfl (show _=some (Value.bool true) from rfl)) rfl rfl ?_
 refine ad aa 4 rfl ?_
 refine cD (ah.yes rfl rfl rfl) (bX (i:=0) rfl rfl rfl Try.underlying30 fC (by first|omega|(simp;done)|(simp;omega)) (bj (show ([40]:List Int)[0]?=some 40 from rfl))) rfl rfl ?_
 refine ad aa 1 rfl ?_
 refine cD (ah.yes rfl rfl rfl) (aK rfl rfl rfl (show _=some (Value.bool true) from rfl)) rfl rfl ?_
 refine ad aa 4 rfl ?_
 refine cD (ah.yes rfl rfl rfl) (bX (i:=0) rfl rfl rfl Try.underlying29 iu (by first|omega|(simp;done)|(simp;omega)) (bj (show ([⟨60,20,⟨10,5,1000⟩,[⟨0,60⟩]⟩]:List bD)[0]?=some (⟨60,20,⟨10,5,1000⟩,[⟨0,60⟩]⟩:bD) from rfl))) rfl rfl ?_
 refine ad aa 2 rfl ?_
 refine cD (ah.yes rfl rfl rfl) (aK rfl rfl rfl (show _=some (Value.bool true) from rfl)) rfl rfl ?_
 refine ad aa 4 rfl ?_
 refine cD (ah.yes rfl rfl rfl) (bX (i:=0) rfl rfl rfl Try.underlying29 iu (by first|omega|(simp;done)|(simp;omega)) (bj (show ([⟨60,20,⟨10,5,1000⟩,[⟨0,60⟩]⟩]:List bD)[0]?=some (⟨60,20,⟨10,5,1000⟩,[⟨0,60⟩]⟩:bD) from rfl))) rfl rfl ?_
 refine ad aa 2 rfl ?_
 refine cD (ah.yes rfl rfl rfl) (aK rfl rfl rfl (show _=some (Value.bool true) from rfl)) rfl rfl ?_
 refine ad aa 2 rfl ?_
 refine af ?_
 refine aA ?_
 refine aq aa [] 0 rfl rfl rfl rfl rfl rfl ?_ ?_
 all_goals first|rfl|(simp [aD,aZ,bm];done)|(simp [aD,aZ,bm];omega)
section
section
variable {P:Program} {W0:World} {F:Nat->Prop} {N:NT} {T0:Nat->Prop} {pin:List (Nat×bQ)} {Q:Exit->aM->Prop} {st:aM}
def zh:List Oper->List Oper->Option (List Oper)
 |[],m=>some m
 |o::l,m=>match zh l m with
  |some r=>some (o::r)
  |none=>none
theorem xV:∀ {l m r:List Oper},zh l m=some r->l++m=r
 |[],m,r,h=>by cases h;rfl
 |o::l,m,r,h=>by
  unfold zh at h
  split at h
  ·rename_i r' h';injection h with h;subst h;rw [List.cons_append,xV h']
  ·cases h
end
def uK (P:Program):Nat->TypeId->Value->Prop
 |0,_,_=>False
 |d+1,t,v=>(∃ k k' a,P.underlying t=some (.int k')/\v=.int k a)\/(∃ a,P.underlying t=some .bool/\v=.bool a)\/
  (∃ fs xs,P.underlying t=some (.struct fs)/\P.stoodInHeld t=false/\v=.agg xs/\∀ f∈fs.toList,f.name≠ "_"/\∃ u,(∀ w,(part f.type xs f.offset).run P w=.ok u w)/\uK P d f.type u)\/
  (∃ n e m xs,P.underlying t=some (.array n e)/\(P.info? e).map (·.size)=some m/\v=.agg xs/\∀ j,j < n->∃ u,(∀ w,(part e xs (j * m)).run P w=.ok u w)/\uK P d e u)
theorem ny {P:Program} (c:Nat):∀ (d:Nat) (t:TypeId) (v:Value),uK P d t v->∀ w,(Op.equalIn (c+d) t v v).run P w=.ok true w
 |0,_,_,h,_=>h.elim
 |d+1,t,v,h,w=>by
  rcases h with ⟨k,k',a,hu,rfl⟩|⟨a,hu,rfl⟩|⟨fs,xs,hu,hp,rfl,hf⟩|⟨n,e,m,xs,hu,hm,rfl,hf⟩
  ·have:=run_equalIn_int (P:=P) w (c+d) t k k' a a hu
   rw [show c+(d+1)=c+d+1 by omega,this];simp
  ·have:=run_equalIn_bool (P:=P) w (c+d) t a a hu
   rw [show c+(d+1)=c+d+1 by omega,this];simp
  ·have hfs:Go.Program.fieldsOf P t=fs:=by simp [Go.Program.fieldsOf,hu]
   have:=run_equalIn_struct (P:=P) w (c+d) t xs xs (by rw [hfs];exact hu) hp
   rw [show c+(d+1)=c+d+1 by omega,this,hfs]
   clear this hfs hu
   generalize fs.toList=l at hf
   induction l with
   |nil=>simp [Op.eqFields]
   |cons f l ih=>
    obtain ⟨h1,u,h2,h3⟩:=hf f List.mem_cons_self
    simp only [Op.eqFields,h1,ne_eq,not_false_eq_true,if_true,Sem.run_bind,h2,Result.andThen_ok,ny c d f.type u h3 w,Bool.not_true,Bool.false_eq_true,if_false]
    exact ih fun g hg=>hf g (List.mem_cons_of_mem _ hg)
  ·cases hi:P.info? e with
   |none=>rw [hi] at hm;cases hm
   |some i=>
    have hc:P.cellsOf e=m:=by rw [hi] at hm;unfold Program.cellsOf;rw [hi];simpa using hm
    have:=run_equalIn_array (P:=P) w (c+d) xs xs hu hi
    rw [show c+(d+1)=c+d+1 by omega,this,hc]
    have hl:∀ j∈List.range n,∃ u,(∀ w,(part e xs (j * m)).run P w=.ok u w)/\uK P d e u:=fun j hj=>hf j (List.mem_range.1 hj)
    clear this hf
    generalize List.range n=l at hl
    induction l with
    |nil=>simp [Op.eqItems]
    |cons j l ih=>
     obtain ⟨u,h2,h3⟩:=hl j List.mem_cons_self
     simp only [Op.eqItems,Sem.run_bind,h2,Result.andThen_ok,ny c d e u h3 w,Bool.not_true,Bool.false_eq_true,if_false]
     exact ih fun g hg=>hl g (List.mem_cons_of_mem _ hg)
theorem nF {P:Program} {t off:Nat} {d:TypeDesc} {xs:Array Value} {v:Value} (hu:P.underlying t=some d) (hd:jn d=false) (h:xs[off]?=some v):∀ w,(part t xs off).run P w=.ok v w:=fun w=>by
 simp [part,il hu,hd,h]
theorem vk {P:Program} {t off n:Nat} {d:TypeDesc} {xs ys:Array Value} (hu:P.underlying t=some d) (hd:jn d=true) (hz:(P.info? t).map (·.size)=some n) (h:xs.extract off (off+n)=ys):∀ w,(part t xs off).run P w=.ok (.agg ys) w:=fun w=>by
 cases hi:P.info? t with
 |none=>rw [hi] at hz;cases hz
 |some i=>
  have hc:P.cellsOf t=n:=by rw [hi] at hz;unfold Program.cellsOf;rw [hi];simpa using hz
  simp [part,il hu,hd,run_sizeOf w hi,hc,h]
theorem vL {P:Program} {st:aM} {o:Oper} {t yt:TypeId} {x y:Operand} {xs:List Value} {cx:List CV} (hg:P.eqGuardType P.depth t=false) (hs:∀ w,(Op.equalIn 10000 t (.agg xs.toArray) (.agg xs.toArray)).run P w=.ok true w) (ho:o.op=.binOp .neq t x y yt) (hx:ev st x (.v (.g cx))) (hy:ev st y (.v (.g cx))) (hcx:(xs.map fun x=>CV.d (.v x))=cx):aJ P o st (aB false) [] []:=
 aJ.val fun σ T a w C=>by
  subst hcx
  obtain ⟨vs,h1,h2⟩:=bG C hx
  obtain ⟨us,h3,h4⟩:=bG C hy
  rw [iS h2] at h1
  rw [iS h4] at h3
  refine ⟨.bool false,?_,br.v _ rfl⟩
  unfold execOp
  simp only [ho,h1,h3,Sem.run_bind,run_eqGuard_agg w .neq t x y _ _ hg,Result.andThen_ok,run_neq_struct,hs]
  rfl
end
section
section
variable {P:Program} {W0:World} {F:Nat->Prop} {N:NT} {T0:Nat->Prop} {pin:List (Nat×bQ)} {Q:Exit->aM->Prop} {st:aM}
theorem Bi {id:Nat} {l m r:List Oper} (hr:zh l m=some r) (h:AL P W0 F N T0 pin r.toArray Q r st):AC P W0 F N T0 pin Q (.region id (List.toArray (List.append l m)) false) st:=by
 have e:List.toArray (List.append l m)=r.toArray:=by rw [<-xV hr];rfl
 rw [e]
 exact aw h
end
end
end Go.Proofs.Ytegepioggeggaaa.Dev
