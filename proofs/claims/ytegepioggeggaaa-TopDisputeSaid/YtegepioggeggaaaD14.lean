/- A part of the proof: BankUp, Bank12, Bank13, Play0, Play1, Top1, Top2, Top3. No condition. -/
import Derived.Test.YtegepioggeggaaaD12
import Derived.Test.YtegepioggeggaaaD13
set_option linter.unusedVariables false
set_option linter.unusedSimpArgs false
set_option maxHeartbeats 8000000
set_option maxRecDepth 100000
namespace Go.Proofs.Ytegepioggeggaaa.Dev
open Go.RowKit

theorem Hk (x:Nat->Value) (hx:∀ i,(x i).oneCell'=true) (b:Bk) (ok:cm b) (b2:Bk) (a2:Answer) (hr:jc b=(b2,a2)):cA Try.prog 68 [(.c (.p 0 0 0 0))] [(0,(.box 98 (aS b 1 2 3 4 (.d (.v (x 17))) (.d (.v (x 19)))))),(1,(dR b.aj)),(2,(dL b.due)),(3,(dX b.aq)),(4,(cH b.aN))] [0] (.v (.g [cI a2.err,cI a2.ba])) [(0,(.box 98 (aS b2 1 2 3 4 (.d (.v (x 17))) (.d (.v (x 19)))))),(1,(dR b2.aj)),(2,(dL b2.due)),(3,(dX b2.aq)),(4,(cH b2.aN))]:=by
 refine cA.mk 116 [(0,(aC (.p 0 0 0 0)))] 5 Try.func68 rfl rfl rfl rfl rfl rfl rfl rfl rfl ?_
 intro W0 F0 T0 pg
 obtain ⟨okt,okc,okd,oka,oky,okw0,okw1,okp,okv,okk0,okk1,okg,okl0,okl1,okp0,okp1,okn0,okn1,okq⟩:=id ok
 refine ad aa 1 rfl ?_
 refine af ?_
 refine ad aa 6 rfl ?_
 refine ag rfl (fun hc1=>?_) (fun hc1=>?_)
 ·
  have hc1':=hc1;try simp only [bm,bM] at hc1'
  refine ad aa 2 rfl ?_
  refine ar ?_
  refine ao ?_
  have hX:jc b=(b,(⟨8,0⟩:Answer)):=by
    unfold jc;rw [if_pos (by cases hd:b.down<;>simp_all)]
  rw [hX] at hr;clear hX
  simp only [Prod.mk.injEq] at hr;obtain ⟨rfl,rfl⟩:=hr
  refine ah aa [0,1,2,3,4,5] 5 rfl rfl rfl rfl rfl rfl ?_ ?_
  all_goals first|rfl|(simp [au,aS,aZ];done)|(simp [au,aS,aZ];omega)
 have hc1':=hc1;try simp only [bm,bM] at hc1'
 refine aP ?_
 refine az aa 5 rfl ?_
 obtain ⟨xr0,l0,e0,hr0⟩:∃ (xr0:cw) (l0:List ca) (e0:Int),cW b.bH=(xr0,l0,e0):=⟨_,_,_,rfl⟩
 refine aL 6 [5,0,1,2,3,4] (bJ 6 (Fn.frozen (av':=(.t [(.g [(cI xr0.cap),(fC xr0.used),(gz xr0.aX)]),(.c (gz l0)),(.c (cI e0))])) (ud b.bH xr0 l0 e0 hr0) ⟨⟨.inl ⟨_,rfl,rfl⟩,.inr ⟨_,_,_,_,_,rfl,rfl,rfl,by simp⟩,.inr ⟨_,_,_,_,_,rfl,rfl,rfl,by simp⟩,trivial⟩,.inr ⟨_,_,_,_,_,rfl,rfl,rfl,by simp⟩,.inl ⟨_,rfl,rfl⟩,trivial⟩) GL rfl rfl ⟨⟨_,rfl,.g ⟨.d _,.d _,.d _,trivial⟩⟩,trivial⟩ ⟨⟨trivial,trivial,trivial,trivial⟩,trivial,trivial,trivial⟩ trivial rfl rfl rfl rfl) rfl ?_
 refine ab aa 8 rfl ?_
 refine ae ?_
 refine af ?_
 refine ad aa 2 rfl ?_
 refine ag rfl (fun hc2=>?_) (fun hc2=>?_)
 ·
  have hc2':=of_decide_eq_true hc2
  refine ad aa 3 rfl ?_
  refine ar ?_
  refine ao ?_
  have hX:jc b=(b,(⟨e0,0⟩:Answer)):=by
    unfold jc;rw [if_neg (by cases hd:b.down<;>simp_all),hr0];dsimp only;rw [if_pos (by omega)]
  rw [hX] at hr;clear hX
  simp only [Prod.mk.injEq] at hr;obtain ⟨rfl,rfl⟩:=hr
  refine ah aa [0,1,2,3,4,5] 5 rfl rfl rfl rfl rfl rfl ?_ ?_
  all_goals first|rfl|(simp [au,aS,aZ];done)|(simp [au,aS,aZ];omega)
 have hc2':=of_decide_eq_false hc2
 refine aP ?_
 refine az aa 1 rfl ?_
 refine aL 16 [0,7,8,9,10,11,12,13,14,15,6,5] (cv id (aU [0,7,8,9,10,11,12,13,14,15]) (kc (x 17) (x 19) b (by first|omega|(simp;done)|(simp;omega)) (by first|omega|(simp;done)|(simp;omega)) (by first|omega|(simp;done)|(simp;omega)) (by first|omega|(simp;done)|(simp;omega))) qu rfl rfl ⟨⟨_,rfl,.inl ⟨rfl,rfl⟩⟩,trivial⟩ ⟨rfl,rfl,rfl,rfl,rfl,trivial⟩ rfl rfl rfl rfl rfl rfl trivial ⟨⟨trivial,trivial,trivial,trivial,trivial,trivial,trivial,trivial,trivial,trivial,trivial,trivial,trivial,trivial,trivial,trivial,trivial,trivial,trivial,trivial,trivial⟩,⟨trivial,trivial,trivial,trivial,trivial,trivial,trivial,trivial,trivial,trivial,trivial,trivial,trivial,trivial,trivial,trivial,trivial,trivial,trivial,trivial,trivial⟩,(fun _ _ _ _=>trivial),(fun _ _ _ _=>trivial),(fun _ _ _ _=>trivial),(fun _ _ _ _=>trivial),(fun _ _ _ _=>trivial),(fun _ _ _ _=>trivial),(fun _ _ _ _=>trivial),(fun _ _ _ _=>trivial),trivial⟩ rfl rfl rfl rfl) rfl ?_
 refine ab aa 1 rfl ?_
 refine ae ?_
 refine af ?_
 obtain rfl:e0=0:=by omega
 have hcl:l0=b.bH.aX:=by have h:=(qB (s:=b.bH) (by rw [hr0])).2.2;rw [hr0] at h;exact h
 refine az aa 1 rfl ?_
 refine ay (cT rfl rfl rfl rfl rfl Try.underlying39) rfl ?_
 refine ab aa 1 rfl ?_
 refine ae ?_
 refine aV ?_
 refine cx (β:=Nat×List bx×List bz) (fun (p:Nat×List bx×List bz)=>match p with|(q,cs,xs)=>⟨[(0,(aC (.p 0 0 0 0))),(2,(aC (.p 5 0 0 0))),(3,(aC (.p 6 0 0 0))),(6,(aC (.p 7 0 0 0))),(36,(aC (gz l0))),(37,(aI (↑l0.length:Int))),(38,(aI (↑q:Int)))],[(0,(.box 98 (aS b 8 9 10 11 (.d (.v (x 17))) (.d (.v (x 19)))))),(7,(.box 147 (((aS b 12 13 14 15 (.d (.v (x 17))) (cI 0)).set 2 (.s 12 0 6 cs.length)).set 4 (.s 14 0 8 xs.length)))),(8,(dR b.aj)),(9,(dL b.due)),(10,(dX b.aq)),(11,(cH b.aN)),(12,(dR cs)),(13,(dL b.due)),(14,(dX xs)),(15,(cH b.aN)),(6,(.box 41 [(cI xr0.cap),(fC xr0.used),(gz xr0.aX)])),(5,(.box 65 [(cI 0),(cI 0)]))],16⟩) (fun (p:Nat×List bx×List bz)=>match p with|(q,cs,xs)=>q<=l0.length/\gh l0 b.aj b.aq=gh (l0.drop q) cs xs/\cs.length=b.aj.length/\xs.length=b.aq.length+q) (fun (p:Nat×List bx×List bz)=>match p with|(q,cs,xs)=>l0.length - q) (0,b.aj,b.aq) ?_ ?_ ?_
 ·exact ⟨by omega,rfl,rfl,rfl⟩
 ·exact aD.bY id (by refine ⟨?_,?_,?_,?_,?_,?_,?_,trivial⟩<;>first|rfl|(simp only [bn];done)|(congr 3;omega)|(congr 4;omega)|(simp only [bo];rfl)) (by refine ⟨?_,?_,?_,?_,?_,?_,?_,?_,?_,?_,?_,?_,trivial⟩<;>first|rfl|(simp only [bn];done)|(congr 3;omega)|(congr 4;omega)|(simp only [bo];rfl)) rfl
 rintro ⟨q,cs,xs⟩ ⟨hi0_0,hi0_1,hi0_2,hi0_3⟩
 have hll:b.aq.length+l0.length<=30:=by rw [hcl];exact oka
 refine ad aa 1 rfl ?_
 refine af ?_
 refine ag rfl (fun hc3=>?_) (fun hc3=>?_)
 ·
  have hc3':=of_decide_eq_true hc3
  refine aP ?_
  refine af ?_
  refine aV ?_
  refine eE ?_
  obtain ⟨x1,hx1⟩:=ch (xs:=l0) (i:=q) (by first|omega|(simp;done)|(simp;omega))
  have hx1A:=okv x1 (by rw [<-hcl];exact List.mem_of_getElem? hx1)
  refine ay (cQ (i:=q) rfl rfl rfl Try.underlying39 CG (by first|omega|(simp;done)|(simp;omega)) (bw hx1)) rfl ?_
  refine ab aa 3 rfl ?_
  refine ae ?_
  refine az aa 8 rfl ?_
  obtain ⟨b1,e1,hr1⟩:∃ (b1:bz) (e1:Int),de x1.aJ x1.ax x1.sum x1.time=(b1,e1):=⟨_,_,rfl⟩
  refine aL 17 [16,0,7,8,9,10,11,12,13,14,15,6,5] (bJ 17 (rJ x1.aJ x1.ax x1.sum x1.time b1 e1 hr1) EJ rfl rfl ⟨⟨_,rfl,.c (.d _)⟩,⟨_,rfl,.c (.d _)⟩,⟨_,rfl,.c (.d _)⟩,⟨_,rfl,.c (.d _)⟩,trivial⟩ ⟨⟨trivial,trivial,trivial,trivial,trivial,trivial,trivial,trivial,trivial⟩,trivial,trivial⟩ trivial rfl rfl rfl rfl) rfl ?_
  refine ab aa 6 rfl ?_
  refine ae ?_
  refine af ?_
  refine az aa 2 rfl ?_
  obtain ⟨e22,hr2⟩:∃ (e22:Int),dv 0 e1=e22:=⟨_,rfl⟩
  refine aL 18 [7,17,16,0,8,9,10,11,12,13,14,15,6,5] (cg (aU [7]) (aU [7]) (ms:=(dw.set 19 (some (cI 0)))) (ms':=(dw.set 19 (some (cI e22)))) (fun x hx=>jI x hx 0 e1 e22 hr2) nv rfl rfl ⟨⟨_,rfl,.inl ⟨rfl,rfl⟩⟩,⟨_,rfl,.inr (.c (.d _))⟩,trivial⟩ rfl rfl rfl rfl rfl rfl rfl trivial rfl rfl rfl rfl rfl rfl rfl rfl rfl rfl rfl rfl rfl) rfl ?_
  refine ae ?_
  refine ag rfl (fun hc4=>?_) (fun hc4=>?_)
  ·
   have hc4':=of_decide_eq_true hc4
   refine cp ?_
   refine aR ?_
   refine rO rfl ?_
   refine aR ?_
   refine aR ?_
   refine bQ ?_
   refine then_ok ?_
   refine ad aa 11 rfl ?_
   refine af ?_
   refine az aa 2 rfl ?_
   refine aL 22 [0,18,19,20,21,17,16,6,5] (cv (aU [0,7,8,9,10,11,12,13,14,15]) (aU [0,18,19,20,21]) (fT (x 17) (x 19) b (⟨b.time,false,cs,b.due,xs,b.s0,b.s1,b.n0,b.n1,b.w0,b.w1,xr0,b.aN,b.book⟩:Bk) e22 (by first|assumption|omega)) fE rfl rfl ⟨⟨_,rfl,.inl ⟨rfl,rfl⟩⟩,⟨_,rfl,.inl ⟨rfl,rfl⟩⟩,trivial⟩ ⟨rfl,rfl,rfl,rfl,rfl,rfl,rfl,rfl,rfl,rfl,trivial⟩ rfl rfl rfl rfl rfl rfl trivial ⟨⟨trivial,trivial,trivial,trivial,trivial,trivial,trivial,trivial,trivial,trivial,trivial,trivial,trivial,trivial,trivial,trivial,trivial,trivial,trivial,trivial,trivial⟩,(fun _ _ _ _=>trivial),(fun _ _ _ _=>trivial),(fun _ _ _ _=>trivial),(fun _ _ _ _=>trivial),trivial⟩ rfl rfl rfl rfl) rfl ?_
   refine ab aa 1 rfl ?_
   refine ae ?_
   refine ad aa 2 rfl ?_
   refine ag rfl (fun _=>?_) (fun hno=>absurd (hc4.symm.trans hno) (by decide))
   refine ad aa 3 rfl ?_
   refine ar ?_
   refine ao ?_
   have hX:jc b=(b,(⟨e22,0⟩:Answer)):=by
     exact zg (by cases hd:b.down<;>simp_all) hr0 (hi0_1.trans (Bc hx1 hr1 hr2 (by omega))) (by omega)
   rw [hX] at hr;clear hX
   simp only [Prod.mk.injEq] at hr;obtain ⟨rfl,rfl⟩:=hr
   refine ah aa [0,18,19,20,21,5] 5 rfl rfl rfl rfl rfl rfl ?_ ?_
   all_goals first|rfl|(simp [au,aS,aZ];done)|(simp [au,aS,aZ];omega)
  have hc4':=of_decide_eq_false hc4
  refine aP ?_
  obtain rfl:e22=0:=by omega
  refine af ?_
  obtain ⟨x2,hx2⟩:=ch (xs:=cs) (i:=Int.toNat (x1.aJ)) (by first|omega|(simp;done)|(simp;omega))
  obtain ⟨xr3,e3,hr3⟩:∃ (xr3:bx) (e3:Int),eO x2 x1.sum=(xr3,e3):=⟨_,_,rfl⟩
  refine db [0,2,3,6,36,37,38,8,9] [7,17,16,0,8,9,10,11,12,13,14,15,6,5] mixed rfl rfl ?_
  refine bT (kn:=[]) aa 7 rfl trivial ?_
  refine bW (n':=18) [62,64] [12] rfl rfl (.inl ⟨(ak.plain rfl),aK.cast (bq (i:=Int.toNat (x1.aJ)) rfl rfl rfl Try.underlying29 hY (by first|omega|(simp;done)|(simp;omega)) (by first|omega|(simp;done)|(simp;omega))) rfl⟩) rfl ?_
  refine bW (n':=18) [65] [12] rfl rfl (.inl ⟨(ak.plain rfl),aK.cast (dg rfl rfl rfl Try.underlying61 rfl hY (bw hx2) rfl) rfl⟩) rfl ?_
  refine bT (kn:=[]) aa 2 rfl trivial ?_
  refine bW (n':=18) [66,68] [] rfl rfl (.inl ⟨(ak.plain rfl),aK.cast (bJ 18 (Fn.frozen (av':=(.t [(.g [(cI xr3.bj),(cI xr3.held),(cI xr3.bX.cK),(cI xr3.bX.count),(cI xr3.bX.sum),(fq xr3.cD)]),(.c (cI e3))])) (vQ x2 x1.sum xr3 e3 hr3) ⟨⟨.inl ⟨_,rfl,rfl⟩,.inl ⟨_,rfl,rfl⟩,.inl ⟨_,rfl,rfl⟩,.inl ⟨_,rfl,rfl⟩,.inl ⟨_,rfl,rfl⟩,.inr ⟨_,_,_,_,_,rfl,rfl,rfl,by simp⟩,trivial⟩,.inl ⟨_,rfl,rfl⟩,trivial⟩) GK rfl rfl ⟨⟨_,rfl,.g ⟨.d _,.d _,.d _,.d _,.d _,.d _,trivial⟩⟩,⟨_,rfl,.c (.d _)⟩,trivial⟩ ⟨⟨trivial,trivial,trivial,trivial,trivial,trivial,trivial⟩,trivial,trivial⟩ trivial rfl rfl rfl rfl) rfl⟩) rfl ?_
  refine bT (n':=19) (kn:=[]) aa 6 rfl trivial ?_
  refine dS [0,2,3,6,36,37,38,8,9,11,10] [18,7,17,16,0,8,9,10,11,12,13,14,15,6,5] rfl rfl (by kernel_rfl) ?_
  refine then_ok ?_
  refine af ?_
  refine az aa 2 rfl ?_
  obtain ⟨e24,hr4⟩:∃ (e24:Int),dv 0 e3=e24:=⟨_,rfl⟩
  refine aL 19 [7,18,17,16,0,8,9,10,11,12,13,14,15,6,5] (cg (aU [7]) (aU [7]) (ms:=(dw.set 19 (some (cI 0)))) (ms':=(dw.set 19 (some (cI e24)))) (fun x hx=>jI x hx 0 e3 e24 hr4) nv rfl rfl ⟨⟨_,rfl,.inl ⟨rfl,rfl⟩⟩,⟨_,rfl,.inr (.c (.d _))⟩,trivial⟩ rfl rfl rfl rfl rfl rfl rfl trivial rfl rfl rfl rfl rfl rfl rfl rfl rfl rfl rfl rfl rfl) rfl ?_
  refine ae ?_
  refine ag rfl (fun hc6=>?_) (fun hc6=>?_)
  ·
   have hc6':=of_decide_eq_true hc6
   refine cp ?_
   refine aR ?_
   refine rO rfl ?_
   refine aR ?_
   refine aR ?_
   refine bQ ?_
   refine then_ok ?_
   refine ad aa 11 rfl ?_
   refine af ?_
   refine az aa 2 rfl ?_
   refine aL 23 [0,19,20,21,22,18,17,16,6,5] (cv (aU [0,7,8,9,10,11,12,13,14,15]) (aU [0,19,20,21,22]) (fT (x 17) (x 19) b (⟨b.time,false,cs,b.due,xs,b.s0,b.s1,b.n0,b.n1,b.w0,b.w1,xr0,b.aN,b.book⟩:Bk) e24 (by first|assumption|omega)) fE rfl rfl ⟨⟨_,rfl,.inl ⟨rfl,rfl⟩⟩,⟨_,rfl,.inl ⟨rfl,rfl⟩⟩,trivial⟩ ⟨rfl,rfl,rfl,rfl,rfl,rfl,rfl,rfl,rfl,rfl,trivial⟩ rfl rfl rfl rfl rfl rfl trivial ⟨⟨trivial,trivial,trivial,trivial,trivial,trivial,trivial,trivial,trivial,trivial,trivial,trivial,trivial,trivial,trivial,trivial,trivial,trivial,trivial,trivial,trivial⟩,(fun _ _ _ _=>trivial),(fun _ _ _ _=>trivial),(fun _ _ _ _=>trivial),(fun _ _ _ _=>trivial),trivial⟩ rfl rfl rfl rfl) rfl ?_
   refine ab aa 1 rfl ?_
   refine ae ?_
   refine ad aa 2 rfl ?_
   refine ag rfl (fun _=>?_) (fun hno=>absurd (hc6.symm.trans hno) (by decide))
   refine ad aa 3 rfl ?_
   refine ar ?_
   refine ao ?_
   have hX:jc b=(b,(⟨e24,0⟩:Answer)):=by
     exact zg (by cases hd:b.down<;>simp_all) hr0 (hi0_1.trans (Bb hx1 hr1 hr2 hx2 hr3 hr4 (by omega))) (by omega)
   rw [hX] at hr;clear hX
   simp only [Prod.mk.injEq] at hr;obtain ⟨rfl,rfl⟩:=hr
   refine ah aa [0,19,20,21,22,5] 5 rfl rfl rfl rfl rfl rfl ?_ ?_
   all_goals first|rfl|(simp [au,aS,aZ];done)|(simp [au,aS,aZ];omega)
  have hc6':=of_decide_eq_false hc6
  refine aP ?_
  obtain rfl:e24=0:=by omega
  refine af ?_
  refine bb [0,2,3,6,36,37,38,8,9,11] [7,18,17,16,0,8,9,10,11,12,13,14,15,6,5] mixed rfl rfl ?_
  refine aA (kn:=[]) aa 8 rfl trivial ?_
  refine aT (n':=19) [79,81] [12] rfl rfl (.inl ⟨(ak.plain rfl),aK.cast (bq (i:=Int.toNat (x1.aJ)) rfl rfl rfl Try.underlying29 hY (by first|omega|(simp;done)|(simp;omega)) (by first|omega|(simp;done)|(simp;omega))) rfl⟩) rfl ?_
  refine bB [7,18,17,16,0,8,9,10,11,12,13,14,15,6,5] rfl rfl rfl rfl (by kernel_rfl) ?_
  refine gf [7,18,17,16,0,8,9,10,11,12,13,14,15,6,5] (dP (ds:=[(dI xr3.bj),(dI xr3.held),(dI xr3.bX.cK),(dI xr3.bX.count),(dI xr3.bX.sum),(EV xr3.cD)]) rfl rfl rfl rfl rfl hY rfl (Nat.le_of_ble_eq_true rfl) (bw hx2) rfl (eL (x':=xr3) rfl)) rfl ?_
  refine ae ?_
  refine fy (k:=7) (q:=2) (c':=(.s 12 0 6 (((cs).set (Int.toNat (x1.aJ)) xr3).length))) rfl rfl (by first|rfl|(simp;done)|(congr 1;omega)) rfl ?_
  refine bb [0,2,3,6,36,37,38,9] [7,17,0,8,9,10,11,12,13,14,15,6,5] mixed rfl rfl ?_
  refine aA (kn:=[]) aa 7 rfl trivial ?_
  refine aT (n':=20) [90] [] rfl rfl (.inl ⟨(ak.plain rfl),aK.cast (dz (ys:=[(0,(.g [(cI b1.aJ),(cI b1.ax),(cI b1.sum),(cI b1.captured),(cI b1.br),(cI b1.bd),(cI b1.cS),(cB b1.shut)]))]) (rows:=([b1]).map iO) 19 rZ rfl (by decide) ⟨⟨rfl,rfl⟩,trivial⟩ rfl rfl rfl rfl) rfl⟩) rfl ?_
  refine aT (n':=21) [89,91] [19,14] rfl rfl (.inl ⟨(ak.plain rfl),aK.cast (da (m:=1) (N:=xs.length+1) (k2:=20) (ys:=([b1]).map iO) rZ rfl rfl rfl rfl rfl rfl (by first|omega|(simp;done)|(simp;omega)) rfl (.s rfl (by first|omega|(simp;done)|(simp;omega))) (by first|omega|(simp;done)|(simp;omega)) (by first|omega|(simp;done)|(simp;omega)) eP (by decide) (by first|omega|(simp;done)|(simp;omega)) (by first|omega|(simp;done)|(simp;omega))) rfl⟩) rfl ?_
  refine aA (kn:=[]) aa 3 rfl trivial ?_
  refine bB [20,7,17,0,8,9,10,11,12,13,15,6,5] rfl rfl rfl rfl (by kernel_rfl) ?_
  refine ab aa 1 rfl ?_
  refine bZ ?_
  refine bp ?_
  refine then_ok ?_
  refine fy (k:=7) (q:=4) (c':=(.s 20 0 8 ((xs++([b1])).length))) rfl rfl (by first|rfl|(simp;done)|(congr 1;omega)) rfl ?_
  refine aw ?_
  refine ay (aM rfl rfl rfl (aH (by first|omega|(simp;done)|(simp;omega)))) rfl ?_
  refine ab aa 1 rfl ?_
  refine ae ?_
  refine ⟨(q+1,(cs).set (Int.toNat (x1.aJ)) xr3,xs++([b1])),⟨by omega,by rw [hi0_1];exact Ba hx1 hr1 hr2 hx2 hr3 hr4,by rw [List.length_set];omega,by rw [List.length_append,List.length_singleton];omega⟩,by first|omega|(simp;done)|(simp;omega),aD.bY (fun k=>if k=14 then 20 else k) (by refine ⟨?_,?_,?_,?_,?_,?_,?_,trivial⟩<;>first|rfl|(simp only [bn];done)|(congr 3;omega)|(congr 4;omega)|(simp only [bo];rfl)) (by refine ⟨?_,?_,?_,?_,?_,?_,?_,?_,?_,?_,?_,?_,trivial⟩<;>first|rfl|(simp only [bn];done)|(congr 3;omega)|(congr 4;omega)|(simp only [bo];rfl)) rfl⟩
 have hc3':=of_decide_eq_false hc3
 refine cp ?_
 refine aR ?_
 refine aR ?_
 refine bQ ?_
 refine then_ok ?_
 refine ad aa 11 rfl ?_
 refine af ?_
 refine az aa 2 rfl ?_
 refine aL 20 [0,16,17,18,19,6,5] (cv (aU [0,7,8,9,10,11,12,13,14,15]) (aU [0,16,17,18,19]) (fg (x 17) (x 19) b (⟨b.time,false,cs,b.due,xs,b.s0,b.s1,b.n0,b.n1,b.w0,b.w1,xr0,b.aN,b.book⟩:Bk) 0 (by first|assumption|omega)) fE rfl rfl ⟨⟨_,rfl,.inl ⟨rfl,rfl⟩⟩,⟨_,rfl,.inl ⟨rfl,rfl⟩⟩,trivial⟩ ⟨rfl,rfl,rfl,rfl,rfl,rfl,rfl,rfl,rfl,rfl,trivial⟩ rfl rfl rfl rfl rfl rfl trivial ⟨⟨trivial,trivial,trivial,trivial,trivial,trivial,trivial,trivial,trivial,trivial,trivial,trivial,trivial,trivial,trivial,trivial,trivial,trivial,trivial,trivial,trivial⟩,(fun _ _ _ _=>trivial),(fun _ _ _ _=>trivial),(fun _ _ _ _=>trivial),(fun _ _ _ _=>trivial),trivial⟩ rfl rfl rfl rfl) rfl ?_
 refine ab aa 1 rfl ?_
 refine ae ?_
 refine az aa 1 rfl ?_
 refine ay (aM rfl rfl rfl (show _=some (Value.bool false) from rfl)) rfl ?_
 refine ae ?_
 refine ag rfl (fun hno=>by cases hno) (fun _=>?_)
 refine aP ?_
 have hL:=hi0_1;rw [Db (by omega)] at hL
 have okU:=ok.Ft hr0 hL
 refine az aa 1 rfl ?_
 obtain ⟨b25,hr5⟩:∃ (b25:Bk),gS (⟨b.time,false,cs,b.due,xs,b.s0,b.s1,b.n0,b.n1,b.w0,b.w1,xr0,b.aN,b.book⟩:Bk)=b25:=⟨_,rfl⟩
 refine aL 24 [0,20,21,22,23,6,5] (cg (aU [0,16,17,18,19]) (aU [0,20,21,22,23]) (ms:=[some (cI b.time),some (cB false),some (.s 1 0 6 cs.length),some (.s 2 0 1 b.due.length),some (.s 3 0 8 xs.length),some (cI b.s0.bE),some (dc b.s0.kept),some (cI b.s1.bE),some (dc b.s1.kept),some (cI b.n0),some (cI b.n1),some (ed b.w0),some (ed b.w1),some (cI xr0.cap),some (fC xr0.used),some (gz xr0.aX),some (.s 4 0 4 b.aN.length),none,some (dM b.book),none]) (ms':=(iY b25 1 2 3 4 none none)) (fun x hx=>Au x hx (⟨b.time,false,cs,b.due,xs,b.s0,b.s1,b.n0,b.n1,b.w0,b.w1,xr0,b.aN,b.book⟩:Bk) (by first|assumption|exact cm.tick (by assumption) (by omega) (by omega)) b25 hr5) EI rfl rfl ⟨⟨_,rfl,.inl ⟨rfl,rfl⟩⟩,trivial⟩ rfl rfl rfl rfl rfl rfl rfl ⟨rfl,rfl,rfl,rfl,trivial⟩ rfl rfl rfl rfl rfl rfl rfl rfl rfl rfl rfl rfl rfl) rfl ?_
 refine ae ?_
 refine ad aa 2 rfl ?_
 refine ar ?_
 have hX:jc b=(b25,(⟨0,0⟩:Answer)):=by
   rw [DL (by cases hd:b.down<;>simp_all) hr0 hL,hr5]
 rw [hX] at hr;clear hX
 simp only [Prod.mk.injEq] at hr;obtain ⟨rfl,rfl⟩:=hr
 refine ah aa [0,20,21,22,23,5] 5 rfl rfl rfl rfl rfl rfl ?_ ?_
 all_goals first|rfl|(simp [au,aS,aZ];done)|(simp [au,aS,aZ];omega)

theorem Hl (x:Nat->Value) (hx:∀ i,(x i).oneCell'=true) (b:Bk) (days:List (List Int)) (d:aE) (ok:cm b) (hy:days.length<=1000) (b2:Bk) (y2:List (List Int)) (a2:Answer) (hr:cY b days d=(b2,y2,a2)):cA Try.prog 56 [(.c (.p 0 0 0 0)),(.c (.q (cG d) 0))] [(0,(.box 98 (aS b 1 2 3 4 (.s 5 0 1 days.length) (.d (.v (x 19)))))),(1,(dR b.aj)),(2,(dL b.due)),(3,(dX b.aq)),(4,(cH b.aN)),(5,(pS days))] [0] (.v (.g [cI a2.err,cI a2.ba])) [(0,(.box 98 (aS b2 1 2 3 4 (.s 5 0 1 y2.length) (.d (.v (x 19)))))),(1,(dR b2.aj)),(2,(dL b2.due)),(3,(dX b2.aq)),(4,(cH b2.aN)),(5,(pS y2))]:=by
 refine cA.mk 67 [(0,(aC (.p 0 0 0 0))),(1,(aC (.q (cG d) 0)))] 6 Try.func56 rfl rfl rfl rfl rfl rfl rfl rfl rfl ?_
 intro W0 F0 T0 pg
 obtain ⟨okt,okc,okd,oka,oky,okw0,okw1,okp,okv,okk0,okk1,okg,okl0,okl1,okp0,okp1,okn0,okn1,okq⟩:=id ok
 refine ad aa 1 rfl ?_
 refine af ?_
 refine ad aa 4 rfl ?_
 refine aV ?_
 refine ad aa 2 rfl ?_
 refine ag rfl (fun hc1=>?_) (fun hc1=>?_)
 ·
  have hc1':=of_decide_eq_true hc1
  refine az aa 2 rfl ?_
  obtain ⟨b20,a20,hr0⟩:∃ (b20:Bk) (a20:Answer),fB b d=(b20,a20):=⟨_,_,rfl⟩
  refine aL 11 [0,7,8,9,10,6,5] (cg id (aU [0,7,8,9,10]) (ms:=(iY b 1 2 3 4 none none)) (ms':=(iY b20 1 2 3 4 none none)) (fun x hx=>Fc x hx b d (by first|assumption|exact cm.tick (by assumption) (by omega) (by omega)) b20 a20 hr0) GZ rfl rfl ⟨⟨_,rfl,.inl ⟨rfl,rfl⟩⟩,⟨_,rfl,.inl ⟨rfl,rfl⟩⟩,trivial⟩ rfl rfl rfl rfl rfl rfl rfl ⟨rfl,rfl,rfl,rfl,trivial⟩ rfl rfl rfl rfl rfl rfl rfl rfl rfl rfl rfl rfl rfl) rfl ?_
  refine ab aa 1 rfl ?_
  refine ae ?_
  refine ar ?_
  refine bg ?_
  refine ao ?_
  have hX:cY b days d=(b20,days,a20):=by
    unfold cY;(repeat' (first|rw [if_pos (by omega)]|rw [if_neg (by omega)]|fail))<;>first|rfl|(simp only [hr0];done)|(simp only [hr0];rfl)|(simp_all;done)
  rw [hX] at hr;clear hX
  simp only [Prod.mk.injEq] at hr;obtain ⟨rfl,rfl,rfl⟩:=hr
  refine ah aa [0,7,8,9,10,5,6] 6 rfl rfl rfl rfl rfl rfl ?_ ?_
  all_goals first|rfl|(simp [au,aS,aZ];done)|(simp [au,aS,aZ];omega)
 have hc1':=of_decide_eq_false hc1
 refine ad aa 2 rfl ?_
 refine ag rfl (fun hc2=>?_) (fun hc2=>?_)
 ·
  have hc2':=of_decide_eq_true hc2
  refine az aa 2 rfl ?_
  obtain ⟨b21,a21,hr1⟩:∃ (b21:Bk) (a21:Answer),dJ b d=(b21,a21):=⟨_,_,rfl⟩
  refine aL 11 [0,7,8,9,10,6,5] (cg id (aU [0,7,8,9,10]) (ms:=(iY b 1 2 3 4 none none)) (ms':=(iY b21 1 2 3 4 none none)) (fun x hx=>Gd x hx b d (by first|assumption|exact cm.tick (by assumption) (by omega) (by omega)) b21 a21 hr1) GY rfl rfl ⟨⟨_,rfl,.inl ⟨rfl,rfl⟩⟩,⟨_,rfl,.inl ⟨rfl,rfl⟩⟩,trivial⟩ rfl rfl rfl rfl rfl rfl rfl ⟨rfl,rfl,rfl,rfl,trivial⟩ rfl rfl rfl rfl rfl rfl rfl rfl rfl rfl rfl rfl rfl) rfl ?_
  refine ab aa 1 rfl ?_
  refine ae ?_
  refine ar ?_
  refine bg ?_
  refine ao ?_
  have hX:cY b days d=(b21,days,a21):=by
    unfold cY;(repeat' (first|rw [if_pos (by omega)]|rw [if_neg (by omega)]|fail))<;>first|rfl|(simp only [hr1];done)|(simp only [hr1];rfl)|(simp_all;done)
  rw [hX] at hr;clear hX
  simp only [Prod.mk.injEq] at hr;obtain ⟨rfl,rfl,rfl⟩:=hr
  refine ah aa [0,7,8,9,10,5,6] 6 rfl rfl rfl rfl rfl rfl ?_ ?_
  all_goals first|rfl|(simp [au,aS,aZ];done)|(simp [au,aS,aZ];omega)
 have hc2':=of_decide_eq_false hc2
 refine ad aa 2 rfl ?_
 refine ag rfl (fun hc3=>?_) (fun hc3=>?_)
 ·
  have hc3':=of_decide_eq_true hc3
  refine az aa 2 rfl ?_
  obtain ⟨b22,a22,hr2⟩:∃ (b22:Bk) (a22:Answer),di b d=(b22,a22):=⟨_,_,rfl⟩
  refine aL 11 [0,7,8,9,10,6,5] (cg id (aU [0,7,8,9,10]) (ms:=(iY b 1 2 3 4 none none)) (ms':=(iY b22 1 2 3 4 none none)) (fun x hx=>Cn x hx b d (by first|assumption|exact cm.tick (by assumption) (by omega) (by omega)) b22 a22 hr2) GX rfl rfl ⟨⟨_,rfl,.inl ⟨rfl,rfl⟩⟩,⟨_,rfl,.inl ⟨rfl,rfl⟩⟩,trivial⟩ rfl rfl rfl rfl rfl rfl rfl ⟨rfl,rfl,rfl,rfl,trivial⟩ rfl rfl rfl rfl rfl rfl rfl rfl rfl rfl rfl rfl rfl) rfl ?_
  refine ab aa 1 rfl ?_
  refine ae ?_
  refine ar ?_
  refine bg ?_
  refine ao ?_
  have hX:cY b days d=(b22,days,a22):=by
    unfold cY;(repeat' (first|rw [if_pos (by omega)]|rw [if_neg (by omega)]|fail))<;>first|rfl|(simp only [hr2];done)|(simp only [hr2];rfl)|(simp_all;done)
  rw [hX] at hr;clear hX
  simp only [Prod.mk.injEq] at hr;obtain ⟨rfl,rfl,rfl⟩:=hr
  refine ah aa [0,7,8,9,10,5,6] 6 rfl rfl rfl rfl rfl rfl ?_ ?_
  all_goals first|rfl|(simp [au,aS,aZ];done)|(simp [au,aS,aZ];omega)
 have hc3':=of_decide_eq_false hc3
 refine ad aa 2 rfl ?_
 refine ag rfl (fun hc4=>?_) (fun hc4=>?_)
 ·
  have hc4':=of_decide_eq_true hc4
  refine az aa 2 rfl ?_
  obtain ⟨b23,a23,hr3⟩:∃ (b23:Bk) (a23:Answer),fm b d=(b23,a23):=⟨_,_,rfl⟩
  refine aL 11 [0,7,8,9,10,6,5] (cg id (aU [0,7,8,9,10]) (ms:=(iY b 1 2 3 4 none none)) (ms':=(iY b23 1 2 3 4 none none)) (fun x hx=>EX x hx b d (by first|assumption|exact cm.tick (by assumption) (by omega) (by omega)) b23 a23 hr3) GW rfl rfl ⟨⟨_,rfl,.inl ⟨rfl,rfl⟩⟩,⟨_,rfl,.inl ⟨rfl,rfl⟩⟩,trivial⟩ rfl rfl rfl rfl rfl rfl rfl ⟨rfl,rfl,rfl,rfl,trivial⟩ rfl rfl rfl rfl rfl rfl rfl rfl rfl rfl rfl rfl rfl) rfl ?_
  refine ab aa 1 rfl ?_
  refine ae ?_
  refine ar ?_
  refine bg ?_
  refine ao ?_
  have hX:cY b days d=(b23,days,a23):=by
    unfold cY;(repeat' (first|rw [if_pos (by omega)]|rw [if_neg (by omega)]|fail))<;>first|rfl|(simp only [hr3];done)|(simp only [hr3];rfl)|(simp_all;done)
  rw [hX] at hr;clear hX
  simp only [Prod.mk.injEq] at hr;obtain ⟨rfl,rfl,rfl⟩:=hr
  refine ah aa [0,7,8,9,10,5,6] 6 rfl rfl rfl rfl rfl rfl ?_ ?_
  all_goals first|rfl|(simp [au,aS,aZ];done)|(simp [au,aS,aZ];omega)
 have hc4':=of_decide_eq_false hc4
 refine ad aa 2 rfl ?_
 refine ag rfl (fun hc5=>?_) (fun hc5=>?_)
 ·
  have hc5':=of_decide_eq_true hc5
  refine az aa 2 rfl ?_
  obtain ⟨v04,v14,a24,hr4⟩:∃ (v04:List bV) (v14:List bV) (a24:Answer),ez b.s0 b.s1 b.n0 b.n1 b.w0 b.w1 d=(v04,v14,a24):=⟨_,_,_,rfl⟩
  refine aL 7 [0,6,1,2,3,4,5] (cg id id (ms:=[none,none,none,none,none,some (cI b.s0.bE),some (dc b.s0.kept),some (cI b.s1.bE),some (dc b.s1.kept),some (cI b.n0),some (cI b.n1),some (ed b.w0),some (ed b.w1),none,none,none,none,none,none,none]) (ms':=[none,none,none,none,none,some (cI b.s0.bE),some (dc b.s0.kept),some (cI b.s1.bE),some (dc b.s1.kept),some (cI b.n0),some (cI b.n1),some (ed v04),some (ed v14),none,none,none,none,none,none,none]) (fun x hx=>DD x hx b.s0 b.s1 b.n0 b.n1 b.w0 b.w1 d (by first|omega|(simp;done)|(simp;omega)) (by first|omega|(simp;done)|(simp;omega)) (by first|omega|(simp;done)|(simp;omega)) (by first|omega|(simp;done)|(simp;omega)) v04 v14 a24 hr4) GU rfl rfl ⟨⟨_,rfl,.inl ⟨rfl,rfl⟩⟩,⟨_,rfl,.inl ⟨rfl,rfl⟩⟩,trivial⟩ rfl rfl rfl rfl rfl rfl rfl trivial rfl rfl rfl rfl rfl rfl rfl rfl rfl rfl rfl rfl rfl) rfl ?_
  refine ab aa 1 rfl ?_
  refine ae ?_
  refine ar ?_
  refine bg ?_
  refine ao ?_
  have hX:cY b days d=((⟨b.time,b.down,b.aj,b.due,b.aq,b.s0,b.s1,b.n0,b.n1,v04,v14,b.bH,b.aN,b.book⟩:Bk),days,a24):=by
    unfold cY;(repeat' (first|rw [if_pos (by omega)]|rw [if_neg (by omega)]|fail))<;>first|rfl|(simp only [hr4];done)|(simp only [hr4];rfl)|(simp_all;done)
  rw [hX] at hr;clear hX
  simp only [Prod.mk.injEq] at hr;obtain ⟨rfl,rfl,rfl⟩:=hr
  refine ah aa [0,1,2,3,4,5,6] 6 rfl rfl rfl rfl rfl rfl ?_ ?_
  all_goals first|rfl|(simp [au,aS,aZ];done)|(simp [au,aS,aZ];omega)
 have hc5':=of_decide_eq_false hc5
 refine af ?_
 refine ad aa 2 rfl ?_
 refine ag rfl (fun hc6=>?_) (fun hc6=>?_)
 ·
  have hc6':=of_decide_eq_true hc6
  refine aP ?_
  refine ag rfl (fun _=>?_) (fun hno=>absurd (hc6.symm.trans hno) (by decide))
  refine az aa 2 rfl ?_
  obtain ⟨b25,a25,hr5⟩:∃ (b25:Bk) (a25:Answer),bS b d=(b25,a25):=⟨_,_,rfl⟩
  refine aL 11 [0,7,8,9,10,6,5] (cg id (aU [0,7,8,9,10]) (ms:=(iY b 1 2 3 4 none none)) (ms':=(iY b25 1 2 3 4 none none)) (fun x hx=>vU x hx b d (by assumption) b25 a25 hr5) EL rfl rfl ⟨⟨_,rfl,.inl ⟨rfl,rfl⟩⟩,⟨_,rfl,.inl ⟨rfl,rfl⟩⟩,trivial⟩ rfl rfl rfl rfl rfl rfl rfl ⟨rfl,rfl,rfl,rfl,trivial⟩ rfl rfl rfl rfl rfl rfl rfl rfl rfl rfl rfl rfl rfl) rfl ?_
  refine ab aa 1 rfl ?_
  refine ae ?_
  refine ar ?_
  refine bg ?_
  refine ao ?_
  have hX:cY b days d=(b25,days,a25):=by
    unfold cY;(repeat' (first|rw [if_pos (by omega)]|rw [if_neg (by omega)]|fail))<;>first|rfl|(simp only [hr5];done)|(simp only [hr5];rfl)|(simp_all;done)
  rw [hX] at hr;clear hX
  simp only [Prod.mk.injEq] at hr;obtain ⟨rfl,rfl,rfl⟩:=hr
  refine ah aa [0,7,8,9,10,5,6] 6 rfl rfl rfl rfl rfl rfl ?_ ?_
  all_goals first|rfl|(simp [au,aS,aZ];done)|(simp [au,aS,aZ];omega)
 have hc6':=of_decide_eq_false hc6
 refine aw ?_
 refine ab aa 2 rfl ?_
 refine ae ?_
 refine ag rfl (fun hc8=>?_) (fun hc8=>?_)
 ·
  have hc8':=of_decide_eq_true hc8
  refine az aa 2 rfl ?_
  obtain ⟨b26,a26,hr6⟩:∃ (b26:Bk) (a26:Answer),bS b d=(b26,a26):=⟨_,_,rfl⟩
  refine aL 11 [0,7,8,9,10,6,5] (cg id (aU [0,7,8,9,10]) (ms:=(iY b 1 2 3 4 none none)) (ms':=(iY b26 1 2 3 4 none none)) (fun x hx=>vU x hx b d (by assumption) b26 a26 hr6) EL rfl rfl ⟨⟨_,rfl,.inl ⟨rfl,rfl⟩⟩,⟨_,rfl,.inl ⟨rfl,rfl⟩⟩,trivial⟩ rfl rfl rfl rfl rfl rfl rfl ⟨rfl,rfl,rfl,rfl,trivial⟩ rfl rfl rfl rfl rfl rfl rfl rfl rfl rfl rfl rfl rfl) rfl ?_
  refine ab aa 1 rfl ?_
  refine ae ?_
  refine ar ?_
  refine bg ?_
  refine ao ?_
  have hX:cY b days d=(b26,days,a26):=by
    unfold cY;(repeat' (first|rw [if_pos (by omega)]|rw [if_neg (by omega)]|fail))<;>first|rfl|(simp only [hr6];done)|(simp only [hr6];rfl)|(simp_all;done)
  rw [hX] at hr;clear hX
  simp only [Prod.mk.injEq] at hr;obtain ⟨rfl,rfl,rfl⟩:=hr
  refine ah aa [0,7,8,9,10,5,6] 6 rfl rfl rfl rfl rfl rfl ?_ ?_
  all_goals first|rfl|(simp [au,aS,aZ];done)|(simp [au,aS,aZ];omega)
 have hc8':=of_decide_eq_false hc8
 refine ad aa 2 rfl ?_
 refine ag rfl (fun hc9=>?_) (fun hc9=>?_)
 ·
  have hc9':=of_decide_eq_true hc9
  refine af ?_
  refine ad aa 5 rfl ?_
  refine ag rfl (fun hc10=>?_) (fun hc10=>?_)
  ·
   have hc10':=hc10;try simp only [bm,bM] at hc10'
   refine ad aa 2 rfl ?_
   refine ar ?_
   refine ao ?_
   refine bg ?_
   refine ao ?_
   have hX:cY b days d=(b,days,(⟨8,0⟩:Answer)):=by
     unfold cY;(repeat' (first|rw [if_pos (by omega)]|rw [if_neg (by omega)]|fail))<;>first|rfl|(simp_all;done)
   rw [hX] at hr;clear hX
   simp only [Prod.mk.injEq] at hr;obtain ⟨rfl,rfl,rfl⟩:=hr
   refine ah aa [0,1,2,3,4,5,6] 6 rfl rfl rfl rfl rfl rfl ?_ ?_
   all_goals first|rfl|(simp [au,aS,aZ];done)|(simp [au,aS,aZ];omega)
  have hc10':=hc10;try simp only [bm,bM] at hc10'
  refine aP ?_
  refine ad aa 5 rfl ?_
  refine ad aa 2 rfl ?_
  refine ar ?_
  refine bg ?_
  refine ao ?_
  have hX:cY b days d=((⟨b.time,true,b.aj,b.due,b.aq,b.s0,b.s1,b.n0,b.n1,b.w0,b.w1,b.bH,b.aN,b.book⟩:Bk),days,(⟨0,0⟩:Answer)):=by
    unfold cY;(repeat' (first|rw [if_pos (by omega)]|rw [if_neg (by omega)]|fail))<;>first|rfl|(simp_all;done)
  rw [hX] at hr;clear hX
  simp only [Prod.mk.injEq] at hr;obtain ⟨rfl,rfl,rfl⟩:=hr
  refine ah aa [0,1,2,3,4,5,6] 6 rfl rfl rfl rfl rfl rfl ?_ ?_
  all_goals first|rfl|(simp [au,aS,aZ];done)|(simp [au,aS,aZ];omega)
 have hc9':=of_decide_eq_false hc9
 refine ad aa 2 rfl ?_
 refine ag rfl (fun hc11=>?_) (fun hc11=>?_)
 ·
  have hc11':=of_decide_eq_true hc11
  refine az aa 1 rfl ?_
  obtain ⟨b27,a27,hr7⟩:∃ (b27:Bk) (a27:Answer),jc b=(b27,a27):=⟨_,_,rfl⟩
  refine aL 11 [0,7,8,9,10,6,5] (cg id (aU [0,7,8,9,10]) (ms:=(iY b 1 2 3 4 none none)) (ms':=(iY b27 1 2 3 4 none none)) (fun x hx=>Hk x hx b (by first|assumption|exact cm.tick (by assumption) (by omega) (by omega)) b27 a27 hr7) GS rfl rfl ⟨⟨_,rfl,.inl ⟨rfl,rfl⟩⟩,trivial⟩ rfl rfl rfl rfl rfl rfl rfl ⟨rfl,rfl,rfl,rfl,trivial⟩ rfl rfl rfl rfl rfl rfl rfl rfl rfl rfl rfl rfl rfl) rfl ?_
  refine ab aa 1 rfl ?_
  refine ae ?_
  refine ar ?_
  refine bg ?_
  refine ao ?_
  have hX:cY b days d=(b27,days,a27):=by
    unfold cY;(repeat' (first|rw [if_pos (by omega)]|rw [if_neg (by omega)]|fail))<;>first|rfl|(simp only [hr7];done)|(simp only [hr7];rfl)|(simp_all;done)
  rw [hX] at hr;clear hX
  simp only [Prod.mk.injEq] at hr;obtain ⟨rfl,rfl,rfl⟩:=hr
  refine ah aa [0,7,8,9,10,5,6] 6 rfl rfl rfl rfl rfl rfl ?_ ?_
  all_goals first|rfl|(simp [au,aS,aZ];done)|(simp [au,aS,aZ];omega)
 have hc11':=of_decide_eq_false hc11
 refine ad aa 2 rfl ?_
 refine ag rfl (fun hc12=>?_) (fun hc12=>?_)
 ·
  have hc12':=of_decide_eq_true hc12
  refine az aa 1 rfl ?_
  obtain ⟨today28,days28,a28,hr8⟩:∃ (today28:List an) (days28:List (List Int)) (a28:Answer),iP b.aN days=(today28,days28,a28):=⟨_,_,_,rfl⟩
  refine aL 9 [0,7,8,6,1,2,3] (cg (aU [0,4,5]) (aU [0,7,8]) (ms:=((dw.set 16 (some (.s 1 0 4 b.aN.length))).set 17 (some (.s 2 0 1 days.length)))) (ms':=((dw.set 16 (some (.s 1 0 4 today28.length))).set 17 (some (.s 2 0 1 days28.length)))) (fun x hx=>EZ x hx b.aN days (by first|omega|(simp;done)|(simp;omega)) (by first|omega|(simp;done)|(simp;omega)) today28 days28 a28 hr8) GR rfl rfl ⟨⟨_,rfl,.inl ⟨rfl,rfl⟩⟩,trivial⟩ rfl rfl rfl rfl rfl rfl rfl ⟨rfl,rfl,trivial⟩ rfl rfl rfl rfl rfl rfl rfl rfl rfl rfl rfl rfl rfl) rfl ?_
  refine ab aa 1 rfl ?_
  refine ae ?_
  refine ar ?_
  refine bg ?_
  refine ao ?_
  have hX:cY b days d=((⟨b.time,b.down,b.aj,b.due,b.aq,b.s0,b.s1,b.n0,b.n1,b.w0,b.w1,b.bH,today28,b.book⟩:Bk),days28,a28):=by
    unfold cY;(repeat' (first|rw [if_pos (by omega)]|rw [if_neg (by omega)]|fail))<;>first|rfl|(simp only [hr8];done)|(simp only [hr8];rfl)|(simp_all;done)
  rw [hX] at hr;clear hX
  simp only [Prod.mk.injEq] at hr;obtain ⟨rfl,rfl,rfl⟩:=hr
  refine ah aa [0,1,2,3,7,8,6] 6 rfl rfl rfl rfl rfl rfl ?_ ?_
  all_goals first|rfl|(simp [au,aS,aZ];done)|(simp [au,aS,aZ];omega)
 have hc12':=of_decide_eq_false hc12
 refine ad aa 2 rfl ?_
 refine ag rfl (fun hc13=>?_) (fun hc13=>?_)
 ·
  have hc13':=of_decide_eq_true hc13
  refine az aa 2 rfl ?_
  obtain ⟨b29,a29,hr9⟩:∃ (b29:Bk) (a29:Answer),gX b d=(b29,a29):=⟨_,_,rfl⟩
  refine aL 11 [0,7,8,9,10,6,5] (cg id (aU [0,7,8,9,10]) (ms:=(iY b 1 2 3 4 none none)) (ms':=(iY b29 1 2 3 4 none none)) (fun x hx=>Gc x hx b d (by first|assumption|exact cm.tick (by assumption) (by omega) (by omega)) b29 a29 hr9) GQ rfl rfl ⟨⟨_,rfl,.inl ⟨rfl,rfl⟩⟩,⟨_,rfl,.inl ⟨rfl,rfl⟩⟩,trivial⟩ rfl rfl rfl rfl rfl rfl rfl ⟨rfl,rfl,rfl,rfl,trivial⟩ rfl rfl rfl rfl rfl rfl rfl rfl rfl rfl rfl rfl rfl) rfl ?_
  refine ab aa 1 rfl ?_
  refine ae ?_
  refine ar ?_
  refine bg ?_
  refine ao ?_
  have hX:cY b days d=(b29,days,a29):=by
    unfold cY;(repeat' (first|rw [if_pos (by omega)]|rw [if_neg (by omega)]|fail))<;>first|rfl|(simp only [hr9];done)|(simp only [hr9];rfl)|(simp_all;done)
  rw [hX] at hr;clear hX
  simp only [Prod.mk.injEq] at hr;obtain ⟨rfl,rfl,rfl⟩:=hr
  refine ah aa [0,7,8,9,10,5,6] 6 rfl rfl rfl rfl rfl rfl ?_ ?_
  all_goals first|rfl|(simp [au,aS,aZ];done)|(simp [au,aS,aZ];omega)
 have hc13':=of_decide_eq_false hc13
 refine cU ?_
 refine bp ?_
 refine then_ok ?_
 refine ad aa 2 rfl ?_
 refine ar ?_
 have hX:cY b days d=(b,days,(⟨1,0⟩:Answer)):=by
   unfold cY;(repeat' (first|rw [if_pos (by omega)]|rw [if_neg (by omega)]|fail))<;>first|rfl|(simp_all;done)
 rw [hX] at hr;clear hX
 simp only [Prod.mk.injEq] at hr;obtain ⟨rfl,rfl,rfl⟩:=hr
 refine ah aa [0,1,2,3,4,5,6] 6 rfl rfl rfl rfl rfl rfl ?_ ?_
 all_goals first|rfl|(simp [au,aS,aZ];done)|(simp [au,aS,aZ];omega)

theorem Fa (x:Nat->Value) (hx:∀ i,(x i).oneCell'=true) (b:Bk) (days:List (List Int)) (told:List (Int×Answer)) (cl:Nat) (d:aE) (ok:cm b) (hy:days.length<=1000) (b2:Bk) (y2:List (List Int)) (t2:List (Int×Answer)) (c2:Nat) (a2:Answer) (hr:fH b days told cl d=(b2,y2,t2,c2,a2)):cA Try.prog 42 [(.c (.p 0 0 0 0)),(.c (.q (cG d) 0))] [(0,(.box 98 (aS b 1 2 3 4 (.s 5 0 1 days.length) (.m 6)))),(1,(dR b.aj)),(2,(dL b.due)),(3,(dX b.aq)),(4,(cH b.aN)),(5,(pS days)),(6,(.map (tV told) cl))] [0] (.v (.g [cI a2.err,cI a2.ba])) [(0,(.box 98 (aS b2 1 2 3 4 (.s 5 0 1 y2.length) (.m 6)))),(1,(dR b2.aj)),(2,(dL b2.due)),(3,(dX b2.aq)),(4,(cH b2.aN)),(5,(pS y2)),(6,(.map (tV t2) c2))]:=by
 refine cA.mk 42 [(0,(aC (.p 0 0 0 0))),(1,(aC (.q (cG d) 0)))] 7 Try.func42 rfl rfl rfl rfl rfl rfl rfl rfl rfl ?_
 intro W0 F0 T0 pg
 obtain ⟨okt,okc,okd,oka,oky,okw0,okw1,okp,okv,okk0,okk1,okg,okl0,okl1,okp0,okp1,okn0,okn1,okq⟩:=id ok
 refine ad aa 1 rfl ?_
 refine af ?_
 refine af ?_
 refine db [0,1,4] [7,0,1,2,3,4,5,6] mixed rfl rfl ?_
 refine bT (kn:=[]) aa 8 rfl trivial ?_
 refine bW (n':=8) [12,16] [6] rfl rfl (.inl ⟨(ak.plain rfl),aK.cast (Ag (ps:=told) Try.underlying96 Try.underlying3 Gr rfl rfl rfl rfl) rfl⟩) rfl ?_
 refine bT (n':=9) (kn:=[]) aa 6 rfl trivial ?_
 refine dS [0,1,4,5,6] [8,7,0,1,2,3,4,5,6] rfl rfl (by kernel_rfl) ?_
 refine then_ok ?_
 refine cq 27 (((iD told d.id).isSome) && (decide (¬d.id=0))) ?_ ?_
 ·
  refine aw ?_
  refine ab aa 2 rfl ?_
  refine bA (t:=21) rfl (fun hb1=>?_) (fun hb1=>?_)
  ·
   have hb1':=hb1;try simp only [bm,bM] at hb1'
   refine ab aa 6 rfl ?_
   refine ae ?_
   exact aD.bG 9 rfl rfl (by first|(simp [hb1];done)|(simp_all;done)|(exfalso;simp_all;done)|(simp_all;omega)) rfl
  have hb1':=hb1;try simp only [bm,bM] at hb1'
  refine ab aa 6 rfl ?_
  refine ae ?_
  exact aD.bG 9 rfl rfl (by first|(simp [hb1];done)|(simp_all;done)|(exfalso;simp_all;done)|(simp_all;omega)) rfl
 refine ag rfl (fun hc2=>?_) (fun hc2=>?_)
 ·
  have hc2':=hc2;try simp only [bm,bM] at hc2'
  refine ad aa 2 rfl ?_
  refine ar ?_
  refine ao ?_
  have hX:fH b days told cl d=(b,days,told,cl,((iD told d.id).getD ⟨0,0⟩)):=by
    unfold fH;(repeat' split)<;>first|rfl|omega|(exfalso;omega)|(simp_all;done)|(simp_all;omega)
  rw [hX] at hr;clear hX
  simp only [Prod.mk.injEq] at hr;obtain ⟨rfl,rfl,rfl,rfl,rfl⟩:=hr
  refine ah aa [0,1,2,3,4,5,6,7] 7 rfl rfl rfl rfl rfl rfl ?_ ?_
  all_goals first|rfl|(simp [au,aS,aZ];done)|(simp [au,aS,aZ];omega)
 have hc2':=hc2;try simp only [bm,bM] at hc2'
 refine aP ?_
 refine az aa 2 rfl ?_
 obtain ⟨b20,y20,a20,hr0⟩:∃ (b20:Bk) (y20:List (List Int)) (a20:Answer),cY b days d=(b20,y20,a20):=⟨_,_,_,rfl⟩
 refine aL 14 [0,9,10,11,12,13,8,7,6] (cg id (aU [0,9,10,11,12,13]) (ms:=(iY b 1 2 3 4 (some (.s 5 0 1 days.length)) none)) (ms':=(iY b20 1 2 3 4 (some (.s 5 0 1 y20.length)) none)) (fun x hx=>Hl x hx b days d (by first|assumption|exact cm.tick (by assumption) (by omega) (by omega)) (by first|omega|(simp;done)|(simp;omega)) b20 y20 a20 hr0) Hb rfl rfl ⟨⟨_,rfl,.inl ⟨rfl,rfl⟩⟩,⟨_,rfl,.inl ⟨rfl,rfl⟩⟩,trivial⟩ rfl rfl rfl rfl rfl rfl rfl ⟨rfl,rfl,rfl,rfl,rfl,trivial⟩ rfl rfl rfl rfl rfl rfl rfl rfl rfl rfl rfl rfl rfl) rfl ?_
 refine ab aa 2 rfl ?_
 refine ae ?_
 refine af ?_
 refine bb [0,1,4,7] [14,0,9,10,11,12,13,7,6] mixed rfl rfl ?_
 refine aA (kn:=[]) aa 9 rfl trivial ?_
 refine bB [14,0,9,10,11,12,13,7,6] rfl rfl rfl rfl (by kernel_rfl) ?_
 refine gf [14,0,9,10,11,12,13,7,6] (Ae Try.underlying96 Try.underlying3 rfl rfl rfl rfl rfl) rfl ?_
 refine ae ?_
 refine ad aa 2 rfl ?_
 refine ar ?_
 have hX:fH b days told cl d=(b20,y20,oa told d.id a20,if (iD told d.id).isSome then cl else cl+1,a20):=by
   unfold fH;simp only [hr0];(repeat' split)<;>first|rfl|omega|(exfalso;omega)|(simp_all;done)|(simp_all;omega)
 rw [hX] at hr;clear hX
 simp only [Prod.mk.injEq] at hr;obtain ⟨rfl,rfl,rfl,rfl,rfl⟩:=hr
 refine ah aa [0,9,10,11,12,13,6,7] 7 rfl rfl rfl rfl rfl rfl ?_ ?_
 all_goals first|rfl|(simp [au,aS,aZ];done)|(simp [au,aS,aZ];omega)

theorem vT (s:Setup) (f:cP) (hr:ey s=f):Fn Try.prog 40 [(.g [(cR 3 ((s.dd).map fY)),(cI s.ix),(cI s.cap)])] (.v (.g [(cI f.err),(cI f.at_)])) []:=by
 refine Fn.mk' 47 [(0,(aG [(cR 3 ((s.dd).map fY)),(cI s.ix),(cI s.cap)]))] Try.func40 rfl rfl rfl rfl ?_
 intro W0 T0
 refine fl 0 0 rfl rfl (fun hlen0_0=>?_)
 refine ad aa 2 rfl ?_
 refine af ?_
 refine cq 19 (((decide ((↑s.dd.length:Int) > 8))||(decide (s.ix < 0)))||(decide (s.ix > 8))) ?_ ?_
 ·
  refine aw ?_
  refine ab aa 2 rfl ?_
  refine ay (cT rfl rfl rfl rfl rfl Try.underlying53) rfl ?_
  refine ab aa 2 rfl ?_
  refine bA (t:=10) rfl (fun hb1=>?_) (fun hb1=>?_)
  ·
   have hb1':=of_decide_eq_true hb1
   refine ab aa 9 rfl ?_
   refine ae ?_
   exact aD.bG 15 rfl rfl (by first|(simp [hb1];done)|(simp_all;done)|(exfalso;simp_all;done)|(simp_all;omega)) rfl
  have hb1':=of_decide_eq_false hb1
  refine ab aa 5 rfl ?_
  refine bA (t:=15) rfl (fun hb2=>?_) (fun hb2=>?_)
  ·
   have hb2':=of_decide_eq_true hb2
   refine ab aa 4 rfl ?_
   refine ae ?_
   exact aD.bG 16 rfl rfl (by first|(simp [hb1,hb2];done)|(simp_all;done)|(exfalso;simp_all;done)|(simp_all;omega)) rfl
  have hb2':=of_decide_eq_false hb2
  refine ab aa 4 rfl ?_
  refine ae ?_
  exact aD.bG 16 rfl rfl (by first|(simp [hb1,hb2];done)|(simp_all;done)|(exfalso;simp_all;done)|(simp_all;omega)) rfl
 refine ag rfl (fun hc3=>?_) (fun hc3=>?_)
 ·
  have hc3':=hc3;try simp only [bm,bM] at hc3'
  refine ad aa 2 rfl ?_
  refine ar ?_
  refine ao ?_
  have hX:ey s=(⟨5,0⟩:cP):=by
    unfold ey;rw [if_pos (by omega)]
  rw [hX] at hr;clear hX
  subst hr
  refine ah aa [1] 0 rfl rfl rfl rfl rfl rfl ?_ ?_
  all_goals first|rfl|(simp [au,aS,aZ];done)|(simp [au,aS,aZ];omega)
 have hc3':=hc3;try simp only [bm,bM] at hc3'
 refine aP ?_
 refine af ?_
 refine cq 28 ((decide (s.cap < 0))||(decide (s.cap > 1000000))) ?_ ?_
 ·
  refine aw ?_
  refine ab aa 4 rfl ?_
  refine bA (t:=24) rfl (fun hb4=>?_) (fun hb4=>?_)
  ·
   have hb4':=of_decide_eq_true hb4
   refine ab aa 4 rfl ?_
   refine ae ?_
   exact aD.bG 9 rfl rfl (by first|(simp [hb4];done)|(simp_all;done)|(exfalso;simp_all;done)|(simp_all;omega)) rfl
  have hb4':=of_decide_eq_false hb4
  refine ab aa 4 rfl ?_
  refine ae ?_
  exact aD.bG 9 rfl rfl (by first|(simp [hb4];done)|(simp_all;done)|(exfalso;simp_all;done)|(simp_all;omega)) rfl
 refine ag rfl (fun hc5=>?_) (fun hc5=>?_)
 ·
  have hc5':=hc5;try simp only [bm,bM] at hc5'
  refine ad aa 2 rfl ?_
  refine ar ?_
  refine ao ?_
  have hX:ey s=(⟨3,0⟩:cP):=by
    unfold ey;rw [if_neg (by omega),if_pos (by omega)]
  rw [hX] at hr;clear hX
  subst hr
  refine ah aa [1] 0 rfl rfl rfl rfl rfl rfl ?_ ?_
  all_goals first|rfl|(simp [au,aS,aZ];done)|(simp [au,aS,aZ];omega)
 have hc5':=hc5;try simp only [bm,bM] at hc5'
 refine aP ?_
 refine af ?_
 refine az aa 2 rfl ?_
 refine ay (cT rfl rfl rfl rfl rfl Try.underlying53) rfl ?_
 refine ab aa 1 rfl ?_
 refine ae ?_
 refine aV ?_
 refine cx (β:=Nat) (fun (q:Nat)=>⟨[(2,(aC (.p 1 0 0 0))),(31,(aC (cR 3 ((s.dd).map fY)))),(32,(aI (↑s.dd.length:Int))),(33,(aI (↑q:Int)))],[(1,(.box 50 [(cI 0),(cI 0)]))],2⟩) (fun (q:Nat)=>q<=s.dd.length/\ox s.dd 0=ox (s.dd.drop q) q) (fun (q:Nat)=>s.dd.length - q) 0 ?_ ?_ ?_
 ·exact ⟨by omega,rfl⟩
 ·exact aD.bY id (by refine ⟨?_,?_,?_,?_,trivial⟩<;>first|rfl|(simp only [bn];done)|(congr 3;omega)|(congr 4;omega)|(simp only [bo];rfl)) (⟨by first|rfl|(simp only [bn];done)|(congr 3;omega)|(congr 4;omega)|(simp only [bo];rfl),trivial⟩) rfl
 rintro q ⟨hi0_0,hi0_1⟩
 refine ad aa 1 rfl ?_
 refine af ?_
 refine ag rfl (fun hc6=>?_) (fun hc6=>?_)
 ·
  have hc6':=of_decide_eq_true hc6
  refine aP ?_
  refine af ?_
  refine aV ?_
  refine az aa 1 rfl ?_
  obtain ⟨x1,hx1⟩:=ch (xs:=s.dd) (i:=q) (by first|omega|(simp;done)|(simp;omega))
  refine ay (cQ (i:=q) rfl rfl rfl Try.underlying53 DM (by first|omega|(simp;done)|(simp;omega)) (bw hx1)) rfl ?_
  refine ab aa 4 rfl ?_
  refine ae ?_
  refine az aa 1 rfl ?_
  obtain ⟨e0,hr0⟩:∃ (e0:Int),fi x1=e0:=⟨_,rfl⟩
  refine aL 3 [2,1] (bJ 3 (kN x1 e0 hr0) BV rfl rfl ⟨⟨_,rfl,.g ⟨.d _,.d _,.d _,trivial⟩⟩,trivial⟩ trivial trivial rfl rfl rfl rfl) rfl ?_
  refine ab aa 1 rfl ?_
  refine ae ?_
  refine ad aa 2 rfl ?_
  refine ag rfl (fun hc7=>?_) (fun hc7=>?_)
  ·
   have hc7':=of_decide_eq_true hc7
   refine ad aa 4 rfl ?_
   refine ar ?_
   refine bg ?_
   refine ao ?_
   refine ao ?_
   refine bg ?_
   refine ao ?_
   have hX:ey s=(⟨e0,(↑q:Int)⟩:cP):=by
     unfold ey;rw [if_neg (by omega),if_neg (by omega),hi0_1,tf hx1,if_pos (by omega)];simp_all
   rw [hX] at hr;clear hX
   subst hr
   refine ah aa [1] 0 rfl rfl rfl rfl rfl rfl ?_ ?_
   all_goals first|rfl|(simp [au,aS,aZ];done)|(simp [au,aS,aZ];omega)
  have hc7':=of_decide_eq_false hc7
  refine cU ?_
  refine bp ?_
  refine then_ok ?_
  refine aw ?_
  refine ay (aM rfl rfl rfl (aH (by first|omega|(simp;done)|(simp;omega)))) rfl ?_
  refine ab aa 1 rfl ?_
  refine ae ?_
  refine ⟨q+1,⟨by omega,by rw [hi0_1,tf hx1,if_neg (by omega)]⟩,by first|omega|(simp;done)|(simp;omega),aD.bY id (by refine ⟨?_,?_,?_,?_,trivial⟩<;>first|rfl|(simp only [bn];done)|(congr 3;omega)|(congr 4;omega)|(simp only [bo];rfl)) (⟨by first|rfl|(simp only [bn];done)|(congr 3;omega)|(congr 4;omega)|(simp only [bo];rfl),trivial⟩) rfl⟩
 have hc6':=of_decide_eq_false hc6
 refine cp ?_
 refine aR ?_
 refine aR ?_
 refine bQ ?_
 refine then_ok ?_
 refine ad aa 2 rfl ?_
 refine ar ?_
 have hX:ey s=(⟨0,0⟩:cP):=by
   unfold ey;rw [if_neg (by omega),if_neg (by omega),hi0_1,List.drop_of_length_le (by omega)];rfl
 rw [hX] at hr;clear hX
 subst hr
 refine ah aa [1] 0 rfl rfl rfl rfl rfl rfl ?_ ?_
 all_goals first|rfl|(simp [au,aS,aZ];done)|(simp [au,aS,aZ];omega)

theorem rK (s:Setup) (l:List aE) (b2:Bk) (y2:List (List Int)) (o2:List Answer) (f2:cP) (hr:gq s l=(b2,y2,o2,f2)):Fn Try.prog 22 [(.g [(cR 3 ((s.dd).map fY)),(cI s.ix),(cI s.cap)]),(.c (qJ l))] (.t [(.g [(cI b2.time),(cB b2.down),(.s 0 0 6 b2.aj.length),(.s 1 0 1 b2.due.length),(.s 2 0 8 b2.aq.length),(cI b2.s0.bE),(dc b2.s0.kept),(cI b2.s1.bE),(dc b2.s1.kept),(cI b2.n0),(cI b2.n1),(ed b2.w0),(ed b2.w1),(cI b2.bH.cap),(fC b2.bH.used),(gz b2.bH.aX),(.s 3 0 4 b2.aN.length),(.s 4 0 1 y2.length),(dM b2.book)]),(.c (.s 5 0 2 o2.length)),(.g [(cI f2.err),(cI f2.at_)])]) [(0,(dR b2.aj)),(1,(dL b2.due)),(2,(dX b2.aq)),(3,(cH b2.aN)),(4,(pS y2)),(5,(Fi o2))]:=by
 refine Fn.mk' 89 [(0,(aG [(cR 3 ((s.dd).map fY)),(cI s.ix),(cI s.cap)])),(1,(aC (qJ l)))] Try.func22 rfl rfl rfl rfl ?_
 intro W0 T0
 refine fl 0 0 rfl rfl (fun hlen0_0=>?_)
 refine dG 1 rfl (fun hlen1=>?_)
 refine ad aa 4 rfl ?_
 refine af ?_
 refine az aa 1 rfl ?_
 obtain ⟨f0,hr0⟩:∃ (f0:cP),ey s=f0:=⟨_,rfl⟩
 refine aL 3 [2,1,0] (bJ 3 (vT s f0 hr0) He rfl rfl ⟨⟨_,rfl,.g ⟨.d _,.d _,.d _,trivial⟩⟩,trivial⟩ ⟨trivial,trivial,trivial⟩ trivial rfl rfl rfl rfl) rfl ?_
 refine ab aa 2 rfl ?_
 refine ae ?_
 refine ad aa 3 rfl ?_
 refine ag rfl (fun hc1=>?_) (fun hc1=>?_)
 ·
  have hc1':=of_decide_eq_true hc1
  refine af ?_
  refine db [1,2,4,6,7] [3,2,1,0] mixed rfl rfl ?_
  refine bT (kn:=[]) aa 5 rfl trivial ?_
  refine dS [1,2,4,6,5] [2,1,0] rfl rfl (by kernel_rfl) ?_
  refine then_ok ?_
  refine ar ?_
  refine ao ?_
  refine cf 1 2 61 6 rfl rfl rfl ?_
  refine cf 1 3 3 1 rfl rfl rfl ?_
  refine cf 1 4 67 8 rfl rfl rfl ?_
  refine eW 1 6 4 rfl rfl rfl ?_
  refine eW 1 8 4 rfl rfl rfl ?_
  refine eW 1 11 5 rfl rfl rfl ?_
  refine eW 1 12 5 rfl rfl rfl ?_
  refine eW 1 14 1 rfl rfl rfl ?_
  refine eW 1 15 4 rfl rfl rfl ?_
  refine cf 1 16 83 4 rfl rfl rfl ?_
  refine cf 1 17 86 1 rfl rfl rfl ?_
  refine eW 1 18 2 rfl rfl rfl ?_
  refine cV (aD.nil 5 65 2 (by decide) rfl) ?_
  have hX:gq s l=((⟨0,false,([]:List bx),([]:List Int),([]:List bz),(⟨0,[]⟩:bR),(⟨0,[]⟩:bR),0,0,[],[],(⟨0,[],[]⟩:cw),([]:List an),[]⟩:Bk),([]:List (List Int)),([]:List Answer),f0):=by
    unfold gq;rw [hr0,if_pos (by omega)];rfl
  rw [hX] at hr;clear hX
  simp only [Prod.mk.injEq] at hr;obtain ⟨rfl,rfl,rfl,rfl⟩:=hr
  refine ah aa [4,5,6,7,8,9,1,2] 6 rfl rfl rfl rfl rfl rfl ?_ ?_
  all_goals first|rfl|(simp [au,aS,aZ];done)|(simp [au,aS,aZ];omega)
 have hc1':=of_decide_eq_false hc1
 refine aP ?_
 refine af ?_
 refine az aa 1 rfl ?_
 refine ay (cT rfl rfl rfl rfl rfl Try.underlying24) rfl ?_
 refine ab aa 1 rfl ?_
 refine ae ?_
 refine ag rfl (fun hc2=>?_) (fun hc2=>?_)
 ·
  have hc2':=of_decide_eq_true hc2
  refine ad aa 5 rfl ?_
  refine ar ?_
  refine ao ?_
  refine cf 1 2 61 6 rfl rfl rfl ?_
  refine cf 1 3 3 1 rfl rfl rfl ?_
  refine cf 1 4 67 8 rfl rfl rfl ?_
  refine eW 1 6 4 rfl rfl rfl ?_
  refine eW 1 8 4 rfl rfl rfl ?_
  refine eW 1 11 5 rfl rfl rfl ?_
  refine eW 1 12 5 rfl rfl rfl ?_
  refine eW 1 14 1 rfl rfl rfl ?_
  refine eW 1 15 4 rfl rfl rfl ?_
  refine cf 1 16 83 4 rfl rfl rfl ?_
  refine cf 1 17 86 1 rfl rfl rfl ?_
  refine eW 1 18 2 rfl rfl rfl ?_
  refine cV (aD.nil 5 65 2 (by decide) rfl) ?_
  have hX:gq s l=((⟨0,false,([]:List bx),([]:List Int),([]:List bz),(⟨0,[]⟩:bR),(⟨0,[]⟩:bR),0,0,[],[],(⟨0,[],[]⟩:cw),([]:List an),[]⟩:Bk),([]:List (List Int)),([]:List Answer),(⟨5,0⟩:cP)):=by
    unfold gq;rw [hr0,if_neg (by omega),if_pos (by omega)];rfl
  rw [hX] at hr;clear hX
  simp only [Prod.mk.injEq] at hr;obtain ⟨rfl,rfl,rfl,rfl⟩:=hr
  refine ah aa [4,5,6,7,8,9,1,2] 6 rfl rfl rfl rfl rfl rfl ?_ ?_
  all_goals first|rfl|(simp [au,aS,aZ];done)|(simp [au,aS,aZ];omega)
 have hc2':=of_decide_eq_false hc2
 refine aP ?_
 refine eE ?_
 refine aL 5 [4,3,2,1,0] (yy 4 rfl) rfl ?_
 refine ab aa 3 rfl ?_
 refine ae ?_
 refine af ?_
 obtain ⟨w1,w2,w3,w4,w5,w6⟩:=kG (s:=s) (by rw [hr0];omega)
 refine pv 5 2 61 6 rfl rfl rfl ?_
 refine pv 5 4 67 8 rfl rfl rfl ?_
 refine kg 5 6 4 rfl rfl rfl ?_
 refine kg 5 8 4 rfl rfl rfl ?_
 refine kg 5 11 5 rfl rfl rfl ?_
 refine kg 5 12 5 rfl rfl rfl ?_
 refine kg 5 14 1 rfl rfl rfl ?_
 refine kg 5 15 4 rfl rfl rfl ?_
 refine pv 5 16 83 4 rfl rfl rfl ?_
 refine pv 5 17 86 1 rfl rfl rfl ?_
 refine kg 5 18 2 rfl rfl rfl ?_
 refine az aa 2 rfl ?_
 refine ay (cT rfl rfl rfl rfl rfl Try.underlying53) rfl ?_
 refine ab aa 1 rfl ?_
 refine ae ?_
 refine aV ?_
 refine cx (β:=Nat×List bx) (fun (p:Nat×List bx)=>match p with|(q,m)=>⟨[(1,(aC (qJ l))),(2,(aC (.p 0 0 0 0))),(4,(aC (.p 1 0 0 0))),(5,(aC cN)),(6,(aC (.p 2 0 0 0))),(8,(aC (.p 5 0 0 0))),(29,(aC (cR 3 ((s.dd).map fY)))),(30,(aI (↑s.dd.length:Int))),(31,(aI (↑q:Int)))],[(9,(pS ([]:List (List Int)))),(8,(cH ([]:List an))),(7,(dX ([]:List bz))),(6,(dR m)),(5,(.box 98 [(cI 0),(cB false),(.s 6 0 6 m.length),cN,(.s 7 0 8 0),(cI 0),(dc ([]:List aW)),(cI 0),(dc ([]:List aW)),(cI 0),(cI 0),(ed ([]:List bV)),(ed ([]:List bV)),(cI 0),(fC ([]:List Int)),(gz ([]:List ca)),(.s 8 0 4 0),(.s 9 0 1 0),(dM ([]:List Entry)),(.m 4)])),(4,(.map (tV ([]:List (Int×Answer))) 0)),(2,(.box 50 [(cI 0),(cI 0)])),(1,(.box 46 [(cI 0),(cB false),cN,cN,cN,(cI 0),cN,(cI 0),cN,(cI 0),(cI 0),cN,cN,(cI 0),cN,cN,cN,cN,cN])),(0,(.box 55 [(cR 3 ((s.dd).map fY)),(cI s.ix),(cI s.cap)]))],10⟩) (fun (p:Nat×List bx)=>match p with|(q,m)=>q<=s.dd.length/\m=(s.dd.take q).map pk/\m.length=q) (fun (p:Nat×List bx)=>match p with|(q,m)=>s.dd.length - q) (0,([]:List bx)) ?_ ?_ ?_
 ·exact ⟨by omega,rfl,rfl⟩
 ·exact aD.bY id (by refine ⟨?_,?_,?_,?_,?_,?_,?_,?_,?_,trivial⟩<;>first|rfl|(simp only [bn];done)|(congr 3;omega)|(congr 4;omega)|(simp only [bo];rfl)) (by refine ⟨?_,?_,?_,?_,?_,?_,?_,?_,?_,trivial⟩<;>first|rfl|(simp only [bn];done)|(congr 3;omega)|(congr 4;omega)|(simp only [bo];rfl)) rfl
 rintro ⟨q,m⟩ ⟨hi0_0,hi0_1,hi0_2⟩
 refine ad aa 1 rfl ?_
 refine af ?_
 refine ag rfl (fun hc3=>?_) (fun hc3=>?_)
 ·
  have hc3':=of_decide_eq_true hc3
  refine aP ?_
  refine af ?_
  refine aV ?_
  refine eE ?_
  obtain ⟨x1,hx1⟩:=ch (xs:=s.dd) (i:=q) (by first|omega|(simp;done)|(simp;omega))
  refine ay (cQ (i:=q) rfl rfl rfl Try.underlying53 DM (by first|omega|(simp;done)|(simp;omega)) (bw hx1)) rfl ?_
  refine ab aa 3 rfl ?_
  refine ae ?_
  refine bb [1,2,4,5,6,8,29,30,31,10] [10,9,8,7,6,5,4,2,1,0] mixed rfl rfl ?_
  refine aA (kn:=[]) aa 7 rfl trivial ?_
  refine aT (n':=11) [41] [] rfl rfl (.inl ⟨(ak.plain rfl),aK.cast (aK.Gz (cs':=[(cI 0),(cI 0),(cI x1.cK),(cI x1.count),(cI x1.sum),(fq ([]:List cX))]) 5 2 (xB (ys:=[(2,(.g [(cI x1.cK),(cI x1.count),(cI x1.sum)]))]) rfl Ge rfl ⟨⟨rfl,rfl⟩,trivial⟩ rfl rfl) rfl rfl) rfl⟩) rfl ?_
  refine aT (n':=12) [42] [] rfl rfl (.inl ⟨(ak.plain rfl),aK.cast (dz (ys:=[(0,(.g [(cI 0),(cI 0),(cI x1.cK),(cI x1.count),(cI x1.sum),(fq ([]:List cX))]))]) (rows:=([(⟨0,0,x1,([]:List cX)⟩:bx)]).map pd) 11 ya rfl (by decide) ⟨⟨rfl,rfl⟩,trivial⟩ rfl rfl rfl rfl) rfl⟩) rfl ?_
  refine aT (n':=13) [40,43] [11,6] rfl rfl (.inl ⟨(ak.plain rfl),aK.cast (da (m:=1) (N:=m.length+1) (k2:=12) (ys:=([(⟨0,0,x1,([]:List cX)⟩:bx)]).map pd) ya rfl rfl rfl rfl rfl rfl (by first|omega|(simp;done)|(simp;omega)) rfl (.s rfl (by first|omega|(simp;done)|(simp;omega))) (by first|omega|(simp;done)|(simp;omega)) (by first|omega|(simp;done)|(simp;omega)) eP (by decide) (by first|omega|(simp;done)|(simp;omega)) (by first|omega|(simp;done)|(simp;omega))) rfl⟩) rfl ?_
  refine aA (kn:=[]) aa 3 rfl trivial ?_
  refine bB [12,10,9,8,7,5,4,2,1,0] rfl rfl rfl rfl (by kernel_rfl) ?_
  refine ab aa 1 rfl ?_
  refine bZ ?_
  refine bp ?_
  refine then_ok ?_
  refine aw ?_
  refine ay (aM rfl rfl rfl (aH (by first|omega|(simp;done)|(simp;omega)))) rfl ?_
  refine ab aa 1 rfl ?_
  refine ae ?_
  refine ⟨(q+1,m++([(⟨0,0,x1,([]:List cX)⟩:bx)])),⟨by omega,by rw [iE hx1,List.map_append,<-hi0_1];rfl,by rw [List.length_append,hi0_2];rfl⟩,by first|omega|(simp;done)|(simp;omega),aD.bY (fun k=>if k=6 then 12 else k) (by refine ⟨?_,?_,?_,?_,?_,?_,?_,?_,?_,trivial⟩<;>first|rfl|(simp only [bn];done)|(congr 3;omega)|(congr 4;omega)|(simp only [bo];rfl)) (by refine ⟨?_,?_,?_,?_,?_,?_,?_,?_,?_,trivial⟩<;>first|rfl|(simp only [bn];done)|(congr 3;omega)|(congr 4;omega)|(simp only [bo];rfl)) rfl⟩
 have hc3':=of_decide_eq_false hc3
 refine cp ?_
 refine aR ?_
 refine aR ?_
 refine bQ ?_
 refine then_ok ?_
 refine az aa 3 rfl ?_
 refine aL 11 [10,9,8,7,6,5,4,2,1,0] (pe 10 ml CD rfl rfl rfl (n:=Int.toNat (s.ix)) (by first|omega|(simp;done)|(simp;omega)) (by first|omega|(simp;done)|(simp;omega)) (by first|omega|(simp;done)|(simp;omega)) (by first|omega|(simp;done)|(simp;omega))) rfl ?_
 refine ab aa 4 rfl ?_
 refine ae ?_
 refine az aa 5 rfl ?_
 refine ay (cT rfl rfl rfl rfl rfl Try.underlying53) rfl ?_
 have hr1:dx s.cap (↑s.dd.length:Int)=((dx s.cap (↑s.dd.length:Int)).1,(dx s.cap (↑s.dd.length:Int)).2):=rfl
 refine aL 11 [10,9,8,7,6,5,4,2,1,0] (bJ 11 (Fn.frozen (av':=(.t [(.g [(cI (((dx s.cap (↑s.dd.length:Int)).1).cap)),(fC (((dx s.cap (↑s.dd.length:Int)).1).used)),(gz (((dx s.cap (↑s.dd.length:Int)).1).aX))]),(.c (cI ((dx s.cap (↑s.dd.length:Int)).2)))])) (wK s.cap (↑s.dd.length:Int) ((dx s.cap (↑s.dd.length:Int)).1) ((dx s.cap (↑s.dd.length:Int)).2) hr1) ⟨⟨.inl ⟨_,rfl,rfl⟩,.inr ⟨_,_,_,_,_,rfl,rfl,rfl,by simp⟩,.inr ⟨_,_,_,_,_,rfl,rfl,rfl,by simp⟩,trivial⟩,.inl ⟨_,rfl,rfl⟩,trivial⟩) Hd rfl rfl ⟨⟨_,rfl,.c (.d _)⟩,⟨_,rfl,.c (.d _)⟩,trivial⟩ ⟨⟨trivial,trivial,trivial,trivial⟩,trivial,trivial⟩ trivial rfl rfl rfl rfl) rfl ?_
 refine ab aa 7 rfl ?_
 refine ae ?_
 refine ad aa 1 rfl ?_
 refine af ?_
 refine az aa 1 rfl ?_
 refine ay (cT rfl rfl rfl rfl rfl Try.underlying24) rfl ?_
 refine ab aa 1 rfl ?_
 refine ae ?_
 refine aV ?_
 refine gy (aD.nil 11 65 2 (by decide) rfl) ?_
 have htk:m=s.dd.map pk:=by rw [hi0_1,List.take_of_length_le (by omega)]
 subst htk
 refine cx (β:=Nat×Bk×List (List Int)×List (Int×Answer)×Nat×List Answer) (fun (p:Nat×Bk×List (List Int)×List (Int×Answer)×Nat×List Answer)=>match p with|(u,b,days,told,cl,out)=>⟨[(1,(aC (qJ l))),(2,(aC (.p 0 0 0 0))),(4,(aC (.p 1 0 0 0))),(5,(aC cN)),(6,(aC (.p 2 0 0 0))),(8,(aC (.p 5 0 0 0))),(29,(aC (cR 3 ((s.dd).map fY)))),(30,(aI (↑s.dd.length:Int))),(31,(aI (↑q:Int))),(11,(aC (.s 11 0 2 out.length))),(70,(aI (↑l.length:Int))),(71,(aI (↑u:Int)))],[(11,(Fi out)),(10,(dL b.due)),(9,(pS days)),(8,(cH b.aN)),(7,(dX b.aq)),(6,(dR b.aj)),(5,(.box 98 (aS b 6 10 7 8 (.s 9 0 1 days.length) (.m 4)))),(4,(.map (tV told) cl)),(2,(.box 50 [(cI 0),(cI 0)])),(1,(.box 46 [(cI 0),(cB false),cN,cN,cN,(cI 0),cN,(cI 0),cN,(cI 0),(cI 0),cN,cN,(cI 0),cN,cN,cN,cN,cN])),(0,(.box 55 [(cR 3 ((s.dd).map fY)),(cI s.ix),(cI s.cap)]))],12⟩) (fun (p:Nat×Bk×List (List Int)×List (Int×Answer)×Nat×List Answer)=>match p with|(u,b,days,told,cl,out)=>u<=l.length/\kh l (ik s) [] [] 0 []=kh (l.drop u) b days told cl out/\cm b/\days.length<=u/\out.length=u) (fun (p:Nat×Bk×List (List Int)×List (Int×Answer)×Nat×List Answer)=>match p with|(u,b,days,told,cl,out)=>l.length - u) (0,ik s,([]:List (List Int)),([]:List (Int×Answer)),0,([]:List Answer)) ?_ ?_ ?_
 ·exact ⟨by omega,rfl,cm.start (by rw [hr0];omega),by simp,rfl⟩
 ·exact aD.bY id (by refine ⟨?_,?_,?_,?_,?_,?_,?_,?_,?_,?_,?_,?_,trivial⟩<;>first|rfl|(simp only [bn];done)|(congr 3;omega)|(congr 4;omega)|(simp only [bo];rfl)) (by refine ⟨?_,?_,?_,?_,?_,?_,?_,?_,?_,?_,?_,trivial⟩<;>first|rfl|(simp only [bn];done)|(congr 3;omega)|(congr 4;omega)|(simp only [bo];rfl)|(simp only [aS,ik,List.length_replicate];rfl)) rfl
 rintro ⟨u,b,days,told,cl,out⟩ ⟨hi1_0,hi1_1,hi1_2,hi1_3,hi1_4⟩
 refine ad aa 1 rfl ?_
 refine af ?_
 refine ag rfl (fun hc4=>?_) (fun hc4=>?_)
 ·
  have hc4':=of_decide_eq_true hc4
  refine aP ?_
  refine af ?_
  refine aV ?_
  refine ad aa 2 rfl ?_
  refine aw ?_
  refine ab aa 4 rfl ?_
  obtain ⟨x1,hx1⟩:=ch (xs:=l) (i:=u) (by first|omega|(simp;done)|(simp;omega))
  refine ay (cQ (i:=u) rfl rfl rfl Try.underlying24 Gt (by first|omega|(simp;done)|(simp;omega)) (bw hx1)) rfl ?_
  obtain ⟨b22,y22,t22,c22,a22,hr2⟩:∃ (b22:Bk) (y22:List (List Int)) (t22:List (Int×Answer)) (c22:Nat) (a22:Answer),fH b days told cl x1=(b22,y22,t22,c22,a22):=⟨_,_,_,_,_,rfl⟩
  refine aL 18 [5,12,13,14,15,16,17,11,2,1,0] (cg (aU [5,6,10,7,8,9,4]) (aU [5,12,13,14,15,16,17]) (ms:=(iY b 1 2 3 4 (some (.s 5 0 1 days.length)) (some (.m 6)))) (ms':=(iY b22 1 2 3 4 (some (.s 5 0 1 y22.length)) (some (.m 6)))) (fun x hx=>Fa x hx b days told cl x1 (by first|assumption|exact cm.tick (by assumption) (by omega) (by omega)) (by first|omega|(simp;done)|(simp;omega)) b22 y22 t22 c22 a22 hr2) Hc rfl rfl ⟨⟨_,rfl,.inl ⟨rfl,rfl⟩⟩,⟨_,rfl,.inl ⟨rfl,rfl⟩⟩,trivial⟩ rfl rfl rfl rfl rfl rfl rfl ⟨rfl,rfl,rfl,rfl,rfl,rfl,trivial⟩ rfl rfl rfl rfl rfl rfl rfl rfl rfl rfl rfl rfl rfl) rfl ?_
  refine aL 19 [18,5,12,13,14,15,16,17,11,2,1,0] (dz (ys:=[(0,(.g [(cI a22.err),(cI a22.ba)]))]) (rows:=([a22]).map lf) 18 DO rfl (by decide) ⟨⟨rfl,rfl⟩,trivial⟩ rfl rfl rfl rfl) rfl ?_
  refine aL 20 [19,18,5,12,13,14,15,16,17,2,1,0] (da (m:=1) (N:=out.length+1) (k2:=19) (ys:=([a22]).map lf) DO rfl rfl rfl rfl rfl rfl (by first|omega|(simp;done)|(simp;omega)) rfl (.s rfl (by first|omega|(simp;done)|(simp;omega))) (by first|omega|(simp;done)|(simp;omega)) (by first|omega|(simp;done)|(simp;omega)) eP (by decide) (by first|omega|(simp;done)|(simp;omega)) (by first|omega|(simp;done)|(simp;omega))) rfl ?_
  refine ab aa 1 rfl ?_
  refine bZ ?_
  refine bp ?_
  refine then_ok ?_
  refine aw ?_
  refine ay (aM rfl rfl rfl (aH (by first|omega|(simp;done)|(simp;omega)))) rfl ?_
  refine ab aa 1 rfl ?_
  refine ae ?_
  refine ⟨(u+1,b22,y22,t22,c22,out++([a22])),⟨by omega,by rw [hi1_1,yh hx1,hr2],(by have h:=cm.once hi1_2 days told cl x1;rw [hr2] at h;exact h.1),(by have h:=(cm.once hi1_2 days told cl x1).2;rw [hr2] at h;dsimp only at h;omega),by rw [List.length_append,hi1_4];rfl⟩,by first|omega|(simp;done)|(simp;omega),aD.bY (fun k=>if k=11 then 19 else if k=4 then 17 else if k=9 then 16 else if k=8 then 15 else if k=7 then 14 else if k=10 then 13 else if k=6 then 12 else k) (by refine ⟨?_,?_,?_,?_,?_,?_,?_,?_,?_,?_,?_,?_,trivial⟩<;>first|rfl|(simp only [bn];done)|(congr 3;omega)|(congr 4;omega)|(simp only [bo];rfl)) (by refine ⟨?_,?_,?_,?_,?_,?_,?_,?_,?_,?_,?_,trivial⟩<;>first|rfl|(simp only [bn];done)|(congr 3;omega)|(congr 4;omega)|(simp only [bo];rfl)) rfl⟩
 have hc4':=of_decide_eq_false hc4
 refine cp ?_
 refine aR ?_
 refine aR ?_
 refine bQ ?_
 refine then_ok ?_
 refine ad aa 9 rfl ?_
 refine ar ?_
 have hX:gq s l=(b,days,out,(⟨0,0⟩:cP)):=by
   unfold gq;rw [hr0,if_neg (by omega),if_neg (by omega),hi1_1,List.drop_of_length_le (by omega)];rfl
 rw [hX] at hr;clear hX
 simp only [Prod.mk.injEq] at hr;obtain ⟨rfl,rfl,rfl,rfl⟩:=hr
 refine ah aa [6,10,7,8,9,11,1,2] 6 rfl rfl rfl rfl rfl rfl ?_ ?_
 all_goals first|rfl|(simp [au,aS,aZ];done)|(simp [au,aS,aZ];omega)


def Gw (limit:Int):Setup:=⟨[⟨1000,30,1000000000000⟩,⟨1000,30,1000000000000⟩],2,limit⟩
def dp (n:Int) (k:Nat):List aE:=List.replicate k ⟨0,6,n,0,0,0⟩
def qR (j:Nat):List aE:=if j=0 then dp 0 5++dp 1 5 else if j=1 then dp 1 5 else []
def uo:List aE:=[⟨0,5,0,0,0,0⟩,⟨0,5,1,0,0,0⟩]++qR 0
def nB (n:Nat):List aE:=(List.replicate n uo).flatten
def cC (l:List aE):List aE:=l++nB 2
theorem AE {n:Int} {k:Nat} (h:k < 5):dp n (5 - k)=[⟨0,6,n,0,0,0⟩]++dp n (5 - (k+1)):=by
  have:5 - k=(5 - (k+1))+1:=by omega
  rw [this];rfl
theorem yb {j:Nat} (h:j < 2):qR j=dp (↑j) 5++qR (j+1):=by
  rcases j with _|_|j
  ·rfl
  ·rfl
  ·omega
theorem yL {i:Nat} (h:i < 2):nB (2 - i)=uo++nB (2 - (i+1)):=by
  have:2 - i=(2 - (i+1))+1:=by omega
  rw [this];rfl
def mA (l:List Int):Bool:=decide (∀ n∈l,1<=n/\n<=100000)

theorem nC (limit:Int):Fn Try.prog 23 [(.c (cI limit))] (.v (.g [(.s 0 0 3 2),(cI 2),(cI limit)])) [(0,.arr 58 3 ((Gw limit).dd.map fY))]:=by
 refine Fn.mk' 10 [(0,(aI limit))] Try.func23 rfl rfl rfl rfl ?_
 intro W0 T0
 refine ad aa 1 rfl ?_
 refine ad aa 3 rfl ?_
 refine az aa 2 rfl ?_
 refine aL 3 [2,1,0] (dz (ys:=[(0,(.g [(cI 1000),(cI 30),(cI 1000000000000)])),(1,(.g [(cI 1000),(cI 30),(cI 1000000000000)]))]) (rows:=([(⟨1000,30,1000000000000⟩:cO),(⟨1000,30,1000000000000⟩:cO)]).map fY) 2 Gu rfl (by decide) ⟨⟨rfl,rfl⟩,⟨rfl,rfl⟩,trivial⟩ rfl rfl rfl rfl) rfl ?_
 refine ab aa 3 rfl ?_
 refine ae ?_
 refine ar ?_
 refine ah aa [2,0] 1 rfl rfl rfl rfl rfl rfl ?_ ?_
 all_goals first|rfl|(simp [au,aS,aZ];done)|(simp [au,aS,aZ];omega)
theorem nD (k n s:Int):Fn Try.prog 20 [(.c (cI k)),(.c (cI n)),(.c (cI s))] (.v (.g [(cI 0),(cI k),(cI n),(cI 0),(cI 0),(cI s)])) []:=by
 refine Fn.mk' 11 [(0,(aI k)),(1,(aI n)),(2,(aI s))] Try.func20 rfl rfl rfl rfl ?_
 intro W0 T0
 refine ad aa 1 rfl ?_
 refine ad aa 5 rfl ?_
 refine ar ?_
 refine ah aa [0] 0 rfl rfl rfl rfl rfl rfl ?_ ?_
 all_goals first|rfl|(simp [au,aS,aZ];done)|(simp [au,aS,aZ];omega)
theorem mK (k n s:Int):Fn Try.prog 21 [(.c (cI k)),(.c (cI n)),(.c (cI s))] (.v (.g [(cI 0),(cI 3),(cI n),(cI 0),(cI k),(cI s)])) []:=by
 refine Fn.mk' 11 [(0,(aI k)),(1,(aI n)),(2,(aI s))] Try.func21 rfl rfl rfl rfl ?_
 intro W0 T0
 refine ad aa 1 rfl ?_
 refine ad aa 5 rfl ?_
 refine ar ?_
 refine ah aa [0] 0 rfl rfl rfl rfl rfl rfl ?_ ?_
 all_goals first|rfl|(simp [au,aS,aZ];done)|(simp [au,aS,aZ];omega)

theorem rG (l:List aE) (N:Nat) (hN:N=l.length) (hl:l.length<=1000) (r:List aE) (hr:cC l=r):cA Try.prog 19 [(.c (.s 0 0 6 N))] [(0,(rU l))] [] (.v (.c (.s 0 0 6 r.length))) [(0,(rU r))]:=by
 refine cA.mk 25 [(0,(aC (.s 0 0 6 N)))] 1 Try.func19 rfl rfl rfl rfl rfl rfl rfl rfl rfl ?_
 intro W0 F0 T0 pg
 refine fQ 0 rfl (fun hlen0=>?_)
 refine ad aa 1 rfl ?_
 refine af ?_
 refine ad aa 1 rfl ?_
 refine aV ?_
 refine cx (β:=Nat×List aE) (fun (p:Nat×List aE)=>match p with|(i,m0)=>⟨[(0,(aC (.s 0 0 6 m0.length))),(2,(aC cN)),(4,(aI (↑i:Int)))],[(0,(rU m0))],1⟩) (fun (p:Nat×List aE)=>match p with|(i,m0)=>i<=2/\m0++nB (2 - i)=cC l/\m0.length+12 * (2 - i)=l.length+24) (fun (p:Nat×List aE)=>match p with|(i,m0)=>2 - i) (0,l) ?_ ?_ ?_
 ·exact ⟨by omega,rfl,by omega⟩
 ·exact aD.bY id (by refine ⟨?_,?_,?_,trivial⟩<;>first|rfl|(simp only [bn];done)|(congr 3;omega)|(congr 4;omega)|(simp only [bo];rfl)|(first|exact cJ rfl (by omega)|exact iJ rfl (by first|omega|(simp only [List.length_append,List.length_cons,List.length_nil] at *;omega)))) (⟨by first|rfl|(simp only [bn];done)|(congr 3;omega)|(congr 4;omega)|(simp only [bo];rfl),trivial⟩) rfl
 rintro ⟨i,m0⟩ ⟨hi0_0,hi0_1,hi0_2⟩
 refine ad aa 1 rfl ?_
 refine af ?_
 refine ag rfl (fun hc1=>?_) (fun hc1=>?_)
 ·
  have hc1':=of_decide_eq_true hc1
  refine aP ?_
  refine af ?_
  refine aV ?_
  refine az aa 1 rfl ?_
  refine aL 1 [0] (bJ 1 (nD 5 0 0) qv rfl rfl ⟨⟨_,rfl,.c (.d _)⟩,⟨_,rfl,.c (.d _)⟩,⟨_,rfl,.c (.d _)⟩,trivial⟩ ⟨trivial,trivial,trivial,trivial,trivial,trivial,trivial⟩ trivial rfl rfl rfl rfl) rfl ?_
  refine aL 1 [0] (bJ 1 (nD 5 1 0) qv rfl rfl ⟨⟨_,rfl,.c (.d _)⟩,⟨_,rfl,.c (.d _)⟩,⟨_,rfl,.c (.d _)⟩,trivial⟩ ⟨trivial,trivial,trivial,trivial,trivial,trivial,trivial⟩ trivial rfl rfl rfl rfl) rfl ?_
  refine aL 2 [1,0] (dz (ys:=[(0,(.g [(cI 0),(cI 5),(cI 0),(cI 0),(cI 0),(cI 0)])),(1,(.g [(cI 0),(cI 5),(cI 1),(cI 0),(cI 0),(cI 0)]))]) (rows:=([(⟨0,5,0,0,0,0⟩:aE),(⟨0,5,1,0,0,0⟩:aE)]).map cG) 1 kJ rfl (by decide) ⟨⟨rfl,rfl⟩,⟨rfl,rfl⟩,trivial⟩ rfl rfl rfl rfl) rfl ?_
  refine aL 3 [2,1] (da (m:=2) (N:=m0.length+2) (k2:=2) (ys:=([(⟨0,5,0,0,0,0⟩:aE),(⟨0,5,1,0,0,0⟩:aE)]).map cG) kJ rfl rfl rfl rfl rfl rfl (by first|omega|(simp;done)|(simp;omega)) rfl (.s rfl (by first|omega|(simp;done)|(simp;omega))) (by first|omega|(simp;done)|(simp;omega)) (by first|omega|(simp;done)|(simp;omega)) eP (by decide) (by first|omega|(simp;done)|(simp;omega)) (by first|omega|(simp;done)|(simp;omega))) rfl ?_
  refine ab aa 1 rfl ?_
  refine ae ?_
  refine ad aa 1 rfl ?_
  refine aV ?_
  refine cx (β:=Nat×List aE) (fun (p:Nat×List aE)=>match p with|(j,m1)=>⟨[(0,(aC (.s 2 0 6 m1.length))),(2,(aC cN)),(4,(aI (↑i:Int))),(11,(aI (↑j:Int)))],[(2,(rU m1))],3⟩) (fun (p:Nat×List aE)=>match p with|(j,m1)=>j<=2/\m1++qR j=m0++uo/\m1.length+5 * (2 - j)=m0.length+12) (fun (p:Nat×List aE)=>match p with|(j,m1)=>2 - j) (0,m0++([(⟨0,5,0,0,0,0⟩:aE),(⟨0,5,1,0,0,0⟩:aE)])) ?_ ?_ ?_
  ·exact ⟨by omega,by simp [uo],by simp⟩
  ·exact aD.bY id (by refine ⟨?_,?_,?_,?_,trivial⟩<;>first|rfl|(simp only [bn];done)|(congr 3;omega)|(congr 4;omega)|(simp only [bo];rfl)|(first|exact cJ rfl (by omega)|exact iJ rfl (by first|omega|(simp only [List.length_append,List.length_cons,List.length_nil] at *;omega)))) (⟨by first|rfl|(simp only [bn];done)|(congr 3;omega)|(congr 4;omega)|(simp only [bo];rfl),trivial⟩) rfl
  rintro ⟨j,m1⟩ ⟨hi1_0,hi1_1,hi1_2⟩
  refine ad aa 1 rfl ?_
  refine af ?_
  refine ag rfl (fun hc2=>?_) (fun hc2=>?_)
  ·
   have hc2':=of_decide_eq_true hc2
   refine aP ?_
   refine af ?_
   refine aV ?_
   refine ad aa 2 rfl ?_
   refine ad aa 1 rfl ?_
   refine aV ?_
   refine cx (β:=Nat×List aE) (fun (p:Nat×List aE)=>match p with|(k,m2)=>⟨[(0,(aC (.s 2 0 6 m2.length))),(2,(aC cN)),(4,(aI (↑i:Int))),(11,(aI (↑j:Int))),(3,(aI (↑j:Int))),(14,(aI (↑k:Int)))],[(2,(rU m2))],3⟩) (fun (p:Nat×List aE)=>match p with|(k,m2)=>k<=5/\m2++dp (↑j) (5 - k)=m1++dp (↑j) 5/\m2.length+(5 - k)=m1.length+5) (fun (p:Nat×List aE)=>match p with|(k,m2)=>5 - k) (0,m1) ?_ ?_ ?_
   ·exact ⟨by omega,rfl,by omega⟩
   ·exact aD.bY id (by refine ⟨?_,?_,?_,?_,?_,?_,trivial⟩<;>first|rfl|(simp only [bn];done)|(congr 3;omega)|(congr 4;omega)|(simp only [bo];rfl)|(first|exact cJ rfl (by omega)|exact iJ rfl (by first|omega|(simp only [List.length_append,List.length_cons,List.length_nil] at *;omega)))) (⟨by first|rfl|(simp only [bn];done)|(congr 3;omega)|(congr 4;omega)|(simp only [bo];rfl),trivial⟩) rfl
   rintro ⟨k,m2⟩ ⟨hi2_0,hi2_1,hi2_2⟩
   refine ad aa 1 rfl ?_
   refine af ?_
   refine ag rfl (fun hc3=>?_) (fun hc3=>?_)
   ·
    have hc3':=of_decide_eq_true hc3
    refine aP ?_
    refine af ?_
    refine aV ?_
    refine aw ?_
    refine ab aa 2 rfl ?_
    refine aL 3 [2] (bJ 3 (nD 6 (↑j:Int) 0) qv rfl rfl ⟨⟨_,rfl,.c (.d _)⟩,⟨_,rfl,.c (.d _)⟩,⟨_,rfl,.c (.d _)⟩,trivial⟩ ⟨trivial,trivial,trivial,trivial,trivial,trivial,trivial⟩ trivial rfl rfl rfl rfl) rfl ?_
    refine aL 4 [3,2] (dz (ys:=[(0,(.g [(cI 0),(cI 6),(cI (↑j:Int)),(cI 0),(cI 0),(cI 0)]))]) (rows:=([(⟨0,6,(↑j:Int),0,0,0⟩:aE)]).map cG) 3 kJ rfl (by decide) ⟨⟨rfl,rfl⟩,trivial⟩ rfl rfl rfl rfl) rfl ?_
    refine aL 5 [4,3] (da (m:=1) (N:=m2.length+1) (k2:=4) (ys:=([(⟨0,6,(↑j:Int),0,0,0⟩:aE)]).map cG) kJ rfl rfl rfl rfl rfl rfl (by first|omega|(simp;done)|(simp;omega)) rfl (.s rfl (by first|omega|(simp;done)|(simp;omega))) (by first|omega|(simp;done)|(simp;omega)) (by first|omega|(simp;done)|(simp;omega)) eP (by decide) (by first|omega|(simp;done)|(simp;omega)) (by first|omega|(simp;done)|(simp;omega))) rfl ?_
    refine ab aa 1 rfl ?_
    refine bZ ?_
    refine bp ?_
    refine then_ok ?_
    refine aw ?_
    refine ay (aM rfl rfl rfl (aH (by first|omega|(simp;done)|(simp;omega)))) rfl ?_
    refine ab aa 1 rfl ?_
    refine ae ?_
    refine ⟨(k+1,m2++([(⟨0,6,(↑j:Int),0,0,0⟩:aE)])),⟨by omega,by rw [<-hi2_1,AE (k:=k) (by omega),List.append_assoc],by simp only [List.length_append,List.length_cons,List.length_nil];omega⟩,by first|omega|(simp;done)|(simp;omega),aD.bY (fun k=>if k=2 then 4 else k) (by refine ⟨?_,?_,?_,?_,?_,?_,trivial⟩<;>first|rfl|(simp only [bn];done)|(congr 3;omega)|(congr 4;omega)|(simp only [bo];rfl)|(first|exact cJ rfl (by omega)|exact iJ rfl (by first|omega|(simp only [List.length_append,List.length_cons,List.length_nil] at *;omega)))) (⟨by first|rfl|(simp only [bn];done)|(congr 3;omega)|(congr 4;omega)|(simp only [bo];rfl),trivial⟩) rfl⟩
   have hc3':=of_decide_eq_false hc3
   refine cp ?_
   refine aR ?_
   refine aR ?_
   refine bQ ?_
   refine bp ?_
   refine then_ok ?_
   refine aw ?_
   refine ay (aM rfl rfl rfl (aH (by first|omega|(simp;done)|(simp;omega)))) rfl ?_
   refine ab aa 1 rfl ?_
   refine ae ?_
   refine ⟨(j+1,m2),⟨by omega,by rw [<-hi1_1,yb (j:=j) (by omega),<-List.append_assoc,<-hi2_1,(show 5 - k=0 by omega)];simp [dp],by omega⟩,by first|omega|(simp;done)|(simp;omega),aD.bY id (by refine ⟨?_,?_,?_,?_,trivial⟩<;>first|rfl|(simp only [bn];done)|(congr 3;omega)|(congr 4;omega)|(simp only [bo];rfl)|(first|exact cJ rfl (by omega)|exact iJ rfl (by first|omega|(simp only [List.length_append,List.length_cons,List.length_nil] at *;omega)))) (⟨by first|rfl|(simp only [bn];done)|(congr 3;omega)|(congr 4;omega)|(simp only [bo];rfl),trivial⟩) rfl⟩
  have hc2':=of_decide_eq_false hc2
  refine cp ?_
  refine aR ?_
  refine aR ?_
  refine bQ ?_
  refine bp ?_
  refine then_ok ?_
  refine aw ?_
  refine ay (aM rfl rfl rfl (aH (by first|omega|(simp;done)|(simp;omega)))) rfl ?_
  refine ab aa 1 rfl ?_
  refine ae ?_
  refine ⟨(i+1,m1),⟨by omega,by rw [<-hi0_1,yL (i:=i) (by omega),<-List.append_assoc,<-hi1_1,(show j=2 by omega)];simp [qR],by omega⟩,by first|omega|(simp;done)|(simp;omega),aD.bY (fun k=>if k=0 then 2 else k) (by refine ⟨?_,?_,?_,trivial⟩<;>first|rfl|(simp only [bn];done)|(congr 3;omega)|(congr 4;omega)|(simp only [bo];rfl)|(first|exact cJ rfl (by omega)|exact iJ rfl (by first|omega|(simp only [List.length_append,List.length_cons,List.length_nil] at *;omega)))) (⟨by first|rfl|(simp only [bn];done)|(congr 3;omega)|(congr 4;omega)|(simp only [bo];rfl),trivial⟩) rfl⟩
 have hc1':=of_decide_eq_false hc1
 refine cp ?_
 refine aR ?_
 refine aR ?_
 refine bQ ?_
 refine then_ok ?_
 refine ad aa 2 rfl ?_
 refine ar ?_
 have hX:cC l=m0:=by
   have:i=2:=by omega
   subst this
   rw [<-hi0_1];simp [nB]
 rw [hX] at hr;clear hX
 subst hr
 refine ah aa [0] 1 rfl rfl rfl rfl rfl rfl ?_ ?_
 all_goals first|rfl|(simp [au,aS,aZ];done)|(simp [au,aS,aZ];omega)
theorem DB (l:List Int) (r:Bool) (hr:mA l=r):Fn Try.prog 18 [(.c (fC l))] (.v (.c (cB r))) []:=by
 refine Fn.mk' 18 [(0,(aC (fC l)))] Try.func18 rfl rfl rfl rfl ?_
 intro W0 T0
 refine dG 0 rfl (fun hlen0=>?_)
 refine ad aa 1 rfl ?_
 refine af ?_
 refine az aa 1 rfl ?_
 refine ay (cT rfl rfl rfl rfl rfl Try.underlying30) rfl ?_
 refine ab aa 1 rfl ?_
 refine ae ?_
 refine aV ?_
 refine cx (β:=Nat) (fun (q:Nat)=>⟨[(5,(aC (fC l))),(6,(aI (↑l.length:Int))),(7,(aI (↑q:Int)))],[],0⟩) (fun (q:Nat)=>q<=l.length/\(∀ i n,i < q->l[i]?=some n->1<=n/\n<=100000)) (fun (q:Nat)=>l.length - q) 0 ?_ ?_ ?_
 ·exact ⟨by omega,fun i n h=>by omega⟩
 ·exact aD.bY id (by refine ⟨?_,?_,?_,trivial⟩<;>first|rfl|(simp only [bn];done)|(congr 3;omega)|(congr 4;omega)|(simp only [bo];rfl)) (trivial) rfl
 rintro q ⟨hi0_0,hi0_1⟩
 refine ad aa 1 rfl ?_
 refine af ?_
 refine ag rfl (fun hc1=>?_) (fun hc1=>?_)
 ·
  have hc1':=of_decide_eq_true hc1
  refine aP ?_
  refine af ?_
  refine aV ?_
  refine eE ?_
  obtain ⟨x1,hx1⟩:=ch (xs:=l) (i:=q) (by first|omega|(simp;done)|(simp;omega))
  refine ay (cQ (i:=q) rfl rfl rfl Try.underlying30 fK (by first|omega|(simp;done)|(simp;omega)) (bw hx1)) rfl ?_
  refine ab aa 2 rfl ?_
  refine ae ?_
  refine cq 16 ((decide (x1 < 1))||(decide (x1 > 100000))) ?_ ?_
  ·
   refine aw ?_
   refine ab aa 3 rfl ?_
   refine bA (t:=13) rfl (fun hb2=>?_) (fun hb2=>?_)
   ·
    have hb2':=of_decide_eq_true hb2
    refine ab aa 3 rfl ?_
    refine ae ?_
    exact aD.bG 7 rfl rfl (by first|(simp [hb2];done)|(simp_all;done)|(exfalso;simp_all;done)|(simp_all;omega)) rfl
   have hb2':=of_decide_eq_false hb2
   refine ab aa 3 rfl ?_
   refine ae ?_
   exact aD.bG 7 rfl rfl (by first|(simp [hb2];done)|(simp_all;done)|(exfalso;simp_all;done)|(simp_all;omega)) rfl
  refine ag rfl (fun hc3=>?_) (fun hc3=>?_)
  ·
   have hc3':=hc3;try simp only [bm,bM] at hc3'
   refine ad aa 1 rfl ?_
   refine ar ?_
   refine bg ?_
   refine ao ?_
   refine ao ?_
   refine bg ?_
   refine ao ?_
   have hX:mA l=false:=by
     simp only [mA,decide_eq_false_iff_not];intro h;have:=h x1 (List.mem_of_getElem? hx1);omega
   rw [hX] at hr;clear hX
   subst hr
   refine ah aa [] 0 rfl rfl rfl rfl rfl rfl ?_ ?_
   all_goals first|rfl|(simp [au,aS,aZ];done)|(simp [au,aS,aZ];omega)
  have hc3':=hc3;try simp only [bm,bM] at hc3'
  refine cU ?_
  refine bp ?_
  refine then_ok ?_
  refine aw ?_
  refine ay (aM rfl rfl rfl (aH (by first|omega|(simp;done)|(simp;omega)))) rfl ?_
  refine ab aa 1 rfl ?_
  refine ae ?_
  refine ⟨q+1,⟨by omega,fun i n hi hn=>by rcases Nat.lt_or_ge i q with h|h;exact hi0_1 i n h hn;(have:i=q:=by omega);subst this;rw [hx1] at hn;injection hn with hn;subst hn;constructor<;>omega⟩,by first|omega|(simp;done)|(simp;omega),aD.bY id (by refine ⟨?_,?_,?_,trivial⟩<;>first|rfl|(simp only [bn];done)|(congr 3;omega)|(congr 4;omega)|(simp only [bo];rfl)) (trivial) rfl⟩
 have hc1':=of_decide_eq_false hc1
 refine cp ?_
 refine aR ?_
 refine aR ?_
 refine bQ ?_
 refine then_ok ?_
 refine ad aa 1 rfl ?_
 refine ar ?_
 have hX:mA l=true:=by
   simp only [mA,decide_eq_true_eq];intro n hn;obtain ⟨i,hi⟩:=List.getElem?_of_mem hn;exact hi0_1 i n (by have:=(List.getElem?_eq_some_iff.1 hi).1;omega) hi
 rw [hX] at hr;clear hX
 subst hr
 refine ah aa [] 0 rfl rfl rfl rfl rfl rfl ?_ ?_
 all_goals first|rfl|(simp [au,aS,aZ];done)|(simp [au,aS,aZ];omega)

theorem Co:Fn Try.prog 17 [] (aB true) []:=by
 refine Fn.mk' 53 [] Try.func17 rfl rfl rfl rfl ?_
 intro W0 T0
 refine ad aa 1 rfl ?_
 refine eE ?_
 refine aL 0 [] (bJ 0 (Fn.frozen (av':=(aG [(cR 3 (([(⟨1000,30,1000000000000⟩:cO),(⟨1000,30,1000000000000⟩:cO)]).map fY)),(cI 2),(cI 0)])) (nC 0) ⟨.inr ⟨_,_,_,_,_,rfl,rfl,rfl,by simp⟩,.inl ⟨_,rfl,rfl⟩,.inl ⟨_,rfl,rfl⟩,trivial⟩) yG rfl rfl ⟨⟨_,rfl,.c (.d _)⟩,trivial⟩ ⟨trivial,trivial,trivial,trivial⟩ trivial rfl rfl rfl rfl) rfl ?_
 refine aL 0 [] (bJ 0 (nD 1 0 100) qv rfl rfl ⟨⟨_,rfl,.c (.d _)⟩,⟨_,rfl,.c (.d _)⟩,⟨_,rfl,.c (.d _)⟩,trivial⟩ ⟨trivial,trivial,trivial,trivial,trivial,trivial,trivial⟩ trivial rfl rfl rfl rfl) rfl ?_
 refine aL 0 [] (bJ 0 (nD 2 0 60) qv rfl rfl ⟨⟨_,rfl,.c (.d _)⟩,⟨_,rfl,.c (.d _)⟩,⟨_,rfl,.c (.d _)⟩,trivial⟩ ⟨trivial,trivial,trivial,trivial,trivial,trivial,trivial⟩ trivial rfl rfl rfl rfl) rfl ?_
 refine aL 0 [] (bJ 0 (mK 3 0 40) vF rfl rfl ⟨⟨_,rfl,.c (.d _)⟩,⟨_,rfl,.c (.d _)⟩,⟨_,rfl,.c (.d _)⟩,trivial⟩ ⟨trivial,trivial,trivial,trivial,trivial,trivial,trivial⟩ trivial rfl rfl rfl rfl) rfl ?_
 refine aL 1 [0] (dz (ys:=[(0,(.g [(cI 0),(cI 1),(cI 0),(cI 0),(cI 0),(cI 100)])),(1,(.g [(cI 0),(cI 2),(cI 0),(cI 0),(cI 0),(cI 60)])),(2,(.g [(cI 0),(cI 3),(cI 0),(cI 0),(cI 3),(cI 40)]))]) (rows:=([(⟨0,1,0,0,0,100⟩:aE),(⟨0,2,0,0,0,60⟩:aE),(⟨0,3,0,0,3,40⟩:aE)]).map cG) 0 kJ rfl (by decide) ⟨⟨rfl,rfl⟩,⟨rfl,rfl⟩,⟨rfl,rfl⟩,trivial⟩ rfl rfl rfl rfl) rfl ?_
 have hr0:cC ([(⟨0,1,0,0,0,100⟩:aE),(⟨0,2,0,0,0,60⟩:aE),(⟨0,3,0,0,3,40⟩:aE)])=(cC ([(⟨0,1,0,0,0,100⟩:aE),(⟨0,2,0,0,0,60⟩:aE),(⟨0,3,0,0,3,40⟩:aE)])):=rfl
 refine aL 2 [1] (cv id (aU [1]) (rG ([(⟨0,1,0,0,0,100⟩:aE),(⟨0,2,0,0,0,60⟩:aE),(⟨0,3,0,0,3,40⟩:aE)]) 3 (by first|omega|(simp;done)|(simp;omega)) (by first|omega|(simp;done)|(simp;omega)) (cC ([(⟨0,1,0,0,0,100⟩:aE),(⟨0,2,0,0,0,60⟩:aE),(⟨0,3,0,0,3,40⟩:aE)])) hr0) yI rfl rfl ⟨⟨_,rfl,.inl ⟨rfl,rfl⟩⟩,trivial⟩ ⟨rfl,trivial⟩ rfl rfl rfl rfl rfl rfl trivial ⟨(fun _ _ _ _=>trivial),trivial⟩ rfl rfl rfl rfl) rfl ?_
 refine kF (s':=[(0,(aB false)),(5,(aG [(cR 3 (([(⟨1000,30,1000000000000⟩:cO),(⟨1000,30,1000000000000⟩:cO)]).map fY)),(cI 2),(cI 0)])),(6,(aG [(cI 0),(cI 1),(cI 0),(cI 0),(cI 0),(cI 100)])),(7,(aG [(cI 0),(cI 2),(cI 0),(cI 0),(cI 0),(cI 60)])),(8,(aG [(cI 0),(cI 3),(cI 0),(cI 0),(cI 3),(cI 40)])),(10,(aC (qJ (cC ([(⟨0,1,0,0,0,100⟩:aE),(⟨0,2,0,0,0,60⟩:aE),(⟨0,3,0,0,3,40⟩:aE)])))))]) (h':=[]) 1 rfl ⟨⟨_,rfl,.inl ⟨rfl,rfl⟩⟩,⟨_,rfl,.inl ⟨rfl,rfl⟩⟩,⟨_,rfl,.inl ⟨rfl,rfl⟩⟩,⟨_,rfl,.inl ⟨rfl,rfl⟩⟩,⟨_,rfl,.inl ⟨rfl,rfl⟩⟩,⟨_,rfl,.inr ⟨_,_,rfl,rfl,.s rfl (by decide) (by first|omega|(simp;done)|(simp;omega))⟩⟩,trivial⟩ trivial rfl ?_
 have hr1:gq (⟨[(⟨1000,30,1000000000000⟩:cO),(⟨1000,30,1000000000000⟩:cO)],2,0⟩:Setup) (cC ([(⟨0,1,0,0,0,100⟩:aE),(⟨0,2,0,0,0,60⟩:aE),(⟨0,3,0,0,3,40⟩:aE)]))=((⟨0,false,[⟨60,0,⟨1000,30,1000000000000⟩,[⟨0,60⟩]⟩,⟨0,0,⟨1000,30,1000000000000⟩,[]⟩],[40,0],[⟨0,0,60,40,0,0,100,true⟩],⟨1,[]⟩,⟨0,[]⟩,0,1,[],[],⟨0,[0,0],[]⟩,[⟨0,0,3,40⟩],[⟨0,-100⟩,⟨10,60⟩,⟨50,40⟩]⟩:Bk),[],(gq (⟨[(⟨1000,30,1000000000000⟩:cO),(⟨1000,30,1000000000000⟩:cO)],2,0⟩:Setup) (cC ([(⟨0,1,0,0,0,100⟩:aE),(⟨0,2,0,0,0,60⟩:aE),(⟨0,3,0,0,3,40⟩:aE)]))).2.2.1,(⟨0,0⟩:cP)):=by kernel_rfl
 refine aL 2 [] (bJ 2 (Fn.frozen (av':=(.t [(.g [(cI 0),(cB false),(zd ([⟨60,0,⟨1000,30,1000000000000⟩,[⟨0,60⟩]⟩,⟨0,0,⟨1000,30,1000000000000⟩,[]⟩])),(fC ([40,0])),(uw ([⟨0,0,60,40,0,0,100,true⟩])),(cI 1),(dc ([])),(cI 0),(dc ([])),(cI 0),(cI 1),(ed ([])),(ed ([])),(cI 0),(fC ([0,0])),(gz ([])),(iB ([⟨0,0,3,40⟩])),(zb ([])),(dM ([⟨0,-100⟩,⟨10,60⟩,⟨50,40⟩]))]),(.c (zc ((gq (⟨[(⟨1000,30,1000000000000⟩:cO),(⟨1000,30,1000000000000⟩:cO)],2,0⟩:Setup) (cC ([(⟨0,1,0,0,0,100⟩:aE),(⟨0,2,0,0,0,60⟩:aE),(⟨0,3,0,0,3,40⟩:aE)]))).2.2.1))),(.g [(cI 0),(cI 0)])])) (rK (⟨[(⟨1000,30,1000000000000⟩:cO),(⟨1000,30,1000000000000⟩:cO)],2,0⟩:Setup) (cC ([(⟨0,1,0,0,0,100⟩:aE),(⟨0,2,0,0,0,60⟩:aE),(⟨0,3,0,0,3,40⟩:aE)])) (⟨0,false,[⟨60,0,⟨1000,30,1000000000000⟩,[⟨0,60⟩]⟩,⟨0,0,⟨1000,30,1000000000000⟩,[]⟩],[40,0],[⟨0,0,60,40,0,0,100,true⟩],⟨1,[]⟩,⟨0,[]⟩,0,1,[],[],⟨0,[0,0],[]⟩,[⟨0,0,3,40⟩],[⟨0,-100⟩,⟨10,60⟩,⟨50,40⟩]⟩:Bk) ([]) ((gq (⟨[(⟨1000,30,1000000000000⟩:cO),(⟨1000,30,1000000000000⟩:cO)],2,0⟩:Setup) (cC ([(⟨0,1,0,0,0,100⟩:aE),(⟨0,2,0,0,0,60⟩:aE),(⟨0,3,0,0,3,40⟩:aE)]))).2.2.1) (⟨0,0⟩:cP) hr1) ⟨⟨.inl ⟨_,rfl,rfl⟩,.inl ⟨_,rfl,rfl⟩,.inr ⟨_,_,_,_,_,rfl,rfl,rfl,by simp⟩,.inr ⟨_,_,_,_,_,rfl,rfl,rfl,by simp⟩,.inr ⟨_,_,_,_,_,rfl,rfl,rfl,by simp⟩,.inl ⟨_,rfl,rfl⟩,.inl ⟨_,rfl,rfl⟩,.inl ⟨_,rfl,rfl⟩,.inl ⟨_,rfl,rfl⟩,.inl ⟨_,rfl,rfl⟩,.inl ⟨_,rfl,rfl⟩,.inl ⟨_,rfl,rfl⟩,.inl ⟨_,rfl,rfl⟩,.inl ⟨_,rfl,rfl⟩,.inl ⟨_,rfl,rfl⟩,.inl ⟨_,rfl,rfl⟩,.inr ⟨_,_,_,_,_,rfl,rfl,rfl,by simp⟩,.inr ⟨_,_,_,_,_,rfl,rfl,rfl,by simp⟩,.inl ⟨_,rfl,rfl⟩,trivial⟩,.inr ⟨_,_,_,_,_,rfl,rfl,rfl,by simp⟩,⟨.inl ⟨_,rfl,rfl⟩,.inl ⟨_,rfl,rfl⟩,trivial⟩,trivial⟩) yH rfl rfl ⟨⟨_,rfl,.g ⟨.d _,.d _,.d _,trivial⟩⟩,⟨_,rfl,.c (.d _)⟩,trivial⟩ ⟨⟨trivial,trivial,trivial,trivial,trivial,trivial,trivial,trivial,trivial,trivial,trivial,trivial,trivial,trivial,trivial,trivial,trivial,trivial,trivial,trivial⟩,trivial,⟨trivial,trivial,trivial⟩,trivial⟩ trivial rfl rfl rfl rfl) rfl ?_
 refine ab aa 9 rfl ?_
 refine ae ?_
 refine az aa 2 rfl ?_
 refine ay (aM rfl rfl rfl (show _=some (Value.bool true) from rfl)) rfl ?_
 refine ab aa 3 rfl ?_
 refine dF (ak.yes rfl rfl rfl) (cT rfl rfl rfl rfl rfl Try.underlying29) rfl rfl ?_
 refine dF (ak.yes rfl rfl rfl) (aM rfl rfl rfl (show _=some (Value.bool true) from rfl)) rfl rfl ?_
 refine ab aa 4 rfl ?_
 refine dF (ak.yes rfl rfl rfl) (cT rfl rfl rfl rfl rfl Try.underlying30) rfl rfl ?_
 refine dF (ak.yes rfl rfl rfl) (aM rfl rfl rfl (show _=some (Value.bool true) from rfl)) rfl rfl ?_
 refine ab aa 4 rfl ?_
 refine dF (ak.yes rfl rfl rfl) (cQ (i:=0) rfl rfl rfl Try.underlying29 hY (by first|omega|(simp;done)|(simp;omega)) (bw (show ([⟨60,0,⟨1000,30,1000000000000⟩,[⟨0,60⟩]⟩,⟨0,0,⟨1000,30,1000000000000⟩,[]⟩]:List bx)[0]?=some (⟨60,0,⟨1000,30,1000000000000⟩,[⟨0,60⟩]⟩:bx) from rfl))) rfl rfl ?_
 refine ab aa 2 rfl ?_
 refine dF (ak.yes rfl rfl rfl) (aM rfl rfl rfl (show _=some (Value.bool true) from rfl)) rfl rfl ?_
 refine ab aa 4 rfl ?_
 refine dF (ak.yes rfl rfl rfl) (cQ (i:=0) rfl rfl rfl Try.underlying29 hY (by first|omega|(simp;done)|(simp;omega)) (bw (show ([⟨60,0,⟨1000,30,1000000000000⟩,[⟨0,60⟩]⟩,⟨0,0,⟨1000,30,1000000000000⟩,[]⟩]:List bx)[0]?=some (⟨60,0,⟨1000,30,1000000000000⟩,[⟨0,60⟩]⟩:bx) from rfl))) rfl rfl ?_
 refine ab aa 2 rfl ?_
 refine dF (ak.yes rfl rfl rfl) (aM rfl rfl rfl (show _=some (Value.bool true) from rfl)) rfl rfl ?_
 refine ab aa 4 rfl ?_
 refine dF (ak.yes rfl rfl rfl) (cQ (i:=0) rfl rfl rfl Try.underlying30 fK (by first|omega|(simp;done)|(simp;omega)) (bw (show ([40,0]:List Int)[0]?=some 40 from rfl))) rfl rfl ?_
 refine ab aa 1 rfl ?_
 refine dF (ak.yes rfl rfl rfl) (aM rfl rfl rfl (show _=some (Value.bool true) from rfl)) rfl rfl ?_
 refine ab aa 2 rfl ?_
 refine ae ?_
 refine ar ?_
 refine ah aa [] 0 rfl rfl rfl rfl rfl rfl ?_ ?_
 all_goals first|rfl|(simp [au,aS,aZ];done)|(simp [au,aS,aZ];omega)
end Go.Proofs.Ytegepioggeggaaa.Dev
