/- A part of the proof: BankUp, Bank12, Bank13, Play0, Play1, Top1, Top2, Top3. No condition. -/
import Derived.Test.YtegepioggeggaaaD12
import Derived.Test.YtegepioggeggaaaD13
set_option linter.unusedVariables false
set_option linter.unusedSimpArgs false
set_option maxHeartbeats 8000000
set_option maxRecDepth 100000
namespace Go.Proofs.Ytegepioggeggaaa.Dev
open Go.RowKit

theorem Hs (x:Nat->Value) (hx:∀ i,(x i).oneCell'=true) (b:Bk) (ok:ck b) (b2:Bk) (a2:Answer) (hr:jg b=(b2,a2)):cC Try.prog 68 [(.c (.p 0 0 0 0))] [(0,(.box 98 (aT b 1 2 3 4 (.d (.v (x 17))) (.d (.v (x 19)))))),(1,(dO b.an)),(2,(dG b.due)),(3,(dV b.aq)),(4,(cG b.aO))] [0] (.v (.g [cI a2.err,cI a2.ba])) [(0,(.box 98 (aT b2 1 2 3 4 (.d (.v (x 17))) (.d (.v (x 19)))))),(1,(dO b2.an)),(2,(dG b2.due)),(3,(dV b2.aq)),(4,(cG b2.aO))]:=by
 refine cC.mk 116 [(0,(aC (.p 0 0 0 0)))] 5 Try.func68 rfl rfl rfl rfl rfl rfl rfl rfl rfl ?_
 intro W0 F0 T0 pg
 obtain ⟨okt,okc,okd,oka,oky,okw0,okw1,okp,okv,okk0,okk1,okg,okl0,okl1,okp0,okp1,okn0,okn1,okq⟩:=id ok
 refine ad aa 1 rfl ?_
 refine af ?_
 refine ad aa 6 rfl ?_
 refine ag rfl (fun hc1=>?_) (fun hc1=>?_)
 ·
  have hc1':=hc1;try simp only [bm,bL] at hc1'
  refine ad aa 2 rfl ?_
  refine ar ?_
  refine ao ?_
  have hX:jg b=(b,(⟨8,0⟩:Answer)):=by
    unfold jg;rw [if_pos (by cases hd:b.down<;>simp_all)]
  rw [hX] at hr;clear hX
  simp only [Prod.mk.injEq] at hr;obtain ⟨rfl,rfl⟩:=hr
  refine ah aa [0,1,2,3,4,5] 5 rfl rfl rfl rfl rfl rfl ?_ ?_
  all_goals first|rfl|(simp [au,aT,aX];done)|(simp [au,aT,aX];omega)
 have hc1':=hc1;try simp only [bm,bL] at hc1'
 refine aP ?_
 refine az aa 5 rfl ?_
 obtain ⟨xr0,l0,e0,hr0⟩:∃ (xr0:cu) (l0:List ca) (e0:Int),cQ b.bG=(xr0,l0,e0):=⟨_,_,_,rfl⟩
 refine aL 6 [5,0,1,2,3,4] (bM 6 (Fn.frozen (av':=(.t [(.g [(cI xr0.cap),(fV xr0.used),(gR xr0.aZ)]),(.c (gR l0)),(.c (cI e0))])) (ui b.bG xr0 l0 e0 hr0) ⟨⟨.inl ⟨_,rfl,rfl⟩,.inr ⟨_,_,_,_,_,rfl,rfl,rfl,by simp⟩,.inr ⟨_,_,_,_,_,rfl,rfl,rfl,by simp⟩,trivial⟩,.inr ⟨_,_,_,_,_,rfl,rfl,rfl,by simp⟩,.inl ⟨_,rfl,rfl⟩,trivial⟩) GU rfl rfl ⟨⟨_,rfl,.g ⟨.d _,.d _,.d _,trivial⟩⟩,trivial⟩ ⟨⟨trivial,trivial,trivial,trivial⟩,trivial,trivial,trivial⟩ trivial rfl rfl rfl rfl) rfl ?_
 refine ab aa 8 rfl ?_
 refine ae ?_
 refine af ?_
 refine ad aa 2 rfl ?_
 refine ag rfl (fun hc2=>?_) (fun hc2=>?_)
 ·
  have hc2':=of_decide_eq_true hc2
  refine ad aa 3 rfl ?_
  refine ar ?_
  refine ao ?_
  have hX:jg b=(b,(⟨e0,0⟩:Answer)):=by
    unfold jg;rw [if_neg (by cases hd:b.down<;>simp_all),hr0];dsimp only;rw [if_pos (by omega)]
  rw [hX] at hr;clear hX
  simp only [Prod.mk.injEq] at hr;obtain ⟨rfl,rfl⟩:=hr
  refine ah aa [0,1,2,3,4,5] 5 rfl rfl rfl rfl rfl rfl ?_ ?_
  all_goals first|rfl|(simp [au,aT,aX];done)|(simp [au,aT,aX];omega)
 have hc2':=of_decide_eq_false hc2
 refine aP ?_
 refine az aa 1 rfl ?_
 refine aL 16 [0,7,8,9,10,11,12,13,14,15,6,5] (cw id (aW [0,7,8,9,10,11,12,13,14,15]) (kh (x 17) (x 19) b (by first|omega|(simp;done)|(simp;omega)) (by first|omega|(simp;done)|(simp;omega)) (by first|omega|(simp;done)|(simp;omega)) (by first|omega|(simp;done)|(simp;omega))) qB rfl rfl ⟨⟨_,rfl,.inl ⟨rfl,rfl⟩⟩,trivial⟩ ⟨rfl,rfl,rfl,rfl,rfl,trivial⟩ rfl rfl rfl rfl rfl rfl trivial ⟨⟨trivial,trivial,trivial,trivial,trivial,trivial,trivial,trivial,trivial,trivial,trivial,trivial,trivial,trivial,trivial,trivial,trivial,trivial,trivial,trivial,trivial⟩,⟨trivial,trivial,trivial,trivial,trivial,trivial,trivial,trivial,trivial,trivial,trivial,trivial,trivial,trivial,trivial,trivial,trivial,trivial,trivial,trivial,trivial⟩,(fun _ _ _ _=>trivial),(fun _ _ _ _=>trivial),(fun _ _ _ _=>trivial),(fun _ _ _ _=>trivial),(fun _ _ _ _=>trivial),(fun _ _ _ _=>trivial),(fun _ _ _ _=>trivial),(fun _ _ _ _=>trivial),trivial⟩ rfl rfl rfl rfl) rfl ?_
 refine ab aa 1 rfl ?_
 refine ae ?_
 refine af ?_
 obtain rfl:e0=0:=by omega
 have hcl:l0=b.bG.aZ:=by have h:=(qH (s:=b.bG) (by rw [hr0])).2.2;rw [hr0] at h;exact h
 refine az aa 1 rfl ?_
 refine ay (cO rfl rfl rfl rfl rfl Try.underlying39) rfl ?_
 refine ab aa 1 rfl ?_
 refine ae ?_
 refine aV ?_
 refine cv (β:=Nat×List bx×List bz) (fun (p:Nat×List bx×List bz)=>match p with|(q,cs,xs)=>⟨[(0,(aC (.p 0 0 0 0))),(2,(aC (.p 5 0 0 0))),(3,(aC (.p 6 0 0 0))),(6,(aC (.p 7 0 0 0))),(36,(aC (gR l0))),(37,(aI (↑l0.length:Int))),(38,(aI (↑q:Int)))],[(0,(.box 98 (aT b 8 9 10 11 (.d (.v (x 17))) (.d (.v (x 19)))))),(7,(.box 147 (((aT b 12 13 14 15 (.d (.v (x 17))) (cI 0)).set 2 (.s 12 0 6 cs.length)).set 4 (.s 14 0 8 xs.length)))),(8,(dO b.an)),(9,(dG b.due)),(10,(dV b.aq)),(11,(cG b.aO)),(12,(dO cs)),(13,(dG b.due)),(14,(dV xs)),(15,(cG b.aO)),(6,(.box 41 [(cI xr0.cap),(fV xr0.used),(gR xr0.aZ)])),(5,(.box 65 [(cI 0),(cI 0)]))],16⟩) (fun (p:Nat×List bx×List bz)=>match p with|(q,cs,xs)=>q<=l0.length/\gh l0 b.an b.aq=gh (l0.drop q) cs xs/\cs.length=b.an.length/\xs.length=b.aq.length+q) (fun (p:Nat×List bx×List bz)=>match p with|(q,cs,xs)=>l0.length - q) (0,b.an,b.aq) ?_ ?_ ?_
 ·exact ⟨by omega,rfl,rfl,rfl⟩
 ·exact aD.bZ id (by refine ⟨?_,?_,?_,?_,?_,?_,?_,trivial⟩<;>first|rfl|(simp only [bn];done)|(congr 3;omega)|(congr 4;omega)|(simp only [bo];rfl)) (by refine ⟨?_,?_,?_,?_,?_,?_,?_,?_,?_,?_,?_,?_,trivial⟩<;>first|rfl|(simp only [bn];done)|(congr 3;omega)|(congr 4;omega)|(simp only [bo];rfl)) rfl
 rintro ⟨q,cs,xs⟩ ⟨hi0_0,hi0_1,hi0_2,hi0_3⟩
 have hll:b.aq.length+l0.length<=30:=by rw [hcl];exact oka
 refine ad aa 1 rfl ?_
 refine af ?_
 refine ag rfl (fun hc3=>?_) (fun hc3=>?_)
 ·
  have hc3':=of_decide_eq_true hc3
  refine aP ?_
  refine af ?_
  refine aV ?_
  refine eJ ?_
  obtain ⟨x1,hx1⟩:=cp (xs:=l0) (i:=q) (by first|omega|(simp;done)|(simp;omega))
  have hx1A:=okv x1 (by rw [<-hcl];exact List.mem_of_getElem? hx1)
  refine ay (cU (i:=q) rfl rfl rfl Try.underlying39 CJ (by first|omega|(simp;done)|(simp;omega)) (bw hx1)) rfl ?_
  refine ab aa 3 rfl ?_
  refine ae ?_
  refine az aa 8 rfl ?_
  obtain ⟨b1,e1,hr1⟩:∃ (b1:bz) (e1:Int),cY x1.aJ x1.ax x1.sum x1.time=(b1,e1):=⟨_,_,rfl⟩
  refine aL 17 [16,0,7,8,9,10,11,12,13,14,15,6,5] (bM 17 (rP x1.aJ x1.ax x1.sum x1.time b1 e1 hr1) ER rfl rfl ⟨⟨_,rfl,.c (.d _)⟩,⟨_,rfl,.c (.d _)⟩,⟨_,rfl,.c (.d _)⟩,⟨_,rfl,.c (.d _)⟩,trivial⟩ ⟨⟨trivial,trivial,trivial,trivial,trivial,trivial,trivial,trivial,trivial⟩,trivial,trivial⟩ trivial rfl rfl rfl rfl) rfl ?_
  refine ab aa 6 rfl ?_
  refine ae ?_
  refine af ?_
  refine az aa 2 rfl ?_
  obtain ⟨e22,hr2⟩:∃ (e22:Int),dt 0 e1=e22:=⟨_,rfl⟩
  refine aL 18 [7,17,16,0,8,9,10,11,12,13,14,15,6,5] (cg (aW [7]) (aW [7]) (ms:=(du.set 19 (some (cI 0)))) (ms':=(du.set 19 (some (cI e22)))) (fun x hx=>jO x hx 0 e1 e22 hr2) nD rfl rfl ⟨⟨_,rfl,.inl ⟨rfl,rfl⟩⟩,⟨_,rfl,.inr (.c (.d _))⟩,trivial⟩ rfl rfl rfl rfl rfl rfl rfl trivial rfl rfl rfl rfl rfl rfl rfl rfl rfl rfl rfl rfl rfl) rfl ?_
  refine ae ?_
  refine ag rfl (fun hc4=>?_) (fun hc4=>?_)
  ·
   have hc4':=of_decide_eq_true hc4
   refine cm ?_
   refine aQ ?_
   refine rT rfl ?_
   refine aQ ?_
   refine aQ ?_
   refine bO ?_
   refine then_ok ?_
   refine ad aa 11 rfl ?_
   refine af ?_
   refine az aa 2 rfl ?_
   refine aL 22 [0,18,19,20,21,17,16,6,5] (cw (aW [0,7,8,9,10,11,12,13,14,15]) (aW [0,18,19,20,21]) (fS (x 17) (x 19) b (⟨b.time,false,cs,b.due,xs,b.s0,b.s1,b.n0,b.n1,b.w0,b.w1,xr0,b.aO,b.book⟩:Bk) e22 (by first|assumption|omega)) fD rfl rfl ⟨⟨_,rfl,.inl ⟨rfl,rfl⟩⟩,⟨_,rfl,.inl ⟨rfl,rfl⟩⟩,trivial⟩ ⟨rfl,rfl,rfl,rfl,rfl,rfl,rfl,rfl,rfl,rfl,trivial⟩ rfl rfl rfl rfl rfl rfl trivial ⟨⟨trivial,trivial,trivial,trivial,trivial,trivial,trivial,trivial,trivial,trivial,trivial,trivial,trivial,trivial,trivial,trivial,trivial,trivial,trivial,trivial,trivial⟩,(fun _ _ _ _=>trivial),(fun _ _ _ _=>trivial),(fun _ _ _ _=>trivial),(fun _ _ _ _=>trivial),trivial⟩ rfl rfl rfl rfl) rfl ?_
   refine ab aa 1 rfl ?_
   refine ae ?_
   refine ad aa 2 rfl ?_
   refine ag rfl (fun _=>?_) (fun hno=>absurd (hc4.symm.trans hno) (by decide))
   refine ad aa 3 rfl ?_
   refine ar ?_
   refine ao ?_
   have hX:jg b=(b,(⟨e22,0⟩:Answer)):=by
     exact zj (by cases hd:b.down<;>simp_all) hr0 (hi0_1.trans (Bg hx1 hr1 hr2 (by omega))) (by omega)
   rw [hX] at hr;clear hX
   simp only [Prod.mk.injEq] at hr;obtain ⟨rfl,rfl⟩:=hr
   refine ah aa [0,18,19,20,21,5] 5 rfl rfl rfl rfl rfl rfl ?_ ?_
   all_goals first|rfl|(simp [au,aT,aX];done)|(simp [au,aT,aX];omega)
  have hc4':=of_decide_eq_false hc4
  refine aP ?_
  obtain rfl:e22=0:=by omega
  refine af ?_
  obtain ⟨x2,hx2⟩:=cp (xs:=cs) (i:=Int.toNat (x1.aJ)) (by first|omega|(simp;done)|(simp;omega))
  obtain ⟨xr3,e3,hr3⟩:∃ (xr3:bx) (e3:Int),eO x2 x1.sum=(xr3,e3):=⟨_,_,rfl⟩
  refine cW [0,2,3,6,36,37,38,8,9] [7,17,16,0,8,9,10,11,12,13,14,15,6,5] mixed rfl rfl ?_
  refine bR (kn:=[]) aa 7 rfl trivial ?_
  refine bV (n':=18) [62,64] [12] rfl rfl (.inl ⟨(al.plain rfl),aH.cast (bq (i:=Int.toNat (x1.aJ)) rfl rfl rfl Try.underlying29 iB (by first|omega|(simp;done)|(simp;omega)) (by first|omega|(simp;done)|(simp;omega))) rfl⟩) rfl ?_
  refine bV (n':=18) [65] [12] rfl rfl (.inl ⟨(al.plain rfl),aH.cast (da rfl rfl rfl Try.underlying61 rfl iB (bw hx2) rfl) rfl⟩) rfl ?_
  refine bR (kn:=[]) aa 2 rfl trivial ?_
  refine bV (n':=18) [66,68] [] rfl rfl (.inl ⟨(al.plain rfl),aH.cast (bM 18 (Fn.frozen (av':=(.t [(.g [(cI xr3.bf),(cI xr3.held),(cI xr3.bY.cH),(cI xr3.bY.count),(cI xr3.bY.sum),(ft xr3.cD)]),(.c (cI e3))])) (vW x2 x1.sum xr3 e3 hr3) ⟨⟨.inl ⟨_,rfl,rfl⟩,.inl ⟨_,rfl,rfl⟩,.inl ⟨_,rfl,rfl⟩,.inl ⟨_,rfl,rfl⟩,.inl ⟨_,rfl,rfl⟩,.inr ⟨_,_,_,_,_,rfl,rfl,rfl,by simp⟩,trivial⟩,.inl ⟨_,rfl,rfl⟩,trivial⟩) GS rfl rfl ⟨⟨_,rfl,.g ⟨.d _,.d _,.d _,.d _,.d _,.d _,trivial⟩⟩,⟨_,rfl,.c (.d _)⟩,trivial⟩ ⟨⟨trivial,trivial,trivial,trivial,trivial,trivial,trivial⟩,trivial,trivial⟩ trivial rfl rfl rfl rfl) rfl⟩) rfl ?_
  refine bR (n':=19) (kn:=[]) aa 6 rfl trivial ?_
  refine dP [0,2,3,6,36,37,38,8,9,11,10] [18,7,17,16,0,8,9,10,11,12,13,14,15,6,5] rfl rfl (by kernel_rfl) ?_
  refine then_ok ?_
  refine af ?_
  refine az aa 2 rfl ?_
  obtain ⟨e24,hr4⟩:∃ (e24:Int),dt 0 e3=e24:=⟨_,rfl⟩
  refine aL 19 [7,18,17,16,0,8,9,10,11,12,13,14,15,6,5] (cg (aW [7]) (aW [7]) (ms:=(du.set 19 (some (cI 0)))) (ms':=(du.set 19 (some (cI e24)))) (fun x hx=>jO x hx 0 e3 e24 hr4) nD rfl rfl ⟨⟨_,rfl,.inl ⟨rfl,rfl⟩⟩,⟨_,rfl,.inr (.c (.d _))⟩,trivial⟩ rfl rfl rfl rfl rfl rfl rfl trivial rfl rfl rfl rfl rfl rfl rfl rfl rfl rfl rfl rfl rfl) rfl ?_
  refine ae ?_
  refine ag rfl (fun hc6=>?_) (fun hc6=>?_)
  ·
   have hc6':=of_decide_eq_true hc6
   refine cm ?_
   refine aQ ?_
   refine rT rfl ?_
   refine aQ ?_
   refine aQ ?_
   refine bO ?_
   refine then_ok ?_
   refine ad aa 11 rfl ?_
   refine af ?_
   refine az aa 2 rfl ?_
   refine aL 23 [0,19,20,21,22,18,17,16,6,5] (cw (aW [0,7,8,9,10,11,12,13,14,15]) (aW [0,19,20,21,22]) (fS (x 17) (x 19) b (⟨b.time,false,cs,b.due,xs,b.s0,b.s1,b.n0,b.n1,b.w0,b.w1,xr0,b.aO,b.book⟩:Bk) e24 (by first|assumption|omega)) fD rfl rfl ⟨⟨_,rfl,.inl ⟨rfl,rfl⟩⟩,⟨_,rfl,.inl ⟨rfl,rfl⟩⟩,trivial⟩ ⟨rfl,rfl,rfl,rfl,rfl,rfl,rfl,rfl,rfl,rfl,trivial⟩ rfl rfl rfl rfl rfl rfl trivial ⟨⟨trivial,trivial,trivial,trivial,trivial,trivial,trivial,trivial,trivial,trivial,trivial,trivial,trivial,trivial,trivial,trivial,trivial,trivial,trivial,trivial,trivial⟩,(fun _ _ _ _=>trivial),(fun _ _ _ _=>trivial),(fun _ _ _ _=>trivial),(fun _ _ _ _=>trivial),trivial⟩ rfl rfl rfl rfl) rfl ?_
   refine ab aa 1 rfl ?_
   refine ae ?_
   refine ad aa 2 rfl ?_
   refine ag rfl (fun _=>?_) (fun hno=>absurd (hc6.symm.trans hno) (by decide))
   refine ad aa 3 rfl ?_
   refine ar ?_
   refine ao ?_
   have hX:jg b=(b,(⟨e24,0⟩:Answer)):=by
     exact zj (by cases hd:b.down<;>simp_all) hr0 (hi0_1.trans (Bf hx1 hr1 hr2 hx2 hr3 hr4 (by omega))) (by omega)
   rw [hX] at hr;clear hX
   simp only [Prod.mk.injEq] at hr;obtain ⟨rfl,rfl⟩:=hr
   refine ah aa [0,19,20,21,22,5] 5 rfl rfl rfl rfl rfl rfl ?_ ?_
   all_goals first|rfl|(simp [au,aT,aX];done)|(simp [au,aT,aX];omega)
  have hc6':=of_decide_eq_false hc6
  refine aP ?_
  obtain rfl:e24=0:=by omega
  refine af ?_
  refine bb [0,2,3,6,36,37,38,8,9,11] [7,18,17,16,0,8,9,10,11,12,13,14,15,6,5] mixed rfl rfl ?_
  refine aA (kn:=[]) aa 8 rfl trivial ?_
  refine aU (n':=19) [79,81] [12] rfl rfl (.inl ⟨(al.plain rfl),aH.cast (bq (i:=Int.toNat (x1.aJ)) rfl rfl rfl Try.underlying29 iB (by first|omega|(simp;done)|(simp;omega)) (by first|omega|(simp;done)|(simp;omega))) rfl⟩) rfl ?_
  refine bB [7,18,17,16,0,8,9,10,11,12,13,14,15,6,5] rfl rfl rfl rfl (by kernel_rfl) ?_
  refine gf [7,18,17,16,0,8,9,10,11,12,13,14,15,6,5] (dM (ds:=[(dI xr3.bf),(dI xr3.held),(dI xr3.bY.cH),(dI xr3.bY.count),(dI xr3.bY.sum),(Fc xr3.cD)]) rfl rfl rfl rfl rfl iB rfl (Nat.le_of_ble_eq_true rfl) (bw hx2) rfl (eL (x':=xr3) rfl)) rfl ?_
  refine ae ?_
  refine fx (k:=7) (q:=2) (c':=(.s 12 0 6 (((cs).set (Int.toNat (x1.aJ)) xr3).length))) rfl rfl (by first|rfl|(simp;done)|(congr 1;omega)) rfl ?_
  refine bb [0,2,3,6,36,37,38,9] [7,17,0,8,9,10,11,12,13,14,15,6,5] mixed rfl rfl ?_
  refine aA (kn:=[]) aa 7 rfl trivial ?_
  refine aU (n':=20) [90] [] rfl rfl (.inl ⟨(al.plain rfl),aH.cast (dC (ys:=[(0,(.g [(cI b1.aJ),(cI b1.ax),(cI b1.sum),(cI b1.captured),(cI b1.bu),(cI b1.bh),(cI b1.cM),(cB b1.shut)]))]) (rows:=([b1]).map iS) 19 se rfl (by decide) ⟨⟨rfl,rfl⟩,trivial⟩ rfl rfl rfl rfl) rfl⟩) rfl ?_
  refine aU (n':=21) [89,91] [19,14] rfl rfl (.inl ⟨(al.plain rfl),aH.cast (db (m:=1) (N:=xs.length+1) (k2:=20) (ys:=([b1]).map iS) se rfl rfl rfl rfl rfl rfl (by first|omega|(simp;done)|(simp;omega)) rfl (.s rfl (by first|omega|(simp;done)|(simp;omega))) (by first|omega|(simp;done)|(simp;omega)) (by first|omega|(simp;done)|(simp;omega)) eT (by decide) (by first|omega|(simp;done)|(simp;omega)) (by first|omega|(simp;done)|(simp;omega))) rfl⟩) rfl ?_
  refine aA (kn:=[]) aa 3 rfl trivial ?_
  refine bB [20,7,17,0,8,9,10,11,12,13,15,6,5] rfl rfl rfl rfl (by kernel_rfl) ?_
  refine ab aa 1 rfl ?_
  refine bX ?_
  refine bl ?_
  refine then_ok ?_
  refine fx (k:=7) (q:=4) (c':=(.s 20 0 8 ((xs++([b1])).length))) rfl rfl (by first|rfl|(simp;done)|(congr 1;omega)) rfl ?_
  refine aw ?_
  refine ay (aK rfl rfl rfl (aF (by first|omega|(simp;done)|(simp;omega)))) rfl ?_
  refine ab aa 1 rfl ?_
  refine ae ?_
  refine ⟨(q+1,(cs).set (Int.toNat (x1.aJ)) xr3,xs++([b1])),⟨by omega,by rw [hi0_1];exact Be hx1 hr1 hr2 hx2 hr3 hr4,by rw [List.length_set];omega,by rw [List.length_append,List.length_singleton];omega⟩,by first|omega|(simp;done)|(simp;omega),aD.bZ (fun k=>if k=14 then 20 else k) (by refine ⟨?_,?_,?_,?_,?_,?_,?_,trivial⟩<;>first|rfl|(simp only [bn];done)|(congr 3;omega)|(congr 4;omega)|(simp only [bo];rfl)) (by refine ⟨?_,?_,?_,?_,?_,?_,?_,?_,?_,?_,?_,?_,trivial⟩<;>first|rfl|(simp only [bn];done)|(congr 3;omega)|(congr 4;omega)|(simp only [bo];rfl)) rfl⟩
 have hc3':=of_decide_eq_false hc3
 refine cm ?_
 refine aQ ?_
 refine aQ ?_
 refine bO ?_
 refine then_ok ?_
 refine ad aa 11 rfl ?_
 refine af ?_
 refine az aa 2 rfl ?_
 refine aL 20 [0,16,17,18,19,6,5] (cw (aW [0,7,8,9,10,11,12,13,14,15]) (aW [0,16,17,18,19]) (fg (x 17) (x 19) b (⟨b.time,false,cs,b.due,xs,b.s0,b.s1,b.n0,b.n1,b.w0,b.w1,xr0,b.aO,b.book⟩:Bk) 0 (by first|assumption|omega)) fD rfl rfl ⟨⟨_,rfl,.inl ⟨rfl,rfl⟩⟩,⟨_,rfl,.inl ⟨rfl,rfl⟩⟩,trivial⟩ ⟨rfl,rfl,rfl,rfl,rfl,rfl,rfl,rfl,rfl,rfl,trivial⟩ rfl rfl rfl rfl rfl rfl trivial ⟨⟨trivial,trivial,trivial,trivial,trivial,trivial,trivial,trivial,trivial,trivial,trivial,trivial,trivial,trivial,trivial,trivial,trivial,trivial,trivial,trivial,trivial⟩,(fun _ _ _ _=>trivial),(fun _ _ _ _=>trivial),(fun _ _ _ _=>trivial),(fun _ _ _ _=>trivial),trivial⟩ rfl rfl rfl rfl) rfl ?_
 refine ab aa 1 rfl ?_
 refine ae ?_
 refine az aa 1 rfl ?_
 refine ay (aK rfl rfl rfl (show _=some (Value.bool false) from rfl)) rfl ?_
 refine ae ?_
 refine ag rfl (fun hno=>by cases hno) (fun _=>?_)
 refine aP ?_
 have hL:=hi0_1;rw [Df (by omega)] at hL
 have okU:=ok.FA hr0 hL
 refine az aa 1 rfl ?_
 obtain ⟨b25,hr5⟩:∃ (b25:Bk),gP (⟨b.time,false,cs,b.due,xs,b.s0,b.s1,b.n0,b.n1,b.w0,b.w1,xr0,b.aO,b.book⟩:Bk)=b25:=⟨_,rfl⟩
 refine aL 24 [0,20,21,22,23,6,5] (cg (aW [0,16,17,18,19]) (aW [0,20,21,22,23]) (ms:=[some (cI b.time),some (cB false),some (.s 1 0 6 cs.length),some (.s 2 0 1 b.due.length),some (.s 3 0 8 xs.length),some (cI b.s0.bF),some (dd b.s0.kept),some (cI b.s1.bF),some (dd b.s1.kept),some (cI b.n0),some (cI b.n1),some (eo b.w0),some (eo b.w1),some (cI xr0.cap),some (fV xr0.used),some (gR xr0.aZ),some (.s 4 0 4 b.aO.length),none,some (dT b.book),none]) (ms':=(ja b25 1 2 3 4 none none)) (fun x hx=>Ax x hx (⟨b.time,false,cs,b.due,xs,b.s0,b.s1,b.n0,b.n1,b.w0,b.w1,xr0,b.aO,b.book⟩:Bk) (by first|assumption|exact ck.tick (by assumption) (by omega) (by omega)) b25 hr5) EP rfl rfl ⟨⟨_,rfl,.inl ⟨rfl,rfl⟩⟩,trivial⟩ rfl rfl rfl rfl rfl rfl rfl ⟨rfl,rfl,rfl,rfl,trivial⟩ rfl rfl rfl rfl rfl rfl rfl rfl rfl rfl rfl rfl rfl) rfl ?_
 refine ae ?_
 refine ad aa 2 rfl ?_
 refine ar ?_
 have hX:jg b=(b25,(⟨0,0⟩:Answer)):=by
   rw [DR (by cases hd:b.down<;>simp_all) hr0 hL,hr5]
 rw [hX] at hr;clear hX
 simp only [Prod.mk.injEq] at hr;obtain ⟨rfl,rfl⟩:=hr
 refine ah aa [0,20,21,22,23,5] 5 rfl rfl rfl rfl rfl rfl ?_ ?_
 all_goals first|rfl|(simp [au,aT,aX];done)|(simp [au,aT,aX];omega)

theorem Ht (x:Nat->Value) (hx:∀ i,(x i).oneCell'=true) (b:Bk) (days:List (List Int)) (d:aS) (ok:ck b) (hy:days.length<=1000) (b2:Bk) (y2:List (List Int)) (a2:Answer) (hr:dc b days d=(b2,y2,a2)):cC Try.prog 56 [(.c (.p 0 0 0 0)),(.c (.q (cL d) 0))] [(0,(.box 98 (aT b 1 2 3 4 (.s 5 0 1 days.length) (.d (.v (x 19)))))),(1,(dO b.an)),(2,(dG b.due)),(3,(dV b.aq)),(4,(cG b.aO)),(5,(pZ days))] [0] (.v (.g [cI a2.err,cI a2.ba])) [(0,(.box 98 (aT b2 1 2 3 4 (.s 5 0 1 y2.length) (.d (.v (x 19)))))),(1,(dO b2.an)),(2,(dG b2.due)),(3,(dV b2.aq)),(4,(cG b2.aO)),(5,(pZ y2))]:=by
 refine cC.mk 67 [(0,(aC (.p 0 0 0 0))),(1,(aC (.q (cL d) 0)))] 6 Try.func56 rfl rfl rfl rfl rfl rfl rfl rfl rfl ?_
 intro W0 F0 T0 pg
 obtain ⟨okt,okc,okd,oka,oky,okw0,okw1,okp,okv,okk0,okk1,okg,okl0,okl1,okp0,okp1,okn0,okn1,okq⟩:=id ok
 refine ad aa 1 rfl ?_
 refine af ?_
 refine ad aa 4 rfl ?_
 refine aV ?_
 refine ad aa 2 rfl ?_
 refine ag rfl (fun hc1=>?_) (fun hc1=>?_)
 ·
  have hc1':=of_decide_eq_true hc1
  refine az aa 2 rfl ?_
  obtain ⟨b20,a20,hr0⟩:∃ (b20:Bk) (a20:Answer),fA b d=(b20,a20):=⟨_,_,rfl⟩
  refine aL 11 [0,7,8,9,10,6,5] (cg id (aW [0,7,8,9,10]) (ms:=(ja b 1 2 3 4 none none)) (ms':=(ja b20 1 2 3 4 none none)) (fun x hx=>Fk x hx b d (by first|assumption|exact ck.tick (by assumption) (by omega) (by omega)) b20 a20 hr0) Hh rfl rfl ⟨⟨_,rfl,.inl ⟨rfl,rfl⟩⟩,⟨_,rfl,.inl ⟨rfl,rfl⟩⟩,trivial⟩ rfl rfl rfl rfl rfl rfl rfl ⟨rfl,rfl,rfl,rfl,trivial⟩ rfl rfl rfl rfl rfl rfl rfl rfl rfl rfl rfl rfl rfl) rfl ?_
  refine ab aa 1 rfl ?_
  refine ae ?_
  refine ar ?_
  refine bg ?_
  refine ao ?_
  have hX:dc b days d=(b20,days,a20):=by
    unfold dc;(repeat' (first|rw [if_pos (by omega)]|rw [if_neg (by omega)]|fail))<;>first|rfl|(simp only [hr0];done)|(simp only [hr0];rfl)|(simp_all;done)
  rw [hX] at hr;clear hX
  simp only [Prod.mk.injEq] at hr;obtain ⟨rfl,rfl,rfl⟩:=hr
  refine ah aa [0,7,8,9,10,5,6] 6 rfl rfl rfl rfl rfl rfl ?_ ?_
  all_goals first|rfl|(simp [au,aT,aX];done)|(simp [au,aT,aX];omega)
 have hc1':=of_decide_eq_false hc1
 refine ad aa 2 rfl ?_
 refine ag rfl (fun hc2=>?_) (fun hc2=>?_)
 ·
  have hc2':=of_decide_eq_true hc2
  refine az aa 2 rfl ?_
  obtain ⟨b21,a21,hr1⟩:∃ (b21:Bk) (a21:Answer),dD b d=(b21,a21):=⟨_,_,rfl⟩
  refine aL 11 [0,7,8,9,10,6,5] (cg id (aW [0,7,8,9,10]) (ms:=(ja b 1 2 3 4 none none)) (ms':=(ja b21 1 2 3 4 none none)) (fun x hx=>Gl x hx b d (by first|assumption|exact ck.tick (by assumption) (by omega) (by omega)) b21 a21 hr1) Hg rfl rfl ⟨⟨_,rfl,.inl ⟨rfl,rfl⟩⟩,⟨_,rfl,.inl ⟨rfl,rfl⟩⟩,trivial⟩ rfl rfl rfl rfl rfl rfl rfl ⟨rfl,rfl,rfl,rfl,trivial⟩ rfl rfl rfl rfl rfl rfl rfl rfl rfl rfl rfl rfl rfl) rfl ?_
  refine ab aa 1 rfl ?_
  refine ae ?_
  refine ar ?_
  refine bg ?_
  refine ao ?_
  have hX:dc b days d=(b21,days,a21):=by
    unfold dc;(repeat' (first|rw [if_pos (by omega)]|rw [if_neg (by omega)]|fail))<;>first|rfl|(simp only [hr1];done)|(simp only [hr1];rfl)|(simp_all;done)
  rw [hX] at hr;clear hX
  simp only [Prod.mk.injEq] at hr;obtain ⟨rfl,rfl,rfl⟩:=hr
  refine ah aa [0,7,8,9,10,5,6] 6 rfl rfl rfl rfl rfl rfl ?_ ?_
  all_goals first|rfl|(simp [au,aT,aX];done)|(simp [au,aT,aX];omega)
 have hc2':=of_decide_eq_false hc2
 refine ad aa 2 rfl ?_
 refine ag rfl (fun hc3=>?_) (fun hc3=>?_)
 ·
  have hc3':=of_decide_eq_true hc3
  refine az aa 2 rfl ?_
  obtain ⟨b22,a22,hr2⟩:∃ (b22:Bk) (a22:Answer),dv b d=(b22,a22):=⟨_,_,rfl⟩
  refine aL 11 [0,7,8,9,10,6,5] (cg id (aW [0,7,8,9,10]) (ms:=(ja b 1 2 3 4 none none)) (ms':=(ja b22 1 2 3 4 none none)) (fun x hx=>Cs x hx b d (by first|assumption|exact ck.tick (by assumption) (by omega) (by omega)) b22 a22 hr2) Hf rfl rfl ⟨⟨_,rfl,.inl ⟨rfl,rfl⟩⟩,⟨_,rfl,.inl ⟨rfl,rfl⟩⟩,trivial⟩ rfl rfl rfl rfl rfl rfl rfl ⟨rfl,rfl,rfl,rfl,trivial⟩ rfl rfl rfl rfl rfl rfl rfl rfl rfl rfl rfl rfl rfl) rfl ?_
  refine ab aa 1 rfl ?_
  refine ae ?_
  refine ar ?_
  refine bg ?_
  refine ao ?_
  have hX:dc b days d=(b22,days,a22):=by
    unfold dc;(repeat' (first|rw [if_pos (by omega)]|rw [if_neg (by omega)]|fail))<;>first|rfl|(simp only [hr2];done)|(simp only [hr2];rfl)|(simp_all;done)
  rw [hX] at hr;clear hX
  simp only [Prod.mk.injEq] at hr;obtain ⟨rfl,rfl,rfl⟩:=hr
  refine ah aa [0,7,8,9,10,5,6] 6 rfl rfl rfl rfl rfl rfl ?_ ?_
  all_goals first|rfl|(simp [au,aT,aX];done)|(simp [au,aT,aX];omega)
 have hc3':=of_decide_eq_false hc3
 refine ad aa 2 rfl ?_
 refine ag rfl (fun hc4=>?_) (fun hc4=>?_)
 ·
  have hc4':=of_decide_eq_true hc4
  refine az aa 2 rfl ?_
  obtain ⟨b23,a23,hr3⟩:∃ (b23:Bk) (a23:Answer),fm b d=(b23,a23):=⟨_,_,rfl⟩
  refine aL 11 [0,7,8,9,10,6,5] (cg id (aW [0,7,8,9,10]) (ms:=(ja b 1 2 3 4 none none)) (ms':=(ja b23 1 2 3 4 none none)) (fun x hx=>Ff x hx b d (by first|assumption|exact ck.tick (by assumption) (by omega) (by omega)) b23 a23 hr3) He rfl rfl ⟨⟨_,rfl,.inl ⟨rfl,rfl⟩⟩,⟨_,rfl,.inl ⟨rfl,rfl⟩⟩,trivial⟩ rfl rfl rfl rfl rfl rfl rfl ⟨rfl,rfl,rfl,rfl,trivial⟩ rfl rfl rfl rfl rfl rfl rfl rfl rfl rfl rfl rfl rfl) rfl ?_
  refine ab aa 1 rfl ?_
  refine ae ?_
  refine ar ?_
  refine bg ?_
  refine ao ?_
  have hX:dc b days d=(b23,days,a23):=by
    unfold dc;(repeat' (first|rw [if_pos (by omega)]|rw [if_neg (by omega)]|fail))<;>first|rfl|(simp only [hr3];done)|(simp only [hr3];rfl)|(simp_all;done)
  rw [hX] at hr;clear hX
  simp only [Prod.mk.injEq] at hr;obtain ⟨rfl,rfl,rfl⟩:=hr
  refine ah aa [0,7,8,9,10,5,6] 6 rfl rfl rfl rfl rfl rfl ?_ ?_
  all_goals first|rfl|(simp [au,aT,aX];done)|(simp [au,aT,aX];omega)
 have hc4':=of_decide_eq_false hc4
 refine ad aa 2 rfl ?_
 refine ag rfl (fun hc5=>?_) (fun hc5=>?_)
 ·
  have hc5':=of_decide_eq_true hc5
  refine az aa 2 rfl ?_
  obtain ⟨v04,v14,a24,hr4⟩:∃ (v04:List bU) (v14:List bU) (a24:Answer),ez b.s0 b.s1 b.n0 b.n1 b.w0 b.w1 d=(v04,v14,a24):=⟨_,_,_,rfl⟩
  refine aL 7 [0,6,1,2,3,4,5] (cg id id (ms:=[none,none,none,none,none,some (cI b.s0.bF),some (dd b.s0.kept),some (cI b.s1.bF),some (dd b.s1.kept),some (cI b.n0),some (cI b.n1),some (eo b.w0),some (eo b.w1),none,none,none,none,none,none,none]) (ms':=[none,none,none,none,none,some (cI b.s0.bF),some (dd b.s0.kept),some (cI b.s1.bF),some (dd b.s1.kept),some (cI b.n0),some (cI b.n1),some (eo v04),some (eo v14),none,none,none,none,none,none,none]) (fun x hx=>DH x hx b.s0 b.s1 b.n0 b.n1 b.w0 b.w1 d (by first|omega|(simp;done)|(simp;omega)) (by first|omega|(simp;done)|(simp;omega)) (by first|omega|(simp;done)|(simp;omega)) (by first|omega|(simp;done)|(simp;omega)) v04 v14 a24 hr4) Hd rfl rfl ⟨⟨_,rfl,.inl ⟨rfl,rfl⟩⟩,⟨_,rfl,.inl ⟨rfl,rfl⟩⟩,trivial⟩ rfl rfl rfl rfl rfl rfl rfl trivial rfl rfl rfl rfl rfl rfl rfl rfl rfl rfl rfl rfl rfl) rfl ?_
  refine ab aa 1 rfl ?_
  refine ae ?_
  refine ar ?_
  refine bg ?_
  refine ao ?_
  have hX:dc b days d=((⟨b.time,b.down,b.an,b.due,b.aq,b.s0,b.s1,b.n0,b.n1,v04,v14,b.bG,b.aO,b.book⟩:Bk),days,a24):=by
    unfold dc;(repeat' (first|rw [if_pos (by omega)]|rw [if_neg (by omega)]|fail))<;>first|rfl|(simp only [hr4];done)|(simp only [hr4];rfl)|(simp_all;done)
  rw [hX] at hr;clear hX
  simp only [Prod.mk.injEq] at hr;obtain ⟨rfl,rfl,rfl⟩:=hr
  refine ah aa [0,1,2,3,4,5,6] 6 rfl rfl rfl rfl rfl rfl ?_ ?_
  all_goals first|rfl|(simp [au,aT,aX];done)|(simp [au,aT,aX];omega)
 have hc5':=of_decide_eq_false hc5
 refine af ?_
 refine ad aa 2 rfl ?_
 refine ag rfl (fun hc6=>?_) (fun hc6=>?_)
 ·
  have hc6':=of_decide_eq_true hc6
  refine aP ?_
  refine ag rfl (fun _=>?_) (fun hno=>absurd (hc6.symm.trans hno) (by decide))
  refine az aa 2 rfl ?_
  obtain ⟨b25,a25,hr5⟩:∃ (b25:Bk) (a25:Answer),bQ b d=(b25,a25):=⟨_,_,rfl⟩
  refine aL 11 [0,7,8,9,10,6,5] (cg id (aW [0,7,8,9,10]) (ms:=(ja b 1 2 3 4 none none)) (ms':=(ja b25 1 2 3 4 none none)) (fun x hx=>wa x hx b d (by assumption) b25 a25 hr5) ET rfl rfl ⟨⟨_,rfl,.inl ⟨rfl,rfl⟩⟩,⟨_,rfl,.inl ⟨rfl,rfl⟩⟩,trivial⟩ rfl rfl rfl rfl rfl rfl rfl ⟨rfl,rfl,rfl,rfl,trivial⟩ rfl rfl rfl rfl rfl rfl rfl rfl rfl rfl rfl rfl rfl) rfl ?_
  refine ab aa 1 rfl ?_
  refine ae ?_
  refine ar ?_
  refine bg ?_
  refine ao ?_
  have hX:dc b days d=(b25,days,a25):=by
    unfold dc;(repeat' (first|rw [if_pos (by omega)]|rw [if_neg (by omega)]|fail))<;>first|rfl|(simp only [hr5];done)|(simp only [hr5];rfl)|(simp_all;done)
  rw [hX] at hr;clear hX
  simp only [Prod.mk.injEq] at hr;obtain ⟨rfl,rfl,rfl⟩:=hr
  refine ah aa [0,7,8,9,10,5,6] 6 rfl rfl rfl rfl rfl rfl ?_ ?_
  all_goals first|rfl|(simp [au,aT,aX];done)|(simp [au,aT,aX];omega)
 have hc6':=of_decide_eq_false hc6
 refine aw ?_
 refine ab aa 2 rfl ?_
 refine ae ?_
 refine ag rfl (fun hc8=>?_) (fun hc8=>?_)
 ·
  have hc8':=of_decide_eq_true hc8
  refine az aa 2 rfl ?_
  obtain ⟨b26,a26,hr6⟩:∃ (b26:Bk) (a26:Answer),bQ b d=(b26,a26):=⟨_,_,rfl⟩
  refine aL 11 [0,7,8,9,10,6,5] (cg id (aW [0,7,8,9,10]) (ms:=(ja b 1 2 3 4 none none)) (ms':=(ja b26 1 2 3 4 none none)) (fun x hx=>wa x hx b d (by assumption) b26 a26 hr6) ET rfl rfl ⟨⟨_,rfl,.inl ⟨rfl,rfl⟩⟩,⟨_,rfl,.inl ⟨rfl,rfl⟩⟩,trivial⟩ rfl rfl rfl rfl rfl rfl rfl ⟨rfl,rfl,rfl,rfl,trivial⟩ rfl rfl rfl rfl rfl rfl rfl rfl rfl rfl rfl rfl rfl) rfl ?_
  refine ab aa 1 rfl ?_
  refine ae ?_
  refine ar ?_
  refine bg ?_
  refine ao ?_
  have hX:dc b days d=(b26,days,a26):=by
    unfold dc;(repeat' (first|rw [if_pos (by omega)]|rw [if_neg (by omega)]|fail))<;>first|rfl|(simp only [hr6];done)|(simp only [hr6];rfl)|(simp_all;done)
  rw [hX] at hr;clear hX
  simp only [Prod.mk.injEq] at hr;obtain ⟨rfl,rfl,rfl⟩:=hr
  refine ah aa [0,7,8,9,10,5,6] 6 rfl rfl rfl rfl rfl rfl ?_ ?_
  all_goals first|rfl|(simp [au,aT,aX];done)|(simp [au,aT,aX];omega)
 have hc8':=of_decide_eq_false hc8
 refine ad aa 2 rfl ?_
 refine ag rfl (fun hc9=>?_) (fun hc9=>?_)
 ·
  have hc9':=of_decide_eq_true hc9
  refine af ?_
  refine ad aa 5 rfl ?_
  refine ag rfl (fun hc10=>?_) (fun hc10=>?_)
  ·
   have hc10':=hc10;try simp only [bm,bL] at hc10'
   refine ad aa 2 rfl ?_
   refine ar ?_
   refine ao ?_
   refine bg ?_
   refine ao ?_
   have hX:dc b days d=(b,days,(⟨8,0⟩:Answer)):=by
     unfold dc;(repeat' (first|rw [if_pos (by omega)]|rw [if_neg (by omega)]|fail))<;>first|rfl|(simp_all;done)
   rw [hX] at hr;clear hX
   simp only [Prod.mk.injEq] at hr;obtain ⟨rfl,rfl,rfl⟩:=hr
   refine ah aa [0,1,2,3,4,5,6] 6 rfl rfl rfl rfl rfl rfl ?_ ?_
   all_goals first|rfl|(simp [au,aT,aX];done)|(simp [au,aT,aX];omega)
  have hc10':=hc10;try simp only [bm,bL] at hc10'
  refine aP ?_
  refine ad aa 5 rfl ?_
  refine ad aa 2 rfl ?_
  refine ar ?_
  refine bg ?_
  refine ao ?_
  have hX:dc b days d=((⟨b.time,true,b.an,b.due,b.aq,b.s0,b.s1,b.n0,b.n1,b.w0,b.w1,b.bG,b.aO,b.book⟩:Bk),days,(⟨0,0⟩:Answer)):=by
    unfold dc;(repeat' (first|rw [if_pos (by omega)]|rw [if_neg (by omega)]|fail))<;>first|rfl|(simp_all;done)
  rw [hX] at hr;clear hX
  simp only [Prod.mk.injEq] at hr;obtain ⟨rfl,rfl,rfl⟩:=hr
  refine ah aa [0,1,2,3,4,5,6] 6 rfl rfl rfl rfl rfl rfl ?_ ?_
  all_goals first|rfl|(simp [au,aT,aX];done)|(simp [au,aT,aX];omega)
 have hc9':=of_decide_eq_false hc9
 refine ad aa 2 rfl ?_
 refine ag rfl (fun hc11=>?_) (fun hc11=>?_)
 ·
  have hc11':=of_decide_eq_true hc11
  refine az aa 1 rfl ?_
  obtain ⟨b27,a27,hr7⟩:∃ (b27:Bk) (a27:Answer),jg b=(b27,a27):=⟨_,_,rfl⟩
  refine aL 11 [0,7,8,9,10,6,5] (cg id (aW [0,7,8,9,10]) (ms:=(ja b 1 2 3 4 none none)) (ms':=(ja b27 1 2 3 4 none none)) (fun x hx=>Hs x hx b (by first|assumption|exact ck.tick (by assumption) (by omega) (by omega)) b27 a27 hr7) Hc rfl rfl ⟨⟨_,rfl,.inl ⟨rfl,rfl⟩⟩,trivial⟩ rfl rfl rfl rfl rfl rfl rfl ⟨rfl,rfl,rfl,rfl,trivial⟩ rfl rfl rfl rfl rfl rfl rfl rfl rfl rfl rfl rfl rfl) rfl ?_
  refine ab aa 1 rfl ?_
  refine ae ?_
  refine ar ?_
  refine bg ?_
  refine ao ?_
  have hX:dc b days d=(b27,days,a27):=by
    unfold dc;(repeat' (first|rw [if_pos (by omega)]|rw [if_neg (by omega)]|fail))<;>first|rfl|(simp only [hr7];done)|(simp only [hr7];rfl)|(simp_all;done)
  rw [hX] at hr;clear hX
  simp only [Prod.mk.injEq] at hr;obtain ⟨rfl,rfl,rfl⟩:=hr
  refine ah aa [0,7,8,9,10,5,6] 6 rfl rfl rfl rfl rfl rfl ?_ ?_
  all_goals first|rfl|(simp [au,aT,aX];done)|(simp [au,aT,aX];omega)
 have hc11':=of_decide_eq_false hc11
 refine ad aa 2 rfl ?_
 refine ag rfl (fun hc12=>?_) (fun hc12=>?_)
 ·
  have hc12':=of_decide_eq_true hc12
  refine az aa 1 rfl ?_
  obtain ⟨today28,days28,a28,hr8⟩:∃ (today28:List aj) (days28:List (List Int)) (a28:Answer),iT b.aO days=(today28,days28,a28):=⟨_,_,_,rfl⟩
  refine aL 9 [0,7,8,6,1,2,3] (cg (aW [0,4,5]) (aW [0,7,8]) (ms:=((du.set 16 (some (.s 1 0 4 b.aO.length))).set 17 (some (.s 2 0 1 days.length)))) (ms':=((du.set 16 (some (.s 1 0 4 today28.length))).set 17 (some (.s 2 0 1 days28.length)))) (fun x hx=>Fh x hx b.aO days (by first|omega|(simp;done)|(simp;omega)) (by first|omega|(simp;done)|(simp;omega)) today28 days28 a28 hr8) Hb rfl rfl ⟨⟨_,rfl,.inl ⟨rfl,rfl⟩⟩,trivial⟩ rfl rfl rfl rfl rfl rfl rfl ⟨rfl,rfl,trivial⟩ rfl rfl rfl rfl rfl rfl rfl rfl rfl rfl rfl rfl rfl) rfl ?_
  refine ab aa 1 rfl ?_
  refine ae ?_
  refine ar ?_
  refine bg ?_
  refine ao ?_
  have hX:dc b days d=((⟨b.time,b.down,b.an,b.due,b.aq,b.s0,b.s1,b.n0,b.n1,b.w0,b.w1,b.bG,today28,b.book⟩:Bk),days28,a28):=by
    unfold dc;(repeat' (first|rw [if_pos (by omega)]|rw [if_neg (by omega)]|fail))<;>first|rfl|(simp only [hr8];done)|(simp only [hr8];rfl)|(simp_all;done)
  rw [hX] at hr;clear hX
  simp only [Prod.mk.injEq] at hr;obtain ⟨rfl,rfl,rfl⟩:=hr
  refine ah aa [0,1,2,3,7,8,6] 6 rfl rfl rfl rfl rfl rfl ?_ ?_
  all_goals first|rfl|(simp [au,aT,aX];done)|(simp [au,aT,aX];omega)
 have hc12':=of_decide_eq_false hc12
 refine ad aa 2 rfl ?_
 refine ag rfl (fun hc13=>?_) (fun hc13=>?_)
 ·
  have hc13':=of_decide_eq_true hc13
  refine az aa 2 rfl ?_
  obtain ⟨b29,a29,hr9⟩:∃ (b29:Bk) (a29:Answer),gV b d=(b29,a29):=⟨_,_,rfl⟩
  refine aL 11 [0,7,8,9,10,6,5] (cg id (aW [0,7,8,9,10]) (ms:=(ja b 1 2 3 4 none none)) (ms':=(ja b29 1 2 3 4 none none)) (fun x hx=>Gk x hx b d (by first|assumption|exact ck.tick (by assumption) (by omega) (by omega)) b29 a29 hr9) Ha rfl rfl ⟨⟨_,rfl,.inl ⟨rfl,rfl⟩⟩,⟨_,rfl,.inl ⟨rfl,rfl⟩⟩,trivial⟩ rfl rfl rfl rfl rfl rfl rfl ⟨rfl,rfl,rfl,rfl,trivial⟩ rfl rfl rfl rfl rfl rfl rfl rfl rfl rfl rfl rfl rfl) rfl ?_
  refine ab aa 1 rfl ?_
  refine ae ?_
  refine ar ?_
  refine bg ?_
  refine ao ?_
  have hX:dc b days d=(b29,days,a29):=by
    unfold dc;(repeat' (first|rw [if_pos (by omega)]|rw [if_neg (by omega)]|fail))<;>first|rfl|(simp only [hr9];done)|(simp only [hr9];rfl)|(simp_all;done)
  rw [hX] at hr;clear hX
  simp only [Prod.mk.injEq] at hr;obtain ⟨rfl,rfl,rfl⟩:=hr
  refine ah aa [0,7,8,9,10,5,6] 6 rfl rfl rfl rfl rfl rfl ?_ ?_
  all_goals first|rfl|(simp [au,aT,aX];done)|(simp [au,aT,aX];omega)
 have hc13':=of_decide_eq_false hc13
 refine cV ?_
 refine bl ?_
 refine then_ok ?_
 refine ad aa 2 rfl ?_
 refine ar ?_
 have hX:dc b days d=(b,days,(⟨1,0⟩:Answer)):=by
   unfold dc;(repeat' (first|rw [if_pos (by omega)]|rw [if_neg (by omega)]|fail))<;>first|rfl|(simp_all;done)
 rw [hX] at hr;clear hX
 simp only [Prod.mk.injEq] at hr;obtain ⟨rfl,rfl,rfl⟩:=hr
 refine ah aa [0,1,2,3,4,5,6] 6 rfl rfl rfl rfl rfl rfl ?_ ?_
 all_goals first|rfl|(simp [au,aT,aX];done)|(simp [au,aT,aX];omega)

theorem Fi (x:Nat->Value) (hx:∀ i,(x i).oneCell'=true) (b:Bk) (days:List (List Int)) (told:List (Int×Answer)) (cl:Nat) (d:aS) (ok:ck b) (hy:days.length<=1000) (b2:Bk) (y2:List (List Int)) (t2:List (Int×Answer)) (c2:Nat) (a2:Answer) (hr:fG b days told cl d=(b2,y2,t2,c2,a2)):cC Try.prog 42 [(.c (.p 0 0 0 0)),(.c (.q (cL d) 0))] [(0,(.box 98 (aT b 1 2 3 4 (.s 5 0 1 days.length) (.m 6)))),(1,(dO b.an)),(2,(dG b.due)),(3,(dV b.aq)),(4,(cG b.aO)),(5,(pZ days)),(6,(.map (tV told) cl))] [0] (.v (.g [cI a2.err,cI a2.ba])) [(0,(.box 98 (aT b2 1 2 3 4 (.s 5 0 1 y2.length) (.m 6)))),(1,(dO b2.an)),(2,(dG b2.due)),(3,(dV b2.aq)),(4,(cG b2.aO)),(5,(pZ y2)),(6,(.map (tV t2) c2))]:=by
 refine cC.mk 42 [(0,(aC (.p 0 0 0 0))),(1,(aC (.q (cL d) 0)))] 7 Try.func42 rfl rfl rfl rfl rfl rfl rfl rfl rfl ?_
 intro W0 F0 T0 pg
 obtain ⟨okt,okc,okd,oka,oky,okw0,okw1,okp,okv,okk0,okk1,okg,okl0,okl1,okp0,okp1,okn0,okn1,okq⟩:=id ok
 refine ad aa 1 rfl ?_
 refine af ?_
 refine af ?_
 refine cW [0,1,4] [7,0,1,2,3,4,5,6] mixed rfl rfl ?_
 refine bR (kn:=[]) aa 8 rfl trivial ?_
 refine bV (n':=8) [12,16] [6] rfl rfl (.inl ⟨(al.plain rfl),aH.cast (Aj (ps:=told) Try.underlying96 Try.underlying3 Gz rfl rfl rfl rfl) rfl⟩) rfl ?_
 refine bR (n':=9) (kn:=[]) aa 6 rfl trivial ?_
 refine dP [0,1,4,5,6] [8,7,0,1,2,3,4,5,6] rfl rfl (by kernel_rfl) ?_
 refine then_ok ?_
 refine cq 27 (((iI told d.id).isSome) && (decide (¬d.id=0))) ?_ ?_
 ·
  refine aw ?_
  refine ab aa 2 rfl ?_
  refine bA (t:=21) rfl (fun hb1=>?_) (fun hb1=>?_)
  ·
   have hb1':=hb1;try simp only [bm,bL] at hb1'
   refine ab aa 6 rfl ?_
   refine ae ?_
   exact aD.bD 9 rfl rfl (by first|(simp [hb1];done)|(simp_all;done)|(exfalso;simp_all;done)|(simp_all;omega)) rfl
  have hb1':=hb1;try simp only [bm,bL] at hb1'
  refine ab aa 6 rfl ?_
  refine ae ?_
  exact aD.bD 9 rfl rfl (by first|(simp [hb1];done)|(simp_all;done)|(exfalso;simp_all;done)|(simp_all;omega)) rfl
 refine ag rfl (fun hc2=>?_) (fun hc2=>?_)
 ·
  have hc2':=hc2;try simp only [bm,bL] at hc2'
  refine ad aa 2 rfl ?_
  refine ar ?_
  refine ao ?_
  have hX:fG b days told cl d=(b,days,told,cl,((iI told d.id).getD ⟨0,0⟩)):=by
    unfold fG;(repeat' split)<;>first|rfl|omega|(exfalso;omega)|(simp_all;done)|(simp_all;omega)
  rw [hX] at hr;clear hX
  simp only [Prod.mk.injEq] at hr;obtain ⟨rfl,rfl,rfl,rfl,rfl⟩:=hr
  refine ah aa [0,1,2,3,4,5,6,7] 7 rfl rfl rfl rfl rfl rfl ?_ ?_
  all_goals first|rfl|(simp [au,aT,aX];done)|(simp [au,aT,aX];omega)
 have hc2':=hc2;try simp only [bm,bL] at hc2'
 refine aP ?_
 refine az aa 2 rfl ?_
 obtain ⟨b20,y20,a20,hr0⟩:∃ (b20:Bk) (y20:List (List Int)) (a20:Answer),dc b days d=(b20,y20,a20):=⟨_,_,_,rfl⟩
 refine aL 14 [0,9,10,11,12,13,8,7,6] (cg id (aW [0,9,10,11,12,13]) (ms:=(ja b 1 2 3 4 (some (.s 5 0 1 days.length)) none)) (ms':=(ja b20 1 2 3 4 (some (.s 5 0 1 y20.length)) none)) (fun x hx=>Ht x hx b days d (by first|assumption|exact ck.tick (by assumption) (by omega) (by omega)) (by first|omega|(simp;done)|(simp;omega)) b20 y20 a20 hr0) Hj rfl rfl ⟨⟨_,rfl,.inl ⟨rfl,rfl⟩⟩,⟨_,rfl,.inl ⟨rfl,rfl⟩⟩,trivial⟩ rfl rfl rfl rfl rfl rfl rfl ⟨rfl,rfl,rfl,rfl,rfl,trivial⟩ rfl rfl rfl rfl rfl rfl rfl rfl rfl rfl rfl rfl rfl) rfl ?_
 refine ab aa 2 rfl ?_
 refine ae ?_
 refine af ?_
 refine bb [0,1,4,7] [14,0,9,10,11,12,13,7,6] mixed rfl rfl ?_
 refine aA (kn:=[]) aa 9 rfl trivial ?_
 refine bB [14,0,9,10,11,12,13,7,6] rfl rfl rfl rfl (by kernel_rfl) ?_
 refine gf [14,0,9,10,11,12,13,7,6] (Ah Try.underlying96 Try.underlying3 rfl rfl rfl rfl rfl) rfl ?_
 refine ae ?_
 refine ad aa 2 rfl ?_
 refine ar ?_
 have hX:fG b days told cl d=(b20,y20,oh told d.id a20,if (iI told d.id).isSome then cl else cl+1,a20):=by
   unfold fG;simp only [hr0];(repeat' split)<;>first|rfl|omega|(exfalso;omega)|(simp_all;done)|(simp_all;omega)
 rw [hX] at hr;clear hX
 simp only [Prod.mk.injEq] at hr;obtain ⟨rfl,rfl,rfl,rfl,rfl⟩:=hr
 refine ah aa [0,9,10,11,12,13,6,7] 7 rfl rfl rfl rfl rfl rfl ?_ ?_
 all_goals first|rfl|(simp [au,aT,aX];done)|(simp [au,aT,aX];omega)

theorem vZ (s:Setup) (f:cT) (hr:ey s=f):Fn Try.prog 40 [(.g [(cR 3 ((s.cX).map ig)),(cI s.iE),(cI s.cap)])] (.v (.g [(cI f.err),(cI f.at_)])) []:=by
 refine Fn.mk' 47 [(0,(aG [(cR 3 ((s.cX).map ig)),(cI s.iE),(cI s.cap)]))] Try.func40 rfl rfl rfl rfl ?_
 intro W0 T0
 refine fl 0 0 rfl rfl (fun hlen0_0=>?_)
 refine ad aa 2 rfl ?_
 refine af ?_
 refine cq 19 (((decide ((↑s.cX.length:Int) > 8))||(decide (s.iE < 0)))||(decide (s.iE > 8))) ?_ ?_
 ·
  refine aw ?_
  refine ab aa 2 rfl ?_
  refine ay (cO rfl rfl rfl rfl rfl Try.underlying53) rfl ?_
  refine ab aa 2 rfl ?_
  refine bA (t:=10) rfl (fun hb1=>?_) (fun hb1=>?_)
  ·
   have hb1':=of_decide_eq_true hb1
   refine ab aa 9 rfl ?_
   refine ae ?_
   exact aD.bD 15 rfl rfl (by first|(simp [hb1];done)|(simp_all;done)|(exfalso;simp_all;done)|(simp_all;omega)) rfl
  have hb1':=of_decide_eq_false hb1
  refine ab aa 5 rfl ?_
  refine bA (t:=15) rfl (fun hb2=>?_) (fun hb2=>?_)
  ·
   have hb2':=of_decide_eq_true hb2
   refine ab aa 4 rfl ?_
   refine ae ?_
   exact aD.bD 16 rfl rfl (by first|(simp [hb1,hb2];done)|(simp_all;done)|(exfalso;simp_all;done)|(simp_all;omega)) rfl
  have hb2':=of_decide_eq_false hb2
  refine ab aa 4 rfl ?_
  refine ae ?_
  exact aD.bD 16 rfl rfl (by first|(simp [hb1,hb2];done)|(simp_all;done)|(exfalso;simp_all;done)|(simp_all;omega)) rfl
 refine ag rfl (fun hc3=>?_) (fun hc3=>?_)
 ·
  have hc3':=hc3;try simp only [bm,bL] at hc3'
  refine ad aa 2 rfl ?_
  refine ar ?_
  refine ao ?_
  have hX:ey s=(⟨5,0⟩:cT):=by
    unfold ey;rw [if_pos (by omega)]
  rw [hX] at hr;clear hX
  subst hr
  refine ah aa [1] 0 rfl rfl rfl rfl rfl rfl ?_ ?_
  all_goals first|rfl|(simp [au,aT,aX];done)|(simp [au,aT,aX];omega)
 have hc3':=hc3;try simp only [bm,bL] at hc3'
 refine aP ?_
 refine af ?_
 refine cq 28 ((decide (s.cap < 0))||(decide (s.cap > 1000000))) ?_ ?_
 ·
  refine aw ?_
  refine ab aa 4 rfl ?_
  refine bA (t:=24) rfl (fun hb4=>?_) (fun hb4=>?_)
  ·
   have hb4':=of_decide_eq_true hb4
   refine ab aa 4 rfl ?_
   refine ae ?_
   exact aD.bD 9 rfl rfl (by first|(simp [hb4];done)|(simp_all;done)|(exfalso;simp_all;done)|(simp_all;omega)) rfl
  have hb4':=of_decide_eq_false hb4
  refine ab aa 4 rfl ?_
  refine ae ?_
  exact aD.bD 9 rfl rfl (by first|(simp [hb4];done)|(simp_all;done)|(exfalso;simp_all;done)|(simp_all;omega)) rfl
 refine ag rfl (fun hc5=>?_) (fun hc5=>?_)
 ·
  have hc5':=hc5;try simp only [bm,bL] at hc5'
  refine ad aa 2 rfl ?_
  refine ar ?_
  refine ao ?_
  have hX:ey s=(⟨3,0⟩:cT):=by
    unfold ey;rw [if_neg (by omega),if_pos (by omega)]
  rw [hX] at hr;clear hX
  subst hr
  refine ah aa [1] 0 rfl rfl rfl rfl rfl rfl ?_ ?_
  all_goals first|rfl|(simp [au,aT,aX];done)|(simp [au,aT,aX];omega)
 have hc5':=hc5;try simp only [bm,bL] at hc5'
 refine aP ?_
 refine af ?_
 refine az aa 2 rfl ?_
 refine ay (cO rfl rfl rfl rfl rfl Try.underlying53) rfl ?_
 refine ab aa 1 rfl ?_
 refine ae ?_
 refine aV ?_
 refine cv (β:=Nat) (fun (q:Nat)=>⟨[(2,(aC (.p 1 0 0 0))),(31,(aC (cR 3 ((s.cX).map ig)))),(32,(aI (↑s.cX.length:Int))),(33,(aI (↑q:Int)))],[(1,(.box 50 [(cI 0),(cI 0)]))],2⟩) (fun (q:Nat)=>q<=s.cX.length/\oC s.cX 0=oC (s.cX.drop q) q) (fun (q:Nat)=>s.cX.length - q) 0 ?_ ?_ ?_
 ·exact ⟨by omega,rfl⟩
 ·exact aD.bZ id (by refine ⟨?_,?_,?_,?_,trivial⟩<;>first|rfl|(simp only [bn];done)|(congr 3;omega)|(congr 4;omega)|(simp only [bo];rfl)) (⟨by first|rfl|(simp only [bn];done)|(congr 3;omega)|(congr 4;omega)|(simp only [bo];rfl),trivial⟩) rfl
 rintro q ⟨hi0_0,hi0_1⟩
 refine ad aa 1 rfl ?_
 refine af ?_
 refine ag rfl (fun hc6=>?_) (fun hc6=>?_)
 ·
  have hc6':=of_decide_eq_true hc6
  refine aP ?_
  refine af ?_
  refine aV ?_
  refine az aa 1 rfl ?_
  obtain ⟨x1,hx1⟩:=cp (xs:=s.cX) (i:=q) (by first|omega|(simp;done)|(simp;omega))
  refine ay (cU (i:=q) rfl rfl rfl Try.underlying53 DS (by first|omega|(simp;done)|(simp;omega)) (bw hx1)) rfl ?_
  refine ab aa 4 rfl ?_
  refine ae ?_
  refine az aa 1 rfl ?_
  obtain ⟨e0,hr0⟩:∃ (e0:Int),fi x1=e0:=⟨_,rfl⟩
  refine aL 3 [2,1] (bM 3 (kP x1 e0 hr0) Cb rfl rfl ⟨⟨_,rfl,.g ⟨.d _,.d _,.d _,trivial⟩⟩,trivial⟩ trivial trivial rfl rfl rfl rfl) rfl ?_
  refine ab aa 1 rfl ?_
  refine ae ?_
  refine ad aa 2 rfl ?_
  refine ag rfl (fun hc7=>?_) (fun hc7=>?_)
  ·
   have hc7':=of_decide_eq_true hc7
   refine ad aa 4 rfl ?_
   refine ar ?_
   refine bg ?_
   refine ao ?_
   refine ao ?_
   refine bg ?_
   refine ao ?_
   have hX:ey s=(⟨e0,(↑q:Int)⟩:cT):=by
     unfold ey;rw [if_neg (by omega),if_neg (by omega),hi0_1,tl hx1,if_pos (by omega)];simp_all
   rw [hX] at hr;clear hX
   subst hr
   refine ah aa [1] 0 rfl rfl rfl rfl rfl rfl ?_ ?_
   all_goals first|rfl|(simp [au,aT,aX];done)|(simp [au,aT,aX];omega)
  have hc7':=of_decide_eq_false hc7
  refine cV ?_
  refine bl ?_
  refine then_ok ?_
  refine aw ?_
  refine ay (aK rfl rfl rfl (aF (by first|omega|(simp;done)|(simp;omega)))) rfl ?_
  refine ab aa 1 rfl ?_
  refine ae ?_
  refine ⟨q+1,⟨by omega,by rw [hi0_1,tl hx1,if_neg (by omega)]⟩,by first|omega|(simp;done)|(simp;omega),aD.bZ id (by refine ⟨?_,?_,?_,?_,trivial⟩<;>first|rfl|(simp only [bn];done)|(congr 3;omega)|(congr 4;omega)|(simp only [bo];rfl)) (⟨by first|rfl|(simp only [bn];done)|(congr 3;omega)|(congr 4;omega)|(simp only [bo];rfl),trivial⟩) rfl⟩
 have hc6':=of_decide_eq_false hc6
 refine cm ?_
 refine aQ ?_
 refine aQ ?_
 refine bO ?_
 refine then_ok ?_
 refine ad aa 2 rfl ?_
 refine ar ?_
 have hX:ey s=(⟨0,0⟩:cT):=by
   unfold ey;rw [if_neg (by omega),if_neg (by omega),hi0_1,List.drop_of_length_le (by omega)];rfl
 rw [hX] at hr;clear hX
 subst hr
 refine ah aa [1] 0 rfl rfl rfl rfl rfl rfl ?_ ?_
 all_goals first|rfl|(simp [au,aT,aX];done)|(simp [au,aT,aX];omega)

theorem AG (s:Setup) (l:List aS) (b2:Bk) (y2:List (List Int)) (o2:List Answer) (f2:cT) (hr:ik s l=(b2,y2,o2,f2)):Fn Try.prog 22 [(.g [(cR 3 ((s.cX).map ig)),(cI s.iE),(cI s.cap)]),(.c (uA l))] (.t [(.g [(cI b2.time),(cB b2.down),(.s 0 0 6 b2.an.length),(.s 1 0 1 b2.due.length),(.s 2 0 8 b2.aq.length),(cI b2.s0.bF),(dd b2.s0.kept),(cI b2.s1.bF),(dd b2.s1.kept),(cI b2.n0),(cI b2.n1),(eo b2.w0),(eo b2.w1),(cI b2.bG.cap),(fV b2.bG.used),(gR b2.bG.aZ),(.s 3 0 4 b2.aO.length),(.s 4 0 1 y2.length),(dT b2.book)]),(.c (.s 5 0 2 o2.length)),(.g [(cI f2.err),(cI f2.at_)])]) [(0,(dO b2.an)),(1,(dG b2.due)),(2,(dV b2.aq)),(3,(cG b2.aO)),(4,(pZ y2)),(5,(Fq o2))]:=by
 refine Fn.mk' 89 [(0,(aG [(cR 3 ((s.cX).map ig)),(cI s.iE),(cI s.cap)])),(1,(aC (uA l)))] Try.func22 rfl rfl rfl rfl ?_
 intro W0 T0
 refine fl 0 0 rfl rfl (fun hlen0_0=>?_)
 refine dH 1 rfl (fun hlen1=>?_)
 refine ad aa 4 rfl ?_
 refine af ?_
 refine az aa 1 rfl ?_
 obtain ⟨f0,hr0⟩:∃ (f0:cT),ey s=f0:=⟨_,rfl⟩
 refine aL 3 [2,1,0] (bM 3 (vZ s f0 hr0) Hm rfl rfl ⟨⟨_,rfl,.g ⟨.d _,.d _,.d _,trivial⟩⟩,trivial⟩ ⟨trivial,trivial,trivial⟩ trivial rfl rfl rfl rfl) rfl ?_
 refine ab aa 2 rfl ?_
 refine ae ?_
 refine ad aa 3 rfl ?_
 refine ag rfl (fun hc1=>?_) (fun hc1=>?_)
 ·
  have hc1':=of_decide_eq_true hc1
  refine af ?_
  refine cW [1,2,4,6,7] [3,2,1,0] mixed rfl rfl ?_
  refine bR (kn:=[]) aa 5 rfl trivial ?_
  refine dP [1,2,4,6,5] [2,1,0] rfl rfl (by kernel_rfl) ?_
  refine then_ok ?_
  refine ar ?_
  refine ao ?_
  refine cf 1 2 61 6 rfl rfl rfl ?_
  refine cf 1 3 3 1 rfl rfl rfl ?_
  refine cf 1 4 67 8 rfl rfl rfl ?_
  refine eW 1 6 4 rfl rfl rfl ?_
  refine eW 1 8 4 rfl rfl rfl ?_
  refine eW 1 11 5 rfl rfl rfl ?_
  refine eW 1 12 5 rfl rfl rfl ?_
  refine eW 1 14 1 rfl rfl rfl ?_
  refine eW 1 15 4 rfl rfl rfl ?_
  refine cf 1 16 83 4 rfl rfl rfl ?_
  refine cf 1 17 86 1 rfl rfl rfl ?_
  refine eW 1 18 2 rfl rfl rfl ?_
  refine cP (aD.nil 5 65 2 (by decide) rfl) ?_
  have hX:ik s l=((⟨0,false,([]:List bx),([]:List Int),([]:List bz),(⟨0,[]⟩:bP),(⟨0,[]⟩:bP),0,0,[],[],(⟨0,[],[]⟩:cu),([]:List aj),[]⟩:Bk),([]:List (List Int)),([]:List Answer),f0):=by
    unfold ik;rw [hr0,if_pos (by omega)];rfl
  rw [hX] at hr;clear hX
  simp only [Prod.mk.injEq] at hr;obtain ⟨rfl,rfl,rfl,rfl⟩:=hr
  refine ah aa [4,5,6,7,8,9,1,2] 6 rfl rfl rfl rfl rfl rfl ?_ ?_
  all_goals first|rfl|(simp [au,aT,aX];done)|(simp [au,aT,aX];omega)
 have hc1':=of_decide_eq_false hc1
 refine aP ?_
 refine af ?_
 refine az aa 1 rfl ?_
 refine ay (cO rfl rfl rfl rfl rfl Try.underlying24) rfl ?_
 refine ab aa 1 rfl ?_
 refine ae ?_
 refine ag rfl (fun hc2=>?_) (fun hc2=>?_)
 ·
  have hc2':=of_decide_eq_true hc2
  refine ad aa 5 rfl ?_
  refine ar ?_
  refine ao ?_
  refine cf 1 2 61 6 rfl rfl rfl ?_
  refine cf 1 3 3 1 rfl rfl rfl ?_
  refine cf 1 4 67 8 rfl rfl rfl ?_
  refine eW 1 6 4 rfl rfl rfl ?_
  refine eW 1 8 4 rfl rfl rfl ?_
  refine eW 1 11 5 rfl rfl rfl ?_
  refine eW 1 12 5 rfl rfl rfl ?_
  refine eW 1 14 1 rfl rfl rfl ?_
  refine eW 1 15 4 rfl rfl rfl ?_
  refine cf 1 16 83 4 rfl rfl rfl ?_
  refine cf 1 17 86 1 rfl rfl rfl ?_
  refine eW 1 18 2 rfl rfl rfl ?_
  refine cP (aD.nil 5 65 2 (by decide) rfl) ?_
  have hX:ik s l=((⟨0,false,([]:List bx),([]:List Int),([]:List bz),(⟨0,[]⟩:bP),(⟨0,[]⟩:bP),0,0,[],[],(⟨0,[],[]⟩:cu),([]:List aj),[]⟩:Bk),([]:List (List Int)),([]:List Answer),(⟨5,0⟩:cT)):=by
    unfold ik;rw [hr0,if_neg (by omega),if_pos (by omega)];rfl
  rw [hX] at hr;clear hX
  simp only [Prod.mk.injEq] at hr;obtain ⟨rfl,rfl,rfl,rfl⟩:=hr
  refine ah aa [4,5,6,7,8,9,1,2] 6 rfl rfl rfl rfl rfl rfl ?_ ?_
  all_goals first|rfl|(simp [au,aT,aX];done)|(simp [au,aT,aX];omega)
 have hc2':=of_decide_eq_false hc2
 refine aP ?_
 refine eJ ?_
 refine aL 5 [4,3,2,1,0] (yE 4 rfl) rfl ?_
 refine ab aa 3 rfl ?_
 refine ae ?_
 refine af ?_
 obtain ⟨w1,w2,w3,w4,w5,w6⟩:=kJ (s:=s) (by rw [hr0];omega)
 refine pB 5 2 61 6 rfl rfl rfl ?_
 refine pB 5 4 67 8 rfl rfl rfl ?_
 refine kl 5 6 4 rfl rfl rfl ?_
 refine kl 5 8 4 rfl rfl rfl ?_
 refine kl 5 11 5 rfl rfl rfl ?_
 refine kl 5 12 5 rfl rfl rfl ?_
 refine kl 5 14 1 rfl rfl rfl ?_
 refine kl 5 15 4 rfl rfl rfl ?_
 refine pB 5 16 83 4 rfl rfl rfl ?_
 refine pB 5 17 86 1 rfl rfl rfl ?_
 refine kl 5 18 2 rfl rfl rfl ?_
 refine az aa 2 rfl ?_
 refine ay (cO rfl rfl rfl rfl rfl Try.underlying53) rfl ?_
 refine ab aa 1 rfl ?_
 refine ae ?_
 refine aV ?_
 refine cv (β:=Nat×List bx) (fun (p:Nat×List bx)=>match p with|(q,m)=>⟨[(1,(aC (uA l))),(2,(aC (.p 0 0 0 0))),(4,(aC (.p 1 0 0 0))),(5,(aC cN)),(6,(aC (.p 2 0 0 0))),(8,(aC (.p 5 0 0 0))),(29,(aC (cR 3 ((s.cX).map ig)))),(30,(aI (↑s.cX.length:Int))),(31,(aI (↑q:Int)))],[(9,(pZ ([]:List (List Int)))),(8,(cG ([]:List aj))),(7,(dV ([]:List bz))),(6,(dO m)),(5,(.box 98 [(cI 0),(cB false),(.s 6 0 6 m.length),cN,(.s 7 0 8 0),(cI 0),(dd ([]:List aR)),(cI 0),(dd ([]:List aR)),(cI 0),(cI 0),(eo ([]:List bU)),(eo ([]:List bU)),(cI 0),(fV ([]:List Int)),(gR ([]:List ca)),(.s 8 0 4 0),(.s 9 0 1 0),(dT ([]:List Entry)),(.m 4)])),(4,(.map (tV ([]:List (Int×Answer))) 0)),(2,(.box 50 [(cI 0),(cI 0)])),(1,(.box 46 [(cI 0),(cB false),cN,cN,cN,(cI 0),cN,(cI 0),cN,(cI 0),(cI 0),cN,cN,(cI 0),cN,cN,cN,cN,cN])),(0,(.box 55 [(cR 3 ((s.cX).map ig)),(cI s.iE),(cI s.cap)]))],10⟩) (fun (p:Nat×List bx)=>match p with|(q,m)=>q<=s.cX.length/\m=(s.cX.take q).map pv/\m.length=q) (fun (p:Nat×List bx)=>match p with|(q,m)=>s.cX.length - q) (0,([]:List bx)) ?_ ?_ ?_
 ·exact ⟨by omega,rfl,rfl⟩
 ·exact aD.bZ id (by refine ⟨?_,?_,?_,?_,?_,?_,?_,?_,?_,trivial⟩<;>first|rfl|(simp only [bn];done)|(congr 3;omega)|(congr 4;omega)|(simp only [bo];rfl)) (by refine ⟨?_,?_,?_,?_,?_,?_,?_,?_,?_,trivial⟩<;>first|rfl|(simp only [bn];done)|(congr 3;omega)|(congr 4;omega)|(simp only [bo];rfl)) rfl
 rintro ⟨q,m⟩ ⟨hi0_0,hi0_1,hi0_2⟩
 refine ad aa 1 rfl ?_
 refine af ?_
 refine ag rfl (fun hc3=>?_) (fun hc3=>?_)
 ·
  have hc3':=of_decide_eq_true hc3
  refine aP ?_
  refine af ?_
  refine aV ?_
  refine eJ ?_
  obtain ⟨x1,hx1⟩:=cp (xs:=s.cX) (i:=q) (by first|omega|(simp;done)|(simp;omega))
  refine ay (cU (i:=q) rfl rfl rfl Try.underlying53 DS (by first|omega|(simp;done)|(simp;omega)) (bw hx1)) rfl ?_
  refine ab aa 3 rfl ?_
  refine ae ?_
  refine bb [1,2,4,5,6,8,29,30,31,10] [10,9,8,7,6,5,4,2,1,0] mixed rfl rfl ?_
  refine aA (kn:=[]) aa 7 rfl trivial ?_
  refine aU (n':=11) [41] [] rfl rfl (.inl ⟨(al.plain rfl),aH.cast (aH.GI (cs':=[(cI 0),(cI 0),(cI x1.cH),(cI x1.count),(cI x1.sum),(ft ([]:List cS))]) 5 2 (xH (ys:=[(2,(.g [(cI x1.cH),(cI x1.count),(cI x1.sum)]))]) rfl Gm rfl ⟨⟨rfl,rfl⟩,trivial⟩ rfl rfl) rfl rfl) rfl⟩) rfl ?_
  refine aU (n':=12) [42] [] rfl rfl (.inl ⟨(al.plain rfl),aH.cast (dC (ys:=[(0,(.g [(cI 0),(cI 0),(cI x1.cH),(cI x1.count),(cI x1.sum),(ft ([]:List cS))]))]) (rows:=([(⟨0,0,x1,([]:List cS)⟩:bx)]).map pj) 11 yf rfl (by decide) ⟨⟨rfl,rfl⟩,trivial⟩ rfl rfl rfl rfl) rfl⟩) rfl ?_
  refine aU (n':=13) [40,43] [11,6] rfl rfl (.inl ⟨(al.plain rfl),aH.cast (db (m:=1) (N:=m.length+1) (k2:=12) (ys:=([(⟨0,0,x1,([]:List cS)⟩:bx)]).map pj) yf rfl rfl rfl rfl rfl rfl (by first|omega|(simp;done)|(simp;omega)) rfl (.s rfl (by first|omega|(simp;done)|(simp;omega))) (by first|omega|(simp;done)|(simp;omega)) (by first|omega|(simp;done)|(simp;omega)) eT (by decide) (by first|omega|(simp;done)|(simp;omega)) (by first|omega|(simp;done)|(simp;omega))) rfl⟩) rfl ?_
  refine aA (kn:=[]) aa 3 rfl trivial ?_
  refine bB [12,10,9,8,7,5,4,2,1,0] rfl rfl rfl rfl (by kernel_rfl) ?_
  refine ab aa 1 rfl ?_
  refine bX ?_
  refine bl ?_
  refine then_ok ?_
  refine aw ?_
  refine ay (aK rfl rfl rfl (aF (by first|omega|(simp;done)|(simp;omega)))) rfl ?_
  refine ab aa 1 rfl ?_
  refine ae ?_
  refine ⟨(q+1,m++([(⟨0,0,x1,([]:List cS)⟩:bx)])),⟨by omega,by rw [iJ hx1,List.map_append,<-hi0_1];rfl,by rw [List.length_append,hi0_2];rfl⟩,by first|omega|(simp;done)|(simp;omega),aD.bZ (fun k=>if k=6 then 12 else k) (by refine ⟨?_,?_,?_,?_,?_,?_,?_,?_,?_,trivial⟩<;>first|rfl|(simp only [bn];done)|(congr 3;omega)|(congr 4;omega)|(simp only [bo];rfl)) (by refine ⟨?_,?_,?_,?_,?_,?_,?_,?_,?_,trivial⟩<;>first|rfl|(simp only [bn];done)|(congr 3;omega)|(congr 4;omega)|(simp only [bo];rfl)) rfl⟩
 have hc3':=of_decide_eq_false hc3
 refine cm ?_
 refine aQ ?_
 refine aQ ?_
 refine bO ?_
 refine then_ok ?_
 refine az aa 3 rfl ?_
 refine aL 11 [10,9,8,7,6,5,4,2,1,0] (pn 10 mq CG rfl rfl rfl (n:=Int.toNat (s.iE)) (by first|omega|(simp;done)|(simp;omega)) (by first|omega|(simp;done)|(simp;omega)) (by first|omega|(simp;done)|(simp;omega)) (by first|omega|(simp;done)|(simp;omega))) rfl ?_
 refine ab aa 4 rfl ?_
 refine ae ?_
 refine az aa 5 rfl ?_
 refine ay (cO rfl rfl rfl rfl rfl Try.underlying53) rfl ?_
 have hr1:dw s.cap (↑s.cX.length:Int)=((dw s.cap (↑s.cX.length:Int)).1,(dw s.cap (↑s.cX.length:Int)).2):=rfl
 refine aL 11 [10,9,8,7,6,5,4,2,1,0] (bM 11 (Fn.frozen (av':=(.t [(.g [(cI (((dw s.cap (↑s.cX.length:Int)).1).cap)),(fV (((dw s.cap (↑s.cX.length:Int)).1).used)),(gR (((dw s.cap (↑s.cX.length:Int)).1).aZ))]),(.c (cI ((dw s.cap (↑s.cX.length:Int)).2)))])) (wO s.cap (↑s.cX.length:Int) ((dw s.cap (↑s.cX.length:Int)).1) ((dw s.cap (↑s.cX.length:Int)).2) hr1) ⟨⟨.inl ⟨_,rfl,rfl⟩,.inr ⟨_,_,_,_,_,rfl,rfl,rfl,by simp⟩,.inr ⟨_,_,_,_,_,rfl,rfl,rfl,by simp⟩,trivial⟩,.inl ⟨_,rfl,rfl⟩,trivial⟩) Hl rfl rfl ⟨⟨_,rfl,.c (.d _)⟩,⟨_,rfl,.c (.d _)⟩,trivial⟩ ⟨⟨trivial,trivial,trivial,trivial⟩,trivial,trivial⟩ trivial rfl rfl rfl rfl) rfl ?_
 refine ab aa 7 rfl ?_
 refine ae ?_
 refine ad aa 1 rfl ?_
 refine af ?_
 refine az aa 1 rfl ?_
 refine ay (cO rfl rfl rfl rfl rfl Try.underlying24) rfl ?_
 refine ab aa 1 rfl ?_
 refine ae ?_
 refine aV ?_
 refine gZ (aD.nil 11 65 2 (by decide) rfl) ?_
 have htk:m=s.cX.map pv:=by rw [hi0_1,List.take_of_length_le (by omega)]
 subst htk
 refine cv (β:=Nat×Bk×List (List Int)×List (Int×Answer)×Nat×List Answer) (fun (p:Nat×Bk×List (List Int)×List (Int×Answer)×Nat×List Answer)=>match p with|(u,b,days,told,cl,out)=>⟨[(1,(aC (uA l))),(2,(aC (.p 0 0 0 0))),(4,(aC (.p 1 0 0 0))),(5,(aC cN)),(6,(aC (.p 2 0 0 0))),(8,(aC (.p 5 0 0 0))),(29,(aC (cR 3 ((s.cX).map ig)))),(30,(aI (↑s.cX.length:Int))),(31,(aI (↑q:Int))),(11,(aC (.s 11 0 2 out.length))),(70,(aI (↑l.length:Int))),(71,(aI (↑u:Int)))],[(11,(Fq out)),(10,(dG b.due)),(9,(pZ days)),(8,(cG b.aO)),(7,(dV b.aq)),(6,(dO b.an)),(5,(.box 98 (aT b 6 10 7 8 (.s 9 0 1 days.length) (.m 4)))),(4,(.map (tV told) cl)),(2,(.box 50 [(cI 0),(cI 0)])),(1,(.box 46 [(cI 0),(cB false),cN,cN,cN,(cI 0),cN,(cI 0),cN,(cI 0),(cI 0),cN,cN,(cI 0),cN,cN,cN,cN,cN])),(0,(.box 55 [(cR 3 ((s.cX).map ig)),(cI s.iE),(cI s.cap)]))],12⟩) (fun (p:Nat×Bk×List (List Int)×List (Int×Answer)×Nat×List Answer)=>match p with|(u,b,days,told,cl,out)=>u<=l.length/\km l (iv s) [] [] 0 []=km (l.drop u) b days told cl out/\ck b/\days.length<=u/\out.length=u) (fun (p:Nat×Bk×List (List Int)×List (Int×Answer)×Nat×List Answer)=>match p with|(u,b,days,told,cl,out)=>l.length - u) (0,iv s,([]:List (List Int)),([]:List (Int×Answer)),0,([]:List Answer)) ?_ ?_ ?_
 ·exact ⟨by omega,rfl,ck.start (by rw [hr0];omega),by simp,rfl⟩
 ·exact aD.bZ id (by refine ⟨?_,?_,?_,?_,?_,?_,?_,?_,?_,?_,?_,?_,trivial⟩<;>first|rfl|(simp only [bn];done)|(congr 3;omega)|(congr 4;omega)|(simp only [bo];rfl)) (by refine ⟨?_,?_,?_,?_,?_,?_,?_,?_,?_,?_,?_,trivial⟩<;>first|rfl|(simp only [bn];done)|(congr 3;omega)|(congr 4;omega)|(simp only [bo];rfl)|(simp only [aT,iv,List.length_replicate];rfl)) rfl
 rintro ⟨u,b,days,told,cl,out⟩ ⟨hi1_0,hi1_1,hi1_2,hi1_3,hi1_4⟩
 refine ad aa 1 rfl ?_
 refine af ?_
 refine ag rfl (fun hc4=>?_) (fun hc4=>?_)
 ·
  have hc4':=of_decide_eq_true hc4
  refine aP ?_
  refine af ?_
  refine aV ?_
  refine ad aa 2 rfl ?_
  refine aw ?_
  refine ab aa 4 rfl ?_
  obtain ⟨x1,hx1⟩:=cp (xs:=l) (i:=u) (by first|omega|(simp;done)|(simp;omega))
  refine ay (cU (i:=u) rfl rfl rfl Try.underlying24 GB (by first|omega|(simp;done)|(simp;omega)) (bw hx1)) rfl ?_
  obtain ⟨b22,y22,t22,c22,a22,hr2⟩:∃ (b22:Bk) (y22:List (List Int)) (t22:List (Int×Answer)) (c22:Nat) (a22:Answer),fG b days told cl x1=(b22,y22,t22,c22,a22):=⟨_,_,_,_,_,rfl⟩
  refine aL 18 [5,12,13,14,15,16,17,11,2,1,0] (cg (aW [5,6,10,7,8,9,4]) (aW [5,12,13,14,15,16,17]) (ms:=(ja b 1 2 3 4 (some (.s 5 0 1 days.length)) (some (.m 6)))) (ms':=(ja b22 1 2 3 4 (some (.s 5 0 1 y22.length)) (some (.m 6)))) (fun x hx=>Fi x hx b days told cl x1 (by first|assumption|exact ck.tick (by assumption) (by omega) (by omega)) (by first|omega|(simp;done)|(simp;omega)) b22 y22 t22 c22 a22 hr2) Hk rfl rfl ⟨⟨_,rfl,.inl ⟨rfl,rfl⟩⟩,⟨_,rfl,.inl ⟨rfl,rfl⟩⟩,trivial⟩ rfl rfl rfl rfl rfl rfl rfl ⟨rfl,rfl,rfl,rfl,rfl,rfl,trivial⟩ rfl rfl rfl rfl rfl rfl rfl rfl rfl rfl rfl rfl rfl) rfl ?_
  refine aL 19 [18,5,12,13,14,15,16,17,11,2,1,0] (dC (ys:=[(0,(.g [(cI a22.err),(cI a22.ba)]))]) (rows:=([a22]).map lh) 18 DU rfl (by decide) ⟨⟨rfl,rfl⟩,trivial⟩ rfl rfl rfl rfl) rfl ?_
  refine aL 20 [19,18,5,12,13,14,15,16,17,2,1,0] (db (m:=1) (N:=out.length+1) (k2:=19) (ys:=([a22]).map lh) DU rfl rfl rfl rfl rfl rfl (by first|omega|(simp;done)|(simp;omega)) rfl (.s rfl (by first|omega|(simp;done)|(simp;omega))) (by first|omega|(simp;done)|(simp;omega)) (by first|omega|(simp;done)|(simp;omega)) eT (by decide) (by first|omega|(simp;done)|(simp;omega)) (by first|omega|(simp;done)|(simp;omega))) rfl ?_
  refine ab aa 1 rfl ?_
  refine bX ?_
  refine bl ?_
  refine then_ok ?_
  refine aw ?_
  refine ay (aK rfl rfl rfl (aF (by first|omega|(simp;done)|(simp;omega)))) rfl ?_
  refine ab aa 1 rfl ?_
  refine ae ?_
  refine ⟨(u+1,b22,y22,t22,c22,out++([a22])),⟨by omega,by rw [hi1_1,yn hx1,hr2],(by have h:=ck.once hi1_2 days told cl x1;rw [hr2] at h;exact h.1),(by have h:=(ck.once hi1_2 days told cl x1).2;rw [hr2] at h;dsimp only at h;omega),by rw [List.length_append,hi1_4];rfl⟩,by first|omega|(simp;done)|(simp;omega),aD.bZ (fun k=>if k=11 then 19 else if k=4 then 17 else if k=9 then 16 else if k=8 then 15 else if k=7 then 14 else if k=10 then 13 else if k=6 then 12 else k) (by refine ⟨?_,?_,?_,?_,?_,?_,?_,?_,?_,?_,?_,?_,trivial⟩<;>first|rfl|(simp only [bn];done)|(congr 3;omega)|(congr 4;omega)|(simp only [bo];rfl)) (by refine ⟨?_,?_,?_,?_,?_,?_,?_,?_,?_,?_,?_,trivial⟩<;>first|rfl|(simp only [bn];done)|(congr 3;omega)|(congr 4;omega)|(simp only [bo];rfl)) rfl⟩
 have hc4':=of_decide_eq_false hc4
 refine cm ?_
 refine aQ ?_
 refine aQ ?_
 refine bO ?_
 refine then_ok ?_
 refine ad aa 9 rfl ?_
 refine ar ?_
 have hX:ik s l=(b,days,out,(⟨0,0⟩:cT)):=by
   unfold ik;rw [hr0,if_neg (by omega),if_neg (by omega),hi1_1,List.drop_of_length_le (by omega)];rfl
 rw [hX] at hr;clear hX
 simp only [Prod.mk.injEq] at hr;obtain ⟨rfl,rfl,rfl,rfl⟩:=hr
 refine ah aa [6,10,7,8,9,11,1,2] 6 rfl rfl rfl rfl rfl rfl ?_ ?_
 all_goals first|rfl|(simp [au,aT,aX];done)|(simp [au,aT,aX];omega)


def GF (limit:Int):Setup:=⟨[⟨1000,30,1000000000000⟩,⟨1000,30,1000000000000⟩],2,limit⟩
def dj (n:Int) (k:Nat):List aS:=List.replicate k ⟨0,6,n,0,0,0⟩
def qX (j:Nat):List aS:=if j=0 then dj 0 5++dj 1 5 else if j=1 then dj 1 5 else []
def uw:List aS:=[⟨0,5,0,0,0,0⟩,⟨0,5,1,0,0,0⟩]++qX 0
def nH (n:Nat):List aS:=(List.replicate n uw).flatten
def dR (l:List aS):List aS:=l++nH 2
theorem AJ {n:Int} {k:Nat} (h:k < 5):dj n (5 - k)=[⟨0,6,n,0,0,0⟩]++dj n (5 - (k+1)):=by
  have:5 - k=(5 - (k+1))+1:=by omega
  rw [this];rfl
theorem yg {j:Nat} (h:j < 2):qX j=dj (↑j) 5++qX (j+1):=by
  rcases j with _|_|j
  ·rfl
  ·rfl
  ·omega
theorem yQ {i:Nat} (h:i < 2):nH (2 - i)=uw++nH (2 - (i+1)):=by
  have:2 - i=(2 - (i+1))+1:=by omega
  rw [this];rfl
def mG (l:List Int):Bool:=decide (∀ n∈l,1<=n/\n<=100000)

theorem vR (limit:Int):Fn Try.prog 23 [(.c (cI limit))] (.v (.g [(.s 0 0 3 2),(cI 2),(cI limit)])) [(0,.arr 58 3 ((GF limit).cX.map ig))]:=by
 refine Fn.mk' 10 [(0,(aI limit))] Try.func23 rfl rfl rfl rfl ?_
 intro W0 T0
 refine ad aa 1 rfl ?_
 refine ad aa 3 rfl ?_
 refine az aa 2 rfl ?_
 refine aL 3 [2,1,0] (dC (ys:=[(0,(.g [(cI 1000),(cI 30),(cI 1000000000000)])),(1,(.g [(cI 1000),(cI 30),(cI 1000000000000)]))]) (rows:=([(⟨1000,30,1000000000000⟩:dk),(⟨1000,30,1000000000000⟩:dk)]).map ig) 2 GC rfl (by decide) ⟨⟨rfl,rfl⟩,⟨rfl,rfl⟩,trivial⟩ rfl rfl rfl rfl) rfl ?_
 refine ab aa 3 rfl ?_
 refine ae ?_
 refine ar ?_
 refine ah aa [2,0] 1 rfl rfl rfl rfl rfl rfl ?_ ?_
 all_goals first|rfl|(simp [au,aT,aX];done)|(simp [au,aT,aX];omega)
theorem nI (k n s:Int):Fn Try.prog 20 [(.c (cI k)),(.c (cI n)),(.c (cI s))] (.v (.g [(cI 0),(cI k),(cI n),(cI 0),(cI 0),(cI s)])) []:=by
 refine Fn.mk' 11 [(0,(aI k)),(1,(aI n)),(2,(aI s))] Try.func20 rfl rfl rfl rfl ?_
 intro W0 T0
 refine ad aa 1 rfl ?_
 refine ad aa 5 rfl ?_
 refine ar ?_
 refine ah aa [0] 0 rfl rfl rfl rfl rfl rfl ?_ ?_
 all_goals first|rfl|(simp [au,aT,aX];done)|(simp [au,aT,aX];omega)
theorem pw (k n s:Int):Fn Try.prog 21 [(.c (cI k)),(.c (cI n)),(.c (cI s))] (.v (.g [(cI 0),(cI 3),(cI n),(cI 0),(cI k),(cI s)])) []:=by
 refine Fn.mk' 11 [(0,(aI k)),(1,(aI n)),(2,(aI s))] Try.func21 rfl rfl rfl rfl ?_
 intro W0 T0
 refine ad aa 1 rfl ?_
 refine ad aa 5 rfl ?_
 refine ar ?_
 refine ah aa [0] 0 rfl rfl rfl rfl rfl rfl ?_ ?_
 all_goals first|rfl|(simp [au,aT,aX];done)|(simp [au,aT,aX];omega)

theorem vU (l:List aS) (N:Nat) (hN:N=l.length) (hl:l.length<=1000) (r:List aS) (hr:dR l=r):cC Try.prog 19 [(.c (.s 0 0 6 N))] [(0,(wu l))] [] (.v (.c (.s 0 0 6 r.length))) [(0,(wu r))]:=by
 refine cC.mk 25 [(0,(aC (.s 0 0 6 N)))] 1 Try.func19 rfl rfl rfl rfl rfl rfl rfl rfl rfl ?_
 intro W0 F0 T0 pg
 refine fP 0 rfl (fun hlen0=>?_)
 refine ad aa 1 rfl ?_
 refine af ?_
 refine ad aa 1 rfl ?_
 refine aV ?_
 refine cv (β:=Nat×List aS) (fun (p:Nat×List aS)=>match p with|(i,m0)=>⟨[(0,(aC (.s 0 0 6 m0.length))),(2,(aC cN)),(4,(aI (↑i:Int)))],[(0,(wu m0))],1⟩) (fun (p:Nat×List aS)=>match p with|(i,m0)=>i<=2/\m0++nH (2 - i)=dR l/\m0.length+12 * (2 - i)=l.length+24) (fun (p:Nat×List aS)=>match p with|(i,m0)=>2 - i) (0,l) ?_ ?_ ?_
 ·exact ⟨by omega,rfl,by omega⟩
 ·exact aD.bZ id (by refine ⟨?_,?_,?_,trivial⟩<;>first|rfl|(simp only [bn];done)|(congr 3;omega)|(congr 4;omega)|(simp only [bo];rfl)|(first|exact cA rfl (by omega)|exact gy rfl (by first|omega|(simp only [List.length_append,List.length_cons,List.length_nil] at *;omega)))) (⟨by first|rfl|(simp only [bn];done)|(congr 3;omega)|(congr 4;omega)|(simp only [bo];rfl),trivial⟩) rfl
 rintro ⟨i,m0⟩ ⟨hi0_0,hi0_1,hi0_2⟩
 refine ad aa 1 rfl ?_
 refine af ?_
 refine ag rfl (fun hc1=>?_) (fun hc1=>?_)
 ·
  have hc1':=of_decide_eq_true hc1
  refine aP ?_
  refine af ?_
  refine aV ?_
  refine az aa 1 rfl ?_
  refine aL 1 [0] (bM 1 (nI 5 0 0) qC rfl rfl ⟨⟨_,rfl,.c (.d _)⟩,⟨_,rfl,.c (.d _)⟩,⟨_,rfl,.c (.d _)⟩,trivial⟩ ⟨trivial,trivial,trivial,trivial,trivial,trivial,trivial⟩ trivial rfl rfl rfl rfl) rfl ?_
  refine aL 1 [0] (bM 1 (nI 5 1 0) qC rfl rfl ⟨⟨_,rfl,.c (.d _)⟩,⟨_,rfl,.c (.d _)⟩,⟨_,rfl,.c (.d _)⟩,trivial⟩ ⟨trivial,trivial,trivial,trivial,trivial,trivial,trivial⟩ trivial rfl rfl rfl rfl) rfl ?_
  refine aL 2 [1,0] (dC (ys:=[(0,(.g [(cI 0),(cI 5),(cI 0),(cI 0),(cI 0),(cI 0)])),(1,(.g [(cI 0),(cI 5),(cI 1),(cI 0),(cI 0),(cI 0)]))]) (rows:=([(⟨0,5,0,0,0,0⟩:aS),(⟨0,5,1,0,0,0⟩:aS)]).map cL) 1 mr rfl (by decide) ⟨⟨rfl,rfl⟩,⟨rfl,rfl⟩,trivial⟩ rfl rfl rfl rfl) rfl ?_
  refine aL 3 [2,1] (db (m:=2) (N:=m0.length+2) (k2:=2) (ys:=([(⟨0,5,0,0,0,0⟩:aS),(⟨0,5,1,0,0,0⟩:aS)]).map cL) mr rfl rfl rfl rfl rfl rfl (by first|omega|(simp;done)|(simp;omega)) rfl (.s rfl (by first|omega|(simp;done)|(simp;omega))) (by first|omega|(simp;done)|(simp;omega)) (by first|omega|(simp;done)|(simp;omega)) eT (by decide) (by first|omega|(simp;done)|(simp;omega)) (by first|omega|(simp;done)|(simp;omega))) rfl ?_
  refine ab aa 1 rfl ?_
  refine ae ?_
  refine ad aa 1 rfl ?_
  refine aV ?_
  refine cv (β:=Nat×List aS) (fun (p:Nat×List aS)=>match p with|(j,m1)=>⟨[(0,(aC (.s 2 0 6 m1.length))),(2,(aC cN)),(4,(aI (↑i:Int))),(11,(aI (↑j:Int)))],[(2,(wu m1))],3⟩) (fun (p:Nat×List aS)=>match p with|(j,m1)=>j<=2/\m1++qX j=m0++uw/\m1.length+5 * (2 - j)=m0.length+12) (fun (p:Nat×List aS)=>match p with|(j,m1)=>2 - j) (0,m0++([(⟨0,5,0,0,0,0⟩:aS),(⟨0,5,1,0,0,0⟩:aS)])) ?_ ?_ ?_
  ·exact ⟨by omega,by simp [uw],by simp⟩
  ·exact aD.bZ id (by refine ⟨?_,?_,?_,?_,trivial⟩<;>first|rfl|(simp only [bn];done)|(congr 3;omega)|(congr 4;omega)|(simp only [bo];rfl)|(first|exact cA rfl (by omega)|exact gy rfl (by first|omega|(simp only [List.length_append,List.length_cons,List.length_nil] at *;omega)))) (⟨by first|rfl|(simp only [bn];done)|(congr 3;omega)|(congr 4;omega)|(simp only [bo];rfl),trivial⟩) rfl
  rintro ⟨j,m1⟩ ⟨hi1_0,hi1_1,hi1_2⟩
  refine ad aa 1 rfl ?_
  refine af ?_
  refine ag rfl (fun hc2=>?_) (fun hc2=>?_)
  ·
   have hc2':=of_decide_eq_true hc2
   refine aP ?_
   refine af ?_
   refine aV ?_
   refine ad aa 2 rfl ?_
   refine ad aa 1 rfl ?_
   refine aV ?_
   refine cv (β:=Nat×List aS) (fun (p:Nat×List aS)=>match p with|(k,m2)=>⟨[(0,(aC (.s 2 0 6 m2.length))),(2,(aC cN)),(4,(aI (↑i:Int))),(11,(aI (↑j:Int))),(3,(aI (↑j:Int))),(14,(aI (↑k:Int)))],[(2,(wu m2))],3⟩) (fun (p:Nat×List aS)=>match p with|(k,m2)=>k<=5/\m2++dj (↑j) (5 - k)=m1++dj (↑j) 5/\m2.length+(5 - k)=m1.length+5) (fun (p:Nat×List aS)=>match p with|(k,m2)=>5 - k) (0,m1) ?_ ?_ ?_
   ·exact ⟨by omega,rfl,by omega⟩
   ·exact aD.bZ id (by refine ⟨?_,?_,?_,?_,?_,?_,trivial⟩<;>first|rfl|(simp only [bn];done)|(congr 3;omega)|(congr 4;omega)|(simp only [bo];rfl)|(first|exact cA rfl (by omega)|exact gy rfl (by first|omega|(simp only [List.length_append,List.length_cons,List.length_nil] at *;omega)))) (⟨by first|rfl|(simp only [bn];done)|(congr 3;omega)|(congr 4;omega)|(simp only [bo];rfl),trivial⟩) rfl
   rintro ⟨k,m2⟩ ⟨hi2_0,hi2_1,hi2_2⟩
   refine ad aa 1 rfl ?_
   refine af ?_
   refine ag rfl (fun hc3=>?_) (fun hc3=>?_)
   ·
    have hc3':=of_decide_eq_true hc3
    refine aP ?_
    refine af ?_
    refine aV ?_
    refine aw ?_
    refine ab aa 2 rfl ?_
    refine aL 3 [2] (bM 3 (nI 6 (↑j:Int) 0) qC rfl rfl ⟨⟨_,rfl,.c (.d _)⟩,⟨_,rfl,.c (.d _)⟩,⟨_,rfl,.c (.d _)⟩,trivial⟩ ⟨trivial,trivial,trivial,trivial,trivial,trivial,trivial⟩ trivial rfl rfl rfl rfl) rfl ?_
    refine aL 4 [3,2] (dC (ys:=[(0,(.g [(cI 0),(cI 6),(cI (↑j:Int)),(cI 0),(cI 0),(cI 0)]))]) (rows:=([(⟨0,6,(↑j:Int),0,0,0⟩:aS)]).map cL) 3 mr rfl (by decide) ⟨⟨rfl,rfl⟩,trivial⟩ rfl rfl rfl rfl) rfl ?_
    refine aL 5 [4,3] (db (m:=1) (N:=m2.length+1) (k2:=4) (ys:=([(⟨0,6,(↑j:Int),0,0,0⟩:aS)]).map cL) mr rfl rfl rfl rfl rfl rfl (by first|omega|(simp;done)|(simp;omega)) rfl (.s rfl (by first|omega|(simp;done)|(simp;omega))) (by first|omega|(simp;done)|(simp;omega)) (by first|omega|(simp;done)|(simp;omega)) eT (by decide) (by first|omega|(simp;done)|(simp;omega)) (by first|omega|(simp;done)|(simp;omega))) rfl ?_
    refine ab aa 1 rfl ?_
    refine bX ?_
    refine bl ?_
    refine then_ok ?_
    refine aw ?_
    refine ay (aK rfl rfl rfl (aF (by first|omega|(simp;done)|(simp;omega)))) rfl ?_
    refine ab aa 1 rfl ?_
    refine ae ?_
    refine ⟨(k+1,m2++([(⟨0,6,(↑j:Int),0,0,0⟩:aS)])),⟨by omega,by rw [<-hi2_1,AJ (k:=k) (by omega),List.append_assoc],by simp only [List.length_append,List.length_cons,List.length_nil];omega⟩,by first|omega|(simp;done)|(simp;omega),aD.bZ (fun k=>if k=2 then 4 else k) (by refine ⟨?_,?_,?_,?_,?_,?_,trivial⟩<;>first|rfl|(simp only [bn];done)|(congr 3;omega)|(congr 4;omega)|(simp only [bo];rfl)|(first|exact cA rfl (by omega)|exact gy rfl (by first|omega|(simp only [List.length_append,List.length_cons,List.length_nil] at *;omega)))) (⟨by first|rfl|(simp only [bn];done)|(congr 3;omega)|(congr 4;omega)|(simp only [bo];rfl),trivial⟩) rfl⟩
   have hc3':=of_decide_eq_false hc3
   refine cm ?_
   refine aQ ?_
   refine aQ ?_
   refine bO ?_
   refine bl ?_
   refine then_ok ?_
   refine aw ?_
   refine ay (aK rfl rfl rfl (aF (by first|omega|(simp;done)|(simp;omega)))) rfl ?_
   refine ab aa 1 rfl ?_
   refine ae ?_
   refine ⟨(j+1,m2),⟨by omega,by rw [<-hi1_1,yg (j:=j) (by omega),<-List.append_assoc,<-hi2_1,(show 5 - k=0 by omega)];simp [dj],by omega⟩,by first|omega|(simp;done)|(simp;omega),aD.bZ id (by refine ⟨?_,?_,?_,?_,trivial⟩<;>first|rfl|(simp only [bn];done)|(congr 3;omega)|(congr 4;omega)|(simp only [bo];rfl)|(first|exact cA rfl (by omega)|exact gy rfl (by first|omega|(simp only [List.length_append,List.length_cons,List.length_nil] at *;omega)))) (⟨by first|rfl|(simp only [bn];done)|(congr 3;omega)|(congr 4;omega)|(simp only [bo];rfl),trivial⟩) rfl⟩
  have hc2':=of_decide_eq_false hc2
  refine cm ?_
  refine aQ ?_
  refine aQ ?_
  refine bO ?_
  refine bl ?_
  refine then_ok ?_
  refine aw ?_
  refine ay (aK rfl rfl rfl (aF (by first|omega|(simp;done)|(simp;omega)))) rfl ?_
  refine ab aa 1 rfl ?_
  refine ae ?_
  refine ⟨(i+1,m1),⟨by omega,by rw [<-hi0_1,yQ (i:=i) (by omega),<-List.append_assoc,<-hi1_1,(show j=2 by omega)];simp [qX],by omega⟩,by first|omega|(simp;done)|(simp;omega),aD.bZ (fun k=>if k=0 then 2 else k) (by refine ⟨?_,?_,?_,trivial⟩<;>first|rfl|(simp only [bn];done)|(congr 3;omega)|(congr 4;omega)|(simp only [bo];rfl)|(first|exact cA rfl (by omega)|exact gy rfl (by first|omega|(simp only [List.length_append,List.length_cons,List.length_nil] at *;omega)))) (⟨by first|rfl|(simp only [bn];done)|(congr 3;omega)|(congr 4;omega)|(simp only [bo];rfl),trivial⟩) rfl⟩
 have hc1':=of_decide_eq_false hc1
 refine cm ?_
 refine aQ ?_
 refine aQ ?_
 refine bO ?_
 refine then_ok ?_
 refine ad aa 2 rfl ?_
 refine ar ?_
 have hX:dR l=m0:=by
   have:i=2:=by omega
   subst this
   rw [<-hi0_1];simp [nH]
 rw [hX] at hr;clear hX
 subst hr
 refine ah aa [0] 1 rfl rfl rfl rfl rfl rfl ?_ ?_
 all_goals first|rfl|(simp [au,aT,aX];done)|(simp [au,aT,aX];omega)
theorem DF (l:List Int) (r:Bool) (hr:mG l=r):Fn Try.prog 18 [(.c (fV l))] (.v (.c (cB r))) []:=by
 refine Fn.mk' 18 [(0,(aC (fV l)))] Try.func18 rfl rfl rfl rfl ?_
 intro W0 T0
 refine dH 0 rfl (fun hlen0=>?_)
 refine ad aa 1 rfl ?_
 refine af ?_
 refine az aa 1 rfl ?_
 refine ay (cO rfl rfl rfl rfl rfl Try.underlying30) rfl ?_
 refine ab aa 1 rfl ?_
 refine ae ?_
 refine aV ?_
 refine cv (β:=Nat) (fun (q:Nat)=>⟨[(5,(aC (fV l))),(6,(aI (↑l.length:Int))),(7,(aI (↑q:Int)))],[],0⟩) (fun (q:Nat)=>q<=l.length/\(∀ i n,i < q->l[i]?=some n->1<=n/\n<=100000)) (fun (q:Nat)=>l.length - q) 0 ?_ ?_ ?_
 ·exact ⟨by omega,fun i n h=>by omega⟩
 ·exact aD.bZ id (by refine ⟨?_,?_,?_,trivial⟩<;>first|rfl|(simp only [bn];done)|(congr 3;omega)|(congr 4;omega)|(simp only [bo];rfl)) (trivial) rfl
 rintro q ⟨hi0_0,hi0_1⟩
 refine ad aa 1 rfl ?_
 refine af ?_
 refine ag rfl (fun hc1=>?_) (fun hc1=>?_)
 ·
  have hc1':=of_decide_eq_true hc1
  refine aP ?_
  refine af ?_
  refine aV ?_
  refine eJ ?_
  obtain ⟨x1,hx1⟩:=cp (xs:=l) (i:=q) (by first|omega|(simp;done)|(simp;omega))
  refine ay (cU (i:=q) rfl rfl rfl Try.underlying30 fJ (by first|omega|(simp;done)|(simp;omega)) (bw hx1)) rfl ?_
  refine ab aa 2 rfl ?_
  refine ae ?_
  refine cq 16 ((decide (x1 < 1))||(decide (x1 > 100000))) ?_ ?_
  ·
   refine aw ?_
   refine ab aa 3 rfl ?_
   refine bA (t:=13) rfl (fun hb2=>?_) (fun hb2=>?_)
   ·
    have hb2':=of_decide_eq_true hb2
    refine ab aa 3 rfl ?_
    refine ae ?_
    exact aD.bD 7 rfl rfl (by first|(simp [hb2];done)|(simp_all;done)|(exfalso;simp_all;done)|(simp_all;omega)) rfl
   have hb2':=of_decide_eq_false hb2
   refine ab aa 3 rfl ?_
   refine ae ?_
   exact aD.bD 7 rfl rfl (by first|(simp [hb2];done)|(simp_all;done)|(exfalso;simp_all;done)|(simp_all;omega)) rfl
  refine ag rfl (fun hc3=>?_) (fun hc3=>?_)
  ·
   have hc3':=hc3;try simp only [bm,bL] at hc3'
   refine ad aa 1 rfl ?_
   refine ar ?_
   refine bg ?_
   refine ao ?_
   refine ao ?_
   refine bg ?_
   refine ao ?_
   have hX:mG l=false:=by
     simp only [mG,decide_eq_false_iff_not];intro h;have:=h x1 (List.mem_of_getElem? hx1);omega
   rw [hX] at hr;clear hX
   subst hr
   refine ah aa [] 0 rfl rfl rfl rfl rfl rfl ?_ ?_
   all_goals first|rfl|(simp [au,aT,aX];done)|(simp [au,aT,aX];omega)
  have hc3':=hc3;try simp only [bm,bL] at hc3'
  refine cV ?_
  refine bl ?_
  refine then_ok ?_
  refine aw ?_
  refine ay (aK rfl rfl rfl (aF (by first|omega|(simp;done)|(simp;omega)))) rfl ?_
  refine ab aa 1 rfl ?_
  refine ae ?_
  refine ⟨q+1,⟨by omega,fun i n hi hn=>by rcases Nat.lt_or_ge i q with h|h;exact hi0_1 i n h hn;(have:i=q:=by omega);subst this;rw [hx1] at hn;injection hn with hn;subst hn;constructor<;>omega⟩,by first|omega|(simp;done)|(simp;omega),aD.bZ id (by refine ⟨?_,?_,?_,trivial⟩<;>first|rfl|(simp only [bn];done)|(congr 3;omega)|(congr 4;omega)|(simp only [bo];rfl)) (trivial) rfl⟩
 have hc1':=of_decide_eq_false hc1
 refine cm ?_
 refine aQ ?_
 refine aQ ?_
 refine bO ?_
 refine then_ok ?_
 refine ad aa 1 rfl ?_
 refine ar ?_
 have hX:mG l=true:=by
   simp only [mG,decide_eq_true_eq];intro n hn;obtain ⟨i,hi⟩:=List.getElem?_of_mem hn;exact hi0_1 i n (by have:=(List.getElem?_eq_some_iff.1 hi).1;omega) hi
 rw [hX] at hr;clear hX
 subst hr
 refine ah aa [] 0 rfl rfl rfl rfl rfl rfl ?_ ?_
 all_goals first|rfl|(simp [au,aT,aX];done)|(simp [au,aT,aX];omega)

theorem Ct:Fn Try.prog 17 [] (aB true) []:=by
 refine Fn.mk' 53 [] Try.func17 rfl rfl rfl rfl ?_
 intro W0 T0
 refine ad aa 1 rfl ?_
 refine eJ ?_
 refine aL 0 [] (bM 0 (Fn.frozen (av':=(aG [(cR 3 (([(⟨1000,30,1000000000000⟩:dk),(⟨1000,30,1000000000000⟩:dk)]).map ig)),(cI 2),(cI 0)])) (vR 0) ⟨.inr ⟨_,_,_,_,_,rfl,rfl,rfl,by simp⟩,.inl ⟨_,rfl,rfl⟩,.inl ⟨_,rfl,rfl⟩,trivial⟩) Fa rfl rfl ⟨⟨_,rfl,.c (.d _)⟩,trivial⟩ ⟨trivial,trivial,trivial,trivial⟩ trivial rfl rfl rfl rfl) rfl ?_
 refine aL 0 [] (bM 0 (nI 1 0 100) qC rfl rfl ⟨⟨_,rfl,.c (.d _)⟩,⟨_,rfl,.c (.d _)⟩,⟨_,rfl,.c (.d _)⟩,trivial⟩ ⟨trivial,trivial,trivial,trivial,trivial,trivial,trivial⟩ trivial rfl rfl rfl rfl) rfl ?_
 refine aL 0 [] (bM 0 (nI 2 0 60) qC rfl rfl ⟨⟨_,rfl,.c (.d _)⟩,⟨_,rfl,.c (.d _)⟩,⟨_,rfl,.c (.d _)⟩,trivial⟩ ⟨trivial,trivial,trivial,trivial,trivial,trivial,trivial⟩ trivial rfl rfl rfl rfl) rfl ?_
 refine aL 0 [] (bM 0 (pw 3 0 40) yM rfl rfl ⟨⟨_,rfl,.c (.d _)⟩,⟨_,rfl,.c (.d _)⟩,⟨_,rfl,.c (.d _)⟩,trivial⟩ ⟨trivial,trivial,trivial,trivial,trivial,trivial,trivial⟩ trivial rfl rfl rfl rfl) rfl ?_
 refine aL 1 [0] (dC (ys:=[(0,(.g [(cI 0),(cI 1),(cI 0),(cI 0),(cI 0),(cI 100)])),(1,(.g [(cI 0),(cI 2),(cI 0),(cI 0),(cI 0),(cI 60)])),(2,(.g [(cI 0),(cI 3),(cI 0),(cI 0),(cI 3),(cI 40)]))]) (rows:=([(⟨0,1,0,0,0,100⟩:aS),(⟨0,2,0,0,0,60⟩:aS),(⟨0,3,0,0,3,40⟩:aS)]).map cL) 0 mr rfl (by decide) ⟨⟨rfl,rfl⟩,⟨rfl,rfl⟩,⟨rfl,rfl⟩,trivial⟩ rfl rfl rfl rfl) rfl ?_
 have hr0:dR ([(⟨0,1,0,0,0,100⟩:aS),(⟨0,2,0,0,0,60⟩:aS),(⟨0,3,0,0,3,40⟩:aS)])=(dR ([(⟨0,1,0,0,0,100⟩:aS),(⟨0,2,0,0,0,60⟩:aS),(⟨0,3,0,0,3,40⟩:aS)])):=rfl
 refine aL 2 [1] (cw id (aW [1]) (vU ([(⟨0,1,0,0,0,100⟩:aS),(⟨0,2,0,0,0,60⟩:aS),(⟨0,3,0,0,3,40⟩:aS)]) 3 (by first|omega|(simp;done)|(simp;omega)) (by first|omega|(simp;done)|(simp;omega)) (dR ([(⟨0,1,0,0,0,100⟩:aS),(⟨0,2,0,0,0,60⟩:aS),(⟨0,3,0,0,3,40⟩:aS)])) hr0) Ce rfl rfl ⟨⟨_,rfl,.inl ⟨rfl,rfl⟩⟩,trivial⟩ ⟨rfl,trivial⟩ rfl rfl rfl rfl rfl rfl trivial ⟨(fun _ _ _ _=>trivial),trivial⟩ rfl rfl rfl rfl) rfl ?_
 refine mf (s':=[(0,(aB false)),(5,(aG [(cR 3 (([(⟨1000,30,1000000000000⟩:dk),(⟨1000,30,1000000000000⟩:dk)]).map ig)),(cI 2),(cI 0)])),(6,(aG [(cI 0),(cI 1),(cI 0),(cI 0),(cI 0),(cI 100)])),(7,(aG [(cI 0),(cI 2),(cI 0),(cI 0),(cI 0),(cI 60)])),(8,(aG [(cI 0),(cI 3),(cI 0),(cI 0),(cI 3),(cI 40)])),(10,(aC (uA (dR ([(⟨0,1,0,0,0,100⟩:aS),(⟨0,2,0,0,0,60⟩:aS),(⟨0,3,0,0,3,40⟩:aS)])))))]) (h':=[]) 1 rfl ⟨⟨_,rfl,.inl ⟨rfl,rfl⟩⟩,⟨_,rfl,.inl ⟨rfl,rfl⟩⟩,⟨_,rfl,.inl ⟨rfl,rfl⟩⟩,⟨_,rfl,.inl ⟨rfl,rfl⟩⟩,⟨_,rfl,.inl ⟨rfl,rfl⟩⟩,⟨_,rfl,.inr ⟨_,_,rfl,rfl,.s rfl (by decide) (by first|omega|(simp;done)|(simp;omega))⟩⟩,trivial⟩ trivial rfl ?_
 have hr1:ik (⟨[(⟨1000,30,1000000000000⟩:dk),(⟨1000,30,1000000000000⟩:dk)],2,0⟩:Setup) (dR ([(⟨0,1,0,0,0,100⟩:aS),(⟨0,2,0,0,0,60⟩:aS),(⟨0,3,0,0,3,40⟩:aS)]))=((⟨0,false,[⟨60,0,⟨1000,30,1000000000000⟩,[⟨0,60⟩]⟩,⟨0,0,⟨1000,30,1000000000000⟩,[]⟩],[40,0],[⟨0,0,60,40,0,0,100,true⟩],⟨1,[]⟩,⟨0,[]⟩,0,1,[],[],⟨0,[0,0],[]⟩,[⟨0,0,3,40⟩],[⟨0,-100⟩,⟨10,60⟩,⟨50,40⟩]⟩:Bk),[],(ik (⟨[(⟨1000,30,1000000000000⟩:dk),(⟨1000,30,1000000000000⟩:dk)],2,0⟩:Setup) (dR ([(⟨0,1,0,0,0,100⟩:aS),(⟨0,2,0,0,0,60⟩:aS),(⟨0,3,0,0,3,40⟩:aS)]))).2.2.1,(⟨0,0⟩:cT)):=by kernel_rfl
 refine aL 2 [] (bM 2 (Fn.frozen (av':=(.t [(.g [(cI 0),(cB false),(DO ([⟨60,0,⟨1000,30,1000000000000⟩,[⟨0,60⟩]⟩,⟨0,0,⟨1000,30,1000000000000⟩,[]⟩])),(fV ([40,0])),(zg ([⟨0,0,60,40,0,0,100,true⟩])),(cI 1),(dd ([])),(cI 0),(dd ([])),(cI 0),(cI 1),(eo ([])),(eo ([])),(cI 0),(fV ([0,0])),(gR ([])),(jf ([⟨0,0,3,40⟩])),(DM ([])),(dT ([⟨0,-100⟩,⟨10,60⟩,⟨50,40⟩]))]),(.c (DN ((ik (⟨[(⟨1000,30,1000000000000⟩:dk),(⟨1000,30,1000000000000⟩:dk)],2,0⟩:Setup) (dR ([(⟨0,1,0,0,0,100⟩:aS),(⟨0,2,0,0,0,60⟩:aS),(⟨0,3,0,0,3,40⟩:aS)]))).2.2.1))),(.g [(cI 0),(cI 0)])])) (AG (⟨[(⟨1000,30,1000000000000⟩:dk),(⟨1000,30,1000000000000⟩:dk)],2,0⟩:Setup) (dR ([(⟨0,1,0,0,0,100⟩:aS),(⟨0,2,0,0,0,60⟩:aS),(⟨0,3,0,0,3,40⟩:aS)])) (⟨0,false,[⟨60,0,⟨1000,30,1000000000000⟩,[⟨0,60⟩]⟩,⟨0,0,⟨1000,30,1000000000000⟩,[]⟩],[40,0],[⟨0,0,60,40,0,0,100,true⟩],⟨1,[]⟩,⟨0,[]⟩,0,1,[],[],⟨0,[0,0],[]⟩,[⟨0,0,3,40⟩],[⟨0,-100⟩,⟨10,60⟩,⟨50,40⟩]⟩:Bk) ([]) ((ik (⟨[(⟨1000,30,1000000000000⟩:dk),(⟨1000,30,1000000000000⟩:dk)],2,0⟩:Setup) (dR ([(⟨0,1,0,0,0,100⟩:aS),(⟨0,2,0,0,0,60⟩:aS),(⟨0,3,0,0,3,40⟩:aS)]))).2.2.1) (⟨0,0⟩:cT) hr1) ⟨⟨.inl ⟨_,rfl,rfl⟩,.inl ⟨_,rfl,rfl⟩,.inr ⟨_,_,_,_,_,rfl,rfl,rfl,by simp⟩,.inr ⟨_,_,_,_,_,rfl,rfl,rfl,by simp⟩,.inr ⟨_,_,_,_,_,rfl,rfl,rfl,by simp⟩,.inl ⟨_,rfl,rfl⟩,.inl ⟨_,rfl,rfl⟩,.inl ⟨_,rfl,rfl⟩,.inl ⟨_,rfl,rfl⟩,.inl ⟨_,rfl,rfl⟩,.inl ⟨_,rfl,rfl⟩,.inl ⟨_,rfl,rfl⟩,.inl ⟨_,rfl,rfl⟩,.inl ⟨_,rfl,rfl⟩,.inl ⟨_,rfl,rfl⟩,.inl ⟨_,rfl,rfl⟩,.inr ⟨_,_,_,_,_,rfl,rfl,rfl,by simp⟩,.inr ⟨_,_,_,_,_,rfl,rfl,rfl,by simp⟩,.inl ⟨_,rfl,rfl⟩,trivial⟩,.inr ⟨_,_,_,_,_,rfl,rfl,rfl,by simp⟩,⟨.inl ⟨_,rfl,rfl⟩,.inl ⟨_,rfl,rfl⟩,trivial⟩,trivial⟩) Fb rfl rfl ⟨⟨_,rfl,.g ⟨.d _,.d _,.d _,trivial⟩⟩,⟨_,rfl,.c (.d _)⟩,trivial⟩ ⟨⟨trivial,trivial,trivial,trivial,trivial,trivial,trivial,trivial,trivial,trivial,trivial,trivial,trivial,trivial,trivial,trivial,trivial,trivial,trivial,trivial⟩,trivial,⟨trivial,trivial,trivial⟩,trivial⟩ trivial rfl rfl rfl rfl) rfl ?_
 refine ab aa 9 rfl ?_
 refine ae ?_
 refine az aa 2 rfl ?_
 refine ay (aK rfl rfl rfl (show _=some (Value.bool true) from rfl)) rfl ?_
 refine ab aa 3 rfl ?_
 refine dW (al.yes rfl rfl rfl) (cO rfl rfl rfl rfl rfl Try.underlying29) rfl rfl ?_
 refine dW (al.yes rfl rfl rfl) (aK rfl rfl rfl (show _=some (Value.bool true) from rfl)) rfl rfl ?_
 refine ab aa 4 rfl ?_
 refine dW (al.yes rfl rfl rfl) (cO rfl rfl rfl rfl rfl Try.underlying30) rfl rfl ?_
 refine dW (al.yes rfl rfl rfl) (aK rfl rfl rfl (show _=some (Value.bool true) from rfl)) rfl rfl ?_
 refine ab aa 4 rfl ?_
 refine dW (al.yes rfl rfl rfl) (cU (i:=0) rfl rfl rfl Try.underlying29 iB (by first|omega|(simp;done)|(simp;omega)) (bw (show ([⟨60,0,⟨1000,30,1000000000000⟩,[⟨0,60⟩]⟩,⟨0,0,⟨1000,30,1000000000000⟩,[]⟩]:List bx)[0]?=some (⟨60,0,⟨1000,30,1000000000000⟩,[⟨0,60⟩]⟩:bx) from rfl))) rfl rfl ?_
 refine ab aa 2 rfl ?_
 refine dW (al.yes rfl rfl rfl) (aK rfl rfl rfl (show _=some (Value.bool true) from rfl)) rfl rfl ?_
 refine ab aa 4 rfl ?_
 refine dW (al.yes rfl rfl rfl) (cU (i:=0) rfl rfl rfl Try.underlying29 iB (by first|omega|(simp;done)|(simp;omega)) (bw (show ([⟨60,0,⟨1000,30,1000000000000⟩,[⟨0,60⟩]⟩,⟨0,0,⟨1000,30,1000000000000⟩,[]⟩]:List bx)[0]?=some (⟨60,0,⟨1000,30,1000000000000⟩,[⟨0,60⟩]⟩:bx) from rfl))) rfl rfl ?_
 refine ab aa 2 rfl ?_
 refine dW (al.yes rfl rfl rfl) (aK rfl rfl rfl (show _=some (Value.bool true) from rfl)) rfl rfl ?_
 refine ab aa 4 rfl ?_
 refine dW (al.yes rfl rfl rfl) (cU (i:=0) rfl rfl rfl Try.underlying30 fJ (by first|omega|(simp;done)|(simp;omega)) (bw (show ([40,0]:List Int)[0]?=some 40 from rfl))) rfl rfl ?_
 refine ab aa 1 rfl ?_
 refine dW (al.yes rfl rfl rfl) (aK rfl rfl rfl (show _=some (Value.bool true) from rfl)) rfl rfl ?_
 refine ab aa 2 rfl ?_
 refine ae ?_
 refine ar ?_
 refine ah aa [] 0 rfl rfl rfl rfl rfl rfl ?_ ?_
 all_goals first|rfl|(simp [au,aT,aX];done)|(simp [au,aT,aX];omega)
end Go.Proofs.Ytegepioggeggaaa.Dev
