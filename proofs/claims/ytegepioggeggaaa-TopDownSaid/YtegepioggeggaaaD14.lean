/- A part of the proof: BankUp, Bank12, Bank13, Play0, Play1, Top1, Top2, Top3. No condition. -/
import Derived.Test.YtegepioggeggaaaD12
import Derived.Test.YtegepioggeggaaaD13
set_option linter.unusedVariables false
set_option linter.unusedSimpArgs false
set_option maxHeartbeats 8000000
set_option maxRecDepth 100000
namespace Go.Proofs.Ytegepioggeggaaa.Dev
open Go.RowKit

theorem Gp (x:Nat->Value) (hx:∀ i,(x i).oneCell'=true) (b:Bk) (ok:cj b) (b2:Bk) (a2:Answer) (hr:ig b=(b2,a2)):cz Try.prog 68 [(.c (.p 0 0 0 0))] [(0,(.box 98 (aR b 1 2 3 4 (.d (.v (x 17))) (.d (.v (x 19)))))),(1,(dJ b.ao)),(2,(dx b.due)),(3,(dR b.au)),(4,(cF b.aQ))] [0] (.v (.g [cI a2.err,cI a2.ba])) [(0,(.box 98 (aR b2 1 2 3 4 (.d (.v (x 17))) (.d (.v (x 19)))))),(1,(dJ b2.ao)),(2,(dx b2.due)),(3,(dR b2.au)),(4,(cF b2.aQ))]:=by
 refine cz.mk 116 [(0,(aC (.p 0 0 0 0)))] 5 Try.func68 rfl rfl rfl rfl rfl rfl rfl rfl rfl ?_
 intro W0 F0 T0 pg
 obtain ⟨okt,okc,okd,oka,oky,okw0,okw1,okp,okv,okk0,okk1,okg,okl0,okl1,okp0,okp1,okn0,okn1,okq⟩:=id ok
 refine ad aa 1 rfl ?_
 refine af ?_
 refine ad aa 6 rfl ?_
 refine ag rfl (fun hc1=>?_) (fun hc1=>?_)
 ·
  have hc1':=hc1;try simp only [bd,bF] at hc1'
  refine ad aa 2 rfl ?_
  refine aq ?_
  refine an ?_
  have hX:ig b=(b,(⟨8,0⟩:Answer)):=by
    unfold ig;rw [if_pos (by cases hd:b.down<;>simp_all)]
  rw [hX] at hr;clear hX
  simp only [Prod.mk.injEq] at hr;obtain ⟨rfl,rfl⟩:=hr
  refine aj aa [0,1,2,3,4,5] 5 rfl rfl rfl rfl rfl rfl ?_ ?_
  all_goals first|rfl|(simp [ar,aR,aX];done)|(simp [ar,aR,aX];omega)
 have hc1':=hc1;try simp only [bd,bF] at hc1'
 refine aN ?_
 refine az aa 5 rfl ?_
 obtain ⟨xr0,l0,e0,hr0⟩:∃ (xr0:cr) (l0:List bS) (e0:Int),cM b.bE=(xr0,l0,e0):=⟨_,_,_,rfl⟩
 refine aL 6 [5,0,1,2,3,4] (bI 6 (Fn.frozen (av':=(.t [(.g [(cI xr0.cap),(fF xr0.used),(gH xr0.aU)]),(.c (gH l0)),(.c (cI e0))])) (tJ b.bE xr0 l0 e0 hr0) ⟨⟨.inl ⟨_,rfl,rfl⟩,.inr ⟨_,_,_,_,_,rfl,rfl,rfl,by simp⟩,.inr ⟨_,_,_,_,_,rfl,rfl,rfl,by simp⟩,trivial⟩,.inr ⟨_,_,_,_,_,rfl,rfl,rfl,by simp⟩,.inl ⟨_,rfl,rfl⟩,trivial⟩) FO rfl rfl ⟨⟨_,rfl,.g ⟨.d _,.d _,.d _,trivial⟩⟩,trivial⟩ ⟨⟨trivial,trivial,trivial,trivial⟩,trivial,trivial,trivial⟩ trivial rfl rfl rfl rfl) rfl ?_
 refine ab aa 8 rfl ?_
 refine ae ?_
 refine af ?_
 refine ad aa 2 rfl ?_
 refine ag rfl (fun hc2=>?_) (fun hc2=>?_)
 ·
  have hc2':=of_decide_eq_true hc2
  refine ad aa 3 rfl ?_
  refine aq ?_
  refine an ?_
  have hX:ig b=(b,(⟨e0,0⟩:Answer)):=by
    unfold ig;rw [if_neg (by cases hd:b.down<;>simp_all),hr0];dsimp only;rw [if_pos (by omega)]
  rw [hX] at hr;clear hX
  simp only [Prod.mk.injEq] at hr;obtain ⟨rfl,rfl⟩:=hr
  refine aj aa [0,1,2,3,4,5] 5 rfl rfl rfl rfl rfl rfl ?_ ?_
  all_goals first|rfl|(simp [ar,aR,aX];done)|(simp [ar,aR,aX];omega)
 have hc2':=of_decide_eq_false hc2
 refine aN ?_
 refine az aa 1 rfl ?_
 refine aL 16 [0,7,8,9,10,11,12,13,14,15,6,5] (cA id (aY [0,7,8,9,10,11,12,13,14,15]) (jU (x 17) (x 19) b (by first|omega|(simp;done)|(simp;omega)) (by first|omega|(simp;done)|(simp;omega)) (by first|omega|(simp;done)|(simp;omega)) (by first|omega|(simp;done)|(simp;omega))) qn rfl rfl ⟨⟨_,rfl,.inl ⟨rfl,rfl⟩⟩,trivial⟩ ⟨rfl,rfl,rfl,rfl,rfl,trivial⟩ rfl rfl rfl rfl rfl rfl trivial ⟨⟨trivial,trivial,trivial,trivial,trivial,trivial,trivial,trivial,trivial,trivial,trivial,trivial,trivial,trivial,trivial,trivial,trivial,trivial,trivial,trivial,trivial⟩,⟨trivial,trivial,trivial,trivial,trivial,trivial,trivial,trivial,trivial,trivial,trivial,trivial,trivial,trivial,trivial,trivial,trivial,trivial,trivial,trivial,trivial⟩,(fun _ _ _ _=>trivial),(fun _ _ _ _=>trivial),(fun _ _ _ _=>trivial),(fun _ _ _ _=>trivial),(fun _ _ _ _=>trivial),(fun _ _ _ _=>trivial),(fun _ _ _ _=>trivial),(fun _ _ _ _=>trivial),trivial⟩ rfl rfl rfl rfl) rfl ?_
 refine ab aa 1 rfl ?_
 refine ae ?_
 refine af ?_
 obtain rfl:e0=0:=by omega
 have hcl:l0=b.bE.aU:=by have h:=(qt (s:=b.bE) (by rw [hr0])).2.2;rw [hr0] at h;exact h
 refine az aa 1 rfl ?_
 refine ax (cT rfl rfl rfl rfl rfl Try.underlying39) rfl ?_
 refine ab aa 1 rfl ?_
 refine ae ?_
 refine aV ?_
 refine cu (β:=Nat×List bC×List bz) (fun (p:Nat×List bC×List bz)=>match p with|(q,cs,xs)=>⟨[(0,(aC (.p 0 0 0 0))),(2,(aC (.p 5 0 0 0))),(3,(aC (.p 6 0 0 0))),(6,(aC (.p 7 0 0 0))),(36,(aC (gH l0))),(37,(aI (↑l0.length:Int))),(38,(aI (↑q:Int)))],[(0,(.box 98 (aR b 8 9 10 11 (.d (.v (x 17))) (.d (.v (x 19)))))),(7,(.box 147 (((aR b 12 13 14 15 (.d (.v (x 17))) (cI 0)).set 2 (.s 12 0 6 cs.length)).set 4 (.s 14 0 8 xs.length)))),(8,(dJ b.ao)),(9,(dx b.due)),(10,(dR b.au)),(11,(cF b.aQ)),(12,(dJ cs)),(13,(dx b.due)),(14,(dR xs)),(15,(cF b.aQ)),(6,(.box 41 [(cI xr0.cap),(fF xr0.used),(gH xr0.aU)])),(5,(.box 65 [(cI 0),(cI 0)]))],16⟩) (fun (p:Nat×List bC×List bz)=>match p with|(q,cs,xs)=>q<=l0.length/\fA l0 b.ao b.au=fA (l0.drop q) cs xs/\cs.length=b.ao.length/\xs.length=b.au.length+q) (fun (p:Nat×List bC×List bz)=>match p with|(q,cs,xs)=>l0.length - q) (0,b.ao,b.au) ?_ ?_ ?_
 ·exact ⟨by omega,rfl,rfl,rfl⟩
 ·exact aD.bZ id (by refine ⟨?_,?_,?_,?_,?_,?_,?_,trivial⟩<;>first|rfl|(simp only [bq];done)|(congr 3;omega)|(congr 4;omega)|(simp only [br];rfl)) (by refine ⟨?_,?_,?_,?_,?_,?_,?_,?_,?_,?_,?_,?_,trivial⟩<;>first|rfl|(simp only [bq];done)|(congr 3;omega)|(congr 4;omega)|(simp only [br];rfl)) rfl
 rintro ⟨q,cs,xs⟩ ⟨hi0_0,hi0_1,hi0_2,hi0_3⟩
 have hll:b.au.length+l0.length<=30:=by rw [hcl];exact oka
 refine ad aa 1 rfl ?_
 refine af ?_
 refine ag rfl (fun hc3=>?_) (fun hc3=>?_)
 ·
  have hc3':=of_decide_eq_true hc3
  refine aN ?_
  refine af ?_
  refine aV ?_
  refine eM ?_
  obtain ⟨x1,hx1⟩:=bY (xs:=l0) (i:=q) (by first|omega|(simp;done)|(simp;omega))
  have hx1A:=okv x1 (by rw [<-hcl];exact List.mem_of_getElem? hx1)
  refine ax (cf (i:=q) rfl rfl rfl Try.underlying39 BG (by first|omega|(simp;done)|(simp;omega)) (bf hx1)) rfl ?_
  refine ab aa 3 rfl ?_
  refine ae ?_
  refine az aa 8 rfl ?_
  obtain ⟨b1,e1,hr1⟩:∃ (b1:bz) (e1:Int),cZ x1.aK x1.ay x1.sum x1.time=(b1,e1):=⟨_,_,rfl⟩
  refine aL 17 [16,0,7,8,9,10,11,12,13,14,15,6,5] (bI 17 (rv x1.aK x1.ay x1.sum x1.time b1 e1 hr1) DK rfl rfl ⟨⟨_,rfl,.c (.d _)⟩,⟨_,rfl,.c (.d _)⟩,⟨_,rfl,.c (.d _)⟩,⟨_,rfl,.c (.d _)⟩,trivial⟩ ⟨⟨trivial,trivial,trivial,trivial,trivial,trivial,trivial,trivial,trivial⟩,trivial,trivial⟩ trivial rfl rfl rfl rfl) rfl ?_
  refine ab aa 6 rfl ?_
  refine ae ?_
  refine af ?_
  refine az aa 2 rfl ?_
  obtain ⟨e22,hr2⟩:∃ (e22:Int),dv 0 e1=e22:=⟨_,rfl⟩
  refine aL 18 [7,17,16,0,8,9,10,11,12,13,14,15,6,5] (cg (aY [7]) (aY [7]) (ms:=(dp.set 19 (some (cI 0)))) (ms':=(dp.set 19 (some (cI e22)))) (fun x hx=>jB x hx 0 e1 e22 hr2) nu rfl rfl ⟨⟨_,rfl,.inl ⟨rfl,rfl⟩⟩,⟨_,rfl,.inr (.c (.d _))⟩,trivial⟩ rfl rfl rfl rfl rfl rfl rfl trivial rfl rfl rfl rfl rfl rfl rfl rfl rfl rfl rfl rfl rfl) rfl ?_
  refine ae ?_
  refine ag rfl (fun hc4=>?_) (fun hc4=>?_)
  ·
   have hc4':=of_decide_eq_true hc4
   refine cp ?_
   refine aP ?_
   refine rB rfl ?_
   refine aP ?_
   refine aP ?_
   refine bP ?_
   refine then_ok ?_
   refine ad aa 11 rfl ?_
   refine af ?_
   refine az aa 2 rfl ?_
   refine aL 22 [0,18,19,20,21,17,16,6,5] (cA (aY [0,7,8,9,10,11,12,13,14,15]) (aY [0,18,19,20,21]) (fR (x 17) (x 19) b (⟨b.time,false,cs,b.due,xs,b.s0,b.s1,b.n0,b.n1,b.w0,b.w1,xr0,b.aQ,b.book⟩:Bk) e22 (by first|assumption|omega)) fz rfl rfl ⟨⟨_,rfl,.inl ⟨rfl,rfl⟩⟩,⟨_,rfl,.inl ⟨rfl,rfl⟩⟩,trivial⟩ ⟨rfl,rfl,rfl,rfl,rfl,rfl,rfl,rfl,rfl,rfl,trivial⟩ rfl rfl rfl rfl rfl rfl trivial ⟨⟨trivial,trivial,trivial,trivial,trivial,trivial,trivial,trivial,trivial,trivial,trivial,trivial,trivial,trivial,trivial,trivial,trivial,trivial,trivial,trivial,trivial⟩,(fun _ _ _ _=>trivial),(fun _ _ _ _=>trivial),(fun _ _ _ _=>trivial),(fun _ _ _ _=>trivial),trivial⟩ rfl rfl rfl rfl) rfl ?_
   refine ab aa 1 rfl ?_
   refine ae ?_
   refine ad aa 2 rfl ?_
   refine ag rfl (fun _=>?_) (fun hno=>absurd (hc4.symm.trans hno) (by decide))
   refine ad aa 3 rfl ?_
   refine aq ?_
   refine an ?_
   have hX:ig b=(b,(⟨e22,0⟩:Answer)):=by
     exact yo (by cases hd:b.down<;>simp_all) hr0 (hi0_1.trans (Ab hx1 hr1 hr2 (by omega))) (by omega)
   rw [hX] at hr;clear hX
   simp only [Prod.mk.injEq] at hr;obtain ⟨rfl,rfl⟩:=hr
   refine aj aa [0,18,19,20,21,5] 5 rfl rfl rfl rfl rfl rfl ?_ ?_
   all_goals first|rfl|(simp [ar,aR,aX];done)|(simp [ar,aR,aX];omega)
  have hc4':=of_decide_eq_false hc4
  refine aN ?_
  obtain rfl:e22=0:=by omega
  refine af ?_
  obtain ⟨x2,hx2⟩:=bY (xs:=cs) (i:=Int.toNat (x1.aK)) (by first|omega|(simp;done)|(simp;omega))
  obtain ⟨xr3,e3,hr3⟩:∃ (xr3:bC) (e3:Int),eu x2 x1.sum=(xr3,e3):=⟨_,_,rfl⟩
  refine cX [0,2,3,6,36,37,38,8,9] [7,17,16,0,8,9,10,11,12,13,14,15,6,5] mixed rfl rfl ?_
  refine bQ (kn:=[]) aa 7 rfl trivial ?_
  refine bT (n':=18) [62,64] [12] rfl rfl (.inl ⟨(ah.plain rfl),aH.cast (bo (i:=Int.toNat (x1.aK)) rfl rfl rfl Try.underlying29 ft (by first|omega|(simp;done)|(simp;omega)) (by first|omega|(simp;done)|(simp;omega))) rfl⟩) rfl ?_
  refine bT (n':=18) [65] [12] rfl rfl (.inl ⟨(ah.plain rfl),aH.cast (db rfl rfl rfl Try.underlying61 rfl ft (bf hx2) rfl) rfl⟩) rfl ?_
  refine bQ (kn:=[]) aa 2 rfl trivial ?_
  refine bT (n':=18) [66,68] [] rfl rfl (.inl ⟨(ah.plain rfl),aH.cast (bI 18 (Fn.frozen (av':=(.t [(.g [(cI xr3.bu),(cI xr3.held),(cI xr3.ca.cH),(cI xr3.ca.count),(cI xr3.ca.sum),(fj xr3.cL)]),(.c (cI e3))])) (vp x2 x1.sum xr3 e3 hr3) ⟨⟨.inl ⟨_,rfl,rfl⟩,.inl ⟨_,rfl,rfl⟩,.inl ⟨_,rfl,rfl⟩,.inl ⟨_,rfl,rfl⟩,.inl ⟨_,rfl,rfl⟩,.inr ⟨_,_,_,_,_,rfl,rfl,rfl,by simp⟩,trivial⟩,.inl ⟨_,rfl,rfl⟩,trivial⟩) FN rfl rfl ⟨⟨_,rfl,.g ⟨.d _,.d _,.d _,.d _,.d _,.d _,trivial⟩⟩,⟨_,rfl,.c (.d _)⟩,trivial⟩ ⟨⟨trivial,trivial,trivial,trivial,trivial,trivial,trivial⟩,trivial,trivial⟩ trivial rfl rfl rfl rfl) rfl⟩) rfl ?_
  refine bQ (n':=19) (kn:=[]) aa 6 rfl trivial ?_
  refine dK [0,2,3,6,36,37,38,8,9,11,10] [18,7,17,16,0,8,9,10,11,12,13,14,15,6,5] rfl rfl (by kernel_rfl) ?_
  refine then_ok ?_
  refine af ?_
  refine az aa 2 rfl ?_
  obtain ⟨e24,hr4⟩:∃ (e24:Int),dv 0 e3=e24:=⟨_,rfl⟩
  refine aL 19 [7,18,17,16,0,8,9,10,11,12,13,14,15,6,5] (cg (aY [7]) (aY [7]) (ms:=(dp.set 19 (some (cI 0)))) (ms':=(dp.set 19 (some (cI e24)))) (fun x hx=>jB x hx 0 e3 e24 hr4) nu rfl rfl ⟨⟨_,rfl,.inl ⟨rfl,rfl⟩⟩,⟨_,rfl,.inr (.c (.d _))⟩,trivial⟩ rfl rfl rfl rfl rfl rfl rfl trivial rfl rfl rfl rfl rfl rfl rfl rfl rfl rfl rfl rfl rfl) rfl ?_
  refine ae ?_
  refine ag rfl (fun hc6=>?_) (fun hc6=>?_)
  ·
   have hc6':=of_decide_eq_true hc6
   refine cp ?_
   refine aP ?_
   refine rB rfl ?_
   refine aP ?_
   refine aP ?_
   refine bP ?_
   refine then_ok ?_
   refine ad aa 11 rfl ?_
   refine af ?_
   refine az aa 2 rfl ?_
   refine aL 23 [0,19,20,21,22,18,17,16,6,5] (cA (aY [0,7,8,9,10,11,12,13,14,15]) (aY [0,19,20,21,22]) (fR (x 17) (x 19) b (⟨b.time,false,cs,b.due,xs,b.s0,b.s1,b.n0,b.n1,b.w0,b.w1,xr0,b.aQ,b.book⟩:Bk) e24 (by first|assumption|omega)) fz rfl rfl ⟨⟨_,rfl,.inl ⟨rfl,rfl⟩⟩,⟨_,rfl,.inl ⟨rfl,rfl⟩⟩,trivial⟩ ⟨rfl,rfl,rfl,rfl,rfl,rfl,rfl,rfl,rfl,rfl,trivial⟩ rfl rfl rfl rfl rfl rfl trivial ⟨⟨trivial,trivial,trivial,trivial,trivial,trivial,trivial,trivial,trivial,trivial,trivial,trivial,trivial,trivial,trivial,trivial,trivial,trivial,trivial,trivial,trivial⟩,(fun _ _ _ _=>trivial),(fun _ _ _ _=>trivial),(fun _ _ _ _=>trivial),(fun _ _ _ _=>trivial),trivial⟩ rfl rfl rfl rfl) rfl ?_
   refine ab aa 1 rfl ?_
   refine ae ?_
   refine ad aa 2 rfl ?_
   refine ag rfl (fun _=>?_) (fun hno=>absurd (hc6.symm.trans hno) (by decide))
   refine ad aa 3 rfl ?_
   refine aq ?_
   refine an ?_
   have hX:ig b=(b,(⟨e24,0⟩:Answer)):=by
     exact yo (by cases hd:b.down<;>simp_all) hr0 (hi0_1.trans (Aa hx1 hr1 hr2 hx2 hr3 hr4 (by omega))) (by omega)
   rw [hX] at hr;clear hX
   simp only [Prod.mk.injEq] at hr;obtain ⟨rfl,rfl⟩:=hr
   refine aj aa [0,19,20,21,22,5] 5 rfl rfl rfl rfl rfl rfl ?_ ?_
   all_goals first|rfl|(simp [ar,aR,aX];done)|(simp [ar,aR,aX];omega)
  have hc6':=of_decide_eq_false hc6
  refine aN ?_
  obtain rfl:e24=0:=by omega
  refine af ?_
  refine bb [0,2,3,6,36,37,38,8,9,11] [7,18,17,16,0,8,9,10,11,12,13,14,15,6,5] mixed rfl rfl ?_
  refine aA (kn:=[]) aa 8 rfl trivial ?_
  refine aS (n':=19) [79,81] [12] rfl rfl (.inl ⟨(ah.plain rfl),aH.cast (bo (i:=Int.toNat (x1.aK)) rfl rfl rfl Try.underlying29 ft (by first|omega|(simp;done)|(simp;omega)) (by first|omega|(simp;done)|(simp;omega))) rfl⟩) rfl ?_
  refine bx [7,18,17,16,0,8,9,10,11,12,13,14,15,6,5] rfl rfl rfl rfl (by kernel_rfl) ?_
  refine gb [7,18,17,16,0,8,9,10,11,12,13,14,15,6,5] (dG (ds:=[(dI xr3.bu),(dI xr3.held),(dI xr3.ca.cH),(dI xr3.ca.count),(dI xr3.ca.sum),(DV xr3.cL)]) rfl rfl rfl rfl rfl ft rfl (Nat.le_of_ble_eq_true rfl) (bf hx2) rfl (eG (x':=xr3) rfl)) rfl ?_
  refine ae ?_
  refine fr (k:=7) (q:=2) (c':=(.s 12 0 6 (((cs).set (Int.toNat (x1.aK)) xr3).length))) rfl rfl (by first|rfl|(simp;done)|(congr 1;omega)) rfl ?_
  refine bb [0,2,3,6,36,37,38,9] [7,17,0,8,9,10,11,12,13,14,15,6,5] mixed rfl rfl ?_
  refine aA (kn:=[]) aa 7 rfl trivial ?_
  refine aS (n':=20) [90] [] rfl rfl (.inl ⟨(ah.plain rfl),aH.cast (dD (ys:=[(0,(.g [(cI b1.aK),(cI b1.ay),(cI b1.sum),(cI b1.captured),(cI b1.bw),(cI b1.bm),(cI b1.cP),(cB b1.shut)]))]) (rows:=([b1]).map iA) 19 rL rfl (by decide) ⟨⟨rfl,rfl⟩,trivial⟩ rfl rfl rfl rfl) rfl⟩) rfl ?_
  refine aS (n':=21) [89,91] [19,14] rfl rfl (.inl ⟨(ah.plain rfl),aH.cast (dh (m:=1) (N:=xs.length+1) (k2:=20) (ys:=([b1]).map iA) rL rfl rfl rfl rfl rfl rfl (by first|omega|(simp;done)|(simp;omega)) rfl (.s rfl (by first|omega|(simp;done)|(simp;omega))) (by first|omega|(simp;done)|(simp;omega)) (by first|omega|(simp;done)|(simp;omega)) fb (by decide) (by first|omega|(simp;done)|(simp;omega)) (by first|omega|(simp;done)|(simp;omega))) rfl⟩) rfl ?_
  refine aA (kn:=[]) aa 3 rfl trivial ?_
  refine bx [20,7,17,0,8,9,10,11,12,13,15,6,5] rfl rfl rfl rfl (by kernel_rfl) ?_
  refine ab aa 1 rfl ?_
  refine bX ?_
  refine bn ?_
  refine then_ok ?_
  refine fr (k:=7) (q:=4) (c':=(.s 20 0 8 ((xs++([b1])).length))) rfl rfl (by first|rfl|(simp;done)|(congr 1;omega)) rfl ?_
  refine aw ?_
  refine ax (aJ rfl rfl rfl (aE (by first|omega|(simp;done)|(simp;omega)))) rfl ?_
  refine ab aa 1 rfl ?_
  refine ae ?_
  refine ⟨(q+1,(cs).set (Int.toNat (x1.aK)) xr3,xs++([b1])),⟨by omega,by rw [hi0_1];exact zZ hx1 hr1 hr2 hx2 hr3 hr4,by rw [List.length_set];omega,by rw [List.length_append,List.length_singleton];omega⟩,by first|omega|(simp;done)|(simp;omega),aD.bZ (fun k=>if k=14 then 20 else k) (by refine ⟨?_,?_,?_,?_,?_,?_,?_,trivial⟩<;>first|rfl|(simp only [bq];done)|(congr 3;omega)|(congr 4;omega)|(simp only [br];rfl)) (by refine ⟨?_,?_,?_,?_,?_,?_,?_,?_,?_,?_,?_,?_,trivial⟩<;>first|rfl|(simp only [bq];done)|(congr 3;omega)|(congr 4;omega)|(simp only [br];rfl)) rfl⟩
 have hc3':=of_decide_eq_false hc3
 refine cp ?_
 refine aP ?_
 refine aP ?_
 refine bP ?_
 refine then_ok ?_
 refine ad aa 11 rfl ?_
 refine af ?_
 refine az aa 2 rfl ?_
 refine aL 20 [0,16,17,18,19,6,5] (cA (aY [0,7,8,9,10,11,12,13,14,15]) (aY [0,16,17,18,19]) (eX (x 17) (x 19) b (⟨b.time,false,cs,b.due,xs,b.s0,b.s1,b.n0,b.n1,b.w0,b.w1,xr0,b.aQ,b.book⟩:Bk) 0 (by first|assumption|omega)) fz rfl rfl ⟨⟨_,rfl,.inl ⟨rfl,rfl⟩⟩,⟨_,rfl,.inl ⟨rfl,rfl⟩⟩,trivial⟩ ⟨rfl,rfl,rfl,rfl,rfl,rfl,rfl,rfl,rfl,rfl,trivial⟩ rfl rfl rfl rfl rfl rfl trivial ⟨⟨trivial,trivial,trivial,trivial,trivial,trivial,trivial,trivial,trivial,trivial,trivial,trivial,trivial,trivial,trivial,trivial,trivial,trivial,trivial,trivial,trivial⟩,(fun _ _ _ _=>trivial),(fun _ _ _ _=>trivial),(fun _ _ _ _=>trivial),(fun _ _ _ _=>trivial),trivial⟩ rfl rfl rfl rfl) rfl ?_
 refine ab aa 1 rfl ?_
 refine ae ?_
 refine az aa 1 rfl ?_
 refine ax (aJ rfl rfl rfl (show _=some (Value.bool false) from rfl)) rfl ?_
 refine ae ?_
 refine ag rfl (fun hno=>by cases hno) (fun _=>?_)
 refine aN ?_
 have hL:=hi0_1;rw [Ca (by omega)] at hL
 have okU:=ok.Et hr0 hL
 refine az aa 1 rfl ?_
 obtain ⟨b25,hr5⟩:∃ (b25:Bk),gn (⟨b.time,false,cs,b.due,xs,b.s0,b.s1,b.n0,b.n1,b.w0,b.w1,xr0,b.aQ,b.book⟩:Bk)=b25:=⟨_,rfl⟩
 refine aL 24 [0,20,21,22,23,6,5] (cg (aY [0,16,17,18,19]) (aY [0,20,21,22,23]) (ms:=[some (cI b.time),some (cB false),some (.s 1 0 6 cs.length),some (.s 2 0 1 b.due.length),some (.s 3 0 8 xs.length),some (cI b.s0.bV),some (dd b.s0.kept),some (cI b.s1.bV),some (dd b.s1.kept),some (cI b.n0),some (cI b.n1),some (eh b.w0),some (eh b.w1),some (cI xr0.cap),some (fF xr0.used),some (gH xr0.aU),some (.s 4 0 4 b.aQ.length),none,some (dO b.book),none]) (ms':=(iK b25 1 2 3 4 none none)) (fun x hx=>zD x hx (⟨b.time,false,cs,b.due,xs,b.s0,b.s1,b.n0,b.n1,b.w0,b.w1,xr0,b.aQ,b.book⟩:Bk) (by first|assumption|exact cj.tick (by assumption) (by omega) (by omega)) b25 hr5) DJ rfl rfl ⟨⟨_,rfl,.inl ⟨rfl,rfl⟩⟩,trivial⟩ rfl rfl rfl rfl rfl rfl rfl ⟨rfl,rfl,rfl,rfl,trivial⟩ rfl rfl rfl rfl rfl rfl rfl rfl rfl rfl rfl rfl rfl) rfl ?_
 refine ae ?_
 refine ad aa 2 rfl ?_
 refine aq ?_
 have hX:ig b=(b25,(⟨0,0⟩:Answer)):=by
   rw [CN (by cases hd:b.down<;>simp_all) hr0 hL,hr5]
 rw [hX] at hr;clear hX
 simp only [Prod.mk.injEq] at hr;obtain ⟨rfl,rfl⟩:=hr
 refine aj aa [0,20,21,22,23,5] 5 rfl rfl rfl rfl rfl rfl ?_ ?_
 all_goals first|rfl|(simp [ar,aR,aX];done)|(simp [ar,aR,aX];omega)

theorem Gq (x:Nat->Value) (hx:∀ i,(x i).oneCell'=true) (b:Bk) (days:List (List Int)) (d:aZ) (ok:cj b) (hy:days.length<=1000) (b2:Bk) (y2:List (List Int)) (a2:Answer) (hr:dU b days d=(b2,y2,a2)):cz Try.prog 56 [(.c (.p 0 0 0 0)),(.c (.q (cS d) 0))] [(0,(.box 98 (aR b 1 2 3 4 (.s 5 0 1 days.length) (.d (.v (x 19)))))),(1,(dJ b.ao)),(2,(dx b.due)),(3,(dR b.au)),(4,(cF b.aQ)),(5,(pN days))] [0] (.v (.g [cI a2.err,cI a2.ba])) [(0,(.box 98 (aR b2 1 2 3 4 (.s 5 0 1 y2.length) (.d (.v (x 19)))))),(1,(dJ b2.ao)),(2,(dx b2.due)),(3,(dR b2.au)),(4,(cF b2.aQ)),(5,(pN y2))]:=by
 refine cz.mk 67 [(0,(aC (.p 0 0 0 0))),(1,(aC (.q (cS d) 0)))] 6 Try.func56 rfl rfl rfl rfl rfl rfl rfl rfl rfl ?_
 intro W0 F0 T0 pg
 obtain ⟨okt,okc,okd,oka,oky,okw0,okw1,okp,okv,okk0,okk1,okg,okl0,okl1,okp0,okp1,okn0,okn1,okq⟩:=id ok
 refine ad aa 1 rfl ?_
 refine af ?_
 refine ad aa 4 rfl ?_
 refine aV ?_
 refine ad aa 2 rfl ?_
 refine ag rfl (fun hc1=>?_) (fun hc1=>?_)
 ·
  have hc1':=of_decide_eq_true hc1
  refine az aa 2 rfl ?_
  obtain ⟨b20,a20,hr0⟩:∃ (b20:Bk) (a20:Answer),fx b d=(b20,a20):=⟨_,_,rfl⟩
  refine aL 11 [0,7,8,9,10,6,5] (cg id (aY [0,7,8,9,10]) (ms:=(iK b 1 2 3 4 none none)) (ms':=(iK b20 1 2 3 4 none none)) (fun x hx=>Ed x hx b d (by first|assumption|exact cj.tick (by assumption) (by omega) (by omega)) b20 a20 hr0) Gb rfl rfl ⟨⟨_,rfl,.inl ⟨rfl,rfl⟩⟩,⟨_,rfl,.inl ⟨rfl,rfl⟩⟩,trivial⟩ rfl rfl rfl rfl rfl rfl rfl ⟨rfl,rfl,rfl,rfl,trivial⟩ rfl rfl rfl rfl rfl rfl rfl rfl rfl rfl rfl rfl rfl) rfl ?_
  refine ab aa 1 rfl ?_
  refine ae ?_
  refine aq ?_
  refine bg ?_
  refine an ?_
  have hX:dU b days d=(b20,days,a20):=by
    unfold dU;(repeat' (first|rw [if_pos (by omega)]|rw [if_neg (by omega)]|fail))<;>first|rfl|(simp only [hr0];done)|(simp only [hr0];rfl)|(simp_all;done)
  rw [hX] at hr;clear hX
  simp only [Prod.mk.injEq] at hr;obtain ⟨rfl,rfl,rfl⟩:=hr
  refine aj aa [0,7,8,9,10,5,6] 6 rfl rfl rfl rfl rfl rfl ?_ ?_
  all_goals first|rfl|(simp [ar,aR,aX];done)|(simp [ar,aR,aX];omega)
 have hc1':=of_decide_eq_false hc1
 refine ad aa 2 rfl ?_
 refine ag rfl (fun hc2=>?_) (fun hc2=>?_)
 ·
  have hc2':=of_decide_eq_true hc2
  refine az aa 2 rfl ?_
  obtain ⟨b21,a21,hr1⟩:∃ (b21:Bk) (a21:Answer),du b d=(b21,a21):=⟨_,_,rfl⟩
  refine aL 11 [0,7,8,9,10,6,5] (cg id (aY [0,7,8,9,10]) (ms:=(iK b 1 2 3 4 none none)) (ms':=(iK b21 1 2 3 4 none none)) (fun x hx=>Ff x hx b d (by first|assumption|exact cj.tick (by assumption) (by omega) (by omega)) b21 a21 hr1) Ga rfl rfl ⟨⟨_,rfl,.inl ⟨rfl,rfl⟩⟩,⟨_,rfl,.inl ⟨rfl,rfl⟩⟩,trivial⟩ rfl rfl rfl rfl rfl rfl rfl ⟨rfl,rfl,rfl,rfl,trivial⟩ rfl rfl rfl rfl rfl rfl rfl rfl rfl rfl rfl rfl rfl) rfl ?_
  refine ab aa 1 rfl ?_
  refine ae ?_
  refine aq ?_
  refine bg ?_
  refine an ?_
  have hX:dU b days d=(b21,days,a21):=by
    unfold dU;(repeat' (first|rw [if_pos (by omega)]|rw [if_neg (by omega)]|fail))<;>first|rfl|(simp only [hr1];done)|(simp only [hr1];rfl)|(simp_all;done)
  rw [hX] at hr;clear hX
  simp only [Prod.mk.injEq] at hr;obtain ⟨rfl,rfl,rfl⟩:=hr
  refine aj aa [0,7,8,9,10,5,6] 6 rfl rfl rfl rfl rfl rfl ?_ ?_
  all_goals first|rfl|(simp [ar,aR,aX];done)|(simp [ar,aR,aX];omega)
 have hc2':=of_decide_eq_false hc2
 refine ad aa 2 rfl ?_
 refine ag rfl (fun hc3=>?_) (fun hc3=>?_)
 ·
  have hc3':=of_decide_eq_true hc3
  refine az aa 2 rfl ?_
  obtain ⟨b22,a22,hr2⟩:∃ (b22:Bk) (a22:Answer),dM b d=(b22,a22):=⟨_,_,rfl⟩
  refine aL 11 [0,7,8,9,10,6,5] (cg id (aY [0,7,8,9,10]) (ms:=(iK b 1 2 3 4 none none)) (ms':=(iK b22 1 2 3 4 none none)) (fun x hx=>Bp x hx b d (by first|assumption|exact cj.tick (by assumption) (by omega) (by omega)) b22 a22 hr2) FZ rfl rfl ⟨⟨_,rfl,.inl ⟨rfl,rfl⟩⟩,⟨_,rfl,.inl ⟨rfl,rfl⟩⟩,trivial⟩ rfl rfl rfl rfl rfl rfl rfl ⟨rfl,rfl,rfl,rfl,trivial⟩ rfl rfl rfl rfl rfl rfl rfl rfl rfl rfl rfl rfl rfl) rfl ?_
  refine ab aa 1 rfl ?_
  refine ae ?_
  refine aq ?_
  refine bg ?_
  refine an ?_
  have hX:dU b days d=(b22,days,a22):=by
    unfold dU;(repeat' (first|rw [if_pos (by omega)]|rw [if_neg (by omega)]|fail))<;>first|rfl|(simp only [hr2];done)|(simp only [hr2];rfl)|(simp_all;done)
  rw [hX] at hr;clear hX
  simp only [Prod.mk.injEq] at hr;obtain ⟨rfl,rfl,rfl⟩:=hr
  refine aj aa [0,7,8,9,10,5,6] 6 rfl rfl rfl rfl rfl rfl ?_ ?_
  all_goals first|rfl|(simp [ar,aR,aX];done)|(simp [ar,aR,aX];omega)
 have hc3':=of_decide_eq_false hc3
 refine ad aa 2 rfl ?_
 refine ag rfl (fun hc4=>?_) (fun hc4=>?_)
 ·
  have hc4':=of_decide_eq_true hc4
  refine az aa 2 rfl ?_
  obtain ⟨b23,a23,hr3⟩:∃ (b23:Bk) (a23:Answer),fe b d=(b23,a23):=⟨_,_,rfl⟩
  refine aL 11 [0,7,8,9,10,6,5] (cg id (aY [0,7,8,9,10]) (ms:=(iK b 1 2 3 4 none none)) (ms':=(iK b23 1 2 3 4 none none)) (fun x hx=>DY x hx b d (by first|assumption|exact cj.tick (by assumption) (by omega) (by omega)) b23 a23 hr3) FY rfl rfl ⟨⟨_,rfl,.inl ⟨rfl,rfl⟩⟩,⟨_,rfl,.inl ⟨rfl,rfl⟩⟩,trivial⟩ rfl rfl rfl rfl rfl rfl rfl ⟨rfl,rfl,rfl,rfl,trivial⟩ rfl rfl rfl rfl rfl rfl rfl rfl rfl rfl rfl rfl rfl) rfl ?_
  refine ab aa 1 rfl ?_
  refine ae ?_
  refine aq ?_
  refine bg ?_
  refine an ?_
  have hX:dU b days d=(b23,days,a23):=by
    unfold dU;(repeat' (first|rw [if_pos (by omega)]|rw [if_neg (by omega)]|fail))<;>first|rfl|(simp only [hr3];done)|(simp only [hr3];rfl)|(simp_all;done)
  rw [hX] at hr;clear hX
  simp only [Prod.mk.injEq] at hr;obtain ⟨rfl,rfl,rfl⟩:=hr
  refine aj aa [0,7,8,9,10,5,6] 6 rfl rfl rfl rfl rfl rfl ?_ ?_
  all_goals first|rfl|(simp [ar,aR,aX];done)|(simp [ar,aR,aX];omega)
 have hc4':=of_decide_eq_false hc4
 refine ad aa 2 rfl ?_
 refine ag rfl (fun hc5=>?_) (fun hc5=>?_)
 ·
  have hc5':=of_decide_eq_true hc5
  refine az aa 2 rfl ?_
  obtain ⟨v04,v14,a24,hr4⟩:∃ (v04:List cc) (v14:List cc) (a24:Answer),eJ b.s0 b.s1 b.n0 b.n1 b.w0 b.w1 d=(v04,v14,a24):=⟨_,_,_,rfl⟩
  refine aL 7 [0,6,1,2,3,4,5] (cg id id (ms:=[none,none,none,none,none,some (cI b.s0.bV),some (dd b.s0.kept),some (cI b.s1.bV),some (dd b.s1.kept),some (cI b.n0),some (cI b.n1),some (eh b.w0),some (eh b.w1),none,none,none,none,none,none,none]) (ms':=[none,none,none,none,none,some (cI b.s0.bV),some (dd b.s0.kept),some (cI b.s1.bV),some (dd b.s1.kept),some (cI b.n0),some (cI b.n1),some (eh v04),some (eh v14),none,none,none,none,none,none,none]) (fun x hx=>CD x hx b.s0 b.s1 b.n0 b.n1 b.w0 b.w1 d (by first|omega|(simp;done)|(simp;omega)) (by first|omega|(simp;done)|(simp;omega)) (by first|omega|(simp;done)|(simp;omega)) (by first|omega|(simp;done)|(simp;omega)) v04 v14 a24 hr4) FX rfl rfl ⟨⟨_,rfl,.inl ⟨rfl,rfl⟩⟩,⟨_,rfl,.inl ⟨rfl,rfl⟩⟩,trivial⟩ rfl rfl rfl rfl rfl rfl rfl trivial rfl rfl rfl rfl rfl rfl rfl rfl rfl rfl rfl rfl rfl) rfl ?_
  refine ab aa 1 rfl ?_
  refine ae ?_
  refine aq ?_
  refine bg ?_
  refine an ?_
  have hX:dU b days d=((⟨b.time,b.down,b.ao,b.due,b.au,b.s0,b.s1,b.n0,b.n1,v04,v14,b.bE,b.aQ,b.book⟩:Bk),days,a24):=by
    unfold dU;(repeat' (first|rw [if_pos (by omega)]|rw [if_neg (by omega)]|fail))<;>first|rfl|(simp only [hr4];done)|(simp only [hr4];rfl)|(simp_all;done)
  rw [hX] at hr;clear hX
  simp only [Prod.mk.injEq] at hr;obtain ⟨rfl,rfl,rfl⟩:=hr
  refine aj aa [0,1,2,3,4,5,6] 6 rfl rfl rfl rfl rfl rfl ?_ ?_
  all_goals first|rfl|(simp [ar,aR,aX];done)|(simp [ar,aR,aX];omega)
 have hc5':=of_decide_eq_false hc5
 refine af ?_
 refine ad aa 2 rfl ?_
 refine ag rfl (fun hc6=>?_) (fun hc6=>?_)
 ·
  have hc6':=of_decide_eq_true hc6
  refine aN ?_
  refine ag rfl (fun _=>?_) (fun hno=>absurd (hc6.symm.trans hno) (by decide))
  refine az aa 2 rfl ?_
  obtain ⟨b25,a25,hr5⟩:∃ (b25:Bk) (a25:Answer),cq b d=(b25,a25):=⟨_,_,rfl⟩
  refine aL 11 [0,7,8,9,10,6,5] (cg id (aY [0,7,8,9,10]) (ms:=(iK b 1 2 3 4 none none)) (ms':=(iK b25 1 2 3 4 none none)) (fun x hx=>vu x hx b d (by assumption) b25 a25 hr5) DM rfl rfl ⟨⟨_,rfl,.inl ⟨rfl,rfl⟩⟩,⟨_,rfl,.inl ⟨rfl,rfl⟩⟩,trivial⟩ rfl rfl rfl rfl rfl rfl rfl ⟨rfl,rfl,rfl,rfl,trivial⟩ rfl rfl rfl rfl rfl rfl rfl rfl rfl rfl rfl rfl rfl) rfl ?_
  refine ab aa 1 rfl ?_
  refine ae ?_
  refine aq ?_
  refine bg ?_
  refine an ?_
  have hX:dU b days d=(b25,days,a25):=by
    unfold dU;(repeat' (first|rw [if_pos (by omega)]|rw [if_neg (by omega)]|fail))<;>first|rfl|(simp only [hr5];done)|(simp only [hr5];rfl)|(simp_all;done)
  rw [hX] at hr;clear hX
  simp only [Prod.mk.injEq] at hr;obtain ⟨rfl,rfl,rfl⟩:=hr
  refine aj aa [0,7,8,9,10,5,6] 6 rfl rfl rfl rfl rfl rfl ?_ ?_
  all_goals first|rfl|(simp [ar,aR,aX];done)|(simp [ar,aR,aX];omega)
 have hc6':=of_decide_eq_false hc6
 refine aw ?_
 refine ab aa 2 rfl ?_
 refine ae ?_
 refine ag rfl (fun hc8=>?_) (fun hc8=>?_)
 ·
  have hc8':=of_decide_eq_true hc8
  refine az aa 2 rfl ?_
  obtain ⟨b26,a26,hr6⟩:∃ (b26:Bk) (a26:Answer),cq b d=(b26,a26):=⟨_,_,rfl⟩
  refine aL 11 [0,7,8,9,10,6,5] (cg id (aY [0,7,8,9,10]) (ms:=(iK b 1 2 3 4 none none)) (ms':=(iK b26 1 2 3 4 none none)) (fun x hx=>vu x hx b d (by assumption) b26 a26 hr6) DM rfl rfl ⟨⟨_,rfl,.inl ⟨rfl,rfl⟩⟩,⟨_,rfl,.inl ⟨rfl,rfl⟩⟩,trivial⟩ rfl rfl rfl rfl rfl rfl rfl ⟨rfl,rfl,rfl,rfl,trivial⟩ rfl rfl rfl rfl rfl rfl rfl rfl rfl rfl rfl rfl rfl) rfl ?_
  refine ab aa 1 rfl ?_
  refine ae ?_
  refine aq ?_
  refine bg ?_
  refine an ?_
  have hX:dU b days d=(b26,days,a26):=by
    unfold dU;(repeat' (first|rw [if_pos (by omega)]|rw [if_neg (by omega)]|fail))<;>first|rfl|(simp only [hr6];done)|(simp only [hr6];rfl)|(simp_all;done)
  rw [hX] at hr;clear hX
  simp only [Prod.mk.injEq] at hr;obtain ⟨rfl,rfl,rfl⟩:=hr
  refine aj aa [0,7,8,9,10,5,6] 6 rfl rfl rfl rfl rfl rfl ?_ ?_
  all_goals first|rfl|(simp [ar,aR,aX];done)|(simp [ar,aR,aX];omega)
 have hc8':=of_decide_eq_false hc8
 refine ad aa 2 rfl ?_
 refine ag rfl (fun hc9=>?_) (fun hc9=>?_)
 ·
  have hc9':=of_decide_eq_true hc9
  refine af ?_
  refine ad aa 5 rfl ?_
  refine ag rfl (fun hc10=>?_) (fun hc10=>?_)
  ·
   have hc10':=hc10;try simp only [bd,bF] at hc10'
   refine ad aa 2 rfl ?_
   refine aq ?_
   refine an ?_
   refine bg ?_
   refine an ?_
   have hX:dU b days d=(b,days,(⟨8,0⟩:Answer)):=by
     unfold dU;(repeat' (first|rw [if_pos (by omega)]|rw [if_neg (by omega)]|fail))<;>first|rfl|(simp_all;done)
   rw [hX] at hr;clear hX
   simp only [Prod.mk.injEq] at hr;obtain ⟨rfl,rfl,rfl⟩:=hr
   refine aj aa [0,1,2,3,4,5,6] 6 rfl rfl rfl rfl rfl rfl ?_ ?_
   all_goals first|rfl|(simp [ar,aR,aX];done)|(simp [ar,aR,aX];omega)
  have hc10':=hc10;try simp only [bd,bF] at hc10'
  refine aN ?_
  refine ad aa 5 rfl ?_
  refine ad aa 2 rfl ?_
  refine aq ?_
  refine bg ?_
  refine an ?_
  have hX:dU b days d=((⟨b.time,true,b.ao,b.due,b.au,b.s0,b.s1,b.n0,b.n1,b.w0,b.w1,b.bE,b.aQ,b.book⟩:Bk),days,(⟨0,0⟩:Answer)):=by
    unfold dU;(repeat' (first|rw [if_pos (by omega)]|rw [if_neg (by omega)]|fail))<;>first|rfl|(simp_all;done)
  rw [hX] at hr;clear hX
  simp only [Prod.mk.injEq] at hr;obtain ⟨rfl,rfl,rfl⟩:=hr
  refine aj aa [0,1,2,3,4,5,6] 6 rfl rfl rfl rfl rfl rfl ?_ ?_
  all_goals first|rfl|(simp [ar,aR,aX];done)|(simp [ar,aR,aX];omega)
 have hc9':=of_decide_eq_false hc9
 refine ad aa 2 rfl ?_
 refine ag rfl (fun hc11=>?_) (fun hc11=>?_)
 ·
  have hc11':=of_decide_eq_true hc11
  refine az aa 1 rfl ?_
  obtain ⟨b27,a27,hr7⟩:∃ (b27:Bk) (a27:Answer),ig b=(b27,a27):=⟨_,_,rfl⟩
  refine aL 11 [0,7,8,9,10,6,5] (cg id (aY [0,7,8,9,10]) (ms:=(iK b 1 2 3 4 none none)) (ms':=(iK b27 1 2 3 4 none none)) (fun x hx=>Gp x hx b (by first|assumption|exact cj.tick (by assumption) (by omega) (by omega)) b27 a27 hr7) FW rfl rfl ⟨⟨_,rfl,.inl ⟨rfl,rfl⟩⟩,trivial⟩ rfl rfl rfl rfl rfl rfl rfl ⟨rfl,rfl,rfl,rfl,trivial⟩ rfl rfl rfl rfl rfl rfl rfl rfl rfl rfl rfl rfl rfl) rfl ?_
  refine ab aa 1 rfl ?_
  refine ae ?_
  refine aq ?_
  refine bg ?_
  refine an ?_
  have hX:dU b days d=(b27,days,a27):=by
    unfold dU;(repeat' (first|rw [if_pos (by omega)]|rw [if_neg (by omega)]|fail))<;>first|rfl|(simp only [hr7];done)|(simp only [hr7];rfl)|(simp_all;done)
  rw [hX] at hr;clear hX
  simp only [Prod.mk.injEq] at hr;obtain ⟨rfl,rfl,rfl⟩:=hr
  refine aj aa [0,7,8,9,10,5,6] 6 rfl rfl rfl rfl rfl rfl ?_ ?_
  all_goals first|rfl|(simp [ar,aR,aX];done)|(simp [ar,aR,aX];omega)
 have hc11':=of_decide_eq_false hc11
 refine ad aa 2 rfl ?_
 refine ag rfl (fun hc12=>?_) (fun hc12=>?_)
 ·
  have hc12':=of_decide_eq_true hc12
  refine az aa 1 rfl ?_
  obtain ⟨today28,days28,a28,hr8⟩:∃ (today28:List al) (days28:List (List Int)) (a28:Answer),iB b.aQ days=(today28,days28,a28):=⟨_,_,_,rfl⟩
  refine aL 9 [0,7,8,6,1,2,3] (cg (aY [0,4,5]) (aY [0,7,8]) (ms:=((dp.set 16 (some (.s 1 0 4 b.aQ.length))).set 17 (some (.s 2 0 1 days.length)))) (ms':=((dp.set 16 (some (.s 1 0 4 today28.length))).set 17 (some (.s 2 0 1 days28.length)))) (fun x hx=>Ea x hx b.aQ days (by first|omega|(simp;done)|(simp;omega)) (by first|omega|(simp;done)|(simp;omega)) today28 days28 a28 hr8) FV rfl rfl ⟨⟨_,rfl,.inl ⟨rfl,rfl⟩⟩,trivial⟩ rfl rfl rfl rfl rfl rfl rfl ⟨rfl,rfl,trivial⟩ rfl rfl rfl rfl rfl rfl rfl rfl rfl rfl rfl rfl rfl) rfl ?_
  refine ab aa 1 rfl ?_
  refine ae ?_
  refine aq ?_
  refine bg ?_
  refine an ?_
  have hX:dU b days d=((⟨b.time,b.down,b.ao,b.due,b.au,b.s0,b.s1,b.n0,b.n1,b.w0,b.w1,b.bE,today28,b.book⟩:Bk),days28,a28):=by
    unfold dU;(repeat' (first|rw [if_pos (by omega)]|rw [if_neg (by omega)]|fail))<;>first|rfl|(simp only [hr8];done)|(simp only [hr8];rfl)|(simp_all;done)
  rw [hX] at hr;clear hX
  simp only [Prod.mk.injEq] at hr;obtain ⟨rfl,rfl,rfl⟩:=hr
  refine aj aa [0,1,2,3,7,8,6] 6 rfl rfl rfl rfl rfl rfl ?_ ?_
  all_goals first|rfl|(simp [ar,aR,aX];done)|(simp [ar,aR,aX];omega)
 have hc12':=of_decide_eq_false hc12
 refine ad aa 2 rfl ?_
 refine ag rfl (fun hc13=>?_) (fun hc13=>?_)
 ·
  have hc13':=of_decide_eq_true hc13
  refine az aa 2 rfl ?_
  obtain ⟨b29,a29,hr9⟩:∃ (b29:Bk) (a29:Answer),gL b d=(b29,a29):=⟨_,_,rfl⟩
  refine aL 11 [0,7,8,9,10,6,5] (cg id (aY [0,7,8,9,10]) (ms:=(iK b 1 2 3 4 none none)) (ms':=(iK b29 1 2 3 4 none none)) (fun x hx=>Fe x hx b d (by first|assumption|exact cj.tick (by assumption) (by omega) (by omega)) b29 a29 hr9) FU rfl rfl ⟨⟨_,rfl,.inl ⟨rfl,rfl⟩⟩,⟨_,rfl,.inl ⟨rfl,rfl⟩⟩,trivial⟩ rfl rfl rfl rfl rfl rfl rfl ⟨rfl,rfl,rfl,rfl,trivial⟩ rfl rfl rfl rfl rfl rfl rfl rfl rfl rfl rfl rfl rfl) rfl ?_
  refine ab aa 1 rfl ?_
  refine ae ?_
  refine aq ?_
  refine bg ?_
  refine an ?_
  have hX:dU b days d=(b29,days,a29):=by
    unfold dU;(repeat' (first|rw [if_pos (by omega)]|rw [if_neg (by omega)]|fail))<;>first|rfl|(simp only [hr9];done)|(simp only [hr9];rfl)|(simp_all;done)
  rw [hX] at hr;clear hX
  simp only [Prod.mk.injEq] at hr;obtain ⟨rfl,rfl,rfl⟩:=hr
  refine aj aa [0,7,8,9,10,5,6] 6 rfl rfl rfl rfl rfl rfl ?_ ?_
  all_goals first|rfl|(simp [ar,aR,aX];done)|(simp [ar,aR,aX];omega)
 have hc13':=of_decide_eq_false hc13
 refine cW ?_
 refine bn ?_
 refine then_ok ?_
 refine ad aa 2 rfl ?_
 refine aq ?_
 have hX:dU b days d=(b,days,(⟨1,0⟩:Answer)):=by
   unfold dU;(repeat' (first|rw [if_pos (by omega)]|rw [if_neg (by omega)]|fail))<;>first|rfl|(simp_all;done)
 rw [hX] at hr;clear hX
 simp only [Prod.mk.injEq] at hr;obtain ⟨rfl,rfl,rfl⟩:=hr
 refine aj aa [0,1,2,3,4,5,6] 6 rfl rfl rfl rfl rfl rfl ?_ ?_
 all_goals first|rfl|(simp [ar,aR,aX];done)|(simp [ar,aR,aX];omega)

theorem Eb (x:Nat->Value) (hx:∀ i,(x i).oneCell'=true) (b:Bk) (days:List (List Int)) (told:List (Int×Answer)) (cl:Nat) (d:aZ) (ok:cj b) (hy:days.length<=1000) (b2:Bk) (y2:List (List Int)) (t2:List (Int×Answer)) (c2:Nat) (a2:Answer) (hr:fC b days told cl d=(b2,y2,t2,c2,a2)):cz Try.prog 42 [(.c (.p 0 0 0 0)),(.c (.q (cS d) 0))] [(0,(.box 98 (aR b 1 2 3 4 (.s 5 0 1 days.length) (.m 6)))),(1,(dJ b.ao)),(2,(dx b.due)),(3,(dR b.au)),(4,(cF b.aQ)),(5,(pN days)),(6,(.map (tV told) cl))] [0] (.v (.g [cI a2.err,cI a2.ba])) [(0,(.box 98 (aR b2 1 2 3 4 (.s 5 0 1 y2.length) (.m 6)))),(1,(dJ b2.ao)),(2,(dx b2.due)),(3,(dR b2.au)),(4,(cF b2.aQ)),(5,(pN y2)),(6,(.map (tV t2) c2))]:=by
 refine cz.mk 42 [(0,(aC (.p 0 0 0 0))),(1,(aC (.q (cS d) 0)))] 7 Try.func42 rfl rfl rfl rfl rfl rfl rfl rfl rfl ?_
 intro W0 F0 T0 pg
 obtain ⟨okt,okc,okd,oka,oky,okw0,okw1,okp,okv,okk0,okk1,okg,okl0,okl1,okp0,okp1,okn0,okn1,okq⟩:=id ok
 refine ad aa 1 rfl ?_
 refine af ?_
 refine af ?_
 refine cX [0,1,4] [7,0,1,2,3,4,5,6] mixed rfl rfl ?_
 refine bQ (kn:=[]) aa 8 rfl trivial ?_
 refine bT (n':=8) [12,16] [6] rfl rfl (.inl ⟨(ah.plain rfl),aH.cast (zn (ps:=told) Try.underlying96 Try.underlying3 Fu rfl rfl rfl rfl) rfl⟩) rfl ?_
 refine bQ (n':=9) (kn:=[]) aa 6 rfl trivial ?_
 refine dK [0,1,4,5,6] [8,7,0,1,2,3,4,5,6] rfl rfl (by kernel_rfl) ?_
 refine then_ok ?_
 refine cm 27 (((il told d.id).isSome) && (decide (¬d.id=0))) ?_ ?_
 ·
  refine aw ?_
  refine ab aa 2 rfl ?_
  refine bj (t:=21) rfl (fun hb1=>?_) (fun hb1=>?_)
  ·
   have hb1':=hb1;try simp only [bd,bF] at hb1'
   refine ab aa 6 rfl ?_
   refine ae ?_
   exact aD.bB 9 rfl rfl (by first|(simp [hb1];done)|(simp_all;done)|(exfalso;simp_all;done)|(simp_all;omega)) rfl
  have hb1':=hb1;try simp only [bd,bF] at hb1'
  refine ab aa 6 rfl ?_
  refine ae ?_
  exact aD.bB 9 rfl rfl (by first|(simp [hb1];done)|(simp_all;done)|(exfalso;simp_all;done)|(simp_all;omega)) rfl
 refine ag rfl (fun hc2=>?_) (fun hc2=>?_)
 ·
  have hc2':=hc2;try simp only [bd,bF] at hc2'
  refine ad aa 2 rfl ?_
  refine aq ?_
  refine an ?_
  have hX:fC b days told cl d=(b,days,told,cl,((il told d.id).getD ⟨0,0⟩)):=by
    unfold fC;(repeat' split)<;>first|rfl|omega|(exfalso;omega)|(simp_all;done)|(simp_all;omega)
  rw [hX] at hr;clear hX
  simp only [Prod.mk.injEq] at hr;obtain ⟨rfl,rfl,rfl,rfl,rfl⟩:=hr
  refine aj aa [0,1,2,3,4,5,6,7] 7 rfl rfl rfl rfl rfl rfl ?_ ?_
  all_goals first|rfl|(simp [ar,aR,aX];done)|(simp [ar,aR,aX];omega)
 have hc2':=hc2;try simp only [bd,bF] at hc2'
 refine aN ?_
 refine az aa 2 rfl ?_
 obtain ⟨b20,y20,a20,hr0⟩:∃ (b20:Bk) (y20:List (List Int)) (a20:Answer),dU b days d=(b20,y20,a20):=⟨_,_,_,rfl⟩
 refine aL 14 [0,9,10,11,12,13,8,7,6] (cg id (aY [0,9,10,11,12,13]) (ms:=(iK b 1 2 3 4 (some (.s 5 0 1 days.length)) none)) (ms':=(iK b20 1 2 3 4 (some (.s 5 0 1 y20.length)) none)) (fun x hx=>Gq x hx b days d (by first|assumption|exact cj.tick (by assumption) (by omega) (by omega)) (by first|omega|(simp;done)|(simp;omega)) b20 y20 a20 hr0) Gd rfl rfl ⟨⟨_,rfl,.inl ⟨rfl,rfl⟩⟩,⟨_,rfl,.inl ⟨rfl,rfl⟩⟩,trivial⟩ rfl rfl rfl rfl rfl rfl rfl ⟨rfl,rfl,rfl,rfl,rfl,trivial⟩ rfl rfl rfl rfl rfl rfl rfl rfl rfl rfl rfl rfl rfl) rfl ?_
 refine ab aa 2 rfl ?_
 refine ae ?_
 refine af ?_
 refine bb [0,1,4,7] [14,0,9,10,11,12,13,7,6] mixed rfl rfl ?_
 refine aA (kn:=[]) aa 9 rfl trivial ?_
 refine bx [14,0,9,10,11,12,13,7,6] rfl rfl rfl rfl (by kernel_rfl) ?_
 refine gb [14,0,9,10,11,12,13,7,6] (zl Try.underlying96 Try.underlying3 rfl rfl rfl rfl rfl) rfl ?_
 refine ae ?_
 refine ad aa 2 rfl ?_
 refine aq ?_
 have hX:fC b days told cl d=(b20,y20,nW told d.id a20,if (il told d.id).isSome then cl else cl+1,a20):=by
   unfold fC;simp only [hr0];(repeat' split)<;>first|rfl|omega|(exfalso;omega)|(simp_all;done)|(simp_all;omega)
 rw [hX] at hr;clear hX
 simp only [Prod.mk.injEq] at hr;obtain ⟨rfl,rfl,rfl,rfl,rfl⟩:=hr
 refine aj aa [0,9,10,11,12,13,6,7] 7 rfl rfl rfl rfl rfl rfl ?_ ?_
 all_goals first|rfl|(simp [ar,aR,aX];done)|(simp [ar,aR,aX];omega)

theorem vt (s:Setup) (f:cV) (hr:eo s=f):Fn Try.prog 40 [(.g [(cR 3 ((s.cY).map gV)),(cI s.ib),(cI s.cap)])] (.v (.g [(cI f.err),(cI f.at_)])) []:=by
 refine Fn.mk' 47 [(0,(aG [(cR 3 ((s.cY).map gV)),(cI s.ib),(cI s.cap)]))] Try.func40 rfl rfl rfl rfl ?_
 intro W0 T0
 refine fc 0 0 rfl rfl (fun hlen0_0=>?_)
 refine ad aa 2 rfl ?_
 refine af ?_
 refine cm 19 (((decide ((↑s.cY.length:Int) > 8))||(decide (s.ib < 0)))||(decide (s.ib > 8))) ?_ ?_
 ·
  refine aw ?_
  refine ab aa 2 rfl ?_
  refine ax (cT rfl rfl rfl rfl rfl Try.underlying53) rfl ?_
  refine ab aa 2 rfl ?_
  refine bj (t:=10) rfl (fun hb1=>?_) (fun hb1=>?_)
  ·
   have hb1':=of_decide_eq_true hb1
   refine ab aa 9 rfl ?_
   refine ae ?_
   exact aD.bB 15 rfl rfl (by first|(simp [hb1];done)|(simp_all;done)|(exfalso;simp_all;done)|(simp_all;omega)) rfl
  have hb1':=of_decide_eq_false hb1
  refine ab aa 5 rfl ?_
  refine bj (t:=15) rfl (fun hb2=>?_) (fun hb2=>?_)
  ·
   have hb2':=of_decide_eq_true hb2
   refine ab aa 4 rfl ?_
   refine ae ?_
   exact aD.bB 16 rfl rfl (by first|(simp [hb1,hb2];done)|(simp_all;done)|(exfalso;simp_all;done)|(simp_all;omega)) rfl
  have hb2':=of_decide_eq_false hb2
  refine ab aa 4 rfl ?_
  refine ae ?_
  exact aD.bB 16 rfl rfl (by first|(simp [hb1,hb2];done)|(simp_all;done)|(exfalso;simp_all;done)|(simp_all;omega)) rfl
 refine ag rfl (fun hc3=>?_) (fun hc3=>?_)
 ·
  have hc3':=hc3;try simp only [bd,bF] at hc3'
  refine ad aa 2 rfl ?_
  refine aq ?_
  refine an ?_
  have hX:eo s=(⟨5,0⟩:cV):=by
    unfold eo;rw [if_pos (by omega)]
  rw [hX] at hr;clear hX
  subst hr
  refine aj aa [1] 0 rfl rfl rfl rfl rfl rfl ?_ ?_
  all_goals first|rfl|(simp [ar,aR,aX];done)|(simp [ar,aR,aX];omega)
 have hc3':=hc3;try simp only [bd,bF] at hc3'
 refine aN ?_
 refine af ?_
 refine cm 28 ((decide (s.cap < 0))||(decide (s.cap > 1000000))) ?_ ?_
 ·
  refine aw ?_
  refine ab aa 4 rfl ?_
  refine bj (t:=24) rfl (fun hb4=>?_) (fun hb4=>?_)
  ·
   have hb4':=of_decide_eq_true hb4
   refine ab aa 4 rfl ?_
   refine ae ?_
   exact aD.bB 9 rfl rfl (by first|(simp [hb4];done)|(simp_all;done)|(exfalso;simp_all;done)|(simp_all;omega)) rfl
  have hb4':=of_decide_eq_false hb4
  refine ab aa 4 rfl ?_
  refine ae ?_
  exact aD.bB 9 rfl rfl (by first|(simp [hb4];done)|(simp_all;done)|(exfalso;simp_all;done)|(simp_all;omega)) rfl
 refine ag rfl (fun hc5=>?_) (fun hc5=>?_)
 ·
  have hc5':=hc5;try simp only [bd,bF] at hc5'
  refine ad aa 2 rfl ?_
  refine aq ?_
  refine an ?_
  have hX:eo s=(⟨3,0⟩:cV):=by
    unfold eo;rw [if_neg (by omega),if_pos (by omega)]
  rw [hX] at hr;clear hX
  subst hr
  refine aj aa [1] 0 rfl rfl rfl rfl rfl rfl ?_ ?_
  all_goals first|rfl|(simp [ar,aR,aX];done)|(simp [ar,aR,aX];omega)
 have hc5':=hc5;try simp only [bd,bF] at hc5'
 refine aN ?_
 refine af ?_
 refine az aa 2 rfl ?_
 refine ax (cT rfl rfl rfl rfl rfl Try.underlying53) rfl ?_
 refine ab aa 1 rfl ?_
 refine ae ?_
 refine aV ?_
 refine cu (β:=Nat) (fun (q:Nat)=>⟨[(2,(aC (.p 1 0 0 0))),(31,(aC (cR 3 ((s.cY).map gV)))),(32,(aI (↑s.cY.length:Int))),(33,(aI (↑q:Int)))],[(1,(.box 50 [(cI 0),(cI 0)]))],2⟩) (fun (q:Nat)=>q<=s.cY.length/\ou s.cY 0=ou (s.cY.drop q) q) (fun (q:Nat)=>s.cY.length - q) 0 ?_ ?_ ?_
 ·exact ⟨by omega,rfl⟩
 ·exact aD.bZ id (by refine ⟨?_,?_,?_,?_,trivial⟩<;>first|rfl|(simp only [bq];done)|(congr 3;omega)|(congr 4;omega)|(simp only [br];rfl)) (⟨by first|rfl|(simp only [bq];done)|(congr 3;omega)|(congr 4;omega)|(simp only [br];rfl),trivial⟩) rfl
 rintro q ⟨hi0_0,hi0_1⟩
 refine ad aa 1 rfl ?_
 refine af ?_
 refine ag rfl (fun hc6=>?_) (fun hc6=>?_)
 ·
  have hc6':=of_decide_eq_true hc6
  refine aN ?_
  refine af ?_
  refine aV ?_
  refine az aa 1 rfl ?_
  obtain ⟨x1,hx1⟩:=bY (xs:=s.cY) (i:=q) (by first|omega|(simp;done)|(simp;omega))
  refine ax (cf (i:=q) rfl rfl rfl Try.underlying53 CO (by first|omega|(simp;done)|(simp;omega)) (bf hx1)) rfl ?_
  refine ab aa 4 rfl ?_
  refine ae ?_
  refine az aa 1 rfl ?_
  obtain ⟨e0,hr0⟩:∃ (e0:Int),fl x1=e0:=⟨_,rfl⟩
  refine aL 3 [2,1] (bI 3 (kE x1 e0 hr0) AW rfl rfl ⟨⟨_,rfl,.g ⟨.d _,.d _,.d _,trivial⟩⟩,trivial⟩ trivial trivial rfl rfl rfl rfl) rfl ?_
  refine ab aa 1 rfl ?_
  refine ae ?_
  refine ad aa 2 rfl ?_
  refine ag rfl (fun hc7=>?_) (fun hc7=>?_)
  ·
   have hc7':=of_decide_eq_true hc7
   refine ad aa 4 rfl ?_
   refine aq ?_
   refine bg ?_
   refine an ?_
   refine an ?_
   refine bg ?_
   refine an ?_
   have hX:eo s=(⟨e0,(↑q:Int)⟩:cV):=by
     unfold eo;rw [if_neg (by omega),if_neg (by omega),hi0_1,sR hx1,if_pos (by omega)];simp_all
   rw [hX] at hr;clear hX
   subst hr
   refine aj aa [1] 0 rfl rfl rfl rfl rfl rfl ?_ ?_
   all_goals first|rfl|(simp [ar,aR,aX];done)|(simp [ar,aR,aX];omega)
  have hc7':=of_decide_eq_false hc7
  refine cW ?_
  refine bn ?_
  refine then_ok ?_
  refine aw ?_
  refine ax (aJ rfl rfl rfl (aE (by first|omega|(simp;done)|(simp;omega)))) rfl ?_
  refine ab aa 1 rfl ?_
  refine ae ?_
  refine ⟨q+1,⟨by omega,by rw [hi0_1,sR hx1,if_neg (by omega)]⟩,by first|omega|(simp;done)|(simp;omega),aD.bZ id (by refine ⟨?_,?_,?_,?_,trivial⟩<;>first|rfl|(simp only [bq];done)|(congr 3;omega)|(congr 4;omega)|(simp only [br];rfl)) (⟨by first|rfl|(simp only [bq];done)|(congr 3;omega)|(congr 4;omega)|(simp only [br];rfl),trivial⟩) rfl⟩
 have hc6':=of_decide_eq_false hc6
 refine cp ?_
 refine aP ?_
 refine aP ?_
 refine bP ?_
 refine then_ok ?_
 refine ad aa 2 rfl ?_
 refine aq ?_
 have hX:eo s=(⟨0,0⟩:cV):=by
   unfold eo;rw [if_neg (by omega),if_neg (by omega),hi0_1,List.drop_of_length_le (by omega)];rfl
 rw [hX] at hr;clear hX
 subst hr
 refine aj aa [1] 0 rfl rfl rfl rfl rfl rfl ?_ ?_
 all_goals first|rfl|(simp [ar,aR,aX];done)|(simp [ar,aR,aX];omega)

theorem zL (s:Setup) (l:List aZ) (b2:Bk) (y2:List (List Int)) (o2:List Answer) (f2:cV) (hr:gW s l=(b2,y2,o2,f2)):Fn Try.prog 22 [(.g [(cR 3 ((s.cY).map gV)),(cI s.ib),(cI s.cap)]),(.c (qB l))] (.t [(.g [(cI b2.time),(cB b2.down),(.s 0 0 6 b2.ao.length),(.s 1 0 1 b2.due.length),(.s 2 0 8 b2.au.length),(cI b2.s0.bV),(dd b2.s0.kept),(cI b2.s1.bV),(dd b2.s1.kept),(cI b2.n0),(cI b2.n1),(eh b2.w0),(eh b2.w1),(cI b2.bE.cap),(fF b2.bE.used),(gH b2.bE.aU),(.s 3 0 4 b2.aQ.length),(.s 4 0 1 y2.length),(dO b2.book)]),(.c (.s 5 0 2 o2.length)),(.g [(cI f2.err),(cI f2.at_)])]) [(0,(dJ b2.ao)),(1,(dx b2.due)),(2,(dR b2.au)),(3,(cF b2.aQ)),(4,(pN y2)),(5,(Ej o2))]:=by
 refine Fn.mk' 89 [(0,(aG [(cR 3 ((s.cY).map gV)),(cI s.ib),(cI s.cap)])),(1,(aC (qB l)))] Try.func22 rfl rfl rfl rfl ?_
 intro W0 T0
 refine fc 0 0 rfl rfl (fun hlen0_0=>?_)
 refine dz 1 rfl (fun hlen1=>?_)
 refine ad aa 4 rfl ?_
 refine af ?_
 refine az aa 1 rfl ?_
 obtain ⟨f0,hr0⟩:∃ (f0:cV),eo s=f0:=⟨_,rfl⟩
 refine aL 3 [2,1,0] (bI 3 (vt s f0 hr0) Gg rfl rfl ⟨⟨_,rfl,.g ⟨.d _,.d _,.d _,trivial⟩⟩,trivial⟩ ⟨trivial,trivial,trivial⟩ trivial rfl rfl rfl rfl) rfl ?_
 refine ab aa 2 rfl ?_
 refine ae ?_
 refine ad aa 3 rfl ?_
 refine ag rfl (fun hc1=>?_) (fun hc1=>?_)
 ·
  have hc1':=of_decide_eq_true hc1
  refine af ?_
  refine cX [1,2,4,6,7] [3,2,1,0] mixed rfl rfl ?_
  refine bQ (kn:=[]) aa 5 rfl trivial ?_
  refine dK [1,2,4,6,5] [2,1,0] rfl rfl (by kernel_rfl) ?_
  refine then_ok ?_
  refine aq ?_
  refine an ?_
  refine cb 1 2 61 6 rfl rfl rfl ?_
  refine cb 1 3 3 1 rfl rfl rfl ?_
  refine cb 1 4 67 8 rfl rfl rfl ?_
  refine eQ 1 6 4 rfl rfl rfl ?_
  refine eQ 1 8 4 rfl rfl rfl ?_
  refine eQ 1 11 5 rfl rfl rfl ?_
  refine eQ 1 12 5 rfl rfl rfl ?_
  refine eQ 1 14 1 rfl rfl rfl ?_
  refine eQ 1 15 4 rfl rfl rfl ?_
  refine cb 1 16 83 4 rfl rfl rfl ?_
  refine cb 1 17 86 1 rfl rfl rfl ?_
  refine eQ 1 18 2 rfl rfl rfl ?_
  refine cQ (aD.nil 5 65 2 (by decide) rfl) ?_
  have hX:gW s l=((⟨0,false,([]:List bC),([]:List Int),([]:List bz),(⟨0,[]⟩:bU),(⟨0,[]⟩:bU),0,0,[],[],(⟨0,[],[]⟩:cr),([]:List al),[]⟩:Bk),([]:List (List Int)),([]:List Answer),f0):=by
    unfold gW;rw [hr0,if_pos (by omega)];rfl
  rw [hX] at hr;clear hX
  simp only [Prod.mk.injEq] at hr;obtain ⟨rfl,rfl,rfl,rfl⟩:=hr
  refine aj aa [4,5,6,7,8,9,1,2] 6 rfl rfl rfl rfl rfl rfl ?_ ?_
  all_goals first|rfl|(simp [ar,aR,aX];done)|(simp [ar,aR,aX];omega)
 have hc1':=of_decide_eq_false hc1
 refine aN ?_
 refine af ?_
 refine az aa 1 rfl ?_
 refine ax (cT rfl rfl rfl rfl rfl Try.underlying24) rfl ?_
 refine ab aa 1 rfl ?_
 refine ae ?_
 refine ag rfl (fun hc2=>?_) (fun hc2=>?_)
 ·
  have hc2':=of_decide_eq_true hc2
  refine ad aa 5 rfl ?_
  refine aq ?_
  refine an ?_
  refine cb 1 2 61 6 rfl rfl rfl ?_
  refine cb 1 3 3 1 rfl rfl rfl ?_
  refine cb 1 4 67 8 rfl rfl rfl ?_
  refine eQ 1 6 4 rfl rfl rfl ?_
  refine eQ 1 8 4 rfl rfl rfl ?_
  refine eQ 1 11 5 rfl rfl rfl ?_
  refine eQ 1 12 5 rfl rfl rfl ?_
  refine eQ 1 14 1 rfl rfl rfl ?_
  refine eQ 1 15 4 rfl rfl rfl ?_
  refine cb 1 16 83 4 rfl rfl rfl ?_
  refine cb 1 17 86 1 rfl rfl rfl ?_
  refine eQ 1 18 2 rfl rfl rfl ?_
  refine cQ (aD.nil 5 65 2 (by decide) rfl) ?_
  have hX:gW s l=((⟨0,false,([]:List bC),([]:List Int),([]:List bz),(⟨0,[]⟩:bU),(⟨0,[]⟩:bU),0,0,[],[],(⟨0,[],[]⟩:cr),([]:List al),[]⟩:Bk),([]:List (List Int)),([]:List Answer),(⟨5,0⟩:cV)):=by
    unfold gW;rw [hr0,if_neg (by omega),if_pos (by omega)];rfl
  rw [hX] at hr;clear hX
  simp only [Prod.mk.injEq] at hr;obtain ⟨rfl,rfl,rfl,rfl⟩:=hr
  refine aj aa [4,5,6,7,8,9,1,2] 6 rfl rfl rfl rfl rfl rfl ?_ ?_
  all_goals first|rfl|(simp [ar,aR,aX];done)|(simp [ar,aR,aX];omega)
 have hc2':=of_decide_eq_false hc2
 refine aN ?_
 refine eM ?_
 refine aL 5 [4,3,2,1,0] (xL 4 rfl) rfl ?_
 refine ab aa 3 rfl ?_
 refine ae ?_
 refine af ?_
 obtain ⟨w1,w2,w3,w4,w5,w6⟩:=kx (s:=s) (by rw [hr0];omega)
 refine po 5 2 61 6 rfl rfl rfl ?_
 refine po 5 4 67 8 rfl rfl rfl ?_
 refine jX 5 6 4 rfl rfl rfl ?_
 refine jX 5 8 4 rfl rfl rfl ?_
 refine jX 5 11 5 rfl rfl rfl ?_
 refine jX 5 12 5 rfl rfl rfl ?_
 refine jX 5 14 1 rfl rfl rfl ?_
 refine jX 5 15 4 rfl rfl rfl ?_
 refine po 5 16 83 4 rfl rfl rfl ?_
 refine po 5 17 86 1 rfl rfl rfl ?_
 refine jX 5 18 2 rfl rfl rfl ?_
 refine az aa 2 rfl ?_
 refine ax (cT rfl rfl rfl rfl rfl Try.underlying53) rfl ?_
 refine ab aa 1 rfl ?_
 refine ae ?_
 refine aV ?_
 refine cu (β:=Nat×List bC) (fun (p:Nat×List bC)=>match p with|(q,m)=>⟨[(1,(aC (qB l))),(2,(aC (.p 0 0 0 0))),(4,(aC (.p 1 0 0 0))),(5,(aC cN)),(6,(aC (.p 2 0 0 0))),(8,(aC (.p 5 0 0 0))),(29,(aC (cR 3 ((s.cY).map gV)))),(30,(aI (↑s.cY.length:Int))),(31,(aI (↑q:Int)))],[(9,(pN ([]:List (List Int)))),(8,(cF ([]:List al))),(7,(dR ([]:List bz))),(6,(dJ m)),(5,(.box 98 [(cI 0),(cB false),(.s 6 0 6 m.length),cN,(.s 7 0 8 0),(cI 0),(dd ([]:List bl)),(cI 0),(dd ([]:List bl)),(cI 0),(cI 0),(eh ([]:List cc)),(eh ([]:List cc)),(cI 0),(fF ([]:List Int)),(gH ([]:List bS)),(.s 8 0 4 0),(.s 9 0 1 0),(dO ([]:List Entry)),(.m 4)])),(4,(.map (tV ([]:List (Int×Answer))) 0)),(2,(.box 50 [(cI 0),(cI 0)])),(1,(.box 46 [(cI 0),(cB false),cN,cN,cN,(cI 0),cN,(cI 0),cN,(cI 0),(cI 0),cN,cN,(cI 0),cN,cN,cN,cN,cN])),(0,(.box 55 [(cR 3 ((s.cY).map gV)),(cI s.ib),(cI s.cap)]))],10⟩) (fun (p:Nat×List bC)=>match p with|(q,m)=>q<=s.cY.length/\m=(s.cY.take q).map ph/\m.length=q) (fun (p:Nat×List bC)=>match p with|(q,m)=>s.cY.length - q) (0,([]:List bC)) ?_ ?_ ?_
 ·exact ⟨by omega,rfl,rfl⟩
 ·exact aD.bZ id (by refine ⟨?_,?_,?_,?_,?_,?_,?_,?_,?_,trivial⟩<;>first|rfl|(simp only [bq];done)|(congr 3;omega)|(congr 4;omega)|(simp only [br];rfl)) (by refine ⟨?_,?_,?_,?_,?_,?_,?_,?_,?_,trivial⟩<;>first|rfl|(simp only [bq];done)|(congr 3;omega)|(congr 4;omega)|(simp only [br];rfl)) rfl
 rintro ⟨q,m⟩ ⟨hi0_0,hi0_1,hi0_2⟩
 refine ad aa 1 rfl ?_
 refine af ?_
 refine ag rfl (fun hc3=>?_) (fun hc3=>?_)
 ·
  have hc3':=of_decide_eq_true hc3
  refine aN ?_
  refine af ?_
  refine aV ?_
  refine eM ?_
  obtain ⟨x1,hx1⟩:=bY (xs:=s.cY) (i:=q) (by first|omega|(simp;done)|(simp;omega))
  refine ax (cf (i:=q) rfl rfl rfl Try.underlying53 CO (by first|omega|(simp;done)|(simp;omega)) (bf hx1)) rfl ?_
  refine ab aa 3 rfl ?_
  refine ae ?_
  refine bb [1,2,4,5,6,8,29,30,31,10] [10,9,8,7,6,5,4,2,1,0] mixed rfl rfl ?_
  refine aA (kn:=[]) aa 7 rfl trivial ?_
  refine aS (n':=11) [41] [] rfl rfl (.inl ⟨(ah.plain rfl),aH.cast (aH.FC (cs':=[(cI 0),(cI 0),(cI x1.cH),(cI x1.count),(cI x1.sum),(fj ([]:List cU))]) 5 2 (wM (ys:=[(2,(.g [(cI x1.cH),(cI x1.count),(cI x1.sum)]))]) rfl Fg rfl ⟨⟨rfl,rfl⟩,trivial⟩ rfl rfl) rfl rfl) rfl⟩) rfl ?_
  refine aS (n':=12) [42] [] rfl rfl (.inl ⟨(ah.plain rfl),aH.cast (dD (ys:=[(0,(.g [(cI 0),(cI 0),(cI x1.cH),(cI x1.count),(cI x1.sum),(fj ([]:List cU))]))]) (rows:=([(⟨0,0,x1,([]:List cU)⟩:bC)]).map pa) 11 xn rfl (by decide) ⟨⟨rfl,rfl⟩,trivial⟩ rfl rfl rfl rfl) rfl⟩) rfl ?_
  refine aS (n':=13) [40,43] [11,6] rfl rfl (.inl ⟨(ah.plain rfl),aH.cast (dh (m:=1) (N:=m.length+1) (k2:=12) (ys:=([(⟨0,0,x1,([]:List cU)⟩:bC)]).map pa) xn rfl rfl rfl rfl rfl rfl (by first|omega|(simp;done)|(simp;omega)) rfl (.s rfl (by first|omega|(simp;done)|(simp;omega))) (by first|omega|(simp;done)|(simp;omega)) (by first|omega|(simp;done)|(simp;omega)) fb (by decide) (by first|omega|(simp;done)|(simp;omega)) (by first|omega|(simp;done)|(simp;omega))) rfl⟩) rfl ?_
  refine aA (kn:=[]) aa 3 rfl trivial ?_
  refine bx [12,10,9,8,7,5,4,2,1,0] rfl rfl rfl rfl (by kernel_rfl) ?_
  refine ab aa 1 rfl ?_
  refine bX ?_
  refine bn ?_
  refine then_ok ?_
  refine aw ?_
  refine ax (aJ rfl rfl rfl (aE (by first|omega|(simp;done)|(simp;omega)))) rfl ?_
  refine ab aa 1 rfl ?_
  refine ae ?_
  refine ⟨(q+1,m++([(⟨0,0,x1,([]:List cU)⟩:bC)])),⟨by omega,by rw [im hx1,List.map_append,<-hi0_1];rfl,by rw [List.length_append,hi0_2];rfl⟩,by first|omega|(simp;done)|(simp;omega),aD.bZ (fun k=>if k=6 then 12 else k) (by refine ⟨?_,?_,?_,?_,?_,?_,?_,?_,?_,trivial⟩<;>first|rfl|(simp only [bq];done)|(congr 3;omega)|(congr 4;omega)|(simp only [br];rfl)) (by refine ⟨?_,?_,?_,?_,?_,?_,?_,?_,?_,trivial⟩<;>first|rfl|(simp only [bq];done)|(congr 3;omega)|(congr 4;omega)|(simp only [br];rfl)) rfl⟩
 have hc3':=of_decide_eq_false hc3
 refine cp ?_
 refine aP ?_
 refine aP ?_
 refine bP ?_
 refine then_ok ?_
 refine az aa 3 rfl ?_
 refine aL 11 [10,9,8,7,6,5,4,2,1,0] (pc 10 mf BC rfl rfl rfl (n:=Int.toNat (s.ib)) (by first|omega|(simp;done)|(simp;omega)) (by first|omega|(simp;done)|(simp;omega)) (by first|omega|(simp;done)|(simp;omega)) (by first|omega|(simp;done)|(simp;omega))) rfl ?_
 refine ab aa 4 rfl ?_
 refine ae ?_
 refine az aa 5 rfl ?_
 refine ax (cT rfl rfl rfl rfl rfl Try.underlying53) rfl ?_
 have hr1:dq s.cap (↑s.cY.length:Int)=((dq s.cap (↑s.cY.length:Int)).1,(dq s.cap (↑s.cY.length:Int)).2):=rfl
 refine aL 11 [10,9,8,7,6,5,4,2,1,0] (bI 11 (Fn.frozen (av':=(.t [(.g [(cI (((dq s.cap (↑s.cY.length:Int)).1).cap)),(fF (((dq s.cap (↑s.cY.length:Int)).1).used)),(gH (((dq s.cap (↑s.cY.length:Int)).1).aU))]),(.c (cI ((dq s.cap (↑s.cY.length:Int)).2)))])) (vR s.cap (↑s.cY.length:Int) ((dq s.cap (↑s.cY.length:Int)).1) ((dq s.cap (↑s.cY.length:Int)).2) hr1) ⟨⟨.inl ⟨_,rfl,rfl⟩,.inr ⟨_,_,_,_,_,rfl,rfl,rfl,by simp⟩,.inr ⟨_,_,_,_,_,rfl,rfl,rfl,by simp⟩,trivial⟩,.inl ⟨_,rfl,rfl⟩,trivial⟩) Gf rfl rfl ⟨⟨_,rfl,.c (.d _)⟩,⟨_,rfl,.c (.d _)⟩,trivial⟩ ⟨⟨trivial,trivial,trivial,trivial⟩,trivial,trivial⟩ trivial rfl rfl rfl rfl) rfl ?_
 refine ab aa 7 rfl ?_
 refine ae ?_
 refine ad aa 1 rfl ?_
 refine af ?_
 refine az aa 1 rfl ?_
 refine ax (cT rfl rfl rfl rfl rfl Try.underlying24) rfl ?_
 refine ab aa 1 rfl ?_
 refine ae ?_
 refine aV ?_
 refine gP (aD.nil 11 65 2 (by decide) rfl) ?_
 have htk:m=s.cY.map ph:=by rw [hi0_1,List.take_of_length_le (by omega)]
 subst htk
 refine cu (β:=Nat×Bk×List (List Int)×List (Int×Answer)×Nat×List Answer) (fun (p:Nat×Bk×List (List Int)×List (Int×Answer)×Nat×List Answer)=>match p with|(u,b,days,told,cl,out)=>⟨[(1,(aC (qB l))),(2,(aC (.p 0 0 0 0))),(4,(aC (.p 1 0 0 0))),(5,(aC cN)),(6,(aC (.p 2 0 0 0))),(8,(aC (.p 5 0 0 0))),(29,(aC (cR 3 ((s.cY).map gV)))),(30,(aI (↑s.cY.length:Int))),(31,(aI (↑q:Int))),(11,(aC (.s 11 0 2 out.length))),(70,(aI (↑l.length:Int))),(71,(aI (↑u:Int)))],[(11,(Ej out)),(10,(dx b.due)),(9,(pN days)),(8,(cF b.aQ)),(7,(dR b.au)),(6,(dJ b.ao)),(5,(.box 98 (aR b 6 10 7 8 (.s 9 0 1 days.length) (.m 4)))),(4,(.map (tV told) cl)),(2,(.box 50 [(cI 0),(cI 0)])),(1,(.box 46 [(cI 0),(cB false),cN,cN,cN,(cI 0),cN,(cI 0),cN,(cI 0),(cI 0),cN,cN,(cI 0),cN,cN,cN,cN,cN])),(0,(.box 55 [(cR 3 ((s.cY).map gV)),(cI s.ib),(cI s.cap)]))],12⟩) (fun (p:Nat×Bk×List (List Int)×List (Int×Answer)×Nat×List Answer)=>match p with|(u,b,days,told,cl,out)=>u<=l.length/\jY l (hJ s) [] [] 0 []=jY (l.drop u) b days told cl out/\cj b/\days.length<=u/\out.length=u) (fun (p:Nat×Bk×List (List Int)×List (Int×Answer)×Nat×List Answer)=>match p with|(u,b,days,told,cl,out)=>l.length - u) (0,hJ s,([]:List (List Int)),([]:List (Int×Answer)),0,([]:List Answer)) ?_ ?_ ?_
 ·exact ⟨by omega,rfl,cj.start (by rw [hr0];omega),by simp,rfl⟩
 ·exact aD.bZ id (by refine ⟨?_,?_,?_,?_,?_,?_,?_,?_,?_,?_,?_,?_,trivial⟩<;>first|rfl|(simp only [bq];done)|(congr 3;omega)|(congr 4;omega)|(simp only [br];rfl)) (by refine ⟨?_,?_,?_,?_,?_,?_,?_,?_,?_,?_,?_,trivial⟩<;>first|rfl|(simp only [bq];done)|(congr 3;omega)|(congr 4;omega)|(simp only [br];rfl)|(simp only [aR,hJ,List.length_replicate];rfl)) rfl
 rintro ⟨u,b,days,told,cl,out⟩ ⟨hi1_0,hi1_1,hi1_2,hi1_3,hi1_4⟩
 refine ad aa 1 rfl ?_
 refine af ?_
 refine ag rfl (fun hc4=>?_) (fun hc4=>?_)
 ·
  have hc4':=of_decide_eq_true hc4
  refine aN ?_
  refine af ?_
  refine aV ?_
  refine ad aa 2 rfl ?_
  refine aw ?_
  refine ab aa 4 rfl ?_
  obtain ⟨x1,hx1⟩:=bY (xs:=l) (i:=u) (by first|omega|(simp;done)|(simp;omega))
  refine ax (cf (i:=u) rfl rfl rfl Try.underlying24 Fw (by first|omega|(simp;done)|(simp;omega)) (bf hx1)) rfl ?_
  obtain ⟨b22,y22,t22,c22,a22,hr2⟩:∃ (b22:Bk) (y22:List (List Int)) (t22:List (Int×Answer)) (c22:Nat) (a22:Answer),fC b days told cl x1=(b22,y22,t22,c22,a22):=⟨_,_,_,_,_,rfl⟩
  refine aL 18 [5,12,13,14,15,16,17,11,2,1,0] (cg (aY [5,6,10,7,8,9,4]) (aY [5,12,13,14,15,16,17]) (ms:=(iK b 1 2 3 4 (some (.s 5 0 1 days.length)) (some (.m 6)))) (ms':=(iK b22 1 2 3 4 (some (.s 5 0 1 y22.length)) (some (.m 6)))) (fun x hx=>Eb x hx b days told cl x1 (by first|assumption|exact cj.tick (by assumption) (by omega) (by omega)) (by first|omega|(simp;done)|(simp;omega)) b22 y22 t22 c22 a22 hr2) Ge rfl rfl ⟨⟨_,rfl,.inl ⟨rfl,rfl⟩⟩,⟨_,rfl,.inl ⟨rfl,rfl⟩⟩,trivial⟩ rfl rfl rfl rfl rfl rfl rfl ⟨rfl,rfl,rfl,rfl,rfl,rfl,trivial⟩ rfl rfl rfl rfl rfl rfl rfl rfl rfl rfl rfl rfl rfl) rfl ?_
  refine aL 19 [18,5,12,13,14,15,16,17,11,2,1,0] (dD (ys:=[(0,(.g [(cI a22.err),(cI a22.ba)]))]) (rows:=([a22]).map kT) 18 CP rfl (by decide) ⟨⟨rfl,rfl⟩,trivial⟩ rfl rfl rfl rfl) rfl ?_
  refine aL 20 [19,18,5,12,13,14,15,16,17,2,1,0] (dh (m:=1) (N:=out.length+1) (k2:=19) (ys:=([a22]).map kT) CP rfl rfl rfl rfl rfl rfl (by first|omega|(simp;done)|(simp;omega)) rfl (.s rfl (by first|omega|(simp;done)|(simp;omega))) (by first|omega|(simp;done)|(simp;omega)) (by first|omega|(simp;done)|(simp;omega)) fb (by decide) (by first|omega|(simp;done)|(simp;omega)) (by first|omega|(simp;done)|(simp;omega))) rfl ?_
  refine ab aa 1 rfl ?_
  refine bX ?_
  refine bn ?_
  refine then_ok ?_
  refine aw ?_
  refine ax (aJ rfl rfl rfl (aE (by first|omega|(simp;done)|(simp;omega)))) rfl ?_
  refine ab aa 1 rfl ?_
  refine ae ?_
  refine ⟨(u+1,b22,y22,t22,c22,out++([a22])),⟨by omega,by rw [hi1_1,xw hx1,hr2],(by have h:=cj.once hi1_2 days told cl x1;rw [hr2] at h;exact h.1),(by have h:=(cj.once hi1_2 days told cl x1).2;rw [hr2] at h;dsimp only at h;omega),by rw [List.length_append,hi1_4];rfl⟩,by first|omega|(simp;done)|(simp;omega),aD.bZ (fun k=>if k=11 then 19 else if k=4 then 17 else if k=9 then 16 else if k=8 then 15 else if k=7 then 14 else if k=10 then 13 else if k=6 then 12 else k) (by refine ⟨?_,?_,?_,?_,?_,?_,?_,?_,?_,?_,?_,?_,trivial⟩<;>first|rfl|(simp only [bq];done)|(congr 3;omega)|(congr 4;omega)|(simp only [br];rfl)) (by refine ⟨?_,?_,?_,?_,?_,?_,?_,?_,?_,?_,?_,trivial⟩<;>first|rfl|(simp only [bq];done)|(congr 3;omega)|(congr 4;omega)|(simp only [br];rfl)) rfl⟩
 have hc4':=of_decide_eq_false hc4
 refine cp ?_
 refine aP ?_
 refine aP ?_
 refine bP ?_
 refine then_ok ?_
 refine ad aa 9 rfl ?_
 refine aq ?_
 have hX:gW s l=(b,days,out,(⟨0,0⟩:cV)):=by
   unfold gW;rw [hr0,if_neg (by omega),if_neg (by omega),hi1_1,List.drop_of_length_le (by omega)];rfl
 rw [hX] at hr;clear hX
 simp only [Prod.mk.injEq] at hr;obtain ⟨rfl,rfl,rfl,rfl⟩:=hr
 refine aj aa [6,10,7,8,9,11,1,2] 6 rfl rfl rfl rfl rfl rfl ?_ ?_
 all_goals first|rfl|(simp [ar,aR,aX];done)|(simp [ar,aR,aX];omega)


def Fz (bA:Int):Setup:=⟨[⟨1000,30,1000000000000⟩,⟨1000,30,1000000000000⟩],2,bA⟩
def nD (n:Int) (k:Nat):List aZ:=List.replicate k ⟨0,6,n,0,0,0⟩
def qI (j:Nat):List aZ:=if j=0 then nD 0 5++nD 1 5 else if j=1 then nD 1 5 else []
def tS:List aZ:=[⟨0,5,0,0,0,0⟩,⟨0,5,1,0,0,0⟩]++qI 0
def rq (n:Nat):List aZ:=(List.replicate n tS).flatten
def iU (l:List aZ):List aZ:=l++rq 2
theorem zN {n:Int} {k:Nat} (h:k < 5):nD n (5 - k)=[⟨0,6,n,0,0,0⟩]++nD n (5 - (k+1)):=by
  have:5 - k=(5 - (k+1))+1:=by omega
  rw [this];rfl
theorem xo {j:Nat} (h:j < 2):qI j=nD (↑j) 5++qI (j+1):=by
  rcases j with _|_|j
  ·rfl
  ·rfl
  ·omega
theorem xV {i:Nat} (h:i < 2):rq (2 - i)=tS++rq (2 - (i+1)):=by
  have:2 - i=(2 - (i+1))+1:=by omega
  rw [this];rfl
def mz (l:List Int):Bool:=decide (∀ n∈l,1<=n/\n<=100000)

theorem vk (bA:Int):Fn Try.prog 23 [(.c (cI bA))] (.v (.g [(.s 0 0 3 2),(cI 2),(cI bA)])) [(0,.arr 58 3 ((Fz bA).cY.map gV))]:=by
 refine Fn.mk' 10 [(0,(aI bA))] Try.func23 rfl rfl rfl rfl ?_
 intro W0 T0
 refine ad aa 1 rfl ?_
 refine ad aa 3 rfl ?_
 refine az aa 2 rfl ?_
 refine aL 3 [2,1,0] (dD (ys:=[(0,(.g [(cI 1000),(cI 30),(cI 1000000000000)])),(1,(.g [(cI 1000),(cI 30),(cI 1000000000000)]))]) (rows:=([(⟨1000,30,1000000000000⟩:di),(⟨1000,30,1000000000000⟩:di)]).map gV) 2 Fx rfl (by decide) ⟨⟨rfl,rfl⟩,⟨rfl,rfl⟩,trivial⟩ rfl rfl rfl rfl) rfl ?_
 refine ab aa 3 rfl ?_
 refine ae ?_
 refine aq ?_
 refine aj aa [2,0] 1 rfl rfl rfl rfl rfl rfl ?_ ?_
 all_goals first|rfl|(simp [ar,aR,aX];done)|(simp [ar,aR,aX];omega)
theorem lQ (k n s:Int):Fn Try.prog 20 [(.c (cI k)),(.c (cI n)),(.c (cI s))] (.v (.g [(cI 0),(cI k),(cI n),(cI 0),(cI 0),(cI s)])) []:=by
 refine Fn.mk' 11 [(0,(aI k)),(1,(aI n)),(2,(aI s))] Try.func20 rfl rfl rfl rfl ?_
 intro W0 T0
 refine ad aa 1 rfl ?_
 refine ad aa 5 rfl ?_
 refine aq ?_
 refine aj aa [0] 0 rfl rfl rfl rfl rfl rfl ?_ ?_
 all_goals first|rfl|(simp [ar,aR,aX];done)|(simp [ar,aR,aX];omega)
theorem CC (k n s:Int):Fn Try.prog 21 [(.c (cI k)),(.c (cI n)),(.c (cI s))] (.v (.g [(cI 0),(cI 3),(cI n),(cI 0),(cI k),(cI s)])) []:=by
 refine Fn.mk' 11 [(0,(aI k)),(1,(aI n)),(2,(aI s))] Try.func21 rfl rfl rfl rfl ?_
 intro W0 T0
 refine ad aa 1 rfl ?_
 refine ad aa 5 rfl ?_
 refine aq ?_
 refine aj aa [0] 0 rfl rfl rfl rfl rfl rfl ?_ ?_
 all_goals first|rfl|(simp [ar,aR,aX];done)|(simp [ar,aR,aX];omega)

theorem Ee (l:List aZ) (N:Nat) (hN:N=l.length) (hl:l.length<=1000) (r:List aZ) (hr:iU l=r):cz Try.prog 19 [(.c (.s 0 0 6 N))] [(0,(wZ l))] [] (.v (.c (.s 0 0 6 r.length))) [(0,(wZ r))]:=by
 refine cz.mk 25 [(0,(aC (.s 0 0 6 N)))] 1 Try.func19 rfl rfl rfl rfl rfl rfl rfl rfl rfl ?_
 intro W0 F0 T0 pg
 refine fO 0 rfl (fun hlen0=>?_)
 refine ad aa 1 rfl ?_
 refine af ?_
 refine ad aa 1 rfl ?_
 refine aV ?_
 refine cu (β:=Nat×List aZ) (fun (p:Nat×List aZ)=>match p with|(i,m0)=>⟨[(0,(aC (.s 0 0 6 m0.length))),(2,(aC cN)),(4,(aI (↑i:Int)))],[(0,(wZ m0))],1⟩) (fun (p:Nat×List aZ)=>match p with|(i,m0)=>i<=2/\m0++rq (2 - i)=iU l/\m0.length+12 * (2 - i)=l.length+24) (fun (p:Nat×List aZ)=>match p with|(i,m0)=>2 - i) (0,l) ?_ ?_ ?_
 ·exact ⟨by omega,rfl,by omega⟩
 ·exact aD.bZ id (by refine ⟨?_,?_,?_,trivial⟩<;>first|rfl|(simp only [bq];done)|(congr 3;omega)|(congr 4;omega)|(simp only [br];rfl)|(first|exact cG rfl (by omega)|exact ir rfl (by first|omega|(simp only [List.length_append,List.length_cons,List.length_nil] at *;omega)))) (⟨by first|rfl|(simp only [bq];done)|(congr 3;omega)|(congr 4;omega)|(simp only [br];rfl),trivial⟩) rfl
 rintro ⟨i,m0⟩ ⟨hi0_0,hi0_1,hi0_2⟩
 refine ad aa 1 rfl ?_
 refine af ?_
 refine ag rfl (fun hc1=>?_) (fun hc1=>?_)
 ·
  have hc1':=of_decide_eq_true hc1
  refine aN ?_
  refine af ?_
  refine aV ?_
  refine az aa 1 rfl ?_
  refine aL 1 [0] (bI 1 (lQ 5 0 0) oJ rfl rfl ⟨⟨_,rfl,.c (.d _)⟩,⟨_,rfl,.c (.d _)⟩,⟨_,rfl,.c (.d _)⟩,trivial⟩ ⟨trivial,trivial,trivial,trivial,trivial,trivial,trivial⟩ trivial rfl rfl rfl rfl) rfl ?_
  refine aL 1 [0] (bI 1 (lQ 5 1 0) oJ rfl rfl ⟨⟨_,rfl,.c (.d _)⟩,⟨_,rfl,.c (.d _)⟩,⟨_,rfl,.c (.d _)⟩,trivial⟩ ⟨trivial,trivial,trivial,trivial,trivial,trivial,trivial⟩ trivial rfl rfl rfl rfl) rfl ?_
  refine aL 2 [1,0] (dD (ys:=[(0,(.g [(cI 0),(cI 5),(cI 0),(cI 0),(cI 0),(cI 0)])),(1,(.g [(cI 0),(cI 5),(cI 1),(cI 0),(cI 0),(cI 0)]))]) (rows:=([(⟨0,5,0,0,0,0⟩:aZ),(⟨0,5,1,0,0,0⟩:aZ)]).map cS) 1 rM rfl (by decide) ⟨⟨rfl,rfl⟩,⟨rfl,rfl⟩,trivial⟩ rfl rfl rfl rfl) rfl ?_
  refine aL 3 [2,1] (dh (m:=2) (N:=m0.length+2) (k2:=2) (ys:=([(⟨0,5,0,0,0,0⟩:aZ),(⟨0,5,1,0,0,0⟩:aZ)]).map cS) rM rfl rfl rfl rfl rfl rfl (by first|omega|(simp;done)|(simp;omega)) rfl (.s rfl (by first|omega|(simp;done)|(simp;omega))) (by first|omega|(simp;done)|(simp;omega)) (by first|omega|(simp;done)|(simp;omega)) fb (by decide) (by first|omega|(simp;done)|(simp;omega)) (by first|omega|(simp;done)|(simp;omega))) rfl ?_
  refine ab aa 1 rfl ?_
  refine ae ?_
  refine ad aa 1 rfl ?_
  refine aV ?_
  refine cu (β:=Nat×List aZ) (fun (p:Nat×List aZ)=>match p with|(j,m1)=>⟨[(0,(aC (.s 2 0 6 m1.length))),(2,(aC cN)),(4,(aI (↑i:Int))),(11,(aI (↑j:Int)))],[(2,(wZ m1))],3⟩) (fun (p:Nat×List aZ)=>match p with|(j,m1)=>j<=2/\m1++qI j=m0++tS/\m1.length+5 * (2 - j)=m0.length+12) (fun (p:Nat×List aZ)=>match p with|(j,m1)=>2 - j) (0,m0++([(⟨0,5,0,0,0,0⟩:aZ),(⟨0,5,1,0,0,0⟩:aZ)])) ?_ ?_ ?_
  ·exact ⟨by omega,by simp [tS],by simp⟩
  ·exact aD.bZ id (by refine ⟨?_,?_,?_,?_,trivial⟩<;>first|rfl|(simp only [bq];done)|(congr 3;omega)|(congr 4;omega)|(simp only [br];rfl)|(first|exact cG rfl (by omega)|exact ir rfl (by first|omega|(simp only [List.length_append,List.length_cons,List.length_nil] at *;omega)))) (⟨by first|rfl|(simp only [bq];done)|(congr 3;omega)|(congr 4;omega)|(simp only [br];rfl),trivial⟩) rfl
  rintro ⟨j,m1⟩ ⟨hi1_0,hi1_1,hi1_2⟩
  refine ad aa 1 rfl ?_
  refine af ?_
  refine ag rfl (fun hc2=>?_) (fun hc2=>?_)
  ·
   have hc2':=of_decide_eq_true hc2
   refine aN ?_
   refine af ?_
   refine aV ?_
   refine ad aa 2 rfl ?_
   refine ad aa 1 rfl ?_
   refine aV ?_
   refine cu (β:=Nat×List aZ) (fun (p:Nat×List aZ)=>match p with|(k,m2)=>⟨[(0,(aC (.s 2 0 6 m2.length))),(2,(aC cN)),(4,(aI (↑i:Int))),(11,(aI (↑j:Int))),(3,(aI (↑j:Int))),(14,(aI (↑k:Int)))],[(2,(wZ m2))],3⟩) (fun (p:Nat×List aZ)=>match p with|(k,m2)=>k<=5/\m2++nD (↑j) (5 - k)=m1++nD (↑j) 5/\m2.length+(5 - k)=m1.length+5) (fun (p:Nat×List aZ)=>match p with|(k,m2)=>5 - k) (0,m1) ?_ ?_ ?_
   ·exact ⟨by omega,rfl,by omega⟩
   ·exact aD.bZ id (by refine ⟨?_,?_,?_,?_,?_,?_,trivial⟩<;>first|rfl|(simp only [bq];done)|(congr 3;omega)|(congr 4;omega)|(simp only [br];rfl)|(first|exact cG rfl (by omega)|exact ir rfl (by first|omega|(simp only [List.length_append,List.length_cons,List.length_nil] at *;omega)))) (⟨by first|rfl|(simp only [bq];done)|(congr 3;omega)|(congr 4;omega)|(simp only [br];rfl),trivial⟩) rfl
   rintro ⟨k,m2⟩ ⟨hi2_0,hi2_1,hi2_2⟩
   refine ad aa 1 rfl ?_
   refine af ?_
   refine ag rfl (fun hc3=>?_) (fun hc3=>?_)
   ·
    have hc3':=of_decide_eq_true hc3
    refine aN ?_
    refine af ?_
    refine aV ?_
    refine aw ?_
    refine ab aa 2 rfl ?_
    refine aL 3 [2] (bI 3 (lQ 6 (↑j:Int) 0) oJ rfl rfl ⟨⟨_,rfl,.c (.d _)⟩,⟨_,rfl,.c (.d _)⟩,⟨_,rfl,.c (.d _)⟩,trivial⟩ ⟨trivial,trivial,trivial,trivial,trivial,trivial,trivial⟩ trivial rfl rfl rfl rfl) rfl ?_
    refine aL 4 [3,2] (dD (ys:=[(0,(.g [(cI 0),(cI 6),(cI (↑j:Int)),(cI 0),(cI 0),(cI 0)]))]) (rows:=([(⟨0,6,(↑j:Int),0,0,0⟩:aZ)]).map cS) 3 rM rfl (by decide) ⟨⟨rfl,rfl⟩,trivial⟩ rfl rfl rfl rfl) rfl ?_
    refine aL 5 [4,3] (dh (m:=1) (N:=m2.length+1) (k2:=4) (ys:=([(⟨0,6,(↑j:Int),0,0,0⟩:aZ)]).map cS) rM rfl rfl rfl rfl rfl rfl (by first|omega|(simp;done)|(simp;omega)) rfl (.s rfl (by first|omega|(simp;done)|(simp;omega))) (by first|omega|(simp;done)|(simp;omega)) (by first|omega|(simp;done)|(simp;omega)) fb (by decide) (by first|omega|(simp;done)|(simp;omega)) (by first|omega|(simp;done)|(simp;omega))) rfl ?_
    refine ab aa 1 rfl ?_
    refine bX ?_
    refine bn ?_
    refine then_ok ?_
    refine aw ?_
    refine ax (aJ rfl rfl rfl (aE (by first|omega|(simp;done)|(simp;omega)))) rfl ?_
    refine ab aa 1 rfl ?_
    refine ae ?_
    refine ⟨(k+1,m2++([(⟨0,6,(↑j:Int),0,0,0⟩:aZ)])),⟨by omega,by rw [<-hi2_1,zN (k:=k) (by omega),List.append_assoc],by simp only [List.length_append,List.length_cons,List.length_nil];omega⟩,by first|omega|(simp;done)|(simp;omega),aD.bZ (fun k=>if k=2 then 4 else k) (by refine ⟨?_,?_,?_,?_,?_,?_,trivial⟩<;>first|rfl|(simp only [bq];done)|(congr 3;omega)|(congr 4;omega)|(simp only [br];rfl)|(first|exact cG rfl (by omega)|exact ir rfl (by first|omega|(simp only [List.length_append,List.length_cons,List.length_nil] at *;omega)))) (⟨by first|rfl|(simp only [bq];done)|(congr 3;omega)|(congr 4;omega)|(simp only [br];rfl),trivial⟩) rfl⟩
   have hc3':=of_decide_eq_false hc3
   refine cp ?_
   refine aP ?_
   refine aP ?_
   refine bP ?_
   refine bn ?_
   refine then_ok ?_
   refine aw ?_
   refine ax (aJ rfl rfl rfl (aE (by first|omega|(simp;done)|(simp;omega)))) rfl ?_
   refine ab aa 1 rfl ?_
   refine ae ?_
   refine ⟨(j+1,m2),⟨by omega,by rw [<-hi1_1,xo (j:=j) (by omega),<-List.append_assoc,<-hi2_1,(show 5 - k=0 by omega)];simp [nD],by omega⟩,by first|omega|(simp;done)|(simp;omega),aD.bZ id (by refine ⟨?_,?_,?_,?_,trivial⟩<;>first|rfl|(simp only [bq];done)|(congr 3;omega)|(congr 4;omega)|(simp only [br];rfl)|(first|exact cG rfl (by omega)|exact ir rfl (by first|omega|(simp only [List.length_append,List.length_cons,List.length_nil] at *;omega)))) (⟨by first|rfl|(simp only [bq];done)|(congr 3;omega)|(congr 4;omega)|(simp only [br];rfl),trivial⟩) rfl⟩
  have hc2':=of_decide_eq_false hc2
  refine cp ?_
  refine aP ?_
  refine aP ?_
  refine bP ?_
  refine bn ?_
  refine then_ok ?_
  refine aw ?_
  refine ax (aJ rfl rfl rfl (aE (by first|omega|(simp;done)|(simp;omega)))) rfl ?_
  refine ab aa 1 rfl ?_
  refine ae ?_
  refine ⟨(i+1,m1),⟨by omega,by rw [<-hi0_1,xV (i:=i) (by omega),<-List.append_assoc,<-hi1_1,(show j=2 by omega)];simp [qI],by omega⟩,by first|omega|(simp;done)|(simp;omega),aD.bZ (fun k=>if k=0 then 2 else k) (by refine ⟨?_,?_,?_,trivial⟩<;>first|rfl|(simp only [bq];done)|(congr 3;omega)|(congr 4;omega)|(simp only [br];rfl)|(first|exact cG rfl (by omega)|exact ir rfl (by first|omega|(simp only [List.length_append,List.length_cons,List.length_nil] at *;omega)))) (⟨by first|rfl|(simp only [bq];done)|(congr 3;omega)|(congr 4;omega)|(simp only [br];rfl),trivial⟩) rfl⟩
 have hc1':=of_decide_eq_false hc1
 refine cp ?_
 refine aP ?_
 refine aP ?_
 refine bP ?_
 refine then_ok ?_
 refine ad aa 2 rfl ?_
 refine aq ?_
 have hX:iU l=m0:=by
   have:i=2:=by omega
   subst this
   rw [<-hi0_1];simp [rq]
 rw [hX] at hr;clear hX
 subst hr
 refine aj aa [0] 1 rfl rfl rfl rfl rfl rfl ?_ ?_
 all_goals first|rfl|(simp [ar,aR,aX];done)|(simp [ar,aR,aX];omega)
theorem CA (l:List Int) (r:Bool) (hr:mz l=r):Fn Try.prog 18 [(.c (fF l))] (.v (.c (cB r))) []:=by
 refine Fn.mk' 18 [(0,(aC (fF l)))] Try.func18 rfl rfl rfl rfl ?_
 intro W0 T0
 refine dz 0 rfl (fun hlen0=>?_)
 refine ad aa 1 rfl ?_
 refine af ?_
 refine az aa 1 rfl ?_
 refine ax (cT rfl rfl rfl rfl rfl Try.underlying30) rfl ?_
 refine ab aa 1 rfl ?_
 refine ae ?_
 refine aV ?_
 refine cu (β:=Nat) (fun (q:Nat)=>⟨[(5,(aC (fF l))),(6,(aI (↑l.length:Int))),(7,(aI (↑q:Int)))],[],0⟩) (fun (q:Nat)=>q<=l.length/\(∀ i n,i < q->l[i]?=some n->1<=n/\n<=100000)) (fun (q:Nat)=>l.length - q) 0 ?_ ?_ ?_
 ·exact ⟨by omega,fun i n h=>by omega⟩
 ·exact aD.bZ id (by refine ⟨?_,?_,?_,trivial⟩<;>first|rfl|(simp only [bq];done)|(congr 3;omega)|(congr 4;omega)|(simp only [br];rfl)) (trivial) rfl
 rintro q ⟨hi0_0,hi0_1⟩
 refine ad aa 1 rfl ?_
 refine af ?_
 refine ag rfl (fun hc1=>?_) (fun hc1=>?_)
 ·
  have hc1':=of_decide_eq_true hc1
  refine aN ?_
  refine af ?_
  refine aV ?_
  refine eM ?_
  obtain ⟨x1,hx1⟩:=bY (xs:=l) (i:=q) (by first|omega|(simp;done)|(simp;omega))
  refine ax (cf (i:=q) rfl rfl rfl Try.underlying30 fT (by first|omega|(simp;done)|(simp;omega)) (bf hx1)) rfl ?_
  refine ab aa 2 rfl ?_
  refine ae ?_
  refine cm 16 ((decide (x1 < 1))||(decide (x1 > 100000))) ?_ ?_
  ·
   refine aw ?_
   refine ab aa 3 rfl ?_
   refine bj (t:=13) rfl (fun hb2=>?_) (fun hb2=>?_)
   ·
    have hb2':=of_decide_eq_true hb2
    refine ab aa 3 rfl ?_
    refine ae ?_
    exact aD.bB 7 rfl rfl (by first|(simp [hb2];done)|(simp_all;done)|(exfalso;simp_all;done)|(simp_all;omega)) rfl
   have hb2':=of_decide_eq_false hb2
   refine ab aa 3 rfl ?_
   refine ae ?_
   exact aD.bB 7 rfl rfl (by first|(simp [hb2];done)|(simp_all;done)|(exfalso;simp_all;done)|(simp_all;omega)) rfl
  refine ag rfl (fun hc3=>?_) (fun hc3=>?_)
  ·
   have hc3':=hc3;try simp only [bd,bF] at hc3'
   refine ad aa 1 rfl ?_
   refine aq ?_
   refine bg ?_
   refine an ?_
   refine an ?_
   refine bg ?_
   refine an ?_
   have hX:mz l=false:=by
     simp only [mz,decide_eq_false_iff_not];intro h;have:=h x1 (List.mem_of_getElem? hx1);omega
   rw [hX] at hr;clear hX
   subst hr
   refine aj aa [] 0 rfl rfl rfl rfl rfl rfl ?_ ?_
   all_goals first|rfl|(simp [ar,aR,aX];done)|(simp [ar,aR,aX];omega)
  have hc3':=hc3;try simp only [bd,bF] at hc3'
  refine cW ?_
  refine bn ?_
  refine then_ok ?_
  refine aw ?_
  refine ax (aJ rfl rfl rfl (aE (by first|omega|(simp;done)|(simp;omega)))) rfl ?_
  refine ab aa 1 rfl ?_
  refine ae ?_
  refine ⟨q+1,⟨by omega,fun i n hi hn=>by rcases Nat.lt_or_ge i q with h|h;exact hi0_1 i n h hn;(have:i=q:=by omega);subst this;rw [hx1] at hn;injection hn with hn;subst hn;constructor<;>omega⟩,by first|omega|(simp;done)|(simp;omega),aD.bZ id (by refine ⟨?_,?_,?_,trivial⟩<;>first|rfl|(simp only [bq];done)|(congr 3;omega)|(congr 4;omega)|(simp only [br];rfl)) (trivial) rfl⟩
 have hc1':=of_decide_eq_false hc1
 refine cp ?_
 refine aP ?_
 refine aP ?_
 refine bP ?_
 refine then_ok ?_
 refine ad aa 1 rfl ?_
 refine aq ?_
 have hX:mz l=true:=by
   simp only [mz,decide_eq_true_eq];intro n hn;obtain ⟨i,hi⟩:=List.getElem?_of_mem hn;exact hi0_1 i n (by have:=(List.getElem?_eq_some_iff.1 hi).1;omega) hi
 rw [hX] at hr;clear hX
 subst hr
 refine aj aa [] 0 rfl rfl rfl rfl rfl rfl ?_ ?_
 all_goals first|rfl|(simp [ar,aR,aX];done)|(simp [ar,aR,aX];omega)

theorem Bq:Fn Try.prog 17 [] (aB true) []:=by
 refine Fn.mk' 53 [] Try.func17 rfl rfl rfl rfl ?_
 intro W0 T0
 refine ad aa 1 rfl ?_
 refine eM ?_
 refine aL 0 [] (bI 0 (Fn.frozen (av':=(aG [(cR 3 (([(⟨1000,30,1000000000000⟩:di),(⟨1000,30,1000000000000⟩:di)]).map gV)),(cI 2),(cI 0)])) (vk 0) ⟨.inr ⟨_,_,_,_,_,rfl,rfl,rfl,by simp⟩,.inl ⟨_,rfl,rfl⟩,.inl ⟨_,rfl,rfl⟩,trivial⟩) DT rfl rfl ⟨⟨_,rfl,.c (.d _)⟩,trivial⟩ ⟨trivial,trivial,trivial,trivial⟩ trivial rfl rfl rfl rfl) rfl ?_
 refine aL 0 [] (bI 0 (lQ 1 0 100) oJ rfl rfl ⟨⟨_,rfl,.c (.d _)⟩,⟨_,rfl,.c (.d _)⟩,⟨_,rfl,.c (.d _)⟩,trivial⟩ ⟨trivial,trivial,trivial,trivial,trivial,trivial,trivial⟩ trivial rfl rfl rfl rfl) rfl ?_
 refine aL 0 [] (bI 0 (lQ 2 0 60) oJ rfl rfl ⟨⟨_,rfl,.c (.d _)⟩,⟨_,rfl,.c (.d _)⟩,⟨_,rfl,.c (.d _)⟩,trivial⟩ ⟨trivial,trivial,trivial,trivial,trivial,trivial,trivial⟩ trivial rfl rfl rfl rfl) rfl ?_
 refine aL 0 [] (bI 0 (CC 3 0 40) Gk rfl rfl ⟨⟨_,rfl,.c (.d _)⟩,⟨_,rfl,.c (.d _)⟩,⟨_,rfl,.c (.d _)⟩,trivial⟩ ⟨trivial,trivial,trivial,trivial,trivial,trivial,trivial⟩ trivial rfl rfl rfl rfl) rfl ?_
 refine aL 1 [0] (dD (ys:=[(0,(.g [(cI 0),(cI 1),(cI 0),(cI 0),(cI 0),(cI 100)])),(1,(.g [(cI 0),(cI 2),(cI 0),(cI 0),(cI 0),(cI 60)])),(2,(.g [(cI 0),(cI 3),(cI 0),(cI 0),(cI 3),(cI 40)]))]) (rows:=([(⟨0,1,0,0,0,100⟩:aZ),(⟨0,2,0,0,0,60⟩:aZ),(⟨0,3,0,0,3,40⟩:aZ)]).map cS) 0 rM rfl (by decide) ⟨⟨rfl,rfl⟩,⟨rfl,rfl⟩,⟨rfl,rfl⟩,trivial⟩ rfl rfl rfl rfl) rfl ?_
 have hr0:iU ([(⟨0,1,0,0,0,100⟩:aZ),(⟨0,2,0,0,0,60⟩:aZ),(⟨0,3,0,0,3,40⟩:aZ)])=(iU ([(⟨0,1,0,0,0,100⟩:aZ),(⟨0,2,0,0,0,60⟩:aZ),(⟨0,3,0,0,3,40⟩:aZ)])):=rfl
 refine aL 2 [1] (cA id (aY [1]) (Ee ([(⟨0,1,0,0,0,100⟩:aZ),(⟨0,2,0,0,0,60⟩:aZ),(⟨0,3,0,0,3,40⟩:aZ)]) 3 (by first|omega|(simp;done)|(simp;omega)) (by first|omega|(simp;done)|(simp;omega)) (iU ([(⟨0,1,0,0,0,100⟩:aZ),(⟨0,2,0,0,0,60⟩:aZ),(⟨0,3,0,0,3,40⟩:aZ)])) hr0) Gl rfl rfl ⟨⟨_,rfl,.inl ⟨rfl,rfl⟩⟩,trivial⟩ ⟨rfl,trivial⟩ rfl rfl rfl rfl rfl rfl trivial ⟨(fun _ _ _ _=>trivial),trivial⟩ rfl rfl rfl rfl) rfl ?_
 refine lU (s':=[(0,(aB false)),(5,(aG [(cR 3 (([(⟨1000,30,1000000000000⟩:di),(⟨1000,30,1000000000000⟩:di)]).map gV)),(cI 2),(cI 0)])),(6,(aG [(cI 0),(cI 1),(cI 0),(cI 0),(cI 0),(cI 100)])),(7,(aG [(cI 0),(cI 2),(cI 0),(cI 0),(cI 0),(cI 60)])),(8,(aG [(cI 0),(cI 3),(cI 0),(cI 0),(cI 3),(cI 40)])),(10,(aC (qB (iU ([(⟨0,1,0,0,0,100⟩:aZ),(⟨0,2,0,0,0,60⟩:aZ),(⟨0,3,0,0,3,40⟩:aZ)])))))]) (h':=[]) 1 rfl ⟨⟨_,rfl,.inl ⟨rfl,rfl⟩⟩,⟨_,rfl,.inl ⟨rfl,rfl⟩⟩,⟨_,rfl,.inl ⟨rfl,rfl⟩⟩,⟨_,rfl,.inl ⟨rfl,rfl⟩⟩,⟨_,rfl,.inl ⟨rfl,rfl⟩⟩,⟨_,rfl,.inr ⟨_,_,rfl,rfl,.s rfl (by decide) (by first|omega|(simp;done)|(simp;omega))⟩⟩,trivial⟩ trivial rfl ?_
 have hr1:gW (⟨[(⟨1000,30,1000000000000⟩:di),(⟨1000,30,1000000000000⟩:di)],2,0⟩:Setup) (iU ([(⟨0,1,0,0,0,100⟩:aZ),(⟨0,2,0,0,0,60⟩:aZ),(⟨0,3,0,0,3,40⟩:aZ)]))=((⟨0,false,[⟨60,0,⟨1000,30,1000000000000⟩,[⟨0,60⟩]⟩,⟨0,0,⟨1000,30,1000000000000⟩,[]⟩],[40,0],[⟨0,0,60,40,0,0,100,true⟩],⟨1,[]⟩,⟨0,[]⟩,0,1,[],[],⟨0,[0,0],[]⟩,[⟨0,0,3,40⟩],[⟨0,-100⟩,⟨10,60⟩,⟨50,40⟩]⟩:Bk),[],(gW (⟨[(⟨1000,30,1000000000000⟩:di),(⟨1000,30,1000000000000⟩:di)],2,0⟩:Setup) (iU ([(⟨0,1,0,0,0,100⟩:aZ),(⟨0,2,0,0,0,60⟩:aZ),(⟨0,3,0,0,3,40⟩:aZ)]))).2.2.1,(⟨0,0⟩:cV)):=by kernel_rfl
 refine aL 2 [] (bI 2 (Fn.frozen (av':=(.t [(.g [(cI 0),(cB false),(CK ([⟨60,0,⟨1000,30,1000000000000⟩,[⟨0,60⟩]⟩,⟨0,0,⟨1000,30,1000000000000⟩,[]⟩])),(fF ([40,0])),(yl ([⟨0,0,60,40,0,0,100,true⟩])),(cI 1),(dd ([])),(cI 0),(dd ([])),(cI 0),(cI 1),(eh ([])),(eh ([])),(cI 0),(fF ([0,0])),(gH ([])),(iM ([⟨0,0,3,40⟩])),(CI ([])),(dO ([⟨0,-100⟩,⟨10,60⟩,⟨50,40⟩]))]),(.c (CJ ((gW (⟨[(⟨1000,30,1000000000000⟩:di),(⟨1000,30,1000000000000⟩:di)],2,0⟩:Setup) (iU ([(⟨0,1,0,0,0,100⟩:aZ),(⟨0,2,0,0,0,60⟩:aZ),(⟨0,3,0,0,3,40⟩:aZ)]))).2.2.1))),(.g [(cI 0),(cI 0)])])) (zL (⟨[(⟨1000,30,1000000000000⟩:di),(⟨1000,30,1000000000000⟩:di)],2,0⟩:Setup) (iU ([(⟨0,1,0,0,0,100⟩:aZ),(⟨0,2,0,0,0,60⟩:aZ),(⟨0,3,0,0,3,40⟩:aZ)])) (⟨0,false,[⟨60,0,⟨1000,30,1000000000000⟩,[⟨0,60⟩]⟩,⟨0,0,⟨1000,30,1000000000000⟩,[]⟩],[40,0],[⟨0,0,60,40,0,0,100,true⟩],⟨1,[]⟩,⟨0,[]⟩,0,1,[],[],⟨0,[0,0],[]⟩,[⟨0,0,3,40⟩],[⟨0,-100⟩,⟨10,60⟩,⟨50,40⟩]⟩:Bk) ([]) ((gW (⟨[(⟨1000,30,1000000000000⟩:di),(⟨1000,30,1000000000000⟩:di)],2,0⟩:Setup) (iU ([(⟨0,1,0,0,0,100⟩:aZ),(⟨0,2,0,0,0,60⟩:aZ),(⟨0,3,0,0,3,40⟩:aZ)]))).2.2.1) (⟨0,0⟩:cV) hr1) ⟨⟨.inl ⟨_,rfl,rfl⟩,.inl ⟨_,rfl,rfl⟩,.inr ⟨_,_,_,_,_,rfl,rfl,rfl,by simp⟩,.inr ⟨_,_,_,_,_,rfl,rfl,rfl,by simp⟩,.inr ⟨_,_,_,_,_,rfl,rfl,rfl,by simp⟩,.inl ⟨_,rfl,rfl⟩,.inl ⟨_,rfl,rfl⟩,.inl ⟨_,rfl,rfl⟩,.inl ⟨_,rfl,rfl⟩,.inl ⟨_,rfl,rfl⟩,.inl ⟨_,rfl,rfl⟩,.inl ⟨_,rfl,rfl⟩,.inl ⟨_,rfl,rfl⟩,.inl ⟨_,rfl,rfl⟩,.inl ⟨_,rfl,rfl⟩,.inl ⟨_,rfl,rfl⟩,.inr ⟨_,_,_,_,_,rfl,rfl,rfl,by simp⟩,.inr ⟨_,_,_,_,_,rfl,rfl,rfl,by simp⟩,.inl ⟨_,rfl,rfl⟩,trivial⟩,.inr ⟨_,_,_,_,_,rfl,rfl,rfl,by simp⟩,⟨.inl ⟨_,rfl,rfl⟩,.inl ⟨_,rfl,rfl⟩,trivial⟩,trivial⟩) DU rfl rfl ⟨⟨_,rfl,.g ⟨.d _,.d _,.d _,trivial⟩⟩,⟨_,rfl,.c (.d _)⟩,trivial⟩ ⟨⟨trivial,trivial,trivial,trivial,trivial,trivial,trivial,trivial,trivial,trivial,trivial,trivial,trivial,trivial,trivial,trivial,trivial,trivial,trivial,trivial⟩,trivial,⟨trivial,trivial,trivial⟩,trivial⟩ trivial rfl rfl rfl rfl) rfl ?_
 refine ab aa 9 rfl ?_
 refine ae ?_
 refine az aa 2 rfl ?_
 refine ax (aJ rfl rfl rfl (show _=some (Value.bool true) from rfl)) rfl ?_
 refine ab aa 3 rfl ?_
 refine cJ (ah.yes rfl rfl rfl) (cT rfl rfl rfl rfl rfl Try.underlying29) rfl rfl ?_
 refine cJ (ah.yes rfl rfl rfl) (aJ rfl rfl rfl (show _=some (Value.bool true) from rfl)) rfl rfl ?_
 refine ab aa 4 rfl ?_
 refine cJ (ah.yes rfl rfl rfl) (cT rfl rfl rfl rfl rfl Try.underlying30) rfl rfl ?_
 refine cJ (ah.yes rfl rfl rfl) (aJ rfl rfl rfl (show _=some (Value.bool true) from rfl)) rfl rfl ?_
 refine ab aa 4 rfl ?_
 refine cJ (ah.yes rfl rfl rfl) (cf (i:=0) rfl rfl rfl Try.underlying29 ft (by first|omega|(simp;done)|(simp;omega)) (bf (show ([⟨60,0,⟨1000,30,1000000000000⟩,[⟨0,60⟩]⟩,⟨0,0,⟨1000,30,1000000000000⟩,[]⟩]:List bC)[0]?=some (⟨60,0,⟨1000,30,1000000000000⟩,[⟨0,60⟩]⟩:bC) from rfl))) rfl rfl ?_
 refine ab aa 2 rfl ?_
 refine cJ (ah.yes rfl rfl rfl) (aJ rfl rfl rfl (show _=some (Value.bool true) from rfl)) rfl rfl ?_
 refine ab aa 4 rfl ?_
 refine cJ (ah.yes rfl rfl rfl) (cf (i:=0) rfl rfl rfl Try.underlying29 ft (by first|omega|(simp;done)|(simp;omega)) (bf (show ([⟨60,0,⟨1000,30,1000000000000⟩,[⟨0,60⟩]⟩,⟨0,0,⟨1000,30,1000000000000⟩,[]⟩]:List bC)[0]?=some (⟨60,0,⟨1000,30,1000000000000⟩,[⟨0,60⟩]⟩:bC) from rfl))) rfl rfl ?_
 refine ab aa 2 rfl ?_
 refine cJ (ah.yes rfl rfl rfl) (aJ rfl rfl rfl (show _=some (Value.bool true) from rfl)) rfl rfl ?_
 refine ab aa 4 rfl ?_
 refine cJ (ah.yes rfl rfl rfl) (cf (i:=0) rfl rfl rfl Try.underlying30 fT (by first|omega|(simp;done)|(simp;omega)) (bf (show ([40,0]:List Int)[0]?=some 40 from rfl))) rfl rfl ?_
 refine ab aa 1 rfl ?_
 refine cJ (ah.yes rfl rfl rfl) (aJ rfl rfl rfl (show _=some (Value.bool true) from rfl)) rfl rfl ?_
 refine ab aa 2 rfl ?_
 refine ae ?_
 refine aq ?_
 refine aj aa [] 0 rfl rfl rfl rfl rfl rfl ?_ ?_
 all_goals first|rfl|(simp [ar,aR,aX];done)|(simp [ar,aR,aX];omega)
end Go.Proofs.Ytegepioggeggaaa.Dev
