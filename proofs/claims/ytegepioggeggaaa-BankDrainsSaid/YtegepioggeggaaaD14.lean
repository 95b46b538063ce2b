/- A part of the proof: BankUp, Bank12, Bank13, Play0, Play1, Law8, Sh39, PlLaw1. No condition. -/
import Derived.Test.YtegepioggeggaaaD12
import Derived.Test.YtegepioggeggaaaD13
set_option linter.unusedVariables false
set_option linter.unusedSimpArgs false
set_option maxHeartbeats 8000000
set_option maxRecDepth 100000
namespace Go.Proofs.Ytegepioggeggaaa.Dev
open Go.RowKit

theorem Ke (x:Nat->Value) (hx:∀ i,(x i).oneCell'=true) (b:Bk) (ok:ct b) (b2:Bk) (a2:Answer) (hr:gn b=(b2,a2)):cL Try.prog 68 [(.c (.p 0 0 0 0))] [(0,(.box 98 (aZ b 1 2 3 4 (.d (.v (x 17))) (.d (.v (x 19)))))),(1,(ek b.ag)),(2,(dS b.due)),(3,(ep b.aj)),(4,(cU b.aQ))] [0] (.v (.g [cI a2.err,cI a2.ba])) [(0,(.box 98 (aZ b2 1 2 3 4 (.d (.v (x 17))) (.d (.v (x 19)))))),(1,(ek b2.ag)),(2,(dS b2.due)),(3,(ep b2.aj)),(4,(cU b2.aQ))]:=by
 refine cL.mk 116 [(0,(aC (.p 0 0 0 0)))] 5 Try.func68 rfl rfl rfl rfl rfl rfl rfl rfl rfl ?_
 intro W0 F0 T0 pg
 obtain ⟨okt,okc,okd,oka,oky,okw0,okw1,okp,okv,okk0,okk1,okg,okl0,okl1,okp0,okp1,okn0,okn1,okq⟩:=id ok
 refine ae aa 1 rfl ?_
 refine ah ?_
 refine ae aa 6 rfl ?_
 refine an rfl (fun hc1=>?_) (fun hc1=>?_)
 ·
  have hc1':=hc1;try simp only [bA,bW] at hc1'
  refine ae aa 2 rfl ?_
  refine aA ?_
  refine ax ?_
  have hX:gn b=(b,(⟨8,0⟩:Answer)):=by
    unfold gn;rw [if_pos (by cases hd:b.down<;>simp_all)]
  rw [hX] at hr;clear hX
  simp only [Prod.mk.injEq] at hr;obtain ⟨rfl,rfl⟩:=hr
  refine aw aa [0,1,2,3,4,5] 5 rfl rfl rfl rfl rfl rfl ?_ ?_
  all_goals first|rfl|(simp [aD,aZ,bg];done)|(simp [aD,aZ,bg];omega)
 have hc1':=hc1;try simp only [bA,bW] at hc1'
 refine aU ?_
 refine aH aa 5 rfl ?_
 obtain ⟨xr0,l0,e0,hr0⟩:∃ (xr0:cG) (l0:List cg) (e0:Int),cC b.bx=(xr0,l0,e0):=⟨_,_,_,rfl⟩
 refine aP 6 [5,0,1,2,3,4] (ch 6 (Fn.frozen (av':=(.t [(.g [(cI xr0.cap),(fN xr0.used),(gK xr0.bb)]),(.c (gK l0)),(.c (cI e0))])) (vI b.bx xr0 l0 e0 hr0) ⟨⟨.inl ⟨_,rfl,rfl⟩,.inr ⟨_,_,_,_,_,rfl,rfl,rfl,by simp⟩,.inr ⟨_,_,_,_,_,rfl,rfl,rfl,by simp⟩,trivial⟩,.inr ⟨_,_,_,_,_,rfl,rfl,rfl,by simp⟩,.inl ⟨_,rfl,rfl⟩,trivial⟩) JG rfl rfl ⟨⟨_,rfl,.g ⟨.d _,.d _,.d _,trivial⟩⟩,trivial⟩ ⟨⟨trivial,trivial,trivial,trivial⟩,trivial,trivial,trivial⟩ trivial rfl rfl rfl rfl) rfl ?_
 refine ad aa 8 rfl ?_
 refine af ?_
 refine ah ?_
 refine ae aa 2 rfl ?_
 refine an rfl (fun hc2=>?_) (fun hc2=>?_)
 ·
  have hc2':=of_decide_eq_true hc2
  refine ae aa 3 rfl ?_
  refine aA ?_
  refine ax ?_
  have hX:gn b=(b,(⟨e0,0⟩:Answer)):=by
    unfold gn;rw [if_neg (by cases hd:b.down<;>simp_all),hr0];dsimp only;rw [if_pos (by omega)]
  rw [hX] at hr;clear hX
  simp only [Prod.mk.injEq] at hr;obtain ⟨rfl,rfl⟩:=hr
  refine aw aa [0,1,2,3,4,5] 5 rfl rfl rfl rfl rfl rfl ?_ ?_
  all_goals first|rfl|(simp [aD,aZ,bg];done)|(simp [aD,aZ,bg];omega)
 have hc2':=of_decide_eq_false hc2
 refine aU ?_
 refine aH aa 1 rfl ?_
 refine aP 16 [0,7,8,9,10,11,12,13,14,15,6,5] (cO id (bc [0,7,8,9,10,11,12,13,14,15]) (kW (x 17) (x 19) b (by first|omega|(simp;done)|(simp;omega)) (by first|omega|(simp;done)|(simp;omega)) (by first|omega|(simp;done)|(simp;omega)) (by first|omega|(simp;done)|(simp;omega))) sg rfl rfl ⟨⟨_,rfl,.inl ⟨rfl,rfl⟩⟩,trivial⟩ ⟨rfl,rfl,rfl,rfl,rfl,trivial⟩ rfl rfl rfl rfl rfl rfl trivial ⟨⟨trivial,trivial,trivial,trivial,trivial,trivial,trivial,trivial,trivial,trivial,trivial,trivial,trivial,trivial,trivial,trivial,trivial,trivial,trivial,trivial,trivial⟩,⟨trivial,trivial,trivial,trivial,trivial,trivial,trivial,trivial,trivial,trivial,trivial,trivial,trivial,trivial,trivial,trivial,trivial,trivial,trivial,trivial,trivial⟩,(fun _ _ _ _=>trivial),(fun _ _ _ _=>trivial),(fun _ _ _ _=>trivial),(fun _ _ _ _=>trivial),(fun _ _ _ _=>trivial),(fun _ _ _ _=>trivial),(fun _ _ _ _=>trivial),(fun _ _ _ _=>trivial),trivial⟩ rfl rfl rfl rfl) rfl ?_
 refine ad aa 1 rfl ?_
 refine af ?_
 refine ah ?_
 obtain rfl:e0=0:=by omega
 have hcl:l0=b.bx.bb:=by have h:=(oQ (s:=b.bx) (by rw [hr0])).2.2;rw [hr0] at h;exact h
 refine aH aa 1 rfl ?_
 refine aE (cJ rfl rfl rfl rfl rfl Try.underlying39) rfl ?_
 refine ad aa 1 rfl ?_
 refine af ?_
 refine aY ?_
 refine cz (β:=Nat×List bD×List bl) (fun (p:Nat×List bD×List bl)=>match p with|(q,cs,xs)=>⟨[(0,(aC (.p 0 0 0 0))),(2,(aC (.p 5 0 0 0))),(3,(aC (.p 6 0 0 0))),(6,(aC (.p 7 0 0 0))),(36,(aC (gK l0))),(37,(aI (↑l0.length:Int))),(38,(aI (↑q:Int)))],[(0,(.box 98 (aZ b 8 9 10 11 (.d (.v (x 17))) (.d (.v (x 19)))))),(7,(.box 147 (((aZ b 12 13 14 15 (.d (.v (x 17))) (cI 0)).set 2 (.s 12 0 6 cs.length)).set 4 (.s 14 0 8 xs.length)))),(8,(ek b.ag)),(9,(dS b.due)),(10,(ep b.aj)),(11,(cU b.aQ)),(12,(ek cs)),(13,(dS b.due)),(14,(ep xs)),(15,(cU b.aQ)),(6,(.box 41 [(cI xr0.cap),(fN xr0.used),(gK xr0.bb)])),(5,(.box 65 [(cI 0),(cI 0)]))],16⟩) (fun (p:Nat×List bD×List bl)=>match p with|(q,cs,xs)=>q<=l0.length/\fe l0 b.ag b.aj=fe (l0.drop q) cs xs/\cs.length=b.ag.length/\xs.length=b.aj.length+q) (fun (p:Nat×List bD×List bl)=>match p with|(q,cs,xs)=>l0.length - q) (0,b.ag,b.aj) ?_ ?_ ?_
 ·exact ⟨by omega,rfl,rfl,rfl⟩
 ·exact aJ.cc id (by refine ⟨?_,?_,?_,?_,?_,?_,?_,trivial⟩<;>first|rfl|(simp only [bn];done)|(congr 3;omega)|(congr 4;omega)|(simp only [bo];rfl)) (by refine ⟨?_,?_,?_,?_,?_,?_,?_,?_,?_,?_,?_,?_,trivial⟩<;>first|rfl|(simp only [bn];done)|(congr 3;omega)|(congr 4;omega)|(simp only [bo];rfl)) rfl
 rintro ⟨q,cs,xs⟩ ⟨hi0_0,hi0_1,hi0_2,hi0_3⟩
 have hll:b.aj.length+l0.length<=30:=by rw [hcl];exact oka
 refine ae aa 1 rfl ?_
 refine ah ?_
 refine an rfl (fun hc3=>?_) (fun hc3=>?_)
 ·
  have hc3':=of_decide_eq_true hc3
  refine aU ?_
  refine ah ?_
  refine aY ?_
  refine eZ ?_
  obtain ⟨x1,hx1⟩:=cr (xs:=l0) (i:=q) (by first|omega|(simp;done)|(simp;omega))
  have hx1A:=okv x1 (by rw [<-hcl];exact List.mem_of_getElem? hx1)
  refine aE (db (i:=q) rfl rfl rfl Try.underlying39 Fj (by first|omega|(simp;done)|(simp;omega)) (bz hx1)) rfl ?_
  refine ad aa 3 rfl ?_
  refine af ?_
  refine aH aa 8 rfl ?_
  obtain ⟨b1,e1,hr1⟩:∃ (b1:bl) (e1:Int),dp x1.aO x1.az x1.sum x1.time=(b1,e1):=⟨_,_,rfl⟩
  refine aP 17 [16,0,7,8,9,10,11,12,13,14,15,6,5] (ch 17 (tz x1.aO x1.az x1.sum x1.time b1 e1 hr1) Hv rfl rfl ⟨⟨_,rfl,.c (.d _)⟩,⟨_,rfl,.c (.d _)⟩,⟨_,rfl,.c (.d _)⟩,⟨_,rfl,.c (.d _)⟩,trivial⟩ ⟨⟨trivial,trivial,trivial,trivial,trivial,trivial,trivial,trivial,trivial⟩,trivial,trivial⟩ trivial rfl rfl rfl rfl) rfl ?_
  refine ad aa 6 rfl ?_
  refine af ?_
  refine ah ?_
  refine aH aa 2 rfl ?_
  obtain ⟨e22,hr2⟩:∃ (e22:Int),dN 0 e1=e22:=⟨_,rfl⟩
  refine aP 18 [7,17,16,0,8,9,10,11,12,13,14,15,6,5] (cw (bc [7]) (bc [7]) (ms:=(dO.set 19 (some (cI 0)))) (ms':=(dO.set 19 (some (cI e22)))) (fun x hx=>kz x hx 0 e1 e22 hr2) oM rfl rfl ⟨⟨_,rfl,.inl ⟨rfl,rfl⟩⟩,⟨_,rfl,.inr (.c (.d _))⟩,trivial⟩ rfl rfl rfl rfl rfl rfl rfl trivial rfl rfl rfl rfl rfl rfl rfl rfl rfl rfl rfl rfl rfl) rfl ?_
  refine af ?_
  refine an rfl (fun hc4=>?_) (fun hc4=>?_)
  ·
   have hc4':=of_decide_eq_true hc4
   refine cp ?_
   refine aR ?_
   refine tF rfl ?_
   refine aR ?_
   refine aR ?_
   refine bM ?_
   refine then_ok ?_
   refine ae aa 11 rfl ?_
   refine ah ?_
   refine aH aa 2 rfl ?_
   refine aP 22 [0,18,19,20,21,17,16,6,5] (cO (bc [0,7,8,9,10,11,12,13,14,15]) (bc [0,18,19,20,21]) (gI (x 17) (x 19) b (⟨b.time,false,cs,b.due,xs,b.s0,b.s1,b.n0,b.n1,b.w0,b.w1,xr0,b.aQ,b.book⟩:Bk) e22 (by first|assumption|omega)) gm rfl rfl ⟨⟨_,rfl,.inl ⟨rfl,rfl⟩⟩,⟨_,rfl,.inl ⟨rfl,rfl⟩⟩,trivial⟩ ⟨rfl,rfl,rfl,rfl,rfl,rfl,rfl,rfl,rfl,rfl,trivial⟩ rfl rfl rfl rfl rfl rfl trivial ⟨⟨trivial,trivial,trivial,trivial,trivial,trivial,trivial,trivial,trivial,trivial,trivial,trivial,trivial,trivial,trivial,trivial,trivial,trivial,trivial,trivial,trivial⟩,(fun _ _ _ _=>trivial),(fun _ _ _ _=>trivial),(fun _ _ _ _=>trivial),(fun _ _ _ _=>trivial),trivial⟩ rfl rfl rfl rfl) rfl ?_
   refine ad aa 1 rfl ?_
   refine af ?_
   refine ae aa 2 rfl ?_
   refine an rfl (fun _=>?_) (fun hno=>absurd (hc4.symm.trans hno) (by decide))
   refine ae aa 3 rfl ?_
   refine aA ?_
   refine ax ?_
   have hX:gn b=(b,(⟨e22,0⟩:Answer)):=by
     exact Bl (by cases hd:b.down<;>simp_all) hr0 (hi0_1.trans (Dr hx1 hr1 hr2 (by omega))) (by omega)
   rw [hX] at hr;clear hX
   simp only [Prod.mk.injEq] at hr;obtain ⟨rfl,rfl⟩:=hr
   refine aw aa [0,18,19,20,21,5] 5 rfl rfl rfl rfl rfl rfl ?_ ?_
   all_goals first|rfl|(simp [aD,aZ,bg];done)|(simp [aD,aZ,bg];omega)
  have hc4':=of_decide_eq_false hc4
  refine aU ?_
  obtain rfl:e22=0:=by omega
  refine ah ?_
  obtain ⟨x2,hx2⟩:=cr (xs:=cs) (i:=Int.toNat (x1.aO)) (by first|omega|(simp;done)|(simp;omega))
  obtain ⟨xr3,e3,hr3⟩:∃ (xr3:bD) (e3:Int),eW x2 x1.sum=(xr3,e3):=⟨_,_,rfl⟩
  refine dr [0,2,3,6,36,37,38,8,9] [7,17,16,0,8,9,10,11,12,13,14,15,6,5] mixed rfl rfl ?_
  refine bU (kn:=[]) aa 7 rfl trivial ?_
  refine ca (n':=18) [62,64] [12] rfl rfl (.inl ⟨(aq.plain rfl),aM.cast (br (i:=Int.toNat (x1.aO)) rfl rfl rfl Try.underlying29 jx (by first|omega|(simp;done)|(simp;omega)) (by first|omega|(simp;done)|(simp;omega))) rfl⟩) rfl ?_
  refine ca (n':=18) [65] [12] rfl rfl (.inl ⟨(aq.plain rfl),aM.cast (dy rfl rfl rfl Try.underlying61 rfl jx (bz hx2) rfl) rfl⟩) rfl ?_
  refine bU (kn:=[]) aa 2 rfl trivial ?_
  refine ca (n':=18) [66,68] [] rfl rfl (.inl ⟨(aq.plain rfl),aM.cast (ch 18 (Fn.frozen (av':=(.t [(.g [(cI xr3.bB),(cI xr3.held),(cI xr3.cv.cM),(cI xr3.cv.count),(cI xr3.cv.sum),(fU xr3.de)]),(.c (cI e3))])) (xw x2 x1.sum xr3 e3 hr3) ⟨⟨.inl ⟨_,rfl,rfl⟩,.inl ⟨_,rfl,rfl⟩,.inl ⟨_,rfl,rfl⟩,.inl ⟨_,rfl,rfl⟩,.inl ⟨_,rfl,rfl⟩,.inr ⟨_,_,_,_,_,rfl,rfl,rfl,by simp⟩,trivial⟩,.inl ⟨_,rfl,rfl⟩,trivial⟩) JF rfl rfl ⟨⟨_,rfl,.g ⟨.d _,.d _,.d _,.d _,.d _,.d _,trivial⟩⟩,⟨_,rfl,.c (.d _)⟩,trivial⟩ ⟨⟨trivial,trivial,trivial,trivial,trivial,trivial,trivial⟩,trivial,trivial⟩ trivial rfl rfl rfl rfl) rfl⟩) rfl ?_
  refine bU (n':=19) (kn:=[]) aa 6 rfl trivial ?_
  refine ef [0,2,3,6,36,37,38,8,9,11,10] [18,7,17,16,0,8,9,10,11,12,13,14,15,6,5] rfl rfl (by kernel_rfl) ?_
  refine then_ok ?_
  refine ah ?_
  refine aH aa 2 rfl ?_
  obtain ⟨e24,hr4⟩:∃ (e24:Int),dN 0 e3=e24:=⟨_,rfl⟩
  refine aP 19 [7,18,17,16,0,8,9,10,11,12,13,14,15,6,5] (cw (bc [7]) (bc [7]) (ms:=(dO.set 19 (some (cI 0)))) (ms':=(dO.set 19 (some (cI e24)))) (fun x hx=>kz x hx 0 e3 e24 hr4) oM rfl rfl ⟨⟨_,rfl,.inl ⟨rfl,rfl⟩⟩,⟨_,rfl,.inr (.c (.d _))⟩,trivial⟩ rfl rfl rfl rfl rfl rfl rfl trivial rfl rfl rfl rfl rfl rfl rfl rfl rfl rfl rfl rfl rfl) rfl ?_
  refine af ?_
  refine an rfl (fun hc6=>?_) (fun hc6=>?_)
  ·
   have hc6':=of_decide_eq_true hc6
   refine cp ?_
   refine aR ?_
   refine tF rfl ?_
   refine aR ?_
   refine aR ?_
   refine bM ?_
   refine then_ok ?_
   refine ae aa 11 rfl ?_
   refine ah ?_
   refine aH aa 2 rfl ?_
   refine aP 23 [0,19,20,21,22,18,17,16,6,5] (cO (bc [0,7,8,9,10,11,12,13,14,15]) (bc [0,19,20,21,22]) (gI (x 17) (x 19) b (⟨b.time,false,cs,b.due,xs,b.s0,b.s1,b.n0,b.n1,b.w0,b.w1,xr0,b.aQ,b.book⟩:Bk) e24 (by first|assumption|omega)) gm rfl rfl ⟨⟨_,rfl,.inl ⟨rfl,rfl⟩⟩,⟨_,rfl,.inl ⟨rfl,rfl⟩⟩,trivial⟩ ⟨rfl,rfl,rfl,rfl,rfl,rfl,rfl,rfl,rfl,rfl,trivial⟩ rfl rfl rfl rfl rfl rfl trivial ⟨⟨trivial,trivial,trivial,trivial,trivial,trivial,trivial,trivial,trivial,trivial,trivial,trivial,trivial,trivial,trivial,trivial,trivial,trivial,trivial,trivial,trivial⟩,(fun _ _ _ _=>trivial),(fun _ _ _ _=>trivial),(fun _ _ _ _=>trivial),(fun _ _ _ _=>trivial),trivial⟩ rfl rfl rfl rfl) rfl ?_
   refine ad aa 1 rfl ?_
   refine af ?_
   refine ae aa 2 rfl ?_
   refine an rfl (fun _=>?_) (fun hno=>absurd (hc6.symm.trans hno) (by decide))
   refine ae aa 3 rfl ?_
   refine aA ?_
   refine ax ?_
   have hX:gn b=(b,(⟨e24,0⟩:Answer)):=by
     exact Bl (by cases hd:b.down<;>simp_all) hr0 (hi0_1.trans (Dq hx1 hr1 hr2 hx2 hr3 hr4 (by omega))) (by omega)
   rw [hX] at hr;clear hX
   simp only [Prod.mk.injEq] at hr;obtain ⟨rfl,rfl⟩:=hr
   refine aw aa [0,19,20,21,22,5] 5 rfl rfl rfl rfl rfl rfl ?_ ?_
   all_goals first|rfl|(simp [aD,aZ,bg];done)|(simp [aD,aZ,bg];omega)
  have hc6':=of_decide_eq_false hc6
  refine aU ?_
  obtain rfl:e24=0:=by omega
  refine ah ?_
  refine bd [0,2,3,6,36,37,38,8,9,11] [7,18,17,16,0,8,9,10,11,12,13,14,15,6,5] mixed rfl rfl ?_
  refine aF (kn:=[]) aa 8 rfl trivial ?_
  refine aX (n':=19) [79,81] [12] rfl rfl (.inl ⟨(aq.plain rfl),aM.cast (br (i:=Int.toNat (x1.aO)) rfl rfl rfl Try.underlying29 jx (by first|omega|(simp;done)|(simp;omega)) (by first|omega|(simp;done)|(simp;omega))) rfl⟩) rfl ?_
  refine bF [7,18,17,16,0,8,9,10,11,12,13,14,15,6,5] rfl rfl rfl rfl (by kernel_rfl) ?_
  refine gj [7,18,17,16,0,8,9,10,11,12,13,14,15,6,5] (dW (ds:=[(dI xr3.bB),(dI xr3.held),(dI xr3.cv.cM),(dI xr3.cv.count),(dI xr3.cv.sum),(HI xr3.de)]) rfl rfl rfl rfl rfl jx rfl (Nat.le_of_ble_eq_true rfl) (bz hx2) rfl (eU (x':=xr3) rfl)) rfl ?_
  refine af ?_
  refine ga (k:=7) (q:=2) (c':=(.s 12 0 6 (((cs).set (Int.toNat (x1.aO)) xr3).length))) rfl rfl (by first|rfl|(simp;done)|(congr 1;omega)) rfl ?_
  refine bd [0,2,3,6,36,37,38,9] [7,17,0,8,9,10,11,12,13,14,15,6,5] mixed rfl rfl ?_
  refine aF (kn:=[]) aa 7 rfl trivial ?_
  refine aX (n':=20) [90] [] rfl rfl (.inl ⟨(aq.plain rfl),aM.cast (ec (ys:=[(0,(.g [(cI b1.aO),(cI b1.az),(cI b1.sum),(cI b1.captured),(cI b1.bC),(cI b1.bj),(cI b1.dq),(cB b1.shut)]))]) (rows:=([b1]).map jm) 19 tN rfl (by decide) ⟨⟨rfl,rfl⟩,trivial⟩ rfl rfl rfl rfl) rfl⟩) rfl ?_
  refine aX (n':=21) [89,91] [19,14] rfl rfl (.inl ⟨(aq.plain rfl),aM.cast (dA (m:=1) (N:=xs.length+1) (k2:=20) (ys:=([b1]).map jm) tN rfl rfl rfl rfl rfl rfl (by first|omega|(simp;done)|(simp;omega)) rfl (.s rfl (by first|omega|(simp;done)|(simp;omega))) (by first|omega|(simp;done)|(simp;omega)) (by first|omega|(simp;done)|(simp;omega)) fK (by decide) (by first|omega|(simp;done)|(simp;omega)) (by first|omega|(simp;done)|(simp;omega))) rfl⟩) rfl ?_
  refine aF (kn:=[]) aa 3 rfl trivial ?_
  refine bF [20,7,17,0,8,9,10,11,12,13,15,6,5] rfl rfl rfl rfl (by kernel_rfl) ?_
  refine ad aa 1 rfl ?_
  refine cf ?_
  refine bq ?_
  refine then_ok ?_
  refine ga (k:=7) (q:=4) (c':=(.s 20 0 8 ((xs++([b1])).length))) rfl rfl (by first|rfl|(simp;done)|(congr 1;omega)) rfl ?_
  refine ay ?_
  refine aE (aN rfl rfl rfl (aK (by first|omega|(simp;done)|(simp;omega)))) rfl ?_
  refine ad aa 1 rfl ?_
  refine af ?_
  refine ⟨(q+1,(cs).set (Int.toNat (x1.aO)) xr3,xs++([b1])),⟨by omega,by rw [hi0_1];exact Dp hx1 hr1 hr2 hx2 hr3 hr4,by rw [List.length_set];omega,by rw [List.length_append,List.length_singleton];omega⟩,by first|omega|(simp;done)|(simp;omega),aJ.cc (fun k=>if k=14 then 20 else k) (by refine ⟨?_,?_,?_,?_,?_,?_,?_,trivial⟩<;>first|rfl|(simp only [bn];done)|(congr 3;omega)|(congr 4;omega)|(simp only [bo];rfl)) (by refine ⟨?_,?_,?_,?_,?_,?_,?_,?_,?_,?_,?_,?_,trivial⟩<;>first|rfl|(simp only [bn];done)|(congr 3;omega)|(congr 4;omega)|(simp only [bo];rfl)) rfl⟩
 have hc3':=of_decide_eq_false hc3
 refine cp ?_
 refine aR ?_
 refine aR ?_
 refine bM ?_
 refine then_ok ?_
 refine ae aa 11 rfl ?_
 refine ah ?_
 refine aH aa 2 rfl ?_
 refine aP 20 [0,16,17,18,19,6,5] (cO (bc [0,7,8,9,10,11,12,13,14,15]) (bc [0,16,17,18,19]) (fM (x 17) (x 19) b (⟨b.time,false,cs,b.due,xs,b.s0,b.s1,b.n0,b.n1,b.w0,b.w1,xr0,b.aQ,b.book⟩:Bk) 0 (by first|assumption|omega)) gm rfl rfl ⟨⟨_,rfl,.inl ⟨rfl,rfl⟩⟩,⟨_,rfl,.inl ⟨rfl,rfl⟩⟩,trivial⟩ ⟨rfl,rfl,rfl,rfl,rfl,rfl,rfl,rfl,rfl,rfl,trivial⟩ rfl rfl rfl rfl rfl rfl trivial ⟨⟨trivial,trivial,trivial,trivial,trivial,trivial,trivial,trivial,trivial,trivial,trivial,trivial,trivial,trivial,trivial,trivial,trivial,trivial,trivial,trivial,trivial⟩,(fun _ _ _ _=>trivial),(fun _ _ _ _=>trivial),(fun _ _ _ _=>trivial),(fun _ _ _ _=>trivial),trivial⟩ rfl rfl rfl rfl) rfl ?_
 refine ad aa 1 rfl ?_
 refine af ?_
 refine aH aa 1 rfl ?_
 refine aE (aN rfl rfl rfl (show _=some (Value.bool false) from rfl)) rfl ?_
 refine af ?_
 refine an rfl (fun hno=>by cases hno) (fun _=>?_)
 refine aU ?_
 have hL:=hi0_1;rw [FD (by omega)] at hL
 have okU:=ok.Ij hr0 hL
 refine aH aa 1 rfl ?_
 obtain ⟨b25,hr5⟩:∃ (b25:Bk),fj (⟨b.time,false,cs,b.due,xs,b.s0,b.s1,b.n0,b.n1,b.w0,b.w1,xr0,b.aQ,b.book⟩:Bk)=b25:=⟨_,rfl⟩
 refine aP 24 [0,20,21,22,23,6,5] (cw (bc [0,16,17,18,19]) (bc [0,20,21,22,23]) (ms:=[some (cI b.time),some (cB false),some (.s 1 0 6 cs.length),some (.s 2 0 1 b.due.length),some (.s 3 0 8 xs.length),some (cI b.s0.bG),some (dh b.s0.kept),some (cI b.s1.bG),some (dh b.s1.kept),some (cI b.n0),some (cI b.n1),some (ed b.w0),some (ed b.w1),some (cI xr0.cap),some (fN xr0.used),some (gK xr0.bb),some (.s 4 0 4 b.aQ.length),none,some (dR b.book),none]) (ms':=(jw b25 1 2 3 4 none none)) (fun x hx=>CN x hx (⟨b.time,false,cs,b.due,xs,b.s0,b.s1,b.n0,b.n1,b.w0,b.w1,xr0,b.aQ,b.book⟩:Bk) (by first|assumption|exact ct.tick (by assumption) (by omega) (by omega)) b25 hr5) Hu rfl rfl ⟨⟨_,rfl,.inl ⟨rfl,rfl⟩⟩,trivial⟩ rfl rfl rfl rfl rfl rfl rfl ⟨rfl,rfl,rfl,rfl,trivial⟩ rfl rfl rfl rfl rfl rfl rfl rfl rfl rfl rfl rfl rfl) rfl ?_
 refine af ?_
 refine ae aa 2 rfl ?_
 refine aA ?_
 have hX:gn b=(b25,(⟨0,0⟩:Answer)):=by
   rw [Gw (by cases hd:b.down<;>simp_all) hr0 hL,hr5]
 rw [hX] at hr;clear hX
 simp only [Prod.mk.injEq] at hr;obtain ⟨rfl,rfl⟩:=hr
 refine aw aa [0,20,21,22,23,5] 5 rfl rfl rfl rfl rfl rfl ?_ ?_
 all_goals first|rfl|(simp [aD,aZ,bg];done)|(simp [aD,aZ,bg];omega)

theorem Kf (x:Nat->Value) (hx:∀ i,(x i).oneCell'=true) (b:Bk) (days:List (List Int)) (d:aV) (ok:ct b) (hy:days.length<=1000) (b2:Bk) (y2:List (List Int)) (a2:Answer) (hr:cq b days d=(b2,y2,a2)):cL Try.prog 56 [(.c (.p 0 0 0 0)),(.c (.q (cX d) 0))] [(0,(.box 98 (aZ b 1 2 3 4 (.s 5 0 1 days.length) (.d (.v (x 19)))))),(1,(ek b.ag)),(2,(dS b.due)),(3,(ep b.aj)),(4,(cU b.aQ)),(5,(ru days))] [0] (.v (.g [cI a2.err,cI a2.ba])) [(0,(.box 98 (aZ b2 1 2 3 4 (.s 5 0 1 y2.length) (.d (.v (x 19)))))),(1,(ek b2.ag)),(2,(dS b2.due)),(3,(ep b2.aj)),(4,(cU b2.aQ)),(5,(ru y2))]:=by
 refine cL.mk 67 [(0,(aC (.p 0 0 0 0))),(1,(aC (.q (cX d) 0)))] 6 Try.func56 rfl rfl rfl rfl rfl rfl rfl rfl rfl ?_
 intro W0 F0 T0 pg
 obtain ⟨okt,okc,okd,oka,oky,okw0,okw1,okp,okv,okk0,okk1,okg,okl0,okl1,okp0,okp1,okn0,okn1,okq⟩:=id ok
 refine ae aa 1 rfl ?_
 refine ah ?_
 refine ae aa 4 rfl ?_
 refine aY ?_
 refine ae aa 2 rfl ?_
 refine an rfl (fun hc1=>?_) (fun hc1=>?_)
 ·
  have hc1':=of_decide_eq_true hc1
  refine aH aa 2 rfl ?_
  obtain ⟨b20,a20,hr0⟩:∃ (b20:Bk) (a20:Answer),ey b d=(b20,a20):=⟨_,_,rfl⟩
  refine aP 11 [0,7,8,9,10,6,5] (cw id (bc [0,7,8,9,10]) (ms:=(jw b 1 2 3 4 none none)) (ms':=(jw b20 1 2 3 4 none none)) (fun x hx=>HQ x hx b d (by first|assumption|exact ct.tick (by assumption) (by omega) (by omega)) b20 a20 hr0) JS rfl rfl ⟨⟨_,rfl,.inl ⟨rfl,rfl⟩⟩,⟨_,rfl,.inl ⟨rfl,rfl⟩⟩,trivial⟩ rfl rfl rfl rfl rfl rfl rfl ⟨rfl,rfl,rfl,rfl,trivial⟩ rfl rfl rfl rfl rfl rfl rfl rfl rfl rfl rfl rfl rfl) rfl ?_
  refine ad aa 1 rfl ?_
  refine af ?_
  refine aA ?_
  refine bm ?_
  refine ax ?_
  have hX:cq b days d=(b20,days,a20):=by
    unfold cq;(repeat' (first|rw [if_pos (by omega)]|rw [if_neg (by omega)]|fail))<;>first|rfl|(simp only [hr0];done)|(simp only [hr0];rfl)|(simp_all;done)
  rw [hX] at hr;clear hX
  simp only [Prod.mk.injEq] at hr;obtain ⟨rfl,rfl,rfl⟩:=hr
  refine aw aa [0,7,8,9,10,5,6] 6 rfl rfl rfl rfl rfl rfl ?_ ?_
  all_goals first|rfl|(simp [aD,aZ,bg];done)|(simp [aD,aZ,bg];omega)
 have hc1':=of_decide_eq_false hc1
 refine ae aa 2 rfl ?_
 refine an rfl (fun hc2=>?_) (fun hc2=>?_)
 ·
  have hc2':=of_decide_eq_true hc2
  refine aH aa 2 rfl ?_
  obtain ⟨b21,a21,hr1⟩:∃ (b21:Bk) (a21:Answer),du b d=(b21,a21):=⟨_,_,rfl⟩
  refine aP 11 [0,7,8,9,10,6,5] (cw id (bc [0,7,8,9,10]) (ms:=(jw b 1 2 3 4 none none)) (ms':=(jw b21 1 2 3 4 none none)) (fun x hx=>Ja x hx b d (by first|assumption|exact ct.tick (by assumption) (by omega) (by omega)) b21 a21 hr1) JR rfl rfl ⟨⟨_,rfl,.inl ⟨rfl,rfl⟩⟩,⟨_,rfl,.inl ⟨rfl,rfl⟩⟩,trivial⟩ rfl rfl rfl rfl rfl rfl rfl ⟨rfl,rfl,rfl,rfl,trivial⟩ rfl rfl rfl rfl rfl rfl rfl rfl rfl rfl rfl rfl rfl) rfl ?_
  refine ad aa 1 rfl ?_
  refine af ?_
  refine aA ?_
  refine bm ?_
  refine ax ?_
  have hX:cq b days d=(b21,days,a21):=by
    unfold cq;(repeat' (first|rw [if_pos (by omega)]|rw [if_neg (by omega)]|fail))<;>first|rfl|(simp only [hr1];done)|(simp only [hr1];rfl)|(simp_all;done)
  rw [hX] at hr;clear hX
  simp only [Prod.mk.injEq] at hr;obtain ⟨rfl,rfl,rfl⟩:=hr
  refine aw aa [0,7,8,9,10,5,6] 6 rfl rfl rfl rfl rfl rfl ?_ ?_
  all_goals first|rfl|(simp [aD,aZ,bg];done)|(simp [aD,aZ,bg];omega)
 have hc2':=of_decide_eq_false hc2
 refine ae aa 2 rfl ?_
 refine an rfl (fun hc3=>?_) (fun hc3=>?_)
 ·
  have hc3':=of_decide_eq_true hc3
  refine aH aa 2 rfl ?_
  obtain ⟨b22,a22,hr2⟩:∃ (b22:Bk) (a22:Answer),cT b d=(b22,a22):=⟨_,_,rfl⟩
  refine aP 11 [0,7,8,9,10,6,5] (cw id (bc [0,7,8,9,10]) (ms:=(jw b 1 2 3 4 none none)) (ms':=(jw b22 1 2 3 4 none none)) (fun x hx=>EL x hx b d (by first|assumption|exact ct.tick (by assumption) (by omega) (by omega)) b22 a22 hr2) JQ rfl rfl ⟨⟨_,rfl,.inl ⟨rfl,rfl⟩⟩,⟨_,rfl,.inl ⟨rfl,rfl⟩⟩,trivial⟩ rfl rfl rfl rfl rfl rfl rfl ⟨rfl,rfl,rfl,rfl,trivial⟩ rfl rfl rfl rfl rfl rfl rfl rfl rfl rfl rfl rfl rfl) rfl ?_
  refine ad aa 1 rfl ?_
  refine af ?_
  refine aA ?_
  refine bm ?_
  refine ax ?_
  have hX:cq b days d=(b22,days,a22):=by
    unfold cq;(repeat' (first|rw [if_pos (by omega)]|rw [if_neg (by omega)]|fail))<;>first|rfl|(simp only [hr2];done)|(simp only [hr2];rfl)|(simp_all;done)
  rw [hX] at hr;clear hX
  simp only [Prod.mk.injEq] at hr;obtain ⟨rfl,rfl,rfl⟩:=hr
  refine aw aa [0,7,8,9,10,5,6] 6 rfl rfl rfl rfl rfl rfl ?_ ?_
  all_goals first|rfl|(simp [aD,aZ,bg];done)|(simp [aD,aZ,bg];omega)
 have hc3':=of_decide_eq_false hc3
 refine ae aa 2 rfl ?_
 refine an rfl (fun hc4=>?_) (fun hc4=>?_)
 ·
  have hc4':=of_decide_eq_true hc4
  refine aH aa 2 rfl ?_
  obtain ⟨b23,a23,hr3⟩:∃ (b23:Bk) (a23:Answer),ea b d=(b23,a23):=⟨_,_,rfl⟩
  refine aP 11 [0,7,8,9,10,6,5] (cw id (bc [0,7,8,9,10]) (ms:=(jw b 1 2 3 4 none none)) (ms':=(jw b23 1 2 3 4 none none)) (fun x hx=>HK x hx b d (by first|assumption|exact ct.tick (by assumption) (by omega) (by omega)) b23 a23 hr3) JP rfl rfl ⟨⟨_,rfl,.inl ⟨rfl,rfl⟩⟩,⟨_,rfl,.inl ⟨rfl,rfl⟩⟩,trivial⟩ rfl rfl rfl rfl rfl rfl rfl ⟨rfl,rfl,rfl,rfl,trivial⟩ rfl rfl rfl rfl rfl rfl rfl rfl rfl rfl rfl rfl rfl) rfl ?_
  refine ad aa 1 rfl ?_
  refine af ?_
  refine aA ?_
  refine bm ?_
  refine ax ?_
  have hX:cq b days d=(b23,days,a23):=by
    unfold cq;(repeat' (first|rw [if_pos (by omega)]|rw [if_neg (by omega)]|fail))<;>first|rfl|(simp only [hr3];done)|(simp only [hr3];rfl)|(simp_all;done)
  rw [hX] at hr;clear hX
  simp only [Prod.mk.injEq] at hr;obtain ⟨rfl,rfl,rfl⟩:=hr
  refine aw aa [0,7,8,9,10,5,6] 6 rfl rfl rfl rfl rfl rfl ?_ ?_
  all_goals first|rfl|(simp [aD,aZ,bg];done)|(simp [aD,aZ,bg];omega)
 have hc4':=of_decide_eq_false hc4
 refine ae aa 2 rfl ?_
 refine an rfl (fun hc5=>?_) (fun hc5=>?_)
 ·
  have hc5':=of_decide_eq_true hc5
  refine aH aa 2 rfl ?_
  obtain ⟨v04,v14,a24,hr4⟩:∃ (v04:List bS) (v14:List bS) (a24:Answer),dQ b.s0 b.s1 b.n0 b.n1 b.w0 b.w1 d=(v04,v14,a24):=⟨_,_,_,rfl⟩
  refine aP 7 [0,6,1,2,3,4,5] (cw id id (ms:=[none,none,none,none,none,some (cI b.s0.bG),some (dh b.s0.kept),some (cI b.s1.bG),some (dh b.s1.kept),some (cI b.n0),some (cI b.n1),some (ed b.w0),some (ed b.w1),none,none,none,none,none,none,none]) (ms':=[none,none,none,none,none,some (cI b.s0.bG),some (dh b.s0.kept),some (cI b.s1.bG),some (dh b.s1.kept),some (cI b.n0),some (cI b.n1),some (ed v04),some (ed v14),none,none,none,none,none,none,none]) (fun x hx=>Gl x hx b.s0 b.s1 b.n0 b.n1 b.w0 b.w1 d (by first|omega|(simp;done)|(simp;omega)) (by first|omega|(simp;done)|(simp;omega)) (by first|omega|(simp;done)|(simp;omega)) (by first|omega|(simp;done)|(simp;omega)) v04 v14 a24 hr4) JO rfl rfl ⟨⟨_,rfl,.inl ⟨rfl,rfl⟩⟩,⟨_,rfl,.inl ⟨rfl,rfl⟩⟩,trivial⟩ rfl rfl rfl rfl rfl rfl rfl trivial rfl rfl rfl rfl rfl rfl rfl rfl rfl rfl rfl rfl rfl) rfl ?_
  refine ad aa 1 rfl ?_
  refine af ?_
  refine aA ?_
  refine bm ?_
  refine ax ?_
  have hX:cq b days d=((⟨b.time,b.down,b.ag,b.due,b.aj,b.s0,b.s1,b.n0,b.n1,v04,v14,b.bx,b.aQ,b.book⟩:Bk),days,a24):=by
    unfold cq;(repeat' (first|rw [if_pos (by omega)]|rw [if_neg (by omega)]|fail))<;>first|rfl|(simp only [hr4];done)|(simp only [hr4];rfl)|(simp_all;done)
  rw [hX] at hr;clear hX
  simp only [Prod.mk.injEq] at hr;obtain ⟨rfl,rfl,rfl⟩:=hr
  refine aw aa [0,1,2,3,4,5,6] 6 rfl rfl rfl rfl rfl rfl ?_ ?_
  all_goals first|rfl|(simp [aD,aZ,bg];done)|(simp [aD,aZ,bg];omega)
 have hc5':=of_decide_eq_false hc5
 refine ah ?_
 refine ae aa 2 rfl ?_
 refine an rfl (fun hc6=>?_) (fun hc6=>?_)
 ·
  have hc6':=of_decide_eq_true hc6
  refine aU ?_
  refine an rfl (fun _=>?_) (fun hno=>absurd (hc6.symm.trans hno) (by decide))
  refine aH aa 2 rfl ?_
  obtain ⟨b25,a25,hr5⟩:∃ (b25:Bk) (a25:Answer),bE b d=(b25,a25):=⟨_,_,rfl⟩
  refine aP 11 [0,7,8,9,10,6,5] (cw id (bc [0,7,8,9,10]) (ms:=(jw b 1 2 3 4 none none)) (ms':=(jw b25 1 2 3 4 none none)) (fun x hx=>xA x hx b d (by assumption) b25 a25 hr5) Hx rfl rfl ⟨⟨_,rfl,.inl ⟨rfl,rfl⟩⟩,⟨_,rfl,.inl ⟨rfl,rfl⟩⟩,trivial⟩ rfl rfl rfl rfl rfl rfl rfl ⟨rfl,rfl,rfl,rfl,trivial⟩ rfl rfl rfl rfl rfl rfl rfl rfl rfl rfl rfl rfl rfl) rfl ?_
  refine ad aa 1 rfl ?_
  refine af ?_
  refine aA ?_
  refine bm ?_
  refine ax ?_
  have hX:cq b days d=(b25,days,a25):=by
    unfold cq;(repeat' (first|rw [if_pos (by omega)]|rw [if_neg (by omega)]|fail))<;>first|rfl|(simp only [hr5];done)|(simp only [hr5];rfl)|(simp_all;done)
  rw [hX] at hr;clear hX
  simp only [Prod.mk.injEq] at hr;obtain ⟨rfl,rfl,rfl⟩:=hr
  refine aw aa [0,7,8,9,10,5,6] 6 rfl rfl rfl rfl rfl rfl ?_ ?_
  all_goals first|rfl|(simp [aD,aZ,bg];done)|(simp [aD,aZ,bg];omega)
 have hc6':=of_decide_eq_false hc6
 refine ay ?_
 refine ad aa 2 rfl ?_
 refine af ?_
 refine an rfl (fun hc8=>?_) (fun hc8=>?_)
 ·
  have hc8':=of_decide_eq_true hc8
  refine aH aa 2 rfl ?_
  obtain ⟨b26,a26,hr6⟩:∃ (b26:Bk) (a26:Answer),bE b d=(b26,a26):=⟨_,_,rfl⟩
  refine aP 11 [0,7,8,9,10,6,5] (cw id (bc [0,7,8,9,10]) (ms:=(jw b 1 2 3 4 none none)) (ms':=(jw b26 1 2 3 4 none none)) (fun x hx=>xA x hx b d (by assumption) b26 a26 hr6) Hx rfl rfl ⟨⟨_,rfl,.inl ⟨rfl,rfl⟩⟩,⟨_,rfl,.inl ⟨rfl,rfl⟩⟩,trivial⟩ rfl rfl rfl rfl rfl rfl rfl ⟨rfl,rfl,rfl,rfl,trivial⟩ rfl rfl rfl rfl rfl rfl rfl rfl rfl rfl rfl rfl rfl) rfl ?_
  refine ad aa 1 rfl ?_
  refine af ?_
  refine aA ?_
  refine bm ?_
  refine ax ?_
  have hX:cq b days d=(b26,days,a26):=by
    unfold cq;(repeat' (first|rw [if_pos (by omega)]|rw [if_neg (by omega)]|fail))<;>first|rfl|(simp only [hr6];done)|(simp only [hr6];rfl)|(simp_all;done)
  rw [hX] at hr;clear hX
  simp only [Prod.mk.injEq] at hr;obtain ⟨rfl,rfl,rfl⟩:=hr
  refine aw aa [0,7,8,9,10,5,6] 6 rfl rfl rfl rfl rfl rfl ?_ ?_
  all_goals first|rfl|(simp [aD,aZ,bg];done)|(simp [aD,aZ,bg];omega)
 have hc8':=of_decide_eq_false hc8
 refine ae aa 2 rfl ?_
 refine an rfl (fun hc9=>?_) (fun hc9=>?_)
 ·
  have hc9':=of_decide_eq_true hc9
  refine ah ?_
  refine ae aa 5 rfl ?_
  refine an rfl (fun hc10=>?_) (fun hc10=>?_)
  ·
   have hc10':=hc10;try simp only [bA,bW] at hc10'
   refine ae aa 2 rfl ?_
   refine aA ?_
   refine ax ?_
   refine bm ?_
   refine ax ?_
   have hX:cq b days d=(b,days,(⟨8,0⟩:Answer)):=by
     unfold cq;(repeat' (first|rw [if_pos (by omega)]|rw [if_neg (by omega)]|fail))<;>first|rfl|(simp_all;done)
   rw [hX] at hr;clear hX
   simp only [Prod.mk.injEq] at hr;obtain ⟨rfl,rfl,rfl⟩:=hr
   refine aw aa [0,1,2,3,4,5,6] 6 rfl rfl rfl rfl rfl rfl ?_ ?_
   all_goals first|rfl|(simp [aD,aZ,bg];done)|(simp [aD,aZ,bg];omega)
  have hc10':=hc10;try simp only [bA,bW] at hc10'
  refine aU ?_
  refine ae aa 5 rfl ?_
  refine ae aa 2 rfl ?_
  refine aA ?_
  refine bm ?_
  refine ax ?_
  have hX:cq b days d=((⟨b.time,true,b.ag,b.due,b.aj,b.s0,b.s1,b.n0,b.n1,b.w0,b.w1,b.bx,b.aQ,b.book⟩:Bk),days,(⟨0,0⟩:Answer)):=by
    unfold cq;(repeat' (first|rw [if_pos (by omega)]|rw [if_neg (by omega)]|fail))<;>first|rfl|(simp_all;done)
  rw [hX] at hr;clear hX
  simp only [Prod.mk.injEq] at hr;obtain ⟨rfl,rfl,rfl⟩:=hr
  refine aw aa [0,1,2,3,4,5,6] 6 rfl rfl rfl rfl rfl rfl ?_ ?_
  all_goals first|rfl|(simp [aD,aZ,bg];done)|(simp [aD,aZ,bg];omega)
 have hc9':=of_decide_eq_false hc9
 refine ae aa 2 rfl ?_
 refine an rfl (fun hc11=>?_) (fun hc11=>?_)
 ·
  have hc11':=of_decide_eq_true hc11
  refine aH aa 1 rfl ?_
  obtain ⟨b27,a27,hr7⟩:∃ (b27:Bk) (a27:Answer),gn b=(b27,a27):=⟨_,_,rfl⟩
  refine aP 11 [0,7,8,9,10,6,5] (cw id (bc [0,7,8,9,10]) (ms:=(jw b 1 2 3 4 none none)) (ms':=(jw b27 1 2 3 4 none none)) (fun x hx=>Ke x hx b (by first|assumption|exact ct.tick (by assumption) (by omega) (by omega)) b27 a27 hr7) JN rfl rfl ⟨⟨_,rfl,.inl ⟨rfl,rfl⟩⟩,trivial⟩ rfl rfl rfl rfl rfl rfl rfl ⟨rfl,rfl,rfl,rfl,trivial⟩ rfl rfl rfl rfl rfl rfl rfl rfl rfl rfl rfl rfl rfl) rfl ?_
  refine ad aa 1 rfl ?_
  refine af ?_
  refine aA ?_
  refine bm ?_
  refine ax ?_
  have hX:cq b days d=(b27,days,a27):=by
    unfold cq;(repeat' (first|rw [if_pos (by omega)]|rw [if_neg (by omega)]|fail))<;>first|rfl|(simp only [hr7];done)|(simp only [hr7];rfl)|(simp_all;done)
  rw [hX] at hr;clear hX
  simp only [Prod.mk.injEq] at hr;obtain ⟨rfl,rfl,rfl⟩:=hr
  refine aw aa [0,7,8,9,10,5,6] 6 rfl rfl rfl rfl rfl rfl ?_ ?_
  all_goals first|rfl|(simp [aD,aZ,bg];done)|(simp [aD,aZ,bg];omega)
 have hc11':=of_decide_eq_false hc11
 refine ae aa 2 rfl ?_
 refine an rfl (fun hc12=>?_) (fun hc12=>?_)
 ·
  have hc12':=of_decide_eq_true hc12
  refine aH aa 1 rfl ?_
  obtain ⟨today28,days28,a28,hr8⟩:∃ (today28:List au) (days28:List (List Int)) (a28:Answer),fS b.aQ days=(today28,days28,a28):=⟨_,_,_,rfl⟩
  refine aP 9 [0,7,8,6,1,2,3] (cw (bc [0,4,5]) (bc [0,7,8]) (ms:=((dO.set 16 (some (.s 1 0 4 b.aQ.length))).set 17 (some (.s 2 0 1 days.length)))) (ms':=((dO.set 16 (some (.s 1 0 4 today28.length))).set 17 (some (.s 2 0 1 days28.length)))) (fun x hx=>HN x hx b.aQ days (by first|omega|(simp;done)|(simp;omega)) (by first|omega|(simp;done)|(simp;omega)) today28 days28 a28 hr8) JM rfl rfl ⟨⟨_,rfl,.inl ⟨rfl,rfl⟩⟩,trivial⟩ rfl rfl rfl rfl rfl rfl rfl ⟨rfl,rfl,trivial⟩ rfl rfl rfl rfl rfl rfl rfl rfl rfl rfl rfl rfl rfl) rfl ?_
  refine ad aa 1 rfl ?_
  refine af ?_
  refine aA ?_
  refine bm ?_
  refine ax ?_
  have hX:cq b days d=((⟨b.time,b.down,b.ag,b.due,b.aj,b.s0,b.s1,b.n0,b.n1,b.w0,b.w1,b.bx,today28,b.book⟩:Bk),days28,a28):=by
    unfold cq;(repeat' (first|rw [if_pos (by omega)]|rw [if_neg (by omega)]|fail))<;>first|rfl|(simp only [hr8];done)|(simp only [hr8];rfl)|(simp_all;done)
  rw [hX] at hr;clear hX
  simp only [Prod.mk.injEq] at hr;obtain ⟨rfl,rfl,rfl⟩:=hr
  refine aw aa [0,1,2,3,7,8,6] 6 rfl rfl rfl rfl rfl rfl ?_ ?_
  all_goals first|rfl|(simp [aD,aZ,bg];done)|(simp [aD,aZ,bg];omega)
 have hc12':=of_decide_eq_false hc12
 refine ae aa 2 rfl ?_
 refine an rfl (fun hc13=>?_) (fun hc13=>?_)
 ·
  have hc13':=of_decide_eq_true hc13
  refine aH aa 2 rfl ?_
  obtain ⟨b29,a29,hr9⟩:∃ (b29:Bk) (a29:Answer),eH b d=(b29,a29):=⟨_,_,rfl⟩
  refine aP 11 [0,7,8,9,10,6,5] (cw id (bc [0,7,8,9,10]) (ms:=(jw b 1 2 3 4 none none)) (ms':=(jw b29 1 2 3 4 none none)) (fun x hx=>IZ x hx b d (by first|assumption|exact ct.tick (by assumption) (by omega) (by omega)) b29 a29 hr9) JL rfl rfl ⟨⟨_,rfl,.inl ⟨rfl,rfl⟩⟩,⟨_,rfl,.inl ⟨rfl,rfl⟩⟩,trivial⟩ rfl rfl rfl rfl rfl rfl rfl ⟨rfl,rfl,rfl,rfl,trivial⟩ rfl rfl rfl rfl rfl rfl rfl rfl rfl rfl rfl rfl rfl) rfl ?_
  refine ad aa 1 rfl ?_
  refine af ?_
  refine aA ?_
  refine bm ?_
  refine ax ?_
  have hX:cq b days d=(b29,days,a29):=by
    unfold cq;(repeat' (first|rw [if_pos (by omega)]|rw [if_neg (by omega)]|fail))<;>first|rfl|(simp only [hr9];done)|(simp only [hr9];rfl)|(simp_all;done)
  rw [hX] at hr;clear hX
  simp only [Prod.mk.injEq] at hr;obtain ⟨rfl,rfl,rfl⟩:=hr
  refine aw aa [0,7,8,9,10,5,6] 6 rfl rfl rfl rfl rfl rfl ?_ ?_
  all_goals first|rfl|(simp [aD,aZ,bg];done)|(simp [aD,aZ,bg];omega)
 have hc13':=of_decide_eq_false hc13
 refine dg ?_
 refine bq ?_
 refine then_ok ?_
 refine ae aa 2 rfl ?_
 refine aA ?_
 have hX:cq b days d=(b,days,(⟨1,0⟩:Answer)):=by
   unfold cq;(repeat' (first|rw [if_pos (by omega)]|rw [if_neg (by omega)]|fail))<;>first|rfl|(simp_all;done)
 rw [hX] at hr;clear hX
 simp only [Prod.mk.injEq] at hr;obtain ⟨rfl,rfl,rfl⟩:=hr
 refine aw aa [0,1,2,3,4,5,6] 6 rfl rfl rfl rfl rfl rfl ?_ ?_
 all_goals first|rfl|(simp [aD,aZ,bg];done)|(simp [aD,aZ,bg];omega)

theorem HO (x:Nat->Value) (hx:∀ i,(x i).oneCell'=true) (b:Bk) (days:List (List Int)) (told:List (Int×Answer)) (cl:Nat) (d:aV) (ok:ct b) (hy:days.length<=1000) (b2:Bk) (y2:List (List Int)) (t2:List (Int×Answer)) (c2:Nat) (a2:Answer) (hr:da b days told cl d=(b2,y2,t2,c2,a2)):cL Try.prog 42 [(.c (.p 0 0 0 0)),(.c (.q (cX d) 0))] [(0,(.box 98 (aZ b 1 2 3 4 (.s 5 0 1 days.length) (.m 6)))),(1,(ek b.ag)),(2,(dS b.due)),(3,(ep b.aj)),(4,(cU b.aQ)),(5,(ru days)),(6,(.map (tV told) cl))] [0] (.v (.g [cI a2.err,cI a2.ba])) [(0,(.box 98 (aZ b2 1 2 3 4 (.s 5 0 1 y2.length) (.m 6)))),(1,(ek b2.ag)),(2,(dS b2.due)),(3,(ep b2.aj)),(4,(cU b2.aQ)),(5,(ru y2)),(6,(.map (tV t2) c2))]:=by
 refine cL.mk 42 [(0,(aC (.p 0 0 0 0))),(1,(aC (.q (cX d) 0)))] 7 Try.func42 rfl rfl rfl rfl rfl rfl rfl rfl rfl ?_
 intro W0 F0 T0 pg
 obtain ⟨okt,okc,okd,oka,oky,okw0,okw1,okp,okv,okk0,okk1,okg,okl0,okl1,okp0,okp1,okn0,okn1,okq⟩:=id ok
 refine ae aa 1 rfl ?_
 refine ah ?_
 refine ah ?_
 refine dr [0,1,4] [7,0,1,2,3,4,5,6] mixed rfl rfl ?_
 refine bU (kn:=[]) aa 8 rfl trivial ?_
 refine ca (n':=8) [12,16] [6] rfl rfl (.inl ⟨(aq.plain rfl),aM.cast (Cy (ps:=told) Try.underlying96 Try.underlying3 Jo rfl rfl rfl rfl) rfl⟩) rfl ?_
 refine bU (n':=9) (kn:=[]) aa 6 rfl trivial ?_
 refine ef [0,1,4,5,6] [8,7,0,1,2,3,4,5,6] rfl rfl (by kernel_rfl) ?_
 refine then_ok ?_
 refine cA 27 (((fB told d.id).isSome) && (decide (¬d.id=0))) ?_ ?_
 ·
  refine ay ?_
  refine ad aa 2 rfl ?_
  refine bH (t:=21) rfl (fun hb1=>?_) (fun hb1=>?_)
  ·
   have hb1':=hb1;try simp only [bA,bW] at hb1'
   refine ad aa 6 rfl ?_
   refine af ?_
   exact aJ.bK 9 rfl rfl (by first|(simp [hb1];done)|(simp_all;done)|(exfalso;simp_all;done)|(simp_all;omega)) rfl
  have hb1':=hb1;try simp only [bA,bW] at hb1'
  refine ad aa 6 rfl ?_
  refine af ?_
  exact aJ.bK 9 rfl rfl (by first|(simp [hb1];done)|(simp_all;done)|(exfalso;simp_all;done)|(simp_all;omega)) rfl
 refine an rfl (fun hc2=>?_) (fun hc2=>?_)
 ·
  have hc2':=hc2;try simp only [bA,bW] at hc2'
  refine ae aa 2 rfl ?_
  refine aA ?_
  refine ax ?_
  have hX:da b days told cl d=(b,days,told,cl,((fB told d.id).getD ⟨0,0⟩)):=by
    unfold da;(repeat' split)<;>first|rfl|omega|(exfalso;omega)|(simp_all;done)|(simp_all;omega)
  rw [hX] at hr;clear hX
  simp only [Prod.mk.injEq] at hr;obtain ⟨rfl,rfl,rfl,rfl,rfl⟩:=hr
  refine aw aa [0,1,2,3,4,5,6,7] 7 rfl rfl rfl rfl rfl rfl ?_ ?_
  all_goals first|rfl|(simp [aD,aZ,bg];done)|(simp [aD,aZ,bg];omega)
 have hc2':=hc2;try simp only [bA,bW] at hc2'
 refine aU ?_
 refine aH aa 2 rfl ?_
 obtain ⟨b20,y20,a20,hr0⟩:∃ (b20:Bk) (y20:List (List Int)) (a20:Answer),cq b days d=(b20,y20,a20):=⟨_,_,_,rfl⟩
 refine aP 14 [0,9,10,11,12,13,8,7,6] (cw id (bc [0,9,10,11,12,13]) (ms:=(jw b 1 2 3 4 (some (.s 5 0 1 days.length)) none)) (ms':=(jw b20 1 2 3 4 (some (.s 5 0 1 y20.length)) none)) (fun x hx=>Kf x hx b days d (by first|assumption|exact ct.tick (by assumption) (by omega) (by omega)) (by first|omega|(simp;done)|(simp;omega)) b20 y20 a20 hr0) JU rfl rfl ⟨⟨_,rfl,.inl ⟨rfl,rfl⟩⟩,⟨_,rfl,.inl ⟨rfl,rfl⟩⟩,trivial⟩ rfl rfl rfl rfl rfl rfl rfl ⟨rfl,rfl,rfl,rfl,rfl,trivial⟩ rfl rfl rfl rfl rfl rfl rfl rfl rfl rfl rfl rfl rfl) rfl ?_
 refine ad aa 2 rfl ?_
 refine af ?_
 refine ah ?_
 refine bd [0,1,4,7] [14,0,9,10,11,12,13,7,6] mixed rfl rfl ?_
 refine aF (kn:=[]) aa 9 rfl trivial ?_
 refine bF [14,0,9,10,11,12,13,7,6] rfl rfl rfl rfl (by kernel_rfl) ?_
 refine gj [14,0,9,10,11,12,13,7,6] (Cw Try.underlying96 Try.underlying3 rfl rfl rfl rfl rfl) rfl ?_
 refine af ?_
 refine ae aa 2 rfl ?_
 refine aA ?_
 have hX:da b days told cl d=(b20,y20,lG told d.id a20,if (fB told d.id).isSome then cl else cl+1,a20):=by
   unfold da;simp only [hr0];(repeat' split)<;>first|rfl|omega|(exfalso;omega)|(simp_all;done)|(simp_all;omega)
 rw [hX] at hr;clear hX
 simp only [Prod.mk.injEq] at hr;obtain ⟨rfl,rfl,rfl,rfl,rfl⟩:=hr
 refine aw aa [0,9,10,11,12,13,6,7] 7 rfl rfl rfl rfl rfl rfl ?_ ?_
 all_goals first|rfl|(simp [aD,aZ,bg];done)|(simp [aD,aZ,bg];omega)

theorem xz (s:Setup) (f:cV) (hr:dZ s=f):Fn Try.prog 40 [(.g [(cR 3 ((s.cK).map fr)),(cI s.eY),(cI s.cap)])] (.v (.g [(cI f.err),(cI f.at_)])) []:=by
 refine Fn.mk' 47 [(0,(aG [(cR 3 ((s.cK).map fr)),(cI s.eY),(cI s.cap)]))] Try.func40 rfl rfl rfl rfl ?_
 intro W0 T0
 refine fH 0 0 rfl rfl (fun hlen0_0=>?_)
 refine ae aa 2 rfl ?_
 refine ah ?_
 refine cA 19 (((decide ((↑s.cK.length:Int) > 8))||(decide (s.eY < 0)))||(decide (s.eY > 8))) ?_ ?_
 ·
  refine ay ?_
  refine ad aa 2 rfl ?_
  refine aE (cJ rfl rfl rfl rfl rfl Try.underlying53) rfl ?_
  refine ad aa 2 rfl ?_
  refine bH (t:=10) rfl (fun hb1=>?_) (fun hb1=>?_)
  ·
   have hb1':=of_decide_eq_true hb1
   refine ad aa 9 rfl ?_
   refine af ?_
   exact aJ.bK 15 rfl rfl (by first|(simp [hb1];done)|(simp_all;done)|(exfalso;simp_all;done)|(simp_all;omega)) rfl
  have hb1':=of_decide_eq_false hb1
  refine ad aa 5 rfl ?_
  refine bH (t:=15) rfl (fun hb2=>?_) (fun hb2=>?_)
  ·
   have hb2':=of_decide_eq_true hb2
   refine ad aa 4 rfl ?_
   refine af ?_
   exact aJ.bK 16 rfl rfl (by first|(simp [hb1,hb2];done)|(simp_all;done)|(exfalso;simp_all;done)|(simp_all;omega)) rfl
  have hb2':=of_decide_eq_false hb2
  refine ad aa 4 rfl ?_
  refine af ?_
  exact aJ.bK 16 rfl rfl (by first|(simp [hb1,hb2];done)|(simp_all;done)|(exfalso;simp_all;done)|(simp_all;omega)) rfl
 refine an rfl (fun hc3=>?_) (fun hc3=>?_)
 ·
  have hc3':=hc3;try simp only [bA,bW] at hc3'
  refine ae aa 2 rfl ?_
  refine aA ?_
  refine ax ?_
  have hX:dZ s=(⟨5,0⟩:cV):=by
    unfold dZ;rw [if_pos (by omega)]
  rw [hX] at hr;clear hX
  subst hr
  refine aw aa [1] 0 rfl rfl rfl rfl rfl rfl ?_ ?_
  all_goals first|rfl|(simp [aD,aZ,bg];done)|(simp [aD,aZ,bg];omega)
 have hc3':=hc3;try simp only [bA,bW] at hc3'
 refine aU ?_
 refine ah ?_
 refine cA 28 ((decide (s.cap < 0))||(decide (s.cap > 1000000))) ?_ ?_
 ·
  refine ay ?_
  refine ad aa 4 rfl ?_
  refine bH (t:=24) rfl (fun hb4=>?_) (fun hb4=>?_)
  ·
   have hb4':=of_decide_eq_true hb4
   refine ad aa 4 rfl ?_
   refine af ?_
   exact aJ.bK 9 rfl rfl (by first|(simp [hb4];done)|(simp_all;done)|(exfalso;simp_all;done)|(simp_all;omega)) rfl
  have hb4':=of_decide_eq_false hb4
  refine ad aa 4 rfl ?_
  refine af ?_
  exact aJ.bK 9 rfl rfl (by first|(simp [hb4];done)|(simp_all;done)|(exfalso;simp_all;done)|(simp_all;omega)) rfl
 refine an rfl (fun hc5=>?_) (fun hc5=>?_)
 ·
  have hc5':=hc5;try simp only [bA,bW] at hc5'
  refine ae aa 2 rfl ?_
  refine aA ?_
  refine ax ?_
  have hX:dZ s=(⟨3,0⟩:cV):=by
    unfold dZ;rw [if_neg (by omega),if_pos (by omega)]
  rw [hX] at hr;clear hX
  subst hr
  refine aw aa [1] 0 rfl rfl rfl rfl rfl rfl ?_ ?_
  all_goals first|rfl|(simp [aD,aZ,bg];done)|(simp [aD,aZ,bg];omega)
 have hc5':=hc5;try simp only [bA,bW] at hc5'
 refine aU ?_
 refine ah ?_
 refine aH aa 2 rfl ?_
 refine aE (cJ rfl rfl rfl rfl rfl Try.underlying53) rfl ?_
 refine ad aa 1 rfl ?_
 refine af ?_
 refine aY ?_
 refine cz (β:=Nat) (fun (q:Nat)=>⟨[(2,(aC (.p 1 0 0 0))),(31,(aC (cR 3 ((s.cK).map fr)))),(32,(aI (↑s.cK.length:Int))),(33,(aI (↑q:Int)))],[(1,(.box 50 [(cI 0),(cI 0)]))],2⟩) (fun (q:Nat)=>q<=s.cK.length/\pL s.cK 0=pL (s.cK.drop q) q) (fun (q:Nat)=>s.cK.length - q) 0 ?_ ?_ ?_
 ·exact ⟨by omega,rfl⟩
 ·exact aJ.cc id (by refine ⟨?_,?_,?_,?_,trivial⟩<;>first|rfl|(simp only [bn];done)|(congr 3;omega)|(congr 4;omega)|(simp only [bo];rfl)) (⟨by first|rfl|(simp only [bn];done)|(congr 3;omega)|(congr 4;omega)|(simp only [bo];rfl),trivial⟩) rfl
 rintro q ⟨hi0_0,hi0_1⟩
 refine ae aa 1 rfl ?_
 refine ah ?_
 refine an rfl (fun hc6=>?_) (fun hc6=>?_)
 ·
  have hc6':=of_decide_eq_true hc6
  refine aU ?_
  refine ah ?_
  refine aY ?_
  refine aH aa 1 rfl ?_
  obtain ⟨x1,hx1⟩:=cr (xs:=s.cK) (i:=q) (by first|omega|(simp;done)|(simp;omega))
  refine aE (db (i:=q) rfl rfl rfl Try.underlying53 Gy (by first|omega|(simp;done)|(simp;omega)) (bz hx1)) rfl ?_
  refine ad aa 4 rfl ?_
  refine af ?_
  refine aH aa 1 rfl ?_
  obtain ⟨e0,hr0⟩:∃ (e0:Int),fI x1=e0:=⟨_,rfl⟩
  refine aP 3 [2,1] (ch 3 (lL x1 e0 hr0) Ew rfl rfl ⟨⟨_,rfl,.g ⟨.d _,.d _,.d _,trivial⟩⟩,trivial⟩ trivial trivial rfl rfl rfl rfl) rfl ?_
  refine ad aa 1 rfl ?_
  refine af ?_
  refine ae aa 2 rfl ?_
  refine an rfl (fun hc7=>?_) (fun hc7=>?_)
  ·
   have hc7':=of_decide_eq_true hc7
   refine ae aa 4 rfl ?_
   refine aA ?_
   refine bm ?_
   refine ax ?_
   refine ax ?_
   refine bm ?_
   refine ax ?_
   have hX:dZ s=(⟨e0,(↑q:Int)⟩:cV):=by
     unfold dZ;rw [if_neg (by omega),if_neg (by omega),hi0_1,uQ hx1,if_pos (by omega)];simp_all
   rw [hX] at hr;clear hX
   subst hr
   refine aw aa [1] 0 rfl rfl rfl rfl rfl rfl ?_ ?_
   all_goals first|rfl|(simp [aD,aZ,bg];done)|(simp [aD,aZ,bg];omega)
  have hc7':=of_decide_eq_false hc7
  refine dg ?_
  refine bq ?_
  refine then_ok ?_
  refine ay ?_
  refine aE (aN rfl rfl rfl (aK (by first|omega|(simp;done)|(simp;omega)))) rfl ?_
  refine ad aa 1 rfl ?_
  refine af ?_
  refine ⟨q+1,⟨by omega,by rw [hi0_1,uQ hx1,if_neg (by omega)]⟩,by first|omega|(simp;done)|(simp;omega),aJ.cc id (by refine ⟨?_,?_,?_,?_,trivial⟩<;>first|rfl|(simp only [bn];done)|(congr 3;omega)|(congr 4;omega)|(simp only [bo];rfl)) (⟨by first|rfl|(simp only [bn];done)|(congr 3;omega)|(congr 4;omega)|(simp only [bo];rfl),trivial⟩) rfl⟩
 have hc6':=of_decide_eq_false hc6
 refine cp ?_
 refine aR ?_
 refine aR ?_
 refine bM ?_
 refine then_ok ?_
 refine ae aa 2 rfl ?_
 refine aA ?_
 have hX:dZ s=(⟨0,0⟩:cV):=by
   unfold dZ;rw [if_neg (by omega),if_neg (by omega),hi0_1,List.drop_of_length_le (by omega)];rfl
 rw [hX] at hr;clear hX
 subst hr
 refine aw aa [1] 0 rfl rfl rfl rfl rfl rfl ?_ ?_
 all_goals first|rfl|(simp [aD,aZ,bg];done)|(simp [aD,aZ,bg];omega)

theorem qi (s:Setup) (l:List aV) (b2:Bk) (y2:List (List Int)) (o2:List Answer) (f2:cV) (hr:fi s l=(b2,y2,o2,f2)):Fn Try.prog 22 [(.g [(cR 3 ((s.cK).map fr)),(cI s.eY),(cI s.cap)]),(.c (iV l))] (.t [(.g [(cI b2.time),(cB b2.down),(.s 0 0 6 b2.ag.length),(.s 1 0 1 b2.due.length),(.s 2 0 8 b2.aj.length),(cI b2.s0.bG),(dh b2.s0.kept),(cI b2.s1.bG),(dh b2.s1.kept),(cI b2.n0),(cI b2.n1),(ed b2.w0),(ed b2.w1),(cI b2.bx.cap),(fN b2.bx.used),(gK b2.bx.bb),(.s 3 0 4 b2.aQ.length),(.s 4 0 1 y2.length),(dR b2.book)]),(.c (.s 5 0 2 o2.length)),(.g [(cI f2.err),(cI f2.at_)])]) [(0,(ek b2.ag)),(1,(dS b2.due)),(2,(ep b2.aj)),(3,(cU b2.aQ)),(4,(ru y2)),(5,(HX o2))]:=by
 refine Fn.mk' 89 [(0,(aG [(cR 3 ((s.cK).map fr)),(cI s.eY),(cI s.cap)])),(1,(aC (iV l)))] Try.func22 rfl rfl rfl rfl ?_
 intro W0 T0
 refine fH 0 0 rfl rfl (fun hlen0_0=>?_)
 refine dU 1 rfl (fun hlen1=>?_)
 refine ae aa 4 rfl ?_
 refine ah ?_
 refine aH aa 1 rfl ?_
 obtain ⟨f0,hr0⟩:∃ (f0:cV),dZ s=f0:=⟨_,rfl⟩
 refine aP 3 [2,1,0] (ch 3 (xz s f0 hr0) JY rfl rfl ⟨⟨_,rfl,.g ⟨.d _,.d _,.d _,trivial⟩⟩,trivial⟩ ⟨trivial,trivial,trivial⟩ trivial rfl rfl rfl rfl) rfl ?_
 refine ad aa 2 rfl ?_
 refine af ?_
 refine ae aa 3 rfl ?_
 refine an rfl (fun hc1=>?_) (fun hc1=>?_)
 ·
  have hc1':=of_decide_eq_true hc1
  refine ah ?_
  refine dr [1,2,4,6,7] [3,2,1,0] mixed rfl rfl ?_
  refine bU (kn:=[]) aa 5 rfl trivial ?_
  refine ef [1,2,4,6,5] [2,1,0] rfl rfl (by kernel_rfl) ?_
  refine then_ok ?_
  refine aA ?_
  refine ax ?_
  refine cu 1 2 61 6 rfl rfl rfl ?_
  refine cu 1 3 3 1 rfl rfl rfl ?_
  refine cu 1 4 67 8 rfl rfl rfl ?_
  refine fD 1 6 4 rfl rfl rfl ?_
  refine fD 1 8 4 rfl rfl rfl ?_
  refine fD 1 11 5 rfl rfl rfl ?_
  refine fD 1 12 5 rfl rfl rfl ?_
  refine fD 1 14 1 rfl rfl rfl ?_
  refine fD 1 15 4 rfl rfl rfl ?_
  refine cu 1 16 83 4 rfl rfl rfl ?_
  refine cu 1 17 86 1 rfl rfl rfl ?_
  refine fD 1 18 2 rfl rfl rfl ?_
  refine dm (aJ.nil 5 65 2 (by decide) rfl) ?_
  have hX:fi s l=((⟨0,false,([]:List bD),([]:List Int),([]:List bl),(⟨0,[]⟩:bO),(⟨0,[]⟩:bO),0,0,[],[],(⟨0,[],[]⟩:cG),([]:List au),[]⟩:Bk),([]:List (List Int)),([]:List Answer),f0):=by
    unfold fi;rw [hr0,if_pos (by omega)];rfl
  rw [hX] at hr;clear hX
  simp only [Prod.mk.injEq] at hr;obtain ⟨rfl,rfl,rfl,rfl⟩:=hr
  refine aw aa [4,5,6,7,8,9,1,2] 6 rfl rfl rfl rfl rfl rfl ?_ ?_
  all_goals first|rfl|(simp [aD,aZ,bg];done)|(simp [aD,aZ,bg];omega)
 have hc1':=of_decide_eq_false hc1
 refine aU ?_
 refine ah ?_
 refine aH aa 1 rfl ?_
 refine aE (cJ rfl rfl rfl rfl rfl Try.underlying24) rfl ?_
 refine ad aa 1 rfl ?_
 refine af ?_
 refine an rfl (fun hc2=>?_) (fun hc2=>?_)
 ·
  have hc2':=of_decide_eq_true hc2
  refine ae aa 5 rfl ?_
  refine aA ?_
  refine ax ?_
  refine cu 1 2 61 6 rfl rfl rfl ?_
  refine cu 1 3 3 1 rfl rfl rfl ?_
  refine cu 1 4 67 8 rfl rfl rfl ?_
  refine fD 1 6 4 rfl rfl rfl ?_
  refine fD 1 8 4 rfl rfl rfl ?_
  refine fD 1 11 5 rfl rfl rfl ?_
  refine fD 1 12 5 rfl rfl rfl ?_
  refine fD 1 14 1 rfl rfl rfl ?_
  refine fD 1 15 4 rfl rfl rfl ?_
  refine cu 1 16 83 4 rfl rfl rfl ?_
  refine cu 1 17 86 1 rfl rfl rfl ?_
  refine fD 1 18 2 rfl rfl rfl ?_
  refine dm (aJ.nil 5 65 2 (by decide) rfl) ?_
  have hX:fi s l=((⟨0,false,([]:List bD),([]:List Int),([]:List bl),(⟨0,[]⟩:bO),(⟨0,[]⟩:bO),0,0,[],[],(⟨0,[],[]⟩:cG),([]:List au),[]⟩:Bk),([]:List (List Int)),([]:List Answer),(⟨5,0⟩:cV)):=by
    unfold fi;rw [hr0,if_neg (by omega),if_pos (by omega)];rfl
  rw [hX] at hr;clear hX
  simp only [Prod.mk.injEq] at hr;obtain ⟨rfl,rfl,rfl,rfl⟩:=hr
  refine aw aa [4,5,6,7,8,9,1,2] 6 rfl rfl rfl rfl rfl rfl ?_ ?_
  all_goals first|rfl|(simp [aD,aZ,bg];done)|(simp [aD,aZ,bg];omega)
 have hc2':=of_decide_eq_false hc2
 refine aU ?_
 refine eZ ?_
 refine aP 5 [4,3,2,1,0] (An 4 rfl) rfl ?_
 refine ad aa 3 rfl ?_
 refine af ?_
 refine ah ?_
 obtain ⟨w1,w2,w3,w4,w5,w6⟩:=lE (s:=s) (by rw [hr0];omega)
 refine qJ 5 2 61 6 rfl rfl rfl ?_
 refine qJ 5 4 67 8 rfl rfl rfl ?_
 refine kZ 5 6 4 rfl rfl rfl ?_
 refine kZ 5 8 4 rfl rfl rfl ?_
 refine kZ 5 11 5 rfl rfl rfl ?_
 refine kZ 5 12 5 rfl rfl rfl ?_
 refine kZ 5 14 1 rfl rfl rfl ?_
 refine kZ 5 15 4 rfl rfl rfl ?_
 refine qJ 5 16 83 4 rfl rfl rfl ?_
 refine qJ 5 17 86 1 rfl rfl rfl ?_
 refine kZ 5 18 2 rfl rfl rfl ?_
 refine aH aa 2 rfl ?_
 refine aE (cJ rfl rfl rfl rfl rfl Try.underlying53) rfl ?_
 refine ad aa 1 rfl ?_
 refine af ?_
 refine aY ?_
 refine cz (β:=Nat×List bD) (fun (p:Nat×List bD)=>match p with|(q,m)=>⟨[(1,(aC (iV l))),(2,(aC (.p 0 0 0 0))),(4,(aC (.p 1 0 0 0))),(5,(aC cN)),(6,(aC (.p 2 0 0 0))),(8,(aC (.p 5 0 0 0))),(29,(aC (cR 3 ((s.cK).map fr)))),(30,(aI (↑s.cK.length:Int))),(31,(aI (↑q:Int)))],[(9,(ru ([]:List (List Int)))),(8,(cU ([]:List au))),(7,(ep ([]:List bl))),(6,(ek m)),(5,(.box 98 [(cI 0),(cB false),(.s 6 0 6 m.length),cN,(.s 7 0 8 0),(cI 0),(dh ([]:List aS)),(cI 0),(dh ([]:List aS)),(cI 0),(cI 0),(ed ([]:List bS)),(ed ([]:List bS)),(cI 0),(fN ([]:List Int)),(gK ([]:List cg)),(.s 8 0 4 0),(.s 9 0 1 0),(dR ([]:List Entry)),(.m 4)])),(4,(.map (tV ([]:List (Int×Answer))) 0)),(2,(.box 50 [(cI 0),(cI 0)])),(1,(.box 46 [(cI 0),(cB false),cN,cN,cN,(cI 0),cN,(cI 0),cN,(cI 0),(cI 0),cN,cN,(cI 0),cN,cN,cN,cN,cN])),(0,(.box 55 [(cR 3 ((s.cK).map fr)),(cI s.eY),(cI s.cap)]))],10⟩) (fun (p:Nat×List bD)=>match p with|(q,m)=>q<=s.cK.length/\m=(s.cK.take q).map nd/\m.length=q) (fun (p:Nat×List bD)=>match p with|(q,m)=>s.cK.length - q) (0,([]:List bD)) ?_ ?_ ?_
 ·exact ⟨by omega,rfl,rfl⟩
 ·exact aJ.cc id (by refine ⟨?_,?_,?_,?_,?_,?_,?_,?_,?_,trivial⟩<;>first|rfl|(simp only [bn];done)|(congr 3;omega)|(congr 4;omega)|(simp only [bo];rfl)) (by refine ⟨?_,?_,?_,?_,?_,?_,?_,?_,?_,trivial⟩<;>first|rfl|(simp only [bn];done)|(congr 3;omega)|(congr 4;omega)|(simp only [bo];rfl)) rfl
 rintro ⟨q,m⟩ ⟨hi0_0,hi0_1,hi0_2⟩
 refine ae aa 1 rfl ?_
 refine ah ?_
 refine an rfl (fun hc3=>?_) (fun hc3=>?_)
 ·
  have hc3':=of_decide_eq_true hc3
  refine aU ?_
  refine ah ?_
  refine aY ?_
  refine eZ ?_
  obtain ⟨x1,hx1⟩:=cr (xs:=s.cK) (i:=q) (by first|omega|(simp;done)|(simp;omega))
  refine aE (db (i:=q) rfl rfl rfl Try.underlying53 Gy (by first|omega|(simp;done)|(simp;omega)) (bz hx1)) rfl ?_
  refine ad aa 3 rfl ?_
  refine af ?_
  refine bd [1,2,4,5,6,8,29,30,31,10] [10,9,8,7,6,5,4,2,1,0] mixed rfl rfl ?_
  refine aF (kn:=[]) aa 7 rfl trivial ?_
  refine aX (n':=11) [41] [] rfl rfl (.inl ⟨(aq.plain rfl),aM.cast (aM.Ju (cs':=[(cI 0),(cI 0),(cI x1.cM),(cI x1.count),(cI x1.sum),(fU ([]:List di))]) 5 2 (ze (ys:=[(2,(.g [(cI x1.cM),(cI x1.count),(cI x1.sum)]))]) rfl Jb rfl ⟨⟨rfl,rfl⟩,trivial⟩ rfl rfl) rfl rfl) rfl⟩) rfl ?_
  refine aX (n':=12) [42] [] rfl rfl (.inl ⟨(aq.plain rfl),aM.cast (ec (ys:=[(0,(.g [(cI 0),(cI 0),(cI x1.cM),(cI x1.count),(cI x1.sum),(fU ([]:List di))]))]) (rows:=([(⟨0,0,x1,([]:List di)⟩:bD)]).map qw) 11 zL rfl (by decide) ⟨⟨rfl,rfl⟩,trivial⟩ rfl rfl rfl rfl) rfl⟩) rfl ?_
  refine aX (n':=13) [40,43] [11,6] rfl rfl (.inl ⟨(aq.plain rfl),aM.cast (dA (m:=1) (N:=m.length+1) (k2:=12) (ys:=([(⟨0,0,x1,([]:List di)⟩:bD)]).map qw) zL rfl rfl rfl rfl rfl rfl (by first|omega|(simp;done)|(simp;omega)) rfl (.s rfl (by first|omega|(simp;done)|(simp;omega))) (by first|omega|(simp;done)|(simp;omega)) (by first|omega|(simp;done)|(simp;omega)) fK (by decide) (by first|omega|(simp;done)|(simp;omega)) (by first|omega|(simp;done)|(simp;omega))) rfl⟩) rfl ?_
  refine aF (kn:=[]) aa 3 rfl trivial ?_
  refine bF [12,10,9,8,7,5,4,2,1,0] rfl rfl rfl rfl (by kernel_rfl) ?_
  refine ad aa 1 rfl ?_
  refine cf ?_
  refine bq ?_
  refine then_ok ?_
  refine ay ?_
  refine aE (aN rfl rfl rfl (aK (by first|omega|(simp;done)|(simp;omega)))) rfl ?_
  refine ad aa 1 rfl ?_
  refine af ?_
  refine ⟨(q+1,m++([(⟨0,0,x1,([]:List di)⟩:bD)])),⟨by omega,by rw [ie hx1,List.map_append,<-hi0_1];rfl,by rw [List.length_append,hi0_2];rfl⟩,by first|omega|(simp;done)|(simp;omega),aJ.cc (fun k=>if k=6 then 12 else k) (by refine ⟨?_,?_,?_,?_,?_,?_,?_,?_,?_,trivial⟩<;>first|rfl|(simp only [bn];done)|(congr 3;omega)|(congr 4;omega)|(simp only [bo];rfl)) (by refine ⟨?_,?_,?_,?_,?_,?_,?_,?_,?_,trivial⟩<;>first|rfl|(simp only [bn];done)|(congr 3;omega)|(congr 4;omega)|(simp only [bo];rfl)) rfl⟩
 have hc3':=of_decide_eq_false hc3
 refine cp ?_
 refine aR ?_
 refine aR ?_
 refine bM ?_
 refine then_ok ?_
 refine aH aa 3 rfl ?_
 refine aP 11 [10,9,8,7,6,5,4,2,1,0] (nM 10 nt Ba rfl rfl rfl (n:=Int.toNat (s.eY)) (by first|omega|(simp;done)|(simp;omega)) (by first|omega|(simp;done)|(simp;omega)) (by first|omega|(simp;done)|(simp;omega)) (by first|omega|(simp;done)|(simp;omega))) rfl ?_
 refine ad aa 4 rfl ?_
 refine af ?_
 refine aH aa 5 rfl ?_
 refine aE (cJ rfl rfl rfl rfl rfl Try.underlying53) rfl ?_
 have hr1:dV s.cap (↑s.cK.length:Int)=((dV s.cap (↑s.cK.length:Int)).1,(dV s.cap (↑s.cK.length:Int)).2):=rfl
 refine aP 11 [10,9,8,7,6,5,4,2,1,0] (ch 11 (Fn.frozen (av':=(.t [(.g [(cI (((dV s.cap (↑s.cK.length:Int)).1).cap)),(fN (((dV s.cap (↑s.cK.length:Int)).1).used)),(gK (((dV s.cap (↑s.cK.length:Int)).1).bb))]),(.c (cI ((dV s.cap (↑s.cK.length:Int)).2)))])) (yi s.cap (↑s.cK.length:Int) ((dV s.cap (↑s.cK.length:Int)).1) ((dV s.cap (↑s.cK.length:Int)).2) hr1) ⟨⟨.inl ⟨_,rfl,rfl⟩,.inr ⟨_,_,_,_,_,rfl,rfl,rfl,by simp⟩,.inr ⟨_,_,_,_,_,rfl,rfl,rfl,by simp⟩,trivial⟩,.inl ⟨_,rfl,rfl⟩,trivial⟩) JX rfl rfl ⟨⟨_,rfl,.c (.d _)⟩,⟨_,rfl,.c (.d _)⟩,trivial⟩ ⟨⟨trivial,trivial,trivial,trivial⟩,trivial,trivial⟩ trivial rfl rfl rfl rfl) rfl ?_
 refine ad aa 7 rfl ?_
 refine af ?_
 refine ae aa 1 rfl ?_
 refine ah ?_
 refine aH aa 1 rfl ?_
 refine aE (cJ rfl rfl rfl rfl rfl Try.underlying24) rfl ?_
 refine ad aa 1 rfl ?_
 refine af ?_
 refine aY ?_
 refine iE (aJ.nil 11 65 2 (by decide) rfl) ?_
 have htk:m=s.cK.map nd:=by rw [hi0_1,List.take_of_length_le (by omega)]
 subst htk
 refine cz (β:=Nat×Bk×List (List Int)×List (Int×Answer)×Nat×List Answer) (fun (p:Nat×Bk×List (List Int)×List (Int×Answer)×Nat×List Answer)=>match p with|(u,b,days,told,cl,out)=>⟨[(1,(aC (iV l))),(2,(aC (.p 0 0 0 0))),(4,(aC (.p 1 0 0 0))),(5,(aC cN)),(6,(aC (.p 2 0 0 0))),(8,(aC (.p 5 0 0 0))),(29,(aC (cR 3 ((s.cK).map fr)))),(30,(aI (↑s.cK.length:Int))),(31,(aI (↑q:Int))),(11,(aC (.s 11 0 2 out.length))),(70,(aI (↑l.length:Int))),(71,(aI (↑u:Int)))],[(11,(HX out)),(10,(dS b.due)),(9,(ru days)),(8,(cU b.aQ)),(7,(ep b.aj)),(6,(ek b.ag)),(5,(.box 98 (aZ b 6 10 7 8 (.s 9 0 1 days.length) (.m 4)))),(4,(.map (tV told) cl)),(2,(.box 50 [(cI 0),(cI 0)])),(1,(.box 46 [(cI 0),(cB false),cN,cN,cN,(cI 0),cN,(cI 0),cN,(cI 0),(cI 0),cN,cN,(cI 0),cN,cN,cN,cN,cN])),(0,(.box 55 [(cR 3 ((s.cK).map fr)),(cI s.eY),(cI s.cap)]))],12⟩) (fun (p:Nat×Bk×List (List Int)×List (Int×Answer)×Nat×List Answer)=>match p with|(u,b,days,told,cl,out)=>u<=l.length/\iX l (dk s) [] [] 0 []=iX (l.drop u) b days told cl out/\ct b/\days.length<=u/\out.length=u) (fun (p:Nat×Bk×List (List Int)×List (Int×Answer)×Nat×List Answer)=>match p with|(u,b,days,told,cl,out)=>l.length - u) (0,dk s,([]:List (List Int)),([]:List (Int×Answer)),0,([]:List Answer)) ?_ ?_ ?_
 ·exact ⟨by omega,rfl,ct.start (by rw [hr0];omega),by simp,rfl⟩
 ·exact aJ.cc id (by refine ⟨?_,?_,?_,?_,?_,?_,?_,?_,?_,?_,?_,?_,trivial⟩<;>first|rfl|(simp only [bn];done)|(congr 3;omega)|(congr 4;omega)|(simp only [bo];rfl)) (by refine ⟨?_,?_,?_,?_,?_,?_,?_,?_,?_,?_,?_,trivial⟩<;>first|rfl|(simp only [bn];done)|(congr 3;omega)|(congr 4;omega)|(simp only [bo];rfl)|(simp only [aZ,dk,List.length_replicate];rfl)) rfl
 rintro ⟨u,b,days,told,cl,out⟩ ⟨hi1_0,hi1_1,hi1_2,hi1_3,hi1_4⟩
 refine ae aa 1 rfl ?_
 refine ah ?_
 refine an rfl (fun hc4=>?_) (fun hc4=>?_)
 ·
  have hc4':=of_decide_eq_true hc4
  refine aU ?_
  refine ah ?_
  refine aY ?_
  refine ae aa 2 rfl ?_
  refine ay ?_
  refine ad aa 4 rfl ?_
  obtain ⟨x1,hx1⟩:=cr (xs:=l) (i:=u) (by first|omega|(simp;done)|(simp;omega))
  refine aE (db (i:=u) rfl rfl rfl Try.underlying24 Dt (by first|omega|(simp;done)|(simp;omega)) (bz hx1)) rfl ?_
  obtain ⟨b22,y22,t22,c22,a22,hr2⟩:∃ (b22:Bk) (y22:List (List Int)) (t22:List (Int×Answer)) (c22:Nat) (a22:Answer),da b days told cl x1=(b22,y22,t22,c22,a22):=⟨_,_,_,_,_,rfl⟩
  refine aP 18 [5,12,13,14,15,16,17,11,2,1,0] (cw (bc [5,6,10,7,8,9,4]) (bc [5,12,13,14,15,16,17]) (ms:=(jw b 1 2 3 4 (some (.s 5 0 1 days.length)) (some (.m 6)))) (ms':=(jw b22 1 2 3 4 (some (.s 5 0 1 y22.length)) (some (.m 6)))) (fun x hx=>HO x hx b days told cl x1 (by first|assumption|exact ct.tick (by assumption) (by omega) (by omega)) (by first|omega|(simp;done)|(simp;omega)) b22 y22 t22 c22 a22 hr2) JW rfl rfl ⟨⟨_,rfl,.inl ⟨rfl,rfl⟩⟩,⟨_,rfl,.inl ⟨rfl,rfl⟩⟩,trivial⟩ rfl rfl rfl rfl rfl rfl rfl ⟨rfl,rfl,rfl,rfl,rfl,rfl,trivial⟩ rfl rfl rfl rfl rfl rfl rfl rfl rfl rfl rfl rfl rfl) rfl ?_
  refine aP 19 [18,5,12,13,14,15,16,17,11,2,1,0] (ec (ys:=[(0,(.g [(cI a22.err),(cI a22.ba)]))]) (rows:=([a22]).map mf) 18 Gz rfl (by decide) ⟨⟨rfl,rfl⟩,trivial⟩ rfl rfl rfl rfl) rfl ?_
  refine aP 20 [19,18,5,12,13,14,15,16,17,2,1,0] (dA (m:=1) (N:=out.length+1) (k2:=19) (ys:=([a22]).map mf) Gz rfl rfl rfl rfl rfl rfl (by first|omega|(simp;done)|(simp;omega)) rfl (.s rfl (by first|omega|(simp;done)|(simp;omega))) (by first|omega|(simp;done)|(simp;omega)) (by first|omega|(simp;done)|(simp;omega)) fK (by decide) (by first|omega|(simp;done)|(simp;omega)) (by first|omega|(simp;done)|(simp;omega))) rfl ?_
  refine ad aa 1 rfl ?_
  refine cf ?_
  refine bq ?_
  refine then_ok ?_
  refine ay ?_
  refine aE (aN rfl rfl rfl (aK (by first|omega|(simp;done)|(simp;omega)))) rfl ?_
  refine ad aa 1 rfl ?_
  refine af ?_
  refine ⟨(u+1,b22,y22,t22,c22,out++([a22])),⟨by omega,by rw [hi1_1,zS hx1,hr2],(by have h:=ct.once hi1_2 days told cl x1;rw [hr2] at h;exact h.1),(by have h:=(ct.once hi1_2 days told cl x1).2;rw [hr2] at h;dsimp only at h;omega),by rw [List.length_append,hi1_4];rfl⟩,by first|omega|(simp;done)|(simp;omega),aJ.cc (fun k=>if k=11 then 19 else if k=4 then 17 else if k=9 then 16 else if k=8 then 15 else if k=7 then 14 else if k=10 then 13 else if k=6 then 12 else k) (by refine ⟨?_,?_,?_,?_,?_,?_,?_,?_,?_,?_,?_,?_,trivial⟩<;>first|rfl|(simp only [bn];done)|(congr 3;omega)|(congr 4;omega)|(simp only [bo];rfl)) (by refine ⟨?_,?_,?_,?_,?_,?_,?_,?_,?_,?_,?_,trivial⟩<;>first|rfl|(simp only [bn];done)|(congr 3;omega)|(congr 4;omega)|(simp only [bo];rfl)) rfl⟩
 have hc4':=of_decide_eq_false hc4
 refine cp ?_
 refine aR ?_
 refine aR ?_
 refine bM ?_
 refine then_ok ?_
 refine ae aa 9 rfl ?_
 refine aA ?_
 have hX:fi s l=(b,days,out,(⟨0,0⟩:cV)):=by
   unfold fi;rw [hr0,if_neg (by omega),if_neg (by omega),hi1_1,List.drop_of_length_le (by omega)];rfl
 rw [hX] at hr;clear hX
 simp only [Prod.mk.injEq] at hr;obtain ⟨rfl,rfl,rfl,rfl⟩:=hr
 refine aw aa [6,10,7,8,9,11,1,2] 6 rfl rfl rfl rfl rfl rfl ?_ ?_
 all_goals first|rfl|(simp [aD,aZ,bg];done)|(simp [aD,aZ,bg];omega)

theorem EG:Fn Try.prog 43 [] (.v (.g [(.s 0 0 3 1),(cI 1),(cI 30)])) [(0,.arr 58 3 ([(⟨10,5,1000⟩:eP)].map fr))]:=by
 refine Fn.mk' 4 [] Try.func43 rfl rfl rfl rfl ?_
 intro W0 T0
 refine ae aa 1 rfl ?_
 refine aH aa 1 rfl ?_
 refine aP 2 [1,0] (ec (ys:=[(0,(.g [(cI 10),(cI 5),(cI 1000)]))]) (rows:=([(⟨10,5,1000⟩:eP)]).map fr) 1 Jq rfl (by decide) ⟨⟨rfl,rfl⟩,trivial⟩ rfl rfl rfl rfl) rfl ?_
 refine ad aa 2 rfl ?_
 refine af ?_
 refine aA ?_
 refine aw aa [1,0] 1 rfl rfl rfl rfl rfl rfl ?_ ?_
 all_goals first|rfl|(simp [aD,aZ,bg];done)|(simp [aD,aZ,bg];omega)
theorem EM:Fn Try.prog 25 [] (aB true) []:=by
 refine Fn.mk' 66 [] Try.func25 rfl rfl rfl rfl ?_
 intro W0 T0
 refine ae aa 1 rfl ?_
 refine eZ ?_
 refine aP 0 [] (ch 0 (Fn.frozen (av':=(aG [(cR 3 (([(⟨10,5,1000⟩:eP)]).map fr)),(cI 1),(cI 30)])) (EG) ⟨.inr ⟨_,_,_,_,_,rfl,rfl,rfl,by simp⟩,.inl ⟨_,rfl,rfl⟩,.inl ⟨_,rfl,rfl⟩,trivial⟩) JV rfl rfl trivial ⟨trivial,trivial,trivial,trivial⟩ trivial rfl rfl rfl rfl) rfl ?_
 refine ad aa 5 rfl ?_
 refine aP 1 [0] (ec (ys:=[(0,(.g [(cI 0),(cI 1),(cI 0),(cI 0),(cI 0),(cI 100)])),(1,(.g [(cI 0),(cI 2),(cI 0),(cI 0),(cI 0),(cI 60)])),(2,(.g [(cI 0),(cI 3),(cI 0),(cI 0),(cI 2),(cI 40)])),(3,(.g [(cI 0),(cI 5),(cI 0),(cI 0),(cI 0),(cI 0)])),(4,(.g [(cI 0),(cI 6),(cI 1),(cI 0),(cI 0),(cI 0)]))]) (rows:=([(⟨0,1,0,0,0,100⟩:aV),(⟨0,2,0,0,0,60⟩:aV),(⟨0,3,0,0,2,40⟩:aV),(⟨0,5,0,0,0,0⟩:aV),(⟨0,6,1,0,0,0⟩:aV)]).map cX) 0 om rfl (by decide) ⟨⟨rfl,rfl⟩,⟨rfl,rfl⟩,⟨rfl,rfl⟩,⟨rfl,rfl⟩,⟨rfl,rfl⟩,trivial⟩ rfl rfl rfl rfl) rfl ?_
 refine qo (s':=[(0,(aB false)),(5,(aG [(cR 3 (([(⟨10,5,1000⟩:eP)]).map fr)),(cI 1),(cI 30)])),(6,(aG [(cI 0),(cI 1),(cI 0),(cI 0),(cI 0),(cI 100)])),(7,(aG [(cI 0),(cI 2),(cI 0),(cI 0),(cI 0),(cI 60)])),(8,(aG [(cI 0),(cI 3),(cI 0),(cI 0),(cI 2),(cI 40)])),(9,(aG [(cI 0),(cI 5),(cI 0),(cI 0),(cI 0),(cI 0)])),(10,(aG [(cI 0),(cI 6),(cI 1),(cI 0),(cI 0),(cI 0)])),(11,(aC (iV ([(⟨0,1,0,0,0,100⟩:aV),(⟨0,2,0,0,0,60⟩:aV),(⟨0,3,0,0,2,40⟩:aV),(⟨0,5,0,0,0,0⟩:aV),(⟨0,6,1,0,0,0⟩:aV)]))))]) (h':=[]) 0 rfl ⟨⟨_,rfl,.inl ⟨rfl,rfl⟩⟩,⟨_,rfl,.inl ⟨rfl,rfl⟩⟩,⟨_,rfl,.inl ⟨rfl,rfl⟩⟩,⟨_,rfl,.inl ⟨rfl,rfl⟩⟩,⟨_,rfl,.inl ⟨rfl,rfl⟩⟩,⟨_,rfl,.inl ⟨rfl,rfl⟩⟩,⟨_,rfl,.inl ⟨rfl,rfl⟩⟩,⟨_,rfl,.inr ⟨_,_,rfl,rfl,.s rfl (by decide) (by first|omega|(simp;done)|(simp;omega))⟩⟩,trivial⟩ trivial rfl ?_
 have hr0:fi (⟨[(⟨10,5,1000⟩:eP)],1,30⟩:Setup) ([(⟨0,1,0,0,0,100⟩:aV),(⟨0,2,0,0,0,60⟩:aV),(⟨0,3,0,0,2,40⟩:aV),(⟨0,5,0,0,0,0⟩:aV),(⟨0,6,1,0,0,0⟩:aV)])=((⟨0,false,[⟨60,20,⟨10,5,1000⟩,[⟨0,60⟩]⟩],[40],[⟨0,0,60,40,0,0,100,false⟩],⟨1,[⟨1,1,0,40⟩]⟩,⟨0,[]⟩,0,1,[],[⟨⟨0,0,0,0⟩,0⟩],⟨30,[0],[]⟩,[⟨0,0,2,40⟩],[⟨0,-100⟩,⟨10,60⟩,⟨50,40⟩]⟩:Bk),[],[(⟨0,0⟩:Answer),(⟨0,0⟩:Answer),(⟨0,0⟩:Answer),(⟨0,0⟩:Answer),(⟨0,0⟩:Answer)],(⟨0,0⟩:cV)):=by kernel_rfl
 refine aP 1 [] (ch 1 (Fn.frozen (av':=(.t [(.g [(cI 0),(cB false),(sG ([⟨60,20,⟨10,5,1000⟩,[⟨0,60⟩]⟩])),(fN ([40])),(mJ ([⟨0,0,60,40,0,0,100,false⟩])),(cI 1),(dh ([⟨1,1,0,40⟩])),(cI 0),(dh ([])),(cI 0),(cI 1),(ed ([])),(ed ([⟨⟨0,0,0,0⟩,0⟩])),(cI 30),(fN ([0])),(gK ([])),(iw ([⟨0,0,2,40⟩])),(sF ([])),(dR ([⟨0,-100⟩,⟨10,60⟩,⟨50,40⟩]))]),(.c (uy ([(⟨0,0⟩:Answer),(⟨0,0⟩:Answer),(⟨0,0⟩:Answer),(⟨0,0⟩:Answer),(⟨0,0⟩:Answer)]))),(.g [(cI 0),(cI 0)])])) (qi (⟨[(⟨10,5,1000⟩:eP)],1,30⟩:Setup) ([(⟨0,1,0,0,0,100⟩:aV),(⟨0,2,0,0,0,60⟩:aV),(⟨0,3,0,0,2,40⟩:aV),(⟨0,5,0,0,0,0⟩:aV),(⟨0,6,1,0,0,0⟩:aV)]) (⟨0,false,[⟨60,20,⟨10,5,1000⟩,[⟨0,60⟩]⟩],[40],[⟨0,0,60,40,0,0,100,false⟩],⟨1,[⟨1,1,0,40⟩]⟩,⟨0,[]⟩,0,1,[],[⟨⟨0,0,0,0⟩,0⟩],⟨30,[0],[]⟩,[⟨0,0,2,40⟩],[⟨0,-100⟩,⟨10,60⟩,⟨50,40⟩]⟩:Bk) ([]) ([(⟨0,0⟩:Answer),(⟨0,0⟩:Answer),(⟨0,0⟩:Answer),(⟨0,0⟩:Answer),(⟨0,0⟩:Answer)]) (⟨0,0⟩:cV) hr0) ⟨⟨.inl ⟨_,rfl,rfl⟩,.inl ⟨_,rfl,rfl⟩,.inr ⟨_,_,_,_,_,rfl,rfl,rfl,by simp⟩,.inr ⟨_,_,_,_,_,rfl,rfl,rfl,by simp⟩,.inr ⟨_,_,_,_,_,rfl,rfl,rfl,by simp⟩,.inl ⟨_,rfl,rfl⟩,.inl ⟨_,rfl,rfl⟩,.inl ⟨_,rfl,rfl⟩,.inl ⟨_,rfl,rfl⟩,.inl ⟨_,rfl,rfl⟩,.inl ⟨_,rfl,rfl⟩,.inl ⟨_,rfl,rfl⟩,.inl ⟨_,rfl,rfl⟩,.inl ⟨_,rfl,rfl⟩,.inl ⟨_,rfl,rfl⟩,.inl ⟨_,rfl,rfl⟩,.inr ⟨_,_,_,_,_,rfl,rfl,rfl,by simp⟩,.inr ⟨_,_,_,_,_,rfl,rfl,rfl,by simp⟩,.inl ⟨_,rfl,rfl⟩,trivial⟩,.inr ⟨_,_,_,_,_,rfl,rfl,rfl,by simp⟩,⟨.inl ⟨_,rfl,rfl⟩,.inl ⟨_,rfl,rfl⟩,trivial⟩,trivial⟩) xj rfl rfl ⟨⟨_,rfl,.g ⟨.d _,.d _,.d _,trivial⟩⟩,⟨_,rfl,.c (.d _)⟩,trivial⟩ ⟨⟨trivial,trivial,trivial,trivial,trivial,trivial,trivial,trivial,trivial,trivial,trivial,trivial,trivial,trivial,trivial,trivial,trivial,trivial,trivial,trivial⟩,trivial,⟨trivial,trivial,trivial⟩,trivial⟩ trivial rfl rfl rfl rfl) rfl ?_
 refine ad aa 9 rfl ?_
 refine af ?_
 refine aH aa 2 rfl ?_
 refine aE (aN rfl rfl rfl (show _=some (Value.bool true) from rfl)) rfl ?_
 refine ad aa 2 rfl ?_
 refine dG (aq.yes rfl rfl rfl) (cJ rfl rfl rfl rfl rfl Try.underlying47) rfl rfl ?_
 refine dG (aq.yes rfl rfl rfl) (aN rfl rfl rfl (show _=some (Value.bool true) from rfl)) rfl rfl ?_
 refine ad aa 3 rfl ?_
 refine dG (aq.yes rfl rfl rfl) (db (i:=4) rfl rfl rfl Try.underlying47 Gx (by first|omega|(simp;done)|(simp;omega)) (bz (show ([(⟨0,0⟩:Answer),(⟨0,0⟩:Answer),(⟨0,0⟩:Answer),(⟨0,0⟩:Answer),(⟨0,0⟩:Answer)]:List Answer)[4]?=some (⟨0,0⟩:Answer) from rfl))) rfl rfl ?_
 refine ad aa 2 rfl ?_
 refine dG (aq.yes rfl rfl rfl) (aN rfl rfl rfl (show _=some (Value.bool true) from rfl)) rfl rfl ?_
 refine ad aa 4 rfl ?_
 refine dG (aq.yes rfl rfl rfl) (cJ rfl rfl rfl rfl rfl Try.underlying30) rfl rfl ?_
 refine dG (aq.yes rfl rfl rfl) (aN rfl rfl rfl (show _=some (Value.bool true) from rfl)) rfl rfl ?_
 refine ad aa 4 rfl ?_
 refine dG (aq.yes rfl rfl rfl) (cJ rfl rfl rfl rfl rfl Try.underlying29) rfl rfl ?_
 refine dG (aq.yes rfl rfl rfl) (aN rfl rfl rfl (show _=some (Value.bool true) from rfl)) rfl rfl ?_
 refine ad aa 4 rfl ?_
 refine dG (aq.yes rfl rfl rfl) (db (i:=0) rfl rfl rfl Try.underlying30 fO (by first|omega|(simp;done)|(simp;omega)) (bz (show ([40]:List Int)[0]?=some 40 from rfl))) rfl rfl ?_
 refine ad aa 1 rfl ?_
 refine dG (aq.yes rfl rfl rfl) (aN rfl rfl rfl (show _=some (Value.bool true) from rfl)) rfl rfl ?_
 refine ad aa 4 rfl ?_
 refine dG (aq.yes rfl rfl rfl) (db (i:=0) rfl rfl rfl Try.underlying29 jx (by first|omega|(simp;done)|(simp;omega)) (bz (show ([⟨60,20,⟨10,5,1000⟩,[⟨0,60⟩]⟩]:List bD)[0]?=some (⟨60,20,⟨10,5,1000⟩,[⟨0,60⟩]⟩:bD) from rfl))) rfl rfl ?_
 refine ad aa 2 rfl ?_
 refine dG (aq.yes rfl rfl rfl) (aN rfl rfl rfl (show _=some (Value.bool true) from rfl)) rfl rfl ?_
 refine ad aa 4 rfl ?_
 refine dG (aq.yes rfl rfl rfl) (db (i:=0) rfl rfl rfl Try.underlying29 jx (by first|omega|(simp;done)|(simp;omega)) (bz (show ([⟨60,20,⟨10,5,1000⟩,[⟨0,60⟩]⟩]:List bD)[0]?=some (⟨60,20,⟨10,5,1000⟩,[⟨0,60⟩]⟩:bD) from rfl))) rfl rfl ?_
 refine ad aa 2 rfl ?_
 refine dG (aq.yes rfl rfl rfl) (aN rfl rfl rfl (show _=some (Value.bool true) from rfl)) rfl rfl ?_
 refine ad aa 2 rfl ?_
 refine af ?_
 refine aA ?_
 refine aw aa [] 0 rfl rfl rfl rfl rfl rfl ?_ ?_
 all_goals first|rfl|(simp [aD,aZ,bg];done)|(simp [aD,aZ,bg];omega)
section
def bV (ps:List Int):List (Int×Value):=ps.map fun k=>(k,.bool true)
def lM (ps:List Int) (a:Int):List Int:=if a∈ps then ps else ps++[a]
theorem pZ {a:Int}:∀ {ps:List Int} {ms:List MapEntry} (i:Nat),ms.map (fun e=>(e.key,e.val))=(bV ps).map (fun e=>(Value.int .i64 e.1,e.2))->
  (∃ j,Instr.findNow (.int .i64) (.int .i64 a) ms i=some (some (i+j,.bool true))/\a∈ps/\∃ e,ms[j]?=some e/\e.key=.int .i64 a/\e.val=.bool true)\/
  (Instr.findNow (.int .i64) (.int .i64 a) ms i=some none/\a ∉ ps)
 |[],[],i,_=>.inr ⟨rfl,by simp⟩
 |[],_::_,_,h=>by cases h
 |_::_,[],_,h=>by cases h
 |k::ps,e::ms,i,h=>by
  obtain ⟨h1,h2⟩:=List.cons.inj h
  injection h1 with h3 h4
  unfold Instr.findNow
  rw [h3,h4]
  by_cases hk:k=a
  ·subst hk
   exact .inl ⟨0,by simp [Instr.sameNow],by simp,e,rfl,h3,h4⟩
  ·have hk':(a==k)=false:=beq_eq_false_iff_ne.2 fun e=>hk e.symm
   rcases pZ (ps:=ps) (ms:=ms) (a:=a) (i+1) h2 with ⟨j,h5,h6,e',h7,h8,h9⟩|⟨h5,h6⟩
   ·refine .inl ⟨j+1,?_,by simp [h6],e',by simpa using h7,h8,h9⟩
    simp only [Instr.sameNow,hk',h5]
    simp [show i+1+j=i+(j+1) by omega]
   ·exact .inr ⟨by simp [Instr.sameNow,hk',h5],by simp [h6];exact fun e=>hk e.symm⟩
section
variable {P:Program} {st:aL} {o:Oper}
theorem Cz {t kt et:TypeId} {m x:Operand} {k cl:Nat} {a:Int} {ps:List Int} (hu:P.underlying t=some (.map kt et)) (hkt:P.underlying kt=some (.int .i64)) (hz:(P.info? et).bind (fun i=>i.zero)=some (.bool false)) (ho:o.op=.lookup t m x false)
  (hm:ev st m (.v (.c (.m k)))) (hx:ev st x (.v (.c (.d (.v (.int .i64 a)))))) (hb:look st.h k=some (.map (bV ps) cl)):
  aM P o st (.v (.c (cB (decide (a∈ps))))) [] []:=
 aM.val fun σ T ac w C=>by
  obtain ⟨g,h1,h2⟩:=bN C hm
  have h3:=bw.inv (bN C hx)
  obtain ⟨g',ms,e1,e2,e3,e4⟩:=C.heap k _ hb
  rw [h1] at e1;injection e1 with e1;subst e1
  refine ⟨.bool (decide (a∈ps)),?_,bw.v _ rfl⟩
  cases hq:P.info? et with
  |none=>simp [hq] at hz
  |some i=>
   have hzz:i.zero=some (.bool false):=by simpa [hq] using hz
   unfold execOp
   rcases pZ (a:=a) 0 e4 with ⟨j,hf,hg,_⟩|⟨hf,hg⟩
   ·simp [ho,h2,h3,hg,Instr.lookup,run_underlying hu,MapKept.run_getObj_map e3,MapKept.run_checkKey hkt (show MapKept.IsKey (.int .i64) (.int .i64 a) from rfl),MapKept.run_findKey hkt hf,Result.andThen]
   ·simp [ho,h2,h3,hg,Instr.lookup,run_underlying hu,MapKept.run_getObj_map e3,MapKept.run_checkKey hkt (show MapKept.IsKey (.int .i64) (.int .i64 a) from rfl),MapKept.run_findKey hkt hf,Result.andThen,zeroValue,typeInfo,hq,hzz]
theorem Cx {t kt et:TypeId} {m x y:Operand} {k cl:Nat} {a:Int} {ps:List Int} (hu:P.underlying t=some (.map kt et)) (hkt:P.underlying kt=some (.int .i64)) (ho:o.op=.mapUpdate t m x y)
  (hm:ev st m (.v (.c (.m k)))) (hx:ev st x (.v (.c (.d (.v (.int .i64 a)))))) (hy:ev st y (.v (.c (.d (.v (.bool true)))))) (hb:look st.h k=some (.map (bV ps) cl)):
  aM P o st (.v (.c .any)) [(k,.map (bV (lM ps a)) (if a∈ps then cl else cl+1))] [k]:=by
 intro σ T ac w C _
 obtain ⟨g,h1,h2⟩:=bN C hm
 have h3:=bw.inv (bN C hx)
 have h4:=bw.inv (bN C hy)
 obtain ⟨g',ms,e1,e2,e3,e4⟩:=C.heap k _ hb
 rw [h1] at e1;injection e1 with e1;subst e1
 have hlt:=(Array.getElem?_eq_some_iff.1 e3).1
 rcases pZ (a:=a) 0 e4 with ⟨j,hf,hg,e0,hj,hk,hv⟩|⟨hf,hg⟩
 ·rw [Nat.zero_add] at hf
  have hj':ms[j]?=some e0:=by simpa using hj
  refine kE (w':={w with heap:=w.heap.setIfInBounds g.g (.map (ms.modify j fun e'=>{e' with key:=.int .i64 a,val:=.bool true}) cl)}) ?_ ⟨undef,σ,T,rfl,Ext.write C hb h1 rfl rfl rfl (by simp) (fun i hi=>(MapKept.heap_set e3).2 i hi) fun G=>?_,trivial⟩
  ·unfold execOp
   simp [ho,h2,h3,h4,Instr.mapUpdate,Sem.run_bind,run_underlying hu,Result.andThen_ok,MapKept.run_getObj_map e3,MapKept.run_checkKey hkt (show MapKept.IsKey (.int .i64) (.int .i64 a) from rfl),MapKept.run_findKey hkt hf,hj',hk,MapKept.run_keyThatStays (show MapKept.IsKey (.int .i64) (.int .i64 a) from rfl),MapKept.run_setObj_map _ e3]
  ·refine ⟨g,(ms.modify j fun e'=>{e' with key:=.int .i64 a,val:=.bool true}),rfl,e2,?_,?_⟩
   ·rw [if_pos hg];exact (MapKept.heap_set e3).1
   ·unfold lM
    rw [if_pos hg,<-e4]
    refine List.ext_getElem? fun q=>?_
    rw [List.getElem?_map,Array.getElem?_toList,Array.getElem?_modify,List.getElem?_map,Array.getElem?_toList]
    by_cases hq:j=q
    ·subst hq
     simp [hj',hk,hv]
    ·simp [hq]
 ·refine kE (w':={w with heap:=w.heap.setIfInBounds g.g (.map (ms.push {key:=.int .i64 a,val:=.bool true,born:=cl}) (cl+1))}) ?_ ⟨undef,σ,T,rfl,Ext.write C hb h1 rfl rfl rfl (by simp) (fun i hi=>(MapKept.heap_set e3).2 i hi) fun G=>?_,trivial⟩
  ·unfold execOp
   simp only [ho,h2,h3,h4,Instr.mapUpdate,Sem.run_bind,run_underlying hu,Result.andThen_ok,MapKept.run_getObj_map e3,MapKept.run_checkKey hkt (show MapKept.IsKey (.int .i64) (.int .i64 a) from rfl),MapKept.run_findKey hkt hf,MapKept.run_setObj_map _ e3]
   rfl
  ·refine ⟨g,(ms.push {key:=.int .i64 a,val:=.bool true,born:=cl}),rfl,e2,?_,?_⟩
   ·rw [if_neg hg];exact (MapKept.heap_set e3).1
   ·unfold lM
    rw [if_neg hg,Array.toList_push,List.map_append,e4]
    simp [bV]
theorem Ao {t:TypeId} (k:Nat) (ho:o.op=.makeMap t none):aM P o st (.v (.c (.m k))) [(k,.map (bV []) 0)] []:=vi k ho
end
end
theorem xZ {I:Bk->List (List Int)->Prop} {d:aV} (hs:∀ b y,I b y->I (cq b y d).1 (cq b y d).2.1) {b:Bk} {y:List (List Int)} (h:I b y) (told:List (Int×Answer)) (cl:Nat):I (da b y told cl d).1 (da b y told cl d).2.1:=by
 unfold da
 split
 ·exact h
 ·exact hs b y h
theorem qT {I:Bk->List (List Int)->Prop}:∀ {l:List aV},(∀ d∈l,∀ b y,I b y->I (cq b y d).1 (cq b y d).2.1)->∀ {b:Bk} {y:List (List Int)},I b y->∀ (told:List (Int×Answer)) (cl:Nat) (out:List Answer),I (iX l b y told cl out).1 (iX l b y told cl out).2.1
 |[],_,_,_,h,_,_,_=>h
 |d::l,hs,b,y,h,told,cl,out=>qT (fun x hx=>hs x (List.mem_cons_of_mem _ hx)) (xZ (hs d List.mem_cons_self) h told cl) _ _ _
theorem xV {I:Bk->List (List Int)->Prop} {s:Setup} {l:List aV} {b:Bk} {y:List (List Int)} {o:List Answer} {f:cV} (hr:fi s l=(b,y,o,f)) (hf:f.err=0) (h0:(dZ s).err=0->I (dk s) []) (hs:∀ d∈l,∀ b y,I b y->I (cq b y d).1 (cq b y d).2.1):I b y:=by
 unfold fi at hr
 split at hr
 ·rename_i h1
  simp only [Prod.mk.injEq] at hr
  obtain ⟨_,_,_,rfl⟩:=hr
  exact absurd hf h1
 split at hr
 ·simp only [Prod.mk.injEq] at hr
  obtain ⟨_,_,_,rfl⟩:=hr
  cases hf
 ·rename_i h1 h2
  simp only [Prod.mk.injEq] at hr
  obtain ⟨rfl,rfl,_,_⟩:=hr
  exact qT hs (h0 (by omega)) _ _ _
def lh (l:List bD):Prop:=∀ c∈l,0<=c.bB - c.held
theorem qO {l:List bD} {e k h m:Int} (hl:lh l) (hc:∀ c,l[k.toNat]?=some c->h - m<=c.bB - c.held):lh (cE l e k h m).1:=by
 unfold cE
 split
 ·exact hl
 ·rename_i c hk
  split
  ·rename_i h0
   intro z hz
   rcases fL hz with hz|rfl
   ·exact hl z hz
   ·have he:=(gu h0).2
    rcases rJ (show eo c h m=((eo c h m).1,(eo c h m).2) from rfl) with ⟨h1,_⟩|h1
    ·exact absurd he h1
    ·have h2:=h1.2.2.2.2.2.2.1
     have h3:=hc c hk
     rw [h2];dsimp only;omega
  ·exact hl
theorem jA {l:List bD} {e k h m:Int} (hl:lh l) (hm:h<=m):lh (cE l e k h m).1:=qO hl fun c hc=>by have:=hl c (List.mem_of_getElem? hc);omega
theorem Co {a:bl} {t:Int} (h:bL a=0):bQ (ei a t) - bQ a<=0:=by
 have:=eE h
 unfold bQ ei
 cases hs:a.shut<;>cases ht:decide (a.dq<=t)<;>simp<;>omega
theorem tf {time:Int}:∀ (l:List bl) (i:Nat) (ag:List bD) (aj:List bl) (e:Int),(∀ a∈l,bL a=0)->lh ag->lh (eL time l i ag aj e).1
 |[],_,_,_,_,_,h=>h
 |a::l,i,ag,aj,e,hw,h=>tf l (i+1) _ _ _ (fun x hx=>hw x (List.mem_cons_of_mem _ hx)) (jA h (Co (hw a List.mem_cons_self)))
theorem tg {time:Int} {n:Int}:∀ (l:List bl) (i:Nat) (ag:List bD) (aj:List bl) (e:Int),(∀ a∈l,a.bj=n)->(∀ a∈aj,a.bj=n)->∀ a∈(eL time l i ag aj e).2.1,a.bj=n
 |[],_,_,_,_,_,h=>h
 |a::l,i,ag,aj,e,hl,h=>tg l (i+1) _ _ _ (fun x hx=>hl x (List.mem_cons_of_mem _ hx)) fun x hx=>by
  rcases fL hx with hx|rfl
  ·exact h x hx
  ·exact hl a List.mem_cons_self
structure fv (b:Bk):Prop where
 ok:ct b
 up:b.down=false
 iU:∀ a∈b.aj,a.bj=0
 free:lh b.ag
 k0:∀ t∈b.s0.kept,0<=t.sum
 k1:∀ t∈b.s1.kept,0<=t.sum
 p0:∀ p∈b.w0,0<=p.bY.sum
 p1:∀ p∈b.w1,0<=p.bY.sum
theorem fv.cQ {b c:Bk} {e:Int} (h:fv b) (hc:e=0->fv c):fv (cQ b c e).1:=by
 unfold Dev.cQ;split
 ·exact hc (by assumption)
 ·exact h
theorem fv.late {b:Bk} (h:fv b):fv (fj b):=by
 have hok:=h.ok.late
 unfold fj at hok ⊢
 split
 ·rename_i h0
  rw [if_pos h0] at hok
  exact ⟨hok,h.up,tg _ _ _ _ _ h.iU h.iU,tf _ _ _ _ _ (fun a ha=>(h.ok.perm a ha).1) h.free,h.k0,h.k1,h.p0,h.p1⟩
 ·exact h
theorem fv.start {s:Setup} (h:(dZ s).err=0):fv (dk s):=
 ⟨ct.start h,rfl,fun a ha=>(by cases ha),fun c hc=>(by
  obtain ⟨p,_,rfl⟩:=List.mem_map.1 (show c∈s.cK.map nd from hc)
  exact Int.le_refl _),fun a ha=>(by cases ha),fun a ha=>(by cases ha),fun a ha=>(by cases ha),fun a ha=>(by cases ha)⟩
theorem AW {c:bD} {n t:Int} (h:(dE c n t).2=0):0<=(dE c n t).1.bB - (dE c n t).1.held:=by
 rcases oU (show dE c n t=((dE c n t).1,(dE c n t).2) from rfl) with ⟨h5,_⟩|⟨h5,h6,h7,h8,h9,h10,h11,l,h12,h13⟩
 ·exact absurd h h5
 ·rw [h13];dsimp only;omega
theorem fv.asks {b:Bk} (h:fv b) (d:aV):fv (du b d).1:=by
 have hok:=h.ok.asks d
 unfold du at hok ⊢
 rw [h.up] at hok ⊢
 simp only [Bool.false_eq_true,if_false] at hok ⊢
 split
 ·exact h
 rename_i c1
 rw [if_neg c1] at hok
 split
 ·exact h
 rename_i c2
 rw [if_neg c2] at hok
 split
 ·exact h
 rename_i c3
 rw [if_neg c3] at hok
 obtain ⟨_,w2,_⟩:=km (show (dp d.n d.az d.sum b.time).2=0 by omega)
 split
 ·exact h
 rename_i c hc
 rw [hc] at hok
 dsimp only at hok
 split
 ·exact h
 rename_i c4
 rw [if_neg c4] at hok
 refine ⟨hok,rfl,fun a ha=>?_,fun z hz=>?_,h.k0,h.k1,h.p0,h.p1⟩
 ·rcases List.mem_append.1 ha with ha|ha
  ·exact h.iU a ha
  ·obtain rfl:=List.mem_singleton.1 ha;rw [w2]
 ·rcases fL hz with hz|rfl
  ·exact h.free z hz
  ·exact AW (by omega)
theorem Aa {a b:bl} {k n:Int} (hw:bL a=0) (h1:1<=n) (hm:jt a k n b):(k=1->bQ b - bQ a=n)/\(k=2\/k=3->bQ b - bQ a<=0 - n)/\(k=4->bQ b - bQ a<=0)/\(k=6\/b.bj<=a.bj):=by
 have hr:=eE hw
 cases hm with
 |more h hs hn=>subst h;unfold bQ;rw [hs];simp;omega
 |take h hs hn=>
  unfold bQ;rw [hs];dsimp only
  refine ⟨fun h=>by omega,fun _=>?_,fun h=>by omega,.inr (Int.le_refl _)⟩
  split<;>simp at *<;>omega
 |less h hs hn=>
  subst h;unfold bQ;rw [hs];dsimp only
  refine ⟨fun h=>by omega,fun h=>by omega,fun _=>?_,.inr (Int.le_refl _)⟩
  split<;>simp at *<;>omega
 |pH h hn=>subst h;exact ⟨fun h=>by omega,fun h=>by omega,fun h=>by omega,.inr (Int.le_refl _)⟩
 |nP h hn=>subst h;exact ⟨fun h=>by omega,fun h=>by omega,fun h=>by omega,.inl rfl⟩
 |nO h hn=>subst h;exact ⟨fun h=>by omega,fun h=>by omega,fun h=>by omega,.inr (by dsimp only;omega)⟩
 |nN h hn=>subst h;exact ⟨fun h=>by omega,fun h=>by omega,fun h=>by omega,.inr (by dsimp only;omega)⟩
theorem zZ {a b:bl} {k n:Int} (hm:jt a k n b) (h1:1<=n) (hk:k=7\/k=8):1<=a.bj:=by
 cases hm<;>omega
theorem pA {s:bO} {e:Int} {t:aS} (h:∀ t∈s.kept,0<=t.sum) (ht:0<=t.sum):∀ u∈(fb s e t).1.kept,0<=u.sum:=by
 unfold fb
 split
 ·rename_i h0
  have he:=(gu h0).2
  unfold gX at he
  split at he
  ·rename_i h1;exact absurd he h1
  split at he
  ·rename_i h1;exact absurd he h1
  ·rename_i h1 h2
   have hp:(gX s t).1=gO s t:=by unfold gX;rw [if_neg h1,if_neg h2]
   dsimp only
   rw [hp]
   intro u hu
   rcases List.mem_append.1 hu with hu|hu
   ·exact h u hu
   ·obtain rfl:=List.mem_singleton.1 hu;exact ht
 ·exact h
theorem fv.jG {b:Bk} (h:fv b) (d:aV) (hd:¬d.move=6):fv (cT b d).1:=by
 have hok:=h.ok.jG d
 unfold cT at hok ⊢
 rw [h.up] at hok ⊢
 simp only [Bool.false_eq_true,if_false] at hok ⊢
 split
 ·exact h
 rename_i c1
 rw [if_neg c1] at hok
 split
 ·exact h
 rename_i cj ho
 rw [ho] at hok
 dsimp only at hok
 split
 ·exact h
 rename_i c2
 rw [if_neg c2] at hok
 split
 ·exact h
 rename_i c3
 rw [if_neg c3] at hok
 have hmv:bX cj d.move d.sum=((bX cj d.move d.sum).1,0):=Prod.ext rfl (by dsimp only;omega)
 generalize (bX cj d.move d.sum).1=a at *
 rcases my hmv with ⟨h4,_⟩|⟨_,hw,hn1,hn2,hm⟩
 ·exact absurd rfl h4
 have hold:=h.iU cj (List.mem_of_getElem? ho)
 have hr:=eE hw
 obtain ⟨m1,m2,m3,m4⟩:=Aa hw hn1 hm
 have hcard:a.aO=cj.aO:=(qU hmv).2.1
 have hra:=eE (qU hmv).1
 unfold kx at hok ⊢
 have hcards:lh (dn b a cj d).1:=by
  unfold dn
  split
  ·rename_i hk
   rcases hk with hk|hk
   ·refine qO h.free fun c hc=>?_
    have hf:¬d.sum > lB b.ag a.aO:=fun hf=>c3 ⟨hk,hf⟩
    unfold lB at hf;rw [hc] at hf;dsimp only at hf
    have:=m1 hk;omega
   ·exact jA h.free (m3 hk)
  split
  ·rename_i hk;exact jA h.free (m2 hk)
  split
  ·exact h.free
  split
  ·exact h.free
  split
  ·rename_i hk;have:=zZ hm hn1 (.inr hk);omega
  ·exact h.free
 unfold Dev.cQ at hok ⊢
 split
 ·rename_i h0
  rw [if_pos h0] at hok
  have hks:(∀ t∈(dn b a cj d).2.2.2.1.kept,0<=t.sum)/\∀ t∈(dn b a cj d).2.2.2.2.1.kept,0<=t.sum:=by
   unfold dn
   split
   ·exact ⟨h.k0,h.k1⟩
   split
   ·exact ⟨pA h.k0 (by dsimp only;omega),h.k1⟩
   split
   ·exact ⟨h.k0,pA h.k1 (by dsimp only;omega)⟩
   split
   ·exact ⟨pA h.k0 (by dsimp only;omega),h.k1⟩
   split
   ·exact ⟨h.k0,h.k1⟩
   ·exact ⟨h.k0,h.k1⟩
  refine ⟨hok,h.up,fun x hx=>?_,hcards,hks.1,hks.2,h.p0,h.p1⟩
  rcases fL hx with hx|rfl
  ·exact h.iU x hx
  ·rcases m4 with h6|h6
   ·exact absurd h6 hd
   ·omega
 ·exact h
theorem sM {aj:List bl} {due:List Int} {ag:List bD} {book:List Entry} {e:Int} {t:aS} (h:lh ag) (ht:0<=t.sum):lh (dv aj due ag book e t).2.1:=by
 unfold dv
 split
 ·exact h
 split
 ·exact h
 split
 ·exact jA h ht
 split
 ·exact h
 ·exact h
theorem fv.load {b:Bk} (h:fv b) (d:aV):fv (ey b d).1:=by
 have hok:=h.ok.load d
 unfold ey at hok ⊢
 split
 ·exact h
 rename_i c1
 rw [if_neg c1] at hok
 split
 ·exact h
 rename_i c2
 rw [if_neg c2] at hok
 unfold Dev.cQ at hok ⊢
 split
 ·rename_i h0;rw [if_pos h0] at hok;exact ⟨hok,h.up,h.iU,jA h.free (by omega),h.k0,h.k1,h.p0,h.p1⟩
 ·exact h
theorem fv.qV {b:Bk} (h:fv b) (d:aV):fv (eH b d).1:=by
 have hok:=h.ok.qV d
 unfold eH at hok ⊢
 split
 ·exact h
 rename_i c1
 rw [if_neg c1] at hok
 split
 ·exact h
 rename_i c2
 rw [if_neg c2] at hok
 unfold Dev.cQ at hok ⊢
 split
 ·rename_i h0;rw [if_pos h0] at hok;exact ⟨hok,h.up,h.iU,h.free,h.k0,h.k1,h.p0,h.p1⟩
 ·exact h
theorem fv.cM {b:Bk} (h:fv b) (d:aV):fv (ea b d).1:=by
 unfold ea
 split
 ·exact h
 ·rw [h.up]
  simp only [Bool.false_eq_true,if_false]
  have h1:fv {b with time:=b.time+d.sum}:=⟨h.ok.tick (by have:=h.ok.time;omega) (by have:=h.ok.time;omega),h.up,h.iU,h.free,h.k0,h.k1,h.p0,h.p1⟩
  have h2:=h1.late
  rwa [show ({b with time:=b.time+d.sum}:Bk)={b with time:=b.time+d.sum,down:=false} by rw [<-h.up]] at h2
theorem uI {w:List bS} {ks:List aS} {n:Int} (h:∀ p∈w,0<=p.bY.sum) (hk:∀ t∈ks,0<=t.sum):∀ p∈(gZ w ks n).1,0<=p.bY.sum:=by
 unfold gZ
 split
 ·exact h
 ·intro p hp
  rcases uO hp with hp|⟨t,ht,rfl⟩|rfl
  ·exact h p hp
  ·exact hk t ht
  ·exact Int.le_refl _
theorem fv.send {b:Bk} (h:fv b) (d:aV):fv {b with w0:=(dQ b.s0 b.s1 b.n0 b.n1 b.w0 b.w1 d).1,w1:=(dQ b.s0 b.s1 b.n0 b.n1 b.w0 b.w1 d).2.1}:=by
 refine ⟨h.ok.send d,h.up,h.iU,h.free,h.k0,h.k1,?_,?_⟩
 ·dsimp only;unfold dQ
  split
  ·exact h.p0
  split
  ·exact uI h.p0 h.k1
  ·exact h.p0
 ·dsimp only;unfold dQ
  split
  ·exact uI h.p1 h.k0
  split
  ·exact h.p1
  ·exact h.p1
theorem vw {s:bO} {n:Int} (h:∀ t∈s.kept,0<=t.sum) (hb:(eg s n).2=0):∀ t∈(eg s n).1.kept,0<=t.sum:=by
 rcases qG (show eg s n=((eg s n).1,(eg s n).2) from rfl) with ⟨h1,_⟩|⟨_,_,_,_,h2⟩
 ·exact absurd hb h1
 ·rw [h2];exact fun t ht=>h t (uZ ht)
theorem fv.jH {b:Bk} (h:fv b) (d:aV):fv (bE b d).1:=by
 have hok:=h.ok.jH d
 unfold bE at hok ⊢
 split
 ·rename_i c0
  rw [if_pos c0] at hok
  unfold ew at hok ⊢
  split
  ·exact h
  rename_i p hp
  rw [hp] at hok
  dsimp only at hok
  have hps:=h.p0 p (List.mem_of_getElem? hp)
  have hd:∀ p∈b.w0.drop 1,0<=p.bY.sum:=fun p hp=>h.p0 p (List.mem_of_mem_drop hp)
  split
  ·rename_i c1;rw [if_pos c1] at hok;exact ⟨hok,h.up,h.iU,h.free,h.k0,h.k1,hd,h.p1⟩
  rename_i c1
  rw [if_neg c1] at hok
  split
  ·rename_i c2
   rw [if_pos c2] at hok
   split
   ·rename_i c3;rw [if_pos c3] at hok;exact ⟨hok,h.up,h.iU,h.free,vw h.k0 c3,h.k1,hd,h.p1⟩
   ·exact h
  rename_i c2
  rw [if_neg c2] at hok
  split
  ·rename_i c3
   rw [if_pos c3] at hok
   unfold Dev.cQ at hok ⊢
   split
   ·rename_i c4;rw [if_pos c4] at hok;exact ⟨hok,h.up,h.iU,sM h.free hps,h.k0,h.k1,hd,h.p1⟩
   ·exact h
  ·rename_i c3;rw [if_neg c3] at hok;exact ⟨hok,h.up,h.iU,h.free,h.k0,h.k1,hd,h.p1⟩
 rename_i c0
 rw [if_neg c0] at hok
 split
 ·rename_i c01
  rw [if_pos c01] at hok
  unfold eu at hok ⊢
  split
  ·exact h
  rename_i p hp
  rw [hp] at hok
  dsimp only at hok
  have hps:=h.p1 p (List.mem_of_getElem? hp)
  have hd:∀ p∈b.w1.drop 1,0<=p.bY.sum:=fun p hp=>h.p1 p (List.mem_of_mem_drop hp)
  split
  ·rename_i c1;rw [if_pos c1] at hok;exact ⟨hok,h.up,h.iU,h.free,h.k0,h.k1,h.p0,hd⟩
  rename_i c1
  rw [if_neg c1] at hok
  split
  ·rename_i c2
   rw [if_pos c2] at hok
   split
   ·rename_i c3;rw [if_pos c3] at hok;exact ⟨hok,h.up,h.iU,h.free,h.k0,vw h.k1 c3,h.p0,hd⟩
   ·exact h
  rename_i c2
  rw [if_neg c2] at hok
  split
  ·rename_i c3
   rw [if_pos c3] at hok
   unfold Dev.cQ at hok ⊢
   split
   ·rename_i c4;rw [if_pos c4] at hok;exact ⟨hok,h.up,h.iU,sM h.free hps,h.k0,h.k1,h.p0,hd⟩
   ·exact h
  ·rename_i c3;rw [if_neg c3] at hok;exact ⟨hok,h.up,h.iU,h.free,h.k0,h.k1,h.p0,hd⟩
 ·exact h
theorem fv.ky {b:Bk} (h:fv b) (y:List (List Int)) (d:aV) (h8:¬d.kind=8) (h6:¬(d.kind=3/\d.move=6)):fv (cq b y d).1:=by
 unfold cq
 split
 ·exact h.load d
 split
 ·exact h.asks d
 split
 ·rename_i h3;exact h.jG d fun e=>h6 ⟨h3,e⟩
 split
 ·exact h.cM d
 split
 ·exact h.send d
 split
 ·exact h.jH d
 split
 ·have:(gn b).1=b:=by unfold gn;rw [if_pos h.up]
  rw [this];exact h
 split
 ·exact ⟨h.ok.rK (mS (y:=y) h.ok.aQ).1,h.up,h.iU,h.free,h.k0,h.k1,h.p0,h.p1⟩
 split
 ·exact h.qV d
 ·exact h
end Go.Proofs.Ytegepioggeggaaa.Dev
