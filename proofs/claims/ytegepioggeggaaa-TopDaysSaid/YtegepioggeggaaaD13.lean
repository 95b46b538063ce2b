/- A part of the proof: Bank6, Bank8, Bank9. No condition. -/
import Derived.Test.YtegepioggeggaaaD11
set_option linter.unusedVariables false
set_option linter.unusedSimpArgs false
set_option maxHeartbeats 8000000
set_option maxRecDepth 100000
namespace Go.Proofs.Ytegepioggeggaaa.Dev
open Go.RowKit

theorem BZ (x:Nat->Value) (hx:∀ i,(x i).oneCell'=true) (b:Bk) (ok:cv b) (b2:Bk) (hr:iw b=b2):cJ Try.prog 84 [(.c (.p 0 0 0 0))] [(0,(.box 98 (aY b 1 2 3 4 (.d (.v (x 17))) (.d (.v (x 19)))))),(1,(dW b.aw)),(2,(dP b.due)),(3,(ed b.ax)),(4,(cS b.aR))] [0] (.t []) [(0,(.box 98 (aY b2 1 2 3 4 (.d (.v (x 17))) (.d (.v (x 19)))))),(1,(dW b2.aw)),(2,(dP b2.due)),(3,(ed b2.ax)),(4,(cS b2.aR))]:=by
 refine cJ.mk 47 [(0,(aC (.p 0 0 0 0)))] 5 Try.func84 rfl rfl rfl rfl rfl rfl rfl rfl rfl ?_
 intro W0 F0 T0 pg
 obtain ⟨okt,okc,okd,oka,oky,okw0,okw1,okp,okv,okk0,okk1,okg,okl0,okl1,okp0,okp1,okn0,okn1,okq⟩:=id ok
 refine aH aa 1 rfl ?_
 refine aN 14 [0,5,6,7,8,9,10,11,12,13] (cL id (bd [0,5,6,7,8,9,10,11,12,13]) (kW (x 17) (x 19) b (by first|omega|(simp;done)|(simp;omega)) (by first|omega|(simp;done)|(simp;omega)) (by first|omega|(simp;done)|(simp;omega)) (by first|omega|(simp;done)|(simp;omega))) rL rfl rfl ⟨⟨_,rfl,.inl ⟨rfl,rfl⟩⟩,trivial⟩ ⟨rfl,rfl,rfl,rfl,rfl,trivial⟩ rfl rfl rfl rfl rfl rfl trivial ⟨⟨trivial,trivial,trivial,trivial,trivial,trivial,trivial,trivial,trivial,trivial,trivial,trivial,trivial,trivial,trivial,trivial,trivial,trivial,trivial,trivial,trivial⟩,⟨trivial,trivial,trivial,trivial,trivial,trivial,trivial,trivial,trivial,trivial,trivial,trivial,trivial,trivial,trivial,trivial,trivial,trivial,trivial,trivial,trivial⟩,(fun _ _ _ _=>trivial),(fun _ _ _ _=>trivial),(fun _ _ _ _=>trivial),(fun _ _ _ _=>trivial),(fun _ _ _ _=>trivial),(fun _ _ _ _=>trivial),(fun _ _ _ _=>trivial),(fun _ _ _ _=>trivial),trivial⟩ rfl rfl rfl rfl) rfl ?_
 refine ad aa 1 rfl ?_
 refine af ?_
 refine ag ?_
 refine aH aa 5 rfl ?_
 refine aA (dz rfl rfl rfl rfl rfl Try.underlying31) rfl ?_
 refine ad aa 1 rfl ?_
 refine af ?_
 refine aX ?_
 refine cw (β:=Nat×List bE×List bF×Int) (fun (p:Nat×List bE×List bF×Int)=>match p with|(q,cs,xs,e)=>⟨[(0,(aC (.p 0 0 0 0))),(2,(aC (.p 5 0 0 0))),(12,(aC (.s 12 0 8 xs.length))),(13,(aI (↑b.ax.length:Int))),(14,(aI (↑q:Int)))],[(0,(.box 98 (aY b 6 7 8 9 (.d (.v (x 17))) (.d (.v (x 19)))))),(5,(.box 147 (((aY b 10 11 12 13 (.d (.v (x 17))) (cI e)).set 2 (.s 10 0 6 cs.length)).set 4 (.s 12 0 8 xs.length)))),(6,(dW b.aw)),(7,(dP b.due)),(8,(ed b.ax)),(9,(cS b.aR)),(10,(dW cs)),(11,(dP b.due)),(12,(ed xs)),(13,(cS b.aR))],14⟩) (fun (p:Nat×List bE×List bF×Int)=>match p with|(q,cs,xs,e)=>q<=b.ax.length/\gb b.time b.ax 0 b.aw b.ax 0=gb b.time (b.ax.drop q) q cs xs e/\cs.length=b.aw.length/\xs.length=b.ax.length/\(∀ i,q<=i->xs[i]?=b.ax[i]?)) (fun (p:Nat×List bE×List bF×Int)=>match p with|(q,cs,xs,e)=>b.ax.length - q) (0,b.aw,b.ax,0) ?_ ?_ ?_
 ·exact ⟨by omega,rfl,rfl,rfl,fun _ _=>rfl⟩
 ·exact aF.bW id (by refine ⟨?_,?_,?_,?_,?_,trivial⟩<;>first|rfl|(simp only [bm];done)|(congr 3;omega)|(congr 4;omega)|(simp only [bn];rfl)) (by refine ⟨?_,?_,?_,?_,?_,?_,?_,?_,?_,?_,trivial⟩<;>first|rfl|(simp only [bm];done)|(congr 3;omega)|(congr 4;omega)|(simp only [bn];rfl)) rfl
 rintro ⟨q,cs,xs,e⟩ ⟨hi0_0,hi0_1,hi0_2,hi0_3,hi0_4⟩
 refine ae aa 1 rfl ?_
 refine ag ?_
 refine ah rfl (fun hc1=>?_) (fun hc1=>?_)
 ·
  have hc1':=of_decide_eq_true hc1
  refine aQ ?_
  refine ag ?_
  refine aX ?_
  refine aH aa 1 rfl ?_
  refine aA (bA (i:=q) rfl rfl rfl Try.underlying31 nc (by first|omega|(simp;done)|(simp;omega)) (by first|omega|(simp;done)|(simp;omega))) rfl ?_
  obtain ⟨x1,hx1⟩:=ck (xs:=xs) (i:=q) (by first|omega|(simp;done)|(simp;omega))
  have hx1w:=okp x1 (List.mem_of_getElem? (show b.ax[q]?=some x1 by rw [<-hi0_4 q (by omega)];exact hx1))
  have hx1A:=hx1w.2
  replace hx1w:=hx1w.1
  refine aA (dm rfl rfl rfl Try.underlying67 rfl nc (bw hx1) rfl) rfl ?_
  refine ad aa 3 rfl ?_
  refine af ?_
  refine ag ?_
  obtain ⟨b0,hr0⟩:∃ (b0:bF),ew x1 b.time=b0:=⟨_,rfl⟩
  have hlw:bG b0=0:=by rw [<-hr0];exact yR hx1w
  refine ba [0,2,12,13,14,4,3] [14,0,5,6,7,8,9,10,11,12,13] mixed rfl rfl ?_
  refine aE (kn:=[]) aa 6 rfl trivial ?_
  refine aU (n':=15) [19,24] [] rfl rfl (.inl ⟨(ak.plain rfl),aM.cast (bQ 15 (yo x1 b.time b0 hr0) HY rfl rfl ⟨⟨_,rfl,.g ⟨.d _,.d _,.d _,.d _,.d _,.d _,.d _,.d _,trivial⟩⟩,⟨_,rfl,.c (.d _)⟩,trivial⟩ ⟨trivial,trivial,trivial,trivial,trivial,trivial,trivial,trivial,trivial⟩ trivial rfl rfl rfl rfl) rfl⟩) rfl ?_
  refine aE (n':=16) (kn:=[]) aa 1 rfl trivial ?_
  refine bC [15,14,0,5,6,7,8,9,10,11,12,13] rfl rfl rfl rfl (by kernel_rfl) ?_
  refine ad aa 1 rfl ?_
  refine af ?_
  refine ag ?_
  obtain ⟨e1,hr1⟩:∃ (e1:Int),bB b0=e1:=⟨_,rfl⟩
  have hhb1:=pG (show bG b0=0 by assumption)
  rw [hr1] at hhb1
  obtain ⟨e2,hr2⟩:∃ (e2:Int),bB x1=e2:=⟨_,rfl⟩
  have hhb2:=pG (show bG x1=0 by assumption)
  rw [hr2] at hhb2
  obtain ⟨l23,e23,hr3⟩:∃ (l23:List bE) (e23:Int),cG cs e x1.aO (e1 - e2) 0=(l23,e23):=⟨_,_,rfl⟩
  have hsl3:l23.length=cs.length:=by have h:=fy cs e x1.aO (e1 - e2) 0;rw [hr3] at h;exact h
  refine dg [0,2,12,13,14,4,3,5] [15,14,0,5,6,7,8,9,10,11,12,13] mixed rfl rfl ?_
  refine ca (kn:=[]) aa 4 rfl trivial ?_
  refine cg (n':=16) [29] [] rfl rfl (.inl ⟨(ak.plain rfl),aM.cast (bQ 16 (lg b0 (by first|assumption|omega|rfl|decide) e1 hr1) Aa rfl rfl ⟨⟨_,rfl,.g ⟨.d _,.d _,.d _,.d _,.d _,.d _,.d _,.d _,trivial⟩⟩,trivial⟩ trivial trivial rfl rfl rfl rfl) rfl⟩) rfl ?_
  refine ca (kn:=[]) aa 1 rfl trivial ?_
  refine cg (n':=16) [31] [] rfl rfl (.inl ⟨(ak.plain rfl),aM.cast (bQ 16 (lg x1 (by first|assumption|omega|rfl|decide) e2 hr2) Aa rfl rfl ⟨⟨_,rfl,.g ⟨.d _,.d _,.d _,.d _,.d _,.d _,.d _,.d _,trivial⟩⟩,trivial⟩ trivial trivial rfl rfl rfl rfl) rfl⟩) rfl ?_
  refine cg (n':=16) [30,32] [] rfl rfl (.inl ⟨(ak.plain rfl),aM.cast (aL rfl rfl rfl (aJ (by first|omega|(simp;done)|(simp;omega)))) rfl⟩) rfl ?_
  refine cg (n':=17) [26,28,33] [10,5] rfl rfl (.inl ⟨(ak.plain rfl),aM.cast (cr (bd [5,10]) (bd [5,16]) (ms:=((dG.set 2 (some (.s 1 0 6 cs.length))).set 19 (some (cI e)))) (ms':=((dG.set 2 (some (.s 1 0 6 l23.length))).set 19 (some (cI e23)))) (fun x hx=>jy x hx cs e x1.aO (e1 - e2) 0 (by first|omega|(simp;done)|(simp;omega)) l23 e23 hr3) ow rfl rfl ⟨⟨_,rfl,.inl ⟨rfl,rfl⟩⟩,⟨_,rfl,.inr (.c (.d _))⟩,⟨_,rfl,.inr (.c (.d _))⟩,⟨_,rfl,.inr (.c (.d _))⟩,trivial⟩ rfl rfl rfl rfl rfl rfl rfl ⟨rfl,trivial⟩ rfl rfl rfl rfl rfl rfl rfl rfl rfl rfl rfl rfl rfl) rfl⟩) rfl ?_
  refine dX [0,2,12,13,14,3,5] [16,5,15,0,6,7,8,9,11,12,13] rfl rfl (by kernel_rfl) ?_
  refine then_ok ?_
  refine ba [0,2,12,13,14,3,5] [16,5,15,0,6,7,8,9,11,12,13] mixed rfl rfl ?_
  refine aE (kn:=[]) aa 7 rfl trivial ?_
  refine aU (n':=17) [39,40] [12] rfl rfl (.inl ⟨(ak.plain rfl),aM.cast (bA (i:=q) rfl rfl rfl Try.underlying31 nc (by first|omega|(simp;done)|(simp;omega)) (by first|omega|(simp;done)|(simp;omega))) rfl⟩) rfl ?_
  refine bC [16,5,15,0,6,7,8,9,11,12,13] rfl rfl rfl rfl (by kernel_rfl) ?_
  refine gI [16,5,15,0,6,7,8,9,11,12,13] (dU (ds:=[(dI b0.aO),(dI b0.aD),(dI b0.sum),(dI b0.captured),(dI b0.bD),(dI b0.bq),(dI b0.cY),(dB b0.shut)]) rfl rfl rfl rfl rfl nc rfl (Nat.le_of_ble_eq_true rfl) (bw hx1) rfl (eZ (x':=b0) rfl)) rfl ?_
  refine bY ?_
  refine bh ?_
  refine then_ok ?_
  refine fP (k:=5) (q:=4) (c':=(.s 12 0 8 (((xs).set q b0).length))) rfl rfl (by first|rfl|(simp;done)|(congr 1;omega)) rfl ?_
  refine au ?_
  refine aA (aL rfl rfl rfl (aJ (by first|omega|(simp;done)|(simp;omega)))) rfl ?_
  refine ad aa 1 rfl ?_
  refine af ?_
  refine ⟨(q+1,l23,(xs).set q b0,e23),⟨by omega,by rw [hi0_1,zK (a:=x1) (by rw [<-hi0_4 q (by omega)];exact hx1),hr0,hr1,hr2,hr3],by omega,by rw [List.length_set];omega,fun i hi=>by rw [List.getElem?_set_ne (by omega)];exact hi0_4 i (by omega)⟩,by first|omega|(simp;done)|(simp;omega),aF.bW (fun k=>if k=10 then 16 else k) (by refine ⟨?_,?_,?_,?_,?_,trivial⟩<;>first|rfl|(simp only [bm];done)|(congr 3;omega)|(congr 4;omega)|(simp only [bn];rfl)) (by refine ⟨?_,?_,?_,?_,?_,?_,?_,?_,?_,?_,trivial⟩<;>first|rfl|(simp only [bm];done)|(congr 3;omega)|(congr 4;omega)|(simp only [bn];rfl)) rfl⟩
 have hc1':=of_decide_eq_false hc1
 refine cj ?_
 refine aP ?_
 refine aP ?_
 refine bK ?_
 refine then_ok ?_
 rcases (show e=0\/¬e=0 from by omega) with hs2|hs2
 ·
  refine au ?_
  refine ad aa 2 rfl ?_
  refine aN 18 [0,14,15,16,17] (cL (bd [0,5,6,7,8,9,10,11,12,13]) (bd [0,14,15,16,17]) (fz (x 17) (x 19) b (⟨b.time,b.down,cs,b.due,xs,b.s0,b.s1,b.n0,b.n1,b.w0,b.w1,b.bP,b.aR,b.book⟩:Bk) e (by first|assumption|omega)) fW rfl rfl ⟨⟨_,rfl,.inl ⟨rfl,rfl⟩⟩,⟨_,rfl,.inl ⟨rfl,rfl⟩⟩,trivial⟩ ⟨rfl,rfl,rfl,rfl,rfl,rfl,rfl,rfl,rfl,rfl,trivial⟩ rfl rfl rfl rfl rfl rfl trivial ⟨⟨trivial,trivial,trivial,trivial,trivial,trivial,trivial,trivial,trivial,trivial,trivial,trivial,trivial,trivial,trivial,trivial,trivial,trivial,trivial,trivial,trivial⟩,(fun _ _ _ _=>trivial),(fun _ _ _ _=>trivial),(fun _ _ _ _=>trivial),(fun _ _ _ _=>trivial),trivial⟩ rfl rfl rfl rfl) rfl ?_
  refine bY ?_
  have hX:iw b=(⟨b.time,b.down,cs,b.due,xs,b.s0,b.s1,b.n0,b.n1,b.w0,b.w1,b.bP,b.aR,b.book⟩:Bk):=by
    have hL:gb b.time b.ax 0 b.aw b.ax 0=(cs,xs,e):=by rw [hi0_1,List.drop_of_length_le (by omega)];rfl
    unfold iw;rw [hL];dsimp only;first|rw [if_pos (by assumption)]|rw [if_neg (by assumption)]
  rw [hX] at hr;clear hX
  subst hr
  refine cP aa [0,14,15,16,17] 5 rfl rfl rfl rfl rfl rfl ?_ ?_
  all_goals first|rfl|(simp [ay,aY,bf];done)|(simp [ay,aY,bf];omega)
 refine au ?_
 refine ad aa 2 rfl ?_
 refine aN 18 [0,14,15,16,17] (cL (bd [0,5,6,7,8,9,10,11,12,13]) (bd [0,14,15,16,17]) (gu (x 17) (x 19) b (⟨b.time,b.down,cs,b.due,xs,b.s0,b.s1,b.n0,b.n1,b.w0,b.w1,b.bP,b.aR,b.book⟩:Bk) e (by first|assumption|omega)) fW rfl rfl ⟨⟨_,rfl,.inl ⟨rfl,rfl⟩⟩,⟨_,rfl,.inl ⟨rfl,rfl⟩⟩,trivial⟩ ⟨rfl,rfl,rfl,rfl,rfl,rfl,rfl,rfl,rfl,rfl,trivial⟩ rfl rfl rfl rfl rfl rfl trivial ⟨⟨trivial,trivial,trivial,trivial,trivial,trivial,trivial,trivial,trivial,trivial,trivial,trivial,trivial,trivial,trivial,trivial,trivial,trivial,trivial,trivial,trivial⟩,(fun _ _ _ _=>trivial),(fun _ _ _ _=>trivial),(fun _ _ _ _=>trivial),(fun _ _ _ _=>trivial),trivial⟩ rfl rfl rfl rfl) rfl ?_
 refine bY ?_
 have hX:iw b=b:=by
   have hL:gb b.time b.ax 0 b.aw b.ax 0=(cs,xs,e):=by rw [hi0_1,List.drop_of_length_le (by omega)];rfl
   unfold iw;rw [hL];dsimp only;first|rw [if_pos (by assumption)]|rw [if_neg (by assumption)]
 rw [hX] at hr;clear hX
 subst hr
 refine cP aa [0,14,15,16,17] 5 rfl rfl rfl rfl rfl rfl ?_ ?_
 all_goals first|rfl|(simp [ay,aY,bf];done)|(simp [ay,aY,bf];omega)
theorem Fv (x:Nat->Value) (hx:∀ i,(x i).oneCell'=true) (b:Bk) (d:aW) (ok:cv b) (hdn:b.down=false) (b2:Bk) (a2:Answer) (hr:fF b d=(b2,a2)):cJ Try.prog 65 [(.c (.p 0 0 0 0)),(.c (.q (cQ d) 0))] [(0,(.box 98 (aY b 1 2 3 4 (.d (.v (x 17))) (.d (.v (x 19)))))),(1,(dW b.aw)),(2,(dP b.due)),(3,(ed b.ax)),(4,(cS b.aR))] [0] (.v (.g [cI a2.err,cI a2.bc])) [(0,(.box 98 (aY b2 1 2 3 4 (.d (.v (x 17))) (.d (.v (x 19)))))),(1,(dW b2.aw)),(2,(dP b2.due)),(3,(ed b2.ax)),(4,(cS b2.aR))]:=by
 refine cJ.mk 46 [(0,(aC (.p 0 0 0 0))),(1,(aC (.q (cQ d) 0)))] 5 Try.func65 rfl rfl rfl rfl rfl rfl rfl rfl rfl ?_
 intro W0 F0 T0 pg
 obtain ⟨okt,okc,okd,oka,oky,okw0,okw1,okp,okv,okk0,okk1,okg,okl0,okl1,okp0,okp1,okn0,okn1,okq⟩:=id ok
 refine ae aa 1 rfl ?_
 refine ag ?_
 refine ag ?_
 rcases Bool.eq_false_or_eq_true (decide (d.sum < 0)) with hb1|hb1
 ·
  have hb1':=of_decide_eq_true hb1
  refine ba [0,1,4] [5,0,1,2,3,4] mixed rfl rfl ?_
  refine aE (kn:=[(9,true)]) aa 18 rfl ⟨hb1,trivial⟩ ?_
  refine bC [5,0,1,2,3,4] rfl rfl rfl rfl (by kernel_rfl) ?_
  refine af ?_
  refine ah rfl (fun _=>?_) (fun hno=>by cases hno)
  refine ae aa 2 rfl ?_
  refine az ?_
  refine aq ?_
  have hX:fF b d=(b,(⟨3,0⟩:Answer)):=by
    unfold fF;(repeat' split)<;>first|rfl|omega|(exfalso;omega)|(simp_all;done)|(simp_all;omega)
  rw [hX] at hr;clear hX
  simp only [Prod.mk.injEq] at hr;obtain ⟨rfl,rfl⟩:=hr
  refine an aa [0,1,2,3,4,5] 5 rfl rfl rfl rfl rfl rfl ?_ ?_
  all_goals first|rfl|(simp [ay,aY,bf];done)|(simp [ay,aY,bf];omega)
 have hb1':=of_decide_eq_false hb1
 refine ba [0,1,4] [5,0,1,2,3,4] mixed rfl rfl ?_
 refine aE (kn:=[(9,false)]) aa 15 rfl ⟨hb1,trivial⟩ ?_
 refine aU (n':=6) [19,10] [] rfl rfl (.inl ⟨(ak.yes rfl rfl rfl),aM.cast (aL rfl rfl rfl (aJ (by first|omega|(simp;done)|(simp;omega)))) rfl⟩) rfl ?_
 refine aE (kn:=[]) aa 2 rfl trivial ?_
 refine bC [5,0,1,2,3,4] rfl rfl rfl rfl (by kernel_rfl) ?_
 refine af ?_
 refine ah rfl (fun hc3=>?_) (fun hc3=>?_)
 ·
  have hc3':=of_decide_eq_true hc3
  refine ae aa 2 rfl ?_
  refine az ?_
  refine aq ?_
  have hX:fF b d=(b,(⟨3,0⟩:Answer)):=by
    unfold fF;(repeat' split)<;>first|rfl|omega|(exfalso;omega)|(simp_all;done)|(simp_all;omega)
  rw [hX] at hr;clear hX
  simp only [Prod.mk.injEq] at hr;obtain ⟨rfl,rfl⟩:=hr
  refine an aa [0,1,2,3,4,5] 5 rfl rfl rfl rfl rfl rfl ?_ ?_
  all_goals first|rfl|(simp [ay,aY,bf];done)|(simp [ay,aY,bf];omega)
 have hc3':=of_decide_eq_false hc3
 refine aQ ?_
 refine ag ?_
 refine ba [0,1,4] [5,0,1,2,3,4] mixed rfl rfl ?_
 refine aE (kn:=[]) aa 9 rfl trivial ?_
 refine aU (n':=6) [28,32] [] rfl rfl (.inl ⟨(ak.plain rfl),aM.cast (aL rfl rfl rfl (aJ (by first|omega|(simp;done)|(simp;omega)))) rfl⟩) rfl ?_
 refine aE (kn:=[]) aa 3 rfl trivial ?_
 refine bC [5,0,1,2,3,4] rfl rfl rfl rfl (by kernel_rfl) ?_
 refine ad aa 1 rfl ?_
 refine af ?_
 refine ag ?_
 refine ae aa 6 rfl ?_
 refine ah rfl (fun _=>?_) (fun hno=>by simp [hdn] at hno)
 refine au ?_
 refine ad aa 1 rfl ?_
 obtain ⟨b20,hr0⟩:∃ (b20:Bk),iw (⟨b.time+d.sum,b.down,b.aw,b.due,b.ax,b.s0,b.s1,b.n0,b.n1,b.w0,b.w1,b.bP,b.aR,b.book⟩:Bk)=b20:=⟨_,rfl⟩
 refine aN 10 [0,6,7,8,9,5] (cr id (bd [0,6,7,8,9]) (ms:=[some (cI (b.time+d.sum)),some (cB b.down),some (.s 1 0 6 b.aw.length),some (.s 2 0 1 b.due.length),some (.s 3 0 8 b.ax.length),some (cI b.s0.bL),some (dn b.s0.kept),some (cI b.s1.bL),some (dn b.s1.kept),some (cI b.n0),some (cI b.n1),some (eD b.w0),some (eD b.w1),some (cI b.bP.cap),some (fB b.bP.used),some (iz b.bP.bg),some (.s 4 0 4 b.aR.length),none,some (eb b.book),none]) (ms':=(jC b20 1 2 3 4 none none)) (fun x hx=>BZ x hx (⟨b.time+d.sum,b.down,b.aw,b.due,b.ax,b.s0,b.s1,b.n0,b.n1,b.w0,b.w1,b.bP,b.aR,b.book⟩:Bk) (by first|assumption|exact cv.tick (by assumption) (by omega) (by omega)) b20 hr0) GK rfl rfl ⟨⟨_,rfl,.inl ⟨rfl,rfl⟩⟩,trivial⟩ rfl rfl rfl rfl rfl rfl rfl ⟨rfl,rfl,rfl,rfl,trivial⟩ rfl rfl rfl rfl rfl rfl rfl rfl rfl rfl rfl rfl rfl) rfl ?_
 refine af ?_
 refine ae aa 2 rfl ?_
 refine az ?_
 have hX:fF b d=(b20,(⟨0,0⟩:Answer)):=by
   unfold fF;simp only [dL,hr0];(repeat' split)<;>first|rfl|omega|(exfalso;omega)|(simp_all;done)|(simp_all;omega)
 rw [hX] at hr;clear hX
 simp only [Prod.mk.injEq] at hr;obtain ⟨rfl,rfl⟩:=hr
 refine an aa [0,6,7,8,9,5] 5 rfl rfl rfl rfl rfl rfl ?_ ?_
 all_goals first|rfl|(simp [ay,aY,bf];done)|(simp [ay,aY,bf];omega)
theorem Fw (x:Nat->Value) (hx:∀ i,(x i).oneCell'=true) (b:Bk) (d:aW) (ok:cv b) (hdn:b.down=true) (b2:Bk) (a2:Answer) (hr:fF b d=(b2,a2)):cJ Try.prog 65 [(.c (.p 0 0 0 0)),(.c (.q (cQ d) 0))] [(0,(.box 98 (aY b 1 2 3 4 (.d (.v (x 17))) (.d (.v (x 19)))))),(1,(dW b.aw)),(2,(dP b.due)),(3,(ed b.ax)),(4,(cS b.aR))] [0] (.v (.g [cI a2.err,cI a2.bc])) [(0,(.box 98 (aY b2 1 2 3 4 (.d (.v (x 17))) (.d (.v (x 19)))))),(1,(dW b2.aw)),(2,(dP b2.due)),(3,(ed b2.ax)),(4,(cS b2.aR))]:=by
 refine cJ.mk 46 [(0,(aC (.p 0 0 0 0))),(1,(aC (.q (cQ d) 0)))] 5 Try.func65 rfl rfl rfl rfl rfl rfl rfl rfl rfl ?_
 intro W0 F0 T0 pg
 obtain ⟨okt,okc,okd,oka,oky,okw0,okw1,okp,okv,okk0,okk1,okg,okl0,okl1,okp0,okp1,okn0,okn1,okq⟩:=id ok
 refine ae aa 1 rfl ?_
 refine ag ?_
 refine ag ?_
 rcases Bool.eq_false_or_eq_true (decide (d.sum < 0)) with hb1|hb1
 ·
  have hb1':=of_decide_eq_true hb1
  refine ba [0,1,4] [5,0,1,2,3,4] mixed rfl rfl ?_
  refine aE (kn:=[(9,true)]) aa 18 rfl ⟨hb1,trivial⟩ ?_
  refine bC [5,0,1,2,3,4] rfl rfl rfl rfl (by kernel_rfl) ?_
  refine af ?_
  refine ah rfl (fun _=>?_) (fun hno=>by cases hno)
  refine ae aa 2 rfl ?_
  refine az ?_
  refine aq ?_
  have hX:fF b d=(b,(⟨3,0⟩:Answer)):=by
    unfold fF;(repeat' split)<;>first|rfl|omega|(exfalso;omega)|(simp_all;done)|(simp_all;omega)
  rw [hX] at hr;clear hX
  simp only [Prod.mk.injEq] at hr;obtain ⟨rfl,rfl⟩:=hr
  refine an aa [0,1,2,3,4,5] 5 rfl rfl rfl rfl rfl rfl ?_ ?_
  all_goals first|rfl|(simp [ay,aY,bf];done)|(simp [ay,aY,bf];omega)
 have hb1':=of_decide_eq_false hb1
 refine ba [0,1,4] [5,0,1,2,3,4] mixed rfl rfl ?_
 refine aE (kn:=[(9,false)]) aa 15 rfl ⟨hb1,trivial⟩ ?_
 refine aU (n':=6) [19,10] [] rfl rfl (.inl ⟨(ak.yes rfl rfl rfl),aM.cast (aL rfl rfl rfl (aJ (by first|omega|(simp;done)|(simp;omega)))) rfl⟩) rfl ?_
 refine aE (kn:=[]) aa 2 rfl trivial ?_
 refine bC [5,0,1,2,3,4] rfl rfl rfl rfl (by kernel_rfl) ?_
 refine af ?_
 refine ah rfl (fun hc3=>?_) (fun hc3=>?_)
 ·
  have hc3':=of_decide_eq_true hc3
  refine ae aa 2 rfl ?_
  refine az ?_
  refine aq ?_
  have hX:fF b d=(b,(⟨3,0⟩:Answer)):=by
    unfold fF;(repeat' split)<;>first|rfl|omega|(exfalso;omega)|(simp_all;done)|(simp_all;omega)
  rw [hX] at hr;clear hX
  simp only [Prod.mk.injEq] at hr;obtain ⟨rfl,rfl⟩:=hr
  refine an aa [0,1,2,3,4,5] 5 rfl rfl rfl rfl rfl rfl ?_ ?_
  all_goals first|rfl|(simp [ay,aY,bf];done)|(simp [ay,aY,bf];omega)
 have hc3':=of_decide_eq_false hc3
 refine aQ ?_
 refine ag ?_
 refine ba [0,1,4] [5,0,1,2,3,4] mixed rfl rfl ?_
 refine aE (kn:=[]) aa 9 rfl trivial ?_
 refine aU (n':=6) [28,32] [] rfl rfl (.inl ⟨(ak.plain rfl),aM.cast (aL rfl rfl rfl (aJ (by first|omega|(simp;done)|(simp;omega)))) rfl⟩) rfl ?_
 refine aE (kn:=[]) aa 3 rfl trivial ?_
 refine bC [5,0,1,2,3,4] rfl rfl rfl rfl (by kernel_rfl) ?_
 refine ad aa 1 rfl ?_
 refine af ?_
 refine ag ?_
 refine ae aa 6 rfl ?_
 refine ah rfl (fun hno=>by simp [hdn] at hno) (fun _=>?_)
 refine aQ ?_
 refine ae aa 2 rfl ?_
 refine az ?_
 have hX:fF b d=((⟨b.time+d.sum,b.down,b.aw,b.due,b.ax,b.s0,b.s1,b.n0,b.n1,b.w0,b.w1,b.bP,b.aR,b.book⟩:Bk),(⟨0,0⟩:Answer)):=by
   unfold fF;(repeat' split)<;>first|rfl|omega|(exfalso;omega)|(simp_all;done)|(simp_all;omega)
 rw [hX] at hr;clear hX
 simp only [Prod.mk.injEq] at hr;obtain ⟨rfl,rfl⟩:=hr
 refine an aa [0,1,2,3,4,5] 5 rfl rfl rfl rfl rfl rfl ?_ ?_
 all_goals first|rfl|(simp [ay,aY,bf];done)|(simp [ay,aY,bf];omega)
theorem Hb (x:Nat->Value) (hx:∀ i,(x i).oneCell'=true) (b:Bk) (d:aW) (ok:cv b) (b2:Bk) (a2:Answer) (hr:fF b d=(b2,a2)):cJ Try.prog 65 [(.c (.p 0 0 0 0)),(.c (.q (cQ d) 0))] [(0,(.box 98 (aY b 1 2 3 4 (.d (.v (x 17))) (.d (.v (x 19)))))),(1,(dW b.aw)),(2,(dP b.due)),(3,(ed b.ax)),(4,(cS b.aR))] [0] (.v (.g [cI a2.err,cI a2.bc])) [(0,(.box 98 (aY b2 1 2 3 4 (.d (.v (x 17))) (.d (.v (x 19)))))),(1,(dW b2.aw)),(2,(dP b2.due)),(3,(ed b2.ax)),(4,(cS b2.aR))]:=by
  cases hdn:b.down
  ·exact Fv x hx b d ok hdn b2 a2 hr
  ·exact Fw x hx b d ok hdn b2 a2 hr

theorem Hi (x:Nat->Value) (hx:∀ i,(x i).oneCell'=true) (b:Bk) (d:aW) (ok:cv b) (hdn:b.down=false) (b2:Bk) (a2:Answer) (hr:dN b d=(b2,a2)):cJ Try.prog 63 [(.c (.p 0 0 0 0)),(.c (.q (cQ d) 0))] [(0,(.box 98 (aY b 1 2 3 4 (.d (.v (x 17))) (.d (.v (x 19)))))),(1,(dW b.aw)),(2,(dP b.due)),(3,(ed b.ax)),(4,(cS b.aR))] [0] (.v (.g [cI a2.err,cI a2.bc])) [(0,(.box 98 (aY b2 1 2 3 4 (.d (.v (x 17))) (.d (.v (x 19)))))),(1,(dW b2.aw)),(2,(dP b2.due)),(3,(ed b2.ax)),(4,(cS b2.aR))]:=by
 refine cJ.mk 214 [(0,(aC (.p 0 0 0 0))),(1,(aC (.q (cQ d) 0)))] 5 Try.func63 rfl rfl rfl rfl rfl rfl rfl rfl rfl ?_
 intro W0 F0 T0 pg
 obtain ⟨okt,okc,okd,oka,oky,okw0,okw1,okp,okv,okk0,okk1,okg,okl0,okl1,okp0,okp1,okn0,okn1,okq⟩:=id ok
 refine ae aa 1 rfl ?_
 refine ag ?_
 refine ag ?_
 rcases Bool.eq_false_or_eq_true (decide (d.n < 0)) with hb1|hb1
 ·
  have hb1':=of_decide_eq_true hb1
  refine ba [0,1,4] [5,0,1,2,3,4] mixed rfl rfl ?_
  refine aE (kn:=[(14,true)]) aa 38 rfl ⟨hb1,trivial⟩ ?_
  refine bC [5,0,1,2,3,4] rfl rfl rfl rfl (by kernel_rfl) ?_
  refine af ?_
  refine ah rfl (fun _=>?_) (fun hno=>by cases hno)
  refine ae aa 2 rfl ?_
  refine az ?_
  refine aq ?_
  have hX:dN b d=(b,(⟨6,0⟩:Answer)):=by
    unfold dN;(try simp only [hdn,Bool.false_eq_true,if_false]);(repeat' split)<;>first|rfl|omega|(exfalso;omega)|(simp_all;done)|(simp_all;omega)
  rw [hX] at hr;clear hX
  simp only [Prod.mk.injEq] at hr;obtain ⟨rfl,rfl⟩:=hr
  refine an aa [0,1,2,3,4,5] 5 rfl rfl rfl rfl rfl rfl ?_ ?_
  all_goals first|rfl|(simp [ay,aY,bf];done)|(simp [ay,aY,bf];omega)
 have hb1':=of_decide_eq_false hb1
 rcases Bool.eq_false_or_eq_true (decide (d.n>=(↑b.aw.length:Int))) with hb3|hb3
 ·
  have hb3':=of_decide_eq_true hb3
  refine ba [0,1,4] [5,0,1,2,3,4] mixed rfl rfl ?_
  refine aE (kn:=[(14,false)]) aa 15 rfl ⟨hb1,trivial⟩ ?_
  refine aU (n':=6) [24,15] [1] rfl rfl (.inl ⟨(ak.yes rfl rfl rfl),aM.cast (dz rfl rfl rfl rfl rfl Try.underlying29) rfl⟩) rfl ?_
  refine aE (kn:=[(26,true)]) aa 22 rfl ⟨hb3,trivial⟩ ?_
  refine bC [5,0,1,2,3,4] rfl rfl rfl rfl (by kernel_rfl) ?_
  refine af ?_
  refine ah rfl (fun _=>?_) (fun hno=>by cases hno)
  refine ae aa 2 rfl ?_
  refine az ?_
  refine aq ?_
  have hX:dN b d=(b,(⟨6,0⟩:Answer)):=by
    unfold dN;(try simp only [hdn,Bool.false_eq_true,if_false]);(repeat' split)<;>first|rfl|omega|(exfalso;omega)|(simp_all;done)|(simp_all;omega)
  rw [hX] at hr;clear hX
  simp only [Prod.mk.injEq] at hr;obtain ⟨rfl,rfl⟩:=hr
  refine an aa [0,1,2,3,4,5] 5 rfl rfl rfl rfl rfl rfl ?_ ?_
  all_goals first|rfl|(simp [ay,aY,bf];done)|(simp [ay,aY,bf];omega)
 have hb3':=of_decide_eq_false hb3
 rcases Bool.eq_false_or_eq_true (decide (d.aD < 0)) with hb5|hb5
 ·
  have hb5':=of_decide_eq_true hb5
  refine ba [0,1,4] [5,0,1,2,3,4] mixed rfl rfl ?_
  refine aE (kn:=[(14,false)]) aa 15 rfl ⟨hb1,trivial⟩ ?_
  refine aU (n':=6) [24,15] [1] rfl rfl (.inl ⟨(ak.yes rfl rfl rfl),aM.cast (dz rfl rfl rfl rfl rfl Try.underlying29) rfl⟩) rfl ?_
  refine aE (kn:=[(26,false),(33,true)]) aa 22 rfl ⟨hb3,hb5,trivial⟩ ?_
  refine bC [5,0,1,2,3,4] rfl rfl rfl rfl (by kernel_rfl) ?_
  refine af ?_
  refine ah rfl (fun _=>?_) (fun hno=>by cases hno)
  refine ae aa 2 rfl ?_
  refine az ?_
  refine aq ?_
  have hX:dN b d=(b,(⟨6,0⟩:Answer)):=by
    unfold dN;(try simp only [hdn,Bool.false_eq_true,if_false]);(repeat' split)<;>first|rfl|omega|(exfalso;omega)|(simp_all;done)|(simp_all;omega)
  rw [hX] at hr;clear hX
  simp only [Prod.mk.injEq] at hr;obtain ⟨rfl,rfl⟩:=hr
  refine an aa [0,1,2,3,4,5] 5 rfl rfl rfl rfl rfl rfl ?_ ?_
  all_goals first|rfl|(simp [ay,aY,bf];done)|(simp [ay,aY,bf];omega)
 have hb5':=of_decide_eq_false hb5
 refine ba [0,1,4] [5,0,1,2,3,4] mixed rfl rfl ?_
 refine aE (kn:=[(14,false)]) aa 15 rfl ⟨hb1,trivial⟩ ?_
 refine aU (n':=6) [24,15] [1] rfl rfl (.inl ⟨(ak.yes rfl rfl rfl),aM.cast (dz rfl rfl rfl rfl rfl Try.underlying29) rfl⟩) rfl ?_
 refine aE (kn:=[(26,false),(33,false)]) aa 19 rfl ⟨hb3,hb5,trivial⟩ ?_
 refine aU (n':=6) [44,35] [2] rfl rfl (.inl ⟨(ak.yes rfl rfl rfl),aM.cast (dz rfl rfl rfl rfl rfl Try.underlying30) rfl⟩) rfl ?_
 refine aE (kn:=[]) aa 2 rfl trivial ?_
 refine bC [5,0,1,2,3,4] rfl rfl rfl rfl (by kernel_rfl) ?_
 refine af ?_
 refine ah rfl (fun hc7=>?_) (fun hc7=>?_)
 ·
  have hc7':=of_decide_eq_true hc7
  refine ae aa 2 rfl ?_
  refine az ?_
  refine aq ?_
  have hX:dN b d=(b,(⟨6,0⟩:Answer)):=by
    unfold dN;(try simp only [hdn,Bool.false_eq_true,if_false]);(repeat' split)<;>first|rfl|omega|(exfalso;omega)|(simp_all;done)|(simp_all;omega)
  rw [hX] at hr;clear hX
  simp only [Prod.mk.injEq] at hr;obtain ⟨rfl,rfl⟩:=hr
  refine an aa [0,1,2,3,4,5] 5 rfl rfl rfl rfl rfl rfl ?_ ?_
  all_goals first|rfl|(simp [ay,aY,bf];done)|(simp [ay,aY,bf];omega)
 have hc7':=of_decide_eq_false hc7
 refine aQ ?_
 refine ag ?_
 refine ae aa 5 rfl ?_
 refine ah rfl (fun hno=>absurd (hdn.symm.trans hno) (by decide)) (fun _=>?_)
 refine aQ ?_
 refine ag ?_
 obtain ⟨b0,e0,hr0⟩:∃ (b0:bF) (e0:Int),di d.n d.aD d.sum b.time=(b0,e0):=⟨_,_,rfl⟩
 refine dg [0,1,4] [5,0,1,2,3,4] mixed rfl rfl ?_
 refine ca (kn:=[]) aa 17 rfl trivial ?_
 refine cg (n':=6) [123,127,131,136] [] rfl rfl (.inl ⟨(ak.plain rfl),aM.cast (bQ 6 (sZ d.n d.aD d.sum b.time b0 e0 hr0) GL rfl rfl ⟨⟨_,rfl,.c (.d _)⟩,⟨_,rfl,.c (.d _)⟩,⟨_,rfl,.c (.d _)⟩,⟨_,rfl,.c (.d _)⟩,trivial⟩ ⟨⟨trivial,trivial,trivial,trivial,trivial,trivial,trivial,trivial,trivial⟩,trivial,trivial⟩ trivial rfl rfl rfl rfl) rfl⟩) rfl ?_
 refine ca (n':=7) (kn:=[]) aa 6 rfl trivial ?_
 refine dX [0,1,4,7,8] [6,5,0,1,2,3,4] rfl rfl (by kernel_rfl) ?_
 refine then_ok ?_
 refine ag ?_
 refine cx 150 ((decide (e0=0)) && (decide ((↑b.ax.length:Int)=30))) ?_ ?_
 ·
  refine au ?_
  refine ad aa 3 rfl ?_
  refine bI (t:=142) rfl (fun hb9=>?_) (fun hb9=>?_)
  ·
   have hb9':=of_decide_eq_true hb9
   refine ad aa 5 rfl ?_
   refine dQ (ak.yes rfl rfl rfl) (dz rfl rfl rfl rfl rfl Try.underlying31) rfl rfl ?_
   refine ad aa 2 rfl ?_
   refine af ?_
   exact aF.bH 12 rfl rfl (by first|(simp [hb9];done)|(simp_all;done)|(exfalso;simp_all;done)|(simp_all;omega)) rfl
  have hb9':=of_decide_eq_false hb9
  refine ad aa 8 rfl ?_
  refine af ?_
  exact aF.bH 12 rfl rfl (by first|(simp [hb9];done)|(simp_all;done)|(exfalso;simp_all;done)|(simp_all;omega)) rfl
 refine ah rfl (fun hc10=>?_) (fun hc10=>?_)
 ·
  have hc10':=hc10;try simp only [bu,bU] at hc10'
  refine au ?_
  refine ad aa 1 rfl ?_
  refine af ?_
  refine ag ?_
  refine aH aa 1 rfl ?_
  refine aA (aL rfl rfl rfl (show _=some (Value.bool true) from rfl)) rfl ?_
  refine af ?_
  refine ah rfl (fun _=>?_) (fun hno=>by cases hno)
  refine ae aa 3 rfl ?_
  refine az ?_
  refine aq ?_
  have hX:dN b d=(b,(⟨5,0⟩:Answer)):=by
    unfold dN;(try simp only [hdn,Bool.false_eq_true,if_false,hr0]);(repeat' split)<;>first|rfl|omega|(exfalso;omega)|(simp_all;done)|(simp_all;omega)
  rw [hX] at hr;clear hX
  simp only [Prod.mk.injEq] at hr;obtain ⟨rfl,rfl⟩:=hr
  refine an aa [0,1,2,3,4,5] 5 rfl rfl rfl rfl rfl rfl ?_ ?_
  all_goals first|rfl|(simp [ay,aY,bf];done)|(simp [ay,aY,bf];omega)
 have hc10':=hc10;try simp only [bu,bU] at hc10'
 refine aQ ?_
 refine ag ?_
 refine ae aa 2 rfl ?_
 refine ah rfl (fun hc12=>?_) (fun hc12=>?_)
 ·
  have hc12':=of_decide_eq_true hc12
  refine ae aa 3 rfl ?_
  refine az ?_
  refine aq ?_
  have hX:dN b d=(b,(⟨e0,0⟩:Answer)):=by
    unfold dN;(try simp only [hdn,Bool.false_eq_true,if_false,hr0]);(repeat' split)<;>first|rfl|omega|(exfalso;omega)|(simp_all;done)|(simp_all;omega)
  rw [hX] at hr;clear hX
  simp only [Prod.mk.injEq] at hr;obtain ⟨rfl,rfl⟩:=hr
  refine an aa [0,1,2,3,4,5] 5 rfl rfl rfl rfl rfl rfl ?_ ?_
  all_goals first|rfl|(simp [ay,aY,bf];done)|(simp [ay,aY,bf];omega)
 have hc12':=of_decide_eq_false hc12
 refine aQ ?_
 refine ag ?_
 obtain ⟨x1,hx1⟩:=ck (xs:=b.aw) (i:=Int.toNat (d.n)) (by first|omega|(simp;done)|(simp;omega))
 obtain ⟨xr1,e1,hr1⟩:∃ (xr1:bE) (e1:Int),dO x1 d.sum b.time=(xr1,e1):=⟨_,_,rfl⟩
 refine dg [0,1,4,7] [6,5,0,1,2,3,4] mixed rfl rfl ?_
 refine ca (kn:=[]) aa 9 rfl trivial ?_
 refine cg (n':=7) [160,164] [1] rfl rfl (.inl ⟨(ak.plain rfl),aM.cast (bA (i:=Int.toNat (d.n)) rfl rfl rfl Try.underlying29 jE (by first|omega|(simp;done)|(simp;omega)) (by first|omega|(simp;done)|(simp;omega))) rfl⟩) rfl ?_
 refine cg (n':=7) [165] [1] rfl rfl (.inl ⟨(ak.plain rfl),aM.cast (dm rfl rfl rfl Try.underlying61 rfl jE (bw hx1) rfl) rfl⟩) rfl ?_
 refine ca (kn:=[]) aa 9 rfl trivial ?_
 refine cg (n':=7) [166,170,175] [] rfl rfl (.inl ⟨(ak.plain rfl),aM.cast (bQ 7 (Fn.frozen (av':=(.t [(.g [(cI xr1.bx),(cI xr1.held),(cI xr1.ch.cU),(cI xr1.ch.count),(cI xr1.ch.sum),(fI xr1.cO)]),(.c (cI e1))])) (xu x1 d.sum b.time xr1 e1 hr1) ⟨⟨.inl ⟨_,rfl,rfl⟩,.inl ⟨_,rfl,rfl⟩,.inl ⟨_,rfl,rfl⟩,.inl ⟨_,rfl,rfl⟩,.inl ⟨_,rfl,rfl⟩,.inr ⟨_,_,_,_,_,rfl,rfl,rfl,by simp⟩,trivial⟩,.inl ⟨_,rfl,rfl⟩,trivial⟩) IX rfl rfl ⟨⟨_,rfl,.g ⟨.d _,.d _,.d _,.d _,.d _,.d _,trivial⟩⟩,⟨_,rfl,.c (.d _)⟩,⟨_,rfl,.c (.d _)⟩,trivial⟩ ⟨⟨trivial,trivial,trivial,trivial,trivial,trivial,trivial⟩,trivial,trivial⟩ trivial rfl rfl rfl rfl) rfl⟩) rfl ?_
 refine ca (n':=8) (kn:=[]) aa 6 rfl trivial ?_
 refine dX [0,1,4,7,9,8] [7,6,5,0,1,2,3,4] rfl rfl (by kernel_rfl) ?_
 refine then_ok ?_
 refine ag ?_
 refine ae aa 2 rfl ?_
 refine ah rfl (fun hc13=>?_) (fun hc13=>?_)
 ·
  have hc13':=of_decide_eq_true hc13
  refine ae aa 3 rfl ?_
  refine az ?_
  refine aq ?_
  have hX:dN b d=(b,(⟨e1,0⟩:Answer)):=by
    unfold dN;(try simp only [hdn,Bool.false_eq_true,if_false,hr0,hr1,hx1]);(repeat' split)<;>first|rfl|omega|(exfalso;omega)|(simp_all;done)|(simp_all;omega)
  rw [hX] at hr;clear hX
  simp only [Prod.mk.injEq] at hr;obtain ⟨rfl,rfl⟩:=hr
  refine an aa [0,1,2,3,4,5] 5 rfl rfl rfl rfl rfl rfl ?_ ?_
  all_goals first|rfl|(simp [ay,aY,bf];done)|(simp [ay,aY,bf];omega)
 have hc13':=of_decide_eq_false hc13
 refine aQ ?_
 refine ag ?_
 refine ba [0,1,4,7,9] [7,6,5,0,1,2,3,4] mixed rfl rfl ?_
 refine aE (kn:=[]) aa 10 rfl trivial ?_
 refine aU (n':=8) [187,191] [1] rfl rfl (.inl ⟨(ak.plain rfl),aM.cast (bA (i:=Int.toNat (d.n)) rfl rfl rfl Try.underlying29 jE (by first|omega|(simp;done)|(simp;omega)) (by first|omega|(simp;done)|(simp;omega))) rfl⟩) rfl ?_
 refine bC [7,6,5,0,1,2,3,4] rfl rfl rfl rfl (by kernel_rfl) ?_
 refine gI [7,6,5,0,1,2,3,4] (dU (ds:=[(dI xr1.bx),(dI xr1.held),(dI xr1.ch.cU),(dI xr1.ch.count),(dI xr1.ch.sum),(GZ xr1.cO)]) rfl rfl rfl rfl rfl jE rfl (Nat.le_of_ble_eq_true rfl) (bw hx1) rfl (eZ (x':=xr1) rfl)) rfl ?_
 refine af ?_
 refine fP (k:=0) (q:=2) (c':=(.s 1 0 6 (((b.aw).set (Int.toNat (d.n)) xr1).length))) rfl rfl (by first|rfl|(simp;done)|(congr 1;omega)) rfl ?_
 refine ag ?_
 refine ba [0,4,7] [6,5,0,1,2,3,4] mixed rfl rfl ?_
 refine aE (kn:=[]) aa 7 rfl trivial ?_
 refine aU (n':=9) [200] [] rfl rfl (.inl ⟨(ak.plain rfl),aM.cast (dy (ys:=[(0,(.g [(cI b0.aO),(cI b0.aD),(cI b0.sum),(cI b0.captured),(cI b0.bD),(cI b0.bq),(cI b0.cY),(cB b0.shut)]))]) (rows:=([b0]).map jv) 8 tF rfl (by decide) ⟨⟨rfl,rfl⟩,trivial⟩ rfl rfl rfl rfl) rfl⟩) rfl ?_
 refine aU (n':=10) [199,201] [8,3] rfl rfl (.inl ⟨(ak.plain rfl),aM.cast (cX (m:=1) (N:=b.ax.length+1) (k2:=9) (ys:=([b0]).map jv) tF rfl rfl rfl rfl rfl rfl (by first|omega|(simp;done)|(simp;omega)) rfl (.s rfl (by first|omega|(simp;done)|(simp;omega))) (by first|omega|(simp;done)|(simp;omega)) (by first|omega|(simp;done)|(simp;omega)) eH (by decide) (by first|omega|(simp;done)|(simp;omega)) (by first|omega|(simp;done)|(simp;omega))) rfl⟩) rfl ?_
 refine aE (kn:=[]) aa 3 rfl trivial ?_
 refine bC [9,6,5,0,1,2,4] rfl rfl rfl rfl (by kernel_rfl) ?_
 refine ad aa 1 rfl ?_
 refine af ?_
 refine fP (k:=0) (q:=4) (c':=(.s 9 0 8 ((b.ax++([b0])).length))) rfl rfl (by first|rfl|(simp;done)|(congr 1;omega)) rfl ?_
 refine aH aa 5 rfl ?_
 refine aA (dz rfl rfl rfl rfl rfl Try.underlying31) rfl ?_
 refine aA (aL rfl rfl rfl (aJ (by first|omega|(simp;done)|(simp;omega)))) rfl ?_
 refine ad aa 2 rfl ?_
 refine af ?_
 refine az ?_
 have hX:dN b d=((⟨b.time,b.down,(b.aw).set (Int.toNat (d.n)) xr1,b.due,b.ax++([b0]),b.s0,b.s1,b.n0,b.n1,b.w0,b.w1,b.bP,b.aR,b.book⟩:Bk),(⟨0,(↑((b.ax++([b0])).length):Int) - 1⟩:Answer)):=by
   unfold dN;(try simp only [hdn,Bool.false_eq_true,if_false,hr0,hr1,hx1]);(repeat' split)<;>first|rfl|omega|(exfalso;omega)|(simp_all;done)|(simp_all;omega)
 rw [hX] at hr;clear hX
 simp only [Prod.mk.injEq] at hr;obtain ⟨rfl,rfl⟩:=hr
 refine an aa [0,1,2,9,4,5] 5 rfl rfl rfl rfl rfl rfl ?_ ?_
 all_goals first|rfl|(simp [ay,aY,bf];done)|(simp [ay,aY,bf];omega)
theorem Hj (x:Nat->Value) (hx:∀ i,(x i).oneCell'=true) (b:Bk) (d:aW) (ok:cv b) (hdn:b.down=true) (b2:Bk) (a2:Answer) (hr:dN b d=(b2,a2)):cJ Try.prog 63 [(.c (.p 0 0 0 0)),(.c (.q (cQ d) 0))] [(0,(.box 98 (aY b 1 2 3 4 (.d (.v (x 17))) (.d (.v (x 19)))))),(1,(dW b.aw)),(2,(dP b.due)),(3,(ed b.ax)),(4,(cS b.aR))] [0] (.v (.g [cI a2.err,cI a2.bc])) [(0,(.box 98 (aY b2 1 2 3 4 (.d (.v (x 17))) (.d (.v (x 19)))))),(1,(dW b2.aw)),(2,(dP b2.due)),(3,(ed b2.ax)),(4,(cS b2.aR))]:=by
 refine cJ.mk 214 [(0,(aC (.p 0 0 0 0))),(1,(aC (.q (cQ d) 0)))] 5 Try.func63 rfl rfl rfl rfl rfl rfl rfl rfl rfl ?_
 intro W0 F0 T0 pg
 obtain ⟨okt,okc,okd,oka,oky,okw0,okw1,okp,okv,okk0,okk1,okg,okl0,okl1,okp0,okp1,okn0,okn1,okq⟩:=id ok
 refine ae aa 1 rfl ?_
 refine ag ?_
 refine ag ?_
 rcases Bool.eq_false_or_eq_true (decide (d.n < 0)) with hb1|hb1
 ·
  have hb1':=of_decide_eq_true hb1
  refine ba [0,1,4] [5,0,1,2,3,4] mixed rfl rfl ?_
  refine aE (kn:=[(14,true)]) aa 38 rfl ⟨hb1,trivial⟩ ?_
  refine bC [5,0,1,2,3,4] rfl rfl rfl rfl (by kernel_rfl) ?_
  refine af ?_
  refine ah rfl (fun _=>?_) (fun hno=>by cases hno)
  refine ae aa 2 rfl ?_
  refine az ?_
  refine aq ?_
  have hX:dN b d=(b,(⟨6,0⟩:Answer)):=by
    unfold dN gZ;(try simp only [hdn,if_true]);(repeat' split)<;>first|rfl|omega|(exfalso;omega)|(simp_all;done)|(simp_all;omega)
  rw [hX] at hr;clear hX
  simp only [Prod.mk.injEq] at hr;obtain ⟨rfl,rfl⟩:=hr
  refine an aa [0,1,2,3,4,5] 5 rfl rfl rfl rfl rfl rfl ?_ ?_
  all_goals first|rfl|(simp [ay,aY,bf];done)|(simp [ay,aY,bf];omega)
 have hb1':=of_decide_eq_false hb1
 rcases Bool.eq_false_or_eq_true (decide (d.n>=(↑b.aw.length:Int))) with hb3|hb3
 ·
  have hb3':=of_decide_eq_true hb3
  refine ba [0,1,4] [5,0,1,2,3,4] mixed rfl rfl ?_
  refine aE (kn:=[(14,false)]) aa 15 rfl ⟨hb1,trivial⟩ ?_
  refine aU (n':=6) [24,15] [1] rfl rfl (.inl ⟨(ak.yes rfl rfl rfl),aM.cast (dz rfl rfl rfl rfl rfl Try.underlying29) rfl⟩) rfl ?_
  refine aE (kn:=[(26,true)]) aa 22 rfl ⟨hb3,trivial⟩ ?_
  refine bC [5,0,1,2,3,4] rfl rfl rfl rfl (by kernel_rfl) ?_
  refine af ?_
  refine ah rfl (fun _=>?_) (fun hno=>by cases hno)
  refine ae aa 2 rfl ?_
  refine az ?_
  refine aq ?_
  have hX:dN b d=(b,(⟨6,0⟩:Answer)):=by
    unfold dN gZ;(try simp only [hdn,if_true]);(repeat' split)<;>first|rfl|omega|(exfalso;omega)|(simp_all;done)|(simp_all;omega)
  rw [hX] at hr;clear hX
  simp only [Prod.mk.injEq] at hr;obtain ⟨rfl,rfl⟩:=hr
  refine an aa [0,1,2,3,4,5] 5 rfl rfl rfl rfl rfl rfl ?_ ?_
  all_goals first|rfl|(simp [ay,aY,bf];done)|(simp [ay,aY,bf];omega)
 have hb3':=of_decide_eq_false hb3
 rcases Bool.eq_false_or_eq_true (decide (d.aD < 0)) with hb5|hb5
 ·
  have hb5':=of_decide_eq_true hb5
  refine ba [0,1,4] [5,0,1,2,3,4] mixed rfl rfl ?_
  refine aE (kn:=[(14,false)]) aa 15 rfl ⟨hb1,trivial⟩ ?_
  refine aU (n':=6) [24,15] [1] rfl rfl (.inl ⟨(ak.yes rfl rfl rfl),aM.cast (dz rfl rfl rfl rfl rfl Try.underlying29) rfl⟩) rfl ?_
  refine aE (kn:=[(26,false),(33,true)]) aa 22 rfl ⟨hb3,hb5,trivial⟩ ?_
  refine bC [5,0,1,2,3,4] rfl rfl rfl rfl (by kernel_rfl) ?_
  refine af ?_
  refine ah rfl (fun _=>?_) (fun hno=>by cases hno)
  refine ae aa 2 rfl ?_
  refine az ?_
  refine aq ?_
  have hX:dN b d=(b,(⟨6,0⟩:Answer)):=by
    unfold dN gZ;(try simp only [hdn,if_true]);(repeat' split)<;>first|rfl|omega|(exfalso;omega)|(simp_all;done)|(simp_all;omega)
  rw [hX] at hr;clear hX
  simp only [Prod.mk.injEq] at hr;obtain ⟨rfl,rfl⟩:=hr
  refine an aa [0,1,2,3,4,5] 5 rfl rfl rfl rfl rfl rfl ?_ ?_
  all_goals first|rfl|(simp [ay,aY,bf];done)|(simp [ay,aY,bf];omega)
 have hb5':=of_decide_eq_false hb5
 refine ba [0,1,4] [5,0,1,2,3,4] mixed rfl rfl ?_
 refine aE (kn:=[(14,false)]) aa 15 rfl ⟨hb1,trivial⟩ ?_
 refine aU (n':=6) [24,15] [1] rfl rfl (.inl ⟨(ak.yes rfl rfl rfl),aM.cast (dz rfl rfl rfl rfl rfl Try.underlying29) rfl⟩) rfl ?_
 refine aE (kn:=[(26,false),(33,false)]) aa 19 rfl ⟨hb3,hb5,trivial⟩ ?_
 refine aU (n':=6) [44,35] [2] rfl rfl (.inl ⟨(ak.yes rfl rfl rfl),aM.cast (dz rfl rfl rfl rfl rfl Try.underlying30) rfl⟩) rfl ?_
 refine aE (kn:=[]) aa 2 rfl trivial ?_
 refine bC [5,0,1,2,3,4] rfl rfl rfl rfl (by kernel_rfl) ?_
 refine af ?_
 refine ah rfl (fun hc7=>?_) (fun hc7=>?_)
 ·
  have hc7':=of_decide_eq_true hc7
  refine ae aa 2 rfl ?_
  refine az ?_
  refine aq ?_
  have hX:dN b d=(b,(⟨6,0⟩:Answer)):=by
    unfold dN gZ;(try simp only [hdn,if_true]);(repeat' split)<;>first|rfl|omega|(exfalso;omega)|(simp_all;done)|(simp_all;omega)
  rw [hX] at hr;clear hX
  simp only [Prod.mk.injEq] at hr;obtain ⟨rfl,rfl⟩:=hr
  refine an aa [0,1,2,3,4,5] 5 rfl rfl rfl rfl rfl rfl ?_ ?_
  all_goals first|rfl|(simp [ay,aY,bf];done)|(simp [ay,aY,bf];omega)
 have hc7':=of_decide_eq_false hc7
 refine aQ ?_
 refine ag ?_
 refine ae aa 5 rfl ?_
 refine ah rfl (fun _=>?_) (fun hno=>absurd (hdn.symm.trans hno) (by decide))
 refine ag ?_
 obtain ⟨xr0,e0,hr0⟩:∃ (xr0:cF) (e0:Int),cu b.bP (⟨d.n,d.aD,d.sum,b.time⟩:cm)=(xr0,e0):=⟨_,_,rfl⟩
 have hgl:=vw b.bP ((⟨d.n,d.aD,d.sum,b.time⟩:cm))
 rw [hr0] at hgl;dsimp only at hgl
 refine dg [0,1,4] [5,0,1,2,3,4] mixed rfl rfl ?_
 refine ca (kn:=[]) aa 23 rfl trivial ?_
 refine cg (n':=6) [59,77] [] rfl rfl (.inl ⟨(ak.plain rfl),aM.cast (bQ 6 (Fn.frozen (av':=(.t [(.g [(cI xr0.cap),(fB xr0.used),(iz xr0.bg)]),(.c (cI e0))])) (xm b.bP (⟨d.n,d.aD,d.sum,b.time⟩:cm) xr0 e0 hr0) ⟨⟨.inl ⟨_,rfl,rfl⟩,.inr ⟨_,_,_,_,_,rfl,rfl,rfl,by simp⟩,.inr ⟨_,_,_,_,_,rfl,rfl,rfl,by simp⟩,trivial⟩,.inl ⟨_,rfl,rfl⟩,trivial⟩) IY rfl rfl ⟨⟨_,rfl,.g ⟨.d _,.d _,.d _,trivial⟩⟩,⟨_,rfl,.g ⟨.d _,.d _,.d _,.d _,trivial⟩⟩,trivial⟩ ⟨⟨trivial,trivial,trivial,trivial⟩,trivial,trivial⟩ trivial rfl rfl rfl rfl) rfl⟩) rfl ?_
 refine ca (n':=7) (kn:=[]) aa 6 rfl trivial ?_
 refine dX [0,1,4,5,6] [6,5,0,1,2,3,4] rfl rfl (by kernel_rfl) ?_
 refine then_ok ?_
 refine ag ?_
 refine ae aa 2 rfl ?_
 refine ah rfl (fun hc9=>?_) (fun hc9=>?_)
 ·
  have hc9':=of_decide_eq_true hc9
  refine au ?_
  refine ad aa 1 rfl ?_
  refine af ?_
  refine ag ?_
  refine ag ?_
  refine ba [0,1,4,5,6] [6,5,0,1,2,3,4] mixed rfl rfl ?_
  refine aE (kn:=[(84,false)]) aa 15 rfl ⟨rfl,trivial⟩ ?_
  refine bC [6,5,0,1,2,3,4] rfl rfl rfl rfl (by kernel_rfl) ?_
  refine af ?_
  refine ah rfl (fun hno=>by cases hno) (fun _=>?_)
  refine aQ ?_
  refine ag ?_
  refine aH aa 1 rfl ?_
  refine aA (aL rfl rfl rfl (show _=some (Value.bool true) from rfl)) rfl ?_
  refine af ?_
  refine ah rfl (fun _=>?_) (fun hno=>by cases hno)
  refine ae aa 3 rfl ?_
  refine az ?_
  refine aq ?_
  refine aq ?_
  have hX:dN b d=(b,(⟨12,0⟩:Answer)):=by
    unfold dN gZ;(try simp only [hdn,if_true,hr0]);(repeat' split)<;>first|rfl|omega|(exfalso;omega)|(simp_all;done)|(simp_all;omega)
  rw [hX] at hr;clear hX
  simp only [Prod.mk.injEq] at hr;obtain ⟨rfl,rfl⟩:=hr
  refine an aa [0,1,2,3,4,5] 5 rfl rfl rfl rfl rfl rfl ?_ ?_
  all_goals first|rfl|(simp [ay,aY,bf];done)|(simp [ay,aY,bf];omega)
 have hc9':=of_decide_eq_false hc9
 refine aQ ?_
 refine ag ?_
 refine ag ?_
 rcases Bool.eq_false_or_eq_true (decide (e0=0)) with hb12|hb12
 ·
  have hb12':=of_decide_eq_true hb12
  refine ba [0,1,4,5,6] [6,5,0,1,2,3,4] mixed rfl rfl ?_
  refine aE (kn:=[(84,true)]) aa 8 rfl ⟨hb12,trivial⟩ ?_
  refine aU (n':=7) [90,85] [3] rfl rfl (.inl ⟨(ak.yes rfl rfl rfl),aM.cast (dz rfl rfl rfl rfl rfl Try.underlying31) rfl⟩) rfl ?_
  refine aE (kn:=[]) aa 2 rfl trivial ?_
  refine aU (n':=7) [93,85] [] rfl rfl (.inl ⟨(ak.yes rfl rfl rfl),aM.cast (cM rfl rfl rfl rfl rfl Try.underlying39) rfl⟩) rfl ?_
  refine aU (n':=7) [91,94,85] [] rfl rfl (.inl ⟨(ak.yes rfl rfl rfl),aM.cast (aL rfl rfl rfl (aJ (by first|omega|(simp;done)|(simp;omega)))) rfl⟩) rfl ?_
  refine aE (kn:=[]) aa 2 rfl trivial ?_
  refine bC [6,5,0,1,2,3,4] rfl rfl rfl rfl (by kernel_rfl) ?_
  refine af ?_
  refine ah rfl (fun hc13=>?_) (fun hc13=>?_)
  ·
   have hc13':=of_decide_eq_true hc13
   refine au ?_
   refine ad aa 1 rfl ?_
   refine af ?_
   refine ag ?_
   refine aH aa 1 rfl ?_
   refine aA (aL rfl rfl rfl (show _=some (Value.bool true) from rfl)) rfl ?_
   refine af ?_
   refine ah rfl (fun _=>?_) (fun hno=>by cases hno)
   refine ae aa 3 rfl ?_
   refine az ?_
   refine aq ?_
   refine aq ?_
   have hX:dN b d=(b,(⟨5,0⟩:Answer)):=by
     unfold dN gZ;(try simp only [hdn,if_true,hr0]);(repeat' split)<;>first|rfl|omega|(exfalso;omega)|(simp_all;done)|(simp_all;omega)
   rw [hX] at hr;clear hX
   simp only [Prod.mk.injEq] at hr;obtain ⟨rfl,rfl⟩:=hr
   refine an aa [0,1,2,3,4,5] 5 rfl rfl rfl rfl rfl rfl ?_ ?_
   all_goals first|rfl|(simp [ay,aY,bf];done)|(simp [ay,aY,bf];omega)
  have hc13':=of_decide_eq_false hc13
  refine aQ ?_
  refine ag ?_
  refine ae aa 2 rfl ?_
  refine ah rfl (fun hc15=>?_) (fun hc15=>?_)
  ·
   have hc15':=of_decide_eq_true hc15
   refine ae aa 3 rfl ?_
   refine az ?_
   refine aq ?_
   refine aq ?_
   have hX:dN b d=(b,(⟨e0,0⟩:Answer)):=by
     unfold dN gZ;(try simp only [hdn,if_true,hr0]);(repeat' split)<;>first|rfl|omega|(exfalso;omega)|(simp_all;done)|(simp_all;omega)
   rw [hX] at hr;clear hX
   simp only [Prod.mk.injEq] at hr;obtain ⟨rfl,rfl⟩:=hr
   refine an aa [0,1,2,3,4,5] 5 rfl rfl rfl rfl rfl rfl ?_ ?_
   all_goals first|rfl|(simp [ay,aY,bf];done)|(simp [ay,aY,bf];omega)
  have hc15':=of_decide_eq_false hc15
  refine aQ ?_
  refine ae aa 6 rfl ?_
  refine ag ?_
  refine ba [0,1,4,5] [6,5,0,1,2,3,4] mixed rfl rfl ?_
  refine aE (kn:=[]) aa 5 rfl trivial ?_
  refine aU (n':=7) [111] [3] rfl rfl (.inl ⟨(ak.plain rfl),aM.cast (dz rfl rfl rfl rfl rfl Try.underlying31) rfl⟩) rfl ?_
  refine aE (kn:=[]) aa 2 rfl trivial ?_
  refine aU (n':=7) [114] [] rfl rfl (.inl ⟨(ak.plain rfl),aM.cast (cM rfl rfl rfl rfl rfl Try.underlying39) rfl⟩) rfl ?_
  refine aU (n':=7) [112,115] [] rfl rfl (.inl ⟨(ak.plain rfl),aM.cast (aL rfl rfl rfl (aJ (by first|omega|(simp;done)|(simp;omega)))) rfl⟩) rfl ?_
  refine aU (n':=7) [116] [] rfl rfl (.inl ⟨(ak.plain rfl),aM.cast (aL rfl rfl rfl (aJ (by first|omega|(simp;done)|(simp;omega)))) rfl⟩) rfl ?_
  refine aE (kn:=[]) aa 1 rfl trivial ?_
  refine bC [6,5,0,1,2,3,4] rfl rfl rfl rfl (by kernel_rfl) ?_
  refine ad aa 1 rfl ?_
  refine af ?_
  refine az ?_
  refine aq ?_
  have hX:dN b d=((⟨b.time,b.down,b.aw,b.due,b.ax,b.s0,b.s1,b.n0,b.n1,b.w0,b.w1,xr0,b.aR,b.book⟩:Bk),(⟨0,((↑b.ax.length:Int)+(↑xr0.bg.length:Int)) - 1⟩:Answer)):=by
    unfold dN gZ;(try simp only [hdn,if_true,hr0]);(repeat' split)<;>first|rfl|omega|(exfalso;omega)|(simp_all;done)|(simp_all;omega)
  rw [hX] at hr;clear hX
  simp only [Prod.mk.injEq] at hr;obtain ⟨rfl,rfl⟩:=hr
  refine an aa [0,1,2,3,4,5] 5 rfl rfl rfl rfl rfl rfl ?_ ?_
  all_goals first|rfl|(simp [ay,aY,bf];done)|(simp [ay,aY,bf];omega)
 have hb12':=of_decide_eq_false hb12
 refine ba [0,1,4,5,6] [6,5,0,1,2,3,4] mixed rfl rfl ?_
 refine aE (kn:=[(84,false)]) aa 15 rfl ⟨hb12,trivial⟩ ?_
 refine bC [6,5,0,1,2,3,4] rfl rfl rfl rfl (by kernel_rfl) ?_
 refine af ?_
 refine ah rfl (fun hno=>by cases hno) (fun _=>?_)
 refine aQ ?_
 refine ag ?_
 refine ae aa 2 rfl ?_
 refine ah rfl (fun hc17=>?_) (fun hc17=>?_)
 ·
  have hc17':=of_decide_eq_true hc17
  refine ae aa 3 rfl ?_
  refine az ?_
  refine aq ?_
  refine aq ?_
  have hX:dN b d=(b,(⟨e0,0⟩:Answer)):=by
    unfold dN gZ;(try simp only [hdn,if_true,hr0]);(repeat' split)<;>first|rfl|omega|(exfalso;omega)|(simp_all;done)|(simp_all;omega)
  rw [hX] at hr;clear hX
  simp only [Prod.mk.injEq] at hr;obtain ⟨rfl,rfl⟩:=hr
  refine an aa [0,1,2,3,4,5] 5 rfl rfl rfl rfl rfl rfl ?_ ?_
  all_goals first|rfl|(simp [ay,aY,bf];done)|(simp [ay,aY,bf];omega)
 have hc17':=of_decide_eq_false hc17
 refine aQ ?_
 refine ae aa 6 rfl ?_
 refine ag ?_
 refine ba [0,1,4,5] [6,5,0,1,2,3,4] mixed rfl rfl ?_
 refine aE (kn:=[]) aa 5 rfl trivial ?_
 refine aU (n':=7) [111] [3] rfl rfl (.inl ⟨(ak.plain rfl),aM.cast (dz rfl rfl rfl rfl rfl Try.underlying31) rfl⟩) rfl ?_
 refine aE (kn:=[]) aa 2 rfl trivial ?_
 refine aU (n':=7) [114] [] rfl rfl (.inl ⟨(ak.plain rfl),aM.cast (cM rfl rfl rfl rfl rfl Try.underlying39) rfl⟩) rfl ?_
 refine aU (n':=7) [112,115] [] rfl rfl (.inl ⟨(ak.plain rfl),aM.cast (aL rfl rfl rfl (aJ (by first|omega|(simp;done)|(simp;omega)))) rfl⟩) rfl ?_
 refine aU (n':=7) [116] [] rfl rfl (.inl ⟨(ak.plain rfl),aM.cast (aL rfl rfl rfl (aJ (by first|omega|(simp;done)|(simp;omega)))) rfl⟩) rfl ?_
 refine aE (kn:=[]) aa 1 rfl trivial ?_
 refine bC [6,5,0,1,2,3,4] rfl rfl rfl rfl (by kernel_rfl) ?_
 refine ad aa 1 rfl ?_
 refine af ?_
 refine az ?_
 refine aq ?_
 have hX:dN b d=((⟨b.time,b.down,b.aw,b.due,b.ax,b.s0,b.s1,b.n0,b.n1,b.w0,b.w1,xr0,b.aR,b.book⟩:Bk),(⟨0,((↑b.ax.length:Int)+(↑xr0.bg.length:Int)) - 1⟩:Answer)):=by
   unfold dN gZ;(try simp only [hdn,if_true,hr0]);(repeat' split)<;>first|rfl|omega|(exfalso;omega)|(simp_all;done)|(simp_all;omega)
 rw [hX] at hr;clear hX
 simp only [Prod.mk.injEq] at hr;obtain ⟨rfl,rfl⟩:=hr
 refine an aa [0,1,2,3,4,5] 5 rfl rfl rfl rfl rfl rfl ?_ ?_
 all_goals first|rfl|(simp [ay,aY,bf];done)|(simp [ay,aY,bf];omega)
theorem Ih (x:Nat->Value) (hx:∀ i,(x i).oneCell'=true) (b:Bk) (d:aW) (ok:cv b) (b2:Bk) (a2:Answer) (hr:dN b d=(b2,a2)):cJ Try.prog 63 [(.c (.p 0 0 0 0)),(.c (.q (cQ d) 0))] [(0,(.box 98 (aY b 1 2 3 4 (.d (.v (x 17))) (.d (.v (x 19)))))),(1,(dW b.aw)),(2,(dP b.due)),(3,(ed b.ax)),(4,(cS b.aR))] [0] (.v (.g [cI a2.err,cI a2.bc])) [(0,(.box 98 (aY b2 1 2 3 4 (.d (.v (x 17))) (.d (.v (x 19)))))),(1,(dW b2.aw)),(2,(dP b2.due)),(3,(ed b2.ax)),(4,(cS b2.aR))]:=by
  cases hdn:b.down
  ·exact Hi x hx b d ok hdn b2 a2 hr
  ·exact Hj x hx b d ok hdn b2 a2 hr

theorem Ca (x:Nat->Value) (hx:∀ i,(x i).oneCell'=true) (b:Bk) (d:aW) (ok:cv b) (hdn:b.down=false) (b2:Bk) (a2:Answer) (hr:dx b d=(b2,a2)):cJ Try.prog 64 [(.c (.p 0 0 0 0)),(.c (.q (cQ d) 0))] [(0,(.box 98 (aY b 1 2 3 4 (.d (.v (x 17))) (.d (.v (x 19)))))),(1,(dW b.aw)),(2,(dP b.due)),(3,(ed b.ax)),(4,(cS b.aR))] [0] (.v (.g [cI a2.err,cI a2.bc])) [(0,(.box 98 (aY b2 1 2 3 4 (.d (.v (x 17))) (.d (.v (x 19)))))),(1,(dW b2.aw)),(2,(dP b2.due)),(3,(ed b2.ax)),(4,(cS b2.aR))]:=by
 refine cJ.mk 246 [(0,(aC (.p 0 0 0 0))),(1,(aC (.q (cQ d) 0)))] 5 Try.func64 rfl rfl rfl rfl rfl rfl rfl rfl rfl ?_
 intro W0 F0 T0 pg
 obtain ⟨okt,okc,okd,oka,oky,okw0,okw1,okp,okv,okk0,okk1,okg,okl0,okl1,okp0,okp1,okn0,okn1,okq⟩:=id ok
 refine ae aa 1 rfl ?_
 refine ag ?_
 refine ae aa 5 rfl ?_
 refine ah rfl (fun hno=>absurd (hdn.symm.trans hno) (by decide)) (fun _=>?_)
 refine aQ ?_
 refine ag ?_
 refine ag ?_
 rcases Bool.eq_false_or_eq_true (decide (d.n < 0)) with hb2|hb2
 ·
  have hb2':=of_decide_eq_true hb2
  refine ba [0,1,4] [5,0,1,2,3,4] mixed rfl rfl ?_
  refine aE (kn:=[(22,true)]) aa 18 rfl ⟨hb2,trivial⟩ ?_
  refine bC [5,0,1,2,3,4] rfl rfl rfl rfl (by kernel_rfl) ?_
  refine af ?_
  refine ah rfl (fun _=>?_) (fun hno=>by cases hno)
  refine ae aa 2 rfl ?_
  refine az ?_
  refine aq ?_
  have hX:dx b d=(b,(⟨6,0⟩:Answer)):=by
    unfold dx;simp only [hdn,Bool.false_eq_true,if_false];(repeat' split)<;>first|rfl|omega|(exfalso;omega)|(simp_all;done)|(simp_all;omega)
  rw [hX] at hr;clear hX
  simp only [Prod.mk.injEq] at hr;obtain ⟨rfl,rfl⟩:=hr
  refine an aa [0,1,2,3,4,5] 5 rfl rfl rfl rfl rfl rfl ?_ ?_
  all_goals first|rfl|(simp [ay,aY,bf];done)|(simp [ay,aY,bf];omega)
 have hb2':=of_decide_eq_false hb2
 refine ba [0,1,4] [5,0,1,2,3,4] mixed rfl rfl ?_
 refine aE (kn:=[(22,false)]) aa 15 rfl ⟨hb2,trivial⟩ ?_
 refine aU (n':=6) [32,23] [3] rfl rfl (.inl ⟨(ak.yes rfl rfl rfl),aM.cast (dz rfl rfl rfl rfl rfl Try.underlying31) rfl⟩) rfl ?_
 refine aE (kn:=[]) aa 2 rfl trivial ?_
 refine bC [5,0,1,2,3,4] rfl rfl rfl rfl (by kernel_rfl) ?_
 refine af ?_
 refine ah rfl (fun hc4=>?_) (fun hc4=>?_)
 ·
  have hc4':=of_decide_eq_true hc4
  refine ae aa 2 rfl ?_
  refine az ?_
  refine aq ?_
  have hX:dx b d=(b,(⟨6,0⟩:Answer)):=by
    unfold dx;simp only [hdn,Bool.false_eq_true,if_false];(repeat' split)<;>first|rfl|omega|(exfalso;omega)|(simp_all;done)|(simp_all;omega)
  rw [hX] at hr;clear hX
  simp only [Prod.mk.injEq] at hr;obtain ⟨rfl,rfl⟩:=hr
  refine an aa [0,1,2,3,4,5] 5 rfl rfl rfl rfl rfl rfl ?_ ?_
  all_goals first|rfl|(simp [ay,aY,bf];done)|(simp [ay,aY,bf];omega)
 have hc4':=of_decide_eq_false hc4
 refine aQ ?_
 refine ag ?_
 obtain ⟨x1,hx1⟩:=ck (xs:=b.ax) (i:=Int.toNat (d.n)) (by first|omega|(simp;done)|(simp;omega))
 refine ba [0,1,4] [5,0,1,2,3,4] mixed rfl rfl ?_
 refine aE (kn:=[]) aa 9 rfl trivial ?_
 refine aU (n':=6) [41,45] [3] rfl rfl (.inl ⟨(ak.plain rfl),aM.cast (bA (i:=Int.toNat (d.n)) rfl rfl rfl Try.underlying31 nc (by first|omega|(simp;done)|(simp;omega)) (by first|omega|(simp;done)|(simp;omega))) rfl⟩) rfl ?_
 refine aU (n':=6) [46] [3] rfl rfl (.inl ⟨(ak.plain rfl),aM.cast (dm rfl rfl rfl Try.underlying67 rfl nc (bw hx1) rfl) rfl⟩) rfl ?_
 refine aE (n':=7) (kn:=[]) aa 1 rfl trivial ?_
 refine bC [6,5,0,1,2,3,4] rfl rfl rfl rfl (by kernel_rfl) ?_
 refine ad aa 1 rfl ?_
 refine af ?_
 refine ag ?_
 obtain ⟨b0,e0,hr0⟩:∃ (b0:bF) (e0:Int),bV x1 d.move d.sum=(b0,e0):=⟨_,_,rfl⟩
 refine dg [0,1,4,5] [6,5,0,1,2,3,4] mixed rfl rfl ?_
 refine ca (kn:=[]) aa 9 rfl trivial ?_
 refine cg (n':=7) [49,53,57] [] rfl rfl (.inl ⟨(ak.plain rfl),aM.cast (bQ 7 (yn x1 d.move d.sum b0 e0 hr0) IW rfl rfl ⟨⟨_,rfl,.g ⟨.d _,.d _,.d _,.d _,.d _,.d _,.d _,.d _,trivial⟩⟩,⟨_,rfl,.c (.d _)⟩,⟨_,rfl,.c (.d _)⟩,trivial⟩ ⟨⟨trivial,trivial,trivial,trivial,trivial,trivial,trivial,trivial,trivial⟩,trivial,trivial⟩ trivial rfl rfl rfl rfl) rfl⟩) rfl ?_
 refine ca (n':=8) (kn:=[]) aa 6 rfl trivial ?_
 refine dX [0,1,4,5,6,7] [7,6,5,0,1,2,3,4] rfl rfl (by kernel_rfl) ?_
 refine then_ok ?_
 refine ag ?_
 refine ae aa 2 rfl ?_
 refine ah rfl (fun hc5=>?_) (fun hc5=>?_)
 ·
  have hc5':=of_decide_eq_true hc5
  refine ae aa 3 rfl ?_
  refine az ?_
  refine aq ?_
  have hX:dx b d=(b,(⟨e0,0⟩:Answer)):=by
    unfold dx;simp only [hdn,Bool.false_eq_true,if_false];rw [if_neg (by omega),hx1];dsimp only;simp only [hr0];(repeat' split)<;>first|rfl|omega|(exfalso;omega)|(simp_all;done)|(simp_all;omega)
  rw [hX] at hr;clear hX
  simp only [Prod.mk.injEq] at hr;obtain ⟨rfl,rfl⟩:=hr
  refine an aa [0,1,2,3,4,5] 5 rfl rfl rfl rfl rfl rfl ?_ ?_
  all_goals first|rfl|(simp [ay,aY,bf];done)|(simp [ay,aY,bf];omega)
 have hc5':=of_decide_eq_false hc5
 refine aQ ?_
 obtain ⟨mw1,mw2,mc,ms,mk1,mk2,mn1,mn2⟩:=nm (show bV x1 d.move d.sum=(b0,0) by rw [hr0];congr 1;omega)
 have hoP:=okp x1 (List.mem_of_getElem? hx1)
 have hI0:∀ t∈b.s0.kept,gi t.number:=fun t ht=>(okk0 t ht).1
 have hI1:∀ t∈b.s1.kept,gi t.number:=fun t ht=>(okk1 t ht).1
 refine aH aa 1 rfl ?_
 refine aN 17 [0,8,9,10,11,12,13,14,15,16,7,6,5] (cL id (bd [0,8,9,10,11,12,13,14,15,16]) (kW (x 17) (x 19) b (by first|omega|(simp;done)|(simp;omega)) (by first|omega|(simp;done)|(simp;omega)) (by first|omega|(simp;done)|(simp;omega)) (by first|omega|(simp;done)|(simp;omega))) rL rfl rfl ⟨⟨_,rfl,.inl ⟨rfl,rfl⟩⟩,trivial⟩ ⟨rfl,rfl,rfl,rfl,rfl,trivial⟩ rfl rfl rfl rfl rfl rfl trivial ⟨⟨trivial,trivial,trivial,trivial,trivial,trivial,trivial,trivial,trivial,trivial,trivial,trivial,trivial,trivial,trivial,trivial,trivial,trivial,trivial,trivial,trivial⟩,⟨trivial,trivial,trivial,trivial,trivial,trivial,trivial,trivial,trivial,trivial,trivial,trivial,trivial,trivial,trivial,trivial,trivial,trivial,trivial,trivial,trivial⟩,(fun _ _ _ _=>trivial),(fun _ _ _ _=>trivial),(fun _ _ _ _=>trivial),(fun _ _ _ _=>trivial),(fun _ _ _ _=>trivial),(fun _ _ _ _=>trivial),(fun _ _ _ _=>trivial),(fun _ _ _ _=>trivial),trivial⟩ rfl rfl rfl rfl) rfl ?_
 refine ad aa 1 rfl ?_
 refine af ?_
 refine ag ?_
 obtain ⟨e1,hr1⟩:∃ (e1:Int),bB b0=e1:=⟨_,rfl⟩
 have hhb1:=pG (show bG b0=0 by assumption)
 rw [hr1] at hhb1
 obtain ⟨e2,hr2⟩:∃ (e2:Int),bB x1=e2:=⟨_,rfl⟩
 have hhb2:=pG (show bG x1=0 by assumption)
 rw [hr2] at hhb2
 refine ba [0,1,4,5,6,8] [0,8,9,10,11,12,13,14,15,16,7,6,5] mixed rfl rfl ?_
 refine aE (kn:=[]) aa 1 rfl trivial ?_
 refine aU (n':=17) [67] [] rfl rfl (.inl ⟨(ak.plain rfl),aM.cast (bQ 17 (lg b0 (by first|assumption|omega|rfl|decide) e1 hr1) Aa rfl rfl ⟨⟨_,rfl,.g ⟨.d _,.d _,.d _,.d _,.d _,.d _,.d _,.d _,trivial⟩⟩,trivial⟩ trivial trivial rfl rfl rfl rfl) rfl⟩) rfl ?_
 refine aE (kn:=[]) aa 1 rfl trivial ?_
 refine aU (n':=17) [69] [] rfl rfl (.inl ⟨(ak.plain rfl),aM.cast (bQ 17 (lg x1 (by first|assumption|omega|rfl|decide) e2 hr2) Aa rfl rfl ⟨⟨_,rfl,.g ⟨.d _,.d _,.d _,.d _,.d _,.d _,.d _,.d _,trivial⟩⟩,trivial⟩ trivial trivial rfl rfl rfl rfl) rfl⟩) rfl ?_
 refine aU (n':=17) [68,70] [] rfl rfl (.inl ⟨(ak.plain rfl),aM.cast (aL rfl rfl rfl (aJ (by first|omega|(simp;done)|(simp;omega)))) rfl⟩) rfl ?_
 refine aE (kn:=[]) aa 1 rfl trivial ?_
 refine bC [0,8,9,10,11,12,13,14,15,16,7,6,5] rfl rfl rfl rfl (by kernel_rfl) ?_
 refine af ?_
 refine ag ?_
 refine xO (J:=⟨[(0,(aC (.p 0 0 0 0))),(1,(aC (.q (cQ d) 0))),(4,(aC (.p 5 0 0 0))),(6,(aC (.p 7 0 0 0))),(8,(aC (.p 8 0 0 0))),(9,(aI (e1 - e2))),(93,(aB (decide (d.move=1/\d.sum > lz b.aw b0.aO))))],[(0,(.box 98 (aY b 9 10 11 12 (.d (.v (x 17))) (.d (.v (x 19)))))),(8,(.box 147 (aY b 13 14 15 16 (.d (.v (x 17))) (cI 0)))),(9,(dW b.aw)),(10,(dP b.due)),(11,(ed b.ax)),(12,(cS b.aR)),(13,(dW b.aw)),(14,(dP b.due)),(15,(ed b.ax)),(16,(cS b.aR)),(7,(.box 67 [(cI b0.aO),(cI b0.aD),(cI b0.sum),(cI b0.captured),(cI b0.bD),(cI b0.bq),(cI b0.cY),(cB b0.shut)])),(5,(.box 65 [(cI 0),(cI 0)]))],17⟩) ?_ ?_
 ·
  rcases Bool.eq_false_or_eq_true (decide (d.move=1)) with hb6|hb6
  ·
   have hb6':=of_decide_eq_true hb6
   obtain ⟨x2,hx2⟩:=ck (xs:=b.aw) (i:=Int.toNat (b0.aO)) (by first|omega|(simp;done)|(simp;omega))
   have hx2g:=Cz (okg x2 (List.mem_of_getElem? hx2))
   refine ba [0,1,4,6,8,9] [0,8,9,10,11,12,13,14,15,16,7,5] mixed rfl rfl ?_
   refine aE (kn:=[(76,true)]) aa 17 rfl ⟨hb6,trivial⟩ ?_
   refine aU (n':=17) [86,88,77] [13] rfl rfl (.inl ⟨(ak.yes rfl rfl rfl),aM.cast (bA (i:=Int.toNat (b0.aO)) rfl rfl rfl Try.underlying29 jE (by first|omega|(simp;done)|(simp;omega)) (by first|omega|(simp;done)|(simp;omega))) rfl⟩) rfl ?_
   refine aU (n':=17) [89,77] [13] rfl rfl (.inl ⟨(ak.yes rfl rfl rfl),aM.cast (dm rfl rfl rfl Try.underlying61 rfl jE (bw hx2) rfl) rfl⟩) rfl ?_
   refine aU (n':=17) [90,77] [] rfl rfl (.inl ⟨(ak.yes rfl rfl rfl),aM.cast (bQ 17 (qU x2 (by first|assumption|omega|(constructor<;>decide)|(have hz:=gO (by first|assumption|omega);omega))) GW rfl rfl ⟨⟨_,rfl,.g ⟨.d _,.d _,.d _,.d _,.d _,.d _,trivial⟩⟩,trivial⟩ trivial trivial rfl rfl rfl rfl) rfl⟩) rfl ?_
   refine aE (kn:=[]) aa 2 rfl trivial ?_
   refine bC [0,8,9,10,11,12,13,14,15,16,7,5] rfl rfl rfl rfl (by kernel_rfl) ?_
   refine af ?_
   rw [show (decide (d.move=1/\d.sum > lz b.aw b0.aO))=(decide (d.sum > (x2.bx - x2.held))) by (unfold lz;rw [hx2];dsimp only;first|(simp_all;done)|(simp_all;omega))]
   exact aF.bW id (⟨rfl,rfl,rfl,rfl,rfl,rfl,rfl,trivial⟩) (⟨rfl,rfl,rfl,rfl,rfl,rfl,rfl,rfl,rfl,rfl,rfl,rfl,trivial⟩) rfl
  have hb6':=of_decide_eq_false hb6
  refine ba [0,1,4,6,8,9] [0,8,9,10,11,12,13,14,15,16,7,5] mixed rfl rfl ?_
  refine aE (kn:=[(76,false)]) aa 22 rfl ⟨hb6,trivial⟩ ?_
  refine bC [0,8,9,10,11,12,13,14,15,16,7,5] rfl rfl rfl rfl (by kernel_rfl) ?_
  refine af ?_
  rw [show (decide (d.move=1/\d.sum > lz b.aw b0.aO))=(false) by (unfold lz;first|(simp_all;done)|(simp_all;omega))]
  exact aF.bW id (⟨rfl,rfl,rfl,rfl,rfl,rfl,rfl,trivial⟩) (⟨rfl,rfl,rfl,rfl,rfl,rfl,rfl,rfl,rfl,rfl,rfl,rfl,trivial⟩) rfl
 refine ah rfl (fun hc7=>?_) (fun hc7=>?_)
 ·
  have hc7':=of_decide_eq_true hc7
  refine ae aa 2 rfl ?_
  refine az ?_
  refine aq ?_
  have hX:dx b d=(b,(⟨10,0⟩:Answer)):=by
    unfold dx;simp only [hdn,Bool.false_eq_true,if_false];rw [if_neg (by omega),hx1];dsimp only;simp only [hr0];(repeat' split)<;>first|rfl|omega|(exfalso;omega)|(simp_all;done)|(simp_all;omega)
  rw [hX] at hr;clear hX
  simp only [Prod.mk.injEq] at hr;obtain ⟨rfl,rfl⟩:=hr
  refine an aa [0,9,10,11,12,5] 5 rfl rfl rfl rfl rfl rfl ?_ ?_
  all_goals first|rfl|(simp [ay,aY,bf];done)|(simp [ay,aY,bf];omega)
 have hc7':=of_decide_eq_false hc7
 refine aQ ?_
 refine ag ?_
 refine ba [0,1,4,6,8,9] [0,8,9,10,11,12,13,14,15,16,7,5] mixed rfl rfl ?_
 refine aE (kn:=[]) aa 2 rfl trivial ?_
 refine aU (n':=17) [96] [] rfl rfl (.inl ⟨(ak.plain rfl),aM.cast (aL rfl rfl rfl (aJ (by first|omega|(simp;done)|(simp;omega)))) rfl⟩) rfl ?_
 refine aE (n':=18) (kn:=[]) aa 11 rfl trivial ?_
 refine bC [17,0,8,9,10,11,12,13,14,15,16,7,5] rfl rfl rfl rfl (by kernel_rfl) ?_
 refine ad aa 1 rfl ?_
 refine af ?_
 obtain ⟨jcards,jdue,jbook,js0,js1,je,hj⟩:∃ (jcards:List bE) (jdue:List Int) (jbook:List Entry) (js0:bX) (js1:bX) (je:Int),dS b b0 x1 d=(jcards,jdue,jbook,js0,js1,je):=⟨_,_,_,_,_,_,rfl⟩
 have hj0:=hj
 refine xO (J:=⟨[(0,(aC (.p 0 0 0 0))),(1,(aC (.q (cQ d) 0))),(4,(aC (.p 5 0 0 0))),(6,(aC (.p 7 0 0 0))),(8,(aC (.p 8 0 0 0)))],[(0,(.box 98 (aY b 9 10 11 12 (.d (.v (x 17))) (.d (.v (x 19)))))),(8,(.box 147 ((((((((aY b 13 14 15 16 (.d (.v (x 17))) (cI je)).set 2 (.s 13 0 6 jcards.length)).set 3 (.s 14 0 1 jdue.length)).set 5 (cI js0.bL)).set 6 (dn js0.kept)).set 7 (cI js1.bL)).set 8 (dn js1.kept)).set 18 (eb jbook)))),(9,(dW b.aw)),(10,(dP b.due)),(11,(ed b.ax)),(12,(cS b.aR)),(13,(dW jcards)),(14,(dP jdue)),(15,(ed b.ax)),(16,(cS b.aR)),(7,(.box 67 [(cI b0.aO),(cI b0.aD),(cI b0.sum),(cI b0.captured),(cI b0.bD),(cI b0.bq),(cI b0.cY),(cB b0.shut)])),(5,(.box 65 [(cI 0),(cI 0)]))],17⟩) ?_ ?_
 ·
  refine ae aa 4 rfl ?_
  refine aX ?_
  refine ag ?_
  refine ae aa 2 rfl ?_
  refine ah rfl (fun hc8=>?_) (fun hc8=>?_)
  ·
   have hc8':=of_decide_eq_true hc8
   refine aQ ?_
   refine ah rfl (fun _=>?_) (fun hno=>absurd (hc8.symm.trans hno) (by decide))
   refine au ?_
   refine ad aa 4 rfl ?_
   obtain ⟨l23,e23,hr3⟩:∃ (l23:List bE) (e23:Int),cG b.aw 0 b0.aO (e1 - e2) 0=(l23,e23):=⟨_,_,rfl⟩
   refine aN 19 [8,18,17,0,9,10,11,12,14,15,16,7,5] (cr (bd [8,13]) (bd [8,18]) (ms:=((dG.set 2 (some (.s 1 0 6 b.aw.length))).set 19 (some (cI 0)))) (ms':=((dG.set 2 (some (.s 1 0 6 l23.length))).set 19 (some (cI e23)))) (fun x hx=>jy x hx b.aw 0 b0.aO (e1 - e2) 0 (by first|omega|(simp;done)|(simp;omega)) l23 e23 hr3) ow rfl rfl ⟨⟨_,rfl,.inl ⟨rfl,rfl⟩⟩,⟨_,rfl,.inr (.c (.d _))⟩,⟨_,rfl,.inr (.c (.d _))⟩,⟨_,rfl,.inr (.c (.d _))⟩,trivial⟩ rfl rfl rfl rfl rfl rfl rfl ⟨rfl,trivial⟩ rfl rfl rfl rfl rfl rfl rfl rfl rfl rfl rfl rfl rfl) rfl ?_
   refine bY ?_
   refine bh ?_
   refine then_ok ?_
   have hX:dS b b0 x1 d=(l23,b.due,b.book,b.s0,b.s1,e23):=by
     unfold dS;(try simp only [hr1,hr2,hr3]);(repeat' split)<;>first|rfl|omega|(exfalso;omega)|(simp_all;done)|(simp_all;omega)
   rw [hX] at hj;clear hX;simp only [Prod.mk.injEq] at hj;obtain ⟨rfl,rfl,rfl,rfl,rfl,rfl⟩:=hj
   exact aF.bW (fun k=>if k=13 then 18 else k) (by refine ⟨?_,?_,?_,?_,?_,trivial⟩<;>first|rfl|(simp only [bm];done)|(congr 3;omega)|(congr 4;omega)|(simp only [bn];rfl)) (by refine ⟨?_,?_,?_,?_,?_,?_,?_,?_,?_,?_,?_,?_,trivial⟩<;>first|rfl|(simp only [bm];done)|(congr 3;omega)|(congr 4;omega)|(simp only [bn];rfl)) rfl
  have hc8':=of_decide_eq_false hc8
  refine au ?_
  refine ad aa 2 rfl ?_
  refine af ?_
  refine ah rfl (fun hc10=>?_) (fun hc10=>?_)
  ·
   have hc10':=of_decide_eq_true hc10
   refine au ?_
   refine ad aa 4 rfl ?_
   obtain ⟨l24,e24,hr4⟩:∃ (l24:List bE) (e24:Int),cG b.aw 0 b0.aO (e1 - e2) 0=(l24,e24):=⟨_,_,rfl⟩
   refine aN 19 [8,18,17,0,9,10,11,12,14,15,16,7,5] (cr (bd [8,13]) (bd [8,18]) (ms:=((dG.set 2 (some (.s 1 0 6 b.aw.length))).set 19 (some (cI 0)))) (ms':=((dG.set 2 (some (.s 1 0 6 l24.length))).set 19 (some (cI e24)))) (fun x hx=>jy x hx b.aw 0 b0.aO (e1 - e2) 0 (by first|omega|(simp;done)|(simp;omega)) l24 e24 hr4) ow rfl rfl ⟨⟨_,rfl,.inl ⟨rfl,rfl⟩⟩,⟨_,rfl,.inr (.c (.d _))⟩,⟨_,rfl,.inr (.c (.d _))⟩,⟨_,rfl,.inr (.c (.d _))⟩,trivial⟩ rfl rfl rfl rfl rfl rfl rfl ⟨rfl,trivial⟩ rfl rfl rfl rfl rfl rfl rfl rfl rfl rfl rfl rfl rfl) rfl ?_
   refine bY ?_
   refine bh ?_
   refine then_ok ?_
   have hX:dS b b0 x1 d=(l24,b.due,b.book,b.s0,b.s1,e24):=by
     unfold dS;(try simp only [hr1,hr2,hr4]);(repeat' split)<;>first|rfl|omega|(exfalso;omega)|(simp_all;done)|(simp_all;omega)
   rw [hX] at hj;clear hX;simp only [Prod.mk.injEq] at hj;obtain ⟨rfl,rfl,rfl,rfl,rfl,rfl⟩:=hj
   exact aF.bW (fun k=>if k=13 then 18 else k) (by refine ⟨?_,?_,?_,?_,?_,trivial⟩<;>first|rfl|(simp only [bm];done)|(congr 3;omega)|(congr 4;omega)|(simp only [bn];rfl)) (by refine ⟨?_,?_,?_,?_,?_,?_,?_,?_,?_,?_,?_,?_,trivial⟩<;>first|rfl|(simp only [bm];done)|(congr 3;omega)|(congr 4;omega)|(simp only [bn];rfl)) rfl
  have hc10':=of_decide_eq_false hc10
  refine ag ?_
  refine ae aa 2 rfl ?_
  refine ah rfl (fun hc11=>?_) (fun hc11=>?_)
  ·
   have hc11':=of_decide_eq_true hc11
   refine aQ ?_
   refine ah rfl (fun _=>?_) (fun hno=>absurd (hc11.symm.trans hno) (by decide))
   refine ag ?_
   obtain ⟨l25,e25,hr5⟩:∃ (l25:List bE) (e25:Int),cG b.aw 0 b0.aO (e1 - e2) (0 - d.sum)=(l25,e25):=⟨_,_,rfl⟩
   refine dg [0,1,4,6,8,9,11,10] [17,0,8,9,10,11,12,13,14,15,16,7,5] mixed rfl rfl ?_
   refine ca (kn:=[]) aa 8 rfl trivial ?_
   refine cg (n':=18) [129] [] rfl rfl (.inl ⟨(ak.plain rfl),aM.cast (pJ rfl rfl (aJ (by first|omega|(simp;done)|(simp;omega)))) rfl⟩) rfl ?_
   refine cg (n':=19) [122,124,125,130] [13,8] rfl rfl (.inl ⟨(ak.plain rfl),aM.cast (cr (bd [8,13]) (bd [8,18]) (ms:=((dG.set 2 (some (.s 1 0 6 b.aw.length))).set 19 (some (cI 0)))) (ms':=((dG.set 2 (some (.s 1 0 6 l25.length))).set 19 (some (cI e25)))) (fun x hx=>jy x hx b.aw 0 b0.aO (e1 - e2) (0 - d.sum) (by first|omega|(simp;done)|(simp;omega)) l25 e25 hr5) ow rfl rfl ⟨⟨_,rfl,.inl ⟨rfl,rfl⟩⟩,⟨_,rfl,.inr (.c (.d _))⟩,⟨_,rfl,.inr (.c (.d _))⟩,⟨_,rfl,.inr (.c (.d _))⟩,trivial⟩ rfl rfl rfl rfl rfl rfl rfl ⟨rfl,trivial⟩ rfl rfl rfl rfl rfl rfl rfl rfl rfl rfl rfl rfl rfl) rfl⟩) rfl ?_
   refine dX [0,1,4,6,8,11,10] [18,8,17,0,9,10,11,12,14,15,16,7,5] rfl rfl (by kernel_rfl) ?_
   refine then_ok ?_
   refine aH aa 6 rfl ?_
   obtain ⟨l26,e26,hr6⟩:∃ (l26:List Entry) (e26:Int),dY b.book e25 (10+b0.aO) 1 d.sum=(l26,e26):=⟨_,_,rfl⟩
   refine aN 19 [8,18,17,0,9,10,11,12,14,15,16,7,5] (cr (bd [8]) (bd [8]) (ms:=((dG.set 18 (some (eb b.book))).set 19 (some (cI e25)))) (ms':=((dG.set 18 (some (eb l26))).set 19 (some (cI e26)))) (fun x hx=>jM x hx b.book e25 (10+b0.aO) 1 d.sum l26 e26 hr6) nn rfl rfl ⟨⟨_,rfl,.inl ⟨rfl,rfl⟩⟩,⟨_,rfl,.inr (.c (.d _))⟩,⟨_,rfl,.inr (.c (.d _))⟩,⟨_,rfl,.inr (.c (.d _))⟩,trivial⟩ rfl rfl rfl rfl rfl rfl rfl trivial rfl rfl rfl rfl rfl rfl rfl rfl rfl rfl rfl rfl rfl) rfl ?_
   refine af ?_
   refine ae aa 2 rfl ?_
   refine au ?_
   refine ad aa 2 rfl ?_
   obtain ⟨s27,e27,hr7⟩:∃ (s27:bX) (e27:Int),eM b.s0 e26 (⟨0,1,d.n,d.sum⟩:aT)=(s27,e27):=⟨_,_,rfl⟩
   refine aN 19 [8,18,17,0,9,10,11,12,14,15,16,7,5] (cr (bd [8]) (bd [8]) (ms:=(((dG.set 5 (some (cI b.s0.bL))).set 6 (some (dn b.s0.kept))).set 19 (some (cI e26)))) (ms':=(((dG.set 5 (some (cI s27.bL))).set 6 (some (dn s27.kept))).set 19 (some (cI e27)))) (fun x hx=>ub x hx b.s0 e26 (⟨0,1,d.n,d.sum⟩:aT) (by assumption) s27 e27 hr7) zX rfl rfl ⟨⟨_,rfl,.inl ⟨rfl,rfl⟩⟩,⟨_,rfl,.inr (.c (.d _))⟩,⟨_,rfl,.inr (.g ⟨.d _,.d _,.d _,.d _,trivial⟩)⟩,trivial⟩ rfl rfl rfl rfl rfl rfl rfl trivial rfl rfl rfl rfl rfl rfl rfl rfl rfl rfl rfl rfl rfl) rfl ?_
   refine bY ?_
   refine bh ?_
   refine then_ok ?_
   have hX:dS b b0 x1 d=(l25,b.due,l26,s27,b.s1,e27):=by
     unfold dS;(try simp only [hr1,hr2,hr5,hr6,hr7]);(repeat' split)<;>first|rfl|omega|(exfalso;omega)|(simp_all;done)|(simp_all;omega)
   rw [hX] at hj;clear hX;simp only [Prod.mk.injEq] at hj;obtain ⟨rfl,rfl,rfl,rfl,rfl,rfl⟩:=hj
   exact aF.bW (fun k=>if k=13 then 18 else k) (by refine ⟨?_,?_,?_,?_,?_,trivial⟩<;>first|rfl|(simp only [bm];done)|(congr 3;omega)|(congr 4;omega)|(simp only [bn];rfl)) (by refine ⟨?_,?_,?_,?_,?_,?_,?_,?_,?_,?_,?_,?_,trivial⟩<;>first|rfl|(simp only [bm];done)|(congr 3;omega)|(congr 4;omega)|(simp only [bn];rfl)) rfl
  have hc11':=of_decide_eq_false hc11
  refine au ?_
  refine ad aa 2 rfl ?_
  refine af ?_
  refine ah rfl (fun hc13=>?_) (fun hc13=>?_)
  ·
   have hc13':=of_decide_eq_true hc13
   refine ag ?_
   obtain ⟨l28,e28,hr8⟩:∃ (l28:List bE) (e28:Int),cG b.aw 0 b0.aO (e1 - e2) (0 - d.sum)=(l28,e28):=⟨_,_,rfl⟩
   refine dg [0,1,4,6,8,9,11,10] [17,0,8,9,10,11,12,13,14,15,16,7,5] mixed rfl rfl ?_
   refine ca (kn:=[]) aa 8 rfl trivial ?_
   refine cg (n':=18) [129] [] rfl rfl (.inl ⟨(ak.plain rfl),aM.cast (pJ rfl rfl (aJ (by first|omega|(simp;done)|(simp;omega)))) rfl⟩) rfl ?_
   refine cg (n':=19) [122,124,125,130] [13,8] rfl rfl (.inl ⟨(ak.plain rfl),aM.cast (cr (bd [8,13]) (bd [8,18]) (ms:=((dG.set 2 (some (.s 1 0 6 b.aw.length))).set 19 (some (cI 0)))) (ms':=((dG.set 2 (some (.s 1 0 6 l28.length))).set 19 (some (cI e28)))) (fun x hx=>jy x hx b.aw 0 b0.aO (e1 - e2) (0 - d.sum) (by first|omega|(simp;done)|(simp;omega)) l28 e28 hr8) ow rfl rfl ⟨⟨_,rfl,.inl ⟨rfl,rfl⟩⟩,⟨_,rfl,.inr (.c (.d _))⟩,⟨_,rfl,.inr (.c (.d _))⟩,⟨_,rfl,.inr (.c (.d _))⟩,trivial⟩ rfl rfl rfl rfl rfl rfl rfl ⟨rfl,trivial⟩ rfl rfl rfl rfl rfl rfl rfl rfl rfl rfl rfl rfl rfl) rfl⟩) rfl ?_
   refine dX [0,1,4,6,8,11,10] [18,8,17,0,9,10,11,12,14,15,16,7,5] rfl rfl (by kernel_rfl) ?_
   refine then_ok ?_
   refine aH aa 6 rfl ?_
   obtain ⟨l29,e29,hr9⟩:∃ (l29:List Entry) (e29:Int),dY b.book e28 (10+b0.aO) 1 d.sum=(l29,e29):=⟨_,_,rfl⟩
   refine aN 19 [8,18,17,0,9,10,11,12,14,15,16,7,5] (cr (bd [8]) (bd [8]) (ms:=((dG.set 18 (some (eb b.book))).set 19 (some (cI e28)))) (ms':=((dG.set 18 (some (eb l29))).set 19 (some (cI e29)))) (fun x hx=>jM x hx b.book e28 (10+b0.aO) 1 d.sum l29 e29 hr9) nn rfl rfl ⟨⟨_,rfl,.inl ⟨rfl,rfl⟩⟩,⟨_,rfl,.inr (.c (.d _))⟩,⟨_,rfl,.inr (.c (.d _))⟩,⟨_,rfl,.inr (.c (.d _))⟩,trivial⟩ rfl rfl rfl rfl rfl rfl rfl trivial rfl rfl rfl rfl rfl rfl rfl rfl rfl rfl rfl rfl rfl) rfl ?_
   refine af ?_
   refine ae aa 2 rfl ?_
   refine au ?_
   refine ad aa 2 rfl ?_
   obtain ⟨s210,e210,hr10⟩:∃ (s210:bX) (e210:Int),eM b.s0 e29 (⟨0,1,d.n,d.sum⟩:aT)=(s210,e210):=⟨_,_,rfl⟩
   refine aN 19 [8,18,17,0,9,10,11,12,14,15,16,7,5] (cr (bd [8]) (bd [8]) (ms:=(((dG.set 5 (some (cI b.s0.bL))).set 6 (some (dn b.s0.kept))).set 19 (some (cI e29)))) (ms':=(((dG.set 5 (some (cI s210.bL))).set 6 (some (dn s210.kept))).set 19 (some (cI e210)))) (fun x hx=>ub x hx b.s0 e29 (⟨0,1,d.n,d.sum⟩:aT) (by assumption) s210 e210 hr10) zX rfl rfl ⟨⟨_,rfl,.inl ⟨rfl,rfl⟩⟩,⟨_,rfl,.inr (.c (.d _))⟩,⟨_,rfl,.inr (.g ⟨.d _,.d _,.d _,.d _,trivial⟩)⟩,trivial⟩ rfl rfl rfl rfl rfl rfl rfl trivial rfl rfl rfl rfl rfl rfl rfl rfl rfl rfl rfl rfl rfl) rfl ?_
   refine bY ?_
   refine bh ?_
   refine then_ok ?_
   have hX:dS b b0 x1 d=(l28,b.due,l29,s210,b.s1,e210):=by
     unfold dS;(try simp only [hr1,hr2,hr8,hr9,hr10]);(repeat' split)<;>first|rfl|omega|(exfalso;omega)|(simp_all;done)|(simp_all;omega)
   rw [hX] at hj;clear hX;simp only [Prod.mk.injEq] at hj;obtain ⟨rfl,rfl,rfl,rfl,rfl,rfl⟩:=hj
   exact aF.bW (fun k=>if k=13 then 18 else k) (by refine ⟨?_,?_,?_,?_,?_,trivial⟩<;>first|rfl|(simp only [bm];done)|(congr 3;omega)|(congr 4;omega)|(simp only [bn];rfl)) (by refine ⟨?_,?_,?_,?_,?_,?_,?_,?_,?_,?_,?_,?_,trivial⟩<;>first|rfl|(simp only [bm];done)|(congr 3;omega)|(congr 4;omega)|(simp only [bn];rfl)) rfl
  have hc13':=of_decide_eq_false hc13
  refine ae aa 2 rfl ?_
  refine ah rfl (fun hc14=>?_) (fun hc14=>?_)
  ·
   have hc14':=of_decide_eq_true hc14
   refine ag ?_
   obtain ⟨x2,hx2⟩:=ck (xs:=b.due) (i:=Int.toNat (b0.aD)) (by first|omega|(simp;done)|(simp;omega))
   refine ba [0,1,4,6,8,11] [17,0,8,9,10,11,12,13,14,15,16,7,5] mixed rfl rfl ?_
   refine aE (kn:=[]) aa 7 rfl trivial ?_
   refine aU (n':=18) [149,151] [14] rfl rfl (.inl ⟨(ak.plain rfl),aM.cast (bA (i:=Int.toNat (b0.aD)) rfl rfl rfl Try.underlying30 fX (by first|omega|(simp;done)|(simp;omega)) (by first|omega|(simp;done)|(simp;omega))) rfl⟩) rfl ?_
   refine aU (n':=18) [152] [14] rfl rfl (.inl ⟨(ak.plain rfl),aM.cast (eU rfl rfl rfl Try.underlying3 rfl (bw hx2) rfl) rfl⟩) rfl ?_
   refine aE (kn:=[]) aa 5 rfl trivial ?_
   refine aU (n':=18) [149,151] [14] rfl rfl (.inl ⟨(ak.plain rfl),aM.cast (bA (i:=Int.toNat (b0.aD)) rfl rfl rfl Try.underlying30 fX (by first|omega|(simp;done)|(simp;omega)) (by first|omega|(simp;done)|(simp;omega))) rfl⟩) rfl ?_
   refine bC [17,0,8,9,10,11,12,13,14,15,16,7,5] rfl rfl rfl rfl (by kernel_rfl) ?_
   refine gI [17,0,8,9,10,11,12,13,14,15,16,7,5] (dU (ds:=[(dI (IntKind.i64.wrap (x2 - d.sum)))]) rfl rfl rfl rfl rfl fX rfl (Nat.le_of_ble_eq_true rfl) (bw hx2) rfl (eZ (x':=(IntKind.i64.wrap (x2 - d.sum))) rfl)) rfl ?_
   refine af ?_
   refine fP (k:=8) (q:=3) (c':=(.s 14 0 1 (((b.due).set (Int.toNat (b0.aD)) (IntKind.i64.wrap (x2 - d.sum))).length))) rfl rfl (by first|rfl|(simp;done)|(congr 1;omega)) rfl ?_
   refine ag ?_
   obtain ⟨l211,e211,hr11⟩:∃ (l211:List Entry) (e211:Int),dY b.book 0 (50+b0.aD) 1 d.sum=(l211,e211):=⟨_,_,rfl⟩
   refine dg [0,1,4,6,8,11] [17,0,8,9,10,11,12,13,14,15,16,7,5] mixed rfl rfl ?_
   refine ca (kn:=[]) aa 3 rfl trivial ?_
   refine cg (n':=18) [162] [] rfl rfl (.inl ⟨(ak.plain rfl),aM.cast (aL rfl rfl rfl (aJ (by first|omega|(simp;done)|(simp;omega)))) rfl⟩) rfl ?_
   refine ca (kn:=[]) aa 4 rfl trivial ?_
   refine cg (n':=18) [160,163,167] [8] rfl rfl (.inl ⟨(ak.plain rfl),aM.cast (cr (bd [8]) (bd [8]) (ms:=((dG.set 18 (some (eb b.book))).set 19 (some (cI 0)))) (ms':=((dG.set 18 (some (eb l211))).set 19 (some (cI e211)))) (fun x hx=>jM x hx b.book 0 (50+b0.aD) 1 d.sum l211 e211 hr11) nn rfl rfl ⟨⟨_,rfl,.inl ⟨rfl,rfl⟩⟩,⟨_,rfl,.inr (.c (.d _))⟩,⟨_,rfl,.inr (.c (.d _))⟩,⟨_,rfl,.inr (.c (.d _))⟩,trivial⟩ rfl rfl rfl rfl rfl rfl rfl trivial rfl rfl rfl rfl rfl rfl rfl rfl rfl rfl rfl rfl rfl) rfl⟩) rfl ?_
   refine dX [0,1,4,6,8,11] [8,17,0,9,10,11,12,13,14,15,16,7,5] rfl rfl (by kernel_rfl) ?_
   refine then_ok ?_
   refine ae aa 2 rfl ?_
   refine au ?_
   refine ad aa 2 rfl ?_
   obtain ⟨s212,e212,hr12⟩:∃ (s212:bX) (e212:Int),eM b.s1 e211 (⟨0,2,d.n,d.sum⟩:aT)=(s212,e212):=⟨_,_,rfl⟩
   refine aN 18 [8,17,0,9,10,11,12,13,14,15,16,7,5] (cr (bd [8]) (bd [8]) (ms:=(((dG.set 7 (some (cI b.s1.bL))).set 8 (some (dn b.s1.kept))).set 19 (some (cI e211)))) (ms':=(((dG.set 7 (some (cI s212.bL))).set 8 (some (dn s212.kept))).set 19 (some (cI e212)))) (fun x hx=>Fy x hx b.s1 e211 (⟨0,2,d.n,d.sum⟩:aT) (by assumption) s212 e212 hr12) zX rfl rfl ⟨⟨_,rfl,.inl ⟨rfl,rfl⟩⟩,⟨_,rfl,.inr (.c (.d _))⟩,⟨_,rfl,.inr (.g ⟨.d _,.d _,.d _,.d _,trivial⟩)⟩,trivial⟩ rfl rfl rfl rfl rfl rfl rfl trivial rfl rfl rfl rfl rfl rfl rfl rfl rfl rfl rfl rfl rfl) rfl ?_
   refine bY ?_
   refine bh ?_
   refine then_ok ?_
   have hX:dS b b0 x1 d=(b.aw,(b.due).set (Int.toNat (b0.aD)) (IntKind.i64.wrap (x2 - d.sum)),l211,b.s0,s212,e212):=by
     unfold dS;simp only [List.getD_eq_getElem?_getD,hx2,Option.getD_some];(try simp only [hr1,hr2,hr11,hr12,hx2]);(repeat' split)<;>first|rfl|omega|(exfalso;omega)|(simp_all;done)|(simp_all;omega)
   rw [hX] at hj;clear hX;simp only [Prod.mk.injEq] at hj;obtain ⟨rfl,rfl,rfl,rfl,rfl,rfl⟩:=hj
   exact aF.bW id (by refine ⟨?_,?_,?_,?_,?_,trivial⟩<;>first|rfl|(simp only [bm];done)|(congr 3;omega)|(congr 4;omega)|(simp only [bn];rfl)) (by refine ⟨?_,?_,?_,?_,?_,?_,?_,?_,?_,?_,?_,?_,trivial⟩<;>first|rfl|(simp only [bm];done)|(congr 3;omega)|(congr 4;omega)|(simp only [bn];rfl)) rfl
  have hc14':=of_decide_eq_false hc14
  refine ae aa 2 rfl ?_
  refine ah rfl (fun hc15=>?_) (fun hc15=>?_)
  ·
   have hc15':=of_decide_eq_true hc15
   refine ag ?_
   obtain ⟨l213,e213,hr13⟩:∃ (l213:List bE) (e213:Int),cG b.aw 0 b0.aO 0 d.sum=(l213,e213):=⟨_,_,rfl⟩
   refine dg [0,1,4,6,8,10] [0,8,9,10,11,12,13,14,15,16,7,5] mixed rfl rfl ?_
   refine ca (kn:=[]) aa 7 rfl trivial ?_
   refine cg (n':=19) [175,177,181] [13,8] rfl rfl (.inl ⟨(ak.plain rfl),aM.cast (cr (bd [8,13]) (bd [8,18]) (ms:=((dG.set 2 (some (.s 1 0 6 b.aw.length))).set 19 (some (cI 0)))) (ms':=((dG.set 2 (some (.s 1 0 6 l213.length))).set 19 (some (cI e213)))) (fun x hx=>jy x hx b.aw 0 b0.aO 0 d.sum (by first|omega|(simp;done)|(simp;omega)) l213 e213 hr13) ow rfl rfl ⟨⟨_,rfl,.inl ⟨rfl,rfl⟩⟩,⟨_,rfl,.inr (.c (.d _))⟩,⟨_,rfl,.inr (.c (.d _))⟩,⟨_,rfl,.inr (.c (.d _))⟩,trivial⟩ rfl rfl rfl rfl rfl rfl rfl ⟨rfl,trivial⟩ rfl rfl rfl rfl rfl rfl rfl rfl rfl rfl rfl rfl rfl) rfl⟩) rfl ?_
   refine dX [0,1,4,6,8,10] [18,8,0,9,10,11,12,14,15,16,7,5] rfl rfl (by kernel_rfl) ?_
   refine then_ok ?_
   refine au ?_
   refine ad aa 6 rfl ?_
   obtain ⟨l214,e214,hr14⟩:∃ (l214:List Entry) (e214:Int),dY b.book e213 2 (10+b0.aO) d.sum=(l214,e214):=⟨_,_,rfl⟩
   refine aN 19 [8,18,0,9,10,11,12,14,15,16,7,5] (cr (bd [8]) (bd [8]) (ms:=((dG.set 18 (some (eb b.book))).set 19 (some (cI e213)))) (ms':=((dG.set 18 (some (eb l214))).set 19 (some (cI e214)))) (fun x hx=>jM x hx b.book e213 2 (10+b0.aO) d.sum l214 e214 hr14) nn rfl rfl ⟨⟨_,rfl,.inl ⟨rfl,rfl⟩⟩,⟨_,rfl,.inr (.c (.d _))⟩,⟨_,rfl,.inr (.c (.d _))⟩,⟨_,rfl,.inr (.c (.d _))⟩,trivial⟩ rfl rfl rfl rfl rfl rfl rfl trivial rfl rfl rfl rfl rfl rfl rfl rfl rfl rfl rfl rfl rfl) rfl ?_
   refine bY ?_
   refine bh ?_
   refine then_ok ?_
   have hX:dS b b0 x1 d=(l213,b.due,l214,b.s0,b.s1,e214):=by
     unfold dS;(try simp only [hr1,hr2,hr13,hr14]);(repeat' split)<;>first|rfl|omega|(exfalso;omega)|(simp_all;done)|(simp_all;omega)
   rw [hX] at hj;clear hX;simp only [Prod.mk.injEq] at hj;obtain ⟨rfl,rfl,rfl,rfl,rfl,rfl⟩:=hj
   exact aF.bW (fun k=>if k=13 then 18 else k) (by refine ⟨?_,?_,?_,?_,?_,trivial⟩<;>first|rfl|(simp only [bm];done)|(congr 3;omega)|(congr 4;omega)|(simp only [bn];rfl)) (by refine ⟨?_,?_,?_,?_,?_,?_,?_,?_,?_,?_,?_,?_,trivial⟩<;>first|rfl|(simp only [bm];done)|(congr 3;omega)|(congr 4;omega)|(simp only [bn];rfl)) rfl
  have hc15':=of_decide_eq_false hc15
  refine ae aa 2 rfl ?_
  refine ah rfl (fun hc16=>?_) (fun hc16=>?_)
  ·
   have hc16':=of_decide_eq_true hc16
   refine ae aa 2 rfl ?_
   refine au ?_
   refine ad aa 2 rfl ?_
   obtain ⟨s215,e215,hr15⟩:∃ (s215:bX) (e215:Int),eM b.s0 0 (⟨0,3,d.n,d.sum⟩:aT)=(s215,e215):=⟨_,_,rfl⟩
   refine aN 18 [8,17,0,9,10,11,12,13,14,15,16,7,5] (cr (bd [8]) (bd [8]) (ms:=(((dG.set 5 (some (cI b.s0.bL))).set 6 (some (dn b.s0.kept))).set 19 (some (cI 0)))) (ms':=(((dG.set 5 (some (cI s215.bL))).set 6 (some (dn s215.kept))).set 19 (some (cI e215)))) (fun x hx=>ub x hx b.s0 0 (⟨0,3,d.n,d.sum⟩:aT) (by assumption) s215 e215 hr15) zX rfl rfl ⟨⟨_,rfl,.inl ⟨rfl,rfl⟩⟩,⟨_,rfl,.inr (.c (.d _))⟩,⟨_,rfl,.inr (.g ⟨.d _,.d _,.d _,.d _,trivial⟩)⟩,trivial⟩ rfl rfl rfl rfl rfl rfl rfl trivial rfl rfl rfl rfl rfl rfl rfl rfl rfl rfl rfl rfl rfl) rfl ?_
   refine bY ?_
   refine bh ?_
   refine then_ok ?_
   have hX:dS b b0 x1 d=(b.aw,b.due,b.book,s215,b.s1,e215):=by
     unfold dS;(try simp only [hr1,hr2,hr15]);(repeat' split)<;>first|rfl|omega|(exfalso;omega)|(simp_all;done)|(simp_all;omega)
   rw [hX] at hj;clear hX;simp only [Prod.mk.injEq] at hj;obtain ⟨rfl,rfl,rfl,rfl,rfl,rfl⟩:=hj
   exact aF.bW id (by refine ⟨?_,?_,?_,?_,?_,trivial⟩<;>first|rfl|(simp only [bm];done)|(congr 3;omega)|(congr 4;omega)|(simp only [bn];rfl)) (by refine ⟨?_,?_,?_,?_,?_,?_,?_,?_,?_,?_,?_,?_,trivial⟩<;>first|rfl|(simp only [bm];done)|(congr 3;omega)|(congr 4;omega)|(simp only [bn];rfl)) rfl
  have hc16':=of_decide_eq_false hc16
  refine ae aa 2 rfl ?_
  refine ah rfl (fun hc17=>?_) (fun hc17=>?_)
  ·
   have hc17':=of_decide_eq_true hc17
   refine ag ?_
   obtain ⟨l216,e216,hr16⟩:∃ (l216:List bE) (e216:Int),cG b.aw 0 b0.aO 0 (0 - d.sum)=(l216,e216):=⟨_,_,rfl⟩
   refine dg [0,1,4,6,8,10] [0,8,9,10,11,12,13,14,15,16,7,5] mixed rfl rfl ?_
   refine ca (kn:=[]) aa 7 rfl trivial ?_
   refine cg (n':=18) [204] [] rfl rfl (.inl ⟨(ak.plain rfl),aM.cast (pJ rfl rfl (aJ (by first|omega|(simp;done)|(simp;omega)))) rfl⟩) rfl ?_
   refine cg (n':=19) [198,200,205] [13,8] rfl rfl (.inl ⟨(ak.plain rfl),aM.cast (cr (bd [8,13]) (bd [8,18]) (ms:=((dG.set 2 (some (.s 1 0 6 b.aw.length))).set 19 (some (cI 0)))) (ms':=((dG.set 2 (some (.s 1 0 6 l216.length))).set 19 (some (cI e216)))) (fun x hx=>jy x hx b.aw 0 b0.aO 0 (0 - d.sum) (by first|omega|(simp;done)|(simp;omega)) l216 e216 hr16) ow rfl rfl ⟨⟨_,rfl,.inl ⟨rfl,rfl⟩⟩,⟨_,rfl,.inr (.c (.d _))⟩,⟨_,rfl,.inr (.c (.d _))⟩,⟨_,rfl,.inr (.c (.d _))⟩,trivial⟩ rfl rfl rfl rfl rfl rfl rfl ⟨rfl,trivial⟩ rfl rfl rfl rfl rfl rfl rfl rfl rfl rfl rfl rfl rfl) rfl⟩) rfl ?_
   refine dX [0,1,4,6,8,10] [18,8,0,9,10,11,12,14,15,16,7,5] rfl rfl (by kernel_rfl) ?_
   refine then_ok ?_
   refine au ?_
   refine ad aa 6 rfl ?_
   obtain ⟨l217,e217,hr17⟩:∃ (l217:List Entry) (e217:Int),dY b.book e216 (10+b0.aO) 2 d.sum=(l217,e217):=⟨_,_,rfl⟩
   refine aN 19 [8,18,0,9,10,11,12,14,15,16,7,5] (cr (bd [8]) (bd [8]) (ms:=((dG.set 18 (some (eb b.book))).set 19 (some (cI e216)))) (ms':=((dG.set 18 (some (eb l217))).set 19 (some (cI e217)))) (fun x hx=>jM x hx b.book e216 (10+b0.aO) 2 d.sum l217 e217 hr17) nn rfl rfl ⟨⟨_,rfl,.inl ⟨rfl,rfl⟩⟩,⟨_,rfl,.inr (.c (.d _))⟩,⟨_,rfl,.inr (.c (.d _))⟩,⟨_,rfl,.inr (.c (.d _))⟩,trivial⟩ rfl rfl rfl rfl rfl rfl rfl trivial rfl rfl rfl rfl rfl rfl rfl rfl rfl rfl rfl rfl rfl) rfl ?_
   refine bY ?_
   refine bh ?_
   refine then_ok ?_
   have hX:dS b b0 x1 d=(l216,b.due,l217,b.s0,b.s1,e217):=by
     unfold dS;(try simp only [hr1,hr2,hr16,hr17]);(repeat' split)<;>first|rfl|omega|(exfalso;omega)|(simp_all;done)|(simp_all;omega)
   rw [hX] at hj;clear hX;simp only [Prod.mk.injEq] at hj;obtain ⟨rfl,rfl,rfl,rfl,rfl,rfl⟩:=hj
   exact aF.bW (fun k=>if k=13 then 18 else k) (by refine ⟨?_,?_,?_,?_,?_,trivial⟩<;>first|rfl|(simp only [bm];done)|(congr 3;omega)|(congr 4;omega)|(simp only [bn];rfl)) (by refine ⟨?_,?_,?_,?_,?_,?_,?_,?_,?_,?_,?_,?_,trivial⟩<;>first|rfl|(simp only [bm];done)|(congr 3;omega)|(congr 4;omega)|(simp only [bn];rfl)) rfl
  have hc17':=of_decide_eq_false hc17
  refine cZ ?_
  refine bh ?_
  refine then_ok ?_
  have hX:dS b b0 x1 d=(b.aw,b.due,b.book,b.s0,b.s1,0):=by
    unfold dS;(try simp only [hr1,hr2]);(repeat' split)<;>first|rfl|omega|(exfalso;omega)|(simp_all;done)|(simp_all;omega)
  rw [hX] at hj;clear hX;simp only [Prod.mk.injEq] at hj;obtain ⟨rfl,rfl,rfl,rfl,rfl,rfl⟩:=hj
  exact aF.bW id (by refine ⟨?_,?_,?_,?_,?_,trivial⟩<;>first|rfl|(simp only [bm];done)|(congr 3;omega)|(congr 4;omega)|(simp only [bn];rfl)) (by refine ⟨?_,?_,?_,?_,?_,?_,?_,?_,?_,?_,?_,?_,trivial⟩<;>first|rfl|(simp only [bm];done)|(congr 3;omega)|(congr 4;omega)|(simp only [bn];rfl)) rfl
 refine ag ?_
 obtain ⟨l218,e218,hr18⟩:∃ (l218:List aj) (e218:Int),iO b.aR je (⟨b0.aD,d.n,d.move,d.sum⟩:aj)=(l218,e218):=⟨_,_,rfl⟩
 refine dg [0,1,4,6,8] [0,8,9,10,11,12,13,14,15,16,7,5] mixed rfl rfl ?_
 refine ca (kn:=[]) aa 16 rfl trivial ?_
 refine cg (n':=18) [214,229] [16,8] rfl rfl (.inl ⟨(ak.plain rfl),aM.cast (cr (bd [8,16]) (bd [8,17]) (ms:=((dG.set 16 (some (.s 1 0 4 b.aR.length))).set 19 (some (cI je)))) (ms':=((dG.set 16 (some (.s 1 0 4 l218.length))).set 19 (some (cI e218)))) (fun x hx=>Hf x hx b.aR je (⟨b0.aD,d.n,d.move,d.sum⟩:aj) (by first|omega|(simp;done)|(simp;omega)) l218 e218 hr18) IV rfl rfl ⟨⟨_,rfl,.inl ⟨rfl,rfl⟩⟩,⟨_,rfl,.inr (.g ⟨.d _,.d _,.d _,.d _,trivial⟩)⟩,trivial⟩ rfl rfl rfl rfl rfl rfl rfl ⟨rfl,trivial⟩ rfl rfl rfl rfl rfl rfl rfl rfl rfl rfl rfl rfl rfl) rfl⟩) rfl ?_
 refine dX [0,1,4,6,8] [17,8,0,9,10,11,12,13,14,15,7,5] rfl rfl (by kernel_rfl) ?_
 refine then_ok ?_
 refine ag ?_
 refine ba [0,1,4,6,8] [17,8,0,9,10,11,12,13,14,15,7,5] mixed rfl rfl ?_
 refine aE (kn:=[]) aa 10 rfl trivial ?_
 refine aU (n':=18) [235,239] [15] rfl rfl (.inl ⟨(ak.plain rfl),aM.cast (bA (i:=Int.toNat (d.n)) rfl rfl rfl Try.underlying31 nc (by first|omega|(simp;done)|(simp;omega)) (by first|omega|(simp;done)|(simp;omega))) rfl⟩) rfl ?_
 refine bC [17,8,0,9,10,11,12,13,14,15,7,5] rfl rfl rfl rfl (by kernel_rfl) ?_
 refine gI [17,8,0,9,10,11,12,13,14,15,7,5] (dU (ds:=[(dI b0.aO),(dI b0.aD),(dI b0.sum),(dI b0.captured),(dI b0.bD),(dI b0.bq),(dI b0.cY),(dB b0.shut)]) rfl rfl rfl rfl rfl nc rfl (Nat.le_of_ble_eq_true rfl) (bw hx1) rfl (eZ (x':=b0) rfl)) rfl ?_
 refine af ?_
 rcases (show e218=0\/¬e218=0 from by omega) with hs18|hs18
 ·
  refine fP (k:=8) (q:=4) (c':=(.s 15 0 8 (((b.ax).set (Int.toNat (d.n)) b0).length))) rfl rfl (by first|rfl|(simp;done)|(congr 1;omega)) rfl ?_
  refine aH aa 2 rfl ?_
  refine aN 22 [0,18,19,20,21,7,5] (cL (bd [0,8,9,10,11,12,13,14,15,17]) (bd [0,18,19,20,21]) (fz (x 17) (x 19) b (⟨b.time,b.down,jcards,jdue,(b.ax).set (Int.toNat (d.n)) b0,js0,js1,b.n0,b.n1,b.w0,b.w1,b.bP,l218,jbook⟩:Bk) e218 (by first|assumption|omega)) fW rfl rfl ⟨⟨_,rfl,.inl ⟨rfl,rfl⟩⟩,⟨_,rfl,.inl ⟨rfl,rfl⟩⟩,trivial⟩ ⟨rfl,rfl,rfl,rfl,rfl,rfl,rfl,rfl,rfl,rfl,trivial⟩ rfl rfl rfl rfl rfl rfl trivial ⟨⟨trivial,trivial,trivial,trivial,trivial,trivial,trivial,trivial,trivial,trivial,trivial,trivial,trivial,trivial,trivial,trivial,trivial,trivial,trivial,trivial,trivial⟩,(fun _ _ _ _=>trivial),(fun _ _ _ _=>trivial),(fun _ _ _ _=>trivial),(fun _ _ _ _=>trivial),trivial⟩ rfl rfl rfl rfl) rfl ?_
  refine ad aa 2 rfl ?_
  refine af ?_
  refine az ?_
  have hX:dx b d=((⟨b.time,b.down,jcards,jdue,(b.ax).set (Int.toNat (d.n)) b0,js0,js1,b.n0,b.n1,b.w0,b.w1,b.bP,l218,jbook⟩:Bk),(⟨e218,0⟩:Answer)):=by
    unfold dx;simp only [hdn,Bool.false_eq_true,if_false];rw [if_neg (by omega),hx1];dsimp only;simp only [hr0,hj0];unfold mT dL;simp only [hr18];(repeat' split)<;>first|rfl|omega|(exfalso;omega)|(simp_all;done)|(simp_all;omega)
  rw [hX] at hr;clear hX
  simp only [Prod.mk.injEq] at hr;obtain ⟨rfl,rfl⟩:=hr
  refine an aa [0,18,19,20,21,5] 5 rfl rfl rfl rfl rfl rfl ?_ ?_
  all_goals first|rfl|(simp [ay,aY,bf];done)|(simp [ay,aY,bf];omega)
 refine fP (k:=8) (q:=4) (c':=(.s 15 0 8 (((b.ax).set (Int.toNat (d.n)) b0).length))) rfl rfl (by first|rfl|(simp;done)|(congr 1;omega)) rfl ?_
 refine aH aa 2 rfl ?_
 refine aN 22 [0,18,19,20,21,7,5] (cL (bd [0,8,9,10,11,12,13,14,15,17]) (bd [0,18,19,20,21]) (gu (x 17) (x 19) b (⟨b.time,b.down,jcards,jdue,(b.ax).set (Int.toNat (d.n)) b0,js0,js1,b.n0,b.n1,b.w0,b.w1,b.bP,l218,jbook⟩:Bk) e218 (by first|assumption|omega)) fW rfl rfl ⟨⟨_,rfl,.inl ⟨rfl,rfl⟩⟩,⟨_,rfl,.inl ⟨rfl,rfl⟩⟩,trivial⟩ ⟨rfl,rfl,rfl,rfl,rfl,rfl,rfl,rfl,rfl,rfl,trivial⟩ rfl rfl rfl rfl rfl rfl trivial ⟨⟨trivial,trivial,trivial,trivial,trivial,trivial,trivial,trivial,trivial,trivial,trivial,trivial,trivial,trivial,trivial,trivial,trivial,trivial,trivial,trivial,trivial⟩,(fun _ _ _ _=>trivial),(fun _ _ _ _=>trivial),(fun _ _ _ _=>trivial),(fun _ _ _ _=>trivial),trivial⟩ rfl rfl rfl rfl) rfl ?_
 refine ad aa 2 rfl ?_
 refine af ?_
 refine az ?_
 have hX:dx b d=(b,(⟨e218,0⟩:Answer)):=by
   unfold dx;simp only [hdn,Bool.false_eq_true,if_false];rw [if_neg (by omega),hx1];dsimp only;simp only [hr0,hj0];unfold mT dL;simp only [hr18];(repeat' split)<;>first|rfl|omega|(exfalso;omega)|(simp_all;done)|(simp_all;omega)
 rw [hX] at hr;clear hX
 simp only [Prod.mk.injEq] at hr;obtain ⟨rfl,rfl⟩:=hr
 refine an aa [0,18,19,20,21,5] 5 rfl rfl rfl rfl rfl rfl ?_ ?_
 all_goals first|rfl|(simp [ay,aY,bf];done)|(simp [ay,aY,bf];omega)
theorem Cb (x:Nat->Value) (hx:∀ i,(x i).oneCell'=true) (b:Bk) (d:aW) (ok:cv b) (hdn:b.down=true) (b2:Bk) (a2:Answer) (hr:dx b d=(b2,a2)):cJ Try.prog 64 [(.c (.p 0 0 0 0)),(.c (.q (cQ d) 0))] [(0,(.box 98 (aY b 1 2 3 4 (.d (.v (x 17))) (.d (.v (x 19)))))),(1,(dW b.aw)),(2,(dP b.due)),(3,(ed b.ax)),(4,(cS b.aR))] [0] (.v (.g [cI a2.err,cI a2.bc])) [(0,(.box 98 (aY b2 1 2 3 4 (.d (.v (x 17))) (.d (.v (x 19)))))),(1,(dW b2.aw)),(2,(dP b2.due)),(3,(ed b2.ax)),(4,(cS b2.aR))]:=by
 refine cJ.mk 246 [(0,(aC (.p 0 0 0 0))),(1,(aC (.q (cQ d) 0)))] 5 Try.func64 rfl rfl rfl rfl rfl rfl rfl rfl rfl ?_
 intro W0 F0 T0 pg
 obtain ⟨okt,okc,okd,oka,oky,okw0,okw1,okp,okv,okk0,okk1,okg,okl0,okl1,okp0,okp1,okn0,okn1,okq⟩:=id ok
 refine ae aa 1 rfl ?_
 refine ag ?_
 refine ae aa 5 rfl ?_
 refine ah rfl (fun _=>?_) (fun hno=>absurd (hdn.symm.trans hno) (by decide))
 refine ae aa 2 rfl ?_
 refine az ?_
 refine aq ?_
 have hX:dx b d=(b,(⟨12,0⟩:Answer)):=by
   unfold dx;rw [if_pos hdn]
 rw [hX] at hr;clear hX
 simp only [Prod.mk.injEq] at hr;obtain ⟨rfl,rfl⟩:=hr
 refine an aa [0,1,2,3,4,5] 5 rfl rfl rfl rfl rfl rfl ?_ ?_
 all_goals first|rfl|(simp [ay,aY,bf];done)|(simp [ay,aY,bf];omega)
theorem DY (x:Nat->Value) (hx:∀ i,(x i).oneCell'=true) (b:Bk) (d:aW) (ok:cv b) (b2:Bk) (a2:Answer) (hr:dx b d=(b2,a2)):cJ Try.prog 64 [(.c (.p 0 0 0 0)),(.c (.q (cQ d) 0))] [(0,(.box 98 (aY b 1 2 3 4 (.d (.v (x 17))) (.d (.v (x 19)))))),(1,(dW b.aw)),(2,(dP b.due)),(3,(ed b.ax)),(4,(cS b.aR))] [0] (.v (.g [cI a2.err,cI a2.bc])) [(0,(.box 98 (aY b2 1 2 3 4 (.d (.v (x 17))) (.d (.v (x 19)))))),(1,(dW b2.aw)),(2,(dP b2.due)),(3,(ed b2.ax)),(4,(cS b2.aR))]:=by
  cases hdn:b.down
  ·exact Ca x hx b d ok hdn b2 a2 hr
  ·exact Cb x hx b d ok hdn b2 a2 hr
end Go.Proofs.Ytegepioggeggaaa.Dev
