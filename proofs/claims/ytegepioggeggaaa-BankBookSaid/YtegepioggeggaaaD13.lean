/- A part of the proof: Bank8, Bank9, PlOk. No condition. -/
import Derived.Test.YtegepioggeggaaaD11
set_option linter.unusedVariables false
set_option linter.unusedSimpArgs false
set_option maxHeartbeats 8000000
set_option maxRecDepth 100000
namespace Go.Proofs.Ytegepioggeggaaa.Dev
open Go.RowKit

theorem Fl (x:Nat->Value) (hx:∀ i,(x i).oneCell'=true) (b:Bk) (d:bJ) (ok:cz b) (hdn:b.down=false) (b2:Bk) (a2:Answer) (hr:dK b d=(b2,a2)):cM Try.prog 63 [(.c (.p 0 0 0 0)),(.c (.q (dj d) 0))] [(0,(.box 98 (aZ b 1 2 3 4 (.d (.v (x 17))) (.d (.v (x 19)))))),(1,(dV b.al)),(2,(dL b.due)),(3,(dY b.au)),(4,(cT b.aS))] [0] (.v (.g [cI a2.err,cI a2.bd])) [(0,(.box 98 (aZ b2 1 2 3 4 (.d (.v (x 17))) (.d (.v (x 19)))))),(1,(dV b2.al)),(2,(dL b2.due)),(3,(dY b2.au)),(4,(cT b2.aS))]:=by
 refine cM.mk 214 [(0,(aC (.p 0 0 0 0))),(1,(aC (.q (dj d) 0)))] 5 Try.func63 rfl rfl rfl rfl rfl rfl rfl rfl rfl ?_
 intro W0 F0 T0 pg
 obtain ⟨okt,okc,okd,oka,oky,okw0,okw1,okp,okv,okk0,okk1,okg,okl0,okl1,okp0,okp1,okn0,okn1,okq⟩:=id ok
 refine ae aa 1 rfl ?_
 refine ag ?_
 refine ag ?_
 rcases Bool.eq_false_or_eq_true (decide (d.n < 0)) with hb1|hb1
 ·
  have hb1':=of_decide_eq_true hb1
  refine aX [0,1,4] [5,0,1,2,3,4] mixed rfl rfl ?_
  refine ay (kn:=[(14,true)]) aa 38 rfl ⟨hb1,trivial⟩ ?_
  refine bw [5,0,1,2,3,4] rfl rfl rfl rfl (by kernel_rfl) ?_
  refine af ?_
  refine aj rfl (fun _=>?_) (fun hno=>by cases hno)
  refine ae aa 2 rfl ?_
  refine aA ?_
  refine ax ?_
  have hX:dK b d=(b,(⟨6,0⟩:Answer)):=by
    unfold dK;(try simp only [hdn,Bool.false_eq_true,if_false]);(repeat' split)<;>first|rfl|omega|(exfalso;omega)|(simp_all;done)|(simp_all;omega)
  rw [hX] at hr;clear hX
  simp only [Prod.mk.injEq] at hr;obtain ⟨rfl,rfl⟩:=hr
  refine aq aa [0,1,2,3,4,5] 5 rfl rfl rfl rfl rfl rfl ?_ ?_
  all_goals first|rfl|(simp [aD,aZ,bm];done)|(simp [aD,aZ,bm];omega)
 have hb1':=of_decide_eq_false hb1
 rcases Bool.eq_false_or_eq_true (decide (d.n>=(↑b.al.length:Int))) with hb3|hb3
 ·
  have hb3':=of_decide_eq_true hb3
  refine aX [0,1,4] [5,0,1,2,3,4] mixed rfl rfl ?_
  refine ay (kn:=[(14,false)]) aa 15 rfl ⟨hb1,trivial⟩ ?_
  refine aP (n':=6) [24,15] [1] rfl rfl (.inl ⟨(ah.yes rfl rfl rfl),aJ.cast (dy rfl rfl rfl rfl rfl Try.underlying29) rfl⟩) rfl ?_
  refine ay (kn:=[(26,true)]) aa 22 rfl ⟨hb3,trivial⟩ ?_
  refine bw [5,0,1,2,3,4] rfl rfl rfl rfl (by kernel_rfl) ?_
  refine af ?_
  refine aj rfl (fun _=>?_) (fun hno=>by cases hno)
  refine ae aa 2 rfl ?_
  refine aA ?_
  refine ax ?_
  have hX:dK b d=(b,(⟨6,0⟩:Answer)):=by
    unfold dK;(try simp only [hdn,Bool.false_eq_true,if_false]);(repeat' split)<;>first|rfl|omega|(exfalso;omega)|(simp_all;done)|(simp_all;omega)
  rw [hX] at hr;clear hX
  simp only [Prod.mk.injEq] at hr;obtain ⟨rfl,rfl⟩:=hr
  refine aq aa [0,1,2,3,4,5] 5 rfl rfl rfl rfl rfl rfl ?_ ?_
  all_goals first|rfl|(simp [aD,aZ,bm];done)|(simp [aD,aZ,bm];omega)
 have hb3':=of_decide_eq_false hb3
 rcases Bool.eq_false_or_eq_true (decide (d.aE < 0)) with hb5|hb5
 ·
  have hb5':=of_decide_eq_true hb5
  refine aX [0,1,4] [5,0,1,2,3,4] mixed rfl rfl ?_
  refine ay (kn:=[(14,false)]) aa 15 rfl ⟨hb1,trivial⟩ ?_
  refine aP (n':=6) [24,15] [1] rfl rfl (.inl ⟨(ah.yes rfl rfl rfl),aJ.cast (dy rfl rfl rfl rfl rfl Try.underlying29) rfl⟩) rfl ?_
  refine ay (kn:=[(26,false),(33,true)]) aa 22 rfl ⟨hb3,hb5,trivial⟩ ?_
  refine bw [5,0,1,2,3,4] rfl rfl rfl rfl (by kernel_rfl) ?_
  refine af ?_
  refine aj rfl (fun _=>?_) (fun hno=>by cases hno)
  refine ae aa 2 rfl ?_
  refine aA ?_
  refine ax ?_
  have hX:dK b d=(b,(⟨6,0⟩:Answer)):=by
    unfold dK;(try simp only [hdn,Bool.false_eq_true,if_false]);(repeat' split)<;>first|rfl|omega|(exfalso;omega)|(simp_all;done)|(simp_all;omega)
  rw [hX] at hr;clear hX
  simp only [Prod.mk.injEq] at hr;obtain ⟨rfl,rfl⟩:=hr
  refine aq aa [0,1,2,3,4,5] 5 rfl rfl rfl rfl rfl rfl ?_ ?_
  all_goals first|rfl|(simp [aD,aZ,bm];done)|(simp [aD,aZ,bm];omega)
 have hb5':=of_decide_eq_false hb5
 refine aX [0,1,4] [5,0,1,2,3,4] mixed rfl rfl ?_
 refine ay (kn:=[(14,false)]) aa 15 rfl ⟨hb1,trivial⟩ ?_
 refine aP (n':=6) [24,15] [1] rfl rfl (.inl ⟨(ah.yes rfl rfl rfl),aJ.cast (dy rfl rfl rfl rfl rfl Try.underlying29) rfl⟩) rfl ?_
 refine ay (kn:=[(26,false),(33,false)]) aa 19 rfl ⟨hb3,hb5,trivial⟩ ?_
 refine aP (n':=6) [44,35] [2] rfl rfl (.inl ⟨(ah.yes rfl rfl rfl),aJ.cast (dy rfl rfl rfl rfl rfl Try.underlying30) rfl⟩) rfl ?_
 refine ay (kn:=[]) aa 2 rfl trivial ?_
 refine bw [5,0,1,2,3,4] rfl rfl rfl rfl (by kernel_rfl) ?_
 refine af ?_
 refine aj rfl (fun hc7=>?_) (fun hc7=>?_)
 ·
  have hc7':=of_decide_eq_true hc7
  refine ae aa 2 rfl ?_
  refine aA ?_
  refine ax ?_
  have hX:dK b d=(b,(⟨6,0⟩:Answer)):=by
    unfold dK;(try simp only [hdn,Bool.false_eq_true,if_false]);(repeat' split)<;>first|rfl|omega|(exfalso;omega)|(simp_all;done)|(simp_all;omega)
  rw [hX] at hr;clear hX
  simp only [Prod.mk.injEq] at hr;obtain ⟨rfl,rfl⟩:=hr
  refine aq aa [0,1,2,3,4,5] 5 rfl rfl rfl rfl rfl rfl ?_ ?_
  all_goals first|rfl|(simp [aD,aZ,bm];done)|(simp [aD,aZ,bm];omega)
 have hc7':=of_decide_eq_false hc7
 refine aQ ?_
 refine ag ?_
 refine ae aa 5 rfl ?_
 refine aj rfl (fun hno=>absurd (hdn.symm.trans hno) (by decide)) (fun _=>?_)
 refine aQ ?_
 refine ag ?_
 obtain ⟨b0,e0,hr0⟩:∃ (b0:bC) (e0:Int),dm d.n d.aE d.sum b.time=(b0,e0):=⟨_,_,rfl⟩
 refine di [0,1,4] [5,0,1,2,3,4] mixed rfl rfl ?_
 refine bW (kn:=[]) aa 17 rfl trivial ?_
 refine cb (n':=6) [123,127,131,136] [] rfl rfl (.inl ⟨(ah.plain rfl),aJ.cast (bU 6 (sc d.n d.aE d.sum b.time b0 e0 hr0) EK rfl rfl ⟨⟨_,rfl,.c (.d _)⟩,⟨_,rfl,.c (.d _)⟩,⟨_,rfl,.c (.d _)⟩,⟨_,rfl,.c (.d _)⟩,trivial⟩ ⟨⟨trivial,trivial,trivial,trivial,trivial,trivial,trivial,trivial,trivial⟩,trivial,trivial⟩ trivial rfl rfl rfl rfl) rfl⟩) rfl ?_
 refine bW (n':=7) (kn:=[]) aa 6 rfl trivial ?_
 refine dW [0,1,4,7,8] [6,5,0,1,2,3,4] rfl rfl (by kernel_rfl) ?_
 refine then_ok ?_
 refine ag ?_
 refine cr 150 ((decide (e0=0)) && (decide ((↑b.au.length:Int)=30))) ?_ ?_
 ·
  refine aw ?_
  refine ad aa 3 rfl ?_
  refine bK (t:=142) rfl (fun hb9=>?_) (fun hb9=>?_)
  ·
   have hb9':=of_decide_eq_true hb9
   refine ad aa 5 rfl ?_
   refine cD (ah.yes rfl rfl rfl) (dy rfl rfl rfl rfl rfl Try.underlying31) rfl rfl ?_
   refine ad aa 2 rfl ?_
   refine af ?_
   exact aF.bF 12 rfl rfl (by first|(simp [hb9];done)|(simp_all;done)|(exfalso;simp_all;done)|(simp_all;omega)) rfl
  have hb9':=of_decide_eq_false hb9
  refine ad aa 8 rfl ?_
  refine af ?_
  exact aF.bF 12 rfl rfl (by first|(simp [hb9];done)|(simp_all;done)|(exfalso;simp_all;done)|(simp_all;omega)) rfl
 refine aj rfl (fun hc10=>?_) (fun hc10=>?_)
 ·
  have hc10':=hc10;try simp only [bx,bV] at hc10'
  refine aw ?_
  refine ad aa 1 rfl ?_
  refine af ?_
  refine ag ?_
  refine aH aa 1 rfl ?_
  refine az (aK rfl rfl rfl (show _=some (Value.bool true) from rfl)) rfl ?_
  refine af ?_
  refine aj rfl (fun _=>?_) (fun hno=>by cases hno)
  refine ae aa 3 rfl ?_
  refine aA ?_
  refine ax ?_
  have hX:dK b d=(b,(⟨5,0⟩:Answer)):=by
    unfold dK;(try simp only [hdn,Bool.false_eq_true,if_false,hr0]);(repeat' split)<;>first|rfl|omega|(exfalso;omega)|(simp_all;done)|(simp_all;omega)
  rw [hX] at hr;clear hX
  simp only [Prod.mk.injEq] at hr;obtain ⟨rfl,rfl⟩:=hr
  refine aq aa [0,1,2,3,4,5] 5 rfl rfl rfl rfl rfl rfl ?_ ?_
  all_goals first|rfl|(simp [aD,aZ,bm];done)|(simp [aD,aZ,bm];omega)
 have hc10':=hc10;try simp only [bx,bV] at hc10'
 refine aQ ?_
 refine ag ?_
 refine ae aa 2 rfl ?_
 refine aj rfl (fun hc12=>?_) (fun hc12=>?_)
 ·
  have hc12':=of_decide_eq_true hc12
  refine ae aa 3 rfl ?_
  refine aA ?_
  refine ax ?_
  have hX:dK b d=(b,(⟨e0,0⟩:Answer)):=by
    unfold dK;(try simp only [hdn,Bool.false_eq_true,if_false,hr0]);(repeat' split)<;>first|rfl|omega|(exfalso;omega)|(simp_all;done)|(simp_all;omega)
  rw [hX] at hr;clear hX
  simp only [Prod.mk.injEq] at hr;obtain ⟨rfl,rfl⟩:=hr
  refine aq aa [0,1,2,3,4,5] 5 rfl rfl rfl rfl rfl rfl ?_ ?_
  all_goals first|rfl|(simp [aD,aZ,bm];done)|(simp [aD,aZ,bm];omega)
 have hc12':=of_decide_eq_false hc12
 refine aQ ?_
 refine ag ?_
 obtain ⟨x1,hx1⟩:=cg (xs:=b.al) (i:=Int.toNat (d.n)) (by first|omega|(simp;done)|(simp;omega))
 obtain ⟨xr1,e1,hr1⟩:∃ (xr1:bD) (e1:Int),dz x1 d.sum b.time=(xr1,e1):=⟨_,_,rfl⟩
 refine di [0,1,4,7] [6,5,0,1,2,3,4] mixed rfl rfl ?_
 refine bW (kn:=[]) aa 9 rfl trivial ?_
 refine cb (n':=7) [160,164] [1] rfl rfl (.inl ⟨(ah.plain rfl),aJ.cast (bz (i:=Int.toNat (d.n)) rfl rfl rfl Try.underlying29 iu (by first|omega|(simp;done)|(simp;omega)) (by first|omega|(simp;done)|(simp;omega))) rfl⟩) rfl ?_
 refine cb (n':=7) [165] [1] rfl rfl (.inl ⟨(ah.plain rfl),aJ.cast (dr rfl rfl rfl Try.underlying61 rfl iu (bj hx1) rfl) rfl⟩) rfl ?_
 refine bW (kn:=[]) aa 9 rfl trivial ?_
 refine cb (n':=7) [166,170,175] [] rfl rfl (.inl ⟨(ah.plain rfl),aJ.cast (bU 7 (Fn.frozen (av':=(.t [(.g [(cI xr1.bE),(cI xr1.held),(cI xr1.bZ.cG),(cI xr1.bZ.count),(cI xr1.bZ.sum),(eL xr1.cW)]),(.c (cI e1))])) (wh x1 d.sum b.time xr1 e1 hr1) ⟨⟨.inl ⟨_,rfl,rfl⟩,.inl ⟨_,rfl,rfl⟩,.inl ⟨_,rfl,rfl⟩,.inl ⟨_,rfl,rfl⟩,.inl ⟨_,rfl,rfl⟩,.inr ⟨_,_,_,_,_,rfl,rfl,rfl,by simp⟩,trivial⟩,.inl ⟨_,rfl,rfl⟩,trivial⟩) Hg rfl rfl ⟨⟨_,rfl,.g ⟨.d _,.d _,.d _,.d _,.d _,.d _,trivial⟩⟩,⟨_,rfl,.c (.d _)⟩,⟨_,rfl,.c (.d _)⟩,trivial⟩ ⟨⟨trivial,trivial,trivial,trivial,trivial,trivial,trivial⟩,trivial,trivial⟩ trivial rfl rfl rfl rfl) rfl⟩) rfl ?_
 refine bW (n':=8) (kn:=[]) aa 6 rfl trivial ?_
 refine dW [0,1,4,7,9,8] [7,6,5,0,1,2,3,4] rfl rfl (by kernel_rfl) ?_
 refine then_ok ?_
 refine ag ?_
 refine ae aa 2 rfl ?_
 refine aj rfl (fun hc13=>?_) (fun hc13=>?_)
 ·
  have hc13':=of_decide_eq_true hc13
  refine ae aa 3 rfl ?_
  refine aA ?_
  refine ax ?_
  have hX:dK b d=(b,(⟨e1,0⟩:Answer)):=by
    unfold dK;(try simp only [hdn,Bool.false_eq_true,if_false,hr0,hr1,hx1]);(repeat' split)<;>first|rfl|omega|(exfalso;omega)|(simp_all;done)|(simp_all;omega)
  rw [hX] at hr;clear hX
  simp only [Prod.mk.injEq] at hr;obtain ⟨rfl,rfl⟩:=hr
  refine aq aa [0,1,2,3,4,5] 5 rfl rfl rfl rfl rfl rfl ?_ ?_
  all_goals first|rfl|(simp [aD,aZ,bm];done)|(simp [aD,aZ,bm];omega)
 have hc13':=of_decide_eq_false hc13
 refine aQ ?_
 refine ag ?_
 refine aX [0,1,4,7,9] [7,6,5,0,1,2,3,4] mixed rfl rfl ?_
 refine ay (kn:=[]) aa 10 rfl trivial ?_
 refine aP (n':=8) [187,191] [1] rfl rfl (.inl ⟨(ah.plain rfl),aJ.cast (bz (i:=Int.toNat (d.n)) rfl rfl rfl Try.underlying29 iu (by first|omega|(simp;done)|(simp;omega)) (by first|omega|(simp;done)|(simp;omega))) rfl⟩) rfl ?_
 refine bw [7,6,5,0,1,2,3,4] rfl rfl rfl rfl (by kernel_rfl) ?_
 refine gw [7,6,5,0,1,2,3,4] (dS (ds:=[(dI xr1.bE),(dI xr1.held),(dI xr1.bZ.cG),(dI xr1.bZ.count),(dI xr1.bZ.sum),(EZ xr1.cW)]) rfl rfl rfl rfl rfl iu rfl (Nat.le_of_ble_eq_true rfl) (bj hx1) rfl (eU (x':=xr1) rfl)) rfl ?_
 refine af ?_
 refine fF (k:=0) (q:=2) (c':=(.s 1 0 6 (((b.al).set (Int.toNat (d.n)) xr1).length))) rfl rfl (by first|rfl|(simp;done)|(congr 1;omega)) rfl ?_
 refine ag ?_
 refine aX [0,4,7] [6,5,0,1,2,3,4] mixed rfl rfl ?_
 refine ay (kn:=[]) aa 7 rfl trivial ?_
 refine aP (n':=9) [200] [] rfl rfl (.inl ⟨(ah.plain rfl),aJ.cast (ec (ys:=[(0,(.g [(cI b0.aO),(cI b0.aE),(cI b0.sum),(cI b0.captured),(cI b0.bB),(cI b0.bl),(cI b0.dg),(cB b0.shut)]))]) (rows:=([b0]).map iX) 8 sw rfl (by decide) ⟨⟨rfl,rfl⟩,trivial⟩ rfl rfl rfl rfl) rfl⟩) rfl ?_
 refine aP (n':=10) [199,201] [8,3] rfl rfl (.inl ⟨(ah.plain rfl),aJ.cast (dE (m:=1) (N:=b.au.length+1) (k2:=9) (ys:=([b0]).map iX) sw rfl rfl rfl rfl rfl rfl (by first|omega|(simp;done)|(simp;omega)) rfl (.s rfl (by first|omega|(simp;done)|(simp;omega))) (by first|omega|(simp;done)|(simp;omega)) (by first|omega|(simp;done)|(simp;omega)) fM (by decide) (by first|omega|(simp;done)|(simp;omega)) (by first|omega|(simp;done)|(simp;omega))) rfl⟩) rfl ?_
 refine ay (kn:=[]) aa 3 rfl trivial ?_
 refine bw [9,6,5,0,1,2,4] rfl rfl rfl rfl (by kernel_rfl) ?_
 refine ad aa 1 rfl ?_
 refine af ?_
 refine fF (k:=0) (q:=4) (c':=(.s 9 0 8 ((b.au++([b0])).length))) rfl rfl (by first|rfl|(simp;done)|(congr 1;omega)) rfl ?_
 refine aH aa 5 rfl ?_
 refine az (dy rfl rfl rfl rfl rfl Try.underlying31) rfl ?_
 refine az (aK rfl rfl rfl (aL (by first|omega|(simp;done)|(simp;omega)))) rfl ?_
 refine ad aa 2 rfl ?_
 refine af ?_
 refine aA ?_
 have hX:dK b d=((⟨b.time,b.down,(b.al).set (Int.toNat (d.n)) xr1,b.due,b.au++([b0]),b.s0,b.s1,b.n0,b.n1,b.w0,b.w1,b.aY,b.aS,b.book⟩:Bk),(⟨0,(↑((b.au++([b0])).length):Int) - 1⟩:Answer)):=by
   unfold dK;(try simp only [hdn,Bool.false_eq_true,if_false,hr0,hr1,hx1]);(repeat' split)<;>first|rfl|omega|(exfalso;omega)|(simp_all;done)|(simp_all;omega)
 rw [hX] at hr;clear hX
 simp only [Prod.mk.injEq] at hr;obtain ⟨rfl,rfl⟩:=hr
 refine aq aa [0,1,2,9,4,5] 5 rfl rfl rfl rfl rfl rfl ?_ ?_
 all_goals first|rfl|(simp [aD,aZ,bm];done)|(simp [aD,aZ,bm];omega)
theorem Fm (x:Nat->Value) (hx:∀ i,(x i).oneCell'=true) (b:Bk) (d:bJ) (ok:cz b) (hdn:b.down=true) (b2:Bk) (a2:Answer) (hr:dK b d=(b2,a2)):cM Try.prog 63 [(.c (.p 0 0 0 0)),(.c (.q (dj d) 0))] [(0,(.box 98 (aZ b 1 2 3 4 (.d (.v (x 17))) (.d (.v (x 19)))))),(1,(dV b.al)),(2,(dL b.due)),(3,(dY b.au)),(4,(cT b.aS))] [0] (.v (.g [cI a2.err,cI a2.bd])) [(0,(.box 98 (aZ b2 1 2 3 4 (.d (.v (x 17))) (.d (.v (x 19)))))),(1,(dV b2.al)),(2,(dL b2.due)),(3,(dY b2.au)),(4,(cT b2.aS))]:=by
 refine cM.mk 214 [(0,(aC (.p 0 0 0 0))),(1,(aC (.q (dj d) 0)))] 5 Try.func63 rfl rfl rfl rfl rfl rfl rfl rfl rfl ?_
 intro W0 F0 T0 pg
 obtain ⟨okt,okc,okd,oka,oky,okw0,okw1,okp,okv,okk0,okk1,okg,okl0,okl1,okp0,okp1,okn0,okn1,okq⟩:=id ok
 refine ae aa 1 rfl ?_
 refine ag ?_
 refine ag ?_
 rcases Bool.eq_false_or_eq_true (decide (d.n < 0)) with hb1|hb1
 ·
  have hb1':=of_decide_eq_true hb1
  refine aX [0,1,4] [5,0,1,2,3,4] mixed rfl rfl ?_
  refine ay (kn:=[(14,true)]) aa 38 rfl ⟨hb1,trivial⟩ ?_
  refine bw [5,0,1,2,3,4] rfl rfl rfl rfl (by kernel_rfl) ?_
  refine af ?_
  refine aj rfl (fun _=>?_) (fun hno=>by cases hno)
  refine ae aa 2 rfl ?_
  refine aA ?_
  refine ax ?_
  have hX:dK b d=(b,(⟨6,0⟩:Answer)):=by
    unfold dK gS;(try simp only [hdn,if_true]);(repeat' split)<;>first|rfl|omega|(exfalso;omega)|(simp_all;done)|(simp_all;omega)
  rw [hX] at hr;clear hX
  simp only [Prod.mk.injEq] at hr;obtain ⟨rfl,rfl⟩:=hr
  refine aq aa [0,1,2,3,4,5] 5 rfl rfl rfl rfl rfl rfl ?_ ?_
  all_goals first|rfl|(simp [aD,aZ,bm];done)|(simp [aD,aZ,bm];omega)
 have hb1':=of_decide_eq_false hb1
 rcases Bool.eq_false_or_eq_true (decide (d.n>=(↑b.al.length:Int))) with hb3|hb3
 ·
  have hb3':=of_decide_eq_true hb3
  refine aX [0,1,4] [5,0,1,2,3,4] mixed rfl rfl ?_
  refine ay (kn:=[(14,false)]) aa 15 rfl ⟨hb1,trivial⟩ ?_
  refine aP (n':=6) [24,15] [1] rfl rfl (.inl ⟨(ah.yes rfl rfl rfl),aJ.cast (dy rfl rfl rfl rfl rfl Try.underlying29) rfl⟩) rfl ?_
  refine ay (kn:=[(26,true)]) aa 22 rfl ⟨hb3,trivial⟩ ?_
  refine bw [5,0,1,2,3,4] rfl rfl rfl rfl (by kernel_rfl) ?_
  refine af ?_
  refine aj rfl (fun _=>?_) (fun hno=>by cases hno)
  refine ae aa 2 rfl ?_
  refine aA ?_
  refine ax ?_
  have hX:dK b d=(b,(⟨6,0⟩:Answer)):=by
    unfold dK gS;(try simp only [hdn,if_true]);(repeat' split)<;>first|rfl|omega|(exfalso;omega)|(simp_all;done)|(simp_all;omega)
  rw [hX] at hr;clear hX
  simp only [Prod.mk.injEq] at hr;obtain ⟨rfl,rfl⟩:=hr
  refine aq aa [0,1,2,3,4,5] 5 rfl rfl rfl rfl rfl rfl ?_ ?_
  all_goals first|rfl|(simp [aD,aZ,bm];done)|(simp [aD,aZ,bm];omega)
 have hb3':=of_decide_eq_false hb3
 rcases Bool.eq_false_or_eq_true (decide (d.aE < 0)) with hb5|hb5
 ·
  have hb5':=of_decide_eq_true hb5
  refine aX [0,1,4] [5,0,1,2,3,4] mixed rfl rfl ?_
  refine ay (kn:=[(14,false)]) aa 15 rfl ⟨hb1,trivial⟩ ?_
  refine aP (n':=6) [24,15] [1] rfl rfl (.inl ⟨(ah.yes rfl rfl rfl),aJ.cast (dy rfl rfl rfl rfl rfl Try.underlying29) rfl⟩) rfl ?_
  refine ay (kn:=[(26,false),(33,true)]) aa 22 rfl ⟨hb3,hb5,trivial⟩ ?_
  refine bw [5,0,1,2,3,4] rfl rfl rfl rfl (by kernel_rfl) ?_
  refine af ?_
  refine aj rfl (fun _=>?_) (fun hno=>by cases hno)
  refine ae aa 2 rfl ?_
  refine aA ?_
  refine ax ?_
  have hX:dK b d=(b,(⟨6,0⟩:Answer)):=by
    unfold dK gS;(try simp only [hdn,if_true]);(repeat' split)<;>first|rfl|omega|(exfalso;omega)|(simp_all;done)|(simp_all;omega)
  rw [hX] at hr;clear hX
  simp only [Prod.mk.injEq] at hr;obtain ⟨rfl,rfl⟩:=hr
  refine aq aa [0,1,2,3,4,5] 5 rfl rfl rfl rfl rfl rfl ?_ ?_
  all_goals first|rfl|(simp [aD,aZ,bm];done)|(simp [aD,aZ,bm];omega)
 have hb5':=of_decide_eq_false hb5
 refine aX [0,1,4] [5,0,1,2,3,4] mixed rfl rfl ?_
 refine ay (kn:=[(14,false)]) aa 15 rfl ⟨hb1,trivial⟩ ?_
 refine aP (n':=6) [24,15] [1] rfl rfl (.inl ⟨(ah.yes rfl rfl rfl),aJ.cast (dy rfl rfl rfl rfl rfl Try.underlying29) rfl⟩) rfl ?_
 refine ay (kn:=[(26,false),(33,false)]) aa 19 rfl ⟨hb3,hb5,trivial⟩ ?_
 refine aP (n':=6) [44,35] [2] rfl rfl (.inl ⟨(ah.yes rfl rfl rfl),aJ.cast (dy rfl rfl rfl rfl rfl Try.underlying30) rfl⟩) rfl ?_
 refine ay (kn:=[]) aa 2 rfl trivial ?_
 refine bw [5,0,1,2,3,4] rfl rfl rfl rfl (by kernel_rfl) ?_
 refine af ?_
 refine aj rfl (fun hc7=>?_) (fun hc7=>?_)
 ·
  have hc7':=of_decide_eq_true hc7
  refine ae aa 2 rfl ?_
  refine aA ?_
  refine ax ?_
  have hX:dK b d=(b,(⟨6,0⟩:Answer)):=by
    unfold dK gS;(try simp only [hdn,if_true]);(repeat' split)<;>first|rfl|omega|(exfalso;omega)|(simp_all;done)|(simp_all;omega)
  rw [hX] at hr;clear hX
  simp only [Prod.mk.injEq] at hr;obtain ⟨rfl,rfl⟩:=hr
  refine aq aa [0,1,2,3,4,5] 5 rfl rfl rfl rfl rfl rfl ?_ ?_
  all_goals first|rfl|(simp [aD,aZ,bm];done)|(simp [aD,aZ,bm];omega)
 have hc7':=of_decide_eq_false hc7
 refine aQ ?_
 refine ag ?_
 refine ae aa 5 rfl ?_
 refine aj rfl (fun _=>?_) (fun hno=>absurd (hdn.symm.trans hno) (by decide))
 refine ag ?_
 obtain ⟨xr0,e0,hr0⟩:∃ (xr0:cH) (e0:Int),cv b.aY (⟨d.n,d.aE,d.sum,b.time⟩:cp)=(xr0,e0):=⟨_,_,rfl⟩
 have hgl:=uw b.aY ((⟨d.n,d.aE,d.sum,b.time⟩:cp))
 rw [hr0] at hgl;dsimp only at hgl
 refine di [0,1,4] [5,0,1,2,3,4] mixed rfl rfl ?_
 refine bW (kn:=[]) aa 23 rfl trivial ?_
 refine cb (n':=6) [59,77] [] rfl rfl (.inl ⟨(ah.plain rfl),aJ.cast (bU 6 (Fn.frozen (av':=(.t [(.g [(cI xr0.cap),(df xr0.used),(eb xr0.aU)]),(.c (cI e0))])) (wa b.aY (⟨d.n,d.aE,d.sum,b.time⟩:cp) xr0 e0 hr0) ⟨⟨.inl ⟨_,rfl,rfl⟩,.inr ⟨_,_,_,_,_,rfl,rfl,rfl,by simp⟩,.inr ⟨_,_,_,_,_,rfl,rfl,rfl,by simp⟩,trivial⟩,.inl ⟨_,rfl,rfl⟩,trivial⟩) Hh rfl rfl ⟨⟨_,rfl,.g ⟨.d _,.d _,.d _,trivial⟩⟩,⟨_,rfl,.g ⟨.d _,.d _,.d _,.d _,trivial⟩⟩,trivial⟩ ⟨⟨trivial,trivial,trivial,trivial⟩,trivial,trivial⟩ trivial rfl rfl rfl rfl) rfl⟩) rfl ?_
 refine bW (n':=7) (kn:=[]) aa 6 rfl trivial ?_
 refine dW [0,1,4,5,6] [6,5,0,1,2,3,4] rfl rfl (by kernel_rfl) ?_
 refine then_ok ?_
 refine ag ?_
 refine ae aa 2 rfl ?_
 refine aj rfl (fun hc9=>?_) (fun hc9=>?_)
 ·
  have hc9':=of_decide_eq_true hc9
  refine aw ?_
  refine ad aa 1 rfl ?_
  refine af ?_
  refine ag ?_
  refine ag ?_
  refine aX [0,1,4,5,6] [6,5,0,1,2,3,4] mixed rfl rfl ?_
  refine ay (kn:=[(84,false)]) aa 15 rfl ⟨rfl,trivial⟩ ?_
  refine bw [6,5,0,1,2,3,4] rfl rfl rfl rfl (by kernel_rfl) ?_
  refine af ?_
  refine aj rfl (fun hno=>by cases hno) (fun _=>?_)
  refine aQ ?_
  refine ag ?_
  refine aH aa 1 rfl ?_
  refine az (aK rfl rfl rfl (show _=some (Value.bool true) from rfl)) rfl ?_
  refine af ?_
  refine aj rfl (fun _=>?_) (fun hno=>by cases hno)
  refine ae aa 3 rfl ?_
  refine aA ?_
  refine ax ?_
  refine ax ?_
  have hX:dK b d=(b,(⟨12,0⟩:Answer)):=by
    unfold dK gS;(try simp only [hdn,if_true,hr0]);(repeat' split)<;>first|rfl|omega|(exfalso;omega)|(simp_all;done)|(simp_all;omega)
  rw [hX] at hr;clear hX
  simp only [Prod.mk.injEq] at hr;obtain ⟨rfl,rfl⟩:=hr
  refine aq aa [0,1,2,3,4,5] 5 rfl rfl rfl rfl rfl rfl ?_ ?_
  all_goals first|rfl|(simp [aD,aZ,bm];done)|(simp [aD,aZ,bm];omega)
 have hc9':=of_decide_eq_false hc9
 refine aQ ?_
 refine ag ?_
 refine ag ?_
 rcases Bool.eq_false_or_eq_true (decide (e0=0)) with hb12|hb12
 ·
  have hb12':=of_decide_eq_true hb12
  refine aX [0,1,4,5,6] [6,5,0,1,2,3,4] mixed rfl rfl ?_
  refine ay (kn:=[(84,true)]) aa 8 rfl ⟨hb12,trivial⟩ ?_
  refine aP (n':=7) [90,85] [3] rfl rfl (.inl ⟨(ah.yes rfl rfl rfl),aJ.cast (dy rfl rfl rfl rfl rfl Try.underlying31) rfl⟩) rfl ?_
  refine ay (kn:=[]) aa 2 rfl trivial ?_
  refine aP (n':=7) [93,85] [] rfl rfl (.inl ⟨(ah.yes rfl rfl rfl),aJ.cast (bP rfl rfl rfl rfl rfl Try.underlying39) rfl⟩) rfl ?_
  refine aP (n':=7) [91,94,85] [] rfl rfl (.inl ⟨(ah.yes rfl rfl rfl),aJ.cast (aK rfl rfl rfl (aL (by first|omega|(simp;done)|(simp;omega)))) rfl⟩) rfl ?_
  refine ay (kn:=[]) aa 2 rfl trivial ?_
  refine bw [6,5,0,1,2,3,4] rfl rfl rfl rfl (by kernel_rfl) ?_
  refine af ?_
  refine aj rfl (fun hc13=>?_) (fun hc13=>?_)
  ·
   have hc13':=of_decide_eq_true hc13
   refine aw ?_
   refine ad aa 1 rfl ?_
   refine af ?_
   refine ag ?_
   refine aH aa 1 rfl ?_
   refine az (aK rfl rfl rfl (show _=some (Value.bool true) from rfl)) rfl ?_
   refine af ?_
   refine aj rfl (fun _=>?_) (fun hno=>by cases hno)
   refine ae aa 3 rfl ?_
   refine aA ?_
   refine ax ?_
   refine ax ?_
   have hX:dK b d=(b,(⟨5,0⟩:Answer)):=by
     unfold dK gS;(try simp only [hdn,if_true,hr0]);(repeat' split)<;>first|rfl|omega|(exfalso;omega)|(simp_all;done)|(simp_all;omega)
   rw [hX] at hr;clear hX
   simp only [Prod.mk.injEq] at hr;obtain ⟨rfl,rfl⟩:=hr
   refine aq aa [0,1,2,3,4,5] 5 rfl rfl rfl rfl rfl rfl ?_ ?_
   all_goals first|rfl|(simp [aD,aZ,bm];done)|(simp [aD,aZ,bm];omega)
  have hc13':=of_decide_eq_false hc13
  refine aQ ?_
  refine ag ?_
  refine ae aa 2 rfl ?_
  refine aj rfl (fun hc15=>?_) (fun hc15=>?_)
  ·
   have hc15':=of_decide_eq_true hc15
   refine ae aa 3 rfl ?_
   refine aA ?_
   refine ax ?_
   refine ax ?_
   have hX:dK b d=(b,(⟨e0,0⟩:Answer)):=by
     unfold dK gS;(try simp only [hdn,if_true,hr0]);(repeat' split)<;>first|rfl|omega|(exfalso;omega)|(simp_all;done)|(simp_all;omega)
   rw [hX] at hr;clear hX
   simp only [Prod.mk.injEq] at hr;obtain ⟨rfl,rfl⟩:=hr
   refine aq aa [0,1,2,3,4,5] 5 rfl rfl rfl rfl rfl rfl ?_ ?_
   all_goals first|rfl|(simp [aD,aZ,bm];done)|(simp [aD,aZ,bm];omega)
  have hc15':=of_decide_eq_false hc15
  refine aQ ?_
  refine ae aa 6 rfl ?_
  refine ag ?_
  refine aX [0,1,4,5] [6,5,0,1,2,3,4] mixed rfl rfl ?_
  refine ay (kn:=[]) aa 5 rfl trivial ?_
  refine aP (n':=7) [111] [3] rfl rfl (.inl ⟨(ah.plain rfl),aJ.cast (dy rfl rfl rfl rfl rfl Try.underlying31) rfl⟩) rfl ?_
  refine ay (kn:=[]) aa 2 rfl trivial ?_
  refine aP (n':=7) [114] [] rfl rfl (.inl ⟨(ah.plain rfl),aJ.cast (bP rfl rfl rfl rfl rfl Try.underlying39) rfl⟩) rfl ?_
  refine aP (n':=7) [112,115] [] rfl rfl (.inl ⟨(ah.plain rfl),aJ.cast (aK rfl rfl rfl (aL (by first|omega|(simp;done)|(simp;omega)))) rfl⟩) rfl ?_
  refine aP (n':=7) [116] [] rfl rfl (.inl ⟨(ah.plain rfl),aJ.cast (aK rfl rfl rfl (aL (by first|omega|(simp;done)|(simp;omega)))) rfl⟩) rfl ?_
  refine ay (kn:=[]) aa 1 rfl trivial ?_
  refine bw [6,5,0,1,2,3,4] rfl rfl rfl rfl (by kernel_rfl) ?_
  refine ad aa 1 rfl ?_
  refine af ?_
  refine aA ?_
  refine ax ?_
  have hX:dK b d=((⟨b.time,b.down,b.al,b.due,b.au,b.s0,b.s1,b.n0,b.n1,b.w0,b.w1,xr0,b.aS,b.book⟩:Bk),(⟨0,((↑b.au.length:Int)+(↑xr0.aU.length:Int)) - 1⟩:Answer)):=by
    unfold dK gS;(try simp only [hdn,if_true,hr0]);(repeat' split)<;>first|rfl|omega|(exfalso;omega)|(simp_all;done)|(simp_all;omega)
  rw [hX] at hr;clear hX
  simp only [Prod.mk.injEq] at hr;obtain ⟨rfl,rfl⟩:=hr
  refine aq aa [0,1,2,3,4,5] 5 rfl rfl rfl rfl rfl rfl ?_ ?_
  all_goals first|rfl|(simp [aD,aZ,bm];done)|(simp [aD,aZ,bm];omega)
 have hb12':=of_decide_eq_false hb12
 refine aX [0,1,4,5,6] [6,5,0,1,2,3,4] mixed rfl rfl ?_
 refine ay (kn:=[(84,false)]) aa 15 rfl ⟨hb12,trivial⟩ ?_
 refine bw [6,5,0,1,2,3,4] rfl rfl rfl rfl (by kernel_rfl) ?_
 refine af ?_
 refine aj rfl (fun hno=>by cases hno) (fun _=>?_)
 refine aQ ?_
 refine ag ?_
 refine ae aa 2 rfl ?_
 refine aj rfl (fun hc17=>?_) (fun hc17=>?_)
 ·
  have hc17':=of_decide_eq_true hc17
  refine ae aa 3 rfl ?_
  refine aA ?_
  refine ax ?_
  refine ax ?_
  have hX:dK b d=(b,(⟨e0,0⟩:Answer)):=by
    unfold dK gS;(try simp only [hdn,if_true,hr0]);(repeat' split)<;>first|rfl|omega|(exfalso;omega)|(simp_all;done)|(simp_all;omega)
  rw [hX] at hr;clear hX
  simp only [Prod.mk.injEq] at hr;obtain ⟨rfl,rfl⟩:=hr
  refine aq aa [0,1,2,3,4,5] 5 rfl rfl rfl rfl rfl rfl ?_ ?_
  all_goals first|rfl|(simp [aD,aZ,bm];done)|(simp [aD,aZ,bm];omega)
 have hc17':=of_decide_eq_false hc17
 refine aQ ?_
 refine ae aa 6 rfl ?_
 refine ag ?_
 refine aX [0,1,4,5] [6,5,0,1,2,3,4] mixed rfl rfl ?_
 refine ay (kn:=[]) aa 5 rfl trivial ?_
 refine aP (n':=7) [111] [3] rfl rfl (.inl ⟨(ah.plain rfl),aJ.cast (dy rfl rfl rfl rfl rfl Try.underlying31) rfl⟩) rfl ?_
 refine ay (kn:=[]) aa 2 rfl trivial ?_
 refine aP (n':=7) [114] [] rfl rfl (.inl ⟨(ah.plain rfl),aJ.cast (bP rfl rfl rfl rfl rfl Try.underlying39) rfl⟩) rfl ?_
 refine aP (n':=7) [112,115] [] rfl rfl (.inl ⟨(ah.plain rfl),aJ.cast (aK rfl rfl rfl (aL (by first|omega|(simp;done)|(simp;omega)))) rfl⟩) rfl ?_
 refine aP (n':=7) [116] [] rfl rfl (.inl ⟨(ah.plain rfl),aJ.cast (aK rfl rfl rfl (aL (by first|omega|(simp;done)|(simp;omega)))) rfl⟩) rfl ?_
 refine ay (kn:=[]) aa 1 rfl trivial ?_
 refine bw [6,5,0,1,2,3,4] rfl rfl rfl rfl (by kernel_rfl) ?_
 refine ad aa 1 rfl ?_
 refine af ?_
 refine aA ?_
 refine ax ?_
 have hX:dK b d=((⟨b.time,b.down,b.al,b.due,b.au,b.s0,b.s1,b.n0,b.n1,b.w0,b.w1,xr0,b.aS,b.book⟩:Bk),(⟨0,((↑b.au.length:Int)+(↑xr0.aU.length:Int)) - 1⟩:Answer)):=by
   unfold dK gS;(try simp only [hdn,if_true,hr0]);(repeat' split)<;>first|rfl|omega|(exfalso;omega)|(simp_all;done)|(simp_all;omega)
 rw [hX] at hr;clear hX
 simp only [Prod.mk.injEq] at hr;obtain ⟨rfl,rfl⟩:=hr
 refine aq aa [0,1,2,3,4,5] 5 rfl rfl rfl rfl rfl rfl ?_ ?_
 all_goals first|rfl|(simp [aD,aZ,bm];done)|(simp [aD,aZ,bm];omega)
theorem Gs (x:Nat->Value) (hx:∀ i,(x i).oneCell'=true) (b:Bk) (d:bJ) (ok:cz b) (b2:Bk) (a2:Answer) (hr:dK b d=(b2,a2)):cM Try.prog 63 [(.c (.p 0 0 0 0)),(.c (.q (dj d) 0))] [(0,(.box 98 (aZ b 1 2 3 4 (.d (.v (x 17))) (.d (.v (x 19)))))),(1,(dV b.al)),(2,(dL b.due)),(3,(dY b.au)),(4,(cT b.aS))] [0] (.v (.g [cI a2.err,cI a2.bd])) [(0,(.box 98 (aZ b2 1 2 3 4 (.d (.v (x 17))) (.d (.v (x 19)))))),(1,(dV b2.al)),(2,(dL b2.due)),(3,(dY b2.au)),(4,(cT b2.aS))]:=by
  cases hdn:b.down
  ·exact Fl x hx b d ok hdn b2 a2 hr
  ·exact Fm x hx b d ok hdn b2 a2 hr

theorem AP (x:Nat->Value) (hx:∀ i,(x i).oneCell'=true) (b:Bk) (d:bJ) (ok:cz b) (hdn:b.down=false) (b2:Bk) (a2:Answer) (hr:dN b d=(b2,a2)):cM Try.prog 64 [(.c (.p 0 0 0 0)),(.c (.q (dj d) 0))] [(0,(.box 98 (aZ b 1 2 3 4 (.d (.v (x 17))) (.d (.v (x 19)))))),(1,(dV b.al)),(2,(dL b.due)),(3,(dY b.au)),(4,(cT b.aS))] [0] (.v (.g [cI a2.err,cI a2.bd])) [(0,(.box 98 (aZ b2 1 2 3 4 (.d (.v (x 17))) (.d (.v (x 19)))))),(1,(dV b2.al)),(2,(dL b2.due)),(3,(dY b2.au)),(4,(cT b2.aS))]:=by
 refine cM.mk 246 [(0,(aC (.p 0 0 0 0))),(1,(aC (.q (dj d) 0)))] 5 Try.func64 rfl rfl rfl rfl rfl rfl rfl rfl rfl ?_
 intro W0 F0 T0 pg
 obtain ⟨okt,okc,okd,oka,oky,okw0,okw1,okp,okv,okk0,okk1,okg,okl0,okl1,okp0,okp1,okn0,okn1,okq⟩:=id ok
 refine ae aa 1 rfl ?_
 refine ag ?_
 refine ae aa 5 rfl ?_
 refine aj rfl (fun hno=>absurd (hdn.symm.trans hno) (by decide)) (fun _=>?_)
 refine aQ ?_
 refine ag ?_
 refine ag ?_
 rcases Bool.eq_false_or_eq_true (decide (d.n < 0)) with hb2|hb2
 ·
  have hb2':=of_decide_eq_true hb2
  refine aX [0,1,4] [5,0,1,2,3,4] mixed rfl rfl ?_
  refine ay (kn:=[(22,true)]) aa 18 rfl ⟨hb2,trivial⟩ ?_
  refine bw [5,0,1,2,3,4] rfl rfl rfl rfl (by kernel_rfl) ?_
  refine af ?_
  refine aj rfl (fun _=>?_) (fun hno=>by cases hno)
  refine ae aa 2 rfl ?_
  refine aA ?_
  refine ax ?_
  have hX:dN b d=(b,(⟨6,0⟩:Answer)):=by
    unfold dN;simp only [hdn,Bool.false_eq_true,if_false];(repeat' split)<;>first|rfl|omega|(exfalso;omega)|(simp_all;done)|(simp_all;omega)
  rw [hX] at hr;clear hX
  simp only [Prod.mk.injEq] at hr;obtain ⟨rfl,rfl⟩:=hr
  refine aq aa [0,1,2,3,4,5] 5 rfl rfl rfl rfl rfl rfl ?_ ?_
  all_goals first|rfl|(simp [aD,aZ,bm];done)|(simp [aD,aZ,bm];omega)
 have hb2':=of_decide_eq_false hb2
 refine aX [0,1,4] [5,0,1,2,3,4] mixed rfl rfl ?_
 refine ay (kn:=[(22,false)]) aa 15 rfl ⟨hb2,trivial⟩ ?_
 refine aP (n':=6) [32,23] [3] rfl rfl (.inl ⟨(ah.yes rfl rfl rfl),aJ.cast (dy rfl rfl rfl rfl rfl Try.underlying31) rfl⟩) rfl ?_
 refine ay (kn:=[]) aa 2 rfl trivial ?_
 refine bw [5,0,1,2,3,4] rfl rfl rfl rfl (by kernel_rfl) ?_
 refine af ?_
 refine aj rfl (fun hc4=>?_) (fun hc4=>?_)
 ·
  have hc4':=of_decide_eq_true hc4
  refine ae aa 2 rfl ?_
  refine aA ?_
  refine ax ?_
  have hX:dN b d=(b,(⟨6,0⟩:Answer)):=by
    unfold dN;simp only [hdn,Bool.false_eq_true,if_false];(repeat' split)<;>first|rfl|omega|(exfalso;omega)|(simp_all;done)|(simp_all;omega)
  rw [hX] at hr;clear hX
  simp only [Prod.mk.injEq] at hr;obtain ⟨rfl,rfl⟩:=hr
  refine aq aa [0,1,2,3,4,5] 5 rfl rfl rfl rfl rfl rfl ?_ ?_
  all_goals first|rfl|(simp [aD,aZ,bm];done)|(simp [aD,aZ,bm];omega)
 have hc4':=of_decide_eq_false hc4
 refine aQ ?_
 refine ag ?_
 obtain ⟨x1,hx1⟩:=cg (xs:=b.au) (i:=Int.toNat (d.n)) (by first|omega|(simp;done)|(simp;omega))
 refine aX [0,1,4] [5,0,1,2,3,4] mixed rfl rfl ?_
 refine ay (kn:=[]) aa 9 rfl trivial ?_
 refine aP (n':=6) [41,45] [3] rfl rfl (.inl ⟨(ah.plain rfl),aJ.cast (bz (i:=Int.toNat (d.n)) rfl rfl rfl Try.underlying31 kj (by first|omega|(simp;done)|(simp;omega)) (by first|omega|(simp;done)|(simp;omega))) rfl⟩) rfl ?_
 refine aP (n':=6) [46] [3] rfl rfl (.inl ⟨(ah.plain rfl),aJ.cast (dr rfl rfl rfl Try.underlying67 rfl kj (bj hx1) rfl) rfl⟩) rfl ?_
 refine ay (n':=7) (kn:=[]) aa 1 rfl trivial ?_
 refine bw [6,5,0,1,2,3,4] rfl rfl rfl rfl (by kernel_rfl) ?_
 refine ad aa 1 rfl ?_
 refine af ?_
 refine ag ?_
 obtain ⟨b0,e0,hr0⟩:∃ (b0:bC) (e0:Int),cq x1 d.move d.sum=(b0,e0):=⟨_,_,rfl⟩
 refine di [0,1,4,5] [6,5,0,1,2,3,4] mixed rfl rfl ?_
 refine bW (kn:=[]) aa 9 rfl trivial ?_
 refine cb (n':=7) [49,53,57] [] rfl rfl (.inl ⟨(ah.plain rfl),aJ.cast (bU 7 (xb x1 d.move d.sum b0 e0 hr0) Hf rfl rfl ⟨⟨_,rfl,.g ⟨.d _,.d _,.d _,.d _,.d _,.d _,.d _,.d _,trivial⟩⟩,⟨_,rfl,.c (.d _)⟩,⟨_,rfl,.c (.d _)⟩,trivial⟩ ⟨⟨trivial,trivial,trivial,trivial,trivial,trivial,trivial,trivial,trivial⟩,trivial,trivial⟩ trivial rfl rfl rfl rfl) rfl⟩) rfl ?_
 refine bW (n':=8) (kn:=[]) aa 6 rfl trivial ?_
 refine dW [0,1,4,5,6,7] [7,6,5,0,1,2,3,4] rfl rfl (by kernel_rfl) ?_
 refine then_ok ?_
 refine ag ?_
 refine ae aa 2 rfl ?_
 refine aj rfl (fun hc5=>?_) (fun hc5=>?_)
 ·
  have hc5':=of_decide_eq_true hc5
  refine ae aa 3 rfl ?_
  refine aA ?_
  refine ax ?_
  have hX:dN b d=(b,(⟨e0,0⟩:Answer)):=by
    unfold dN;simp only [hdn,Bool.false_eq_true,if_false];rw [if_neg (by omega),hx1];dsimp only;simp only [hr0];(repeat' split)<;>first|rfl|omega|(exfalso;omega)|(simp_all;done)|(simp_all;omega)
  rw [hX] at hr;clear hX
  simp only [Prod.mk.injEq] at hr;obtain ⟨rfl,rfl⟩:=hr
  refine aq aa [0,1,2,3,4,5] 5 rfl rfl rfl rfl rfl rfl ?_ ?_
  all_goals first|rfl|(simp [aD,aZ,bm];done)|(simp [aD,aZ,bm];omega)
 have hc5':=of_decide_eq_false hc5
 refine aQ ?_
 obtain ⟨mw1,mw2,mc,ms,mk1,mk2,mn1,mn2⟩:=kJ (show cq x1 d.move d.sum=(b0,0) by rw [hr0];congr 1;omega)
 have hoP:=okp x1 (List.mem_of_getElem? hx1)
 have hI0:∀ t∈b.s0.kept,fj t.number:=fun t ht=>(okk0 t ht).1
 have hI1:∀ t∈b.s1.kept,fj t.number:=fun t ht=>(okk1 t ht).1
 refine aH aa 1 rfl ?_
 refine aT 17 [0,8,9,10,11,12,13,14,15,16,7,6,5] (cO id (bh [0,8,9,10,11,12,13,14,15,16]) (kD (x 17) (x 19) b (by first|omega|(simp;done)|(simp;omega)) (by first|omega|(simp;done)|(simp;omega)) (by first|omega|(simp;done)|(simp;omega)) (by first|omega|(simp;done)|(simp;omega))) qY rfl rfl ⟨⟨_,rfl,.inl ⟨rfl,rfl⟩⟩,trivial⟩ ⟨rfl,rfl,rfl,rfl,rfl,trivial⟩ rfl rfl rfl rfl rfl rfl trivial ⟨⟨trivial,trivial,trivial,trivial,trivial,trivial,trivial,trivial,trivial,trivial,trivial,trivial,trivial,trivial,trivial,trivial,trivial,trivial,trivial,trivial,trivial⟩,⟨trivial,trivial,trivial,trivial,trivial,trivial,trivial,trivial,trivial,trivial,trivial,trivial,trivial,trivial,trivial,trivial,trivial,trivial,trivial,trivial,trivial⟩,(fun _ _ _ _=>trivial),(fun _ _ _ _=>trivial),(fun _ _ _ _=>trivial),(fun _ _ _ _=>trivial),(fun _ _ _ _=>trivial),(fun _ _ _ _=>trivial),(fun _ _ _ _=>trivial),(fun _ _ _ _=>trivial),trivial⟩ rfl rfl rfl rfl) rfl ?_
 refine ad aa 1 rfl ?_
 refine af ?_
 refine ag ?_
 obtain ⟨e1,hr1⟩:∃ (e1:Int),bR b0=e1:=⟨_,rfl⟩
 have hhb1:=oY (show bM b0=0 by assumption)
 rw [hr1] at hhb1
 obtain ⟨e2,hr2⟩:∃ (e2:Int),bR x1=e2:=⟨_,rfl⟩
 have hhb2:=oY (show bM x1=0 by assumption)
 rw [hr2] at hhb2
 refine aX [0,1,4,5,6,8] [0,8,9,10,11,12,13,14,15,16,7,6,5] mixed rfl rfl ?_
 refine ay (kn:=[]) aa 1 rfl trivial ?_
 refine aP (n':=17) [67] [] rfl rfl (.inl ⟨(ah.plain rfl),aJ.cast (bU 17 (kL b0 (by first|assumption|omega|rfl|decide) e1 hr1) yU rfl rfl ⟨⟨_,rfl,.g ⟨.d _,.d _,.d _,.d _,.d _,.d _,.d _,.d _,trivial⟩⟩,trivial⟩ trivial trivial rfl rfl rfl rfl) rfl⟩) rfl ?_
 refine ay (kn:=[]) aa 1 rfl trivial ?_
 refine aP (n':=17) [69] [] rfl rfl (.inl ⟨(ah.plain rfl),aJ.cast (bU 17 (kL x1 (by first|assumption|omega|rfl|decide) e2 hr2) yU rfl rfl ⟨⟨_,rfl,.g ⟨.d _,.d _,.d _,.d _,.d _,.d _,.d _,.d _,trivial⟩⟩,trivial⟩ trivial trivial rfl rfl rfl rfl) rfl⟩) rfl ?_
 refine aP (n':=17) [68,70] [] rfl rfl (.inl ⟨(ah.plain rfl),aJ.cast (aK rfl rfl rfl (aL (by first|omega|(simp;done)|(simp;omega)))) rfl⟩) rfl ?_
 refine ay (kn:=[]) aa 1 rfl trivial ?_
 refine bw [0,8,9,10,11,12,13,14,15,16,7,6,5] rfl rfl rfl rfl (by kernel_rfl) ?_
 refine af ?_
 refine ag ?_
 refine wC (J:=⟨[(0,(aC (.p 0 0 0 0))),(1,(aC (.q (dj d) 0))),(4,(aC (.p 5 0 0 0))),(6,(aC (.p 7 0 0 0))),(8,(aC (.p 8 0 0 0))),(9,(aI (e1 - e2))),(93,(aB (decide (d.move=1/\d.sum > kV b.al b0.aO))))],[(0,(.box 98 (aZ b 9 10 11 12 (.d (.v (x 17))) (.d (.v (x 19)))))),(8,(.box 147 (aZ b 13 14 15 16 (.d (.v (x 17))) (cI 0)))),(9,(dV b.al)),(10,(dL b.due)),(11,(dY b.au)),(12,(cT b.aS)),(13,(dV b.al)),(14,(dL b.due)),(15,(dY b.au)),(16,(cT b.aS)),(7,(.box 67 [(cI b0.aO),(cI b0.aE),(cI b0.sum),(cI b0.captured),(cI b0.bB),(cI b0.bl),(cI b0.dg),(cB b0.shut)])),(5,(.box 65 [(cI 0),(cI 0)]))],17⟩) ?_ ?_
 ·
  rcases Bool.eq_false_or_eq_true (decide (d.move=1)) with hb6|hb6
  ·
   have hb6':=of_decide_eq_true hb6
   obtain ⟨x2,hx2⟩:=cg (xs:=b.al) (i:=Int.toNat (b0.aO)) (by first|omega|(simp;done)|(simp;omega))
   have hx2g:=Bj (okg x2 (List.mem_of_getElem? hx2))
   refine aX [0,1,4,6,8,9] [0,8,9,10,11,12,13,14,15,16,7,5] mixed rfl rfl ?_
   refine ay (kn:=[(76,true)]) aa 17 rfl ⟨hb6,trivial⟩ ?_
   refine aP (n':=17) [86,88,77] [13] rfl rfl (.inl ⟨(ah.yes rfl rfl rfl),aJ.cast (bz (i:=Int.toNat (b0.aO)) rfl rfl rfl Try.underlying29 iu (by first|omega|(simp;done)|(simp;omega)) (by first|omega|(simp;done)|(simp;omega))) rfl⟩) rfl ?_
   refine aP (n':=17) [89,77] [13] rfl rfl (.inl ⟨(ah.yes rfl rfl rfl),aJ.cast (dr rfl rfl rfl Try.underlying61 rfl iu (bj hx2) rfl) rfl⟩) rfl ?_
   refine aP (n':=17) [90,77] [] rfl rfl (.inl ⟨(ah.yes rfl rfl rfl),aJ.cast (bU 17 (qu x2 (by first|assumption|omega|(constructor<;>decide)|(have hz:=iD (by first|assumption|omega);omega))) EW rfl rfl ⟨⟨_,rfl,.g ⟨.d _,.d _,.d _,.d _,.d _,.d _,trivial⟩⟩,trivial⟩ trivial trivial rfl rfl rfl rfl) rfl⟩) rfl ?_
   refine ay (kn:=[]) aa 2 rfl trivial ?_
   refine bw [0,8,9,10,11,12,13,14,15,16,7,5] rfl rfl rfl rfl (by kernel_rfl) ?_
   refine af ?_
   rw [show (decide (d.move=1/\d.sum > kV b.al b0.aO))=(decide (d.sum > (x2.bE - x2.held))) by (unfold kV;rw [hx2];dsimp only;first|(simp_all;done)|(simp_all;omega))]
   exact aF.bL id (⟨rfl,rfl,rfl,rfl,rfl,rfl,rfl,trivial⟩) (⟨rfl,rfl,rfl,rfl,rfl,rfl,rfl,rfl,rfl,rfl,rfl,rfl,trivial⟩) rfl
  have hb6':=of_decide_eq_false hb6
  refine aX [0,1,4,6,8,9] [0,8,9,10,11,12,13,14,15,16,7,5] mixed rfl rfl ?_
  refine ay (kn:=[(76,false)]) aa 22 rfl ⟨hb6,trivial⟩ ?_
  refine bw [0,8,9,10,11,12,13,14,15,16,7,5] rfl rfl rfl rfl (by kernel_rfl) ?_
  refine af ?_
  rw [show (decide (d.move=1/\d.sum > kV b.al b0.aO))=(false) by (unfold kV;first|(simp_all;done)|(simp_all;omega))]
  exact aF.bL id (⟨rfl,rfl,rfl,rfl,rfl,rfl,rfl,trivial⟩) (⟨rfl,rfl,rfl,rfl,rfl,rfl,rfl,rfl,rfl,rfl,rfl,rfl,trivial⟩) rfl
 refine aj rfl (fun hc7=>?_) (fun hc7=>?_)
 ·
  have hc7':=of_decide_eq_true hc7
  refine ae aa 2 rfl ?_
  refine aA ?_
  refine ax ?_
  have hX:dN b d=(b,(⟨10,0⟩:Answer)):=by
    unfold dN;simp only [hdn,Bool.false_eq_true,if_false];rw [if_neg (by omega),hx1];dsimp only;simp only [hr0];(repeat' split)<;>first|rfl|omega|(exfalso;omega)|(simp_all;done)|(simp_all;omega)
  rw [hX] at hr;clear hX
  simp only [Prod.mk.injEq] at hr;obtain ⟨rfl,rfl⟩:=hr
  refine aq aa [0,9,10,11,12,5] 5 rfl rfl rfl rfl rfl rfl ?_ ?_
  all_goals first|rfl|(simp [aD,aZ,bm];done)|(simp [aD,aZ,bm];omega)
 have hc7':=of_decide_eq_false hc7
 refine aQ ?_
 refine ag ?_
 refine aX [0,1,4,6,8,9] [0,8,9,10,11,12,13,14,15,16,7,5] mixed rfl rfl ?_
 refine ay (kn:=[]) aa 2 rfl trivial ?_
 refine aP (n':=17) [96] [] rfl rfl (.inl ⟨(ah.plain rfl),aJ.cast (aK rfl rfl rfl (aL (by first|omega|(simp;done)|(simp;omega)))) rfl⟩) rfl ?_
 refine ay (n':=18) (kn:=[]) aa 11 rfl trivial ?_
 refine bw [17,0,8,9,10,11,12,13,14,15,16,7,5] rfl rfl rfl rfl (by kernel_rfl) ?_
 refine ad aa 1 rfl ?_
 refine af ?_
 obtain ⟨jcards,jdue,jbook,js0,js1,je,hj⟩:∃ (jcards:List bD) (jdue:List Int) (jbook:List Entry) (js0:bS) (js1:bS) (je:Int),dk b b0 x1 d=(jcards,jdue,jbook,js0,js1,je):=⟨_,_,_,_,_,_,rfl⟩
 have hj0:=hj
 refine wC (J:=⟨[(0,(aC (.p 0 0 0 0))),(1,(aC (.q (dj d) 0))),(4,(aC (.p 5 0 0 0))),(6,(aC (.p 7 0 0 0))),(8,(aC (.p 8 0 0 0)))],[(0,(.box 98 (aZ b 9 10 11 12 (.d (.v (x 17))) (.d (.v (x 19)))))),(8,(.box 147 ((((((((aZ b 13 14 15 16 (.d (.v (x 17))) (cI je)).set 2 (.s 13 0 6 jcards.length)).set 3 (.s 14 0 1 jdue.length)).set 5 (cI js0.bq)).set 6 (ck js0.kept)).set 7 (cI js1.bq)).set 8 (ck js1.kept)).set 18 (cZ jbook)))),(9,(dV b.al)),(10,(dL b.due)),(11,(dY b.au)),(12,(cT b.aS)),(13,(dV jcards)),(14,(dL jdue)),(15,(dY b.au)),(16,(cT b.aS)),(7,(.box 67 [(cI b0.aO),(cI b0.aE),(cI b0.sum),(cI b0.captured),(cI b0.bB),(cI b0.bl),(cI b0.dg),(cB b0.shut)])),(5,(.box 65 [(cI 0),(cI 0)]))],17⟩) ?_ ?_
 ·
  refine ae aa 4 rfl ?_
  refine aR ?_
  refine ag ?_
  refine ae aa 2 rfl ?_
  refine aj rfl (fun hc8=>?_) (fun hc8=>?_)
  ·
   have hc8':=of_decide_eq_true hc8
   refine aQ ?_
   refine aj rfl (fun _=>?_) (fun hno=>absurd (hc8.symm.trans hno) (by decide))
   refine aw ?_
   refine ad aa 4 rfl ?_
   obtain ⟨l23,e23,hr3⟩:∃ (l23:List bD) (e23:Int),cJ b.al 0 b0.aO (e1 - e2) 0=(l23,e23):=⟨_,_,rfl⟩
   refine aT 19 [8,18,17,0,9,10,11,12,14,15,16,7,5] (cu (bh [8,13]) (bh [8,18]) (ms:=((dD.set 2 (some (.s 1 0 6 b.al.length))).set 19 (some (cI 0)))) (ms':=((dD.set 2 (some (.s 1 0 6 l23.length))).set 19 (some (cI e23)))) (fun x hx=>jd x hx b.al 0 b0.aO (e1 - e2) 0 (by first|omega|(simp;done)|(simp;omega)) l23 e23 hr3) nU rfl rfl ⟨⟨_,rfl,.inl ⟨rfl,rfl⟩⟩,⟨_,rfl,.inr (.c (.d _))⟩,⟨_,rfl,.inr (.c (.d _))⟩,⟨_,rfl,.inr (.c (.d _))⟩,trivial⟩ rfl rfl rfl rfl rfl rfl rfl ⟨rfl,trivial⟩ rfl rfl rfl rfl rfl rfl rfl rfl rfl rfl rfl rfl rfl) rfl ?_
   refine cf ?_
   refine bf ?_
   refine then_ok ?_
   have hX:dk b b0 x1 d=(l23,b.due,b.book,b.s0,b.s1,e23):=by
     unfold dk;(try simp only [hr1,hr2,hr3]);(repeat' split)<;>first|rfl|omega|(exfalso;omega)|(simp_all;done)|(simp_all;omega)
   rw [hX] at hj;clear hX;simp only [Prod.mk.injEq] at hj;obtain ⟨rfl,rfl,rfl,rfl,rfl,rfl⟩:=hj
   exact aF.bL (fun k=>if k=13 then 18 else k) (by refine ⟨?_,?_,?_,?_,?_,trivial⟩<;>first|rfl|(simp only [ba];done)|(congr 3;omega)|(congr 4;omega)|(simp only [bb];rfl)) (by refine ⟨?_,?_,?_,?_,?_,?_,?_,?_,?_,?_,?_,?_,trivial⟩<;>first|rfl|(simp only [ba];done)|(congr 3;omega)|(congr 4;omega)|(simp only [bb];rfl)) rfl
  have hc8':=of_decide_eq_false hc8
  refine aw ?_
  refine ad aa 2 rfl ?_
  refine af ?_
  refine aj rfl (fun hc10=>?_) (fun hc10=>?_)
  ·
   have hc10':=of_decide_eq_true hc10
   refine aw ?_
   refine ad aa 4 rfl ?_
   obtain ⟨l24,e24,hr4⟩:∃ (l24:List bD) (e24:Int),cJ b.al 0 b0.aO (e1 - e2) 0=(l24,e24):=⟨_,_,rfl⟩
   refine aT 19 [8,18,17,0,9,10,11,12,14,15,16,7,5] (cu (bh [8,13]) (bh [8,18]) (ms:=((dD.set 2 (some (.s 1 0 6 b.al.length))).set 19 (some (cI 0)))) (ms':=((dD.set 2 (some (.s 1 0 6 l24.length))).set 19 (some (cI e24)))) (fun x hx=>jd x hx b.al 0 b0.aO (e1 - e2) 0 (by first|omega|(simp;done)|(simp;omega)) l24 e24 hr4) nU rfl rfl ⟨⟨_,rfl,.inl ⟨rfl,rfl⟩⟩,⟨_,rfl,.inr (.c (.d _))⟩,⟨_,rfl,.inr (.c (.d _))⟩,⟨_,rfl,.inr (.c (.d _))⟩,trivial⟩ rfl rfl rfl rfl rfl rfl rfl ⟨rfl,trivial⟩ rfl rfl rfl rfl rfl rfl rfl rfl rfl rfl rfl rfl rfl) rfl ?_
   refine cf ?_
   refine bf ?_
   refine then_ok ?_
   have hX:dk b b0 x1 d=(l24,b.due,b.book,b.s0,b.s1,e24):=by
     unfold dk;(try simp only [hr1,hr2,hr4]);(repeat' split)<;>first|rfl|omega|(exfalso;omega)|(simp_all;done)|(simp_all;omega)
   rw [hX] at hj;clear hX;simp only [Prod.mk.injEq] at hj;obtain ⟨rfl,rfl,rfl,rfl,rfl,rfl⟩:=hj
   exact aF.bL (fun k=>if k=13 then 18 else k) (by refine ⟨?_,?_,?_,?_,?_,trivial⟩<;>first|rfl|(simp only [ba];done)|(congr 3;omega)|(congr 4;omega)|(simp only [bb];rfl)) (by refine ⟨?_,?_,?_,?_,?_,?_,?_,?_,?_,?_,?_,?_,trivial⟩<;>first|rfl|(simp only [ba];done)|(congr 3;omega)|(congr 4;omega)|(simp only [bb];rfl)) rfl
  have hc10':=of_decide_eq_false hc10
  refine ag ?_
  refine ae aa 2 rfl ?_
  refine aj rfl (fun hc11=>?_) (fun hc11=>?_)
  ·
   have hc11':=of_decide_eq_true hc11
   refine aQ ?_
   refine aj rfl (fun _=>?_) (fun hno=>absurd (hc11.symm.trans hno) (by decide))
   refine ag ?_
   obtain ⟨l25,e25,hr5⟩:∃ (l25:List bD) (e25:Int),cJ b.al 0 b0.aO (e1 - e2) (0 - d.sum)=(l25,e25):=⟨_,_,rfl⟩
   refine di [0,1,4,6,8,9,11,10] [17,0,8,9,10,11,12,13,14,15,16,7,5] mixed rfl rfl ?_
   refine bW (kn:=[]) aa 8 rfl trivial ?_
   refine cb (n':=18) [129] [] rfl rfl (.inl ⟨(ah.plain rfl),aJ.cast (pb rfl rfl (aL (by first|omega|(simp;done)|(simp;omega)))) rfl⟩) rfl ?_
   refine cb (n':=19) [122,124,125,130] [13,8] rfl rfl (.inl ⟨(ah.plain rfl),aJ.cast (cu (bh [8,13]) (bh [8,18]) (ms:=((dD.set 2 (some (.s 1 0 6 b.al.length))).set 19 (some (cI 0)))) (ms':=((dD.set 2 (some (.s 1 0 6 l25.length))).set 19 (some (cI e25)))) (fun x hx=>jd x hx b.al 0 b0.aO (e1 - e2) (0 - d.sum) (by first|omega|(simp;done)|(simp;omega)) l25 e25 hr5) nU rfl rfl ⟨⟨_,rfl,.inl ⟨rfl,rfl⟩⟩,⟨_,rfl,.inr (.c (.d _))⟩,⟨_,rfl,.inr (.c (.d _))⟩,⟨_,rfl,.inr (.c (.d _))⟩,trivial⟩ rfl rfl rfl rfl rfl rfl rfl ⟨rfl,trivial⟩ rfl rfl rfl rfl rfl rfl rfl rfl rfl rfl rfl rfl rfl) rfl⟩) rfl ?_
   refine dW [0,1,4,6,8,11,10] [18,8,17,0,9,10,11,12,14,15,16,7,5] rfl rfl (by kernel_rfl) ?_
   refine then_ok ?_
   refine aH aa 6 rfl ?_
   obtain ⟨l26,e26,hr6⟩:∃ (l26:List Entry) (e26:Int),dQ b.book e25 (10+b0.aO) 1 d.sum=(l26,e26):=⟨_,_,rfl⟩
   refine aT 19 [8,18,17,0,9,10,11,12,14,15,16,7,5] (cu (bh [8]) (bh [8]) (ms:=((dD.set 18 (some (cZ b.book))).set 19 (some (cI e25)))) (ms':=((dD.set 18 (some (cZ l26))).set 19 (some (cI e26)))) (fun x hx=>ju x hx b.book e25 (10+b0.aO) 1 d.sum l26 e26 hr6) mH rfl rfl ⟨⟨_,rfl,.inl ⟨rfl,rfl⟩⟩,⟨_,rfl,.inr (.c (.d _))⟩,⟨_,rfl,.inr (.c (.d _))⟩,⟨_,rfl,.inr (.c (.d _))⟩,trivial⟩ rfl rfl rfl rfl rfl rfl rfl trivial rfl rfl rfl rfl rfl rfl rfl rfl rfl rfl rfl rfl rfl) rfl ?_
   refine af ?_
   refine ae aa 2 rfl ?_
   refine aw ?_
   refine ad aa 2 rfl ?_
   obtain ⟨s27,e27,hr7⟩:∃ (s27:bS) (e27:Int),eO b.s0 e26 (⟨0,1,d.n,d.sum⟩:bg)=(s27,e27):=⟨_,_,rfl⟩
   refine aT 19 [8,18,17,0,9,10,11,12,14,15,16,7,5] (cu (bh [8]) (bh [8]) (ms:=(((dD.set 5 (some (cI b.s0.bq))).set 6 (some (ck b.s0.kept))).set 19 (some (cI e26)))) (ms':=(((dD.set 5 (some (cI s27.bq))).set 6 (some (ck s27.kept))).set 19 (some (cI e27)))) (fun x hx=>sU x hx b.s0 e26 (⟨0,1,d.n,d.sum⟩:bg) (by assumption) s27 e27 hr7) yQ rfl rfl ⟨⟨_,rfl,.inl ⟨rfl,rfl⟩⟩,⟨_,rfl,.inr (.c (.d _))⟩,⟨_,rfl,.inr (.g ⟨.d _,.d _,.d _,.d _,trivial⟩)⟩,trivial⟩ rfl rfl rfl rfl rfl rfl rfl trivial rfl rfl rfl rfl rfl rfl rfl rfl rfl rfl rfl rfl rfl) rfl ?_
   refine cf ?_
   refine bf ?_
   refine then_ok ?_
   have hX:dk b b0 x1 d=(l25,b.due,l26,s27,b.s1,e27):=by
     unfold dk;(try simp only [hr1,hr2,hr5,hr6,hr7]);(repeat' split)<;>first|rfl|omega|(exfalso;omega)|(simp_all;done)|(simp_all;omega)
   rw [hX] at hj;clear hX;simp only [Prod.mk.injEq] at hj;obtain ⟨rfl,rfl,rfl,rfl,rfl,rfl⟩:=hj
   exact aF.bL (fun k=>if k=13 then 18 else k) (by refine ⟨?_,?_,?_,?_,?_,trivial⟩<;>first|rfl|(simp only [ba];done)|(congr 3;omega)|(congr 4;omega)|(simp only [bb];rfl)) (by refine ⟨?_,?_,?_,?_,?_,?_,?_,?_,?_,?_,?_,?_,trivial⟩<;>first|rfl|(simp only [ba];done)|(congr 3;omega)|(congr 4;omega)|(simp only [bb];rfl)) rfl
  have hc11':=of_decide_eq_false hc11
  refine aw ?_
  refine ad aa 2 rfl ?_
  refine af ?_
  refine aj rfl (fun hc13=>?_) (fun hc13=>?_)
  ·
   have hc13':=of_decide_eq_true hc13
   refine ag ?_
   obtain ⟨l28,e28,hr8⟩:∃ (l28:List bD) (e28:Int),cJ b.al 0 b0.aO (e1 - e2) (0 - d.sum)=(l28,e28):=⟨_,_,rfl⟩
   refine di [0,1,4,6,8,9,11,10] [17,0,8,9,10,11,12,13,14,15,16,7,5] mixed rfl rfl ?_
   refine bW (kn:=[]) aa 8 rfl trivial ?_
   refine cb (n':=18) [129] [] rfl rfl (.inl ⟨(ah.plain rfl),aJ.cast (pb rfl rfl (aL (by first|omega|(simp;done)|(simp;omega)))) rfl⟩) rfl ?_
   refine cb (n':=19) [122,124,125,130] [13,8] rfl rfl (.inl ⟨(ah.plain rfl),aJ.cast (cu (bh [8,13]) (bh [8,18]) (ms:=((dD.set 2 (some (.s 1 0 6 b.al.length))).set 19 (some (cI 0)))) (ms':=((dD.set 2 (some (.s 1 0 6 l28.length))).set 19 (some (cI e28)))) (fun x hx=>jd x hx b.al 0 b0.aO (e1 - e2) (0 - d.sum) (by first|omega|(simp;done)|(simp;omega)) l28 e28 hr8) nU rfl rfl ⟨⟨_,rfl,.inl ⟨rfl,rfl⟩⟩,⟨_,rfl,.inr (.c (.d _))⟩,⟨_,rfl,.inr (.c (.d _))⟩,⟨_,rfl,.inr (.c (.d _))⟩,trivial⟩ rfl rfl rfl rfl rfl rfl rfl ⟨rfl,trivial⟩ rfl rfl rfl rfl rfl rfl rfl rfl rfl rfl rfl rfl rfl) rfl⟩) rfl ?_
   refine dW [0,1,4,6,8,11,10] [18,8,17,0,9,10,11,12,14,15,16,7,5] rfl rfl (by kernel_rfl) ?_
   refine then_ok ?_
   refine aH aa 6 rfl ?_
   obtain ⟨l29,e29,hr9⟩:∃ (l29:List Entry) (e29:Int),dQ b.book e28 (10+b0.aO) 1 d.sum=(l29,e29):=⟨_,_,rfl⟩
   refine aT 19 [8,18,17,0,9,10,11,12,14,15,16,7,5] (cu (bh [8]) (bh [8]) (ms:=((dD.set 18 (some (cZ b.book))).set 19 (some (cI e28)))) (ms':=((dD.set 18 (some (cZ l29))).set 19 (some (cI e29)))) (fun x hx=>ju x hx b.book e28 (10+b0.aO) 1 d.sum l29 e29 hr9) mH rfl rfl ⟨⟨_,rfl,.inl ⟨rfl,rfl⟩⟩,⟨_,rfl,.inr (.c (.d _))⟩,⟨_,rfl,.inr (.c (.d _))⟩,⟨_,rfl,.inr (.c (.d _))⟩,trivial⟩ rfl rfl rfl rfl rfl rfl rfl trivial rfl rfl rfl rfl rfl rfl rfl rfl rfl rfl rfl rfl rfl) rfl ?_
   refine af ?_
   refine ae aa 2 rfl ?_
   refine aw ?_
   refine ad aa 2 rfl ?_
   obtain ⟨s210,e210,hr10⟩:∃ (s210:bS) (e210:Int),eO b.s0 e29 (⟨0,1,d.n,d.sum⟩:bg)=(s210,e210):=⟨_,_,rfl⟩
   refine aT 19 [8,18,17,0,9,10,11,12,14,15,16,7,5] (cu (bh [8]) (bh [8]) (ms:=(((dD.set 5 (some (cI b.s0.bq))).set 6 (some (ck b.s0.kept))).set 19 (some (cI e29)))) (ms':=(((dD.set 5 (some (cI s210.bq))).set 6 (some (ck s210.kept))).set 19 (some (cI e210)))) (fun x hx=>sU x hx b.s0 e29 (⟨0,1,d.n,d.sum⟩:bg) (by assumption) s210 e210 hr10) yQ rfl rfl ⟨⟨_,rfl,.inl ⟨rfl,rfl⟩⟩,⟨_,rfl,.inr (.c (.d _))⟩,⟨_,rfl,.inr (.g ⟨.d _,.d _,.d _,.d _,trivial⟩)⟩,trivial⟩ rfl rfl rfl rfl rfl rfl rfl trivial rfl rfl rfl rfl rfl rfl rfl rfl rfl rfl rfl rfl rfl) rfl ?_
   refine cf ?_
   refine bf ?_
   refine then_ok ?_
   have hX:dk b b0 x1 d=(l28,b.due,l29,s210,b.s1,e210):=by
     unfold dk;(try simp only [hr1,hr2,hr8,hr9,hr10]);(repeat' split)<;>first|rfl|omega|(exfalso;omega)|(simp_all;done)|(simp_all;omega)
   rw [hX] at hj;clear hX;simp only [Prod.mk.injEq] at hj;obtain ⟨rfl,rfl,rfl,rfl,rfl,rfl⟩:=hj
   exact aF.bL (fun k=>if k=13 then 18 else k) (by refine ⟨?_,?_,?_,?_,?_,trivial⟩<;>first|rfl|(simp only [ba];done)|(congr 3;omega)|(congr 4;omega)|(simp only [bb];rfl)) (by refine ⟨?_,?_,?_,?_,?_,?_,?_,?_,?_,?_,?_,?_,trivial⟩<;>first|rfl|(simp only [ba];done)|(congr 3;omega)|(congr 4;omega)|(simp only [bb];rfl)) rfl
  have hc13':=of_decide_eq_false hc13
  refine ae aa 2 rfl ?_
  refine aj rfl (fun hc14=>?_) (fun hc14=>?_)
  ·
   have hc14':=of_decide_eq_true hc14
   refine ag ?_
   obtain ⟨x2,hx2⟩:=cg (xs:=b.due) (i:=Int.toNat (b0.aE)) (by first|omega|(simp;done)|(simp;omega))
   refine aX [0,1,4,6,8,11] [17,0,8,9,10,11,12,13,14,15,16,7,5] mixed rfl rfl ?_
   refine ay (kn:=[]) aa 7 rfl trivial ?_
   refine aP (n':=18) [149,151] [14] rfl rfl (.inl ⟨(ah.plain rfl),aJ.cast (bz (i:=Int.toNat (b0.aE)) rfl rfl rfl Try.underlying30 fC (by first|omega|(simp;done)|(simp;omega)) (by first|omega|(simp;done)|(simp;omega))) rfl⟩) rfl ?_
   refine aP (n':=18) [152] [14] rfl rfl (.inl ⟨(ah.plain rfl),aJ.cast (eQ rfl rfl rfl Try.underlying3 rfl (bj hx2) rfl) rfl⟩) rfl ?_
   refine ay (kn:=[]) aa 5 rfl trivial ?_
   refine aP (n':=18) [149,151] [14] rfl rfl (.inl ⟨(ah.plain rfl),aJ.cast (bz (i:=Int.toNat (b0.aE)) rfl rfl rfl Try.underlying30 fC (by first|omega|(simp;done)|(simp;omega)) (by first|omega|(simp;done)|(simp;omega))) rfl⟩) rfl ?_
   refine bw [17,0,8,9,10,11,12,13,14,15,16,7,5] rfl rfl rfl rfl (by kernel_rfl) ?_
   refine gw [17,0,8,9,10,11,12,13,14,15,16,7,5] (dS (ds:=[(dI (IntKind.i64.wrap (x2 - d.sum)))]) rfl rfl rfl rfl rfl fC rfl (Nat.le_of_ble_eq_true rfl) (bj hx2) rfl (eU (x':=(IntKind.i64.wrap (x2 - d.sum))) rfl)) rfl ?_
   refine af ?_
   refine fF (k:=8) (q:=3) (c':=(.s 14 0 1 (((b.due).set (Int.toNat (b0.aE)) (IntKind.i64.wrap (x2 - d.sum))).length))) rfl rfl (by first|rfl|(simp;done)|(congr 1;omega)) rfl ?_
   refine ag ?_
   obtain ⟨l211,e211,hr11⟩:∃ (l211:List Entry) (e211:Int),dQ b.book 0 (50+b0.aE) 1 d.sum=(l211,e211):=⟨_,_,rfl⟩
   refine di [0,1,4,6,8,11] [17,0,8,9,10,11,12,13,14,15,16,7,5] mixed rfl rfl ?_
   refine bW (kn:=[]) aa 3 rfl trivial ?_
   refine cb (n':=18) [162] [] rfl rfl (.inl ⟨(ah.plain rfl),aJ.cast (aK rfl rfl rfl (aL (by first|omega|(simp;done)|(simp;omega)))) rfl⟩) rfl ?_
   refine bW (kn:=[]) aa 4 rfl trivial ?_
   refine cb (n':=18) [160,163,167] [8] rfl rfl (.inl ⟨(ah.plain rfl),aJ.cast (cu (bh [8]) (bh [8]) (ms:=((dD.set 18 (some (cZ b.book))).set 19 (some (cI 0)))) (ms':=((dD.set 18 (some (cZ l211))).set 19 (some (cI e211)))) (fun x hx=>ju x hx b.book 0 (50+b0.aE) 1 d.sum l211 e211 hr11) mH rfl rfl ⟨⟨_,rfl,.inl ⟨rfl,rfl⟩⟩,⟨_,rfl,.inr (.c (.d _))⟩,⟨_,rfl,.inr (.c (.d _))⟩,⟨_,rfl,.inr (.c (.d _))⟩,trivial⟩ rfl rfl rfl rfl rfl rfl rfl trivial rfl rfl rfl rfl rfl rfl rfl rfl rfl rfl rfl rfl rfl) rfl⟩) rfl ?_
   refine dW [0,1,4,6,8,11] [8,17,0,9,10,11,12,13,14,15,16,7,5] rfl rfl (by kernel_rfl) ?_
   refine then_ok ?_
   refine ae aa 2 rfl ?_
   refine aw ?_
   refine ad aa 2 rfl ?_
   obtain ⟨s212,e212,hr12⟩:∃ (s212:bS) (e212:Int),eO b.s1 e211 (⟨0,2,d.n,d.sum⟩:bg)=(s212,e212):=⟨_,_,rfl⟩
   refine aT 18 [8,17,0,9,10,11,12,13,14,15,16,7,5] (cu (bh [8]) (bh [8]) (ms:=(((dD.set 7 (some (cI b.s1.bq))).set 8 (some (ck b.s1.kept))).set 19 (some (cI e211)))) (ms':=(((dD.set 7 (some (cI s212.bq))).set 8 (some (ck s212.kept))).set 19 (some (cI e212)))) (fun x hx=>DC x hx b.s1 e211 (⟨0,2,d.n,d.sum⟩:bg) (by assumption) s212 e212 hr12) yQ rfl rfl ⟨⟨_,rfl,.inl ⟨rfl,rfl⟩⟩,⟨_,rfl,.inr (.c (.d _))⟩,⟨_,rfl,.inr (.g ⟨.d _,.d _,.d _,.d _,trivial⟩)⟩,trivial⟩ rfl rfl rfl rfl rfl rfl rfl trivial rfl rfl rfl rfl rfl rfl rfl rfl rfl rfl rfl rfl rfl) rfl ?_
   refine cf ?_
   refine bf ?_
   refine then_ok ?_
   have hX:dk b b0 x1 d=(b.al,(b.due).set (Int.toNat (b0.aE)) (IntKind.i64.wrap (x2 - d.sum)),l211,b.s0,s212,e212):=by
     unfold dk;simp only [List.getD_eq_getElem?_getD,hx2,Option.getD_some];(try simp only [hr1,hr2,hr11,hr12,hx2]);(repeat' split)<;>first|rfl|omega|(exfalso;omega)|(simp_all;done)|(simp_all;omega)
   rw [hX] at hj;clear hX;simp only [Prod.mk.injEq] at hj;obtain ⟨rfl,rfl,rfl,rfl,rfl,rfl⟩:=hj
   exact aF.bL id (by refine ⟨?_,?_,?_,?_,?_,trivial⟩<;>first|rfl|(simp only [ba];done)|(congr 3;omega)|(congr 4;omega)|(simp only [bb];rfl)) (by refine ⟨?_,?_,?_,?_,?_,?_,?_,?_,?_,?_,?_,?_,trivial⟩<;>first|rfl|(simp only [ba];done)|(congr 3;omega)|(congr 4;omega)|(simp only [bb];rfl)) rfl
  have hc14':=of_decide_eq_false hc14
  refine ae aa 2 rfl ?_
  refine aj rfl (fun hc15=>?_) (fun hc15=>?_)
  ·
   have hc15':=of_decide_eq_true hc15
   refine ag ?_
   obtain ⟨l213,e213,hr13⟩:∃ (l213:List bD) (e213:Int),cJ b.al 0 b0.aO 0 d.sum=(l213,e213):=⟨_,_,rfl⟩
   refine di [0,1,4,6,8,10] [0,8,9,10,11,12,13,14,15,16,7,5] mixed rfl rfl ?_
   refine bW (kn:=[]) aa 7 rfl trivial ?_
   refine cb (n':=19) [175,177,181] [13,8] rfl rfl (.inl ⟨(ah.plain rfl),aJ.cast (cu (bh [8,13]) (bh [8,18]) (ms:=((dD.set 2 (some (.s 1 0 6 b.al.length))).set 19 (some (cI 0)))) (ms':=((dD.set 2 (some (.s 1 0 6 l213.length))).set 19 (some (cI e213)))) (fun x hx=>jd x hx b.al 0 b0.aO 0 d.sum (by first|omega|(simp;done)|(simp;omega)) l213 e213 hr13) nU rfl rfl ⟨⟨_,rfl,.inl ⟨rfl,rfl⟩⟩,⟨_,rfl,.inr (.c (.d _))⟩,⟨_,rfl,.inr (.c (.d _))⟩,⟨_,rfl,.inr (.c (.d _))⟩,trivial⟩ rfl rfl rfl rfl rfl rfl rfl ⟨rfl,trivial⟩ rfl rfl rfl rfl rfl rfl rfl rfl rfl rfl rfl rfl rfl) rfl⟩) rfl ?_
   refine dW [0,1,4,6,8,10] [18,8,0,9,10,11,12,14,15,16,7,5] rfl rfl (by kernel_rfl) ?_
   refine then_ok ?_
   refine aw ?_
   refine ad aa 6 rfl ?_
   obtain ⟨l214,e214,hr14⟩:∃ (l214:List Entry) (e214:Int),dQ b.book e213 2 (10+b0.aO) d.sum=(l214,e214):=⟨_,_,rfl⟩
   refine aT 19 [8,18,0,9,10,11,12,14,15,16,7,5] (cu (bh [8]) (bh [8]) (ms:=((dD.set 18 (some (cZ b.book))).set 19 (some (cI e213)))) (ms':=((dD.set 18 (some (cZ l214))).set 19 (some (cI e214)))) (fun x hx=>ju x hx b.book e213 2 (10+b0.aO) d.sum l214 e214 hr14) mH rfl rfl ⟨⟨_,rfl,.inl ⟨rfl,rfl⟩⟩,⟨_,rfl,.inr (.c (.d _))⟩,⟨_,rfl,.inr (.c (.d _))⟩,⟨_,rfl,.inr (.c (.d _))⟩,trivial⟩ rfl rfl rfl rfl rfl rfl rfl trivial rfl rfl rfl rfl rfl rfl rfl rfl rfl rfl rfl rfl rfl) rfl ?_
   refine cf ?_
   refine bf ?_
   refine then_ok ?_
   have hX:dk b b0 x1 d=(l213,b.due,l214,b.s0,b.s1,e214):=by
     unfold dk;(try simp only [hr1,hr2,hr13,hr14]);(repeat' split)<;>first|rfl|omega|(exfalso;omega)|(simp_all;done)|(simp_all;omega)
   rw [hX] at hj;clear hX;simp only [Prod.mk.injEq] at hj;obtain ⟨rfl,rfl,rfl,rfl,rfl,rfl⟩:=hj
   exact aF.bL (fun k=>if k=13 then 18 else k) (by refine ⟨?_,?_,?_,?_,?_,trivial⟩<;>first|rfl|(simp only [ba];done)|(congr 3;omega)|(congr 4;omega)|(simp only [bb];rfl)) (by refine ⟨?_,?_,?_,?_,?_,?_,?_,?_,?_,?_,?_,?_,trivial⟩<;>first|rfl|(simp only [ba];done)|(congr 3;omega)|(congr 4;omega)|(simp only [bb];rfl)) rfl
  have hc15':=of_decide_eq_false hc15
  refine ae aa 2 rfl ?_
  refine aj rfl (fun hc16=>?_) (fun hc16=>?_)
  ·
   have hc16':=of_decide_eq_true hc16
   refine ae aa 2 rfl ?_
   refine aw ?_
   refine ad aa 2 rfl ?_
   obtain ⟨s215,e215,hr15⟩:∃ (s215:bS) (e215:Int),eO b.s0 0 (⟨0,3,d.n,d.sum⟩:bg)=(s215,e215):=⟨_,_,rfl⟩
   refine aT 18 [8,17,0,9,10,11,12,13,14,15,16,7,5] (cu (bh [8]) (bh [8]) (ms:=(((dD.set 5 (some (cI b.s0.bq))).set 6 (some (ck b.s0.kept))).set 19 (some (cI 0)))) (ms':=(((dD.set 5 (some (cI s215.bq))).set 6 (some (ck s215.kept))).set 19 (some (cI e215)))) (fun x hx=>sU x hx b.s0 0 (⟨0,3,d.n,d.sum⟩:bg) (by assumption) s215 e215 hr15) yQ rfl rfl ⟨⟨_,rfl,.inl ⟨rfl,rfl⟩⟩,⟨_,rfl,.inr (.c (.d _))⟩,⟨_,rfl,.inr (.g ⟨.d _,.d _,.d _,.d _,trivial⟩)⟩,trivial⟩ rfl rfl rfl rfl rfl rfl rfl trivial rfl rfl rfl rfl rfl rfl rfl rfl rfl rfl rfl rfl rfl) rfl ?_
   refine cf ?_
   refine bf ?_
   refine then_ok ?_
   have hX:dk b b0 x1 d=(b.al,b.due,b.book,s215,b.s1,e215):=by
     unfold dk;(try simp only [hr1,hr2,hr15]);(repeat' split)<;>first|rfl|omega|(exfalso;omega)|(simp_all;done)|(simp_all;omega)
   rw [hX] at hj;clear hX;simp only [Prod.mk.injEq] at hj;obtain ⟨rfl,rfl,rfl,rfl,rfl,rfl⟩:=hj
   exact aF.bL id (by refine ⟨?_,?_,?_,?_,?_,trivial⟩<;>first|rfl|(simp only [ba];done)|(congr 3;omega)|(congr 4;omega)|(simp only [bb];rfl)) (by refine ⟨?_,?_,?_,?_,?_,?_,?_,?_,?_,?_,?_,?_,trivial⟩<;>first|rfl|(simp only [ba];done)|(congr 3;omega)|(congr 4;omega)|(simp only [bb];rfl)) rfl
  have hc16':=of_decide_eq_false hc16
  refine ae aa 2 rfl ?_
  refine aj rfl (fun hc17=>?_) (fun hc17=>?_)
  ·
   have hc17':=of_decide_eq_true hc17
   refine ag ?_
   obtain ⟨l216,e216,hr16⟩:∃ (l216:List bD) (e216:Int),cJ b.al 0 b0.aO 0 (0 - d.sum)=(l216,e216):=⟨_,_,rfl⟩
   refine di [0,1,4,6,8,10] [0,8,9,10,11,12,13,14,15,16,7,5] mixed rfl rfl ?_
   refine bW (kn:=[]) aa 7 rfl trivial ?_
   refine cb (n':=18) [204] [] rfl rfl (.inl ⟨(ah.plain rfl),aJ.cast (pb rfl rfl (aL (by first|omega|(simp;done)|(simp;omega)))) rfl⟩) rfl ?_
   refine cb (n':=19) [198,200,205] [13,8] rfl rfl (.inl ⟨(ah.plain rfl),aJ.cast (cu (bh [8,13]) (bh [8,18]) (ms:=((dD.set 2 (some (.s 1 0 6 b.al.length))).set 19 (some (cI 0)))) (ms':=((dD.set 2 (some (.s 1 0 6 l216.length))).set 19 (some (cI e216)))) (fun x hx=>jd x hx b.al 0 b0.aO 0 (0 - d.sum) (by first|omega|(simp;done)|(simp;omega)) l216 e216 hr16) nU rfl rfl ⟨⟨_,rfl,.inl ⟨rfl,rfl⟩⟩,⟨_,rfl,.inr (.c (.d _))⟩,⟨_,rfl,.inr (.c (.d _))⟩,⟨_,rfl,.inr (.c (.d _))⟩,trivial⟩ rfl rfl rfl rfl rfl rfl rfl ⟨rfl,trivial⟩ rfl rfl rfl rfl rfl rfl rfl rfl rfl rfl rfl rfl rfl) rfl⟩) rfl ?_
   refine dW [0,1,4,6,8,10] [18,8,0,9,10,11,12,14,15,16,7,5] rfl rfl (by kernel_rfl) ?_
   refine then_ok ?_
   refine aw ?_
   refine ad aa 6 rfl ?_
   obtain ⟨l217,e217,hr17⟩:∃ (l217:List Entry) (e217:Int),dQ b.book e216 (10+b0.aO) 2 d.sum=(l217,e217):=⟨_,_,rfl⟩
   refine aT 19 [8,18,0,9,10,11,12,14,15,16,7,5] (cu (bh [8]) (bh [8]) (ms:=((dD.set 18 (some (cZ b.book))).set 19 (some (cI e216)))) (ms':=((dD.set 18 (some (cZ l217))).set 19 (some (cI e217)))) (fun x hx=>ju x hx b.book e216 (10+b0.aO) 2 d.sum l217 e217 hr17) mH rfl rfl ⟨⟨_,rfl,.inl ⟨rfl,rfl⟩⟩,⟨_,rfl,.inr (.c (.d _))⟩,⟨_,rfl,.inr (.c (.d _))⟩,⟨_,rfl,.inr (.c (.d _))⟩,trivial⟩ rfl rfl rfl rfl rfl rfl rfl trivial rfl rfl rfl rfl rfl rfl rfl rfl rfl rfl rfl rfl rfl) rfl ?_
   refine cf ?_
   refine bf ?_
   refine then_ok ?_
   have hX:dk b b0 x1 d=(l216,b.due,l217,b.s0,b.s1,e217):=by
     unfold dk;(try simp only [hr1,hr2,hr16,hr17]);(repeat' split)<;>first|rfl|omega|(exfalso;omega)|(simp_all;done)|(simp_all;omega)
   rw [hX] at hj;clear hX;simp only [Prod.mk.injEq] at hj;obtain ⟨rfl,rfl,rfl,rfl,rfl,rfl⟩:=hj
   exact aF.bL (fun k=>if k=13 then 18 else k) (by refine ⟨?_,?_,?_,?_,?_,trivial⟩<;>first|rfl|(simp only [ba];done)|(congr 3;omega)|(congr 4;omega)|(simp only [bb];rfl)) (by refine ⟨?_,?_,?_,?_,?_,?_,?_,?_,?_,?_,?_,?_,trivial⟩<;>first|rfl|(simp only [ba];done)|(congr 3;omega)|(congr 4;omega)|(simp only [bb];rfl)) rfl
  have hc17':=of_decide_eq_false hc17
  refine cE ?_
  refine bf ?_
  refine then_ok ?_
  have hX:dk b b0 x1 d=(b.al,b.due,b.book,b.s0,b.s1,0):=by
    unfold dk;(try simp only [hr1,hr2]);(repeat' split)<;>first|rfl|omega|(exfalso;omega)|(simp_all;done)|(simp_all;omega)
  rw [hX] at hj;clear hX;simp only [Prod.mk.injEq] at hj;obtain ⟨rfl,rfl,rfl,rfl,rfl,rfl⟩:=hj
  exact aF.bL id (by refine ⟨?_,?_,?_,?_,?_,trivial⟩<;>first|rfl|(simp only [ba];done)|(congr 3;omega)|(congr 4;omega)|(simp only [bb];rfl)) (by refine ⟨?_,?_,?_,?_,?_,?_,?_,?_,?_,?_,?_,?_,trivial⟩<;>first|rfl|(simp only [ba];done)|(congr 3;omega)|(congr 4;omega)|(simp only [bb];rfl)) rfl
 refine ag ?_
 obtain ⟨l218,e218,hr18⟩:∃ (l218:List ar) (e218:Int),iZ b.aS je (⟨b0.aE,d.n,d.move,d.sum⟩:ar)=(l218,e218):=⟨_,_,rfl⟩
 refine di [0,1,4,6,8] [0,8,9,10,11,12,13,14,15,16,7,5] mixed rfl rfl ?_
 refine bW (kn:=[]) aa 16 rfl trivial ?_
 refine cb (n':=18) [214,229] [16,8] rfl rfl (.inl ⟨(ah.plain rfl),aJ.cast (cu (bh [8,16]) (bh [8,17]) (ms:=((dD.set 16 (some (.s 1 0 4 b.aS.length))).set 19 (some (cI je)))) (ms':=((dD.set 16 (some (.s 1 0 4 l218.length))).set 19 (some (cI e218)))) (fun x hx=>Fj x hx b.aS je (⟨b0.aE,d.n,d.move,d.sum⟩:ar) (by first|omega|(simp;done)|(simp;omega)) l218 e218 hr18) He rfl rfl ⟨⟨_,rfl,.inl ⟨rfl,rfl⟩⟩,⟨_,rfl,.inr (.g ⟨.d _,.d _,.d _,.d _,trivial⟩)⟩,trivial⟩ rfl rfl rfl rfl rfl rfl rfl ⟨rfl,trivial⟩ rfl rfl rfl rfl rfl rfl rfl rfl rfl rfl rfl rfl rfl) rfl⟩) rfl ?_
 refine dW [0,1,4,6,8] [17,8,0,9,10,11,12,13,14,15,7,5] rfl rfl (by kernel_rfl) ?_
 refine then_ok ?_
 refine ag ?_
 refine aX [0,1,4,6,8] [17,8,0,9,10,11,12,13,14,15,7,5] mixed rfl rfl ?_
 refine ay (kn:=[]) aa 10 rfl trivial ?_
 refine aP (n':=18) [235,239] [15] rfl rfl (.inl ⟨(ah.plain rfl),aJ.cast (bz (i:=Int.toNat (d.n)) rfl rfl rfl Try.underlying31 kj (by first|omega|(simp;done)|(simp;omega)) (by first|omega|(simp;done)|(simp;omega))) rfl⟩) rfl ?_
 refine bw [17,8,0,9,10,11,12,13,14,15,7,5] rfl rfl rfl rfl (by kernel_rfl) ?_
 refine gw [17,8,0,9,10,11,12,13,14,15,7,5] (dS (ds:=[(dI b0.aO),(dI b0.aE),(dI b0.sum),(dI b0.captured),(dI b0.bB),(dI b0.bl),(dI b0.dg),(dB b0.shut)]) rfl rfl rfl rfl rfl kj rfl (Nat.le_of_ble_eq_true rfl) (bj hx1) rfl (eU (x':=b0) rfl)) rfl ?_
 refine af ?_
 rcases (show e218=0\/¬e218=0 from by omega) with hs18|hs18
 ·
  refine fF (k:=8) (q:=4) (c':=(.s 15 0 8 (((b.au).set (Int.toNat (d.n)) b0).length))) rfl rfl (by first|rfl|(simp;done)|(congr 1;omega)) rfl ?_
  refine aH aa 2 rfl ?_
  refine aT 22 [0,18,19,20,21,7,5] (cO (bh [0,8,9,10,11,12,13,14,15,17]) (bh [0,18,19,20,21]) (fw (x 17) (x 19) b (⟨b.time,b.down,jcards,jdue,(b.au).set (Int.toNat (d.n)) b0,js0,js1,b.n0,b.n1,b.w0,b.w1,b.aY,l218,jbook⟩:Bk) e218 (by first|assumption|omega)) fO rfl rfl ⟨⟨_,rfl,.inl ⟨rfl,rfl⟩⟩,⟨_,rfl,.inl ⟨rfl,rfl⟩⟩,trivial⟩ ⟨rfl,rfl,rfl,rfl,rfl,rfl,rfl,rfl,rfl,rfl,trivial⟩ rfl rfl rfl rfl rfl rfl trivial ⟨⟨trivial,trivial,trivial,trivial,trivial,trivial,trivial,trivial,trivial,trivial,trivial,trivial,trivial,trivial,trivial,trivial,trivial,trivial,trivial,trivial,trivial⟩,(fun _ _ _ _=>trivial),(fun _ _ _ _=>trivial),(fun _ _ _ _=>trivial),(fun _ _ _ _=>trivial),trivial⟩ rfl rfl rfl rfl) rfl ?_
  refine ad aa 2 rfl ?_
  refine af ?_
  refine aA ?_
  have hX:dN b d=((⟨b.time,b.down,jcards,jdue,(b.au).set (Int.toNat (d.n)) b0,js0,js1,b.n0,b.n1,b.w0,b.w1,b.aY,l218,jbook⟩:Bk),(⟨e218,0⟩:Answer)):=by
    unfold dN;simp only [hdn,Bool.false_eq_true,if_false];rw [if_neg (by omega),hx1];dsimp only;simp only [hr0,hj0];unfold nV dw;simp only [hr18];(repeat' split)<;>first|rfl|omega|(exfalso;omega)|(simp_all;done)|(simp_all;omega)
  rw [hX] at hr;clear hX
  simp only [Prod.mk.injEq] at hr;obtain ⟨rfl,rfl⟩:=hr
  refine aq aa [0,18,19,20,21,5] 5 rfl rfl rfl rfl rfl rfl ?_ ?_
  all_goals first|rfl|(simp [aD,aZ,bm];done)|(simp [aD,aZ,bm];omega)
 refine fF (k:=8) (q:=4) (c':=(.s 15 0 8 (((b.au).set (Int.toNat (d.n)) b0).length))) rfl rfl (by first|rfl|(simp;done)|(congr 1;omega)) rfl ?_
 refine aH aa 2 rfl ?_
 refine aT 22 [0,18,19,20,21,7,5] (cO (bh [0,8,9,10,11,12,13,14,15,17]) (bh [0,18,19,20,21]) (gh (x 17) (x 19) b (⟨b.time,b.down,jcards,jdue,(b.au).set (Int.toNat (d.n)) b0,js0,js1,b.n0,b.n1,b.w0,b.w1,b.aY,l218,jbook⟩:Bk) e218 (by first|assumption|omega)) fO rfl rfl ⟨⟨_,rfl,.inl ⟨rfl,rfl⟩⟩,⟨_,rfl,.inl ⟨rfl,rfl⟩⟩,trivial⟩ ⟨rfl,rfl,rfl,rfl,rfl,rfl,rfl,rfl,rfl,rfl,trivial⟩ rfl rfl rfl rfl rfl rfl trivial ⟨⟨trivial,trivial,trivial,trivial,trivial,trivial,trivial,trivial,trivial,trivial,trivial,trivial,trivial,trivial,trivial,trivial,trivial,trivial,trivial,trivial,trivial⟩,(fun _ _ _ _=>trivial),(fun _ _ _ _=>trivial),(fun _ _ _ _=>trivial),(fun _ _ _ _=>trivial),trivial⟩ rfl rfl rfl rfl) rfl ?_
 refine ad aa 2 rfl ?_
 refine af ?_
 refine aA ?_
 have hX:dN b d=(b,(⟨e218,0⟩:Answer)):=by
   unfold dN;simp only [hdn,Bool.false_eq_true,if_false];rw [if_neg (by omega),hx1];dsimp only;simp only [hr0,hj0];unfold nV dw;simp only [hr18];(repeat' split)<;>first|rfl|omega|(exfalso;omega)|(simp_all;done)|(simp_all;omega)
 rw [hX] at hr;clear hX
 simp only [Prod.mk.injEq] at hr;obtain ⟨rfl,rfl⟩:=hr
 refine aq aa [0,18,19,20,21,5] 5 rfl rfl rfl rfl rfl rfl ?_ ?_
 all_goals first|rfl|(simp [aD,aZ,bm];done)|(simp [aD,aZ,bm];omega)
theorem AQ (x:Nat->Value) (hx:∀ i,(x i).oneCell'=true) (b:Bk) (d:bJ) (ok:cz b) (hdn:b.down=true) (b2:Bk) (a2:Answer) (hr:dN b d=(b2,a2)):cM Try.prog 64 [(.c (.p 0 0 0 0)),(.c (.q (dj d) 0))] [(0,(.box 98 (aZ b 1 2 3 4 (.d (.v (x 17))) (.d (.v (x 19)))))),(1,(dV b.al)),(2,(dL b.due)),(3,(dY b.au)),(4,(cT b.aS))] [0] (.v (.g [cI a2.err,cI a2.bd])) [(0,(.box 98 (aZ b2 1 2 3 4 (.d (.v (x 17))) (.d (.v (x 19)))))),(1,(dV b2.al)),(2,(dL b2.due)),(3,(dY b2.au)),(4,(cT b2.aS))]:=by
 refine cM.mk 246 [(0,(aC (.p 0 0 0 0))),(1,(aC (.q (dj d) 0)))] 5 Try.func64 rfl rfl rfl rfl rfl rfl rfl rfl rfl ?_
 intro W0 F0 T0 pg
 obtain ⟨okt,okc,okd,oka,oky,okw0,okw1,okp,okv,okk0,okk1,okg,okl0,okl1,okp0,okp1,okn0,okn1,okq⟩:=id ok
 refine ae aa 1 rfl ?_
 refine ag ?_
 refine ae aa 5 rfl ?_
 refine aj rfl (fun _=>?_) (fun hno=>absurd (hdn.symm.trans hno) (by decide))
 refine ae aa 2 rfl ?_
 refine aA ?_
 refine ax ?_
 have hX:dN b d=(b,(⟨12,0⟩:Answer)):=by
   unfold dN;rw [if_pos hdn]
 rw [hX] at hr;clear hX
 simp only [Prod.mk.injEq] at hr;obtain ⟨rfl,rfl⟩:=hr
 refine aq aa [0,1,2,3,4,5] 5 rfl rfl rfl rfl rfl rfl ?_ ?_
 all_goals first|rfl|(simp [aD,aZ,bm];done)|(simp [aD,aZ,bm];omega)
theorem Ct (x:Nat->Value) (hx:∀ i,(x i).oneCell'=true) (b:Bk) (d:bJ) (ok:cz b) (b2:Bk) (a2:Answer) (hr:dN b d=(b2,a2)):cM Try.prog 64 [(.c (.p 0 0 0 0)),(.c (.q (dj d) 0))] [(0,(.box 98 (aZ b 1 2 3 4 (.d (.v (x 17))) (.d (.v (x 19)))))),(1,(dV b.al)),(2,(dL b.due)),(3,(dY b.au)),(4,(cT b.aS))] [0] (.v (.g [cI a2.err,cI a2.bd])) [(0,(.box 98 (aZ b2 1 2 3 4 (.d (.v (x 17))) (.d (.v (x 19)))))),(1,(dV b2.al)),(2,(dL b2.due)),(3,(dY b2.au)),(4,(cT b2.aS))]:=by
  cases hdn:b.down
  ·exact AP x hx b d ok hdn b2 a2 hr
  ·exact AQ x hx b d ok hdn b2 a2 hr
theorem gq {α:Type} {l:List α} {n:Nat} {x y:α} (h:y∈l.set n x):y∈l\/y=x:=List.mem_or_eq_of_mem_set h
theorem jT {l:List bD} {e k x y:Int} (h:∀ c∈l,cQ c=0):∀ c∈(cJ l e k x y).1,cQ c=0:=by
 unfold cJ
 split
 ·exact h
 ·rename_i c hc
  split
  ·rename_i h0
   intro z hz
   rcases gq hz with hz|rfl
   ·exact h z hz
   ·have he:(ei c x y).2=0:=by unfold dG at h0;split at h0<;>omega
    rcases qK (show ei c x y=((ei c x y).1,(ei c x y).2) from rfl) with ⟨h1,_⟩|h1
    ·exact absurd he h1
    ·exact h1.2.2.2.2.2.2.2
  ·exact h
theorem vv {time:Int} {n m:Nat}:∀ (l:List bC) (i:Nat) (al:List bD) (au:List bC) (e:Int),(∀ a∈l,bM a=0/\0<=a.aO/\a.aO < n/\0<=a.aE/\a.aE < m)->
  (∀ a∈au,bM a=0/\0<=a.aO/\a.aO < n/\0<=a.aE/\a.aE < m)->(∀ c∈al,cQ c=0)->
  (∀ c∈(fv time l i al au e).1,cQ c=0)/\(fv time l i al au e).1.length=al.length/\(fv time l i al au e).2.1.length=au.length/\
  (∀ a∈(fv time l i al au e).2.1,bM a=0/\0<=a.aO/\a.aO < n/\0<=a.aE/\a.aE < m)
 |[],_,_,_,_,_,h2,h3=>⟨h3,rfl,rfl,h2⟩
 |a::l,i,al,au,e,h1,h2,h3=>by
  have ha:=h1 a List.mem_cons_self
  obtain ⟨r1,r2,r3,r4⟩:=vv l (i+1) (cJ al e a.aO (bR (ep a time) - bR a) 0).1 (au.set i (ep a time)) (cJ al e a.aO (bR (ep a time) - bR a) 0).2
   (fun x hx=>h1 x (List.mem_cons_of_mem _ hx)) (fun x hx=>by
    rcases gq hx with hx|rfl
    ·exact h2 x hx
    ·exact ⟨xI ha.1,ha.2⟩) (jT h3)
  refine ⟨r1,r2.trans (fb _ _ _ _ _),r3.trans (List.length_set ..),r4⟩
theorem cz.late {b:Bk} (h:cz b):cz (gJ b):=by
 unfold gJ
 split
 ·obtain ⟨r1,r2,r3,r4⟩:=vv (time:=b.time) (n:=b.al.length) (m:=b.due.length) b.au 0 b.al b.au 0 h.perm h.perm h.right
  exact ⟨h.time,by rw [r2];exact h.al,h.due,by rw [r3];exact h.au,h.aS,h.w0,h.w1,by dsimp only;rw [r2];exact r4,by dsimp only;rw [r2];exact h.jx,by dsimp only;rw [r3];exact h.k0,by dsimp only;rw [r3];exact h.k1,r1,h.l0,h.l1,by dsimp only;rw [r3];exact h.p0,by dsimp only;rw [r3];exact h.p1,h.n0,h.n1,h.calm⟩
 ·exact h
theorem cz.dw {b c:Bk} {e:Int} (h:cz b) (hc:e=0->cz c):cz (dw b c e).1:=by
 unfold Dev.dw;split
 ·exact hc (by assumption)
 ·exact h
theorem fS {e x:Int} (h:dG e x=0):e=0/\x=0:=by unfold dG at h;split at h<;>omega
theorem ja {l:List Entry} {e s d n:Int} (h:(dQ l e s d n).2=0):e=0/\(jb l s d n).2=0/\(dQ l e s d n).1=(jb l s d n).1:=by
 unfold dQ at h ⊢
 split at h
 ·rename_i h1;rw [if_pos h1];have:=fS h1;exact ⟨this.1,this.2,rfl⟩
 ·rename_i h1;exact absurd h h1
theorem cz.AH {b:Bk} (h:cz b) {cs:List bD} {bk:List Entry} (h1:∀ c∈cs,cQ c=0) (h2:cs.length=b.al.length):cz {b with al:=cs,book:=bk}:=
 ⟨h.time,by rw [h2];exact h.al,h.due,h.au,h.aS,h.w0,h.w1,by dsimp only;rw [h2];exact h.perm,by dsimp only;rw [h2];exact h.jx,h.k0,h.k1,h1,h.l0,h.l1,h.p0,h.p1,h.n0,h.n1,h.calm⟩
theorem cz.load {b:Bk} (h:cz b) (d:bJ):cz (fI b d).1:=by
 unfold fI
 split
 ·exact h
 split
 ·exact h
 ·exact h.dw fun _=>h.AH (jT h.right) (fb _ _ _ _ _)
theorem cz.Dy {b:Bk} (h:cz b) {due:List Int} {bk:List Entry} (h2:due.length=b.due.length):cz {b with due:=due,book:=bk}:=
 ⟨h.time,h.al,by rw [h2];exact h.due,h.au,h.aS,h.w0,h.w1,by dsimp only;rw [h2];exact h.perm,by dsimp only;rw [h2];exact h.jx,h.k0,h.k1,h.right,h.l0,h.l1,h.p0,h.p1,h.n0,h.n1,h.calm⟩
theorem cz.qj {b:Bk} (h:cz b) (d:bJ):cz (gN b d).1:=by
 unfold gN
 split
 ·exact h
 split
 ·exact h
 ·exact h.dw fun _=>h.Dy (List.length_set ..)
theorem cz.cG {b:Bk} (h:cz b) (d:bJ):cz (fk b d).1:=by
 unfold fk
 split
 ·exact h
 ·have h1:cz {b with time:=b.time+d.sum}:=by have:=h.time;exact h.tick (by omega) (by omega)
  dsimp only
  split
  ·exact h1
  ·exact h1.late
theorem tE {l:List cj} {ks:List bg} {n:Int} {p:cj} (h:p∈jA l ks n):p∈l\/(∃ t∈ks,p=⟨t,-1⟩)\/p=⟨⟨0,0,0,0⟩,n⟩:=by
 unfold jA at h
 simp only [List.mem_append,List.mem_map,List.mem_singleton] at h
 rcases h with (h|⟨t,ht,rfl⟩)|h
 ·exact .inl h
 ·exact .inr (.inl ⟨t,ht,rfl⟩)
 ·exact .inr (.inr h)
structure xZ (b:Bk) (n:Nat) (w:List cj):Prop where
 len:w.length<=60
 own:∀ p∈w,p.seen < 0->fj p.cc.number/\0<=p.cc.bd/\p.cc.bd < n
theorem cz.ways {b:Bk} (h:cz b) {v0 v1:List cj} (h0:xZ b b.au.length v0) (h1:xZ b b.au.length v1):cz {b with w0:=v0,w1:=v1}:=
 ⟨h.time,h.al,h.due,h.au,h.aS,h0.len,h1.len,h.perm,h.jx,h.k0,h.k1,h.right,h.l0,h.l1,h0.own,h1.own,h.n0,h.n1,h.calm⟩
theorem uZ {b:Bk} {w:List cj} {ks:List bg} {n:Int} (hn:0<=n) (h:xZ b b.au.length w) (hk:∀ t∈ks,fj t.number/\0<=t.bd/\t.bd < b.au.length):xZ b b.au.length (iV w ks n).1:=by
 unfold iV
 split
 ·exact h
 ·refine ⟨by dsimp only;omega,fun p hp hs=>?_⟩
  rcases tE hp with hp|⟨t,ht,rfl⟩|rfl
  ·exact h.own p hp hs
  ·exact hk t ht
  ·simp at hs;omega
theorem cz.send {b:Bk} (h:cz b) (d:bJ):cz {b with w0:=(eE b.s0 b.s1 b.n0 b.n1 b.w0 b.w1 d).1,w1:=(eE b.s0 b.s1 b.n0 b.n1 b.w0 b.w1 d).2.1}:=by
 have h0:xZ b b.au.length b.w0:=⟨h.w0,h.p0⟩
 have h1:xZ b b.au.length b.w1:=⟨h.w1,h.p1⟩
 unfold eE
 split
 ·exact h.ways h0 (uZ h.n0 h1 h.k0)
 split
 ·exact h.ways (uZ h.n1 h0 h.k1) h1
 ·exact h.ways h0 h1
theorem va {s:bS} {e:Int} {t:bg} {n:Nat} (h:∀ t∈s.kept,fj t.number/\0<=t.bd/\t.bd < n) (hl:s.kept.length<=40) (ht:0<=t.bd/\t.bd < n):
  (∀ u∈(eO s e t).1.kept,fj u.number/\0<=u.bd/\u.bd < n)/\(eO s e t).1.kept.length<=40:=by
 unfold eO
 split
 ·rename_i h0
  have he:=(fS h0).2
  unfold gG at he
  split at he
  ·rename_i h1;exact absurd he h1
  split at he
  ·rename_i h1;exact absurd he h1
  ·rename_i h1 h2
   have hp:(gG s t).1=gO s t:=by unfold gG;rw [if_neg h1,if_neg h2]
   have hw:(cK (gO s t)).err=0:=by omega
   have hr:=iC hw
   dsimp only
   rw [hp]
   refine ⟨fun x hx=>?_,hr.1⟩
   rcases List.mem_append.1 hx with hx|hx
   ·exact h x hx
   ·obtain rfl:=List.mem_singleton.1 hx
    exact ⟨by have:=hr.2.1;have:=hr.2.2.1;constructor<;>simp only [gO,List.length_append] at *<;>omega,ht⟩
 ·exact ⟨h,hl⟩
theorem zX {l:List ar} {e:Int} {r:ar} (h:l.length<=100):(iZ l e r).1.length<=100:=by
 unfold iZ
 split
 ·exact h
 ·rw [List.length_append,List.length_singleton];omega
theorem rL {l:List ar} {e:Int} {r:ar} (h:(iZ l e r).2=0):e=0/\l.length≠100/\(iZ l e r).1=l++[r]:=by
 unfold iZ at h ⊢
 split at h
 ·have:=(fS h).2;omega
 ·rename_i h1;rw [if_neg h1];exact ⟨h,h1,rfl⟩
structure oA (n:Nat) (s:bS):Prop where
 own:∀ t∈s.kept,fj t.number/\0<=t.bd/\t.bd < n
 len:s.kept.length<=40
theorem cz.tO {b:Bk} (h:cz b):oA b.au.length b.s0:=⟨h.k0,h.l0⟩
theorem cz.tN {b:Bk} (h:cz b):oA b.au.length b.s1:=⟨h.k1,h.l1⟩
theorem oA.send {n:Nat} {s:bS} {e:Int} {t:bg} (h:oA n s) (ht:0<=t.bd/\t.bd < n):oA n (eO s e t).1:=⟨(va h.own h.len ht).1,(va h.own h.len ht).2⟩
theorem Cj {b:Bk} (h:cz b) (a cw:bC) (d:bJ) (hn:0<=d.n/\d.n < b.au.length):
  (∀ c∈(dk b a cw d).1,cQ c=0)/\(dk b a cw d).1.length=b.al.length/\(dk b a cw d).2.1.length=b.due.length/\
  oA b.au.length (dk b a cw d).2.2.2.1/\oA b.au.length (dk b a cw d).2.2.2.2.1:=by
 unfold dk
 have hc:∀ e k x y,(∀ c∈(cJ b.al e k x y).1,cQ c=0)/\(cJ b.al e k x y).1.length=b.al.length:=fun e k x y=>⟨jT h.right,fb _ _ _ _ _⟩
 split
 ·exact ⟨(hc ..).1,(hc ..).2,rfl,h.tO,h.tN⟩
 split
 ·exact ⟨(hc ..).1,(hc ..).2,rfl,h.tO.send hn,h.tN⟩
 split
 ·exact ⟨h.right,rfl,List.length_set ..,h.tO,h.tN.send hn⟩
 split
 ·exact ⟨(hc ..).1,(hc ..).2,rfl,h.tO,h.tN⟩
 split
 ·exact ⟨h.right,rfl,rfl,h.tO.send hn,h.tN⟩
 split
 ·exact ⟨(hc ..).1,(hc ..).2,rfl,h.tO,h.tN⟩
 ·exact ⟨h.right,rfl,rfl,h.tO,h.tN⟩
theorem cz.jv {b:Bk} (h:cz b) (d:bJ):cz (dN b d).1:=by
 unfold dN
 split
 ·exact h
 split
 ·exact h
 rename_i hd hn
 have hn:0<=d.n/\d.n < b.au.length:=by omega
 split
 ·exact h
 rename_i cw ho
 split
 ·exact h
 rename_i hm
 split
 ·exact h
 have hm:cq cw d.move d.sum=((cq cw d.move d.sum).1,0):=Prod.ext rfl (by dsimp only;omega)
 obtain ⟨m1,m2,m3,m4,_⟩:=kJ hm
 obtain ⟨r1,r2,r3,r4,r5⟩:=Cj h (cq cw d.move d.sum).1 cw d hn
 have hp:=h.perm cw (List.mem_of_getElem? ho)
 unfold nV
 refine h.dw fun _=>⟨h.time,by rw [r2];exact h.al,by rw [r3];exact h.due,by rw [List.length_set];exact h.au,zX h.aS,h.w0,h.w1,fun a ha=>?_,by dsimp only;rw [r2,r3];exact h.jx,by dsimp only;rw [List.length_set];exact r4.own,by dsimp only;rw [List.length_set];exact r5.own,r1,r4.len,r5.len,by dsimp only;rw [List.length_set];exact h.p0,by dsimp only;rw [List.length_set];exact h.p1,h.n0,h.n1,h.calm⟩
 dsimp only
 rw [r2,r3]
 rcases gq ha with ha|rfl
 ·exact h.perm a ha
 ·exact ⟨m2,by rw [m3,m4];exact hp.2⟩
theorem lM {aO aE n time:Int} (h:(dm aO aE n time).2=0):bM (dm aO aE n time).1=0/\(dm aO aE n time).1=⟨aO,aE,n,0,0,0,time+100,false⟩/\¬(n < 1\/n > 1000000\/time < 0\/time > 1000000\/aO < 0\/aO > 7\/aE < 0\/aE > 7):=by
 unfold dm at h ⊢
 split at h
 ·cases h
 ·rename_i h1;rw [if_neg h1];exact ⟨rE (by dsimp only;omega),rfl,h1⟩
theorem BO {s:cH} {a:cp} (h:(cv s a).2=0):(cv s a).1.aU=s.aU++[a]:=by
 unfold cv at h ⊢
 split at h
 ·rename_i h1;exact absurd h h1
 split at h
 ·cases h
 split at h
 ·cases h
 split at h
 ·cases h
 ·rename_i h1 h2 h3 h4;rw [if_neg h1,if_neg h2,if_neg h3,if_neg h4]
theorem rY {e:Int} (h:gS e=0):e=0:=by unfold gS at h;split at h<;>omega
theorem cz.asks {b:Bk} (h:cz b) (d:bJ):cz (dK b d).1:=by
 unfold dK
 split
 ·exact h
 rename_i hn
 have hlen:∀ a∈b.aY.aU++[(⟨d.n,d.aE,d.sum,b.time⟩:cp)],0<=a.aO/\a.aO < b.al.length/\0<=a.aE/\a.aE < b.due.length:=fun a ha=>by
  rcases List.mem_append.1 ha with ha|ha
  ·exact h.jx a ha
  ·obtain rfl:=List.mem_singleton.1 ha;dsimp only;omega
 split
 ·split
  ·exact h
  split
  ·exact h
  rename_i h1 h2
  have he:=rY (show gS (cv b.aY ⟨d.n,d.aE,d.sum,b.time⟩).2=0 by omega)
  have hg:=BO he
  exact ⟨h.time,h.al,h.due,by dsimp only;omega,h.aS,h.w0,h.w1,h.perm,by dsimp only;rw [hg];exact hlen,h.k0,h.k1,h.right,h.l0,h.l1,h.p0,h.p1,h.n0,h.n1,fun hf=>by dsimp only at hf;simp_all⟩
 split
 ·exact h
 split
 ·exact h
 split
 ·exact h
 rename_i h1 h2 h3 c hc
 split
 ·exact h
 rename_i h4
 obtain ⟨w1,w2,w3⟩:=lM (show (dm d.n d.aE d.sum b.time).2=0 by omega)
 have hcr:cQ (dz c d.sum b.time).1=0:=by
  rcases oe (show dz c d.sum b.time=((dz c d.sum b.time).1,(dz c d.sum b.time).2) from rfl) with ⟨h5,_⟩|⟨h5,h6,h7,h8,h9,h10,h11,l,h12,h13⟩
  ·exact absurd h5 (by omega)
  ·rw [h13];have hr:=iD h6;exact mR (by dsimp only;omega) hr.2.2.2.2.1 (uo h12)
 have hq:=h.calm (by cases hd:b.down with|true=>exact absurd hd (by assumption)|false=>rfl)
 have hl:b.au.length+1<=30:=by have:=h.au;rw [hq] at this;simp only [List.length_nil] at this;omega
 have hk:∀ {n:Int},n < (b.au.length:Int)->n < ((b.au++[(dm d.n d.aE d.sum b.time).1]).length:Int):=fun hn=>by rw [List.length_append,List.length_singleton];omega
 refine ⟨h.time,by rw [List.length_set];exact h.al,h.due,by dsimp only;rw [hq,List.length_append,List.length_singleton];exact hl,h.aS,h.w0,h.w1,fun a ha=>?_,by dsimp only;rw [List.length_set];exact h.jx,
  fun t ht=>⟨(h.k0 t ht).1,(h.k0 t ht).2.1,hk (h.k0 t ht).2.2⟩,fun t ht=>⟨(h.k1 t ht).1,(h.k1 t ht).2.1,hk (h.k1 t ht).2.2⟩,fun x hx=>?_,h.l0,h.l1,
  fun p hp hs=>⟨(h.p0 p hp hs).1,(h.p0 p hp hs).2.1,hk (h.p0 p hp hs).2.2⟩,fun p hp hs=>⟨(h.p1 p hp hs).1,(h.p1 p hp hs).2.1,hk (h.p1 p hp hs).2.2⟩,h.n0,h.n1,h.calm⟩
 ·dsimp only at ha ⊢
  rw [List.length_set]
  rcases List.mem_append.1 ha with ha|ha
  ·exact h.perm a ha
  ·obtain rfl:=List.mem_singleton.1 ha
   exact ⟨w1,by rw [w2];dsimp only;omega⟩
 ·rcases gq hx with hx|rfl
  ·exact h.right x hx
  ·exact hcr
theorem tM {α:Type} {p:α->Bool} {l:List α} {x:α} (h:x∈dC p l):x∈l:=(List.mem_filter.1 h).1
theorem oA.back {n:Nat} {s:bS} (h:oA n s) {seen:Int} (hb:(eh s seen).2=0):oA n (eh s seen).1:=by
 rcases pT (show eh s seen=((eh s seen).1,(eh s seen).2) from rfl) with ⟨h1,_⟩|⟨_,_,_,_,h2⟩
 ·exact absurd hb h1
 ·rw [h2];exact ⟨fun t ht=>h.own t (tM ht),Nat.le_trans (List.length_filter_le ..) h.len⟩
theorem uP {au:List bC} {due:List Int} {al:List bD} {book:List Entry} {e:Int} {t:bg} (h:∀ c∈al,cQ c=0):
  (dP au due al book e t).1.length=due.length/\(∀ c∈(dP au due al book e t).2.1,cQ c=0)/\(dP au due al book e t).2.1.length=al.length:=by
 unfold dP
 split
 ·exact ⟨rfl,h,rfl⟩
 split
 ·exact ⟨List.length_set ..,h,rfl⟩
 split
 ·exact ⟨rfl,jT h,fb _ _ _ _ _⟩
 split
 ·exact ⟨List.length_set ..,h,rfl⟩
 ·exact ⟨rfl,h,rfl⟩
theorem nn {n:Int} {t:bg} (h:0<=n):0<=(fV n t).1:=by unfold fV;split<;>(dsimp only;omega)
theorem vV {α:Type} {l:List α} {n:Nat} {x:α} (h:x∈l.drop n):x∈l:=List.mem_of_mem_drop h
theorem cz.bE {b:Bk} (h:cz b) {cs:List bD} {due:List Int} {bk:List Entry} (h1:∀ c∈cs,cQ c=0) (h2:cs.length=b.al.length) (h3:due.length=b.due.length):cz {b with al:=cs,due:=due,book:=bk}:=
 ⟨h.time,by rw [h2];exact h.al,by rw [h3];exact h.due,h.au,h.aS,h.w0,h.w1,by dsimp only;rw [h2,h3];exact h.perm,by dsimp only;rw [h2,h3];exact h.jx,h.k0,h.k1,h1,h.l0,h.l1,h.p0,h.p1,h.n0,h.n1,h.calm⟩
theorem cz.yc {b:Bk} (h:cz b):cz {b with w0:=b.w0.drop 1}:=
 ⟨h.time,h.al,h.due,h.au,h.aS,by dsimp only;rw [List.length_drop];have:=h.w0;omega,h.w1,h.perm,h.jx,h.k0,h.k1,h.right,h.l0,h.l1,fun p hp=>h.p0 p (vV hp),h.p1,h.n0,h.n1,h.calm⟩
theorem cz.yb {b:Bk} (h:cz b):cz {b with w1:=b.w1.drop 1}:=
 ⟨h.time,h.al,h.due,h.au,h.aS,h.w0,by dsimp only;rw [List.length_drop];have:=h.w1;omega,h.perm,h.jx,h.k0,h.k1,h.right,h.l0,h.l1,h.p0,fun p hp=>h.p1 p (vV hp),h.n0,h.n1,h.calm⟩
theorem cz.FG {b:Bk} (h:cz b) {s:bS} (hs:oA b.au.length s):cz {b with s0:=s}:=
 ⟨h.time,h.al,h.due,h.au,h.aS,h.w0,h.w1,h.perm,h.jx,hs.own,h.k1,h.right,hs.len,h.l1,h.p0,h.p1,h.n0,h.n1,h.calm⟩
theorem cz.FF {b:Bk} (h:cz b) {s:bS} (hs:oA b.au.length s):cz {b with s1:=s}:=
 ⟨h.time,h.al,h.due,h.au,h.aS,h.w0,h.w1,h.perm,h.jx,h.k0,hs.own,h.right,h.l0,hs.len,h.p0,h.p1,h.n0,h.n1,h.calm⟩
theorem cz.CL {b:Bk} (h:cz b) {n:Int} (hn:0<=n):cz {b with n0:=n}:=
 ⟨h.time,h.al,h.due,h.au,h.aS,h.w0,h.w1,h.perm,h.jx,h.k0,h.k1,h.right,h.l0,h.l1,h.p0,h.p1,hn,h.n1,h.calm⟩
theorem cz.CK {b:Bk} (h:cz b) {n:Int} (hn:0<=n):cz {b with n1:=n}:=
 ⟨h.time,h.al,h.due,h.au,h.aS,h.w0,h.w1,h.perm,h.jx,h.k0,h.k1,h.right,h.l0,h.l1,h.p0,h.p1,h.n0,hn,h.calm⟩
theorem cz.Cy {b:Bk} (h:cz b) (d:bJ):cz (fQ b d).1:=by
 unfold fQ
 split
 ·exact h
 split
 ·exact h.yc
 split
 ·split
  ·rename_i hb;exact h.yc.FG (h.tO.back hb)
  ·exact h
 split
 ·obtain ⟨r1,r2,r3⟩:=uP (au:=b.au) (due:=b.due) (book:=b.book) (e:=0) (t:=(by assumption:cj).cc) h.right
  exact h.dw fun _=>(h.yc.CL (nn h.n0)).bE r2 r3 r1
 ·exact h.yc.CL (nn h.n0)
theorem cz.Cx {b:Bk} (h:cz b) (d:bJ):cz (fP b d).1:=by
 unfold fP
 split
 ·exact h
 split
 ·exact h.yb
 split
 ·split
  ·rename_i hb;exact h.yb.FF (h.tN.back hb)
  ·exact h
 split
 ·obtain ⟨r1,r2,r3⟩:=uP (au:=b.au) (due:=b.due) (book:=b.book) (e:=0) (t:=(by assumption:cj).cc) h.right
  exact h.dw fun _=>(h.yb.CK (nn h.n1)).bE r2 r3 r1
 ·exact h.yb.CK (nn h.n1)
theorem cz.jw {b:Bk} (h:cz b) (d:bJ):cz (cA b d).1:=by
 unfold cA
 split
 ·exact h.Cy d
 split
 ·exact h.Cx d
 ·exact h
theorem lQ {c:bD} {n:Int} (h:(eP c n).2=0):cQ (eP c n).1=0/\(eP c n).1=⟨c.bE,c.held+n,c.bZ,c.cW⟩/\cQ c=0/\1<=n/\n<=1000000:=by
 unfold eP at h ⊢
 split at h
 ·rename_i h1;exact absurd h h1
 split at h
 ·cases h
 ·rename_i h1 h2
  rw [if_neg h1,if_neg h2]
  have hw:cQ c=0:=by omega
  have hr:=iD hw
  exact ⟨mR (by dsimp only;omega) hr.2.2.2.2.1 hr.2.2.2.2.2,rfl,hw,by omega,by omega⟩
theorem zx {n m:Nat}:∀ (l:List cp) (cs:List bD) (xs:List bC),(∀ a∈l,0<=a.aO/\a.aO < n/\0<=a.aE/\a.aE < m)->cs.length=n->
  (∀ a∈xs,bM a=0/\0<=a.aO/\a.aO < n/\0<=a.aE/\a.aE < m)->(∀ c∈cs,cQ c=0)->
  (∀ c∈(fK l cs xs).1,cQ c=0)/\(fK l cs xs).1.length=n/\(∀ a∈(fK l cs xs).2.1,bM a=0/\0<=a.aO/\a.aO < n/\0<=a.aE/\a.aE < m)/\xs.length<=(fK l cs xs).2.1.length/\(fK l cs xs).2.1.length<=xs.length+l.length
 |[],cs,xs,_,h2,h3,h4=>⟨h4,h2,h3,Nat.le_refl _,Nat.le_refl _⟩
 |x::l,cs,xs,h1,h2,h3,h4=>by
  unfold fK
  split
  ·exact ⟨h4,h2,h3,Nat.le_refl _,by dsimp only;omega⟩
  rename_i e1
  split
  ·exact ⟨h4,h2,h3,Nat.le_refl _,by dsimp only;omega⟩
  rename_i c hc
  split
  ·exact ⟨h4,h2,h3,Nat.le_refl _,by dsimp only;omega⟩
  rename_i e2
  have hx:=h1 x List.mem_cons_self
  obtain ⟨w1,w2,w3⟩:=lM (show (dm x.aO x.aE x.sum x.time).2=0 by omega)
  obtain ⟨f1,_⟩:=lQ (show (eP c x.sum).2=0 by omega)
  obtain ⟨r1,r2,r3,r4,r5⟩:=zx l (cs.set x.aO.toNat (eP c x.sum).1) (xs++[(dm x.aO x.aE x.sum x.time).1]) (fun a ha=>h1 a (List.mem_cons_of_mem _ ha)) ((List.length_set ..).trans h2)
   (fun a ha=>by
    rcases List.mem_append.1 ha with ha|ha
    ·exact h3 a ha
    ·obtain rfl:=List.mem_singleton.1 ha;exact ⟨w1,by rw [w2];exact hx⟩)
   (fun z hz=>by
    rcases gq hz with hz|rfl
    ·exact h4 z hz
    ·exact f1)
  rw [List.length_append,List.length_singleton] at r4 r5
  exact ⟨r1,r2,r3,by omega,by rw [List.length_cons];omega⟩
theorem nY {s:cH} (h:(cX s).2.2=0):ca s=0/\(cX s).1=⟨s.cap,List.replicate s.used.length 0,[]⟩/\(cX s).2.1=s.aU:=by
 unfold cX at h ⊢
 split at h
 ·rename_i h1;exact absurd h h1
 ·rename_i h1;rw [if_neg h1];exact ⟨by omega,rfl,rfl⟩
theorem cz.ye {b:Bk} (h:cz b) (h1:(cX b.aY).2.2=0):cz {b with al:=(fK (cX b.aY).2.1 b.al b.au).1,au:=(fK (cX b.aY).2.1 b.al b.au).2.1,aY:=(cX b.aY).1,down:=false}:=by
 obtain ⟨_,c1,c2⟩:=nY h1
 rw [c1,c2]
 obtain ⟨r1,r2,r3,r4,r5⟩:=zx b.aY.aU b.al b.au h.jx rfl h.perm h.right
 have hk:∀ {n:Int},n < (b.au.length:Int)->n < ((fK b.aY.aU b.al b.au).2.1.length:Int):=fun hn=>by omega
 exact ⟨h.time,by rw [r2];exact h.al,h.due,by have:=h.au;simp only [List.length_nil];omega,h.aS,h.w0,h.w1,by dsimp only;rw [r2];exact r3,fun a ha=>by simp at ha,
  fun t ht=>⟨(h.k0 t ht).1,(h.k0 t ht).2.1,hk (h.k0 t ht).2.2⟩,fun t ht=>⟨(h.k1 t ht).1,(h.k1 t ht).2.1,hk (h.k1 t ht).2.2⟩,r1,h.l0,h.l1,
  fun p hp hs=>⟨(h.p0 p hp hs).1,(h.p0 p hp hs).2.1,hk (h.p0 p hp hs).2.2⟩,fun p hp hs=>⟨(h.p1 p hp hs).1,(h.p1 p hp hs).2.1,hk (h.p1 p hp hs).2.2⟩,h.n0,h.n1,fun _=>rfl⟩
theorem Bo {l:List cp} {q:Nat} {x:cp} {cs:List bD} {xs:List bC} {a:bC} {e1 e2:Int} (h:l[q]?=some x) (hn:dm x.aO x.aE x.sum x.time=(a,e1)) (hf:dG 0 e1=e2) (he:¬e2=0):fK (l.drop q) cs xs=(cs,xs,e2):=by
 rw [qH h,hn]
 have:e1=e2:=by unfold dG at hf;rw [if_pos rfl] at hf;exact hf
 subst this
 rw [if_pos he]
theorem Bn {l:List cp} {q:Nat} {x:cp} {cs:List bD} {xs:List bC} {a:bC} {c k:bD} {e1 e3 e4:Int} (h:l[q]?=some x) (hn:dm x.aO x.aE x.sum x.time=(a,e1)) (hf1:dG 0 e1=0) (hc:cs[x.aO.toNat]?=some c)
  (hF:eP c x.sum=(k,e3)) (hf:dG 0 e3=e4) (he:¬e4=0):fK (l.drop q) cs xs=(cs,xs,e4):=by
 rw [qH h,hn,hc]
 have h1:e1=0:=(fS hf1).2
 have:e3=e4:=by unfold dG at hf;rw [if_pos rfl] at hf;exact hf
 subst this h1
 dsimp only
 rw [if_neg (by simp),hF,if_pos he]
theorem Bm {l:List cp} {q:Nat} {x:cp} {cs:List bD} {xs:List bC} {a:bC} {c k:bD} {e1 e3:Int} (h:l[q]?=some x) (hn:dm x.aO x.aE x.sum x.time=(a,e1)) (hf1:dG 0 e1=0) (hc:cs[x.aO.toNat]?=some c)
  (hF:eP c x.sum=(k,e3)) (hf:dG 0 e3=0):fK (l.drop q) cs xs=fK (l.drop (q+1)) (cs.set x.aO.toNat k) (xs++[a]):=by
 rw [qH h,hn,hc]
 have h1:e1=0:=(fS hf1).2
 have h3:e3=0:=(fS hf).2
 subst h3 h1
 dsimp only
 rw [if_neg (by simp),hF,if_neg (by simp)]
theorem Dc {l:List cp} {q:Nat} {cs:List bD} {xs:List bC} (h:¬q < l.length):fK (l.drop q) cs xs=(cs,xs,0):=by
 rw [List.drop_of_length_le (by omega)];rfl
theorem zy {b:Bk} {s:cH} {l:List cp} {cs:List bD} {xs:List bC} {e:Int} (hd:b.down=true) (h:cX b.aY=(s,l,0)) (hL:fK l b.al b.au=(cs,xs,e)) (he:¬e=0):iM b=(b,⟨e,0⟩):=by
 unfold iM
 rw [if_neg (by rw [hd];simp),h]
 dsimp only
 rw [if_neg (by simp),hL]
 dsimp only
 rw [if_pos he]
theorem DL {b:Bk} {s:cH} {l:List cp} {cs:List bD} {xs:List bC} (hd:b.down=true) (h:cX b.aY=(s,l,0)) (hL:fK l b.al b.au=(cs,xs,0)):
  iM b=(gJ {b with al:=cs,au:=xs,aY:=s,down:=false},⟨0,0⟩):=by
 unfold iM
 rw [if_neg (by rw [hd];simp),h]
 dsimp only
 rw [if_neg (by simp),hL]
 dsimp only
 rw [if_neg (by simp)]
theorem cz.FC {b:Bk} (hb:cz b) {s:cH} {l:List cp} {cs:List bD} {xs:List bC} (h:cX b.aY=(s,l,0)) (hL:fK l b.al b.au=(cs,xs,0)):
  cz {b with al:=cs,au:=xs,aY:=s,down:=false}:=by
 have:=hb.ye (by rw [h])
 rw [h] at this;dsimp only at this;rw [hL] at this;exact this
theorem cz.zv {b:Bk} (h:cz b):cz (iM b).1:=by
 unfold iM
 split
 ·exact h
 split
 ·exact h
 split
 ·exact h
 ·exact (h.ye (by omega)).late
theorem cz.qL {b:Bk} (h:cz b) {t:List ar} (ht:t.length<=100):cz {b with aS:=t}:=
 ⟨h.time,h.al,h.due,h.au,ht,h.w0,h.w1,h.perm,h.jx,h.k0,h.k1,h.right,h.l0,h.l1,h.p0,h.p1,h.n0,h.n1,h.calm⟩
theorem mj {t:List ar} {y:List (List Int)} (h:t.length<=100):(iY t y).1.length<=100/\(iY t y).2.1.length<=y.length+1:=by
 unfold iY
 split
 ·exact ⟨h,Nat.le_succ _⟩
 ·exact ⟨by simp,by simp⟩
theorem cz.sS {b:Bk} (h:cz b) (y:List (List Int)) (d:bJ):cz (eX b y d).1/\(eX b y d).2.1.length<=y.length+1:=by
 unfold eX
 split
 ·exact ⟨h.load d,Nat.le_succ _⟩
 split
 ·exact ⟨h.asks d,Nat.le_succ _⟩
 split
 ·exact ⟨h.jv d,Nat.le_succ _⟩
 split
 ·exact ⟨h.cG d,Nat.le_succ _⟩
 split
 ·exact ⟨h.send d,Nat.le_succ _⟩
 split
 ·exact ⟨h.jw d,Nat.le_succ _⟩
 split
 ·split
  ·exact ⟨h,Nat.le_succ _⟩
  ·exact ⟨⟨h.time,h.al,h.due,h.au,h.aS,h.w0,h.w1,h.perm,h.jx,h.k0,h.k1,h.right,h.l0,h.l1,h.p0,h.p1,h.n0,h.n1,fun h=>by cases h⟩,Nat.le_succ _⟩
 split
 ·exact ⟨h.zv,Nat.le_succ _⟩
 split
 ·exact ⟨h.qL (mj h.aS).1,(mj (y:=y) h.aS).2⟩
 split
 ·exact ⟨h.qj d,Nat.le_succ _⟩
 ·exact ⟨h,Nat.le_succ _⟩
theorem cz.once {b:Bk} (h:cz b) (y:List (List Int)) (told:List (Int×Answer)) (cl:Nat) (d:bJ):cz (fH b y told cl d).1/\(fH b y told cl d).2.1.length<=y.length+1:=by
 unfold fH
 split
 ·exact ⟨h,Nat.le_succ _⟩
 ·exact h.sS y d
theorem tF:∀ {l:List ew} {i:Int},(oQ l i).err=0->∀ p∈l,ft p=0
 |p::l,i,h,x,hx=>by
  unfold oQ at h
  split at h
  ·rename_i h1;exact absurd h h1
  ·rename_i h1
   rcases List.mem_cons.1 hx with rfl|hx
   ·omega
   ·exact tF h x hx
theorem kX {s:Setup} (h:(eC s).err=0):s.da.length<=8/\0<=s.gn/\s.gn<=8/\0<=s.cap/\s.cap<=1000000/\∀ p∈s.da,ft p=0:=by
 unfold eC at h
 split at h
 ·cases h
 split at h
 ·cases h
 ·exact ⟨by omega,by omega,by omega,by omega,by omega,tF h⟩
theorem cz.start {s:Setup} (h:(eC s).err=0):cz (iB s):=by
 obtain ⟨h1,h2,h3,h4,h5,h6⟩:=kX h
 have hn:dH s.cap s.da.length=({cap:=s.cap,used:=List.replicate s.da.length 0,aU:=[]},0):=ql h1 ⟨h4,h5⟩
 unfold iB
 rw [hn]
 refine ⟨by dsimp only;omega,by simpa using h1,by simp;omega,by simp,by simp,by simp,by simp,by simp,by simp,by simp,by simp,fun c hc=>?_,by simp,by simp,by simp,by simp,by simp,by simp,fun _=>rfl⟩
 obtain ⟨p,hp,rfl⟩:=List.mem_map.1 hc
 exact mR (c:=⟨0,0,p,[]⟩) (by dsimp only;omega) (h6 p hp) (su.2 ⟨by simp,by simp,by simp⟩)
end Go.Proofs.Ytegepioggeggaaa.Dev
