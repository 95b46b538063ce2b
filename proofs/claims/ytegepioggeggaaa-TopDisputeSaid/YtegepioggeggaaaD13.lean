/- A part of the proof: Bank8, Bank9, PlOk. No condition. -/
import Derived.Test.YtegepioggeggaaaD11
set_option linter.unusedVariables false
set_option linter.unusedSimpArgs false
set_option maxHeartbeats 8000000
set_option maxRecDepth 100000
namespace Go.Proofs.Ytegepioggeggaaa.Dev
open Go.RowKit

theorem Fe (x:Nat->Value) (hx:∀ i,(x i).oneCell'=true) (b:Bk) (d:aE) (ok:cm b) (hdn:b.down=false) (b2:Bk) (a2:Answer) (hr:dJ b d=(b2,a2)):cA Try.prog 63 [(.c (.p 0 0 0 0)),(.c (.q (cG d) 0))] [(0,(.box 98 (aS b 1 2 3 4 (.d (.v (x 17))) (.d (.v (x 19)))))),(1,(dR b.aj)),(2,(dL b.due)),(3,(dX b.aq)),(4,(cH b.aN))] [0] (.v (.g [cI a2.err,cI a2.ba])) [(0,(.box 98 (aS b2 1 2 3 4 (.d (.v (x 17))) (.d (.v (x 19)))))),(1,(dR b2.aj)),(2,(dL b2.due)),(3,(dX b2.aq)),(4,(cH b2.aN))]:=by
 refine cA.mk 214 [(0,(aC (.p 0 0 0 0))),(1,(aC (.q (cG d) 0)))] 5 Try.func63 rfl rfl rfl rfl rfl rfl rfl rfl rfl ?_
 intro W0 F0 T0 pg
 obtain ⟨okt,okc,okd,oka,oky,okw0,okw1,okp,okv,okk0,okk1,okg,okl0,okl1,okp0,okp1,okn0,okn1,okq⟩:=id ok
 refine ad aa 1 rfl ?_
 refine af ?_
 refine af ?_
 rcases Bool.eq_false_or_eq_true (decide (d.n < 0)) with hb1|hb1
 ·
  have hb1':=of_decide_eq_true hb1
  refine bb [0,1,4] [5,0,1,2,3,4] mixed rfl rfl ?_
  refine aA (kn:=[(14,true)]) aa 38 rfl ⟨hb1,trivial⟩ ?_
  refine bB [5,0,1,2,3,4] rfl rfl rfl rfl (by kernel_rfl) ?_
  refine ae ?_
  refine ag rfl (fun _=>?_) (fun hno=>by cases hno)
  refine ad aa 2 rfl ?_
  refine ar ?_
  refine ao ?_
  have hX:dJ b d=(b,(⟨6,0⟩:Answer)):=by
    unfold dJ;(try simp only [hdn,Bool.false_eq_true,if_false]);(repeat' split)<;>first|rfl|omega|(exfalso;omega)|(simp_all;done)|(simp_all;omega)
  rw [hX] at hr;clear hX
  simp only [Prod.mk.injEq] at hr;obtain ⟨rfl,rfl⟩:=hr
  refine ah aa [0,1,2,3,4,5] 5 rfl rfl rfl rfl rfl rfl ?_ ?_
  all_goals first|rfl|(simp [au,aS,aZ];done)|(simp [au,aS,aZ];omega)
 have hb1':=of_decide_eq_false hb1
 rcases Bool.eq_false_or_eq_true (decide (d.n>=(↑b.aj.length:Int))) with hb3|hb3
 ·
  have hb3':=of_decide_eq_true hb3
  refine bb [0,1,4] [5,0,1,2,3,4] mixed rfl rfl ?_
  refine aA (kn:=[(14,false)]) aa 15 rfl ⟨hb1,trivial⟩ ?_
  refine aT (n':=6) [24,15] [1] rfl rfl (.inl ⟨(ak.yes rfl rfl rfl),aK.cast (dr rfl rfl rfl rfl rfl Try.underlying29) rfl⟩) rfl ?_
  refine aA (kn:=[(26,true)]) aa 22 rfl ⟨hb3,trivial⟩ ?_
  refine bB [5,0,1,2,3,4] rfl rfl rfl rfl (by kernel_rfl) ?_
  refine ae ?_
  refine ag rfl (fun _=>?_) (fun hno=>by cases hno)
  refine ad aa 2 rfl ?_
  refine ar ?_
  refine ao ?_
  have hX:dJ b d=(b,(⟨6,0⟩:Answer)):=by
    unfold dJ;(try simp only [hdn,Bool.false_eq_true,if_false]);(repeat' split)<;>first|rfl|omega|(exfalso;omega)|(simp_all;done)|(simp_all;omega)
  rw [hX] at hr;clear hX
  simp only [Prod.mk.injEq] at hr;obtain ⟨rfl,rfl⟩:=hr
  refine ah aa [0,1,2,3,4,5] 5 rfl rfl rfl rfl rfl rfl ?_ ?_
  all_goals first|rfl|(simp [au,aS,aZ];done)|(simp [au,aS,aZ];omega)
 have hb3':=of_decide_eq_false hb3
 rcases Bool.eq_false_or_eq_true (decide (d.ax < 0)) with hb5|hb5
 ·
  have hb5':=of_decide_eq_true hb5
  refine bb [0,1,4] [5,0,1,2,3,4] mixed rfl rfl ?_
  refine aA (kn:=[(14,false)]) aa 15 rfl ⟨hb1,trivial⟩ ?_
  refine aT (n':=6) [24,15] [1] rfl rfl (.inl ⟨(ak.yes rfl rfl rfl),aK.cast (dr rfl rfl rfl rfl rfl Try.underlying29) rfl⟩) rfl ?_
  refine aA (kn:=[(26,false),(33,true)]) aa 22 rfl ⟨hb3,hb5,trivial⟩ ?_
  refine bB [5,0,1,2,3,4] rfl rfl rfl rfl (by kernel_rfl) ?_
  refine ae ?_
  refine ag rfl (fun _=>?_) (fun hno=>by cases hno)
  refine ad aa 2 rfl ?_
  refine ar ?_
  refine ao ?_
  have hX:dJ b d=(b,(⟨6,0⟩:Answer)):=by
    unfold dJ;(try simp only [hdn,Bool.false_eq_true,if_false]);(repeat' split)<;>first|rfl|omega|(exfalso;omega)|(simp_all;done)|(simp_all;omega)
  rw [hX] at hr;clear hX
  simp only [Prod.mk.injEq] at hr;obtain ⟨rfl,rfl⟩:=hr
  refine ah aa [0,1,2,3,4,5] 5 rfl rfl rfl rfl rfl rfl ?_ ?_
  all_goals first|rfl|(simp [au,aS,aZ];done)|(simp [au,aS,aZ];omega)
 have hb5':=of_decide_eq_false hb5
 refine bb [0,1,4] [5,0,1,2,3,4] mixed rfl rfl ?_
 refine aA (kn:=[(14,false)]) aa 15 rfl ⟨hb1,trivial⟩ ?_
 refine aT (n':=6) [24,15] [1] rfl rfl (.inl ⟨(ak.yes rfl rfl rfl),aK.cast (dr rfl rfl rfl rfl rfl Try.underlying29) rfl⟩) rfl ?_
 refine aA (kn:=[(26,false),(33,false)]) aa 19 rfl ⟨hb3,hb5,trivial⟩ ?_
 refine aT (n':=6) [44,35] [2] rfl rfl (.inl ⟨(ak.yes rfl rfl rfl),aK.cast (dr rfl rfl rfl rfl rfl Try.underlying30) rfl⟩) rfl ?_
 refine aA (kn:=[]) aa 2 rfl trivial ?_
 refine bB [5,0,1,2,3,4] rfl rfl rfl rfl (by kernel_rfl) ?_
 refine ae ?_
 refine ag rfl (fun hc7=>?_) (fun hc7=>?_)
 ·
  have hc7':=of_decide_eq_true hc7
  refine ad aa 2 rfl ?_
  refine ar ?_
  refine ao ?_
  have hX:dJ b d=(b,(⟨6,0⟩:Answer)):=by
    unfold dJ;(try simp only [hdn,Bool.false_eq_true,if_false]);(repeat' split)<;>first|rfl|omega|(exfalso;omega)|(simp_all;done)|(simp_all;omega)
  rw [hX] at hr;clear hX
  simp only [Prod.mk.injEq] at hr;obtain ⟨rfl,rfl⟩:=hr
  refine ah aa [0,1,2,3,4,5] 5 rfl rfl rfl rfl rfl rfl ?_ ?_
  all_goals first|rfl|(simp [au,aS,aZ];done)|(simp [au,aS,aZ];omega)
 have hc7':=of_decide_eq_false hc7
 refine aP ?_
 refine af ?_
 refine ad aa 5 rfl ?_
 refine ag rfl (fun hno=>absurd (hdn.symm.trans hno) (by decide)) (fun _=>?_)
 refine aP ?_
 refine af ?_
 obtain ⟨b0,e0,hr0⟩:∃ (b0:bz) (e0:Int),de d.n d.ax d.sum b.time=(b0,e0):=⟨_,_,rfl⟩
 refine db [0,1,4] [5,0,1,2,3,4] mixed rfl rfl ?_
 refine bT (kn:=[]) aa 17 rfl trivial ?_
 refine bW (n':=6) [123,127,131,136] [] rfl rfl (.inl ⟨(ak.plain rfl),aK.cast (bJ 6 (rJ d.n d.ax d.sum b.time b0 e0 hr0) EJ rfl rfl ⟨⟨_,rfl,.c (.d _)⟩,⟨_,rfl,.c (.d _)⟩,⟨_,rfl,.c (.d _)⟩,⟨_,rfl,.c (.d _)⟩,trivial⟩ ⟨⟨trivial,trivial,trivial,trivial,trivial,trivial,trivial,trivial,trivial⟩,trivial,trivial⟩ trivial rfl rfl rfl rfl) rfl⟩) rfl ?_
 refine bT (n':=7) (kn:=[]) aa 6 rfl trivial ?_
 refine dS [0,1,4,7,8] [6,5,0,1,2,3,4] rfl rfl (by kernel_rfl) ?_
 refine then_ok ?_
 refine af ?_
 refine cq 150 ((decide (e0=0)) && (decide ((↑b.aq.length:Int)=30))) ?_ ?_
 ·
  refine aw ?_
  refine ab aa 3 rfl ?_
  refine bA (t:=142) rfl (fun hb9=>?_) (fun hb9=>?_)
  ·
   have hb9':=of_decide_eq_true hb9
   refine ab aa 5 rfl ?_
   refine dF (ak.yes rfl rfl rfl) (dr rfl rfl rfl rfl rfl Try.underlying31) rfl rfl ?_
   refine ab aa 2 rfl ?_
   refine ae ?_
   exact aD.bG 12 rfl rfl (by first|(simp [hb9];done)|(simp_all;done)|(exfalso;simp_all;done)|(simp_all;omega)) rfl
  have hb9':=of_decide_eq_false hb9
  refine ab aa 8 rfl ?_
  refine ae ?_
  exact aD.bG 12 rfl rfl (by first|(simp [hb9];done)|(simp_all;done)|(exfalso;simp_all;done)|(simp_all;omega)) rfl
 refine ag rfl (fun hc10=>?_) (fun hc10=>?_)
 ·
  have hc10':=hc10;try simp only [bm,bM] at hc10'
  refine aw ?_
  refine ab aa 1 rfl ?_
  refine ae ?_
  refine af ?_
  refine az aa 1 rfl ?_
  refine ay (aM rfl rfl rfl (show _=some (Value.bool true) from rfl)) rfl ?_
  refine ae ?_
  refine ag rfl (fun _=>?_) (fun hno=>by cases hno)
  refine ad aa 3 rfl ?_
  refine ar ?_
  refine ao ?_
  have hX:dJ b d=(b,(⟨5,0⟩:Answer)):=by
    unfold dJ;(try simp only [hdn,Bool.false_eq_true,if_false,hr0]);(repeat' split)<;>first|rfl|omega|(exfalso;omega)|(simp_all;done)|(simp_all;omega)
  rw [hX] at hr;clear hX
  simp only [Prod.mk.injEq] at hr;obtain ⟨rfl,rfl⟩:=hr
  refine ah aa [0,1,2,3,4,5] 5 rfl rfl rfl rfl rfl rfl ?_ ?_
  all_goals first|rfl|(simp [au,aS,aZ];done)|(simp [au,aS,aZ];omega)
 have hc10':=hc10;try simp only [bm,bM] at hc10'
 refine aP ?_
 refine af ?_
 refine ad aa 2 rfl ?_
 refine ag rfl (fun hc12=>?_) (fun hc12=>?_)
 ·
  have hc12':=of_decide_eq_true hc12
  refine ad aa 3 rfl ?_
  refine ar ?_
  refine ao ?_
  have hX:dJ b d=(b,(⟨e0,0⟩:Answer)):=by
    unfold dJ;(try simp only [hdn,Bool.false_eq_true,if_false,hr0]);(repeat' split)<;>first|rfl|omega|(exfalso;omega)|(simp_all;done)|(simp_all;omega)
  rw [hX] at hr;clear hX
  simp only [Prod.mk.injEq] at hr;obtain ⟨rfl,rfl⟩:=hr
  refine ah aa [0,1,2,3,4,5] 5 rfl rfl rfl rfl rfl rfl ?_ ?_
  all_goals first|rfl|(simp [au,aS,aZ];done)|(simp [au,aS,aZ];omega)
 have hc12':=of_decide_eq_false hc12
 refine aP ?_
 refine af ?_
 obtain ⟨x1,hx1⟩:=ch (xs:=b.aj) (i:=Int.toNat (d.n)) (by first|omega|(simp;done)|(simp;omega))
 obtain ⟨xr1,e1,hr1⟩:∃ (xr1:bx) (e1:Int),dK x1 d.sum b.time=(xr1,e1):=⟨_,_,rfl⟩
 refine db [0,1,4,7] [6,5,0,1,2,3,4] mixed rfl rfl ?_
 refine bT (kn:=[]) aa 9 rfl trivial ?_
 refine bW (n':=7) [160,164] [1] rfl rfl (.inl ⟨(ak.plain rfl),aK.cast (bq (i:=Int.toNat (d.n)) rfl rfl rfl Try.underlying29 hY (by first|omega|(simp;done)|(simp;omega)) (by first|omega|(simp;done)|(simp;omega))) rfl⟩) rfl ?_
 refine bW (n':=7) [165] [1] rfl rfl (.inl ⟨(ak.plain rfl),aK.cast (dg rfl rfl rfl Try.underlying61 rfl hY (bw hx1) rfl) rfl⟩) rfl ?_
 refine bT (kn:=[]) aa 9 rfl trivial ?_
 refine bW (n':=7) [166,170,175] [] rfl rfl (.inl ⟨(ak.plain rfl),aK.cast (bJ 7 (Fn.frozen (av':=(.t [(.g [(cI xr1.bj),(cI xr1.held),(cI xr1.bX.cK),(cI xr1.bX.count),(cI xr1.bX.sum),(fq xr1.cD)]),(.c (cI e1))])) (vR x1 d.sum b.time xr1 e1 hr1) ⟨⟨.inl ⟨_,rfl,rfl⟩,.inl ⟨_,rfl,rfl⟩,.inl ⟨_,rfl,rfl⟩,.inl ⟨_,rfl,rfl⟩,.inl ⟨_,rfl,rfl⟩,.inr ⟨_,_,_,_,_,rfl,rfl,rfl,by simp⟩,trivial⟩,.inl ⟨_,rfl,rfl⟩,trivial⟩) GO rfl rfl ⟨⟨_,rfl,.g ⟨.d _,.d _,.d _,.d _,.d _,.d _,trivial⟩⟩,⟨_,rfl,.c (.d _)⟩,⟨_,rfl,.c (.d _)⟩,trivial⟩ ⟨⟨trivial,trivial,trivial,trivial,trivial,trivial,trivial⟩,trivial,trivial⟩ trivial rfl rfl rfl rfl) rfl⟩) rfl ?_
 refine bT (n':=8) (kn:=[]) aa 6 rfl trivial ?_
 refine dS [0,1,4,7,9,8] [7,6,5,0,1,2,3,4] rfl rfl (by kernel_rfl) ?_
 refine then_ok ?_
 refine af ?_
 refine ad aa 2 rfl ?_
 refine ag rfl (fun hc13=>?_) (fun hc13=>?_)
 ·
  have hc13':=of_decide_eq_true hc13
  refine ad aa 3 rfl ?_
  refine ar ?_
  refine ao ?_
  have hX:dJ b d=(b,(⟨e1,0⟩:Answer)):=by
    unfold dJ;(try simp only [hdn,Bool.false_eq_true,if_false,hr0,hr1,hx1]);(repeat' split)<;>first|rfl|omega|(exfalso;omega)|(simp_all;done)|(simp_all;omega)
  rw [hX] at hr;clear hX
  simp only [Prod.mk.injEq] at hr;obtain ⟨rfl,rfl⟩:=hr
  refine ah aa [0,1,2,3,4,5] 5 rfl rfl rfl rfl rfl rfl ?_ ?_
  all_goals first|rfl|(simp [au,aS,aZ];done)|(simp [au,aS,aZ];omega)
 have hc13':=of_decide_eq_false hc13
 refine aP ?_
 refine af ?_
 refine bb [0,1,4,7,9] [7,6,5,0,1,2,3,4] mixed rfl rfl ?_
 refine aA (kn:=[]) aa 10 rfl trivial ?_
 refine aT (n':=8) [187,191] [1] rfl rfl (.inl ⟨(ak.plain rfl),aK.cast (bq (i:=Int.toNat (d.n)) rfl rfl rfl Try.underlying29 hY (by first|omega|(simp;done)|(simp;omega)) (by first|omega|(simp;done)|(simp;omega))) rfl⟩) rfl ?_
 refine bB [7,6,5,0,1,2,3,4] rfl rfl rfl rfl (by kernel_rfl) ?_
 refine gf [7,6,5,0,1,2,3,4] (dP (ds:=[(dI xr1.bj),(dI xr1.held),(dI xr1.bX.cK),(dI xr1.bX.count),(dI xr1.bX.sum),(EV xr1.cD)]) rfl rfl rfl rfl rfl hY rfl (Nat.le_of_ble_eq_true rfl) (bw hx1) rfl (eL (x':=xr1) rfl)) rfl ?_
 refine ae ?_
 refine fy (k:=0) (q:=2) (c':=(.s 1 0 6 (((b.aj).set (Int.toNat (d.n)) xr1).length))) rfl rfl (by first|rfl|(simp;done)|(congr 1;omega)) rfl ?_
 refine af ?_
 refine bb [0,4,7] [6,5,0,1,2,3,4] mixed rfl rfl ?_
 refine aA (kn:=[]) aa 7 rfl trivial ?_
 refine aT (n':=9) [200] [] rfl rfl (.inl ⟨(ak.plain rfl),aK.cast (dz (ys:=[(0,(.g [(cI b0.aJ),(cI b0.ax),(cI b0.sum),(cI b0.captured),(cI b0.br),(cI b0.bd),(cI b0.cS),(cB b0.shut)]))]) (rows:=([b0]).map iO) 8 rZ rfl (by decide) ⟨⟨rfl,rfl⟩,trivial⟩ rfl rfl rfl rfl) rfl⟩) rfl ?_
 refine aT (n':=10) [199,201] [8,3] rfl rfl (.inl ⟨(ak.plain rfl),aK.cast (da (m:=1) (N:=b.aq.length+1) (k2:=9) (ys:=([b0]).map iO) rZ rfl rfl rfl rfl rfl rfl (by first|omega|(simp;done)|(simp;omega)) rfl (.s rfl (by first|omega|(simp;done)|(simp;omega))) (by first|omega|(simp;done)|(simp;omega)) (by first|omega|(simp;done)|(simp;omega)) eP (by decide) (by first|omega|(simp;done)|(simp;omega)) (by first|omega|(simp;done)|(simp;omega))) rfl⟩) rfl ?_
 refine aA (kn:=[]) aa 3 rfl trivial ?_
 refine bB [9,6,5,0,1,2,4] rfl rfl rfl rfl (by kernel_rfl) ?_
 refine ab aa 1 rfl ?_
 refine ae ?_
 refine fy (k:=0) (q:=4) (c':=(.s 9 0 8 ((b.aq++([b0])).length))) rfl rfl (by first|rfl|(simp;done)|(congr 1;omega)) rfl ?_
 refine az aa 5 rfl ?_
 refine ay (dr rfl rfl rfl rfl rfl Try.underlying31) rfl ?_
 refine ay (aM rfl rfl rfl (aH (by first|omega|(simp;done)|(simp;omega)))) rfl ?_
 refine ab aa 2 rfl ?_
 refine ae ?_
 refine ar ?_
 have hX:dJ b d=((⟨b.time,b.down,(b.aj).set (Int.toNat (d.n)) xr1,b.due,b.aq++([b0]),b.s0,b.s1,b.n0,b.n1,b.w0,b.w1,b.bH,b.aN,b.book⟩:Bk),(⟨0,(↑((b.aq++([b0])).length):Int) - 1⟩:Answer)):=by
   unfold dJ;(try simp only [hdn,Bool.false_eq_true,if_false,hr0,hr1,hx1]);(repeat' split)<;>first|rfl|omega|(exfalso;omega)|(simp_all;done)|(simp_all;omega)
 rw [hX] at hr;clear hX
 simp only [Prod.mk.injEq] at hr;obtain ⟨rfl,rfl⟩:=hr
 refine ah aa [0,1,2,9,4,5] 5 rfl rfl rfl rfl rfl rfl ?_ ?_
 all_goals first|rfl|(simp [au,aS,aZ];done)|(simp [au,aS,aZ];omega)
theorem Ff (x:Nat->Value) (hx:∀ i,(x i).oneCell'=true) (b:Bk) (d:aE) (ok:cm b) (hdn:b.down=true) (b2:Bk) (a2:Answer) (hr:dJ b d=(b2,a2)):cA Try.prog 63 [(.c (.p 0 0 0 0)),(.c (.q (cG d) 0))] [(0,(.box 98 (aS b 1 2 3 4 (.d (.v (x 17))) (.d (.v (x 19)))))),(1,(dR b.aj)),(2,(dL b.due)),(3,(dX b.aq)),(4,(cH b.aN))] [0] (.v (.g [cI a2.err,cI a2.ba])) [(0,(.box 98 (aS b2 1 2 3 4 (.d (.v (x 17))) (.d (.v (x 19)))))),(1,(dR b2.aj)),(2,(dL b2.due)),(3,(dX b2.aq)),(4,(cH b2.aN))]:=by
 refine cA.mk 214 [(0,(aC (.p 0 0 0 0))),(1,(aC (.q (cG d) 0)))] 5 Try.func63 rfl rfl rfl rfl rfl rfl rfl rfl rfl ?_
 intro W0 F0 T0 pg
 obtain ⟨okt,okc,okd,oka,oky,okw0,okw1,okp,okv,okk0,okk1,okg,okl0,okl1,okp0,okp1,okn0,okn1,okq⟩:=id ok
 refine ad aa 1 rfl ?_
 refine af ?_
 refine af ?_
 rcases Bool.eq_false_or_eq_true (decide (d.n < 0)) with hb1|hb1
 ·
  have hb1':=of_decide_eq_true hb1
  refine bb [0,1,4] [5,0,1,2,3,4] mixed rfl rfl ?_
  refine aA (kn:=[(14,true)]) aa 38 rfl ⟨hb1,trivial⟩ ?_
  refine bB [5,0,1,2,3,4] rfl rfl rfl rfl (by kernel_rfl) ?_
  refine ae ?_
  refine ag rfl (fun _=>?_) (fun hno=>by cases hno)
  refine ad aa 2 rfl ?_
  refine ar ?_
  refine ao ?_
  have hX:dJ b d=(b,(⟨6,0⟩:Answer)):=by
    unfold dJ gF;(try simp only [hdn,if_true]);(repeat' split)<;>first|rfl|omega|(exfalso;omega)|(simp_all;done)|(simp_all;omega)
  rw [hX] at hr;clear hX
  simp only [Prod.mk.injEq] at hr;obtain ⟨rfl,rfl⟩:=hr
  refine ah aa [0,1,2,3,4,5] 5 rfl rfl rfl rfl rfl rfl ?_ ?_
  all_goals first|rfl|(simp [au,aS,aZ];done)|(simp [au,aS,aZ];omega)
 have hb1':=of_decide_eq_false hb1
 rcases Bool.eq_false_or_eq_true (decide (d.n>=(↑b.aj.length:Int))) with hb3|hb3
 ·
  have hb3':=of_decide_eq_true hb3
  refine bb [0,1,4] [5,0,1,2,3,4] mixed rfl rfl ?_
  refine aA (kn:=[(14,false)]) aa 15 rfl ⟨hb1,trivial⟩ ?_
  refine aT (n':=6) [24,15] [1] rfl rfl (.inl ⟨(ak.yes rfl rfl rfl),aK.cast (dr rfl rfl rfl rfl rfl Try.underlying29) rfl⟩) rfl ?_
  refine aA (kn:=[(26,true)]) aa 22 rfl ⟨hb3,trivial⟩ ?_
  refine bB [5,0,1,2,3,4] rfl rfl rfl rfl (by kernel_rfl) ?_
  refine ae ?_
  refine ag rfl (fun _=>?_) (fun hno=>by cases hno)
  refine ad aa 2 rfl ?_
  refine ar ?_
  refine ao ?_
  have hX:dJ b d=(b,(⟨6,0⟩:Answer)):=by
    unfold dJ gF;(try simp only [hdn,if_true]);(repeat' split)<;>first|rfl|omega|(exfalso;omega)|(simp_all;done)|(simp_all;omega)
  rw [hX] at hr;clear hX
  simp only [Prod.mk.injEq] at hr;obtain ⟨rfl,rfl⟩:=hr
  refine ah aa [0,1,2,3,4,5] 5 rfl rfl rfl rfl rfl rfl ?_ ?_
  all_goals first|rfl|(simp [au,aS,aZ];done)|(simp [au,aS,aZ];omega)
 have hb3':=of_decide_eq_false hb3
 rcases Bool.eq_false_or_eq_true (decide (d.ax < 0)) with hb5|hb5
 ·
  have hb5':=of_decide_eq_true hb5
  refine bb [0,1,4] [5,0,1,2,3,4] mixed rfl rfl ?_
  refine aA (kn:=[(14,false)]) aa 15 rfl ⟨hb1,trivial⟩ ?_
  refine aT (n':=6) [24,15] [1] rfl rfl (.inl ⟨(ak.yes rfl rfl rfl),aK.cast (dr rfl rfl rfl rfl rfl Try.underlying29) rfl⟩) rfl ?_
  refine aA (kn:=[(26,false),(33,true)]) aa 22 rfl ⟨hb3,hb5,trivial⟩ ?_
  refine bB [5,0,1,2,3,4] rfl rfl rfl rfl (by kernel_rfl) ?_
  refine ae ?_
  refine ag rfl (fun _=>?_) (fun hno=>by cases hno)
  refine ad aa 2 rfl ?_
  refine ar ?_
  refine ao ?_
  have hX:dJ b d=(b,(⟨6,0⟩:Answer)):=by
    unfold dJ gF;(try simp only [hdn,if_true]);(repeat' split)<;>first|rfl|omega|(exfalso;omega)|(simp_all;done)|(simp_all;omega)
  rw [hX] at hr;clear hX
  simp only [Prod.mk.injEq] at hr;obtain ⟨rfl,rfl⟩:=hr
  refine ah aa [0,1,2,3,4,5] 5 rfl rfl rfl rfl rfl rfl ?_ ?_
  all_goals first|rfl|(simp [au,aS,aZ];done)|(simp [au,aS,aZ];omega)
 have hb5':=of_decide_eq_false hb5
 refine bb [0,1,4] [5,0,1,2,3,4] mixed rfl rfl ?_
 refine aA (kn:=[(14,false)]) aa 15 rfl ⟨hb1,trivial⟩ ?_
 refine aT (n':=6) [24,15] [1] rfl rfl (.inl ⟨(ak.yes rfl rfl rfl),aK.cast (dr rfl rfl rfl rfl rfl Try.underlying29) rfl⟩) rfl ?_
 refine aA (kn:=[(26,false),(33,false)]) aa 19 rfl ⟨hb3,hb5,trivial⟩ ?_
 refine aT (n':=6) [44,35] [2] rfl rfl (.inl ⟨(ak.yes rfl rfl rfl),aK.cast (dr rfl rfl rfl rfl rfl Try.underlying30) rfl⟩) rfl ?_
 refine aA (kn:=[]) aa 2 rfl trivial ?_
 refine bB [5,0,1,2,3,4] rfl rfl rfl rfl (by kernel_rfl) ?_
 refine ae ?_
 refine ag rfl (fun hc7=>?_) (fun hc7=>?_)
 ·
  have hc7':=of_decide_eq_true hc7
  refine ad aa 2 rfl ?_
  refine ar ?_
  refine ao ?_
  have hX:dJ b d=(b,(⟨6,0⟩:Answer)):=by
    unfold dJ gF;(try simp only [hdn,if_true]);(repeat' split)<;>first|rfl|omega|(exfalso;omega)|(simp_all;done)|(simp_all;omega)
  rw [hX] at hr;clear hX
  simp only [Prod.mk.injEq] at hr;obtain ⟨rfl,rfl⟩:=hr
  refine ah aa [0,1,2,3,4,5] 5 rfl rfl rfl rfl rfl rfl ?_ ?_
  all_goals first|rfl|(simp [au,aS,aZ];done)|(simp [au,aS,aZ];omega)
 have hc7':=of_decide_eq_false hc7
 refine aP ?_
 refine af ?_
 refine ad aa 5 rfl ?_
 refine ag rfl (fun _=>?_) (fun hno=>absurd (hdn.symm.trans hno) (by decide))
 refine af ?_
 obtain ⟨xr0,e0,hr0⟩:∃ (xr0:cw) (e0:Int),cj b.bH (⟨d.n,d.ax,d.sum,b.time⟩:ca)=(xr0,e0):=⟨_,_,rfl⟩
 have hgl:=tZ b.bH ((⟨d.n,d.ax,d.sum,b.time⟩:ca))
 rw [hr0] at hgl;dsimp only at hgl
 refine db [0,1,4] [5,0,1,2,3,4] mixed rfl rfl ?_
 refine bT (kn:=[]) aa 23 rfl trivial ?_
 refine bW (n':=6) [59,77] [] rfl rfl (.inl ⟨(ak.plain rfl),aK.cast (bJ 6 (Fn.frozen (av':=(.t [(.g [(cI xr0.cap),(fC xr0.used),(gz xr0.aX)]),(.c (cI e0))])) (vM b.bH (⟨d.n,d.ax,d.sum,b.time⟩:ca) xr0 e0 hr0) ⟨⟨.inl ⟨_,rfl,rfl⟩,.inr ⟨_,_,_,_,_,rfl,rfl,rfl,by simp⟩,.inr ⟨_,_,_,_,_,rfl,rfl,rfl,by simp⟩,trivial⟩,.inl ⟨_,rfl,rfl⟩,trivial⟩) GP rfl rfl ⟨⟨_,rfl,.g ⟨.d _,.d _,.d _,trivial⟩⟩,⟨_,rfl,.g ⟨.d _,.d _,.d _,.d _,trivial⟩⟩,trivial⟩ ⟨⟨trivial,trivial,trivial,trivial⟩,trivial,trivial⟩ trivial rfl rfl rfl rfl) rfl⟩) rfl ?_
 refine bT (n':=7) (kn:=[]) aa 6 rfl trivial ?_
 refine dS [0,1,4,5,6] [6,5,0,1,2,3,4] rfl rfl (by kernel_rfl) ?_
 refine then_ok ?_
 refine af ?_
 refine ad aa 2 rfl ?_
 refine ag rfl (fun hc9=>?_) (fun hc9=>?_)
 ·
  have hc9':=of_decide_eq_true hc9
  refine aw ?_
  refine ab aa 1 rfl ?_
  refine ae ?_
  refine af ?_
  refine af ?_
  refine bb [0,1,4,5,6] [6,5,0,1,2,3,4] mixed rfl rfl ?_
  refine aA (kn:=[(84,false)]) aa 15 rfl ⟨rfl,trivial⟩ ?_
  refine bB [6,5,0,1,2,3,4] rfl rfl rfl rfl (by kernel_rfl) ?_
  refine ae ?_
  refine ag rfl (fun hno=>by cases hno) (fun _=>?_)
  refine aP ?_
  refine af ?_
  refine az aa 1 rfl ?_
  refine ay (aM rfl rfl rfl (show _=some (Value.bool true) from rfl)) rfl ?_
  refine ae ?_
  refine ag rfl (fun _=>?_) (fun hno=>by cases hno)
  refine ad aa 3 rfl ?_
  refine ar ?_
  refine ao ?_
  refine ao ?_
  have hX:dJ b d=(b,(⟨12,0⟩:Answer)):=by
    unfold dJ gF;(try simp only [hdn,if_true,hr0]);(repeat' split)<;>first|rfl|omega|(exfalso;omega)|(simp_all;done)|(simp_all;omega)
  rw [hX] at hr;clear hX
  simp only [Prod.mk.injEq] at hr;obtain ⟨rfl,rfl⟩:=hr
  refine ah aa [0,1,2,3,4,5] 5 rfl rfl rfl rfl rfl rfl ?_ ?_
  all_goals first|rfl|(simp [au,aS,aZ];done)|(simp [au,aS,aZ];omega)
 have hc9':=of_decide_eq_false hc9
 refine aP ?_
 refine af ?_
 refine af ?_
 rcases Bool.eq_false_or_eq_true (decide (e0=0)) with hb12|hb12
 ·
  have hb12':=of_decide_eq_true hb12
  refine bb [0,1,4,5,6] [6,5,0,1,2,3,4] mixed rfl rfl ?_
  refine aA (kn:=[(84,true)]) aa 8 rfl ⟨hb12,trivial⟩ ?_
  refine aT (n':=7) [90,85] [3] rfl rfl (.inl ⟨(ak.yes rfl rfl rfl),aK.cast (dr rfl rfl rfl rfl rfl Try.underlying31) rfl⟩) rfl ?_
  refine aA (kn:=[]) aa 2 rfl trivial ?_
  refine aT (n':=7) [93,85] [] rfl rfl (.inl ⟨(ak.yes rfl rfl rfl),aK.cast (cT rfl rfl rfl rfl rfl Try.underlying39) rfl⟩) rfl ?_
  refine aT (n':=7) [91,94,85] [] rfl rfl (.inl ⟨(ak.yes rfl rfl rfl),aK.cast (aM rfl rfl rfl (aH (by first|omega|(simp;done)|(simp;omega)))) rfl⟩) rfl ?_
  refine aA (kn:=[]) aa 2 rfl trivial ?_
  refine bB [6,5,0,1,2,3,4] rfl rfl rfl rfl (by kernel_rfl) ?_
  refine ae ?_
  refine ag rfl (fun hc13=>?_) (fun hc13=>?_)
  ·
   have hc13':=of_decide_eq_true hc13
   refine aw ?_
   refine ab aa 1 rfl ?_
   refine ae ?_
   refine af ?_
   refine az aa 1 rfl ?_
   refine ay (aM rfl rfl rfl (show _=some (Value.bool true) from rfl)) rfl ?_
   refine ae ?_
   refine ag rfl (fun _=>?_) (fun hno=>by cases hno)
   refine ad aa 3 rfl ?_
   refine ar ?_
   refine ao ?_
   refine ao ?_
   have hX:dJ b d=(b,(⟨5,0⟩:Answer)):=by
     unfold dJ gF;(try simp only [hdn,if_true,hr0]);(repeat' split)<;>first|rfl|omega|(exfalso;omega)|(simp_all;done)|(simp_all;omega)
   rw [hX] at hr;clear hX
   simp only [Prod.mk.injEq] at hr;obtain ⟨rfl,rfl⟩:=hr
   refine ah aa [0,1,2,3,4,5] 5 rfl rfl rfl rfl rfl rfl ?_ ?_
   all_goals first|rfl|(simp [au,aS,aZ];done)|(simp [au,aS,aZ];omega)
  have hc13':=of_decide_eq_false hc13
  refine aP ?_
  refine af ?_
  refine ad aa 2 rfl ?_
  refine ag rfl (fun hc15=>?_) (fun hc15=>?_)
  ·
   have hc15':=of_decide_eq_true hc15
   refine ad aa 3 rfl ?_
   refine ar ?_
   refine ao ?_
   refine ao ?_
   have hX:dJ b d=(b,(⟨e0,0⟩:Answer)):=by
     unfold dJ gF;(try simp only [hdn,if_true,hr0]);(repeat' split)<;>first|rfl|omega|(exfalso;omega)|(simp_all;done)|(simp_all;omega)
   rw [hX] at hr;clear hX
   simp only [Prod.mk.injEq] at hr;obtain ⟨rfl,rfl⟩:=hr
   refine ah aa [0,1,2,3,4,5] 5 rfl rfl rfl rfl rfl rfl ?_ ?_
   all_goals first|rfl|(simp [au,aS,aZ];done)|(simp [au,aS,aZ];omega)
  have hc15':=of_decide_eq_false hc15
  refine aP ?_
  refine ad aa 6 rfl ?_
  refine af ?_
  refine bb [0,1,4,5] [6,5,0,1,2,3,4] mixed rfl rfl ?_
  refine aA (kn:=[]) aa 5 rfl trivial ?_
  refine aT (n':=7) [111] [3] rfl rfl (.inl ⟨(ak.plain rfl),aK.cast (dr rfl rfl rfl rfl rfl Try.underlying31) rfl⟩) rfl ?_
  refine aA (kn:=[]) aa 2 rfl trivial ?_
  refine aT (n':=7) [114] [] rfl rfl (.inl ⟨(ak.plain rfl),aK.cast (cT rfl rfl rfl rfl rfl Try.underlying39) rfl⟩) rfl ?_
  refine aT (n':=7) [112,115] [] rfl rfl (.inl ⟨(ak.plain rfl),aK.cast (aM rfl rfl rfl (aH (by first|omega|(simp;done)|(simp;omega)))) rfl⟩) rfl ?_
  refine aT (n':=7) [116] [] rfl rfl (.inl ⟨(ak.plain rfl),aK.cast (aM rfl rfl rfl (aH (by first|omega|(simp;done)|(simp;omega)))) rfl⟩) rfl ?_
  refine aA (kn:=[]) aa 1 rfl trivial ?_
  refine bB [6,5,0,1,2,3,4] rfl rfl rfl rfl (by kernel_rfl) ?_
  refine ab aa 1 rfl ?_
  refine ae ?_
  refine ar ?_
  refine ao ?_
  have hX:dJ b d=((⟨b.time,b.down,b.aj,b.due,b.aq,b.s0,b.s1,b.n0,b.n1,b.w0,b.w1,xr0,b.aN,b.book⟩:Bk),(⟨0,((↑b.aq.length:Int)+(↑xr0.aX.length:Int)) - 1⟩:Answer)):=by
    unfold dJ gF;(try simp only [hdn,if_true,hr0]);(repeat' split)<;>first|rfl|omega|(exfalso;omega)|(simp_all;done)|(simp_all;omega)
  rw [hX] at hr;clear hX
  simp only [Prod.mk.injEq] at hr;obtain ⟨rfl,rfl⟩:=hr
  refine ah aa [0,1,2,3,4,5] 5 rfl rfl rfl rfl rfl rfl ?_ ?_
  all_goals first|rfl|(simp [au,aS,aZ];done)|(simp [au,aS,aZ];omega)
 have hb12':=of_decide_eq_false hb12
 refine bb [0,1,4,5,6] [6,5,0,1,2,3,4] mixed rfl rfl ?_
 refine aA (kn:=[(84,false)]) aa 15 rfl ⟨hb12,trivial⟩ ?_
 refine bB [6,5,0,1,2,3,4] rfl rfl rfl rfl (by kernel_rfl) ?_
 refine ae ?_
 refine ag rfl (fun hno=>by cases hno) (fun _=>?_)
 refine aP ?_
 refine af ?_
 refine ad aa 2 rfl ?_
 refine ag rfl (fun hc17=>?_) (fun hc17=>?_)
 ·
  have hc17':=of_decide_eq_true hc17
  refine ad aa 3 rfl ?_
  refine ar ?_
  refine ao ?_
  refine ao ?_
  have hX:dJ b d=(b,(⟨e0,0⟩:Answer)):=by
    unfold dJ gF;(try simp only [hdn,if_true,hr0]);(repeat' split)<;>first|rfl|omega|(exfalso;omega)|(simp_all;done)|(simp_all;omega)
  rw [hX] at hr;clear hX
  simp only [Prod.mk.injEq] at hr;obtain ⟨rfl,rfl⟩:=hr
  refine ah aa [0,1,2,3,4,5] 5 rfl rfl rfl rfl rfl rfl ?_ ?_
  all_goals first|rfl|(simp [au,aS,aZ];done)|(simp [au,aS,aZ];omega)
 have hc17':=of_decide_eq_false hc17
 refine aP ?_
 refine ad aa 6 rfl ?_
 refine af ?_
 refine bb [0,1,4,5] [6,5,0,1,2,3,4] mixed rfl rfl ?_
 refine aA (kn:=[]) aa 5 rfl trivial ?_
 refine aT (n':=7) [111] [3] rfl rfl (.inl ⟨(ak.plain rfl),aK.cast (dr rfl rfl rfl rfl rfl Try.underlying31) rfl⟩) rfl ?_
 refine aA (kn:=[]) aa 2 rfl trivial ?_
 refine aT (n':=7) [114] [] rfl rfl (.inl ⟨(ak.plain rfl),aK.cast (cT rfl rfl rfl rfl rfl Try.underlying39) rfl⟩) rfl ?_
 refine aT (n':=7) [112,115] [] rfl rfl (.inl ⟨(ak.plain rfl),aK.cast (aM rfl rfl rfl (aH (by first|omega|(simp;done)|(simp;omega)))) rfl⟩) rfl ?_
 refine aT (n':=7) [116] [] rfl rfl (.inl ⟨(ak.plain rfl),aK.cast (aM rfl rfl rfl (aH (by first|omega|(simp;done)|(simp;omega)))) rfl⟩) rfl ?_
 refine aA (kn:=[]) aa 1 rfl trivial ?_
 refine bB [6,5,0,1,2,3,4] rfl rfl rfl rfl (by kernel_rfl) ?_
 refine ab aa 1 rfl ?_
 refine ae ?_
 refine ar ?_
 refine ao ?_
 have hX:dJ b d=((⟨b.time,b.down,b.aj,b.due,b.aq,b.s0,b.s1,b.n0,b.n1,b.w0,b.w1,xr0,b.aN,b.book⟩:Bk),(⟨0,((↑b.aq.length:Int)+(↑xr0.aX.length:Int)) - 1⟩:Answer)):=by
   unfold dJ gF;(try simp only [hdn,if_true,hr0]);(repeat' split)<;>first|rfl|omega|(exfalso;omega)|(simp_all;done)|(simp_all;omega)
 rw [hX] at hr;clear hX
 simp only [Prod.mk.injEq] at hr;obtain ⟨rfl,rfl⟩:=hr
 refine ah aa [0,1,2,3,4,5] 5 rfl rfl rfl rfl rfl rfl ?_ ?_
 all_goals first|rfl|(simp [au,aS,aZ];done)|(simp [au,aS,aZ];omega)
theorem Gd (x:Nat->Value) (hx:∀ i,(x i).oneCell'=true) (b:Bk) (d:aE) (ok:cm b) (b2:Bk) (a2:Answer) (hr:dJ b d=(b2,a2)):cA Try.prog 63 [(.c (.p 0 0 0 0)),(.c (.q (cG d) 0))] [(0,(.box 98 (aS b 1 2 3 4 (.d (.v (x 17))) (.d (.v (x 19)))))),(1,(dR b.aj)),(2,(dL b.due)),(3,(dX b.aq)),(4,(cH b.aN))] [0] (.v (.g [cI a2.err,cI a2.ba])) [(0,(.box 98 (aS b2 1 2 3 4 (.d (.v (x 17))) (.d (.v (x 19)))))),(1,(dR b2.aj)),(2,(dL b2.due)),(3,(dX b2.aq)),(4,(cH b2.aN))]:=by
  cases hdn:b.down
  ·exact Fe x hx b d ok hdn b2 a2 hr
  ·exact Ff x hx b d ok hdn b2 a2 hr

theorem Av (x:Nat->Value) (hx:∀ i,(x i).oneCell'=true) (b:Bk) (d:aE) (ok:cm b) (hdn:b.down=false) (b2:Bk) (a2:Answer) (hr:di b d=(b2,a2)):cA Try.prog 64 [(.c (.p 0 0 0 0)),(.c (.q (cG d) 0))] [(0,(.box 98 (aS b 1 2 3 4 (.d (.v (x 17))) (.d (.v (x 19)))))),(1,(dR b.aj)),(2,(dL b.due)),(3,(dX b.aq)),(4,(cH b.aN))] [0] (.v (.g [cI a2.err,cI a2.ba])) [(0,(.box 98 (aS b2 1 2 3 4 (.d (.v (x 17))) (.d (.v (x 19)))))),(1,(dR b2.aj)),(2,(dL b2.due)),(3,(dX b2.aq)),(4,(cH b2.aN))]:=by
 refine cA.mk 246 [(0,(aC (.p 0 0 0 0))),(1,(aC (.q (cG d) 0)))] 5 Try.func64 rfl rfl rfl rfl rfl rfl rfl rfl rfl ?_
 intro W0 F0 T0 pg
 obtain ⟨okt,okc,okd,oka,oky,okw0,okw1,okp,okv,okk0,okk1,okg,okl0,okl1,okp0,okp1,okn0,okn1,okq⟩:=id ok
 refine ad aa 1 rfl ?_
 refine af ?_
 refine ad aa 5 rfl ?_
 refine ag rfl (fun hno=>absurd (hdn.symm.trans hno) (by decide)) (fun _=>?_)
 refine aP ?_
 refine af ?_
 refine af ?_
 rcases Bool.eq_false_or_eq_true (decide (d.n < 0)) with hb2|hb2
 ·
  have hb2':=of_decide_eq_true hb2
  refine bb [0,1,4] [5,0,1,2,3,4] mixed rfl rfl ?_
  refine aA (kn:=[(22,true)]) aa 18 rfl ⟨hb2,trivial⟩ ?_
  refine bB [5,0,1,2,3,4] rfl rfl rfl rfl (by kernel_rfl) ?_
  refine ae ?_
  refine ag rfl (fun _=>?_) (fun hno=>by cases hno)
  refine ad aa 2 rfl ?_
  refine ar ?_
  refine ao ?_
  have hX:di b d=(b,(⟨6,0⟩:Answer)):=by
    unfold di;simp only [hdn,Bool.false_eq_true,if_false];(repeat' split)<;>first|rfl|omega|(exfalso;omega)|(simp_all;done)|(simp_all;omega)
  rw [hX] at hr;clear hX
  simp only [Prod.mk.injEq] at hr;obtain ⟨rfl,rfl⟩:=hr
  refine ah aa [0,1,2,3,4,5] 5 rfl rfl rfl rfl rfl rfl ?_ ?_
  all_goals first|rfl|(simp [au,aS,aZ];done)|(simp [au,aS,aZ];omega)
 have hb2':=of_decide_eq_false hb2
 refine bb [0,1,4] [5,0,1,2,3,4] mixed rfl rfl ?_
 refine aA (kn:=[(22,false)]) aa 15 rfl ⟨hb2,trivial⟩ ?_
 refine aT (n':=6) [32,23] [3] rfl rfl (.inl ⟨(ak.yes rfl rfl rfl),aK.cast (dr rfl rfl rfl rfl rfl Try.underlying31) rfl⟩) rfl ?_
 refine aA (kn:=[]) aa 2 rfl trivial ?_
 refine bB [5,0,1,2,3,4] rfl rfl rfl rfl (by kernel_rfl) ?_
 refine ae ?_
 refine ag rfl (fun hc4=>?_) (fun hc4=>?_)
 ·
  have hc4':=of_decide_eq_true hc4
  refine ad aa 2 rfl ?_
  refine ar ?_
  refine ao ?_
  have hX:di b d=(b,(⟨6,0⟩:Answer)):=by
    unfold di;simp only [hdn,Bool.false_eq_true,if_false];(repeat' split)<;>first|rfl|omega|(exfalso;omega)|(simp_all;done)|(simp_all;omega)
  rw [hX] at hr;clear hX
  simp only [Prod.mk.injEq] at hr;obtain ⟨rfl,rfl⟩:=hr
  refine ah aa [0,1,2,3,4,5] 5 rfl rfl rfl rfl rfl rfl ?_ ?_
  all_goals first|rfl|(simp [au,aS,aZ];done)|(simp [au,aS,aZ];omega)
 have hc4':=of_decide_eq_false hc4
 refine aP ?_
 refine af ?_
 obtain ⟨x1,hx1⟩:=ch (xs:=b.aq) (i:=Int.toNat (d.n)) (by first|omega|(simp;done)|(simp;omega))
 refine bb [0,1,4] [5,0,1,2,3,4] mixed rfl rfl ?_
 refine aA (kn:=[]) aa 9 rfl trivial ?_
 refine aT (n':=6) [41,45] [3] rfl rfl (.inl ⟨(ak.plain rfl),aK.cast (bq (i:=Int.toNat (d.n)) rfl rfl rfl Try.underlying31 mf (by first|omega|(simp;done)|(simp;omega)) (by first|omega|(simp;done)|(simp;omega))) rfl⟩) rfl ?_
 refine aT (n':=6) [46] [3] rfl rfl (.inl ⟨(ak.plain rfl),aK.cast (dg rfl rfl rfl Try.underlying67 rfl mf (bw hx1) rfl) rfl⟩) rfl ?_
 refine aA (n':=7) (kn:=[]) aa 1 rfl trivial ?_
 refine bB [6,5,0,1,2,3,4] rfl rfl rfl rfl (by kernel_rfl) ?_
 refine ab aa 1 rfl ?_
 refine ae ?_
 refine af ?_
 obtain ⟨b0,e0,hr0⟩:∃ (b0:bz) (e0:Int),bN x1 d.move d.sum=(b0,e0):=⟨_,_,rfl⟩
 refine db [0,1,4,5] [6,5,0,1,2,3,4] mixed rfl rfl ?_
 refine bT (kn:=[]) aa 9 rfl trivial ?_
 refine bW (n':=7) [49,53,57] [] rfl rfl (.inl ⟨(ak.plain rfl),aK.cast (bJ 7 (wS x1 d.move d.sum b0 e0 hr0) GN rfl rfl ⟨⟨_,rfl,.g ⟨.d _,.d _,.d _,.d _,.d _,.d _,.d _,.d _,trivial⟩⟩,⟨_,rfl,.c (.d _)⟩,⟨_,rfl,.c (.d _)⟩,trivial⟩ ⟨⟨trivial,trivial,trivial,trivial,trivial,trivial,trivial,trivial,trivial⟩,trivial,trivial⟩ trivial rfl rfl rfl rfl) rfl⟩) rfl ?_
 refine bT (n':=8) (kn:=[]) aa 6 rfl trivial ?_
 refine dS [0,1,4,5,6,7] [7,6,5,0,1,2,3,4] rfl rfl (by kernel_rfl) ?_
 refine then_ok ?_
 refine af ?_
 refine ad aa 2 rfl ?_
 refine ag rfl (fun hc5=>?_) (fun hc5=>?_)
 ·
  have hc5':=of_decide_eq_true hc5
  refine ad aa 3 rfl ?_
  refine ar ?_
  refine ao ?_
  have hX:di b d=(b,(⟨e0,0⟩:Answer)):=by
    unfold di;simp only [hdn,Bool.false_eq_true,if_false];rw [if_neg (by omega),hx1];dsimp only;simp only [hr0];(repeat' split)<;>first|rfl|omega|(exfalso;omega)|(simp_all;done)|(simp_all;omega)
  rw [hX] at hr;clear hX
  simp only [Prod.mk.injEq] at hr;obtain ⟨rfl,rfl⟩:=hr
  refine ah aa [0,1,2,3,4,5] 5 rfl rfl rfl rfl rfl rfl ?_ ?_
  all_goals first|rfl|(simp [au,aS,aZ];done)|(simp [au,aS,aZ];omega)
 have hc5':=of_decide_eq_false hc5
 refine aP ?_
 obtain ⟨mw1,mw2,mc,ms,mk1,mk2,mn1,mn2⟩:=mq (show bN x1 d.move d.sum=(b0,0) by rw [hr0];congr 1;omega)
 have hoP:=okp x1 (List.mem_of_getElem? hx1)
 have hI0:∀ t∈b.s0.kept,fG t.number:=fun t ht=>(okk0 t ht).1
 have hI1:∀ t∈b.s1.kept,fG t.number:=fun t ht=>(okk1 t ht).1
 refine az aa 1 rfl ?_
 refine aL 17 [0,8,9,10,11,12,13,14,15,16,7,6,5] (cv id (aU [0,8,9,10,11,12,13,14,15,16]) (kc (x 17) (x 19) b (by first|omega|(simp;done)|(simp;omega)) (by first|omega|(simp;done)|(simp;omega)) (by first|omega|(simp;done)|(simp;omega)) (by first|omega|(simp;done)|(simp;omega))) qu rfl rfl ⟨⟨_,rfl,.inl ⟨rfl,rfl⟩⟩,trivial⟩ ⟨rfl,rfl,rfl,rfl,rfl,trivial⟩ rfl rfl rfl rfl rfl rfl trivial ⟨⟨trivial,trivial,trivial,trivial,trivial,trivial,trivial,trivial,trivial,trivial,trivial,trivial,trivial,trivial,trivial,trivial,trivial,trivial,trivial,trivial,trivial⟩,⟨trivial,trivial,trivial,trivial,trivial,trivial,trivial,trivial,trivial,trivial,trivial,trivial,trivial,trivial,trivial,trivial,trivial,trivial,trivial,trivial,trivial⟩,(fun _ _ _ _=>trivial),(fun _ _ _ _=>trivial),(fun _ _ _ _=>trivial),(fun _ _ _ _=>trivial),(fun _ _ _ _=>trivial),(fun _ _ _ _=>trivial),(fun _ _ _ _=>trivial),(fun _ _ _ _=>trivial),trivial⟩ rfl rfl rfl rfl) rfl ?_
 refine ab aa 1 rfl ?_
 refine ae ?_
 refine af ?_
 obtain ⟨e1,hr1⟩:∃ (e1:Int),bu b0=e1:=⟨_,rfl⟩
 have hhb1:=oE (show bC b0=0 by assumption)
 rw [hr1] at hhb1
 obtain ⟨e2,hr2⟩:∃ (e2:Int),bu x1=e2:=⟨_,rfl⟩
 have hhb2:=oE (show bC x1=0 by assumption)
 rw [hr2] at hhb2
 refine bb [0,1,4,5,6,8] [0,8,9,10,11,12,13,14,15,16,7,6,5] mixed rfl rfl ?_
 refine aA (kn:=[]) aa 1 rfl trivial ?_
 refine aT (n':=17) [67] [] rfl rfl (.inl ⟨(ak.plain rfl),aK.cast (bJ 17 (km b0 (by first|assumption|omega|rfl|decide) e1 hr1) yF rfl rfl ⟨⟨_,rfl,.g ⟨.d _,.d _,.d _,.d _,.d _,.d _,.d _,.d _,trivial⟩⟩,trivial⟩ trivial trivial rfl rfl rfl rfl) rfl⟩) rfl ?_
 refine aA (kn:=[]) aa 1 rfl trivial ?_
 refine aT (n':=17) [69] [] rfl rfl (.inl ⟨(ak.plain rfl),aK.cast (bJ 17 (km x1 (by first|assumption|omega|rfl|decide) e2 hr2) yF rfl rfl ⟨⟨_,rfl,.g ⟨.d _,.d _,.d _,.d _,.d _,.d _,.d _,.d _,trivial⟩⟩,trivial⟩ trivial trivial rfl rfl rfl rfl) rfl⟩) rfl ?_
 refine aT (n':=17) [68,70] [] rfl rfl (.inl ⟨(ak.plain rfl),aK.cast (aM rfl rfl rfl (aH (by first|omega|(simp;done)|(simp;omega)))) rfl⟩) rfl ?_
 refine aA (kn:=[]) aa 1 rfl trivial ?_
 refine bB [0,8,9,10,11,12,13,14,15,16,7,6,5] rfl rfl rfl rfl (by kernel_rfl) ?_
 refine ae ?_
 refine af ?_
 refine wo (J:=⟨[(0,(aC (.p 0 0 0 0))),(1,(aC (.q (cG d) 0))),(4,(aC (.p 5 0 0 0))),(6,(aC (.p 7 0 0 0))),(8,(aC (.p 8 0 0 0))),(9,(aI (e1 - e2))),(93,(aB (decide (d.move=1/\d.sum > kD b.aj b0.aJ))))],[(0,(.box 98 (aS b 9 10 11 12 (.d (.v (x 17))) (.d (.v (x 19)))))),(8,(.box 147 (aS b 13 14 15 16 (.d (.v (x 17))) (cI 0)))),(9,(dR b.aj)),(10,(dL b.due)),(11,(dX b.aq)),(12,(cH b.aN)),(13,(dR b.aj)),(14,(dL b.due)),(15,(dX b.aq)),(16,(cH b.aN)),(7,(.box 67 [(cI b0.aJ),(cI b0.ax),(cI b0.sum),(cI b0.captured),(cI b0.br),(cI b0.bd),(cI b0.cS),(cB b0.shut)])),(5,(.box 65 [(cI 0),(cI 0)]))],17⟩) ?_ ?_
 ·
  rcases Bool.eq_false_or_eq_true (decide (d.move=1)) with hb6|hb6
  ·
   have hb6':=of_decide_eq_true hb6
   obtain ⟨x2,hx2⟩:=ch (xs:=b.aj) (i:=Int.toNat (b0.aJ)) (by first|omega|(simp;done)|(simp;omega))
   have hx2g:=AX (okg x2 (List.mem_of_getElem? hx2))
   refine bb [0,1,4,6,8,9] [0,8,9,10,11,12,13,14,15,16,7,5] mixed rfl rfl ?_
   refine aA (kn:=[(76,true)]) aa 17 rfl ⟨hb6,trivial⟩ ?_
   refine aT (n':=17) [86,88,77] [13] rfl rfl (.inl ⟨(ak.yes rfl rfl rfl),aK.cast (bq (i:=Int.toNat (b0.aJ)) rfl rfl rfl Try.underlying29 hY (by first|omega|(simp;done)|(simp;omega)) (by first|omega|(simp;done)|(simp;omega))) rfl⟩) rfl ?_
   refine aT (n':=17) [89,77] [13] rfl rfl (.inl ⟨(ak.yes rfl rfl rfl),aK.cast (dg rfl rfl rfl Try.underlying61 rfl hY (bw hx2) rfl) rfl⟩) rfl ?_
   refine aT (n':=17) [90,77] [] rfl rfl (.inl ⟨(ak.yes rfl rfl rfl),aK.cast (bJ 17 (pN x2 (by first|assumption|omega|(constructor<;>decide)|(have hz:=fV (by first|assumption|omega);omega))) ET rfl rfl ⟨⟨_,rfl,.g ⟨.d _,.d _,.d _,.d _,.d _,.d _,trivial⟩⟩,trivial⟩ trivial trivial rfl rfl rfl rfl) rfl⟩) rfl ?_
   refine aA (kn:=[]) aa 2 rfl trivial ?_
   refine bB [0,8,9,10,11,12,13,14,15,16,7,5] rfl rfl rfl rfl (by kernel_rfl) ?_
   refine ae ?_
   rw [show (decide (d.move=1/\d.sum > kD b.aj b0.aJ))=(decide (d.sum > (x2.bj - x2.held))) by (unfold kD;rw [hx2];dsimp only;first|(simp_all;done)|(simp_all;omega))]
   exact aD.bY id (⟨rfl,rfl,rfl,rfl,rfl,rfl,rfl,trivial⟩) (⟨rfl,rfl,rfl,rfl,rfl,rfl,rfl,rfl,rfl,rfl,rfl,rfl,trivial⟩) rfl
  have hb6':=of_decide_eq_false hb6
  refine bb [0,1,4,6,8,9] [0,8,9,10,11,12,13,14,15,16,7,5] mixed rfl rfl ?_
  refine aA (kn:=[(76,false)]) aa 22 rfl ⟨hb6,trivial⟩ ?_
  refine bB [0,8,9,10,11,12,13,14,15,16,7,5] rfl rfl rfl rfl (by kernel_rfl) ?_
  refine ae ?_
  rw [show (decide (d.move=1/\d.sum > kD b.aj b0.aJ))=(false) by (unfold kD;first|(simp_all;done)|(simp_all;omega))]
  exact aD.bY id (⟨rfl,rfl,rfl,rfl,rfl,rfl,rfl,trivial⟩) (⟨rfl,rfl,rfl,rfl,rfl,rfl,rfl,rfl,rfl,rfl,rfl,rfl,trivial⟩) rfl
 refine ag rfl (fun hc7=>?_) (fun hc7=>?_)
 ·
  have hc7':=of_decide_eq_true hc7
  refine ad aa 2 rfl ?_
  refine ar ?_
  refine ao ?_
  have hX:di b d=(b,(⟨10,0⟩:Answer)):=by
    unfold di;simp only [hdn,Bool.false_eq_true,if_false];rw [if_neg (by omega),hx1];dsimp only;simp only [hr0];(repeat' split)<;>first|rfl|omega|(exfalso;omega)|(simp_all;done)|(simp_all;omega)
  rw [hX] at hr;clear hX
  simp only [Prod.mk.injEq] at hr;obtain ⟨rfl,rfl⟩:=hr
  refine ah aa [0,9,10,11,12,5] 5 rfl rfl rfl rfl rfl rfl ?_ ?_
  all_goals first|rfl|(simp [au,aS,aZ];done)|(simp [au,aS,aZ];omega)
 have hc7':=of_decide_eq_false hc7
 refine aP ?_
 refine af ?_
 refine bb [0,1,4,6,8,9] [0,8,9,10,11,12,13,14,15,16,7,5] mixed rfl rfl ?_
 refine aA (kn:=[]) aa 2 rfl trivial ?_
 refine aT (n':=17) [96] [] rfl rfl (.inl ⟨(ak.plain rfl),aK.cast (aM rfl rfl rfl (aH (by first|omega|(simp;done)|(simp;omega)))) rfl⟩) rfl ?_
 refine aA (n':=18) (kn:=[]) aa 11 rfl trivial ?_
 refine bB [17,0,8,9,10,11,12,13,14,15,16,7,5] rfl rfl rfl rfl (by kernel_rfl) ?_
 refine ab aa 1 rfl ?_
 refine ae ?_
 obtain ⟨jcards,jdue,jbook,js0,js1,je,hj⟩:∃ (jcards:List bx) (jdue:List Int) (jbook:List Entry) (js0:bR) (js1:bR) (je:Int),dH b b0 x1 d=(jcards,jdue,jbook,js0,js1,je):=⟨_,_,_,_,_,_,rfl⟩
 have hj0:=hj
 refine wo (J:=⟨[(0,(aC (.p 0 0 0 0))),(1,(aC (.q (cG d) 0))),(4,(aC (.p 5 0 0 0))),(6,(aC (.p 7 0 0 0))),(8,(aC (.p 8 0 0 0)))],[(0,(.box 98 (aS b 9 10 11 12 (.d (.v (x 17))) (.d (.v (x 19)))))),(8,(.box 147 ((((((((aS b 13 14 15 16 (.d (.v (x 17))) (cI je)).set 2 (.s 13 0 6 jcards.length)).set 3 (.s 14 0 1 jdue.length)).set 5 (cI js0.bE)).set 6 (dc js0.kept)).set 7 (cI js1.bE)).set 8 (dc js1.kept)).set 18 (dM jbook)))),(9,(dR b.aj)),(10,(dL b.due)),(11,(dX b.aq)),(12,(cH b.aN)),(13,(dR jcards)),(14,(dL jdue)),(15,(dX b.aq)),(16,(cH b.aN)),(7,(.box 67 [(cI b0.aJ),(cI b0.ax),(cI b0.sum),(cI b0.captured),(cI b0.br),(cI b0.bd),(cI b0.cS),(cB b0.shut)])),(5,(.box 65 [(cI 0),(cI 0)]))],17⟩) ?_ ?_
 ·
  refine ad aa 4 rfl ?_
  refine aV ?_
  refine af ?_
  refine ad aa 2 rfl ?_
  refine ag rfl (fun hc8=>?_) (fun hc8=>?_)
  ·
   have hc8':=of_decide_eq_true hc8
   refine aP ?_
   refine ag rfl (fun _=>?_) (fun hno=>absurd (hc8.symm.trans hno) (by decide))
   refine aw ?_
   refine ab aa 4 rfl ?_
   obtain ⟨l23,e23,hr3⟩:∃ (l23:List bx) (e23:Int),cz b.aj 0 b0.aJ (e1 - e2) 0=(l23,e23):=⟨_,_,rfl⟩
   refine aL 19 [8,18,17,0,9,10,11,12,14,15,16,7,5] (cg (aU [8,13]) (aU [8,18]) (ms:=((dw.set 2 (some (.s 1 0 6 b.aj.length))).set 19 (some (cI 0)))) (ms':=((dw.set 2 (some (.s 1 0 6 l23.length))).set 19 (some (cI e23)))) (fun x hx=>iT x hx b.aj 0 b0.aJ (e1 - e2) 0 (by first|omega|(simp;done)|(simp;omega)) l23 e23 hr3) nw rfl rfl ⟨⟨_,rfl,.inl ⟨rfl,rfl⟩⟩,⟨_,rfl,.inr (.c (.d _))⟩,⟨_,rfl,.inr (.c (.d _))⟩,⟨_,rfl,.inr (.c (.d _))⟩,trivial⟩ rfl rfl rfl rfl rfl rfl rfl ⟨rfl,trivial⟩ rfl rfl rfl rfl rfl rfl rfl rfl rfl rfl rfl rfl rfl) rfl ?_
   refine bZ ?_
   refine bp ?_
   refine then_ok ?_
   have hX:dH b b0 x1 d=(l23,b.due,b.book,b.s0,b.s1,e23):=by
     unfold dH;(try simp only [hr1,hr2,hr3]);(repeat' split)<;>first|rfl|omega|(exfalso;omega)|(simp_all;done)|(simp_all;omega)
   rw [hX] at hj;clear hX;simp only [Prod.mk.injEq] at hj;obtain ⟨rfl,rfl,rfl,rfl,rfl,rfl⟩:=hj
   exact aD.bY (fun k=>if k=13 then 18 else k) (by refine ⟨?_,?_,?_,?_,?_,trivial⟩<;>first|rfl|(simp only [bn];done)|(congr 3;omega)|(congr 4;omega)|(simp only [bo];rfl)) (by refine ⟨?_,?_,?_,?_,?_,?_,?_,?_,?_,?_,?_,?_,trivial⟩<;>first|rfl|(simp only [bn];done)|(congr 3;omega)|(congr 4;omega)|(simp only [bo];rfl)) rfl
  have hc8':=of_decide_eq_false hc8
  refine aw ?_
  refine ab aa 2 rfl ?_
  refine ae ?_
  refine ag rfl (fun hc10=>?_) (fun hc10=>?_)
  ·
   have hc10':=of_decide_eq_true hc10
   refine aw ?_
   refine ab aa 4 rfl ?_
   obtain ⟨l24,e24,hr4⟩:∃ (l24:List bx) (e24:Int),cz b.aj 0 b0.aJ (e1 - e2) 0=(l24,e24):=⟨_,_,rfl⟩
   refine aL 19 [8,18,17,0,9,10,11,12,14,15,16,7,5] (cg (aU [8,13]) (aU [8,18]) (ms:=((dw.set 2 (some (.s 1 0 6 b.aj.length))).set 19 (some (cI 0)))) (ms':=((dw.set 2 (some (.s 1 0 6 l24.length))).set 19 (some (cI e24)))) (fun x hx=>iT x hx b.aj 0 b0.aJ (e1 - e2) 0 (by first|omega|(simp;done)|(simp;omega)) l24 e24 hr4) nw rfl rfl ⟨⟨_,rfl,.inl ⟨rfl,rfl⟩⟩,⟨_,rfl,.inr (.c (.d _))⟩,⟨_,rfl,.inr (.c (.d _))⟩,⟨_,rfl,.inr (.c (.d _))⟩,trivial⟩ rfl rfl rfl rfl rfl rfl rfl ⟨rfl,trivial⟩ rfl rfl rfl rfl rfl rfl rfl rfl rfl rfl rfl rfl rfl) rfl ?_
   refine bZ ?_
   refine bp ?_
   refine then_ok ?_
   have hX:dH b b0 x1 d=(l24,b.due,b.book,b.s0,b.s1,e24):=by
     unfold dH;(try simp only [hr1,hr2,hr4]);(repeat' split)<;>first|rfl|omega|(exfalso;omega)|(simp_all;done)|(simp_all;omega)
   rw [hX] at hj;clear hX;simp only [Prod.mk.injEq] at hj;obtain ⟨rfl,rfl,rfl,rfl,rfl,rfl⟩:=hj
   exact aD.bY (fun k=>if k=13 then 18 else k) (by refine ⟨?_,?_,?_,?_,?_,trivial⟩<;>first|rfl|(simp only [bn];done)|(congr 3;omega)|(congr 4;omega)|(simp only [bo];rfl)) (by refine ⟨?_,?_,?_,?_,?_,?_,?_,?_,?_,?_,?_,?_,trivial⟩<;>first|rfl|(simp only [bn];done)|(congr 3;omega)|(congr 4;omega)|(simp only [bo];rfl)) rfl
  have hc10':=of_decide_eq_false hc10
  refine af ?_
  refine ad aa 2 rfl ?_
  refine ag rfl (fun hc11=>?_) (fun hc11=>?_)
  ·
   have hc11':=of_decide_eq_true hc11
   refine aP ?_
   refine ag rfl (fun _=>?_) (fun hno=>absurd (hc11.symm.trans hno) (by decide))
   refine af ?_
   obtain ⟨l25,e25,hr5⟩:∃ (l25:List bx) (e25:Int),cz b.aj 0 b0.aJ (e1 - e2) (0 - d.sum)=(l25,e25):=⟨_,_,rfl⟩
   refine db [0,1,4,6,8,9,11,10] [17,0,8,9,10,11,12,13,14,15,16,7,5] mixed rfl rfl ?_
   refine bT (kn:=[]) aa 8 rfl trivial ?_
   refine bW (n':=18) [129] [] rfl rfl (.inl ⟨(ak.plain rfl),aK.cast (oH rfl rfl (aH (by first|omega|(simp;done)|(simp;omega)))) rfl⟩) rfl ?_
   refine bW (n':=19) [122,124,125,130] [13,8] rfl rfl (.inl ⟨(ak.plain rfl),aK.cast (cg (aU [8,13]) (aU [8,18]) (ms:=((dw.set 2 (some (.s 1 0 6 b.aj.length))).set 19 (some (cI 0)))) (ms':=((dw.set 2 (some (.s 1 0 6 l25.length))).set 19 (some (cI e25)))) (fun x hx=>iT x hx b.aj 0 b0.aJ (e1 - e2) (0 - d.sum) (by first|omega|(simp;done)|(simp;omega)) l25 e25 hr5) nw rfl rfl ⟨⟨_,rfl,.inl ⟨rfl,rfl⟩⟩,⟨_,rfl,.inr (.c (.d _))⟩,⟨_,rfl,.inr (.c (.d _))⟩,⟨_,rfl,.inr (.c (.d _))⟩,trivial⟩ rfl rfl rfl rfl rfl rfl rfl ⟨rfl,trivial⟩ rfl rfl rfl rfl rfl rfl rfl rfl rfl rfl rfl rfl rfl) rfl⟩) rfl ?_
   refine dS [0,1,4,6,8,11,10] [18,8,17,0,9,10,11,12,14,15,16,7,5] rfl rfl (by kernel_rfl) ?_
   refine then_ok ?_
   refine az aa 6 rfl ?_
   obtain ⟨l26,e26,hr6⟩:∃ (l26:List Entry) (e26:Int),dT b.book e25 (10+b0.aJ) 1 d.sum=(l26,e26):=⟨_,_,rfl⟩
   refine aL 19 [8,18,17,0,9,10,11,12,14,15,16,7,5] (cg (aU [8]) (aU [8]) (ms:=((dw.set 18 (some (dM b.book))).set 19 (some (cI e25)))) (ms':=((dw.set 18 (some (dM l26))).set 19 (some (cI e26)))) (fun x hx=>jh x hx b.book e25 (10+b0.aJ) 1 d.sum l26 e26 hr6) mr rfl rfl ⟨⟨_,rfl,.inl ⟨rfl,rfl⟩⟩,⟨_,rfl,.inr (.c (.d _))⟩,⟨_,rfl,.inr (.c (.d _))⟩,⟨_,rfl,.inr (.c (.d _))⟩,trivial⟩ rfl rfl rfl rfl rfl rfl rfl trivial rfl rfl rfl rfl rfl rfl rfl rfl rfl rfl rfl rfl rfl) rfl ?_
   refine ae ?_
   refine ad aa 2 rfl ?_
   refine aw ?_
   refine ab aa 2 rfl ?_
   obtain ⟨s27,e27,hr7⟩:∃ (s27:bR) (e27:Int),eA b.s0 e26 (⟨0,1,d.n,d.sum⟩:aW)=(s27,e27):=⟨_,_,rfl⟩
   refine aL 19 [8,18,17,0,9,10,11,12,14,15,16,7,5] (cg (aU [8]) (aU [8]) (ms:=(((dw.set 5 (some (cI b.s0.bE))).set 6 (some (dc b.s0.kept))).set 19 (some (cI e26)))) (ms':=(((dw.set 5 (some (cI s27.bE))).set 6 (some (dc s27.kept))).set 19 (some (cI e27)))) (fun x hx=>sF x hx b.s0 e26 (⟨0,1,d.n,d.sum⟩:aW) (by assumption) s27 e27 hr7) yC rfl rfl ⟨⟨_,rfl,.inl ⟨rfl,rfl⟩⟩,⟨_,rfl,.inr (.c (.d _))⟩,⟨_,rfl,.inr (.g ⟨.d _,.d _,.d _,.d _,trivial⟩)⟩,trivial⟩ rfl rfl rfl rfl rfl rfl rfl trivial rfl rfl rfl rfl rfl rfl rfl rfl rfl rfl rfl rfl rfl) rfl ?_
   refine bZ ?_
   refine bp ?_
   refine then_ok ?_
   have hX:dH b b0 x1 d=(l25,b.due,l26,s27,b.s1,e27):=by
     unfold dH;(try simp only [hr1,hr2,hr5,hr6,hr7]);(repeat' split)<;>first|rfl|omega|(exfalso;omega)|(simp_all;done)|(simp_all;omega)
   rw [hX] at hj;clear hX;simp only [Prod.mk.injEq] at hj;obtain ⟨rfl,rfl,rfl,rfl,rfl,rfl⟩:=hj
   exact aD.bY (fun k=>if k=13 then 18 else k) (by refine ⟨?_,?_,?_,?_,?_,trivial⟩<;>first|rfl|(simp only [bn];done)|(congr 3;omega)|(congr 4;omega)|(simp only [bo];rfl)) (by refine ⟨?_,?_,?_,?_,?_,?_,?_,?_,?_,?_,?_,?_,trivial⟩<;>first|rfl|(simp only [bn];done)|(congr 3;omega)|(congr 4;omega)|(simp only [bo];rfl)) rfl
  have hc11':=of_decide_eq_false hc11
  refine aw ?_
  refine ab aa 2 rfl ?_
  refine ae ?_
  refine ag rfl (fun hc13=>?_) (fun hc13=>?_)
  ·
   have hc13':=of_decide_eq_true hc13
   refine af ?_
   obtain ⟨l28,e28,hr8⟩:∃ (l28:List bx) (e28:Int),cz b.aj 0 b0.aJ (e1 - e2) (0 - d.sum)=(l28,e28):=⟨_,_,rfl⟩
   refine db [0,1,4,6,8,9,11,10] [17,0,8,9,10,11,12,13,14,15,16,7,5] mixed rfl rfl ?_
   refine bT (kn:=[]) aa 8 rfl trivial ?_
   refine bW (n':=18) [129] [] rfl rfl (.inl ⟨(ak.plain rfl),aK.cast (oH rfl rfl (aH (by first|omega|(simp;done)|(simp;omega)))) rfl⟩) rfl ?_
   refine bW (n':=19) [122,124,125,130] [13,8] rfl rfl (.inl ⟨(ak.plain rfl),aK.cast (cg (aU [8,13]) (aU [8,18]) (ms:=((dw.set 2 (some (.s 1 0 6 b.aj.length))).set 19 (some (cI 0)))) (ms':=((dw.set 2 (some (.s 1 0 6 l28.length))).set 19 (some (cI e28)))) (fun x hx=>iT x hx b.aj 0 b0.aJ (e1 - e2) (0 - d.sum) (by first|omega|(simp;done)|(simp;omega)) l28 e28 hr8) nw rfl rfl ⟨⟨_,rfl,.inl ⟨rfl,rfl⟩⟩,⟨_,rfl,.inr (.c (.d _))⟩,⟨_,rfl,.inr (.c (.d _))⟩,⟨_,rfl,.inr (.c (.d _))⟩,trivial⟩ rfl rfl rfl rfl rfl rfl rfl ⟨rfl,trivial⟩ rfl rfl rfl rfl rfl rfl rfl rfl rfl rfl rfl rfl rfl) rfl⟩) rfl ?_
   refine dS [0,1,4,6,8,11,10] [18,8,17,0,9,10,11,12,14,15,16,7,5] rfl rfl (by kernel_rfl) ?_
   refine then_ok ?_
   refine az aa 6 rfl ?_
   obtain ⟨l29,e29,hr9⟩:∃ (l29:List Entry) (e29:Int),dT b.book e28 (10+b0.aJ) 1 d.sum=(l29,e29):=⟨_,_,rfl⟩
   refine aL 19 [8,18,17,0,9,10,11,12,14,15,16,7,5] (cg (aU [8]) (aU [8]) (ms:=((dw.set 18 (some (dM b.book))).set 19 (some (cI e28)))) (ms':=((dw.set 18 (some (dM l29))).set 19 (some (cI e29)))) (fun x hx=>jh x hx b.book e28 (10+b0.aJ) 1 d.sum l29 e29 hr9) mr rfl rfl ⟨⟨_,rfl,.inl ⟨rfl,rfl⟩⟩,⟨_,rfl,.inr (.c (.d _))⟩,⟨_,rfl,.inr (.c (.d _))⟩,⟨_,rfl,.inr (.c (.d _))⟩,trivial⟩ rfl rfl rfl rfl rfl rfl rfl trivial rfl rfl rfl rfl rfl rfl rfl rfl rfl rfl rfl rfl rfl) rfl ?_
   refine ae ?_
   refine ad aa 2 rfl ?_
   refine aw ?_
   refine ab aa 2 rfl ?_
   obtain ⟨s210,e210,hr10⟩:∃ (s210:bR) (e210:Int),eA b.s0 e29 (⟨0,1,d.n,d.sum⟩:aW)=(s210,e210):=⟨_,_,rfl⟩
   refine aL 19 [8,18,17,0,9,10,11,12,14,15,16,7,5] (cg (aU [8]) (aU [8]) (ms:=(((dw.set 5 (some (cI b.s0.bE))).set 6 (some (dc b.s0.kept))).set 19 (some (cI e29)))) (ms':=(((dw.set 5 (some (cI s210.bE))).set 6 (some (dc s210.kept))).set 19 (some (cI e210)))) (fun x hx=>sF x hx b.s0 e29 (⟨0,1,d.n,d.sum⟩:aW) (by assumption) s210 e210 hr10) yC rfl rfl ⟨⟨_,rfl,.inl ⟨rfl,rfl⟩⟩,⟨_,rfl,.inr (.c (.d _))⟩,⟨_,rfl,.inr (.g ⟨.d _,.d _,.d _,.d _,trivial⟩)⟩,trivial⟩ rfl rfl rfl rfl rfl rfl rfl trivial rfl rfl rfl rfl rfl rfl rfl rfl rfl rfl rfl rfl rfl) rfl ?_
   refine bZ ?_
   refine bp ?_
   refine then_ok ?_
   have hX:dH b b0 x1 d=(l28,b.due,l29,s210,b.s1,e210):=by
     unfold dH;(try simp only [hr1,hr2,hr8,hr9,hr10]);(repeat' split)<;>first|rfl|omega|(exfalso;omega)|(simp_all;done)|(simp_all;omega)
   rw [hX] at hj;clear hX;simp only [Prod.mk.injEq] at hj;obtain ⟨rfl,rfl,rfl,rfl,rfl,rfl⟩:=hj
   exact aD.bY (fun k=>if k=13 then 18 else k) (by refine ⟨?_,?_,?_,?_,?_,trivial⟩<;>first|rfl|(simp only [bn];done)|(congr 3;omega)|(congr 4;omega)|(simp only [bo];rfl)) (by refine ⟨?_,?_,?_,?_,?_,?_,?_,?_,?_,?_,?_,?_,trivial⟩<;>first|rfl|(simp only [bn];done)|(congr 3;omega)|(congr 4;omega)|(simp only [bo];rfl)) rfl
  have hc13':=of_decide_eq_false hc13
  refine ad aa 2 rfl ?_
  refine ag rfl (fun hc14=>?_) (fun hc14=>?_)
  ·
   have hc14':=of_decide_eq_true hc14
   refine af ?_
   obtain ⟨x2,hx2⟩:=ch (xs:=b.due) (i:=Int.toNat (b0.ax)) (by first|omega|(simp;done)|(simp;omega))
   refine bb [0,1,4,6,8,11] [17,0,8,9,10,11,12,13,14,15,16,7,5] mixed rfl rfl ?_
   refine aA (kn:=[]) aa 7 rfl trivial ?_
   refine aT (n':=18) [149,151] [14] rfl rfl (.inl ⟨(ak.plain rfl),aK.cast (bq (i:=Int.toNat (b0.ax)) rfl rfl rfl Try.underlying30 fK (by first|omega|(simp;done)|(simp;omega)) (by first|omega|(simp;done)|(simp;omega))) rfl⟩) rfl ?_
   refine aT (n':=18) [152] [14] rfl rfl (.inl ⟨(ak.plain rfl),aK.cast (eG rfl rfl rfl Try.underlying3 rfl (bw hx2) rfl) rfl⟩) rfl ?_
   refine aA (kn:=[]) aa 5 rfl trivial ?_
   refine aT (n':=18) [149,151] [14] rfl rfl (.inl ⟨(ak.plain rfl),aK.cast (bq (i:=Int.toNat (b0.ax)) rfl rfl rfl Try.underlying30 fK (by first|omega|(simp;done)|(simp;omega)) (by first|omega|(simp;done)|(simp;omega))) rfl⟩) rfl ?_
   refine bB [17,0,8,9,10,11,12,13,14,15,16,7,5] rfl rfl rfl rfl (by kernel_rfl) ?_
   refine gf [17,0,8,9,10,11,12,13,14,15,16,7,5] (dP (ds:=[(dI (IntKind.i64.wrap (x2 - d.sum)))]) rfl rfl rfl rfl rfl fK rfl (Nat.le_of_ble_eq_true rfl) (bw hx2) rfl (eL (x':=(IntKind.i64.wrap (x2 - d.sum))) rfl)) rfl ?_
   refine ae ?_
   refine fy (k:=8) (q:=3) (c':=(.s 14 0 1 (((b.due).set (Int.toNat (b0.ax)) (IntKind.i64.wrap (x2 - d.sum))).length))) rfl rfl (by first|rfl|(simp;done)|(congr 1;omega)) rfl ?_
   refine af ?_
   obtain ⟨l211,e211,hr11⟩:∃ (l211:List Entry) (e211:Int),dT b.book 0 (50+b0.ax) 1 d.sum=(l211,e211):=⟨_,_,rfl⟩
   refine db [0,1,4,6,8,11] [17,0,8,9,10,11,12,13,14,15,16,7,5] mixed rfl rfl ?_
   refine bT (kn:=[]) aa 3 rfl trivial ?_
   refine bW (n':=18) [162] [] rfl rfl (.inl ⟨(ak.plain rfl),aK.cast (aM rfl rfl rfl (aH (by first|omega|(simp;done)|(simp;omega)))) rfl⟩) rfl ?_
   refine bT (kn:=[]) aa 4 rfl trivial ?_
   refine bW (n':=18) [160,163,167] [8] rfl rfl (.inl ⟨(ak.plain rfl),aK.cast (cg (aU [8]) (aU [8]) (ms:=((dw.set 18 (some (dM b.book))).set 19 (some (cI 0)))) (ms':=((dw.set 18 (some (dM l211))).set 19 (some (cI e211)))) (fun x hx=>jh x hx b.book 0 (50+b0.ax) 1 d.sum l211 e211 hr11) mr rfl rfl ⟨⟨_,rfl,.inl ⟨rfl,rfl⟩⟩,⟨_,rfl,.inr (.c (.d _))⟩,⟨_,rfl,.inr (.c (.d _))⟩,⟨_,rfl,.inr (.c (.d _))⟩,trivial⟩ rfl rfl rfl rfl rfl rfl rfl trivial rfl rfl rfl rfl rfl rfl rfl rfl rfl rfl rfl rfl rfl) rfl⟩) rfl ?_
   refine dS [0,1,4,6,8,11] [8,17,0,9,10,11,12,13,14,15,16,7,5] rfl rfl (by kernel_rfl) ?_
   refine then_ok ?_
   refine ad aa 2 rfl ?_
   refine aw ?_
   refine ab aa 2 rfl ?_
   obtain ⟨s212,e212,hr12⟩:∃ (s212:bR) (e212:Int),eA b.s1 e211 (⟨0,2,d.n,d.sum⟩:aW)=(s212,e212):=⟨_,_,rfl⟩
   refine aL 18 [8,17,0,9,10,11,12,13,14,15,16,7,5] (cg (aU [8]) (aU [8]) (ms:=(((dw.set 7 (some (cI b.s1.bE))).set 8 (some (dc b.s1.kept))).set 19 (some (cI e211)))) (ms':=(((dw.set 7 (some (cI s212.bE))).set 8 (some (dc s212.kept))).set 19 (some (cI e212)))) (fun x hx=>DC x hx b.s1 e211 (⟨0,2,d.n,d.sum⟩:aW) (by assumption) s212 e212 hr12) yC rfl rfl ⟨⟨_,rfl,.inl ⟨rfl,rfl⟩⟩,⟨_,rfl,.inr (.c (.d _))⟩,⟨_,rfl,.inr (.g ⟨.d _,.d _,.d _,.d _,trivial⟩)⟩,trivial⟩ rfl rfl rfl rfl rfl rfl rfl trivial rfl rfl rfl rfl rfl rfl rfl rfl rfl rfl rfl rfl rfl) rfl ?_
   refine bZ ?_
   refine bp ?_
   refine then_ok ?_
   have hX:dH b b0 x1 d=(b.aj,(b.due).set (Int.toNat (b0.ax)) (IntKind.i64.wrap (x2 - d.sum)),l211,b.s0,s212,e212):=by
     unfold dH;simp only [List.getD_eq_getElem?_getD,hx2,Option.getD_some];(try simp only [hr1,hr2,hr11,hr12,hx2]);(repeat' split)<;>first|rfl|omega|(exfalso;omega)|(simp_all;done)|(simp_all;omega)
   rw [hX] at hj;clear hX;simp only [Prod.mk.injEq] at hj;obtain ⟨rfl,rfl,rfl,rfl,rfl,rfl⟩:=hj
   exact aD.bY id (by refine ⟨?_,?_,?_,?_,?_,trivial⟩<;>first|rfl|(simp only [bn];done)|(congr 3;omega)|(congr 4;omega)|(simp only [bo];rfl)) (by refine ⟨?_,?_,?_,?_,?_,?_,?_,?_,?_,?_,?_,?_,trivial⟩<;>first|rfl|(simp only [bn];done)|(congr 3;omega)|(congr 4;omega)|(simp only [bo];rfl)) rfl
  have hc14':=of_decide_eq_false hc14
  refine ad aa 2 rfl ?_
  refine ag rfl (fun hc15=>?_) (fun hc15=>?_)
  ·
   have hc15':=of_decide_eq_true hc15
   refine af ?_
   obtain ⟨l213,e213,hr13⟩:∃ (l213:List bx) (e213:Int),cz b.aj 0 b0.aJ 0 d.sum=(l213,e213):=⟨_,_,rfl⟩
   refine db [0,1,4,6,8,10] [0,8,9,10,11,12,13,14,15,16,7,5] mixed rfl rfl ?_
   refine bT (kn:=[]) aa 7 rfl trivial ?_
   refine bW (n':=19) [175,177,181] [13,8] rfl rfl (.inl ⟨(ak.plain rfl),aK.cast (cg (aU [8,13]) (aU [8,18]) (ms:=((dw.set 2 (some (.s 1 0 6 b.aj.length))).set 19 (some (cI 0)))) (ms':=((dw.set 2 (some (.s 1 0 6 l213.length))).set 19 (some (cI e213)))) (fun x hx=>iT x hx b.aj 0 b0.aJ 0 d.sum (by first|omega|(simp;done)|(simp;omega)) l213 e213 hr13) nw rfl rfl ⟨⟨_,rfl,.inl ⟨rfl,rfl⟩⟩,⟨_,rfl,.inr (.c (.d _))⟩,⟨_,rfl,.inr (.c (.d _))⟩,⟨_,rfl,.inr (.c (.d _))⟩,trivial⟩ rfl rfl rfl rfl rfl rfl rfl ⟨rfl,trivial⟩ rfl rfl rfl rfl rfl rfl rfl rfl rfl rfl rfl rfl rfl) rfl⟩) rfl ?_
   refine dS [0,1,4,6,8,10] [18,8,0,9,10,11,12,14,15,16,7,5] rfl rfl (by kernel_rfl) ?_
   refine then_ok ?_
   refine aw ?_
   refine ab aa 6 rfl ?_
   obtain ⟨l214,e214,hr14⟩:∃ (l214:List Entry) (e214:Int),dT b.book e213 2 (10+b0.aJ) d.sum=(l214,e214):=⟨_,_,rfl⟩
   refine aL 19 [8,18,0,9,10,11,12,14,15,16,7,5] (cg (aU [8]) (aU [8]) (ms:=((dw.set 18 (some (dM b.book))).set 19 (some (cI e213)))) (ms':=((dw.set 18 (some (dM l214))).set 19 (some (cI e214)))) (fun x hx=>jh x hx b.book e213 2 (10+b0.aJ) d.sum l214 e214 hr14) mr rfl rfl ⟨⟨_,rfl,.inl ⟨rfl,rfl⟩⟩,⟨_,rfl,.inr (.c (.d _))⟩,⟨_,rfl,.inr (.c (.d _))⟩,⟨_,rfl,.inr (.c (.d _))⟩,trivial⟩ rfl rfl rfl rfl rfl rfl rfl trivial rfl rfl rfl rfl rfl rfl rfl rfl rfl rfl rfl rfl rfl) rfl ?_
   refine bZ ?_
   refine bp ?_
   refine then_ok ?_
   have hX:dH b b0 x1 d=(l213,b.due,l214,b.s0,b.s1,e214):=by
     unfold dH;(try simp only [hr1,hr2,hr13,hr14]);(repeat' split)<;>first|rfl|omega|(exfalso;omega)|(simp_all;done)|(simp_all;omega)
   rw [hX] at hj;clear hX;simp only [Prod.mk.injEq] at hj;obtain ⟨rfl,rfl,rfl,rfl,rfl,rfl⟩:=hj
   exact aD.bY (fun k=>if k=13 then 18 else k) (by refine ⟨?_,?_,?_,?_,?_,trivial⟩<;>first|rfl|(simp only [bn];done)|(congr 3;omega)|(congr 4;omega)|(simp only [bo];rfl)) (by refine ⟨?_,?_,?_,?_,?_,?_,?_,?_,?_,?_,?_,?_,trivial⟩<;>first|rfl|(simp only [bn];done)|(congr 3;omega)|(congr 4;omega)|(simp only [bo];rfl)) rfl
  have hc15':=of_decide_eq_false hc15
  refine ad aa 2 rfl ?_
  refine ag rfl (fun hc16=>?_) (fun hc16=>?_)
  ·
   have hc16':=of_decide_eq_true hc16
   refine ad aa 2 rfl ?_
   refine aw ?_
   refine ab aa 2 rfl ?_
   obtain ⟨s215,e215,hr15⟩:∃ (s215:bR) (e215:Int),eA b.s0 0 (⟨0,3,d.n,d.sum⟩:aW)=(s215,e215):=⟨_,_,rfl⟩
   refine aL 18 [8,17,0,9,10,11,12,13,14,15,16,7,5] (cg (aU [8]) (aU [8]) (ms:=(((dw.set 5 (some (cI b.s0.bE))).set 6 (some (dc b.s0.kept))).set 19 (some (cI 0)))) (ms':=(((dw.set 5 (some (cI s215.bE))).set 6 (some (dc s215.kept))).set 19 (some (cI e215)))) (fun x hx=>sF x hx b.s0 0 (⟨0,3,d.n,d.sum⟩:aW) (by assumption) s215 e215 hr15) yC rfl rfl ⟨⟨_,rfl,.inl ⟨rfl,rfl⟩⟩,⟨_,rfl,.inr (.c (.d _))⟩,⟨_,rfl,.inr (.g ⟨.d _,.d _,.d _,.d _,trivial⟩)⟩,trivial⟩ rfl rfl rfl rfl rfl rfl rfl trivial rfl rfl rfl rfl rfl rfl rfl rfl rfl rfl rfl rfl rfl) rfl ?_
   refine bZ ?_
   refine bp ?_
   refine then_ok ?_
   have hX:dH b b0 x1 d=(b.aj,b.due,b.book,s215,b.s1,e215):=by
     unfold dH;(try simp only [hr1,hr2,hr15]);(repeat' split)<;>first|rfl|omega|(exfalso;omega)|(simp_all;done)|(simp_all;omega)
   rw [hX] at hj;clear hX;simp only [Prod.mk.injEq] at hj;obtain ⟨rfl,rfl,rfl,rfl,rfl,rfl⟩:=hj
   exact aD.bY id (by refine ⟨?_,?_,?_,?_,?_,trivial⟩<;>first|rfl|(simp only [bn];done)|(congr 3;omega)|(congr 4;omega)|(simp only [bo];rfl)) (by refine ⟨?_,?_,?_,?_,?_,?_,?_,?_,?_,?_,?_,?_,trivial⟩<;>first|rfl|(simp only [bn];done)|(congr 3;omega)|(congr 4;omega)|(simp only [bo];rfl)) rfl
  have hc16':=of_decide_eq_false hc16
  refine ad aa 2 rfl ?_
  refine ag rfl (fun hc17=>?_) (fun hc17=>?_)
  ·
   have hc17':=of_decide_eq_true hc17
   refine af ?_
   obtain ⟨l216,e216,hr16⟩:∃ (l216:List bx) (e216:Int),cz b.aj 0 b0.aJ 0 (0 - d.sum)=(l216,e216):=⟨_,_,rfl⟩
   refine db [0,1,4,6,8,10] [0,8,9,10,11,12,13,14,15,16,7,5] mixed rfl rfl ?_
   refine bT (kn:=[]) aa 7 rfl trivial ?_
   refine bW (n':=18) [204] [] rfl rfl (.inl ⟨(ak.plain rfl),aK.cast (oH rfl rfl (aH (by first|omega|(simp;done)|(simp;omega)))) rfl⟩) rfl ?_
   refine bW (n':=19) [198,200,205] [13,8] rfl rfl (.inl ⟨(ak.plain rfl),aK.cast (cg (aU [8,13]) (aU [8,18]) (ms:=((dw.set 2 (some (.s 1 0 6 b.aj.length))).set 19 (some (cI 0)))) (ms':=((dw.set 2 (some (.s 1 0 6 l216.length))).set 19 (some (cI e216)))) (fun x hx=>iT x hx b.aj 0 b0.aJ 0 (0 - d.sum) (by first|omega|(simp;done)|(simp;omega)) l216 e216 hr16) nw rfl rfl ⟨⟨_,rfl,.inl ⟨rfl,rfl⟩⟩,⟨_,rfl,.inr (.c (.d _))⟩,⟨_,rfl,.inr (.c (.d _))⟩,⟨_,rfl,.inr (.c (.d _))⟩,trivial⟩ rfl rfl rfl rfl rfl rfl rfl ⟨rfl,trivial⟩ rfl rfl rfl rfl rfl rfl rfl rfl rfl rfl rfl rfl rfl) rfl⟩) rfl ?_
   refine dS [0,1,4,6,8,10] [18,8,0,9,10,11,12,14,15,16,7,5] rfl rfl (by kernel_rfl) ?_
   refine then_ok ?_
   refine aw ?_
   refine ab aa 6 rfl ?_
   obtain ⟨l217,e217,hr17⟩:∃ (l217:List Entry) (e217:Int),dT b.book e216 (10+b0.aJ) 2 d.sum=(l217,e217):=⟨_,_,rfl⟩
   refine aL 19 [8,18,0,9,10,11,12,14,15,16,7,5] (cg (aU [8]) (aU [8]) (ms:=((dw.set 18 (some (dM b.book))).set 19 (some (cI e216)))) (ms':=((dw.set 18 (some (dM l217))).set 19 (some (cI e217)))) (fun x hx=>jh x hx b.book e216 (10+b0.aJ) 2 d.sum l217 e217 hr17) mr rfl rfl ⟨⟨_,rfl,.inl ⟨rfl,rfl⟩⟩,⟨_,rfl,.inr (.c (.d _))⟩,⟨_,rfl,.inr (.c (.d _))⟩,⟨_,rfl,.inr (.c (.d _))⟩,trivial⟩ rfl rfl rfl rfl rfl rfl rfl trivial rfl rfl rfl rfl rfl rfl rfl rfl rfl rfl rfl rfl rfl) rfl ?_
   refine bZ ?_
   refine bp ?_
   refine then_ok ?_
   have hX:dH b b0 x1 d=(l216,b.due,l217,b.s0,b.s1,e217):=by
     unfold dH;(try simp only [hr1,hr2,hr16,hr17]);(repeat' split)<;>first|rfl|omega|(exfalso;omega)|(simp_all;done)|(simp_all;omega)
   rw [hX] at hj;clear hX;simp only [Prod.mk.injEq] at hj;obtain ⟨rfl,rfl,rfl,rfl,rfl,rfl⟩:=hj
   exact aD.bY (fun k=>if k=13 then 18 else k) (by refine ⟨?_,?_,?_,?_,?_,trivial⟩<;>first|rfl|(simp only [bn];done)|(congr 3;omega)|(congr 4;omega)|(simp only [bo];rfl)) (by refine ⟨?_,?_,?_,?_,?_,?_,?_,?_,?_,?_,?_,?_,trivial⟩<;>first|rfl|(simp only [bn];done)|(congr 3;omega)|(congr 4;omega)|(simp only [bo];rfl)) rfl
  have hc17':=of_decide_eq_false hc17
  refine cU ?_
  refine bp ?_
  refine then_ok ?_
  have hX:dH b b0 x1 d=(b.aj,b.due,b.book,b.s0,b.s1,0):=by
    unfold dH;(try simp only [hr1,hr2]);(repeat' split)<;>first|rfl|omega|(exfalso;omega)|(simp_all;done)|(simp_all;omega)
  rw [hX] at hj;clear hX;simp only [Prod.mk.injEq] at hj;obtain ⟨rfl,rfl,rfl,rfl,rfl,rfl⟩:=hj
  exact aD.bY id (by refine ⟨?_,?_,?_,?_,?_,trivial⟩<;>first|rfl|(simp only [bn];done)|(congr 3;omega)|(congr 4;omega)|(simp only [bo];rfl)) (by refine ⟨?_,?_,?_,?_,?_,?_,?_,?_,?_,?_,?_,?_,trivial⟩<;>first|rfl|(simp only [bn];done)|(congr 3;omega)|(congr 4;omega)|(simp only [bo];rfl)) rfl
 refine af ?_
 obtain ⟨l218,e218,hr18⟩:∃ (l218:List an) (e218:Int),gE b.aN je (⟨b0.ax,d.n,d.move,d.sum⟩:an)=(l218,e218):=⟨_,_,rfl⟩
 refine db [0,1,4,6,8] [0,8,9,10,11,12,13,14,15,16,7,5] mixed rfl rfl ?_
 refine bT (kn:=[]) aa 16 rfl trivial ?_
 refine bW (n':=18) [214,229] [16,8] rfl rfl (.inl ⟨(ak.plain rfl),aK.cast (cg (aU [8,16]) (aU [8,17]) (ms:=((dw.set 16 (some (.s 1 0 4 b.aN.length))).set 19 (some (cI je)))) (ms':=((dw.set 16 (some (.s 1 0 4 l218.length))).set 19 (some (cI e218)))) (fun x hx=>Fb x hx b.aN je (⟨b0.ax,d.n,d.move,d.sum⟩:an) (by first|omega|(simp;done)|(simp;omega)) l218 e218 hr18) GM rfl rfl ⟨⟨_,rfl,.inl ⟨rfl,rfl⟩⟩,⟨_,rfl,.inr (.g ⟨.d _,.d _,.d _,.d _,trivial⟩)⟩,trivial⟩ rfl rfl rfl rfl rfl rfl rfl ⟨rfl,trivial⟩ rfl rfl rfl rfl rfl rfl rfl rfl rfl rfl rfl rfl rfl) rfl⟩) rfl ?_
 refine dS [0,1,4,6,8] [17,8,0,9,10,11,12,13,14,15,7,5] rfl rfl (by kernel_rfl) ?_
 refine then_ok ?_
 refine af ?_
 refine bb [0,1,4,6,8] [17,8,0,9,10,11,12,13,14,15,7,5] mixed rfl rfl ?_
 refine aA (kn:=[]) aa 10 rfl trivial ?_
 refine aT (n':=18) [235,239] [15] rfl rfl (.inl ⟨(ak.plain rfl),aK.cast (bq (i:=Int.toNat (d.n)) rfl rfl rfl Try.underlying31 mf (by first|omega|(simp;done)|(simp;omega)) (by first|omega|(simp;done)|(simp;omega))) rfl⟩) rfl ?_
 refine bB [17,8,0,9,10,11,12,13,14,15,7,5] rfl rfl rfl rfl (by kernel_rfl) ?_
 refine gf [17,8,0,9,10,11,12,13,14,15,7,5] (dP (ds:=[(dI b0.aJ),(dI b0.ax),(dI b0.sum),(dI b0.captured),(dI b0.br),(dI b0.bd),(dI b0.cS),(dB b0.shut)]) rfl rfl rfl rfl rfl mf rfl (Nat.le_of_ble_eq_true rfl) (bw hx1) rfl (eL (x':=b0) rfl)) rfl ?_
 refine ae ?_
 rcases (show e218=0\/¬e218=0 from by omega) with hs18|hs18
 ·
  refine fy (k:=8) (q:=4) (c':=(.s 15 0 8 (((b.aq).set (Int.toNat (d.n)) b0).length))) rfl rfl (by first|rfl|(simp;done)|(congr 1;omega)) rfl ?_
  refine az aa 2 rfl ?_
  refine aL 22 [0,18,19,20,21,7,5] (cv (aU [0,8,9,10,11,12,13,14,15,17]) (aU [0,18,19,20,21]) (fg (x 17) (x 19) b (⟨b.time,b.down,jcards,jdue,(b.aq).set (Int.toNat (d.n)) b0,js0,js1,b.n0,b.n1,b.w0,b.w1,b.bH,l218,jbook⟩:Bk) e218 (by first|assumption|omega)) fE rfl rfl ⟨⟨_,rfl,.inl ⟨rfl,rfl⟩⟩,⟨_,rfl,.inl ⟨rfl,rfl⟩⟩,trivial⟩ ⟨rfl,rfl,rfl,rfl,rfl,rfl,rfl,rfl,rfl,rfl,trivial⟩ rfl rfl rfl rfl rfl rfl trivial ⟨⟨trivial,trivial,trivial,trivial,trivial,trivial,trivial,trivial,trivial,trivial,trivial,trivial,trivial,trivial,trivial,trivial,trivial,trivial,trivial,trivial,trivial⟩,(fun _ _ _ _=>trivial),(fun _ _ _ _=>trivial),(fun _ _ _ _=>trivial),(fun _ _ _ _=>trivial),trivial⟩ rfl rfl rfl rfl) rfl ?_
  refine ab aa 2 rfl ?_
  refine ae ?_
  refine ar ?_
  have hX:di b d=((⟨b.time,b.down,jcards,jdue,(b.aq).set (Int.toNat (d.n)) b0,js0,js1,b.n0,b.n1,b.w0,b.w1,b.bH,l218,jbook⟩:Bk),(⟨e218,0⟩:Answer)):=by
    unfold di;simp only [hdn,Bool.false_eq_true,if_false];rw [if_neg (by omega),hx1];dsimp only;simp only [hr0,hj0];unfold kl dC;simp only [hr18];(repeat' split)<;>first|rfl|omega|(exfalso;omega)|(simp_all;done)|(simp_all;omega)
  rw [hX] at hr;clear hX
  simp only [Prod.mk.injEq] at hr;obtain ⟨rfl,rfl⟩:=hr
  refine ah aa [0,18,19,20,21,5] 5 rfl rfl rfl rfl rfl rfl ?_ ?_
  all_goals first|rfl|(simp [au,aS,aZ];done)|(simp [au,aS,aZ];omega)
 refine fy (k:=8) (q:=4) (c':=(.s 15 0 8 (((b.aq).set (Int.toNat (d.n)) b0).length))) rfl rfl (by first|rfl|(simp;done)|(congr 1;omega)) rfl ?_
 refine az aa 2 rfl ?_
 refine aL 22 [0,18,19,20,21,7,5] (cv (aU [0,8,9,10,11,12,13,14,15,17]) (aU [0,18,19,20,21]) (fT (x 17) (x 19) b (⟨b.time,b.down,jcards,jdue,(b.aq).set (Int.toNat (d.n)) b0,js0,js1,b.n0,b.n1,b.w0,b.w1,b.bH,l218,jbook⟩:Bk) e218 (by first|assumption|omega)) fE rfl rfl ⟨⟨_,rfl,.inl ⟨rfl,rfl⟩⟩,⟨_,rfl,.inl ⟨rfl,rfl⟩⟩,trivial⟩ ⟨rfl,rfl,rfl,rfl,rfl,rfl,rfl,rfl,rfl,rfl,trivial⟩ rfl rfl rfl rfl rfl rfl trivial ⟨⟨trivial,trivial,trivial,trivial,trivial,trivial,trivial,trivial,trivial,trivial,trivial,trivial,trivial,trivial,trivial,trivial,trivial,trivial,trivial,trivial,trivial⟩,(fun _ _ _ _=>trivial),(fun _ _ _ _=>trivial),(fun _ _ _ _=>trivial),(fun _ _ _ _=>trivial),trivial⟩ rfl rfl rfl rfl) rfl ?_
 refine ab aa 2 rfl ?_
 refine ae ?_
 refine ar ?_
 have hX:di b d=(b,(⟨e218,0⟩:Answer)):=by
   unfold di;simp only [hdn,Bool.false_eq_true,if_false];rw [if_neg (by omega),hx1];dsimp only;simp only [hr0,hj0];unfold kl dC;simp only [hr18];(repeat' split)<;>first|rfl|omega|(exfalso;omega)|(simp_all;done)|(simp_all;omega)
 rw [hX] at hr;clear hX
 simp only [Prod.mk.injEq] at hr;obtain ⟨rfl,rfl⟩:=hr
 refine ah aa [0,18,19,20,21,5] 5 rfl rfl rfl rfl rfl rfl ?_ ?_
 all_goals first|rfl|(simp [au,aS,aZ];done)|(simp [au,aS,aZ];omega)
theorem Aw (x:Nat->Value) (hx:∀ i,(x i).oneCell'=true) (b:Bk) (d:aE) (ok:cm b) (hdn:b.down=true) (b2:Bk) (a2:Answer) (hr:di b d=(b2,a2)):cA Try.prog 64 [(.c (.p 0 0 0 0)),(.c (.q (cG d) 0))] [(0,(.box 98 (aS b 1 2 3 4 (.d (.v (x 17))) (.d (.v (x 19)))))),(1,(dR b.aj)),(2,(dL b.due)),(3,(dX b.aq)),(4,(cH b.aN))] [0] (.v (.g [cI a2.err,cI a2.ba])) [(0,(.box 98 (aS b2 1 2 3 4 (.d (.v (x 17))) (.d (.v (x 19)))))),(1,(dR b2.aj)),(2,(dL b2.due)),(3,(dX b2.aq)),(4,(cH b2.aN))]:=by
 refine cA.mk 246 [(0,(aC (.p 0 0 0 0))),(1,(aC (.q (cG d) 0)))] 5 Try.func64 rfl rfl rfl rfl rfl rfl rfl rfl rfl ?_
 intro W0 F0 T0 pg
 obtain ⟨okt,okc,okd,oka,oky,okw0,okw1,okp,okv,okk0,okk1,okg,okl0,okl1,okp0,okp1,okn0,okn1,okq⟩:=id ok
 refine ad aa 1 rfl ?_
 refine af ?_
 refine ad aa 5 rfl ?_
 refine ag rfl (fun _=>?_) (fun hno=>absurd (hdn.symm.trans hno) (by decide))
 refine ad aa 2 rfl ?_
 refine ar ?_
 refine ao ?_
 have hX:di b d=(b,(⟨12,0⟩:Answer)):=by
   unfold di;rw [if_pos hdn]
 rw [hX] at hr;clear hX
 simp only [Prod.mk.injEq] at hr;obtain ⟨rfl,rfl⟩:=hr
 refine ah aa [0,1,2,3,4,5] 5 rfl rfl rfl rfl rfl rfl ?_ ?_
 all_goals first|rfl|(simp [au,aS,aZ];done)|(simp [au,aS,aZ];omega)
theorem Cn (x:Nat->Value) (hx:∀ i,(x i).oneCell'=true) (b:Bk) (d:aE) (ok:cm b) (b2:Bk) (a2:Answer) (hr:di b d=(b2,a2)):cA Try.prog 64 [(.c (.p 0 0 0 0)),(.c (.q (cG d) 0))] [(0,(.box 98 (aS b 1 2 3 4 (.d (.v (x 17))) (.d (.v (x 19)))))),(1,(dR b.aj)),(2,(dL b.due)),(3,(dX b.aq)),(4,(cH b.aN))] [0] (.v (.g [cI a2.err,cI a2.ba])) [(0,(.box 98 (aS b2 1 2 3 4 (.d (.v (x 17))) (.d (.v (x 19)))))),(1,(dR b2.aj)),(2,(dL b2.due)),(3,(dX b2.aq)),(4,(cH b2.aN))]:=by
  cases hdn:b.down
  ·exact Av x hx b d ok hdn b2 a2 hr
  ·exact Aw x hx b d ok hdn b2 a2 hr
theorem ga {α:Type} {l:List α} {n:Nat} {x y:α} (h:y∈l.set n x):y∈l\/y=x:=List.mem_or_eq_of_mem_set h
theorem jx {l:List bx} {e k x y:Int} (h:∀ c∈l,cr c=0):∀ c∈(cz l e k x y).1,cr c=0:=by
 unfold cz
 split
 ·exact h
 ·rename_i c hc
  split
  ·rename_i h0
   intro z hz
   rcases ga hz with hz|rfl
   ·exact h z hz
   ·have he:(dW c x y).2=0:=by unfold dv at h0;split at h0<;>omega
    rcases qb (show dW c x y=((dW c x y).1,(dW c x y).2) from rfl) with ⟨h1,_⟩|h1
    ·exact absurd he h1
    ·exact h1.2.2.2.2.2.2.2
  ·exact h
theorem vg {time:Int} {n m:Nat}:∀ (l:List bz) (i:Nat) (aj:List bx) (aq:List bz) (e:Int),(∀ a∈l,bC a=0/\0<=a.aJ/\a.aJ < n/\0<=a.ax/\a.ax < m)->
  (∀ a∈aq,bC a=0/\0<=a.aJ/\a.aJ < n/\0<=a.ax/\a.ax < m)->(∀ c∈aj,cr c=0)->
  (∀ c∈(fI time l i aj aq e).1,cr c=0)/\(fI time l i aj aq e).1.length=aj.length/\(fI time l i aj aq e).2.1.length=aq.length/\
  (∀ a∈(fI time l i aj aq e).2.1,bC a=0/\0<=a.aJ/\a.aJ < n/\0<=a.ax/\a.ax < m)
 |[],_,_,_,_,_,h2,h3=>⟨h3,rfl,rfl,h2⟩
 |a::l,i,aj,aq,e,h1,h2,h3=>by
  have ha:=h1 a List.mem_cons_self
  obtain ⟨r1,r2,r3,r4⟩:=vg l (i+1) (cz aj e a.aJ (bu (ei a time) - bu a) 0).1 (aq.set i (ei a time)) (cz aj e a.aJ (bu (ei a time) - bu a) 0).2
   (fun x hx=>h1 x (List.mem_cons_of_mem _ hx)) (fun x hx=>by
    rcases ga hx with hx|rfl
    ·exact h2 x hx
    ·exact ⟨xz ha.1,ha.2⟩) (jx h3)
  refine ⟨r1,r2.trans (ff _ _ _ _ _),r3.trans (List.length_set ..),r4⟩
theorem cm.late {b:Bk} (h:cm b):cm (gS b):=by
 unfold gS
 split
 ·obtain ⟨r1,r2,r3,r4⟩:=vg (time:=b.time) (n:=b.aj.length) (m:=b.due.length) b.aq 0 b.aj b.aq 0 h.perm h.perm h.right
  exact ⟨h.time,by rw [r2];exact h.aj,h.due,by rw [r3];exact h.aq,h.aN,h.w0,h.w1,by dsimp only;rw [r2];exact r4,by dsimp only;rw [r2];exact h.jv,by dsimp only;rw [r3];exact h.k0,by dsimp only;rw [r3];exact h.k1,r1,h.l0,h.l1,by dsimp only;rw [r3];exact h.p0,by dsimp only;rw [r3];exact h.p1,h.n0,h.n1,h.calm⟩
 ·exact h
theorem cm.dC {b c:Bk} {e:Int} (h:cm b) (hc:e=0->cm c):cm (dC b c e).1:=by
 unfold Dev.dC;split
 ·exact hc (by assumption)
 ·exact h
theorem fJ {e x:Int} (h:dv e x=0):e=0/\x=0:=by unfold dv at h;split at h<;>omega
theorem jD {l:List Entry} {e s d n:Int} (h:(dT l e s d n).2=0):e=0/\(iQ l s d n).2=0/\(dT l e s d n).1=(iQ l s d n).1:=by
 unfold dT at h ⊢
 split at h
 ·rename_i h1;rw [if_pos h1];have:=fJ h1;exact ⟨this.1,this.2,rfl⟩
 ·rename_i h1;exact absurd h h1
theorem cm.Ap {b:Bk} (h:cm b) {cs:List bx} {bk:List Entry} (h1:∀ c∈cs,cr c=0) (h2:cs.length=b.aj.length):cm {b with aj:=cs,book:=bk}:=
 ⟨h.time,by rw [h2];exact h.aj,h.due,h.aq,h.aN,h.w0,h.w1,by dsimp only;rw [h2];exact h.perm,by dsimp only;rw [h2];exact h.jv,h.k0,h.k1,h1,h.l0,h.l1,h.p0,h.p1,h.n0,h.n1,h.calm⟩
theorem cm.load {b:Bk} (h:cm b) (d:aE):cm (fB b d).1:=by
 unfold fB
 split
 ·exact h
 split
 ·exact h
 ·exact h.dC fun _=>h.Ap (jx h.right) (ff _ _ _ _ _)
theorem cm.Du {b:Bk} (h:cm b) {due:List Int} {bk:List Entry} (h2:due.length=b.due.length):cm {b with due:=due,book:=bk}:=
 ⟨h.time,h.aj,by rw [h2];exact h.due,h.aq,h.aN,h.w0,h.w1,by dsimp only;rw [h2];exact h.perm,by dsimp only;rw [h2];exact h.jv,h.k0,h.k1,h.right,h.l0,h.l1,h.p0,h.p1,h.n0,h.n1,h.calm⟩
theorem cm.uV {b:Bk} (h:cm b) (d:aE):cm (gX b d).1:=by
 unfold gX
 split
 ·exact h
 split
 ·exact h
 ·exact h.dC fun _=>h.Du (List.length_set ..)
theorem cm.cK {b:Bk} (h:cm b) (d:aE):cm (fm b d).1:=by
 unfold fm
 split
 ·exact h
 ·have h1:cm {b with time:=b.time+d.sum}:=by have:=h.time;exact h.tick (by omega) (by omega)
  dsimp only
  split
  ·exact h1
  ·exact h1.late
theorem tc {l:List bV} {ks:List aW} {n:Int} {p:bV} (h:p∈gD l ks n):p∈l\/(∃ t∈ks,p=⟨t,-1⟩)\/p=⟨⟨0,0,0,0⟩,n⟩:=by
 unfold gD at h
 simp only [List.mem_append,List.mem_map,List.mem_singleton] at h
 rcases h with (h|⟨t,ht,rfl⟩)|h
 ·exact .inl h
 ·exact .inr (.inl ⟨t,ht,rfl⟩)
 ·exact .inr (.inr h)
structure xQ (b:Bk) (n:Nat) (w:List bV):Prop where
 len:w.length<=60
 own:∀ p∈w,p.seen < 0->fG p.ct.number/\0<=p.ct.ba/\p.ct.ba < n
theorem cm.ways {b:Bk} (h:cm b) {v0 v1:List bV} (h0:xQ b b.aq.length v0) (h1:xQ b b.aq.length v1):cm {b with w0:=v0,w1:=v1}:=
 ⟨h.time,h.aj,h.due,h.aq,h.aN,h0.len,h1.len,h.perm,h.jv,h.k0,h.k1,h.right,h.l0,h.l1,h0.own,h1.own,h.n0,h.n1,h.calm⟩
theorem uJ {b:Bk} {w:List bV} {ks:List aW} {n:Int} (hn:0<=n) (h:xQ b b.aq.length w) (hk:∀ t∈ks,fG t.number/\0<=t.ba/\t.ba < b.aq.length):xQ b b.aq.length (hZ w ks n).1:=by
 unfold hZ
 split
 ·exact h
 ·refine ⟨by dsimp only;omega,fun p hp hs=>?_⟩
  rcases tc hp with hp|⟨t,ht,rfl⟩|rfl
  ·exact h.own p hp hs
  ·exact hk t ht
  ·simp at hs;omega
theorem cm.send {b:Bk} (h:cm b) (d:aE):cm {b with w0:=(ez b.s0 b.s1 b.n0 b.n1 b.w0 b.w1 d).1,w1:=(ez b.s0 b.s1 b.n0 b.n1 b.w0 b.w1 d).2.1}:=by
 have h0:xQ b b.aq.length b.w0:=⟨h.w0,h.p0⟩
 have h1:xQ b b.aq.length b.w1:=⟨h.w1,h.p1⟩
 unfold ez
 split
 ·exact h.ways h0 (uJ h.n0 h1 h.k0)
 split
 ·exact h.ways (uJ h.n1 h0 h.k1) h1
 ·exact h.ways h0 h1
theorem uK {s:bR} {e:Int} {t:aW} {n:Nat} (h:∀ t∈s.kept,fG t.number/\0<=t.ba/\t.ba < n) (hl:s.kept.length<=40) (ht:0<=t.ba/\t.ba < n):
  (∀ u∈(eA s e t).1.kept,fG u.number/\0<=u.ba/\u.ba < n)/\(eA s e t).1.kept.length<=40:=by
 unfold eA
 split
 ·rename_i h0
  have he:=(fJ h0).2
  unfold fu at he
  split at he
  ·rename_i h1;exact absurd he h1
  split at he
  ·rename_i h1;exact absurd he h1
  ·rename_i h1 h2
   have hp:(fu s t).1=iG s t:=by unfold fu;rw [if_neg h1,if_neg h2]
   have hw:(cb (iG s t)).err=0:=by omega
   have hr:=qY hw
   dsimp only
   rw [hp]
   refine ⟨fun x hx=>?_,hr.1⟩
   rcases List.mem_append.1 hx with hx|hx
   ·exact h x hx
   ·obtain rfl:=List.mem_singleton.1 hx
    exact ⟨by have:=hr.2.1;have:=hr.2.2.1;constructor<;>simp only [iG,List.length_append] at *<;>omega,ht⟩
 ·exact ⟨h,hl⟩
theorem zD {l:List an} {e:Int} {r:an} (h:l.length<=100):(gE l e r).1.length<=100:=by
 unfold gE
 split
 ·exact h
 ·rw [List.length_append,List.length_singleton];omega
theorem yi {l:List an} {e:Int} {r:an} (h:(gE l e r).2=0):e=0/\l.length≠100/\(gE l e r).1=l++[r]:=by
 unfold gE at h ⊢
 split at h
 ·have:=(fJ h).2;omega
 ·rename_i h1;rw [if_neg h1];exact ⟨h,h1,rfl⟩
structure nV (n:Nat) (s:bR):Prop where
 own:∀ t∈s.kept,fG t.number/\0<=t.ba/\t.ba < n
 len:s.kept.length<=40
theorem cm.tu {b:Bk} (h:cm b):nV b.aq.length b.s0:=⟨h.k0,h.l0⟩
theorem cm.tq {b:Bk} (h:cm b):nV b.aq.length b.s1:=⟨h.k1,h.l1⟩
theorem nV.send {n:Nat} {s:bR} {e:Int} {t:aW} (h:nV n s) (ht:0<=t.ba/\t.ba < n):nV n (eA s e t).1:=⟨(uK h.own h.len ht).1,(uK h.own h.len ht).2⟩
theorem Cf {b:Bk} (h:cm b) (a cu:bz) (d:aE) (hn:0<=d.n/\d.n < b.aq.length):
  (∀ c∈(dH b a cu d).1,cr c=0)/\(dH b a cu d).1.length=b.aj.length/\(dH b a cu d).2.1.length=b.due.length/\
  nV b.aq.length (dH b a cu d).2.2.2.1/\nV b.aq.length (dH b a cu d).2.2.2.2.1:=by
 unfold dH
 have hc:∀ e k x y,(∀ c∈(cz b.aj e k x y).1,cr c=0)/\(cz b.aj e k x y).1.length=b.aj.length:=fun e k x y=>⟨jx h.right,ff _ _ _ _ _⟩
 split
 ·exact ⟨(hc ..).1,(hc ..).2,rfl,h.tu,h.tq⟩
 split
 ·exact ⟨(hc ..).1,(hc ..).2,rfl,h.tu.send hn,h.tq⟩
 split
 ·exact ⟨h.right,rfl,List.length_set ..,h.tu,h.tq.send hn⟩
 split
 ·exact ⟨(hc ..).1,(hc ..).2,rfl,h.tu,h.tq⟩
 split
 ·exact ⟨h.right,rfl,rfl,h.tu.send hn,h.tq⟩
 split
 ·exact ⟨(hc ..).1,(hc ..).2,rfl,h.tu,h.tq⟩
 ·exact ⟨h.right,rfl,rfl,h.tu,h.tq⟩
theorem cm.lD {b:Bk} (h:cm b) (d:aE):cm (di b d).1:=by
 unfold di
 split
 ·exact h
 split
 ·exact h
 rename_i hd hn
 have hn:0<=d.n/\d.n < b.aq.length:=by omega
 split
 ·exact h
 rename_i cu ho
 split
 ·exact h
 rename_i hm
 split
 ·exact h
 have hm:bN cu d.move d.sum=((bN cu d.move d.sum).1,0):=Prod.ext rfl (by dsimp only;omega)
 obtain ⟨m1,m2,m3,m4,_⟩:=mq hm
 obtain ⟨r1,r2,r3,r4,r5⟩:=Cf h (bN cu d.move d.sum).1 cu d hn
 have hp:=h.perm cu (List.mem_of_getElem? ho)
 unfold kl
 refine h.dC fun _=>⟨h.time,by rw [r2];exact h.aj,by rw [r3];exact h.due,by rw [List.length_set];exact h.aq,zD h.aN,h.w0,h.w1,fun a ha=>?_,by dsimp only;rw [r2,r3];exact h.jv,by dsimp only;rw [List.length_set];exact r4.own,by dsimp only;rw [List.length_set];exact r5.own,r1,r4.len,r5.len,by dsimp only;rw [List.length_set];exact h.p0,by dsimp only;rw [List.length_set];exact h.p1,h.n0,h.n1,h.calm⟩
 dsimp only
 rw [r2,r3]
 rcases ga ha with ha|rfl
 ·exact h.perm a ha
 ·exact ⟨m2,by rw [m3,m4];exact hp.2⟩
theorem oz {aJ ax n time:Int} (h:(de aJ ax n time).2=0):bC (de aJ ax n time).1=0/\(de aJ ax n time).1=⟨aJ,ax,n,0,0,0,time+100,false⟩/\¬(n < 1\/n > 1000000\/time < 0\/time > 1000000\/aJ < 0\/aJ > 7\/ax < 0\/ax > 7):=by
 unfold de at h ⊢
 split at h
 ·cases h
 ·rename_i h1;rw [if_neg h1];exact ⟨qZ (by dsimp only;omega),rfl,h1⟩
theorem BE {s:cw} {a:ca} (h:(cj s a).2=0):(cj s a).1.aX=s.aX++[a]:=by
 unfold cj at h ⊢
 split at h
 ·rename_i h1;exact absurd h h1
 split at h
 ·cases h
 split at h
 ·cases h
 split at h
 ·cases h
 ·rename_i h1 h2 h3 h4;rw [if_neg h1,if_neg h2,if_neg h3,if_neg h4]
theorem rC {e:Int} (h:gF e=0):e=0:=by unfold gF at h;split at h<;>omega
theorem cm.asks {b:Bk} (h:cm b) (d:aE):cm (dJ b d).1:=by
 unfold dJ
 split
 ·exact h
 rename_i hn
 have hlen:∀ a∈b.bH.aX++[(⟨d.n,d.ax,d.sum,b.time⟩:ca)],0<=a.aJ/\a.aJ < b.aj.length/\0<=a.ax/\a.ax < b.due.length:=fun a ha=>by
  rcases List.mem_append.1 ha with ha|ha
  ·exact h.jv a ha
  ·obtain rfl:=List.mem_singleton.1 ha;dsimp only;omega
 split
 ·split
  ·exact h
  split
  ·exact h
  rename_i h1 h2
  have he:=rC (show gF (cj b.bH ⟨d.n,d.ax,d.sum,b.time⟩).2=0 by omega)
  have hg:=BE he
  exact ⟨h.time,h.aj,h.due,by dsimp only;omega,h.aN,h.w0,h.w1,h.perm,by dsimp only;rw [hg];exact hlen,h.k0,h.k1,h.right,h.l0,h.l1,h.p0,h.p1,h.n0,h.n1,fun hf=>by dsimp only at hf;simp_all⟩
 split
 ·exact h
 split
 ·exact h
 split
 ·exact h
 rename_i h1 h2 h3 c hc
 split
 ·exact h
 rename_i h4
 obtain ⟨w1,w2,w3⟩:=oz (show (de d.n d.ax d.sum b.time).2=0 by omega)
 have hcr:cr (dK c d.sum b.time).1=0:=by
  rcases qD (show dK c d.sum b.time=((dK c d.sum b.time).1,(dK c d.sum b.time).2) from rfl) with ⟨h5,_⟩|⟨h5,h6,h7,h8,h9,h10,h11,l,h12,h13⟩
  ·exact absurd h5 (by omega)
  ·rw [h13];have hr:=fV h6;exact pa (by dsimp only;omega) hr.2.2.2.2.1 (AM h12)
 have hq:=h.calm (by cases hd:b.down with|true=>exact absurd hd (by assumption)|false=>rfl)
 have hl:b.aq.length+1<=30:=by have:=h.aq;rw [hq] at this;simp only [List.length_nil] at this;omega
 have hk:∀ {n:Int},n < (b.aq.length:Int)->n < ((b.aq++[(de d.n d.ax d.sum b.time).1]).length:Int):=fun hn=>by rw [List.length_append,List.length_singleton];omega
 refine ⟨h.time,by rw [List.length_set];exact h.aj,h.due,by dsimp only;rw [hq,List.length_append,List.length_singleton];exact hl,h.aN,h.w0,h.w1,fun a ha=>?_,by dsimp only;rw [List.length_set];exact h.jv,
  fun t ht=>⟨(h.k0 t ht).1,(h.k0 t ht).2.1,hk (h.k0 t ht).2.2⟩,fun t ht=>⟨(h.k1 t ht).1,(h.k1 t ht).2.1,hk (h.k1 t ht).2.2⟩,fun x hx=>?_,h.l0,h.l1,
  fun p hp hs=>⟨(h.p0 p hp hs).1,(h.p0 p hp hs).2.1,hk (h.p0 p hp hs).2.2⟩,fun p hp hs=>⟨(h.p1 p hp hs).1,(h.p1 p hp hs).2.1,hk (h.p1 p hp hs).2.2⟩,h.n0,h.n1,h.calm⟩
 ·dsimp only at ha ⊢
  rw [List.length_set]
  rcases List.mem_append.1 ha with ha|ha
  ·exact h.perm a ha
  ·obtain rfl:=List.mem_singleton.1 ha
   exact ⟨w1,by rw [w2];dsimp only;omega⟩
 ·rcases ga hx with hx|rfl
  ·exact h.right x hx
  ·exact hcr
theorem tp {α:Type} {p:α->Bool} {l:List α} {x:α} (h:x∈du p l):x∈l:=(List.mem_filter.1 h).1
theorem nV.back {n:Nat} {s:bR} (h:nV n s) {seen:Int} (hb:(dO s seen).2=0):nV n (dO s seen).1:=by
 rcases po (show dO s seen=((dO s seen).1,(dO s seen).2) from rfl) with ⟨h1,_⟩|⟨_,_,_,_,h2⟩
 ·exact absurd hb h1
 ·rw [h2];exact ⟨fun t ht=>h.own t (tp ht),Nat.le_trans (List.length_filter_le ..) h.len⟩
theorem uz {aq:List bz} {due:List Int} {aj:List bx} {book:List Entry} {e:Int} {t:aW} (h:∀ c∈aj,cr c=0):
  (dY aq due aj book e t).1.length=due.length/\(∀ c∈(dY aq due aj book e t).2.1,cr c=0)/\(dY aq due aj book e t).2.1.length=aj.length:=by
 unfold dY
 split
 ·exact ⟨rfl,h,rfl⟩
 split
 ·exact ⟨List.length_set ..,h,rfl⟩
 split
 ·exact ⟨rfl,jx h,ff _ _ _ _ _⟩
 split
 ·exact ⟨List.length_set ..,h,rfl⟩
 ·exact ⟨rfl,h,rfl⟩
theorem mT {n:Int} {t:aW} (h:0<=n):0<=(fr n t).1:=by unfold fr;split<;>(dsimp only;omega)
theorem vG {α:Type} {l:List α} {n:Nat} {x:α} (h:x∈l.drop n):x∈l:=List.mem_of_mem_drop h
theorem cm.bj {b:Bk} (h:cm b) {cs:List bx} {due:List Int} {bk:List Entry} (h1:∀ c∈cs,cr c=0) (h2:cs.length=b.aj.length) (h3:due.length=b.due.length):cm {b with aj:=cs,due:=due,book:=bk}:=
 ⟨h.time,by rw [h2];exact h.aj,by rw [h3];exact h.due,h.aq,h.aN,h.w0,h.w1,by dsimp only;rw [h2,h3];exact h.perm,by dsimp only;rw [h2,h3];exact h.jv,h.k0,h.k1,h1,h.l0,h.l1,h.p0,h.p1,h.n0,h.n1,h.calm⟩
theorem cm.xT {b:Bk} (h:cm b):cm {b with w0:=b.w0.drop 1}:=
 ⟨h.time,h.aj,h.due,h.aq,h.aN,by dsimp only;rw [List.length_drop];have:=h.w0;omega,h.w1,h.perm,h.jv,h.k0,h.k1,h.right,h.l0,h.l1,fun p hp=>h.p0 p (vG hp),h.p1,h.n0,h.n1,h.calm⟩
theorem cm.xS {b:Bk} (h:cm b):cm {b with w1:=b.w1.drop 1}:=
 ⟨h.time,h.aj,h.due,h.aq,h.aN,h.w0,by dsimp only;rw [List.length_drop];have:=h.w1;omega,h.perm,h.jv,h.k0,h.k1,h.right,h.l0,h.l1,h.p0,fun p hp=>h.p1 p (vG hp),h.n0,h.n1,h.calm⟩
theorem cm.Fx {b:Bk} (h:cm b) {s:bR} (hs:nV b.aq.length s):cm {b with s0:=s}:=
 ⟨h.time,h.aj,h.due,h.aq,h.aN,h.w0,h.w1,h.perm,h.jv,hs.own,h.k1,h.right,hs.len,h.l1,h.p0,h.p1,h.n0,h.n1,h.calm⟩
theorem cm.Fw {b:Bk} (h:cm b) {s:bR} (hs:nV b.aq.length s):cm {b with s1:=s}:=
 ⟨h.time,h.aj,h.due,h.aq,h.aN,h.w0,h.w1,h.perm,h.jv,h.k0,hs.own,h.right,h.l0,hs.len,h.p0,h.p1,h.n0,h.n1,h.calm⟩
theorem cm.CI {b:Bk} (h:cm b) {n:Int} (hn:0<=n):cm {b with n0:=n}:=
 ⟨h.time,h.aj,h.due,h.aq,h.aN,h.w0,h.w1,h.perm,h.jv,h.k0,h.k1,h.right,h.l0,h.l1,h.p0,h.p1,hn,h.n1,h.calm⟩
theorem cm.CH {b:Bk} (h:cm b) {n:Int} (hn:0<=n):cm {b with n1:=n}:=
 ⟨h.time,h.aj,h.due,h.aq,h.aN,h.w0,h.w1,h.perm,h.jv,h.k0,h.k1,h.right,h.l0,h.l1,h.p0,h.p1,h.n0,hn,h.calm⟩
theorem cm.Ct {b:Bk} (h:cm b) (d:aE):cm (fa b d).1:=by
 unfold fa
 split
 ·exact h
 split
 ·exact h.xT
 split
 ·split
  ·rename_i hb;exact h.xT.Fx (h.tu.back hb)
  ·exact h
 split
 ·obtain ⟨r1,r2,r3⟩:=uz (aq:=b.aq) (due:=b.due) (book:=b.book) (e:=0) (t:=(by assumption:bV).ct) h.right
  exact h.dC fun _=>(h.xT.CI (mT h.n0)).bj r2 r3 r1
 ·exact h.xT.CI (mT h.n0)
theorem cm.Cs {b:Bk} (h:cm b) (d:aE):cm (eZ b d).1:=by
 unfold eZ
 split
 ·exact h
 split
 ·exact h.xS
 split
 ·split
  ·rename_i hb;exact h.xS.Fw (h.tq.back hb)
  ·exact h
 split
 ·obtain ⟨r1,r2,r3⟩:=uz (aq:=b.aq) (due:=b.due) (book:=b.book) (e:=0) (t:=(by assumption:bV).ct) h.right
  exact h.dC fun _=>(h.xS.CH (mT h.n1)).bj r2 r3 r1
 ·exact h.xS.CH (mT h.n1)
theorem cm.lE {b:Bk} (h:cm b) (d:aE):cm (bS b d).1:=by
 unfold bS
 split
 ·exact h.Ct d
 split
 ·exact h.Cs d
 ·exact h
theorem oI {c:bx} {n:Int} (h:(eO c n).2=0):cr (eO c n).1=0/\(eO c n).1=⟨c.bj,c.held+n,c.bX,c.cD⟩/\cr c=0/\1<=n/\n<=1000000:=by
 unfold eO at h ⊢
 split at h
 ·rename_i h1;exact absurd h h1
 split at h
 ·cases h
 ·rename_i h1 h2
  rw [if_neg h1,if_neg h2]
  have hw:cr c=0:=by omega
  have hr:=fV hw
  exact ⟨pa (by dsimp only;omega) hr.2.2.2.2.1 hr.2.2.2.2.2,rfl,hw,by omega,by omega⟩
theorem zf {n m:Nat}:∀ (l:List ca) (cs:List bx) (xs:List bz),(∀ a∈l,0<=a.aJ/\a.aJ < n/\0<=a.ax/\a.ax < m)->cs.length=n->
  (∀ a∈xs,bC a=0/\0<=a.aJ/\a.aJ < n/\0<=a.ax/\a.ax < m)->(∀ c∈cs,cr c=0)->
  (∀ c∈(gh l cs xs).1,cr c=0)/\(gh l cs xs).1.length=n/\(∀ a∈(gh l cs xs).2.1,bC a=0/\0<=a.aJ/\a.aJ < n/\0<=a.ax/\a.ax < m)/\xs.length<=(gh l cs xs).2.1.length/\(gh l cs xs).2.1.length<=xs.length+l.length
 |[],cs,xs,_,h2,h3,h4=>⟨h4,h2,h3,Nat.le_refl _,Nat.le_refl _⟩
 |x::l,cs,xs,h1,h2,h3,h4=>by
  unfold gh
  split
  ·exact ⟨h4,h2,h3,Nat.le_refl _,by dsimp only;omega⟩
  rename_i e1
  split
  ·exact ⟨h4,h2,h3,Nat.le_refl _,by dsimp only;omega⟩
  rename_i c hc
  split
  ·exact ⟨h4,h2,h3,Nat.le_refl _,by dsimp only;omega⟩
  rename_i e2
  have hx:=h1 x List.mem_cons_self
  obtain ⟨w1,w2,w3⟩:=oz (show (de x.aJ x.ax x.sum x.time).2=0 by omega)
  obtain ⟨f1,_⟩:=oI (show (eO c x.sum).2=0 by omega)
  obtain ⟨r1,r2,r3,r4,r5⟩:=zf l (cs.set x.aJ.toNat (eO c x.sum).1) (xs++[(de x.aJ x.ax x.sum x.time).1]) (fun a ha=>h1 a (List.mem_cons_of_mem _ ha)) ((List.length_set ..).trans h2)
   (fun a ha=>by
    rcases List.mem_append.1 ha with ha|ha
    ·exact h3 a ha
    ·obtain rfl:=List.mem_singleton.1 ha;exact ⟨w1,by rw [w2];exact hx⟩)
   (fun z hz=>by
    rcases ga hz with hz|rfl
    ·exact h4 z hz
    ·exact f1)
  rw [List.length_append,List.length_singleton] at r4 r5
  exact ⟨r1,r2,r3,by omega,by rw [List.length_cons];omega⟩
theorem qB {s:cw} (h:(cW s).2.2=0):bU s=0/\(cW s).1=⟨s.cap,List.replicate s.used.length 0,[]⟩/\(cW s).2.1=s.aX:=by
 unfold cW at h ⊢
 split at h
 ·rename_i h1;exact absurd h h1
 ·rename_i h1;rw [if_neg h1];exact ⟨by omega,rfl,rfl⟩
theorem cm.AZ {b:Bk} (h:cm b) (h1:(cW b.bH).2.2=0):cm {b with aj:=(gh (cW b.bH).2.1 b.aj b.aq).1,aq:=(gh (cW b.bH).2.1 b.aj b.aq).2.1,bH:=(cW b.bH).1,down:=false}:=by
 obtain ⟨_,c1,c2⟩:=qB h1
 rw [c1,c2]
 obtain ⟨r1,r2,r3,r4,r5⟩:=zf b.bH.aX b.aj b.aq h.jv rfl h.perm h.right
 have hk:∀ {n:Int},n < (b.aq.length:Int)->n < ((gh b.bH.aX b.aj b.aq).2.1.length:Int):=fun hn=>by omega
 exact ⟨h.time,by rw [r2];exact h.aj,h.due,by have:=h.aq;simp only [List.length_nil];omega,h.aN,h.w0,h.w1,by dsimp only;rw [r2];exact r3,fun a ha=>by simp at ha,
  fun t ht=>⟨(h.k0 t ht).1,(h.k0 t ht).2.1,hk (h.k0 t ht).2.2⟩,fun t ht=>⟨(h.k1 t ht).1,(h.k1 t ht).2.1,hk (h.k1 t ht).2.2⟩,r1,h.l0,h.l1,
  fun p hp hs=>⟨(h.p0 p hp hs).1,(h.p0 p hp hs).2.1,hk (h.p0 p hp hs).2.2⟩,fun p hp hs=>⟨(h.p1 p hp hs).1,(h.p1 p hp hs).2.1,hk (h.p1 p hp hs).2.2⟩,h.n0,h.n1,fun _=>rfl⟩
theorem Bc {l:List ca} {q:Nat} {x:ca} {cs:List bx} {xs:List bz} {a:bz} {e1 e2:Int} (h:l[q]?=some x) (hn:de x.aJ x.ax x.sum x.time=(a,e1)) (hf:dv 0 e1=e2) (he:¬e2=0):gh (l.drop q) cs xs=(cs,xs,e2):=by
 rw [pY h,hn]
 have:e1=e2:=by unfold dv at hf;rw [if_pos rfl] at hf;exact hf
 subst this
 rw [if_pos he]
theorem Bb {l:List ca} {q:Nat} {x:ca} {cs:List bx} {xs:List bz} {a:bz} {c k:bx} {e1 e3 e4:Int} (h:l[q]?=some x) (hn:de x.aJ x.ax x.sum x.time=(a,e1)) (hf1:dv 0 e1=0) (hc:cs[x.aJ.toNat]?=some c)
  (hF:eO c x.sum=(k,e3)) (hf:dv 0 e3=e4) (he:¬e4=0):gh (l.drop q) cs xs=(cs,xs,e4):=by
 rw [pY h,hn,hc]
 have h1:e1=0:=(fJ hf1).2
 have:e3=e4:=by unfold dv at hf;rw [if_pos rfl] at hf;exact hf
 subst this h1
 dsimp only
 rw [if_neg (by simp),hF,if_pos he]
theorem Ba {l:List ca} {q:Nat} {x:ca} {cs:List bx} {xs:List bz} {a:bz} {c k:bx} {e1 e3:Int} (h:l[q]?=some x) (hn:de x.aJ x.ax x.sum x.time=(a,e1)) (hf1:dv 0 e1=0) (hc:cs[x.aJ.toNat]?=some c)
  (hF:eO c x.sum=(k,e3)) (hf:dv 0 e3=0):gh (l.drop q) cs xs=gh (l.drop (q+1)) (cs.set x.aJ.toNat k) (xs++[a]):=by
 rw [pY h,hn,hc]
 have h1:e1=0:=(fJ hf1).2
 have h3:e3=0:=(fJ hf).2
 subst h3 h1
 dsimp only
 rw [if_neg (by simp),hF,if_neg (by simp)]
theorem Db {l:List ca} {q:Nat} {cs:List bx} {xs:List bz} (h:¬q < l.length):gh (l.drop q) cs xs=(cs,xs,0):=by
 rw [List.drop_of_length_le (by omega)];rfl
theorem zg {b:Bk} {s:cw} {l:List ca} {cs:List bx} {xs:List bz} {e:Int} (hd:b.down=true) (h:cW b.bH=(s,l,0)) (hL:gh l b.aj b.aq=(cs,xs,e)) (he:¬e=0):jc b=(b,⟨e,0⟩):=by
 unfold jc
 rw [if_neg (by rw [hd];simp),h]
 dsimp only
 rw [if_neg (by simp),hL]
 dsimp only
 rw [if_pos he]
theorem DL {b:Bk} {s:cw} {l:List ca} {cs:List bx} {xs:List bz} (hd:b.down=true) (h:cW b.bH=(s,l,0)) (hL:gh l b.aj b.aq=(cs,xs,0)):
  jc b=(gS {b with aj:=cs,aq:=xs,bH:=s,down:=false},⟨0,0⟩):=by
 unfold jc
 rw [if_neg (by rw [hd];simp),h]
 dsimp only
 rw [if_neg (by simp),hL]
 dsimp only
 rw [if_neg (by simp)]
theorem cm.Ft {b:Bk} (hb:cm b) {s:cw} {l:List ca} {cs:List bx} {xs:List bz} (h:cW b.bH=(s,l,0)) (hL:gh l b.aj b.aq=(cs,xs,0)):
  cm {b with aj:=cs,aq:=xs,bH:=s,down:=false}:=by
 have:=hb.AZ (by rw [h])
 rw [h] at this;dsimp only at this;rw [hL] at this;exact this
theorem cm.DK {b:Bk} (h:cm b):cm (jc b).1:=by
 unfold jc
 split
 ·exact h
 split
 ·exact h
 split
 ·exact h
 ·exact (h.AZ (by omega)).late
theorem cm.qc {b:Bk} (h:cm b) {t:List an} (ht:t.length<=100):cm {b with aN:=t}:=
 ⟨h.time,h.aj,h.due,h.aq,ht,h.w0,h.w1,h.perm,h.jv,h.k0,h.k1,h.right,h.l0,h.l1,h.p0,h.p1,h.n0,h.n1,h.calm⟩
theorem lQ {t:List an} {y:List (List Int)} (h:t.length<=100):(iP t y).1.length<=100/\(iP t y).2.1.length<=y.length+1:=by
 unfold iP
 split
 ·exact ⟨h,Nat.le_succ _⟩
 ·exact ⟨by simp,by simp⟩
theorem cm.Cb {b:Bk} (h:cm b) (y:List (List Int)) (d:aE):cm (cY b y d).1/\(cY b y d).2.1.length<=y.length+1:=by
 unfold cY
 split
 ·exact ⟨h.load d,Nat.le_succ _⟩
 split
 ·exact ⟨h.asks d,Nat.le_succ _⟩
 split
 ·exact ⟨h.lD d,Nat.le_succ _⟩
 split
 ·exact ⟨h.cK d,Nat.le_succ _⟩
 split
 ·exact ⟨h.send d,Nat.le_succ _⟩
 split
 ·exact ⟨h.lE d,Nat.le_succ _⟩
 split
 ·split
  ·exact ⟨h,Nat.le_succ _⟩
  ·exact ⟨⟨h.time,h.aj,h.due,h.aq,h.aN,h.w0,h.w1,h.perm,h.jv,h.k0,h.k1,h.right,h.l0,h.l1,h.p0,h.p1,h.n0,h.n1,fun h=>by cases h⟩,Nat.le_succ _⟩
 split
 ·exact ⟨h.DK,Nat.le_succ _⟩
 split
 ·exact ⟨h.qc (lQ h.aN).1,(lQ (y:=y) h.aN).2⟩
 split
 ·exact ⟨h.uV d,Nat.le_succ _⟩
 ·exact ⟨h,Nat.le_succ _⟩
theorem cm.once {b:Bk} (h:cm b) (y:List (List Int)) (told:List (Int×Answer)) (cl:Nat) (d:aE):cm (fH b y told cl d).1/\(fH b y told cl d).2.1.length<=y.length+1:=by
 unfold fH
 split
 ·exact ⟨h,Nat.le_succ _⟩
 ·exact h.Cb y d
theorem te:∀ {l:List cO} {i:Int},(ox l i).err=0->∀ p∈l,fi p=0
 |p::l,i,h,x,hx=>by
  unfold ox at h
  split at h
  ·rename_i h1;exact absurd h h1
  ·rename_i h1
   rcases List.mem_cons.1 hx with rfl|hx
   ·omega
   ·exact te h x hx
theorem kG {s:Setup} (h:(ey s).err=0):s.dd.length<=8/\0<=s.ix/\s.ix<=8/\0<=s.cap/\s.cap<=1000000/\∀ p∈s.dd,fi p=0:=by
 unfold ey at h
 split at h
 ·cases h
 split at h
 ·cases h
 ·exact ⟨by omega,by omega,by omega,by omega,by omega,te h⟩
theorem cm.start {s:Setup} (h:(ey s).err=0):cm (ik s):=by
 obtain ⟨h1,h2,h3,h4,h5,h6⟩:=kG h
 have hn:dx s.cap s.dd.length=({cap:=s.cap,used:=List.replicate s.dd.length 0,aX:=[]},0):=pH h1 ⟨h4,h5⟩
 unfold ik
 rw [hn]
 refine ⟨by dsimp only;omega,by simpa using h1,by simp;omega,by simp,by simp,by simp,by simp,by simp,by simp,by simp,by simp,fun c hc=>?_,by simp,by simp,by simp,by simp,by simp,by simp,fun _=>rfl⟩
 obtain ⟨p,hp,rfl⟩:=List.mem_map.1 hc
 exact pa (c:=⟨0,0,p,[]⟩) (by dsimp only;omega) (h6 p hp) (rY.2 ⟨by simp,by simp,by simp⟩)
end Go.Proofs.Ytegepioggeggaaa.Dev
