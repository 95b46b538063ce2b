/- A part of the proof: Bank8, Bank9, PlOk. No condition. -/
import Derived.Test.YtegepioggeggaaaD11
set_option linter.unusedVariables false
set_option linter.unusedSimpArgs false
set_option maxHeartbeats 8000000
set_option maxRecDepth 100000
namespace Go.Proofs.Ytegepioggeggaaa.Dev
open Go.RowKit

theorem Fl (x:Nat->Value) (hx:∀ i,(x i).oneCell'=true) (b:Bk) (d:aS) (ok:ck b) (hdn:b.down=false) (b2:Bk) (a2:Answer) (hr:dD b d=(b2,a2)):cC Try.prog 63 [(.c (.p 0 0 0 0)),(.c (.q (cL d) 0))] [(0,(.box 98 (aT b 1 2 3 4 (.d (.v (x 17))) (.d (.v (x 19)))))),(1,(dO b.an)),(2,(dG b.due)),(3,(dV b.aq)),(4,(cG b.aO))] [0] (.v (.g [cI a2.err,cI a2.ba])) [(0,(.box 98 (aT b2 1 2 3 4 (.d (.v (x 17))) (.d (.v (x 19)))))),(1,(dO b2.an)),(2,(dG b2.due)),(3,(dV b2.aq)),(4,(cG b2.aO))]:=by
 refine cC.mk 214 [(0,(aC (.p 0 0 0 0))),(1,(aC (.q (cL d) 0)))] 5 Try.func63 rfl rfl rfl rfl rfl rfl rfl rfl rfl ?_
 intro W0 F0 T0 pg
 obtain ⟨okt,okc,okd,oka,oky,okw0,okw1,okp,okv,okk0,okk1,okg,okl0,okl1,okp0,okp1,okn0,okn1,okq⟩:=id ok
 refine ad aa 1 rfl ?_
 refine af ?_
 refine af ?_
 rcases Bool.eq_false_or_eq_true (decide (d.n < 0)) with hb1|hb1
 ·
  have hb1':=of_decide_eq_true hb1
  refine bb [0,1,4] [5,0,1,2,3,4] mixed rfl rfl ?_
  refine aA (kn:=[(14,true)]) aa 38 rfl ⟨hb1,trivial⟩ ?_
  refine bB [5,0,1,2,3,4] rfl rfl rfl rfl (by kernel_rfl) ?_
  refine ae ?_
  refine ag rfl (fun _=>?_) (fun hno=>by cases hno)
  refine ad aa 2 rfl ?_
  refine ar ?_
  refine ao ?_
  have hX:dD b d=(b,(⟨6,0⟩:Answer)):=by
    unfold dD;(try simp only [hdn,Bool.false_eq_true,if_false]);(repeat' split)<;>first|rfl|omega|(exfalso;omega)|(simp_all;done)|(simp_all;omega)
  rw [hX] at hr;clear hX
  simp only [Prod.mk.injEq] at hr;obtain ⟨rfl,rfl⟩:=hr
  refine ah aa [0,1,2,3,4,5] 5 rfl rfl rfl rfl rfl rfl ?_ ?_
  all_goals first|rfl|(simp [au,aT,aX];done)|(simp [au,aT,aX];omega)
 have hb1':=of_decide_eq_false hb1
 rcases Bool.eq_false_or_eq_true (decide (d.n>=(↑b.an.length:Int))) with hb3|hb3
 ·
  have hb3':=of_decide_eq_true hb3
  refine bb [0,1,4] [5,0,1,2,3,4] mixed rfl rfl ?_
  refine aA (kn:=[(14,false)]) aa 15 rfl ⟨hb1,trivial⟩ ?_
  refine aU (n':=6) [24,15] [1] rfl rfl (.inl ⟨(al.yes rfl rfl rfl),aH.cast (dp rfl rfl rfl rfl rfl Try.underlying29) rfl⟩) rfl ?_
  refine aA (kn:=[(26,true)]) aa 22 rfl ⟨hb3,trivial⟩ ?_
  refine bB [5,0,1,2,3,4] rfl rfl rfl rfl (by kernel_rfl) ?_
  refine ae ?_
  refine ag rfl (fun _=>?_) (fun hno=>by cases hno)
  refine ad aa 2 rfl ?_
  refine ar ?_
  refine ao ?_
  have hX:dD b d=(b,(⟨6,0⟩:Answer)):=by
    unfold dD;(try simp only [hdn,Bool.false_eq_true,if_false]);(repeat' split)<;>first|rfl|omega|(exfalso;omega)|(simp_all;done)|(simp_all;omega)
  rw [hX] at hr;clear hX
  simp only [Prod.mk.injEq] at hr;obtain ⟨rfl,rfl⟩:=hr
  refine ah aa [0,1,2,3,4,5] 5 rfl rfl rfl rfl rfl rfl ?_ ?_
  all_goals first|rfl|(simp [au,aT,aX];done)|(simp [au,aT,aX];omega)
 have hb3':=of_decide_eq_false hb3
 rcases Bool.eq_false_or_eq_true (decide (d.ax < 0)) with hb5|hb5
 ·
  have hb5':=of_decide_eq_true hb5
  refine bb [0,1,4] [5,0,1,2,3,4] mixed rfl rfl ?_
  refine aA (kn:=[(14,false)]) aa 15 rfl ⟨hb1,trivial⟩ ?_
  refine aU (n':=6) [24,15] [1] rfl rfl (.inl ⟨(al.yes rfl rfl rfl),aH.cast (dp rfl rfl rfl rfl rfl Try.underlying29) rfl⟩) rfl ?_
  refine aA (kn:=[(26,false),(33,true)]) aa 22 rfl ⟨hb3,hb5,trivial⟩ ?_
  refine bB [5,0,1,2,3,4] rfl rfl rfl rfl (by kernel_rfl) ?_
  refine ae ?_
  refine ag rfl (fun _=>?_) (fun hno=>by cases hno)
  refine ad aa 2 rfl ?_
  refine ar ?_
  refine ao ?_
  have hX:dD b d=(b,(⟨6,0⟩:Answer)):=by
    unfold dD;(try simp only [hdn,Bool.false_eq_true,if_false]);(repeat' split)<;>first|rfl|omega|(exfalso;omega)|(simp_all;done)|(simp_all;omega)
  rw [hX] at hr;clear hX
  simp only [Prod.mk.injEq] at hr;obtain ⟨rfl,rfl⟩:=hr
  refine ah aa [0,1,2,3,4,5] 5 rfl rfl rfl rfl rfl rfl ?_ ?_
  all_goals first|rfl|(simp [au,aT,aX];done)|(simp [au,aT,aX];omega)
 have hb5':=of_decide_eq_false hb5
 refine bb [0,1,4] [5,0,1,2,3,4] mixed rfl rfl ?_
 refine aA (kn:=[(14,false)]) aa 15 rfl ⟨hb1,trivial⟩ ?_
 refine aU (n':=6) [24,15] [1] rfl rfl (.inl ⟨(al.yes rfl rfl rfl),aH.cast (dp rfl rfl rfl rfl rfl Try.underlying29) rfl⟩) rfl ?_
 refine aA (kn:=[(26,false),(33,false)]) aa 19 rfl ⟨hb3,hb5,trivial⟩ ?_
 refine aU (n':=6) [44,35] [2] rfl rfl (.inl ⟨(al.yes rfl rfl rfl),aH.cast (dp rfl rfl rfl rfl rfl Try.underlying30) rfl⟩) rfl ?_
 refine aA (kn:=[]) aa 2 rfl trivial ?_
 refine bB [5,0,1,2,3,4] rfl rfl rfl rfl (by kernel_rfl) ?_
 refine ae ?_
 refine ag rfl (fun hc7=>?_) (fun hc7=>?_)
 ·
  have hc7':=of_decide_eq_true hc7
  refine ad aa 2 rfl ?_
  refine ar ?_
  refine ao ?_
  have hX:dD b d=(b,(⟨6,0⟩:Answer)):=by
    unfold dD;(try simp only [hdn,Bool.false_eq_true,if_false]);(repeat' split)<;>first|rfl|omega|(exfalso;omega)|(simp_all;done)|(simp_all;omega)
  rw [hX] at hr;clear hX
  simp only [Prod.mk.injEq] at hr;obtain ⟨rfl,rfl⟩:=hr
  refine ah aa [0,1,2,3,4,5] 5 rfl rfl rfl rfl rfl rfl ?_ ?_
  all_goals first|rfl|(simp [au,aT,aX];done)|(simp [au,aT,aX];omega)
 have hc7':=of_decide_eq_false hc7
 refine aP ?_
 refine af ?_
 refine ad aa 5 rfl ?_
 refine ag rfl (fun hno=>absurd (hdn.symm.trans hno) (by decide)) (fun _=>?_)
 refine aP ?_
 refine af ?_
 obtain ⟨b0,e0,hr0⟩:∃ (b0:bz) (e0:Int),cY d.n d.ax d.sum b.time=(b0,e0):=⟨_,_,rfl⟩
 refine cW [0,1,4] [5,0,1,2,3,4] mixed rfl rfl ?_
 refine bR (kn:=[]) aa 17 rfl trivial ?_
 refine bV (n':=6) [123,127,131,136] [] rfl rfl (.inl ⟨(al.plain rfl),aH.cast (bM 6 (rP d.n d.ax d.sum b.time b0 e0 hr0) ER rfl rfl ⟨⟨_,rfl,.c (.d _)⟩,⟨_,rfl,.c (.d _)⟩,⟨_,rfl,.c (.d _)⟩,⟨_,rfl,.c (.d _)⟩,trivial⟩ ⟨⟨trivial,trivial,trivial,trivial,trivial,trivial,trivial,trivial,trivial⟩,trivial,trivial⟩ trivial rfl rfl rfl rfl) rfl⟩) rfl ?_
 refine bR (n':=7) (kn:=[]) aa 6 rfl trivial ?_
 refine dP [0,1,4,7,8] [6,5,0,1,2,3,4] rfl rfl (by kernel_rfl) ?_
 refine then_ok ?_
 refine af ?_
 refine cq 150 ((decide (e0=0)) && (decide ((↑b.aq.length:Int)=30))) ?_ ?_
 ·
  refine aw ?_
  refine ab aa 3 rfl ?_
  refine bA (t:=142) rfl (fun hb9=>?_) (fun hb9=>?_)
  ·
   have hb9':=of_decide_eq_true hb9
   refine ab aa 5 rfl ?_
   refine dW (al.yes rfl rfl rfl) (dp rfl rfl rfl rfl rfl Try.underlying31) rfl rfl ?_
   refine ab aa 2 rfl ?_
   refine ae ?_
   exact aD.bD 12 rfl rfl (by first|(simp [hb9];done)|(simp_all;done)|(exfalso;simp_all;done)|(simp_all;omega)) rfl
  have hb9':=of_decide_eq_false hb9
  refine ab aa 8 rfl ?_
  refine ae ?_
  exact aD.bD 12 rfl rfl (by first|(simp [hb9];done)|(simp_all;done)|(exfalso;simp_all;done)|(simp_all;omega)) rfl
 refine ag rfl (fun hc10=>?_) (fun hc10=>?_)
 ·
  have hc10':=hc10;try simp only [bm,bL] at hc10'
  refine aw ?_
  refine ab aa 1 rfl ?_
  refine ae ?_
  refine af ?_
  refine az aa 1 rfl ?_
  refine ay (aK rfl rfl rfl (show _=some (Value.bool true) from rfl)) rfl ?_
  refine ae ?_
  refine ag rfl (fun _=>?_) (fun hno=>by cases hno)
  refine ad aa 3 rfl ?_
  refine ar ?_
  refine ao ?_
  have hX:dD b d=(b,(⟨5,0⟩:Answer)):=by
    unfold dD;(try simp only [hdn,Bool.false_eq_true,if_false,hr0]);(repeat' split)<;>first|rfl|omega|(exfalso;omega)|(simp_all;done)|(simp_all;omega)
  rw [hX] at hr;clear hX
  simp only [Prod.mk.injEq] at hr;obtain ⟨rfl,rfl⟩:=hr
  refine ah aa [0,1,2,3,4,5] 5 rfl rfl rfl rfl rfl rfl ?_ ?_
  all_goals first|rfl|(simp [au,aT,aX];done)|(simp [au,aT,aX];omega)
 have hc10':=hc10;try simp only [bm,bL] at hc10'
 refine aP ?_
 refine af ?_
 refine ad aa 2 rfl ?_
 refine ag rfl (fun hc12=>?_) (fun hc12=>?_)
 ·
  have hc12':=of_decide_eq_true hc12
  refine ad aa 3 rfl ?_
  refine ar ?_
  refine ao ?_
  have hX:dD b d=(b,(⟨e0,0⟩:Answer)):=by
    unfold dD;(try simp only [hdn,Bool.false_eq_true,if_false,hr0]);(repeat' split)<;>first|rfl|omega|(exfalso;omega)|(simp_all;done)|(simp_all;omega)
  rw [hX] at hr;clear hX
  simp only [Prod.mk.injEq] at hr;obtain ⟨rfl,rfl⟩:=hr
  refine ah aa [0,1,2,3,4,5] 5 rfl rfl rfl rfl rfl rfl ?_ ?_
  all_goals first|rfl|(simp [au,aT,aX];done)|(simp [au,aT,aX];omega)
 have hc12':=of_decide_eq_false hc12
 refine aP ?_
 refine af ?_
 obtain ⟨x1,hx1⟩:=cp (xs:=b.an) (i:=Int.toNat (d.n)) (by first|omega|(simp;done)|(simp;omega))
 obtain ⟨xr1,e1,hr1⟩:∃ (xr1:bx) (e1:Int),dF x1 d.sum b.time=(xr1,e1):=⟨_,_,rfl⟩
 refine cW [0,1,4,7] [6,5,0,1,2,3,4] mixed rfl rfl ?_
 refine bR (kn:=[]) aa 9 rfl trivial ?_
 refine bV (n':=7) [160,164] [1] rfl rfl (.inl ⟨(al.plain rfl),aH.cast (bq (i:=Int.toNat (d.n)) rfl rfl rfl Try.underlying29 iB (by first|omega|(simp;done)|(simp;omega)) (by first|omega|(simp;done)|(simp;omega))) rfl⟩) rfl ?_
 refine bV (n':=7) [165] [1] rfl rfl (.inl ⟨(al.plain rfl),aH.cast (da rfl rfl rfl Try.underlying61 rfl iB (bw hx1) rfl) rfl⟩) rfl ?_
 refine bR (kn:=[]) aa 9 rfl trivial ?_
 refine bV (n':=7) [166,170,175] [] rfl rfl (.inl ⟨(al.plain rfl),aH.cast (bM 7 (Fn.frozen (av':=(.t [(.g [(cI xr1.bf),(cI xr1.held),(cI xr1.bY.cH),(cI xr1.bY.count),(cI xr1.bY.sum),(ft xr1.cD)]),(.c (cI e1))])) (vX x1 d.sum b.time xr1 e1 hr1) ⟨⟨.inl ⟨_,rfl,rfl⟩,.inl ⟨_,rfl,rfl⟩,.inl ⟨_,rfl,rfl⟩,.inl ⟨_,rfl,rfl⟩,.inl ⟨_,rfl,rfl⟩,.inr ⟨_,_,_,_,_,rfl,rfl,rfl,by simp⟩,trivial⟩,.inl ⟨_,rfl,rfl⟩,trivial⟩) GY rfl rfl ⟨⟨_,rfl,.g ⟨.d _,.d _,.d _,.d _,.d _,.d _,trivial⟩⟩,⟨_,rfl,.c (.d _)⟩,⟨_,rfl,.c (.d _)⟩,trivial⟩ ⟨⟨trivial,trivial,trivial,trivial,trivial,trivial,trivial⟩,trivial,trivial⟩ trivial rfl rfl rfl rfl) rfl⟩) rfl ?_
 refine bR (n':=8) (kn:=[]) aa 6 rfl trivial ?_
 refine dP [0,1,4,7,9,8] [7,6,5,0,1,2,3,4] rfl rfl (by kernel_rfl) ?_
 refine then_ok ?_
 refine af ?_
 refine ad aa 2 rfl ?_
 refine ag rfl (fun hc13=>?_) (fun hc13=>?_)
 ·
  have hc13':=of_decide_eq_true hc13
  refine ad aa 3 rfl ?_
  refine ar ?_
  refine ao ?_
  have hX:dD b d=(b,(⟨e1,0⟩:Answer)):=by
    unfold dD;(try simp only [hdn,Bool.false_eq_true,if_false,hr0,hr1,hx1]);(repeat' split)<;>first|rfl|omega|(exfalso;omega)|(simp_all;done)|(simp_all;omega)
  rw [hX] at hr;clear hX
  simp only [Prod.mk.injEq] at hr;obtain ⟨rfl,rfl⟩:=hr
  refine ah aa [0,1,2,3,4,5] 5 rfl rfl rfl rfl rfl rfl ?_ ?_
  all_goals first|rfl|(simp [au,aT,aX];done)|(simp [au,aT,aX];omega)
 have hc13':=of_decide_eq_false hc13
 refine aP ?_
 refine af ?_
 refine bb [0,1,4,7,9] [7,6,5,0,1,2,3,4] mixed rfl rfl ?_
 refine aA (kn:=[]) aa 10 rfl trivial ?_
 refine aU (n':=8) [187,191] [1] rfl rfl (.inl ⟨(al.plain rfl),aH.cast (bq (i:=Int.toNat (d.n)) rfl rfl rfl Try.underlying29 iB (by first|omega|(simp;done)|(simp;omega)) (by first|omega|(simp;done)|(simp;omega))) rfl⟩) rfl ?_
 refine bB [7,6,5,0,1,2,3,4] rfl rfl rfl rfl (by kernel_rfl) ?_
 refine gf [7,6,5,0,1,2,3,4] (dM (ds:=[(dI xr1.bf),(dI xr1.held),(dI xr1.bY.cH),(dI xr1.bY.count),(dI xr1.bY.sum),(Fc xr1.cD)]) rfl rfl rfl rfl rfl iB rfl (Nat.le_of_ble_eq_true rfl) (bw hx1) rfl (eL (x':=xr1) rfl)) rfl ?_
 refine ae ?_
 refine fx (k:=0) (q:=2) (c':=(.s 1 0 6 (((b.an).set (Int.toNat (d.n)) xr1).length))) rfl rfl (by first|rfl|(simp;done)|(congr 1;omega)) rfl ?_
 refine af ?_
 refine bb [0,4,7] [6,5,0,1,2,3,4] mixed rfl rfl ?_
 refine aA (kn:=[]) aa 7 rfl trivial ?_
 refine aU (n':=9) [200] [] rfl rfl (.inl ⟨(al.plain rfl),aH.cast (dC (ys:=[(0,(.g [(cI b0.aJ),(cI b0.ax),(cI b0.sum),(cI b0.captured),(cI b0.bu),(cI b0.bh),(cI b0.cM),(cB b0.shut)]))]) (rows:=([b0]).map iS) 8 se rfl (by decide) ⟨⟨rfl,rfl⟩,trivial⟩ rfl rfl rfl rfl) rfl⟩) rfl ?_
 refine aU (n':=10) [199,201] [8,3] rfl rfl (.inl ⟨(al.plain rfl),aH.cast (db (m:=1) (N:=b.aq.length+1) (k2:=9) (ys:=([b0]).map iS) se rfl rfl rfl rfl rfl rfl (by first|omega|(simp;done)|(simp;omega)) rfl (.s rfl (by first|omega|(simp;done)|(simp;omega))) (by first|omega|(simp;done)|(simp;omega)) (by first|omega|(simp;done)|(simp;omega)) eT (by decide) (by first|omega|(simp;done)|(simp;omega)) (by first|omega|(simp;done)|(simp;omega))) rfl⟩) rfl ?_
 refine aA (kn:=[]) aa 3 rfl trivial ?_
 refine bB [9,6,5,0,1,2,4] rfl rfl rfl rfl (by kernel_rfl) ?_
 refine ab aa 1 rfl ?_
 refine ae ?_
 refine fx (k:=0) (q:=4) (c':=(.s 9 0 8 ((b.aq++([b0])).length))) rfl rfl (by first|rfl|(simp;done)|(congr 1;omega)) rfl ?_
 refine az aa 5 rfl ?_
 refine ay (dp rfl rfl rfl rfl rfl Try.underlying31) rfl ?_
 refine ay (aK rfl rfl rfl (aF (by first|omega|(simp;done)|(simp;omega)))) rfl ?_
 refine ab aa 2 rfl ?_
 refine ae ?_
 refine ar ?_
 have hX:dD b d=((⟨b.time,b.down,(b.an).set (Int.toNat (d.n)) xr1,b.due,b.aq++([b0]),b.s0,b.s1,b.n0,b.n1,b.w0,b.w1,b.bG,b.aO,b.book⟩:Bk),(⟨0,(↑((b.aq++([b0])).length):Int) - 1⟩:Answer)):=by
   unfold dD;(try simp only [hdn,Bool.false_eq_true,if_false,hr0,hr1,hx1]);(repeat' split)<;>first|rfl|omega|(exfalso;omega)|(simp_all;done)|(simp_all;omega)
 rw [hX] at hr;clear hX
 simp only [Prod.mk.injEq] at hr;obtain ⟨rfl,rfl⟩:=hr
 refine ah aa [0,1,2,9,4,5] 5 rfl rfl rfl rfl rfl rfl ?_ ?_
 all_goals first|rfl|(simp [au,aT,aX];done)|(simp [au,aT,aX];omega)
theorem Fm (x:Nat->Value) (hx:∀ i,(x i).oneCell'=true) (b:Bk) (d:aS) (ok:ck b) (hdn:b.down=true) (b2:Bk) (a2:Answer) (hr:dD b d=(b2,a2)):cC Try.prog 63 [(.c (.p 0 0 0 0)),(.c (.q (cL d) 0))] [(0,(.box 98 (aT b 1 2 3 4 (.d (.v (x 17))) (.d (.v (x 19)))))),(1,(dO b.an)),(2,(dG b.due)),(3,(dV b.aq)),(4,(cG b.aO))] [0] (.v (.g [cI a2.err,cI a2.ba])) [(0,(.box 98 (aT b2 1 2 3 4 (.d (.v (x 17))) (.d (.v (x 19)))))),(1,(dO b2.an)),(2,(dG b2.due)),(3,(dV b2.aq)),(4,(cG b2.aO))]:=by
 refine cC.mk 214 [(0,(aC (.p 0 0 0 0))),(1,(aC (.q (cL d) 0)))] 5 Try.func63 rfl rfl rfl rfl rfl rfl rfl rfl rfl ?_
 intro W0 F0 T0 pg
 obtain ⟨okt,okc,okd,oka,oky,okw0,okw1,okp,okv,okk0,okk1,okg,okl0,okl1,okp0,okp1,okn0,okn1,okq⟩:=id ok
 refine ad aa 1 rfl ?_
 refine af ?_
 refine af ?_
 rcases Bool.eq_false_or_eq_true (decide (d.n < 0)) with hb1|hb1
 ·
  have hb1':=of_decide_eq_true hb1
  refine bb [0,1,4] [5,0,1,2,3,4] mixed rfl rfl ?_
  refine aA (kn:=[(14,true)]) aa 38 rfl ⟨hb1,trivial⟩ ?_
  refine bB [5,0,1,2,3,4] rfl rfl rfl rfl (by kernel_rfl) ?_
  refine ae ?_
  refine ag rfl (fun _=>?_) (fun hno=>by cases hno)
  refine ad aa 2 rfl ?_
  refine ar ?_
  refine ao ?_
  have hX:dD b d=(b,(⟨6,0⟩:Answer)):=by
    unfold dD gz;(try simp only [hdn,if_true]);(repeat' split)<;>first|rfl|omega|(exfalso;omega)|(simp_all;done)|(simp_all;omega)
  rw [hX] at hr;clear hX
  simp only [Prod.mk.injEq] at hr;obtain ⟨rfl,rfl⟩:=hr
  refine ah aa [0,1,2,3,4,5] 5 rfl rfl rfl rfl rfl rfl ?_ ?_
  all_goals first|rfl|(simp [au,aT,aX];done)|(simp [au,aT,aX];omega)
 have hb1':=of_decide_eq_false hb1
 rcases Bool.eq_false_or_eq_true (decide (d.n>=(↑b.an.length:Int))) with hb3|hb3
 ·
  have hb3':=of_decide_eq_true hb3
  refine bb [0,1,4] [5,0,1,2,3,4] mixed rfl rfl ?_
  refine aA (kn:=[(14,false)]) aa 15 rfl ⟨hb1,trivial⟩ ?_
  refine aU (n':=6) [24,15] [1] rfl rfl (.inl ⟨(al.yes rfl rfl rfl),aH.cast (dp rfl rfl rfl rfl rfl Try.underlying29) rfl⟩) rfl ?_
  refine aA (kn:=[(26,true)]) aa 22 rfl ⟨hb3,trivial⟩ ?_
  refine bB [5,0,1,2,3,4] rfl rfl rfl rfl (by kernel_rfl) ?_
  refine ae ?_
  refine ag rfl (fun _=>?_) (fun hno=>by cases hno)
  refine ad aa 2 rfl ?_
  refine ar ?_
  refine ao ?_
  have hX:dD b d=(b,(⟨6,0⟩:Answer)):=by
    unfold dD gz;(try simp only [hdn,if_true]);(repeat' split)<;>first|rfl|omega|(exfalso;omega)|(simp_all;done)|(simp_all;omega)
  rw [hX] at hr;clear hX
  simp only [Prod.mk.injEq] at hr;obtain ⟨rfl,rfl⟩:=hr
  refine ah aa [0,1,2,3,4,5] 5 rfl rfl rfl rfl rfl rfl ?_ ?_
  all_goals first|rfl|(simp [au,aT,aX];done)|(simp [au,aT,aX];omega)
 have hb3':=of_decide_eq_false hb3
 rcases Bool.eq_false_or_eq_true (decide (d.ax < 0)) with hb5|hb5
 ·
  have hb5':=of_decide_eq_true hb5
  refine bb [0,1,4] [5,0,1,2,3,4] mixed rfl rfl ?_
  refine aA (kn:=[(14,false)]) aa 15 rfl ⟨hb1,trivial⟩ ?_
  refine aU (n':=6) [24,15] [1] rfl rfl (.inl ⟨(al.yes rfl rfl rfl),aH.cast (dp rfl rfl rfl rfl rfl Try.underlying29) rfl⟩) rfl ?_
  refine aA (kn:=[(26,false),(33,true)]) aa 22 rfl ⟨hb3,hb5,trivial⟩ ?_
  refine bB [5,0,1,2,3,4] rfl rfl rfl rfl (by kernel_rfl) ?_
  refine ae ?_
  refine ag rfl (fun _=>?_) (fun hno=>by cases hno)
  refine ad aa 2 rfl ?_
  refine ar ?_
  refine ao ?_
  have hX:dD b d=(b,(⟨6,0⟩:Answer)):=by
    unfold dD gz;(try simp only [hdn,if_true]);(repeat' split)<;>first|rfl|omega|(exfalso;omega)|(simp_all;done)|(simp_all;omega)
  rw [hX] at hr;clear hX
  simp only [Prod.mk.injEq] at hr;obtain ⟨rfl,rfl⟩:=hr
  refine ah aa [0,1,2,3,4,5] 5 rfl rfl rfl rfl rfl rfl ?_ ?_
  all_goals first|rfl|(simp [au,aT,aX];done)|(simp [au,aT,aX];omega)
 have hb5':=of_decide_eq_false hb5
 refine bb [0,1,4] [5,0,1,2,3,4] mixed rfl rfl ?_
 refine aA (kn:=[(14,false)]) aa 15 rfl ⟨hb1,trivial⟩ ?_
 refine aU (n':=6) [24,15] [1] rfl rfl (.inl ⟨(al.yes rfl rfl rfl),aH.cast (dp rfl rfl rfl rfl rfl Try.underlying29) rfl⟩) rfl ?_
 refine aA (kn:=[(26,false),(33,false)]) aa 19 rfl ⟨hb3,hb5,trivial⟩ ?_
 refine aU (n':=6) [44,35] [2] rfl rfl (.inl ⟨(al.yes rfl rfl rfl),aH.cast (dp rfl rfl rfl rfl rfl Try.underlying30) rfl⟩) rfl ?_
 refine aA (kn:=[]) aa 2 rfl trivial ?_
 refine bB [5,0,1,2,3,4] rfl rfl rfl rfl (by kernel_rfl) ?_
 refine ae ?_
 refine ag rfl (fun hc7=>?_) (fun hc7=>?_)
 ·
  have hc7':=of_decide_eq_true hc7
  refine ad aa 2 rfl ?_
  refine ar ?_
  refine ao ?_
  have hX:dD b d=(b,(⟨6,0⟩:Answer)):=by
    unfold dD gz;(try simp only [hdn,if_true]);(repeat' split)<;>first|rfl|omega|(exfalso;omega)|(simp_all;done)|(simp_all;omega)
  rw [hX] at hr;clear hX
  simp only [Prod.mk.injEq] at hr;obtain ⟨rfl,rfl⟩:=hr
  refine ah aa [0,1,2,3,4,5] 5 rfl rfl rfl rfl rfl rfl ?_ ?_
  all_goals first|rfl|(simp [au,aT,aX];done)|(simp [au,aT,aX];omega)
 have hc7':=of_decide_eq_false hc7
 refine aP ?_
 refine af ?_
 refine ad aa 5 rfl ?_
 refine ag rfl (fun _=>?_) (fun hno=>absurd (hdn.symm.trans hno) (by decide))
 refine af ?_
 obtain ⟨xr0,e0,hr0⟩:∃ (xr0:cu) (e0:Int),ch b.bG (⟨d.n,d.ax,d.sum,b.time⟩:ca)=(xr0,e0):=⟨_,_,rfl⟩
 have hgl:=ue b.bG ((⟨d.n,d.ax,d.sum,b.time⟩:ca))
 rw [hr0] at hgl;dsimp only at hgl
 refine cW [0,1,4] [5,0,1,2,3,4] mixed rfl rfl ?_
 refine bR (kn:=[]) aa 23 rfl trivial ?_
 refine bV (n':=6) [59,77] [] rfl rfl (.inl ⟨(al.plain rfl),aH.cast (bM 6 (Fn.frozen (av':=(.t [(.g [(cI xr0.cap),(fV xr0.used),(gR xr0.aZ)]),(.c (cI e0))])) (vQ b.bG (⟨d.n,d.ax,d.sum,b.time⟩:ca) xr0 e0 hr0) ⟨⟨.inl ⟨_,rfl,rfl⟩,.inr ⟨_,_,_,_,_,rfl,rfl,rfl,by simp⟩,.inr ⟨_,_,_,_,_,rfl,rfl,rfl,by simp⟩,trivial⟩,.inl ⟨_,rfl,rfl⟩,trivial⟩) GZ rfl rfl ⟨⟨_,rfl,.g ⟨.d _,.d _,.d _,trivial⟩⟩,⟨_,rfl,.g ⟨.d _,.d _,.d _,.d _,trivial⟩⟩,trivial⟩ ⟨⟨trivial,trivial,trivial,trivial⟩,trivial,trivial⟩ trivial rfl rfl rfl rfl) rfl⟩) rfl ?_
 refine bR (n':=7) (kn:=[]) aa 6 rfl trivial ?_
 refine dP [0,1,4,5,6] [6,5,0,1,2,3,4] rfl rfl (by kernel_rfl) ?_
 refine then_ok ?_
 refine af ?_
 refine ad aa 2 rfl ?_
 refine ag rfl (fun hc9=>?_) (fun hc9=>?_)
 ·
  have hc9':=of_decide_eq_true hc9
  refine aw ?_
  refine ab aa 1 rfl ?_
  refine ae ?_
  refine af ?_
  refine af ?_
  refine bb [0,1,4,5,6] [6,5,0,1,2,3,4] mixed rfl rfl ?_
  refine aA (kn:=[(84,false)]) aa 15 rfl ⟨rfl,trivial⟩ ?_
  refine bB [6,5,0,1,2,3,4] rfl rfl rfl rfl (by kernel_rfl) ?_
  refine ae ?_
  refine ag rfl (fun hno=>by cases hno) (fun _=>?_)
  refine aP ?_
  refine af ?_
  refine az aa 1 rfl ?_
  refine ay (aK rfl rfl rfl (show _=some (Value.bool true) from rfl)) rfl ?_
  refine ae ?_
  refine ag rfl (fun _=>?_) (fun hno=>by cases hno)
  refine ad aa 3 rfl ?_
  refine ar ?_
  refine ao ?_
  refine ao ?_
  have hX:dD b d=(b,(⟨12,0⟩:Answer)):=by
    unfold dD gz;(try simp only [hdn,if_true,hr0]);(repeat' split)<;>first|rfl|omega|(exfalso;omega)|(simp_all;done)|(simp_all;omega)
  rw [hX] at hr;clear hX
  simp only [Prod.mk.injEq] at hr;obtain ⟨rfl,rfl⟩:=hr
  refine ah aa [0,1,2,3,4,5] 5 rfl rfl rfl rfl rfl rfl ?_ ?_
  all_goals first|rfl|(simp [au,aT,aX];done)|(simp [au,aT,aX];omega)
 have hc9':=of_decide_eq_false hc9
 refine aP ?_
 refine af ?_
 refine af ?_
 rcases Bool.eq_false_or_eq_true (decide (e0=0)) with hb12|hb12
 ·
  have hb12':=of_decide_eq_true hb12
  refine bb [0,1,4,5,6] [6,5,0,1,2,3,4] mixed rfl rfl ?_
  refine aA (kn:=[(84,true)]) aa 8 rfl ⟨hb12,trivial⟩ ?_
  refine aU (n':=7) [90,85] [3] rfl rfl (.inl ⟨(al.yes rfl rfl rfl),aH.cast (dp rfl rfl rfl rfl rfl Try.underlying31) rfl⟩) rfl ?_
  refine aA (kn:=[]) aa 2 rfl trivial ?_
  refine aU (n':=7) [93,85] [] rfl rfl (.inl ⟨(al.yes rfl rfl rfl),aH.cast (cO rfl rfl rfl rfl rfl Try.underlying39) rfl⟩) rfl ?_
  refine aU (n':=7) [91,94,85] [] rfl rfl (.inl ⟨(al.yes rfl rfl rfl),aH.cast (aK rfl rfl rfl (aF (by first|omega|(simp;done)|(simp;omega)))) rfl⟩) rfl ?_
  refine aA (kn:=[]) aa 2 rfl trivial ?_
  refine bB [6,5,0,1,2,3,4] rfl rfl rfl rfl (by kernel_rfl) ?_
  refine ae ?_
  refine ag rfl (fun hc13=>?_) (fun hc13=>?_)
  ·
   have hc13':=of_decide_eq_true hc13
   refine aw ?_
   refine ab aa 1 rfl ?_
   refine ae ?_
   refine af ?_
   refine az aa 1 rfl ?_
   refine ay (aK rfl rfl rfl (show _=some (Value.bool true) from rfl)) rfl ?_
   refine ae ?_
   refine ag rfl (fun _=>?_) (fun hno=>by cases hno)
   refine ad aa 3 rfl ?_
   refine ar ?_
   refine ao ?_
   refine ao ?_
   have hX:dD b d=(b,(⟨5,0⟩:Answer)):=by
     unfold dD gz;(try simp only [hdn,if_true,hr0]);(repeat' split)<;>first|rfl|omega|(exfalso;omega)|(simp_all;done)|(simp_all;omega)
   rw [hX] at hr;clear hX
   simp only [Prod.mk.injEq] at hr;obtain ⟨rfl,rfl⟩:=hr
   refine ah aa [0,1,2,3,4,5] 5 rfl rfl rfl rfl rfl rfl ?_ ?_
   all_goals first|rfl|(simp [au,aT,aX];done)|(simp [au,aT,aX];omega)
  have hc13':=of_decide_eq_false hc13
  refine aP ?_
  refine af ?_
  refine ad aa 2 rfl ?_
  refine ag rfl (fun hc15=>?_) (fun hc15=>?_)
  ·
   have hc15':=of_decide_eq_true hc15
   refine ad aa 3 rfl ?_
   refine ar ?_
   refine ao ?_
   refine ao ?_
   have hX:dD b d=(b,(⟨e0,0⟩:Answer)):=by
     unfold dD gz;(try simp only [hdn,if_true,hr0]);(repeat' split)<;>first|rfl|omega|(exfalso;omega)|(simp_all;done)|(simp_all;omega)
   rw [hX] at hr;clear hX
   simp only [Prod.mk.injEq] at hr;obtain ⟨rfl,rfl⟩:=hr
   refine ah aa [0,1,2,3,4,5] 5 rfl rfl rfl rfl rfl rfl ?_ ?_
   all_goals first|rfl|(simp [au,aT,aX];done)|(simp [au,aT,aX];omega)
  have hc15':=of_decide_eq_false hc15
  refine aP ?_
  refine ad aa 6 rfl ?_
  refine af ?_
  refine bb [0,1,4,5] [6,5,0,1,2,3,4] mixed rfl rfl ?_
  refine aA (kn:=[]) aa 5 rfl trivial ?_
  refine aU (n':=7) [111] [3] rfl rfl (.inl ⟨(al.plain rfl),aH.cast (dp rfl rfl rfl rfl rfl Try.underlying31) rfl⟩) rfl ?_
  refine aA (kn:=[]) aa 2 rfl trivial ?_
  refine aU (n':=7) [114] [] rfl rfl (.inl ⟨(al.plain rfl),aH.cast (cO rfl rfl rfl rfl rfl Try.underlying39) rfl⟩) rfl ?_
  refine aU (n':=7) [112,115] [] rfl rfl (.inl ⟨(al.plain rfl),aH.cast (aK rfl rfl rfl (aF (by first|omega|(simp;done)|(simp;omega)))) rfl⟩) rfl ?_
  refine aU (n':=7) [116] [] rfl rfl (.inl ⟨(al.plain rfl),aH.cast (aK rfl rfl rfl (aF (by first|omega|(simp;done)|(simp;omega)))) rfl⟩) rfl ?_
  refine aA (kn:=[]) aa 1 rfl trivial ?_
  refine bB [6,5,0,1,2,3,4] rfl rfl rfl rfl (by kernel_rfl) ?_
  refine ab aa 1 rfl ?_
  refine ae ?_
  refine ar ?_
  refine ao ?_
  have hX:dD b d=((⟨b.time,b.down,b.an,b.due,b.aq,b.s0,b.s1,b.n0,b.n1,b.w0,b.w1,xr0,b.aO,b.book⟩:Bk),(⟨0,((↑b.aq.length:Int)+(↑xr0.aZ.length:Int)) - 1⟩:Answer)):=by
    unfold dD gz;(try simp only [hdn,if_true,hr0]);(repeat' split)<;>first|rfl|omega|(exfalso;omega)|(simp_all;done)|(simp_all;omega)
  rw [hX] at hr;clear hX
  simp only [Prod.mk.injEq] at hr;obtain ⟨rfl,rfl⟩:=hr
  refine ah aa [0,1,2,3,4,5] 5 rfl rfl rfl rfl rfl rfl ?_ ?_
  all_goals first|rfl|(simp [au,aT,aX];done)|(simp [au,aT,aX];omega)
 have hb12':=of_decide_eq_false hb12
 refine bb [0,1,4,5,6] [6,5,0,1,2,3,4] mixed rfl rfl ?_
 refine aA (kn:=[(84,false)]) aa 15 rfl ⟨hb12,trivial⟩ ?_
 refine bB [6,5,0,1,2,3,4] rfl rfl rfl rfl (by kernel_rfl) ?_
 refine ae ?_
 refine ag rfl (fun hno=>by cases hno) (fun _=>?_)
 refine aP ?_
 refine af ?_
 refine ad aa 2 rfl ?_
 refine ag rfl (fun hc17=>?_) (fun hc17=>?_)
 ·
  have hc17':=of_decide_eq_true hc17
  refine ad aa 3 rfl ?_
  refine ar ?_
  refine ao ?_
  refine ao ?_
  have hX:dD b d=(b,(⟨e0,0⟩:Answer)):=by
    unfold dD gz;(try simp only [hdn,if_true,hr0]);(repeat' split)<;>first|rfl|omega|(exfalso;omega)|(simp_all;done)|(simp_all;omega)
  rw [hX] at hr;clear hX
  simp only [Prod.mk.injEq] at hr;obtain ⟨rfl,rfl⟩:=hr
  refine ah aa [0,1,2,3,4,5] 5 rfl rfl rfl rfl rfl rfl ?_ ?_
  all_goals first|rfl|(simp [au,aT,aX];done)|(simp [au,aT,aX];omega)
 have hc17':=of_decide_eq_false hc17
 refine aP ?_
 refine ad aa 6 rfl ?_
 refine af ?_
 refine bb [0,1,4,5] [6,5,0,1,2,3,4] mixed rfl rfl ?_
 refine aA (kn:=[]) aa 5 rfl trivial ?_
 refine aU (n':=7) [111] [3] rfl rfl (.inl ⟨(al.plain rfl),aH.cast (dp rfl rfl rfl rfl rfl Try.underlying31) rfl⟩) rfl ?_
 refine aA (kn:=[]) aa 2 rfl trivial ?_
 refine aU (n':=7) [114] [] rfl rfl (.inl ⟨(al.plain rfl),aH.cast (cO rfl rfl rfl rfl rfl Try.underlying39) rfl⟩) rfl ?_
 refine aU (n':=7) [112,115] [] rfl rfl (.inl ⟨(al.plain rfl),aH.cast (aK rfl rfl rfl (aF (by first|omega|(simp;done)|(simp;omega)))) rfl⟩) rfl ?_
 refine aU (n':=7) [116] [] rfl rfl (.inl ⟨(al.plain rfl),aH.cast (aK rfl rfl rfl (aF (by first|omega|(simp;done)|(simp;omega)))) rfl⟩) rfl ?_
 refine aA (kn:=[]) aa 1 rfl trivial ?_
 refine bB [6,5,0,1,2,3,4] rfl rfl rfl rfl (by kernel_rfl) ?_
 refine ab aa 1 rfl ?_
 refine ae ?_
 refine ar ?_
 refine ao ?_
 have hX:dD b d=((⟨b.time,b.down,b.an,b.due,b.aq,b.s0,b.s1,b.n0,b.n1,b.w0,b.w1,xr0,b.aO,b.book⟩:Bk),(⟨0,((↑b.aq.length:Int)+(↑xr0.aZ.length:Int)) - 1⟩:Answer)):=by
   unfold dD gz;(try simp only [hdn,if_true,hr0]);(repeat' split)<;>first|rfl|omega|(exfalso;omega)|(simp_all;done)|(simp_all;omega)
 rw [hX] at hr;clear hX
 simp only [Prod.mk.injEq] at hr;obtain ⟨rfl,rfl⟩:=hr
 refine ah aa [0,1,2,3,4,5] 5 rfl rfl rfl rfl rfl rfl ?_ ?_
 all_goals first|rfl|(simp [au,aT,aX];done)|(simp [au,aT,aX];omega)
theorem Gl (x:Nat->Value) (hx:∀ i,(x i).oneCell'=true) (b:Bk) (d:aS) (ok:ck b) (b2:Bk) (a2:Answer) (hr:dD b d=(b2,a2)):cC Try.prog 63 [(.c (.p 0 0 0 0)),(.c (.q (cL d) 0))] [(0,(.box 98 (aT b 1 2 3 4 (.d (.v (x 17))) (.d (.v (x 19)))))),(1,(dO b.an)),(2,(dG b.due)),(3,(dV b.aq)),(4,(cG b.aO))] [0] (.v (.g [cI a2.err,cI a2.ba])) [(0,(.box 98 (aT b2 1 2 3 4 (.d (.v (x 17))) (.d (.v (x 19)))))),(1,(dO b2.an)),(2,(dG b2.due)),(3,(dV b2.aq)),(4,(cG b2.aO))]:=by
  cases hdn:b.down
  ·exact Fl x hx b d ok hdn b2 a2 hr
  ·exact Fm x hx b d ok hdn b2 a2 hr

theorem Ay (x:Nat->Value) (hx:∀ i,(x i).oneCell'=true) (b:Bk) (d:aS) (ok:ck b) (hdn:b.down=false) (b2:Bk) (a2:Answer) (hr:dv b d=(b2,a2)):cC Try.prog 64 [(.c (.p 0 0 0 0)),(.c (.q (cL d) 0))] [(0,(.box 98 (aT b 1 2 3 4 (.d (.v (x 17))) (.d (.v (x 19)))))),(1,(dO b.an)),(2,(dG b.due)),(3,(dV b.aq)),(4,(cG b.aO))] [0] (.v (.g [cI a2.err,cI a2.ba])) [(0,(.box 98 (aT b2 1 2 3 4 (.d (.v (x 17))) (.d (.v (x 19)))))),(1,(dO b2.an)),(2,(dG b2.due)),(3,(dV b2.aq)),(4,(cG b2.aO))]:=by
 refine cC.mk 246 [(0,(aC (.p 0 0 0 0))),(1,(aC (.q (cL d) 0)))] 5 Try.func64 rfl rfl rfl rfl rfl rfl rfl rfl rfl ?_
 intro W0 F0 T0 pg
 obtain ⟨okt,okc,okd,oka,oky,okw0,okw1,okp,okv,okk0,okk1,okg,okl0,okl1,okp0,okp1,okn0,okn1,okq⟩:=id ok
 refine ad aa 1 rfl ?_
 refine af ?_
 refine ad aa 5 rfl ?_
 refine ag rfl (fun hno=>absurd (hdn.symm.trans hno) (by decide)) (fun _=>?_)
 refine aP ?_
 refine af ?_
 refine af ?_
 rcases Bool.eq_false_or_eq_true (decide (d.n < 0)) with hb2|hb2
 ·
  have hb2':=of_decide_eq_true hb2
  refine bb [0,1,4] [5,0,1,2,3,4] mixed rfl rfl ?_
  refine aA (kn:=[(22,true)]) aa 18 rfl ⟨hb2,trivial⟩ ?_
  refine bB [5,0,1,2,3,4] rfl rfl rfl rfl (by kernel_rfl) ?_
  refine ae ?_
  refine ag rfl (fun _=>?_) (fun hno=>by cases hno)
  refine ad aa 2 rfl ?_
  refine ar ?_
  refine ao ?_
  have hX:dv b d=(b,(⟨6,0⟩:Answer)):=by
    unfold dv;simp only [hdn,Bool.false_eq_true,if_false];(repeat' split)<;>first|rfl|omega|(exfalso;omega)|(simp_all;done)|(simp_all;omega)
  rw [hX] at hr;clear hX
  simp only [Prod.mk.injEq] at hr;obtain ⟨rfl,rfl⟩:=hr
  refine ah aa [0,1,2,3,4,5] 5 rfl rfl rfl rfl rfl rfl ?_ ?_
  all_goals first|rfl|(simp [au,aT,aX];done)|(simp [au,aT,aX];omega)
 have hb2':=of_decide_eq_false hb2
 refine bb [0,1,4] [5,0,1,2,3,4] mixed rfl rfl ?_
 refine aA (kn:=[(22,false)]) aa 15 rfl ⟨hb2,trivial⟩ ?_
 refine aU (n':=6) [32,23] [3] rfl rfl (.inl ⟨(al.yes rfl rfl rfl),aH.cast (dp rfl rfl rfl rfl rfl Try.underlying31) rfl⟩) rfl ?_
 refine aA (kn:=[]) aa 2 rfl trivial ?_
 refine bB [5,0,1,2,3,4] rfl rfl rfl rfl (by kernel_rfl) ?_
 refine ae ?_
 refine ag rfl (fun hc4=>?_) (fun hc4=>?_)
 ·
  have hc4':=of_decide_eq_true hc4
  refine ad aa 2 rfl ?_
  refine ar ?_
  refine ao ?_
  have hX:dv b d=(b,(⟨6,0⟩:Answer)):=by
    unfold dv;simp only [hdn,Bool.false_eq_true,if_false];(repeat' split)<;>first|rfl|omega|(exfalso;omega)|(simp_all;done)|(simp_all;omega)
  rw [hX] at hr;clear hX
  simp only [Prod.mk.injEq] at hr;obtain ⟨rfl,rfl⟩:=hr
  refine ah aa [0,1,2,3,4,5] 5 rfl rfl rfl rfl rfl rfl ?_ ?_
  all_goals first|rfl|(simp [au,aT,aX];done)|(simp [au,aT,aX];omega)
 have hc4':=of_decide_eq_false hc4
 refine aP ?_
 refine af ?_
 obtain ⟨x1,hx1⟩:=cp (xs:=b.aq) (i:=Int.toNat (d.n)) (by first|omega|(simp;done)|(simp;omega))
 refine bb [0,1,4] [5,0,1,2,3,4] mixed rfl rfl ?_
 refine aA (kn:=[]) aa 9 rfl trivial ?_
 refine aU (n':=6) [41,45] [3] rfl rfl (.inl ⟨(al.plain rfl),aH.cast (bq (i:=Int.toNat (d.n)) rfl rfl rfl Try.underlying31 ml (by first|omega|(simp;done)|(simp;omega)) (by first|omega|(simp;done)|(simp;omega))) rfl⟩) rfl ?_
 refine aU (n':=6) [46] [3] rfl rfl (.inl ⟨(al.plain rfl),aH.cast (da rfl rfl rfl Try.underlying67 rfl ml (bw hx1) rfl) rfl⟩) rfl ?_
 refine aA (n':=7) (kn:=[]) aa 1 rfl trivial ?_
 refine bB [6,5,0,1,2,3,4] rfl rfl rfl rfl (by kernel_rfl) ?_
 refine ab aa 1 rfl ?_
 refine ae ?_
 refine af ?_
 obtain ⟨b0,e0,hr0⟩:∃ (b0:bz) (e0:Int),bW x1 d.move d.sum=(b0,e0):=⟨_,_,rfl⟩
 refine cW [0,1,4,5] [6,5,0,1,2,3,4] mixed rfl rfl ?_
 refine bR (kn:=[]) aa 9 rfl trivial ?_
 refine bV (n':=7) [49,53,57] [] rfl rfl (.inl ⟨(al.plain rfl),aH.cast (bM 7 (wW x1 d.move d.sum b0 e0 hr0) GX rfl rfl ⟨⟨_,rfl,.g ⟨.d _,.d _,.d _,.d _,.d _,.d _,.d _,.d _,trivial⟩⟩,⟨_,rfl,.c (.d _)⟩,⟨_,rfl,.c (.d _)⟩,trivial⟩ ⟨⟨trivial,trivial,trivial,trivial,trivial,trivial,trivial,trivial,trivial⟩,trivial,trivial⟩ trivial rfl rfl rfl rfl) rfl⟩) rfl ?_
 refine bR (n':=8) (kn:=[]) aa 6 rfl trivial ?_
 refine dP [0,1,4,5,6,7] [7,6,5,0,1,2,3,4] rfl rfl (by kernel_rfl) ?_
 refine then_ok ?_
 refine af ?_
 refine ad aa 2 rfl ?_
 refine ag rfl (fun hc5=>?_) (fun hc5=>?_)
 ·
  have hc5':=of_decide_eq_true hc5
  refine ad aa 3 rfl ?_
  refine ar ?_
  refine ao ?_
  have hX:dv b d=(b,(⟨e0,0⟩:Answer)):=by
    unfold dv;simp only [hdn,Bool.false_eq_true,if_false];rw [if_neg (by omega),hx1];dsimp only;simp only [hr0];(repeat' split)<;>first|rfl|omega|(exfalso;omega)|(simp_all;done)|(simp_all;omega)
  rw [hX] at hr;clear hX
  simp only [Prod.mk.injEq] at hr;obtain ⟨rfl,rfl⟩:=hr
  refine ah aa [0,1,2,3,4,5] 5 rfl rfl rfl rfl rfl rfl ?_ ?_
  all_goals first|rfl|(simp [au,aT,aX];done)|(simp [au,aT,aX];omega)
 have hc5':=of_decide_eq_false hc5
 refine aP ?_
 obtain ⟨mw1,mw2,mc,ms,mk1,mk2,mn1,mn2⟩:=my (show bW x1 d.move d.sum=(b0,0) by rw [hr0];congr 1;omega)
 have hoP:=okp x1 (List.mem_of_getElem? hx1)
 have hI0:∀ t∈b.s0.kept,fF t.number:=fun t ht=>(okk0 t ht).1
 have hI1:∀ t∈b.s1.kept,fF t.number:=fun t ht=>(okk1 t ht).1
 refine az aa 1 rfl ?_
 refine aL 17 [0,8,9,10,11,12,13,14,15,16,7,6,5] (cw id (aW [0,8,9,10,11,12,13,14,15,16]) (kh (x 17) (x 19) b (by first|omega|(simp;done)|(simp;omega)) (by first|omega|(simp;done)|(simp;omega)) (by first|omega|(simp;done)|(simp;omega)) (by first|omega|(simp;done)|(simp;omega))) qB rfl rfl ⟨⟨_,rfl,.inl ⟨rfl,rfl⟩⟩,trivial⟩ ⟨rfl,rfl,rfl,rfl,rfl,trivial⟩ rfl rfl rfl rfl rfl rfl trivial ⟨⟨trivial,trivial,trivial,trivial,trivial,trivial,trivial,trivial,trivial,trivial,trivial,trivial,trivial,trivial,trivial,trivial,trivial,trivial,trivial,trivial,trivial⟩,⟨trivial,trivial,trivial,trivial,trivial,trivial,trivial,trivial,trivial,trivial,trivial,trivial,trivial,trivial,trivial,trivial,trivial,trivial,trivial,trivial,trivial⟩,(fun _ _ _ _=>trivial),(fun _ _ _ _=>trivial),(fun _ _ _ _=>trivial),(fun _ _ _ _=>trivial),(fun _ _ _ _=>trivial),(fun _ _ _ _=>trivial),(fun _ _ _ _=>trivial),(fun _ _ _ _=>trivial),trivial⟩ rfl rfl rfl rfl) rfl ?_
 refine ab aa 1 rfl ?_
 refine ae ?_
 refine af ?_
 obtain ⟨e1,hr1⟩:∃ (e1:Int),br b0=e1:=⟨_,rfl⟩
 have hhb1:=oK (show bE b0=0 by assumption)
 rw [hr1] at hhb1
 obtain ⟨e2,hr2⟩:∃ (e2:Int),br x1=e2:=⟨_,rfl⟩
 have hhb2:=oK (show bE x1=0 by assumption)
 rw [hr2] at hhb2
 refine bb [0,1,4,5,6,8] [0,8,9,10,11,12,13,14,15,16,7,6,5] mixed rfl rfl ?_
 refine aA (kn:=[]) aa 1 rfl trivial ?_
 refine aU (n':=17) [67] [] rfl rfl (.inl ⟨(al.plain rfl),aH.cast (bM 17 (kq b0 (by first|assumption|omega|rfl|decide) e1 hr1) yL rfl rfl ⟨⟨_,rfl,.g ⟨.d _,.d _,.d _,.d _,.d _,.d _,.d _,.d _,trivial⟩⟩,trivial⟩ trivial trivial rfl rfl rfl rfl) rfl⟩) rfl ?_
 refine aA (kn:=[]) aa 1 rfl trivial ?_
 refine aU (n':=17) [69] [] rfl rfl (.inl ⟨(al.plain rfl),aH.cast (bM 17 (kq x1 (by first|assumption|omega|rfl|decide) e2 hr2) yL rfl rfl ⟨⟨_,rfl,.g ⟨.d _,.d _,.d _,.d _,.d _,.d _,.d _,.d _,trivial⟩⟩,trivial⟩ trivial trivial rfl rfl rfl rfl) rfl⟩) rfl ?_
 refine aU (n':=17) [68,70] [] rfl rfl (.inl ⟨(al.plain rfl),aH.cast (aK rfl rfl rfl (aF (by first|omega|(simp;done)|(simp;omega)))) rfl⟩) rfl ?_
 refine aA (kn:=[]) aa 1 rfl trivial ?_
 refine bB [0,8,9,10,11,12,13,14,15,16,7,6,5] rfl rfl rfl rfl (by kernel_rfl) ?_
 refine ae ?_
 refine af ?_
 refine wz (J:=⟨[(0,(aC (.p 0 0 0 0))),(1,(aC (.q (cL d) 0))),(4,(aC (.p 5 0 0 0))),(6,(aC (.p 7 0 0 0))),(8,(aC (.p 8 0 0 0))),(9,(aI (e1 - e2))),(93,(aB (decide (d.move=1/\d.sum > kH b.an b0.aJ))))],[(0,(.box 98 (aT b 9 10 11 12 (.d (.v (x 17))) (.d (.v (x 19)))))),(8,(.box 147 (aT b 13 14 15 16 (.d (.v (x 17))) (cI 0)))),(9,(dO b.an)),(10,(dG b.due)),(11,(dV b.aq)),(12,(cG b.aO)),(13,(dO b.an)),(14,(dG b.due)),(15,(dV b.aq)),(16,(cG b.aO)),(7,(.box 67 [(cI b0.aJ),(cI b0.ax),(cI b0.sum),(cI b0.captured),(cI b0.bu),(cI b0.bh),(cI b0.cM),(cB b0.shut)])),(5,(.box 65 [(cI 0),(cI 0)]))],17⟩) ?_ ?_
 ·
  rcases Bool.eq_false_or_eq_true (decide (d.move=1)) with hb6|hb6
  ·
   have hb6':=of_decide_eq_true hb6
   obtain ⟨x2,hx2⟩:=cp (xs:=b.an) (i:=Int.toNat (b0.aJ)) (by first|omega|(simp;done)|(simp;omega))
   have hx2g:=Bb (okg x2 (List.mem_of_getElem? hx2))
   refine bb [0,1,4,6,8,9] [0,8,9,10,11,12,13,14,15,16,7,5] mixed rfl rfl ?_
   refine aA (kn:=[(76,true)]) aa 17 rfl ⟨hb6,trivial⟩ ?_
   refine aU (n':=17) [86,88,77] [13] rfl rfl (.inl ⟨(al.yes rfl rfl rfl),aH.cast (bq (i:=Int.toNat (b0.aJ)) rfl rfl rfl Try.underlying29 iB (by first|omega|(simp;done)|(simp;omega)) (by first|omega|(simp;done)|(simp;omega))) rfl⟩) rfl ?_
   refine aU (n':=17) [89,77] [13] rfl rfl (.inl ⟨(al.yes rfl rfl rfl),aH.cast (da rfl rfl rfl Try.underlying61 rfl iB (bw hx2) rfl) rfl⟩) rfl ?_
   refine aU (n':=17) [90,77] [] rfl rfl (.inl ⟨(al.yes rfl rfl rfl),aH.cast (bM 17 (mA x2 (by first|assumption|omega|(constructor<;>decide)|(have hz:=fW (by first|assumption|omega);omega))) Cd rfl rfl ⟨⟨_,rfl,.g ⟨.d _,.d _,.d _,.d _,.d _,.d _,trivial⟩⟩,trivial⟩ trivial trivial rfl rfl rfl rfl) rfl⟩) rfl ?_
   refine aA (kn:=[]) aa 2 rfl trivial ?_
   refine bB [0,8,9,10,11,12,13,14,15,16,7,5] rfl rfl rfl rfl (by kernel_rfl) ?_
   refine ae ?_
   rw [show (decide (d.move=1/\d.sum > kH b.an b0.aJ))=(decide (d.sum > (x2.bf - x2.held))) by (unfold kH;rw [hx2];dsimp only;first|(simp_all;done)|(simp_all;omega))]
   exact aD.bZ id (⟨rfl,rfl,rfl,rfl,rfl,rfl,rfl,trivial⟩) (⟨rfl,rfl,rfl,rfl,rfl,rfl,rfl,rfl,rfl,rfl,rfl,rfl,trivial⟩) rfl
  have hb6':=of_decide_eq_false hb6
  refine bb [0,1,4,6,8,9] [0,8,9,10,11,12,13,14,15,16,7,5] mixed rfl rfl ?_
  refine aA (kn:=[(76,false)]) aa 22 rfl ⟨hb6,trivial⟩ ?_
  refine bB [0,8,9,10,11,12,13,14,15,16,7,5] rfl rfl rfl rfl (by kernel_rfl) ?_
  refine ae ?_
  rw [show (decide (d.move=1/\d.sum > kH b.an b0.aJ))=(false) by (unfold kH;first|(simp_all;done)|(simp_all;omega))]
  exact aD.bZ id (⟨rfl,rfl,rfl,rfl,rfl,rfl,rfl,trivial⟩) (⟨rfl,rfl,rfl,rfl,rfl,rfl,rfl,rfl,rfl,rfl,rfl,rfl,trivial⟩) rfl
 refine ag rfl (fun hc7=>?_) (fun hc7=>?_)
 ·
  have hc7':=of_decide_eq_true hc7
  refine ad aa 2 rfl ?_
  refine ar ?_
  refine ao ?_
  have hX:dv b d=(b,(⟨10,0⟩:Answer)):=by
    unfold dv;simp only [hdn,Bool.false_eq_true,if_false];rw [if_neg (by omega),hx1];dsimp only;simp only [hr0];(repeat' split)<;>first|rfl|omega|(exfalso;omega)|(simp_all;done)|(simp_all;omega)
  rw [hX] at hr;clear hX
  simp only [Prod.mk.injEq] at hr;obtain ⟨rfl,rfl⟩:=hr
  refine ah aa [0,9,10,11,12,5] 5 rfl rfl rfl rfl rfl rfl ?_ ?_
  all_goals first|rfl|(simp [au,aT,aX];done)|(simp [au,aT,aX];omega)
 have hc7':=of_decide_eq_false hc7
 refine aP ?_
 refine af ?_
 refine bb [0,1,4,6,8,9] [0,8,9,10,11,12,13,14,15,16,7,5] mixed rfl rfl ?_
 refine aA (kn:=[]) aa 2 rfl trivial ?_
 refine aU (n':=17) [96] [] rfl rfl (.inl ⟨(al.plain rfl),aH.cast (aK rfl rfl rfl (aF (by first|omega|(simp;done)|(simp;omega)))) rfl⟩) rfl ?_
 refine aA (n':=18) (kn:=[]) aa 11 rfl trivial ?_
 refine bB [17,0,8,9,10,11,12,13,14,15,16,7,5] rfl rfl rfl rfl (by kernel_rfl) ?_
 refine ab aa 1 rfl ?_
 refine ae ?_
 obtain ⟨jcards,jdue,jbook,js0,js1,je,hj⟩:∃ (jcards:List bx) (jdue:List Int) (jbook:List Entry) (js0:bP) (js1:bP) (je:Int),dK b b0 x1 d=(jcards,jdue,jbook,js0,js1,je):=⟨_,_,_,_,_,_,rfl⟩
 have hj0:=hj
 refine wz (J:=⟨[(0,(aC (.p 0 0 0 0))),(1,(aC (.q (cL d) 0))),(4,(aC (.p 5 0 0 0))),(6,(aC (.p 7 0 0 0))),(8,(aC (.p 8 0 0 0)))],[(0,(.box 98 (aT b 9 10 11 12 (.d (.v (x 17))) (.d (.v (x 19)))))),(8,(.box 147 ((((((((aT b 13 14 15 16 (.d (.v (x 17))) (cI je)).set 2 (.s 13 0 6 jcards.length)).set 3 (.s 14 0 1 jdue.length)).set 5 (cI js0.bF)).set 6 (dd js0.kept)).set 7 (cI js1.bF)).set 8 (dd js1.kept)).set 18 (dT jbook)))),(9,(dO b.an)),(10,(dG b.due)),(11,(dV b.aq)),(12,(cG b.aO)),(13,(dO jcards)),(14,(dG jdue)),(15,(dV b.aq)),(16,(cG b.aO)),(7,(.box 67 [(cI b0.aJ),(cI b0.ax),(cI b0.sum),(cI b0.captured),(cI b0.bu),(cI b0.bh),(cI b0.cM),(cB b0.shut)])),(5,(.box 65 [(cI 0),(cI 0)]))],17⟩) ?_ ?_
 ·
  refine ad aa 4 rfl ?_
  refine aV ?_
  refine af ?_
  refine ad aa 2 rfl ?_
  refine ag rfl (fun hc8=>?_) (fun hc8=>?_)
  ·
   have hc8':=of_decide_eq_true hc8
   refine aP ?_
   refine ag rfl (fun _=>?_) (fun hno=>absurd (hc8.symm.trans hno) (by decide))
   refine aw ?_
   refine ab aa 4 rfl ?_
   obtain ⟨l23,e23,hr3⟩:∃ (l23:List bx) (e23:Int),cx b.an 0 b0.aJ (e1 - e2) 0=(l23,e23):=⟨_,_,rfl⟩
   refine aL 19 [8,18,17,0,9,10,11,12,14,15,16,7,5] (cg (aW [8,13]) (aW [8,18]) (ms:=((du.set 2 (some (.s 1 0 6 b.an.length))).set 19 (some (cI 0)))) (ms':=((du.set 2 (some (.s 1 0 6 l23.length))).set 19 (some (cI e23)))) (fun x hx=>iW x hx b.an 0 b0.aJ (e1 - e2) 0 (by first|omega|(simp;done)|(simp;omega)) l23 e23 hr3) nE rfl rfl ⟨⟨_,rfl,.inl ⟨rfl,rfl⟩⟩,⟨_,rfl,.inr (.c (.d _))⟩,⟨_,rfl,.inr (.c (.d _))⟩,⟨_,rfl,.inr (.c (.d _))⟩,trivial⟩ rfl rfl rfl rfl rfl rfl rfl ⟨rfl,trivial⟩ rfl rfl rfl rfl rfl rfl rfl rfl rfl rfl rfl rfl rfl) rfl ?_
   refine bX ?_
   refine bl ?_
   refine then_ok ?_
   have hX:dK b b0 x1 d=(l23,b.due,b.book,b.s0,b.s1,e23):=by
     unfold dK;(try simp only [hr1,hr2,hr3]);(repeat' split)<;>first|rfl|omega|(exfalso;omega)|(simp_all;done)|(simp_all;omega)
   rw [hX] at hj;clear hX;simp only [Prod.mk.injEq] at hj;obtain ⟨rfl,rfl,rfl,rfl,rfl,rfl⟩:=hj
   exact aD.bZ (fun k=>if k=13 then 18 else k) (by refine ⟨?_,?_,?_,?_,?_,trivial⟩<;>first|rfl|(simp only [bn];done)|(congr 3;omega)|(congr 4;omega)|(simp only [bo];rfl)) (by refine ⟨?_,?_,?_,?_,?_,?_,?_,?_,?_,?_,?_,?_,trivial⟩<;>first|rfl|(simp only [bn];done)|(congr 3;omega)|(congr 4;omega)|(simp only [bo];rfl)) rfl
  have hc8':=of_decide_eq_false hc8
  refine aw ?_
  refine ab aa 2 rfl ?_
  refine ae ?_
  refine ag rfl (fun hc10=>?_) (fun hc10=>?_)
  ·
   have hc10':=of_decide_eq_true hc10
   refine aw ?_
   refine ab aa 4 rfl ?_
   obtain ⟨l24,e24,hr4⟩:∃ (l24:List bx) (e24:Int),cx b.an 0 b0.aJ (e1 - e2) 0=(l24,e24):=⟨_,_,rfl⟩
   refine aL 19 [8,18,17,0,9,10,11,12,14,15,16,7,5] (cg (aW [8,13]) (aW [8,18]) (ms:=((du.set 2 (some (.s 1 0 6 b.an.length))).set 19 (some (cI 0)))) (ms':=((du.set 2 (some (.s 1 0 6 l24.length))).set 19 (some (cI e24)))) (fun x hx=>iW x hx b.an 0 b0.aJ (e1 - e2) 0 (by first|omega|(simp;done)|(simp;omega)) l24 e24 hr4) nE rfl rfl ⟨⟨_,rfl,.inl ⟨rfl,rfl⟩⟩,⟨_,rfl,.inr (.c (.d _))⟩,⟨_,rfl,.inr (.c (.d _))⟩,⟨_,rfl,.inr (.c (.d _))⟩,trivial⟩ rfl rfl rfl rfl rfl rfl rfl ⟨rfl,trivial⟩ rfl rfl rfl rfl rfl rfl rfl rfl rfl rfl rfl rfl rfl) rfl ?_
   refine bX ?_
   refine bl ?_
   refine then_ok ?_
   have hX:dK b b0 x1 d=(l24,b.due,b.book,b.s0,b.s1,e24):=by
     unfold dK;(try simp only [hr1,hr2,hr4]);(repeat' split)<;>first|rfl|omega|(exfalso;omega)|(simp_all;done)|(simp_all;omega)
   rw [hX] at hj;clear hX;simp only [Prod.mk.injEq] at hj;obtain ⟨rfl,rfl,rfl,rfl,rfl,rfl⟩:=hj
   exact aD.bZ (fun k=>if k=13 then 18 else k) (by refine ⟨?_,?_,?_,?_,?_,trivial⟩<;>first|rfl|(simp only [bn];done)|(congr 3;omega)|(congr 4;omega)|(simp only [bo];rfl)) (by refine ⟨?_,?_,?_,?_,?_,?_,?_,?_,?_,?_,?_,?_,trivial⟩<;>first|rfl|(simp only [bn];done)|(congr 3;omega)|(congr 4;omega)|(simp only [bo];rfl)) rfl
  have hc10':=of_decide_eq_false hc10
  refine af ?_
  refine ad aa 2 rfl ?_
  refine ag rfl (fun hc11=>?_) (fun hc11=>?_)
  ·
   have hc11':=of_decide_eq_true hc11
   refine aP ?_
   refine ag rfl (fun _=>?_) (fun hno=>absurd (hc11.symm.trans hno) (by decide))
   refine af ?_
   obtain ⟨l25,e25,hr5⟩:∃ (l25:List bx) (e25:Int),cx b.an 0 b0.aJ (e1 - e2) (0 - d.sum)=(l25,e25):=⟨_,_,rfl⟩
   refine cW [0,1,4,6,8,9,11,10] [17,0,8,9,10,11,12,13,14,15,16,7,5] mixed rfl rfl ?_
   refine bR (kn:=[]) aa 8 rfl trivial ?_
   refine bV (n':=18) [129] [] rfl rfl (.inl ⟨(al.plain rfl),aH.cast (rH rfl rfl (aF (by first|omega|(simp;done)|(simp;omega)))) rfl⟩) rfl ?_
   refine bV (n':=19) [122,124,125,130] [13,8] rfl rfl (.inl ⟨(al.plain rfl),aH.cast (cg (aW [8,13]) (aW [8,18]) (ms:=((du.set 2 (some (.s 1 0 6 b.an.length))).set 19 (some (cI 0)))) (ms':=((du.set 2 (some (.s 1 0 6 l25.length))).set 19 (some (cI e25)))) (fun x hx=>iW x hx b.an 0 b0.aJ (e1 - e2) (0 - d.sum) (by first|omega|(simp;done)|(simp;omega)) l25 e25 hr5) nE rfl rfl ⟨⟨_,rfl,.inl ⟨rfl,rfl⟩⟩,⟨_,rfl,.inr (.c (.d _))⟩,⟨_,rfl,.inr (.c (.d _))⟩,⟨_,rfl,.inr (.c (.d _))⟩,trivial⟩ rfl rfl rfl rfl rfl rfl rfl ⟨rfl,trivial⟩ rfl rfl rfl rfl rfl rfl rfl rfl rfl rfl rfl rfl rfl) rfl⟩) rfl ?_
   refine dP [0,1,4,6,8,11,10] [18,8,17,0,9,10,11,12,14,15,16,7,5] rfl rfl (by kernel_rfl) ?_
   refine then_ok ?_
   refine az aa 6 rfl ?_
   obtain ⟨l26,e26,hr6⟩:∃ (l26:List Entry) (e26:Int),dQ b.book e25 (10+b0.aJ) 1 d.sum=(l26,e26):=⟨_,_,rfl⟩
   refine aL 19 [8,18,17,0,9,10,11,12,14,15,16,7,5] (cg (aW [8]) (aW [8]) (ms:=((du.set 18 (some (dT b.book))).set 19 (some (cI e25)))) (ms':=((du.set 18 (some (dT l26))).set 19 (some (cI e26)))) (fun x hx=>jk x hx b.book e25 (10+b0.aJ) 1 d.sum l26 e26 hr6) mz rfl rfl ⟨⟨_,rfl,.inl ⟨rfl,rfl⟩⟩,⟨_,rfl,.inr (.c (.d _))⟩,⟨_,rfl,.inr (.c (.d _))⟩,⟨_,rfl,.inr (.c (.d _))⟩,trivial⟩ rfl rfl rfl rfl rfl rfl rfl trivial rfl rfl rfl rfl rfl rfl rfl rfl rfl rfl rfl rfl rfl) rfl ?_
   refine ae ?_
   refine ad aa 2 rfl ?_
   refine aw ?_
   refine ab aa 2 rfl ?_
   obtain ⟨s27,e27,hr7⟩:∃ (s27:bP) (e27:Int),eA b.s0 e26 (⟨0,1,d.n,d.sum⟩:aR)=(s27,e27):=⟨_,_,rfl⟩
   refine aL 19 [8,18,17,0,9,10,11,12,14,15,16,7,5] (cg (aW [8]) (aW [8]) (ms:=(((du.set 5 (some (cI b.s0.bF))).set 6 (some (dd b.s0.kept))).set 19 (some (cI e26)))) (ms':=(((du.set 5 (some (cI s27.bF))).set 6 (some (dd s27.kept))).set 19 (some (cI e27)))) (fun x hx=>sJ x hx b.s0 e26 (⟨0,1,d.n,d.sum⟩:aR) (by assumption) s27 e27 hr7) yI rfl rfl ⟨⟨_,rfl,.inl ⟨rfl,rfl⟩⟩,⟨_,rfl,.inr (.c (.d _))⟩,⟨_,rfl,.inr (.g ⟨.d _,.d _,.d _,.d _,trivial⟩)⟩,trivial⟩ rfl rfl rfl rfl rfl rfl rfl trivial rfl rfl rfl rfl rfl rfl rfl rfl rfl rfl rfl rfl rfl) rfl ?_
   refine bX ?_
   refine bl ?_
   refine then_ok ?_
   have hX:dK b b0 x1 d=(l25,b.due,l26,s27,b.s1,e27):=by
     unfold dK;(try simp only [hr1,hr2,hr5,hr6,hr7]);(repeat' split)<;>first|rfl|omega|(exfalso;omega)|(simp_all;done)|(simp_all;omega)
   rw [hX] at hj;clear hX;simp only [Prod.mk.injEq] at hj;obtain ⟨rfl,rfl,rfl,rfl,rfl,rfl⟩:=hj
   exact aD.bZ (fun k=>if k=13 then 18 else k) (by refine ⟨?_,?_,?_,?_,?_,trivial⟩<;>first|rfl|(simp only [bn];done)|(congr 3;omega)|(congr 4;omega)|(simp only [bo];rfl)) (by refine ⟨?_,?_,?_,?_,?_,?_,?_,?_,?_,?_,?_,?_,trivial⟩<;>first|rfl|(simp only [bn];done)|(congr 3;omega)|(congr 4;omega)|(simp only [bo];rfl)) rfl
  have hc11':=of_decide_eq_false hc11
  refine aw ?_
  refine ab aa 2 rfl ?_
  refine ae ?_
  refine ag rfl (fun hc13=>?_) (fun hc13=>?_)
  ·
   have hc13':=of_decide_eq_true hc13
   refine af ?_
   obtain ⟨l28,e28,hr8⟩:∃ (l28:List bx) (e28:Int),cx b.an 0 b0.aJ (e1 - e2) (0 - d.sum)=(l28,e28):=⟨_,_,rfl⟩
   refine cW [0,1,4,6,8,9,11,10] [17,0,8,9,10,11,12,13,14,15,16,7,5] mixed rfl rfl ?_
   refine bR (kn:=[]) aa 8 rfl trivial ?_
   refine bV (n':=18) [129] [] rfl rfl (.inl ⟨(al.plain rfl),aH.cast (rH rfl rfl (aF (by first|omega|(simp;done)|(simp;omega)))) rfl⟩) rfl ?_
   refine bV (n':=19) [122,124,125,130] [13,8] rfl rfl (.inl ⟨(al.plain rfl),aH.cast (cg (aW [8,13]) (aW [8,18]) (ms:=((du.set 2 (some (.s 1 0 6 b.an.length))).set 19 (some (cI 0)))) (ms':=((du.set 2 (some (.s 1 0 6 l28.length))).set 19 (some (cI e28)))) (fun x hx=>iW x hx b.an 0 b0.aJ (e1 - e2) (0 - d.sum) (by first|omega|(simp;done)|(simp;omega)) l28 e28 hr8) nE rfl rfl ⟨⟨_,rfl,.inl ⟨rfl,rfl⟩⟩,⟨_,rfl,.inr (.c (.d _))⟩,⟨_,rfl,.inr (.c (.d _))⟩,⟨_,rfl,.inr (.c (.d _))⟩,trivial⟩ rfl rfl rfl rfl rfl rfl rfl ⟨rfl,trivial⟩ rfl rfl rfl rfl rfl rfl rfl rfl rfl rfl rfl rfl rfl) rfl⟩) rfl ?_
   refine dP [0,1,4,6,8,11,10] [18,8,17,0,9,10,11,12,14,15,16,7,5] rfl rfl (by kernel_rfl) ?_
   refine then_ok ?_
   refine az aa 6 rfl ?_
   obtain ⟨l29,e29,hr9⟩:∃ (l29:List Entry) (e29:Int),dQ b.book e28 (10+b0.aJ) 1 d.sum=(l29,e29):=⟨_,_,rfl⟩
   refine aL 19 [8,18,17,0,9,10,11,12,14,15,16,7,5] (cg (aW [8]) (aW [8]) (ms:=((du.set 18 (some (dT b.book))).set 19 (some (cI e28)))) (ms':=((du.set 18 (some (dT l29))).set 19 (some (cI e29)))) (fun x hx=>jk x hx b.book e28 (10+b0.aJ) 1 d.sum l29 e29 hr9) mz rfl rfl ⟨⟨_,rfl,.inl ⟨rfl,rfl⟩⟩,⟨_,rfl,.inr (.c (.d _))⟩,⟨_,rfl,.inr (.c (.d _))⟩,⟨_,rfl,.inr (.c (.d _))⟩,trivial⟩ rfl rfl rfl rfl rfl rfl rfl trivial rfl rfl rfl rfl rfl rfl rfl rfl rfl rfl rfl rfl rfl) rfl ?_
   refine ae ?_
   refine ad aa 2 rfl ?_
   refine aw ?_
   refine ab aa 2 rfl ?_
   obtain ⟨s210,e210,hr10⟩:∃ (s210:bP) (e210:Int),eA b.s0 e29 (⟨0,1,d.n,d.sum⟩:aR)=(s210,e210):=⟨_,_,rfl⟩
   refine aL 19 [8,18,17,0,9,10,11,12,14,15,16,7,5] (cg (aW [8]) (aW [8]) (ms:=(((du.set 5 (some (cI b.s0.bF))).set 6 (some (dd b.s0.kept))).set 19 (some (cI e29)))) (ms':=(((du.set 5 (some (cI s210.bF))).set 6 (some (dd s210.kept))).set 19 (some (cI e210)))) (fun x hx=>sJ x hx b.s0 e29 (⟨0,1,d.n,d.sum⟩:aR) (by assumption) s210 e210 hr10) yI rfl rfl ⟨⟨_,rfl,.inl ⟨rfl,rfl⟩⟩,⟨_,rfl,.inr (.c (.d _))⟩,⟨_,rfl,.inr (.g ⟨.d _,.d _,.d _,.d _,trivial⟩)⟩,trivial⟩ rfl rfl rfl rfl rfl rfl rfl trivial rfl rfl rfl rfl rfl rfl rfl rfl rfl rfl rfl rfl rfl) rfl ?_
   refine bX ?_
   refine bl ?_
   refine then_ok ?_
   have hX:dK b b0 x1 d=(l28,b.due,l29,s210,b.s1,e210):=by
     unfold dK;(try simp only [hr1,hr2,hr8,hr9,hr10]);(repeat' split)<;>first|rfl|omega|(exfalso;omega)|(simp_all;done)|(simp_all;omega)
   rw [hX] at hj;clear hX;simp only [Prod.mk.injEq] at hj;obtain ⟨rfl,rfl,rfl,rfl,rfl,rfl⟩:=hj
   exact aD.bZ (fun k=>if k=13 then 18 else k) (by refine ⟨?_,?_,?_,?_,?_,trivial⟩<;>first|rfl|(simp only [bn];done)|(congr 3;omega)|(congr 4;omega)|(simp only [bo];rfl)) (by refine ⟨?_,?_,?_,?_,?_,?_,?_,?_,?_,?_,?_,?_,trivial⟩<;>first|rfl|(simp only [bn];done)|(congr 3;omega)|(congr 4;omega)|(simp only [bo];rfl)) rfl
  have hc13':=of_decide_eq_false hc13
  refine ad aa 2 rfl ?_
  refine ag rfl (fun hc14=>?_) (fun hc14=>?_)
  ·
   have hc14':=of_decide_eq_true hc14
   refine af ?_
   obtain ⟨x2,hx2⟩:=cp (xs:=b.due) (i:=Int.toNat (b0.ax)) (by first|omega|(simp;done)|(simp;omega))
   refine bb [0,1,4,6,8,11] [17,0,8,9,10,11,12,13,14,15,16,7,5] mixed rfl rfl ?_
   refine aA (kn:=[]) aa 7 rfl trivial ?_
   refine aU (n':=18) [149,151] [14] rfl rfl (.inl ⟨(al.plain rfl),aH.cast (bq (i:=Int.toNat (b0.ax)) rfl rfl rfl Try.underlying30 fJ (by first|omega|(simp;done)|(simp;omega)) (by first|omega|(simp;done)|(simp;omega))) rfl⟩) rfl ?_
   refine aU (n':=18) [152] [14] rfl rfl (.inl ⟨(al.plain rfl),aH.cast (eG rfl rfl rfl Try.underlying3 rfl (bw hx2) rfl) rfl⟩) rfl ?_
   refine aA (kn:=[]) aa 5 rfl trivial ?_
   refine aU (n':=18) [149,151] [14] rfl rfl (.inl ⟨(al.plain rfl),aH.cast (bq (i:=Int.toNat (b0.ax)) rfl rfl rfl Try.underlying30 fJ (by first|omega|(simp;done)|(simp;omega)) (by first|omega|(simp;done)|(simp;omega))) rfl⟩) rfl ?_
   refine bB [17,0,8,9,10,11,12,13,14,15,16,7,5] rfl rfl rfl rfl (by kernel_rfl) ?_
   refine gf [17,0,8,9,10,11,12,13,14,15,16,7,5] (dM (ds:=[(dI (IntKind.i64.wrap (x2 - d.sum)))]) rfl rfl rfl rfl rfl fJ rfl (Nat.le_of_ble_eq_true rfl) (bw hx2) rfl (eL (x':=(IntKind.i64.wrap (x2 - d.sum))) rfl)) rfl ?_
   refine ae ?_
   refine fx (k:=8) (q:=3) (c':=(.s 14 0 1 (((b.due).set (Int.toNat (b0.ax)) (IntKind.i64.wrap (x2 - d.sum))).length))) rfl rfl (by first|rfl|(simp;done)|(congr 1;omega)) rfl ?_
   refine af ?_
   obtain ⟨l211,e211,hr11⟩:∃ (l211:List Entry) (e211:Int),dQ b.book 0 (50+b0.ax) 1 d.sum=(l211,e211):=⟨_,_,rfl⟩
   refine cW [0,1,4,6,8,11] [17,0,8,9,10,11,12,13,14,15,16,7,5] mixed rfl rfl ?_
   refine bR (kn:=[]) aa 3 rfl trivial ?_
   refine bV (n':=18) [162] [] rfl rfl (.inl ⟨(al.plain rfl),aH.cast (aK rfl rfl rfl (aF (by first|omega|(simp;done)|(simp;omega)))) rfl⟩) rfl ?_
   refine bR (kn:=[]) aa 4 rfl trivial ?_
   refine bV (n':=18) [160,163,167] [8] rfl rfl (.inl ⟨(al.plain rfl),aH.cast (cg (aW [8]) (aW [8]) (ms:=((du.set 18 (some (dT b.book))).set 19 (some (cI 0)))) (ms':=((du.set 18 (some (dT l211))).set 19 (some (cI e211)))) (fun x hx=>jk x hx b.book 0 (50+b0.ax) 1 d.sum l211 e211 hr11) mz rfl rfl ⟨⟨_,rfl,.inl ⟨rfl,rfl⟩⟩,⟨_,rfl,.inr (.c (.d _))⟩,⟨_,rfl,.inr (.c (.d _))⟩,⟨_,rfl,.inr (.c (.d _))⟩,trivial⟩ rfl rfl rfl rfl rfl rfl rfl trivial rfl rfl rfl rfl rfl rfl rfl rfl rfl rfl rfl rfl rfl) rfl⟩) rfl ?_
   refine dP [0,1,4,6,8,11] [8,17,0,9,10,11,12,13,14,15,16,7,5] rfl rfl (by kernel_rfl) ?_
   refine then_ok ?_
   refine ad aa 2 rfl ?_
   refine aw ?_
   refine ab aa 2 rfl ?_
   obtain ⟨s212,e212,hr12⟩:∃ (s212:bP) (e212:Int),eA b.s1 e211 (⟨0,2,d.n,d.sum⟩:aR)=(s212,e212):=⟨_,_,rfl⟩
   refine aL 18 [8,17,0,9,10,11,12,13,14,15,16,7,5] (cg (aW [8]) (aW [8]) (ms:=(((du.set 7 (some (cI b.s1.bF))).set 8 (some (dd b.s1.kept))).set 19 (some (cI e211)))) (ms':=(((du.set 7 (some (cI s212.bF))).set 8 (some (dd s212.kept))).set 19 (some (cI e212)))) (fun x hx=>DG x hx b.s1 e211 (⟨0,2,d.n,d.sum⟩:aR) (by assumption) s212 e212 hr12) yI rfl rfl ⟨⟨_,rfl,.inl ⟨rfl,rfl⟩⟩,⟨_,rfl,.inr (.c (.d _))⟩,⟨_,rfl,.inr (.g ⟨.d _,.d _,.d _,.d _,trivial⟩)⟩,trivial⟩ rfl rfl rfl rfl rfl rfl rfl trivial rfl rfl rfl rfl rfl rfl rfl rfl rfl rfl rfl rfl rfl) rfl ?_
   refine bX ?_
   refine bl ?_
   refine then_ok ?_
   have hX:dK b b0 x1 d=(b.an,(b.due).set (Int.toNat (b0.ax)) (IntKind.i64.wrap (x2 - d.sum)),l211,b.s0,s212,e212):=by
     unfold dK;simp only [List.getD_eq_getElem?_getD,hx2,Option.getD_some];(try simp only [hr1,hr2,hr11,hr12,hx2]);(repeat' split)<;>first|rfl|omega|(exfalso;omega)|(simp_all;done)|(simp_all;omega)
   rw [hX] at hj;clear hX;simp only [Prod.mk.injEq] at hj;obtain ⟨rfl,rfl,rfl,rfl,rfl,rfl⟩:=hj
   exact aD.bZ id (by refine ⟨?_,?_,?_,?_,?_,trivial⟩<;>first|rfl|(simp only [bn];done)|(congr 3;omega)|(congr 4;omega)|(simp only [bo];rfl)) (by refine ⟨?_,?_,?_,?_,?_,?_,?_,?_,?_,?_,?_,?_,trivial⟩<;>first|rfl|(simp only [bn];done)|(congr 3;omega)|(congr 4;omega)|(simp only [bo];rfl)) rfl
  have hc14':=of_decide_eq_false hc14
  refine ad aa 2 rfl ?_
  refine ag rfl (fun hc15=>?_) (fun hc15=>?_)
  ·
   have hc15':=of_decide_eq_true hc15
   refine af ?_
   obtain ⟨l213,e213,hr13⟩:∃ (l213:List bx) (e213:Int),cx b.an 0 b0.aJ 0 d.sum=(l213,e213):=⟨_,_,rfl⟩
   refine cW [0,1,4,6,8,10] [0,8,9,10,11,12,13,14,15,16,7,5] mixed rfl rfl ?_
   refine bR (kn:=[]) aa 7 rfl trivial ?_
   refine bV (n':=19) [175,177,181] [13,8] rfl rfl (.inl ⟨(al.plain rfl),aH.cast (cg (aW [8,13]) (aW [8,18]) (ms:=((du.set 2 (some (.s 1 0 6 b.an.length))).set 19 (some (cI 0)))) (ms':=((du.set 2 (some (.s 1 0 6 l213.length))).set 19 (some (cI e213)))) (fun x hx=>iW x hx b.an 0 b0.aJ 0 d.sum (by first|omega|(simp;done)|(simp;omega)) l213 e213 hr13) nE rfl rfl ⟨⟨_,rfl,.inl ⟨rfl,rfl⟩⟩,⟨_,rfl,.inr (.c (.d _))⟩,⟨_,rfl,.inr (.c (.d _))⟩,⟨_,rfl,.inr (.c (.d _))⟩,trivial⟩ rfl rfl rfl rfl rfl rfl rfl ⟨rfl,trivial⟩ rfl rfl rfl rfl rfl rfl rfl rfl rfl rfl rfl rfl rfl) rfl⟩) rfl ?_
   refine dP [0,1,4,6,8,10] [18,8,0,9,10,11,12,14,15,16,7,5] rfl rfl (by kernel_rfl) ?_
   refine then_ok ?_
   refine aw ?_
   refine ab aa 6 rfl ?_
   obtain ⟨l214,e214,hr14⟩:∃ (l214:List Entry) (e214:Int),dQ b.book e213 2 (10+b0.aJ) d.sum=(l214,e214):=⟨_,_,rfl⟩
   refine aL 19 [8,18,0,9,10,11,12,14,15,16,7,5] (cg (aW [8]) (aW [8]) (ms:=((du.set 18 (some (dT b.book))).set 19 (some (cI e213)))) (ms':=((du.set 18 (some (dT l214))).set 19 (some (cI e214)))) (fun x hx=>jk x hx b.book e213 2 (10+b0.aJ) d.sum l214 e214 hr14) mz rfl rfl ⟨⟨_,rfl,.inl ⟨rfl,rfl⟩⟩,⟨_,rfl,.inr (.c (.d _))⟩,⟨_,rfl,.inr (.c (.d _))⟩,⟨_,rfl,.inr (.c (.d _))⟩,trivial⟩ rfl rfl rfl rfl rfl rfl rfl trivial rfl rfl rfl rfl rfl rfl rfl rfl rfl rfl rfl rfl rfl) rfl ?_
   refine bX ?_
   refine bl ?_
   refine then_ok ?_
   have hX:dK b b0 x1 d=(l213,b.due,l214,b.s0,b.s1,e214):=by
     unfold dK;(try simp only [hr1,hr2,hr13,hr14]);(repeat' split)<;>first|rfl|omega|(exfalso;omega)|(simp_all;done)|(simp_all;omega)
   rw [hX] at hj;clear hX;simp only [Prod.mk.injEq] at hj;obtain ⟨rfl,rfl,rfl,rfl,rfl,rfl⟩:=hj
   exact aD.bZ (fun k=>if k=13 then 18 else k) (by refine ⟨?_,?_,?_,?_,?_,trivial⟩<;>first|rfl|(simp only [bn];done)|(congr 3;omega)|(congr 4;omega)|(simp only [bo];rfl)) (by refine ⟨?_,?_,?_,?_,?_,?_,?_,?_,?_,?_,?_,?_,trivial⟩<;>first|rfl|(simp only [bn];done)|(congr 3;omega)|(congr 4;omega)|(simp only [bo];rfl)) rfl
  have hc15':=of_decide_eq_false hc15
  refine ad aa 2 rfl ?_
  refine ag rfl (fun hc16=>?_) (fun hc16=>?_)
  ·
   have hc16':=of_decide_eq_true hc16
   refine ad aa 2 rfl ?_
   refine aw ?_
   refine ab aa 2 rfl ?_
   obtain ⟨s215,e215,hr15⟩:∃ (s215:bP) (e215:Int),eA b.s0 0 (⟨0,3,d.n,d.sum⟩:aR)=(s215,e215):=⟨_,_,rfl⟩
   refine aL 18 [8,17,0,9,10,11,12,13,14,15,16,7,5] (cg (aW [8]) (aW [8]) (ms:=(((du.set 5 (some (cI b.s0.bF))).set 6 (some (dd b.s0.kept))).set 19 (some (cI 0)))) (ms':=(((du.set 5 (some (cI s215.bF))).set 6 (some (dd s215.kept))).set 19 (some (cI e215)))) (fun x hx=>sJ x hx b.s0 0 (⟨0,3,d.n,d.sum⟩:aR) (by assumption) s215 e215 hr15) yI rfl rfl ⟨⟨_,rfl,.inl ⟨rfl,rfl⟩⟩,⟨_,rfl,.inr (.c (.d _))⟩,⟨_,rfl,.inr (.g ⟨.d _,.d _,.d _,.d _,trivial⟩)⟩,trivial⟩ rfl rfl rfl rfl rfl rfl rfl trivial rfl rfl rfl rfl rfl rfl rfl rfl rfl rfl rfl rfl rfl) rfl ?_
   refine bX ?_
   refine bl ?_
   refine then_ok ?_
   have hX:dK b b0 x1 d=(b.an,b.due,b.book,s215,b.s1,e215):=by
     unfold dK;(try simp only [hr1,hr2,hr15]);(repeat' split)<;>first|rfl|omega|(exfalso;omega)|(simp_all;done)|(simp_all;omega)
   rw [hX] at hj;clear hX;simp only [Prod.mk.injEq] at hj;obtain ⟨rfl,rfl,rfl,rfl,rfl,rfl⟩:=hj
   exact aD.bZ id (by refine ⟨?_,?_,?_,?_,?_,trivial⟩<;>first|rfl|(simp only [bn];done)|(congr 3;omega)|(congr 4;omega)|(simp only [bo];rfl)) (by refine ⟨?_,?_,?_,?_,?_,?_,?_,?_,?_,?_,?_,?_,trivial⟩<;>first|rfl|(simp only [bn];done)|(congr 3;omega)|(congr 4;omega)|(simp only [bo];rfl)) rfl
  have hc16':=of_decide_eq_false hc16
  refine ad aa 2 rfl ?_
  refine ag rfl (fun hc17=>?_) (fun hc17=>?_)
  ·
   have hc17':=of_decide_eq_true hc17
   refine af ?_
   obtain ⟨l216,e216,hr16⟩:∃ (l216:List bx) (e216:Int),cx b.an 0 b0.aJ 0 (0 - d.sum)=(l216,e216):=⟨_,_,rfl⟩
   refine cW [0,1,4,6,8,10] [0,8,9,10,11,12,13,14,15,16,7,5] mixed rfl rfl ?_
   refine bR (kn:=[]) aa 7 rfl trivial ?_
   refine bV (n':=18) [204] [] rfl rfl (.inl ⟨(al.plain rfl),aH.cast (rH rfl rfl (aF (by first|omega|(simp;done)|(simp;omega)))) rfl⟩) rfl ?_
   refine bV (n':=19) [198,200,205] [13,8] rfl rfl (.inl ⟨(al.plain rfl),aH.cast (cg (aW [8,13]) (aW [8,18]) (ms:=((du.set 2 (some (.s 1 0 6 b.an.length))).set 19 (some (cI 0)))) (ms':=((du.set 2 (some (.s 1 0 6 l216.length))).set 19 (some (cI e216)))) (fun x hx=>iW x hx b.an 0 b0.aJ 0 (0 - d.sum) (by first|omega|(simp;done)|(simp;omega)) l216 e216 hr16) nE rfl rfl ⟨⟨_,rfl,.inl ⟨rfl,rfl⟩⟩,⟨_,rfl,.inr (.c (.d _))⟩,⟨_,rfl,.inr (.c (.d _))⟩,⟨_,rfl,.inr (.c (.d _))⟩,trivial⟩ rfl rfl rfl rfl rfl rfl rfl ⟨rfl,trivial⟩ rfl rfl rfl rfl rfl rfl rfl rfl rfl rfl rfl rfl rfl) rfl⟩) rfl ?_
   refine dP [0,1,4,6,8,10] [18,8,0,9,10,11,12,14,15,16,7,5] rfl rfl (by kernel_rfl) ?_
   refine then_ok ?_
   refine aw ?_
   refine ab aa 6 rfl ?_
   obtain ⟨l217,e217,hr17⟩:∃ (l217:List Entry) (e217:Int),dQ b.book e216 (10+b0.aJ) 2 d.sum=(l217,e217):=⟨_,_,rfl⟩
   refine aL 19 [8,18,0,9,10,11,12,14,15,16,7,5] (cg (aW [8]) (aW [8]) (ms:=((du.set 18 (some (dT b.book))).set 19 (some (cI e216)))) (ms':=((du.set 18 (some (dT l217))).set 19 (some (cI e217)))) (fun x hx=>jk x hx b.book e216 (10+b0.aJ) 2 d.sum l217 e217 hr17) mz rfl rfl ⟨⟨_,rfl,.inl ⟨rfl,rfl⟩⟩,⟨_,rfl,.inr (.c (.d _))⟩,⟨_,rfl,.inr (.c (.d _))⟩,⟨_,rfl,.inr (.c (.d _))⟩,trivial⟩ rfl rfl rfl rfl rfl rfl rfl trivial rfl rfl rfl rfl rfl rfl rfl rfl rfl rfl rfl rfl rfl) rfl ?_
   refine bX ?_
   refine bl ?_
   refine then_ok ?_
   have hX:dK b b0 x1 d=(l216,b.due,l217,b.s0,b.s1,e217):=by
     unfold dK;(try simp only [hr1,hr2,hr16,hr17]);(repeat' split)<;>first|rfl|omega|(exfalso;omega)|(simp_all;done)|(simp_all;omega)
   rw [hX] at hj;clear hX;simp only [Prod.mk.injEq] at hj;obtain ⟨rfl,rfl,rfl,rfl,rfl,rfl⟩:=hj
   exact aD.bZ (fun k=>if k=13 then 18 else k) (by refine ⟨?_,?_,?_,?_,?_,trivial⟩<;>first|rfl|(simp only [bn];done)|(congr 3;omega)|(congr 4;omega)|(simp only [bo];rfl)) (by refine ⟨?_,?_,?_,?_,?_,?_,?_,?_,?_,?_,?_,?_,trivial⟩<;>first|rfl|(simp only [bn];done)|(congr 3;omega)|(congr 4;omega)|(simp only [bo];rfl)) rfl
  have hc17':=of_decide_eq_false hc17
  refine cV ?_
  refine bl ?_
  refine then_ok ?_
  have hX:dK b b0 x1 d=(b.an,b.due,b.book,b.s0,b.s1,0):=by
    unfold dK;(try simp only [hr1,hr2]);(repeat' split)<;>first|rfl|omega|(exfalso;omega)|(simp_all;done)|(simp_all;omega)
  rw [hX] at hj;clear hX;simp only [Prod.mk.injEq] at hj;obtain ⟨rfl,rfl,rfl,rfl,rfl,rfl⟩:=hj
  exact aD.bZ id (by refine ⟨?_,?_,?_,?_,?_,trivial⟩<;>first|rfl|(simp only [bn];done)|(congr 3;omega)|(congr 4;omega)|(simp only [bo];rfl)) (by refine ⟨?_,?_,?_,?_,?_,?_,?_,?_,?_,?_,?_,?_,trivial⟩<;>first|rfl|(simp only [bn];done)|(congr 3;omega)|(congr 4;omega)|(simp only [bo];rfl)) rfl
 refine af ?_
 obtain ⟨l218,e218,hr18⟩:∃ (l218:List aj) (e218:Int),im b.aO je (⟨b0.ax,d.n,d.move,d.sum⟩:aj)=(l218,e218):=⟨_,_,rfl⟩
 refine cW [0,1,4,6,8] [0,8,9,10,11,12,13,14,15,16,7,5] mixed rfl rfl ?_
 refine bR (kn:=[]) aa 16 rfl trivial ?_
 refine bV (n':=18) [214,229] [16,8] rfl rfl (.inl ⟨(al.plain rfl),aH.cast (cg (aW [8,16]) (aW [8,17]) (ms:=((du.set 16 (some (.s 1 0 4 b.aO.length))).set 19 (some (cI je)))) (ms':=((du.set 16 (some (.s 1 0 4 l218.length))).set 19 (some (cI e218)))) (fun x hx=>Fj x hx b.aO je (⟨b0.ax,d.n,d.move,d.sum⟩:aj) (by first|omega|(simp;done)|(simp;omega)) l218 e218 hr18) GW rfl rfl ⟨⟨_,rfl,.inl ⟨rfl,rfl⟩⟩,⟨_,rfl,.inr (.g ⟨.d _,.d _,.d _,.d _,trivial⟩)⟩,trivial⟩ rfl rfl rfl rfl rfl rfl rfl ⟨rfl,trivial⟩ rfl rfl rfl rfl rfl rfl rfl rfl rfl rfl rfl rfl rfl) rfl⟩) rfl ?_
 refine dP [0,1,4,6,8] [17,8,0,9,10,11,12,13,14,15,7,5] rfl rfl (by kernel_rfl) ?_
 refine then_ok ?_
 refine af ?_
 refine bb [0,1,4,6,8] [17,8,0,9,10,11,12,13,14,15,7,5] mixed rfl rfl ?_
 refine aA (kn:=[]) aa 10 rfl trivial ?_
 refine aU (n':=18) [235,239] [15] rfl rfl (.inl ⟨(al.plain rfl),aH.cast (bq (i:=Int.toNat (d.n)) rfl rfl rfl Try.underlying31 ml (by first|omega|(simp;done)|(simp;omega)) (by first|omega|(simp;done)|(simp;omega))) rfl⟩) rfl ?_
 refine bB [17,8,0,9,10,11,12,13,14,15,7,5] rfl rfl rfl rfl (by kernel_rfl) ?_
 refine gf [17,8,0,9,10,11,12,13,14,15,7,5] (dM (ds:=[(dI b0.aJ),(dI b0.ax),(dI b0.sum),(dI b0.captured),(dI b0.bu),(dI b0.bh),(dI b0.cM),(dB b0.shut)]) rfl rfl rfl rfl rfl ml rfl (Nat.le_of_ble_eq_true rfl) (bw hx1) rfl (eL (x':=b0) rfl)) rfl ?_
 refine ae ?_
 rcases (show e218=0\/¬e218=0 from by omega) with hs18|hs18
 ·
  refine fx (k:=8) (q:=4) (c':=(.s 15 0 8 (((b.aq).set (Int.toNat (d.n)) b0).length))) rfl rfl (by first|rfl|(simp;done)|(congr 1;omega)) rfl ?_
  refine az aa 2 rfl ?_
  refine aL 22 [0,18,19,20,21,7,5] (cw (aW [0,8,9,10,11,12,13,14,15,17]) (aW [0,18,19,20,21]) (fg (x 17) (x 19) b (⟨b.time,b.down,jcards,jdue,(b.aq).set (Int.toNat (d.n)) b0,js0,js1,b.n0,b.n1,b.w0,b.w1,b.bG,l218,jbook⟩:Bk) e218 (by first|assumption|omega)) fD rfl rfl ⟨⟨_,rfl,.inl ⟨rfl,rfl⟩⟩,⟨_,rfl,.inl ⟨rfl,rfl⟩⟩,trivial⟩ ⟨rfl,rfl,rfl,rfl,rfl,rfl,rfl,rfl,rfl,rfl,trivial⟩ rfl rfl rfl rfl rfl rfl trivial ⟨⟨trivial,trivial,trivial,trivial,trivial,trivial,trivial,trivial,trivial,trivial,trivial,trivial,trivial,trivial,trivial,trivial,trivial,trivial,trivial,trivial,trivial⟩,(fun _ _ _ _=>trivial),(fun _ _ _ _=>trivial),(fun _ _ _ _=>trivial),(fun _ _ _ _=>trivial),trivial⟩ rfl rfl rfl rfl) rfl ?_
  refine ab aa 2 rfl ?_
  refine ae ?_
  refine ar ?_
  have hX:dv b d=((⟨b.time,b.down,jcards,jdue,(b.aq).set (Int.toNat (d.n)) b0,js0,js1,b.n0,b.n1,b.w0,b.w1,b.bG,l218,jbook⟩:Bk),(⟨e218,0⟩:Answer)):=by
    unfold dv;simp only [hdn,Bool.false_eq_true,if_false];rw [if_neg (by omega),hx1];dsimp only;simp only [hr0,hj0];unfold lZ dz;simp only [hr18];(repeat' split)<;>first|rfl|omega|(exfalso;omega)|(simp_all;done)|(simp_all;omega)
  rw [hX] at hr;clear hX
  simp only [Prod.mk.injEq] at hr;obtain ⟨rfl,rfl⟩:=hr
  refine ah aa [0,18,19,20,21,5] 5 rfl rfl rfl rfl rfl rfl ?_ ?_
  all_goals first|rfl|(simp [au,aT,aX];done)|(simp [au,aT,aX];omega)
 refine fx (k:=8) (q:=4) (c':=(.s 15 0 8 (((b.aq).set (Int.toNat (d.n)) b0).length))) rfl rfl (by first|rfl|(simp;done)|(congr 1;omega)) rfl ?_
 refine az aa 2 rfl ?_
 refine aL 22 [0,18,19,20,21,7,5] (cw (aW [0,8,9,10,11,12,13,14,15,17]) (aW [0,18,19,20,21]) (fS (x 17) (x 19) b (⟨b.time,b.down,jcards,jdue,(b.aq).set (Int.toNat (d.n)) b0,js0,js1,b.n0,b.n1,b.w0,b.w1,b.bG,l218,jbook⟩:Bk) e218 (by first|assumption|omega)) fD rfl rfl ⟨⟨_,rfl,.inl ⟨rfl,rfl⟩⟩,⟨_,rfl,.inl ⟨rfl,rfl⟩⟩,trivial⟩ ⟨rfl,rfl,rfl,rfl,rfl,rfl,rfl,rfl,rfl,rfl,trivial⟩ rfl rfl rfl rfl rfl rfl trivial ⟨⟨trivial,trivial,trivial,trivial,trivial,trivial,trivial,trivial,trivial,trivial,trivial,trivial,trivial,trivial,trivial,trivial,trivial,trivial,trivial,trivial,trivial⟩,(fun _ _ _ _=>trivial),(fun _ _ _ _=>trivial),(fun _ _ _ _=>trivial),(fun _ _ _ _=>trivial),trivial⟩ rfl rfl rfl rfl) rfl ?_
 refine ab aa 2 rfl ?_
 refine ae ?_
 refine ar ?_
 have hX:dv b d=(b,(⟨e218,0⟩:Answer)):=by
   unfold dv;simp only [hdn,Bool.false_eq_true,if_false];rw [if_neg (by omega),hx1];dsimp only;simp only [hr0,hj0];unfold lZ dz;simp only [hr18];(repeat' split)<;>first|rfl|omega|(exfalso;omega)|(simp_all;done)|(simp_all;omega)
 rw [hX] at hr;clear hX
 simp only [Prod.mk.injEq] at hr;obtain ⟨rfl,rfl⟩:=hr
 refine ah aa [0,18,19,20,21,5] 5 rfl rfl rfl rfl rfl rfl ?_ ?_
 all_goals first|rfl|(simp [au,aT,aX];done)|(simp [au,aT,aX];omega)
theorem Az (x:Nat->Value) (hx:∀ i,(x i).oneCell'=true) (b:Bk) (d:aS) (ok:ck b) (hdn:b.down=true) (b2:Bk) (a2:Answer) (hr:dv b d=(b2,a2)):cC Try.prog 64 [(.c (.p 0 0 0 0)),(.c (.q (cL d) 0))] [(0,(.box 98 (aT b 1 2 3 4 (.d (.v (x 17))) (.d (.v (x 19)))))),(1,(dO b.an)),(2,(dG b.due)),(3,(dV b.aq)),(4,(cG b.aO))] [0] (.v (.g [cI a2.err,cI a2.ba])) [(0,(.box 98 (aT b2 1 2 3 4 (.d (.v (x 17))) (.d (.v (x 19)))))),(1,(dO b2.an)),(2,(dG b2.due)),(3,(dV b2.aq)),(4,(cG b2.aO))]:=by
 refine cC.mk 246 [(0,(aC (.p 0 0 0 0))),(1,(aC (.q (cL d) 0)))] 5 Try.func64 rfl rfl rfl rfl rfl rfl rfl rfl rfl ?_
 intro W0 F0 T0 pg
 obtain ⟨okt,okc,okd,oka,oky,okw0,okw1,okp,okv,okk0,okk1,okg,okl0,okl1,okp0,okp1,okn0,okn1,okq⟩:=id ok
 refine ad aa 1 rfl ?_
 refine af ?_
 refine ad aa 5 rfl ?_
 refine ag rfl (fun _=>?_) (fun hno=>absurd (hdn.symm.trans hno) (by decide))
 refine ad aa 2 rfl ?_
 refine ar ?_
 refine ao ?_
 have hX:dv b d=(b,(⟨12,0⟩:Answer)):=by
   unfold dv;rw [if_pos hdn]
 rw [hX] at hr;clear hX
 simp only [Prod.mk.injEq] at hr;obtain ⟨rfl,rfl⟩:=hr
 refine ah aa [0,1,2,3,4,5] 5 rfl rfl rfl rfl rfl rfl ?_ ?_
 all_goals first|rfl|(simp [au,aT,aX];done)|(simp [au,aT,aX];omega)
theorem Cs (x:Nat->Value) (hx:∀ i,(x i).oneCell'=true) (b:Bk) (d:aS) (ok:ck b) (b2:Bk) (a2:Answer) (hr:dv b d=(b2,a2)):cC Try.prog 64 [(.c (.p 0 0 0 0)),(.c (.q (cL d) 0))] [(0,(.box 98 (aT b 1 2 3 4 (.d (.v (x 17))) (.d (.v (x 19)))))),(1,(dO b.an)),(2,(dG b.due)),(3,(dV b.aq)),(4,(cG b.aO))] [0] (.v (.g [cI a2.err,cI a2.ba])) [(0,(.box 98 (aT b2 1 2 3 4 (.d (.v (x 17))) (.d (.v (x 19)))))),(1,(dO b2.an)),(2,(dG b2.due)),(3,(dV b2.aq)),(4,(cG b2.aO))]:=by
  cases hdn:b.down
  ·exact Ay x hx b d ok hdn b2 a2 hr
  ·exact Az x hx b d ok hdn b2 a2 hr
theorem ga {α:Type} {l:List α} {n:Nat} {x y:α} (h:y∈l.set n x):y∈l\/y=x:=List.mem_or_eq_of_mem_set h
theorem jC {l:List bx} {e k x y:Int} (h:∀ c∈l,cr c=0):∀ c∈(cx l e k x y).1,cr c=0:=by
 unfold cx
 split
 ·exact h
 ·rename_i c hc
  split
  ·rename_i h0
   intro z hz
   rcases ga hz with hz|rfl
   ·exact h z hz
   ·have he:(dU c x y).2=0:=by unfold dt at h0;split at h0<;>omega
    rcases qi (show dU c x y=((dU c x y).1,(dU c x y).2) from rfl) with ⟨h1,_⟩|h1
    ·exact absurd he h1
    ·exact h1.2.2.2.2.2.2.2
  ·exact h
theorem vi {time:Int} {n m:Nat}:∀ (l:List bz) (i:Nat) (an:List bx) (aq:List bz) (e:Int),(∀ a∈l,bE a=0/\0<=a.aJ/\a.aJ < n/\0<=a.ax/\a.ax < m)->
  (∀ a∈aq,bE a=0/\0<=a.aJ/\a.aJ < n/\0<=a.ax/\a.ax < m)->(∀ c∈an,cr c=0)->
  (∀ c∈(fH time l i an aq e).1,cr c=0)/\(fH time l i an aq e).1.length=an.length/\(fH time l i an aq e).2.1.length=aq.length/\
  (∀ a∈(fH time l i an aq e).2.1,bE a=0/\0<=a.aJ/\a.aJ < n/\0<=a.ax/\a.ax < m)
 |[],_,_,_,_,_,h2,h3=>⟨h3,rfl,rfl,h2⟩
 |a::l,i,an,aq,e,h1,h2,h3=>by
  have ha:=h1 a List.mem_cons_self
  obtain ⟨r1,r2,r3,r4⟩:=vi l (i+1) (cx an e a.aJ (br (eh a time) - br a) 0).1 (aq.set i (eh a time)) (cx an e a.aJ (br (eh a time) - br a) 0).2
   (fun x hx=>h1 x (List.mem_cons_of_mem _ hx)) (fun x hx=>by
    rcases ga hx with hx|rfl
    ·exact h2 x hx
    ·exact ⟨xF ha.1,ha.2⟩) (jC h3)
  refine ⟨r1,r2.trans (ff _ _ _ _ _),r3.trans (List.length_set ..),r4⟩
theorem ck.late {b:Bk} (h:ck b):ck (gP b):=by
 unfold gP
 split
 ·obtain ⟨r1,r2,r3,r4⟩:=vi (time:=b.time) (n:=b.an.length) (m:=b.due.length) b.aq 0 b.an b.aq 0 h.perm h.perm h.right
  exact ⟨h.time,by rw [r2];exact h.an,h.due,by rw [r3];exact h.aq,h.aO,h.w0,h.w1,by dsimp only;rw [r2];exact r4,by dsimp only;rw [r2];exact h.jy,by dsimp only;rw [r3];exact h.k0,by dsimp only;rw [r3];exact h.k1,r1,h.l0,h.l1,by dsimp only;rw [r3];exact h.p0,by dsimp only;rw [r3];exact h.p1,h.n0,h.n1,h.calm⟩
 ·exact h
theorem ck.dz {b c:Bk} {e:Int} (h:ck b) (hc:e=0->ck c):ck (dz b c e).1:=by
 unfold Dev.dz;split
 ·exact hc (by assumption)
 ·exact h
theorem fI {e x:Int} (h:dt e x=0):e=0/\x=0:=by unfold dt at h;split at h<;>omega
theorem jI {l:List Entry} {e s d n:Int} (h:(dQ l e s d n).2=0):e=0/\(iU l s d n).2=0/\(dQ l e s d n).1=(iU l s d n).1:=by
 unfold dQ at h ⊢
 split at h
 ·rename_i h1;rw [if_pos h1];have:=fI h1;exact ⟨this.1,this.2,rfl⟩
 ·rename_i h1;exact absurd h h1
theorem ck.As {b:Bk} (h:ck b) {cs:List bx} {bk:List Entry} (h1:∀ c∈cs,cr c=0) (h2:cs.length=b.an.length):ck {b with an:=cs,book:=bk}:=
 ⟨h.time,by rw [h2];exact h.an,h.due,h.aq,h.aO,h.w0,h.w1,by dsimp only;rw [h2];exact h.perm,by dsimp only;rw [h2];exact h.jy,h.k0,h.k1,h1,h.l0,h.l1,h.p0,h.p1,h.n0,h.n1,h.calm⟩
theorem ck.load {b:Bk} (h:ck b) (d:aS):ck (fA b d).1:=by
 unfold fA
 split
 ·exact h
 split
 ·exact h
 ·exact h.dz fun _=>h.As (jC h.right) (ff _ _ _ _ _)
theorem ck.Dy {b:Bk} (h:ck b) {due:List Int} {bk:List Entry} (h2:due.length=b.due.length):ck {b with due:=due,book:=bk}:=
 ⟨h.time,h.an,by rw [h2];exact h.due,h.aq,h.aO,h.w0,h.w1,by dsimp only;rw [h2];exact h.perm,by dsimp only;rw [h2];exact h.jy,h.k0,h.k1,h.right,h.l0,h.l1,h.p0,h.p1,h.n0,h.n1,h.calm⟩
theorem ck.uZ {b:Bk} (h:ck b) (d:aS):ck (gV b d).1:=by
 unfold gV
 split
 ·exact h
 split
 ·exact h
 ·exact h.dz fun _=>h.Dy (List.length_set ..)
theorem ck.cH {b:Bk} (h:ck b) (d:aS):ck (fm b d).1:=by
 unfold fm
 split
 ·exact h
 ·have h1:ck {b with time:=b.time+d.sum}:=by have:=h.time;exact h.tick (by omega) (by omega)
  dsimp only
  split
  ·exact h1
  ·exact h1.late
theorem tj {l:List bU} {ks:List aR} {n:Int} {p:bU} (h:p∈gw l ks n):p∈l\/(∃ t∈ks,p=⟨t,-1⟩)\/p=⟨⟨0,0,0,0⟩,n⟩:=by
 unfold gw at h
 simp only [List.mem_append,List.mem_map,List.mem_singleton] at h
 rcases h with (h|⟨t,ht,rfl⟩)|h
 ·exact .inl h
 ·exact .inr (.inl ⟨t,ht,rfl⟩)
 ·exact .inr (.inr h)
structure xV (b:Bk) (n:Nat) (w:List bU):Prop where
 len:w.length<=60
 own:∀ p∈w,p.seen < 0->fF p.ct.number/\0<=p.ct.ba/\p.ct.ba < n
theorem ck.ways {b:Bk} (h:ck b) {v0 v1:List bU} (h0:xV b b.aq.length v0) (h1:xV b b.aq.length v1):ck {b with w0:=v0,w1:=v1}:=
 ⟨h.time,h.an,h.due,h.aq,h.aO,h0.len,h1.len,h.perm,h.jy,h.k0,h.k1,h.right,h.l0,h.l1,h0.own,h1.own,h.n0,h.n1,h.calm⟩
theorem uN {b:Bk} {w:List bU} {ks:List aR} {n:Int} (hn:0<=n) (h:xV b b.aq.length w) (hk:∀ t∈ks,fF t.number/\0<=t.ba/\t.ba < b.aq.length):xV b b.aq.length (ic w ks n).1:=by
 unfold ic
 split
 ·exact h
 ·refine ⟨by dsimp only;omega,fun p hp hs=>?_⟩
  rcases tj hp with hp|⟨t,ht,rfl⟩|rfl
  ·exact h.own p hp hs
  ·exact hk t ht
  ·simp at hs;omega
theorem ck.send {b:Bk} (h:ck b) (d:aS):ck {b with w0:=(ez b.s0 b.s1 b.n0 b.n1 b.w0 b.w1 d).1,w1:=(ez b.s0 b.s1 b.n0 b.n1 b.w0 b.w1 d).2.1}:=by
 have h0:xV b b.aq.length b.w0:=⟨h.w0,h.p0⟩
 have h1:xV b b.aq.length b.w1:=⟨h.w1,h.p1⟩
 unfold ez
 split
 ·exact h.ways h0 (uN h.n0 h1 h.k0)
 split
 ·exact h.ways (uN h.n1 h0 h.k1) h1
 ·exact h.ways h0 h1
theorem uO {s:bP} {e:Int} {t:aR} {n:Nat} (h:∀ t∈s.kept,fF t.number/\0<=t.ba/\t.ba < n) (hl:s.kept.length<=40) (ht:0<=t.ba/\t.ba < n):
  (∀ u∈(eA s e t).1.kept,fF u.number/\0<=u.ba/\u.ba < n)/\(eA s e t).1.kept.length<=40:=by
 unfold eA
 split
 ·rename_i h0
  have he:=(fI h0).2
  unfold fr at he
  split at he
  ·rename_i h1;exact absurd he h1
  split at he
  ·rename_i h1;exact absurd he h1
  ·rename_i h1 h2
   have hp:(fr s t).1=iL s t:=by unfold fr;rw [if_neg h1,if_neg h2]
   have hw:(cb (iL s t)).err=0:=by omega
   have hr:=rh hw
   dsimp only
   rw [hp]
   refine ⟨fun x hx=>?_,hr.1⟩
   rcases List.mem_append.1 hx with hx|hx
   ·exact h x hx
   ·obtain rfl:=List.mem_singleton.1 hx
    exact ⟨by have:=hr.2.1;have:=hr.2.2.1;constructor<;>simp only [iL,List.length_append] at *<;>omega,ht⟩
 ·exact ⟨h,hl⟩
theorem zI {l:List aj} {e:Int} {r:aj} (h:l.length<=100):(im l e r).1.length<=100:=by
 unfold im
 split
 ·exact h
 ·rw [List.length_append,List.length_singleton];omega
theorem yo {l:List aj} {e:Int} {r:aj} (h:(im l e r).2=0):e=0/\l.length≠100/\(im l e r).1=l++[r]:=by
 unfold im at h ⊢
 split at h
 ·have:=(fI h).2;omega
 ·rename_i h1;rw [if_neg h1];exact ⟨h,h1,rfl⟩
structure nZ (n:Nat) (s:bP):Prop where
 own:∀ t∈s.kept,fF t.number/\0<=t.ba/\t.ba < n
 len:s.kept.length<=40
theorem ck.tD {b:Bk} (h:ck b):nZ b.aq.length b.s0:=⟨h.k0,h.l0⟩
theorem ck.tC {b:Bk} (h:ck b):nZ b.aq.length b.s1:=⟨h.k1,h.l1⟩
theorem nZ.send {n:Nat} {s:bP} {e:Int} {t:aR} (h:nZ n s) (ht:0<=t.ba/\t.ba < n):nZ n (eA s e t).1:=⟨(uO h.own h.len ht).1,(uO h.own h.len ht).2⟩
theorem Cj {b:Bk} (h:ck b) (a cz:bz) (d:aS) (hn:0<=d.n/\d.n < b.aq.length):
  (∀ c∈(dK b a cz d).1,cr c=0)/\(dK b a cz d).1.length=b.an.length/\(dK b a cz d).2.1.length=b.due.length/\
  nZ b.aq.length (dK b a cz d).2.2.2.1/\nZ b.aq.length (dK b a cz d).2.2.2.2.1:=by
 unfold dK
 have hc:∀ e k x y,(∀ c∈(cx b.an e k x y).1,cr c=0)/\(cx b.an e k x y).1.length=b.an.length:=fun e k x y=>⟨jC h.right,ff _ _ _ _ _⟩
 split
 ·exact ⟨(hc ..).1,(hc ..).2,rfl,h.tD,h.tC⟩
 split
 ·exact ⟨(hc ..).1,(hc ..).2,rfl,h.tD.send hn,h.tC⟩
 split
 ·exact ⟨h.right,rfl,List.length_set ..,h.tD,h.tC.send hn⟩
 split
 ·exact ⟨(hc ..).1,(hc ..).2,rfl,h.tD,h.tC⟩
 split
 ·exact ⟨h.right,rfl,rfl,h.tD.send hn,h.tC⟩
 split
 ·exact ⟨(hc ..).1,(hc ..).2,rfl,h.tD,h.tC⟩
 ·exact ⟨h.right,rfl,rfl,h.tD,h.tC⟩
theorem ck.lF {b:Bk} (h:ck b) (d:aS):ck (dv b d).1:=by
 unfold dv
 split
 ·exact h
 split
 ·exact h
 rename_i hd hn
 have hn:0<=d.n/\d.n < b.aq.length:=by omega
 split
 ·exact h
 rename_i cz ho
 split
 ·exact h
 rename_i hm
 split
 ·exact h
 have hm:bW cz d.move d.sum=((bW cz d.move d.sum).1,0):=Prod.ext rfl (by dsimp only;omega)
 obtain ⟨m1,m2,m3,m4,_⟩:=my hm
 obtain ⟨r1,r2,r3,r4,r5⟩:=Cj h (bW cz d.move d.sum).1 cz d hn
 have hp:=h.perm cz (List.mem_of_getElem? ho)
 unfold lZ
 refine h.dz fun _=>⟨h.time,by rw [r2];exact h.an,by rw [r3];exact h.due,by rw [List.length_set];exact h.aq,zI h.aO,h.w0,h.w1,fun a ha=>?_,by dsimp only;rw [r2,r3];exact h.jy,by dsimp only;rw [List.length_set];exact r4.own,by dsimp only;rw [List.length_set];exact r5.own,r1,r4.len,r5.len,by dsimp only;rw [List.length_set];exact h.p0,by dsimp only;rw [List.length_set];exact h.p1,h.n0,h.n1,h.calm⟩
 dsimp only
 rw [r2,r3]
 rcases ga ha with ha|rfl
 ·exact h.perm a ha
 ·exact ⟨m2,by rw [m3,m4];exact hp.2⟩
theorem oE {aJ ax n time:Int} (h:(cY aJ ax n time).2=0):bE (cY aJ ax n time).1=0/\(cY aJ ax n time).1=⟨aJ,ax,n,0,0,0,time+100,false⟩/\¬(n < 1\/n > 1000000\/time < 0\/time > 1000000\/aJ < 0\/aJ > 7\/ax < 0\/ax > 7):=by
 unfold cY at h ⊢
 split at h
 ·cases h
 ·rename_i h1;rw [if_neg h1];exact ⟨rk (by dsimp only;omega),rfl,h1⟩
theorem BJ {s:cu} {a:ca} (h:(ch s a).2=0):(ch s a).1.aZ=s.aZ++[a]:=by
 unfold ch at h ⊢
 split at h
 ·rename_i h1;exact absurd h h1
 split at h
 ·cases h
 split at h
 ·cases h
 split at h
 ·cases h
 ·rename_i h1 h2 h3 h4;rw [if_neg h1,if_neg h2,if_neg h3,if_neg h4]
theorem rL {e:Int} (h:gz e=0):e=0:=by unfold gz at h;split at h<;>omega
theorem ck.asks {b:Bk} (h:ck b) (d:aS):ck (dD b d).1:=by
 unfold dD
 split
 ·exact h
 rename_i hn
 have hlen:∀ a∈b.bG.aZ++[(⟨d.n,d.ax,d.sum,b.time⟩:ca)],0<=a.aJ/\a.aJ < b.an.length/\0<=a.ax/\a.ax < b.due.length:=fun a ha=>by
  rcases List.mem_append.1 ha with ha|ha
  ·exact h.jy a ha
  ·obtain rfl:=List.mem_singleton.1 ha;dsimp only;omega
 split
 ·split
  ·exact h
  split
  ·exact h
  rename_i h1 h2
  have he:=rL (show gz (ch b.bG ⟨d.n,d.ax,d.sum,b.time⟩).2=0 by omega)
  have hg:=BJ he
  exact ⟨h.time,h.an,h.due,by dsimp only;omega,h.aO,h.w0,h.w1,h.perm,by dsimp only;rw [hg];exact hlen,h.k0,h.k1,h.right,h.l0,h.l1,h.p0,h.p1,h.n0,h.n1,fun hf=>by dsimp only at hf;simp_all⟩
 split
 ·exact h
 split
 ·exact h
 split
 ·exact h
 rename_i h1 h2 h3 c hc
 split
 ·exact h
 rename_i h4
 obtain ⟨w1,w2,w3⟩:=oE (show (cY d.n d.ax d.sum b.time).2=0 by omega)
 have hcr:cr (dF c d.sum b.time).1=0:=by
  rcases qJ (show dF c d.sum b.time=((dF c d.sum b.time).1,(dF c d.sum b.time).2) from rfl) with ⟨h5,_⟩|⟨h5,h6,h7,h8,h9,h10,h11,l,h12,h13⟩
  ·exact absurd h5 (by omega)
  ·rw [h13];have hr:=fW h6;exact pe (by dsimp only;omega) hr.2.2.2.2.1 (AQ h12)
 have hq:=h.calm (by cases hd:b.down with|true=>exact absurd hd (by assumption)|false=>rfl)
 have hl:b.aq.length+1<=30:=by have:=h.aq;rw [hq] at this;simp only [List.length_nil] at this;omega
 have hk:∀ {n:Int},n < (b.aq.length:Int)->n < ((b.aq++[(cY d.n d.ax d.sum b.time).1]).length:Int):=fun hn=>by rw [List.length_append,List.length_singleton];omega
 refine ⟨h.time,by rw [List.length_set];exact h.an,h.due,by dsimp only;rw [hq,List.length_append,List.length_singleton];exact hl,h.aO,h.w0,h.w1,fun a ha=>?_,by dsimp only;rw [List.length_set];exact h.jy,
  fun t ht=>⟨(h.k0 t ht).1,(h.k0 t ht).2.1,hk (h.k0 t ht).2.2⟩,fun t ht=>⟨(h.k1 t ht).1,(h.k1 t ht).2.1,hk (h.k1 t ht).2.2⟩,fun x hx=>?_,h.l0,h.l1,
  fun p hp hs=>⟨(h.p0 p hp hs).1,(h.p0 p hp hs).2.1,hk (h.p0 p hp hs).2.2⟩,fun p hp hs=>⟨(h.p1 p hp hs).1,(h.p1 p hp hs).2.1,hk (h.p1 p hp hs).2.2⟩,h.n0,h.n1,h.calm⟩
 ·dsimp only at ha ⊢
  rw [List.length_set]
  rcases List.mem_append.1 ha with ha|ha
  ·exact h.perm a ha
  ·obtain rfl:=List.mem_singleton.1 ha
   exact ⟨w1,by rw [w2];dsimp only;omega⟩
 ·rcases ga hx with hx|rfl
  ·exact h.right x hx
  ·exact hcr
theorem tz {α:Type} {p:α->Bool} {l:List α} {x:α} (h:x∈dr p l):x∈l:=(List.mem_filter.1 h).1
theorem nZ.back {n:Nat} {s:bP} (h:nZ n s) {seen:Int} (hb:(dL s seen).2=0):nZ n (dL s seen).1:=by
 rcases py (show dL s seen=((dL s seen).1,(dL s seen).2) from rfl) with ⟨h1,_⟩|⟨_,_,_,_,h2⟩
 ·exact absurd hb h1
 ·rw [h2];exact ⟨fun t ht=>h.own t (tz ht),Nat.le_trans (List.length_filter_le ..) h.len⟩
theorem uD {aq:List bz} {due:List Int} {an:List bx} {book:List Entry} {e:Int} {t:aR} (h:∀ c∈an,cr c=0):
  (dX aq due an book e t).1.length=due.length/\(∀ c∈(dX aq due an book e t).2.1,cr c=0)/\(dX aq due an book e t).2.1.length=an.length:=by
 unfold dX
 split
 ·exact ⟨rfl,h,rfl⟩
 split
 ·exact ⟨List.length_set ..,h,rfl⟩
 split
 ·exact ⟨rfl,jC h,ff _ _ _ _ _⟩
 split
 ·exact ⟨List.length_set ..,h,rfl⟩
 ·exact ⟨rfl,h,rfl⟩
theorem mZ {n:Int} {t:aR} (h:0<=n):0<=(fu n t).1:=by unfold fu;split<;>(dsimp only;omega)
theorem vI {α:Type} {l:List α} {n:Nat} {x:α} (h:x∈l.drop n):x∈l:=List.mem_of_mem_drop h
theorem ck.bf {b:Bk} (h:ck b) {cs:List bx} {due:List Int} {bk:List Entry} (h1:∀ c∈cs,cr c=0) (h2:cs.length=b.an.length) (h3:due.length=b.due.length):ck {b with an:=cs,due:=due,book:=bk}:=
 ⟨h.time,by rw [h2];exact h.an,by rw [h3];exact h.due,h.aq,h.aO,h.w0,h.w1,by dsimp only;rw [h2,h3];exact h.perm,by dsimp only;rw [h2,h3];exact h.jy,h.k0,h.k1,h1,h.l0,h.l1,h.p0,h.p1,h.n0,h.n1,h.calm⟩
theorem ck.xY {b:Bk} (h:ck b):ck {b with w0:=b.w0.drop 1}:=
 ⟨h.time,h.an,h.due,h.aq,h.aO,by dsimp only;rw [List.length_drop];have:=h.w0;omega,h.w1,h.perm,h.jy,h.k0,h.k1,h.right,h.l0,h.l1,fun p hp=>h.p0 p (vI hp),h.p1,h.n0,h.n1,h.calm⟩
theorem ck.xX {b:Bk} (h:ck b):ck {b with w1:=b.w1.drop 1}:=
 ⟨h.time,h.an,h.due,h.aq,h.aO,h.w0,by dsimp only;rw [List.length_drop];have:=h.w1;omega,h.perm,h.jy,h.k0,h.k1,h.right,h.l0,h.l1,h.p0,fun p hp=>h.p1 p (vI hp),h.n0,h.n1,h.calm⟩
theorem ck.FE {b:Bk} (h:ck b) {s:bP} (hs:nZ b.aq.length s):ck {b with s0:=s}:=
 ⟨h.time,h.an,h.due,h.aq,h.aO,h.w0,h.w1,h.perm,h.jy,hs.own,h.k1,h.right,hs.len,h.l1,h.p0,h.p1,h.n0,h.n1,h.calm⟩
theorem ck.FD {b:Bk} (h:ck b) {s:bP} (hs:nZ b.aq.length s):ck {b with s1:=s}:=
 ⟨h.time,h.an,h.due,h.aq,h.aO,h.w0,h.w1,h.perm,h.jy,h.k0,hs.own,h.right,h.l0,hs.len,h.p0,h.p1,h.n0,h.n1,h.calm⟩
theorem ck.CL {b:Bk} (h:ck b) {n:Int} (hn:0<=n):ck {b with n0:=n}:=
 ⟨h.time,h.an,h.due,h.aq,h.aO,h.w0,h.w1,h.perm,h.jy,h.k0,h.k1,h.right,h.l0,h.l1,h.p0,h.p1,hn,h.n1,h.calm⟩
theorem ck.CK {b:Bk} (h:ck b) {n:Int} (hn:0<=n):ck {b with n1:=n}:=
 ⟨h.time,h.an,h.due,h.aq,h.aO,h.w0,h.w1,h.perm,h.jy,h.k0,h.k1,h.right,h.l0,h.l1,h.p0,h.p1,h.n0,hn,h.calm⟩
theorem ck.Cx {b:Bk} (h:ck b) (d:aS):ck (fa b d).1:=by
 unfold fa
 split
 ·exact h
 split
 ·exact h.xY
 split
 ·split
  ·rename_i hb;exact h.xY.FE (h.tD.back hb)
  ·exact h
 split
 ·obtain ⟨r1,r2,r3⟩:=uD (aq:=b.aq) (due:=b.due) (book:=b.book) (e:=0) (t:=(by assumption:bU).ct) h.right
  exact h.dz fun _=>(h.xY.CL (mZ h.n0)).bf r2 r3 r1
 ·exact h.xY.CL (mZ h.n0)
theorem ck.Cw {b:Bk} (h:ck b) (d:aS):ck (eZ b d).1:=by
 unfold eZ
 split
 ·exact h
 split
 ·exact h.xX
 split
 ·split
  ·rename_i hb;exact h.xX.FD (h.tC.back hb)
  ·exact h
 split
 ·obtain ⟨r1,r2,r3⟩:=uD (aq:=b.aq) (due:=b.due) (book:=b.book) (e:=0) (t:=(by assumption:bU).ct) h.right
  exact h.dz fun _=>(h.xX.CK (mZ h.n1)).bf r2 r3 r1
 ·exact h.xX.CK (mZ h.n1)
theorem ck.lG {b:Bk} (h:ck b) (d:aS):ck (bQ b d).1:=by
 unfold bQ
 split
 ·exact h.Cx d
 split
 ·exact h.Cw d
 ·exact h
theorem oN {c:bx} {n:Int} (h:(eO c n).2=0):cr (eO c n).1=0/\(eO c n).1=⟨c.bf,c.held+n,c.bY,c.cD⟩/\cr c=0/\1<=n/\n<=1000000:=by
 unfold eO at h ⊢
 split at h
 ·rename_i h1;exact absurd h h1
 split at h
 ·cases h
 ·rename_i h1 h2
  rw [if_neg h1,if_neg h2]
  have hw:cr c=0:=by omega
  have hr:=fW hw
  exact ⟨pe (by dsimp only;omega) hr.2.2.2.2.1 hr.2.2.2.2.2,rfl,hw,by omega,by omega⟩
theorem zi {n m:Nat}:∀ (l:List ca) (cs:List bx) (xs:List bz),(∀ a∈l,0<=a.aJ/\a.aJ < n/\0<=a.ax/\a.ax < m)->cs.length=n->
  (∀ a∈xs,bE a=0/\0<=a.aJ/\a.aJ < n/\0<=a.ax/\a.ax < m)->(∀ c∈cs,cr c=0)->
  (∀ c∈(gh l cs xs).1,cr c=0)/\(gh l cs xs).1.length=n/\(∀ a∈(gh l cs xs).2.1,bE a=0/\0<=a.aJ/\a.aJ < n/\0<=a.ax/\a.ax < m)/\xs.length<=(gh l cs xs).2.1.length/\(gh l cs xs).2.1.length<=xs.length+l.length
 |[],cs,xs,_,h2,h3,h4=>⟨h4,h2,h3,Nat.le_refl _,Nat.le_refl _⟩
 |x::l,cs,xs,h1,h2,h3,h4=>by
  unfold gh
  split
  ·exact ⟨h4,h2,h3,Nat.le_refl _,by dsimp only;omega⟩
  rename_i e1
  split
  ·exact ⟨h4,h2,h3,Nat.le_refl _,by dsimp only;omega⟩
  rename_i c hc
  split
  ·exact ⟨h4,h2,h3,Nat.le_refl _,by dsimp only;omega⟩
  rename_i e2
  have hx:=h1 x List.mem_cons_self
  obtain ⟨w1,w2,w3⟩:=oE (show (cY x.aJ x.ax x.sum x.time).2=0 by omega)
  obtain ⟨f1,_⟩:=oN (show (eO c x.sum).2=0 by omega)
  obtain ⟨r1,r2,r3,r4,r5⟩:=zi l (cs.set x.aJ.toNat (eO c x.sum).1) (xs++[(cY x.aJ x.ax x.sum x.time).1]) (fun a ha=>h1 a (List.mem_cons_of_mem _ ha)) ((List.length_set ..).trans h2)
   (fun a ha=>by
    rcases List.mem_append.1 ha with ha|ha
    ·exact h3 a ha
    ·obtain rfl:=List.mem_singleton.1 ha;exact ⟨w1,by rw [w2];exact hx⟩)
   (fun z hz=>by
    rcases ga hz with hz|rfl
    ·exact h4 z hz
    ·exact f1)
  rw [List.length_append,List.length_singleton] at r4 r5
  exact ⟨r1,r2,r3,by omega,by rw [List.length_cons];omega⟩
theorem qH {s:cu} (h:(cQ s).2.2=0):bT s=0/\(cQ s).1=⟨s.cap,List.replicate s.used.length 0,[]⟩/\(cQ s).2.1=s.aZ:=by
 unfold cQ at h ⊢
 split at h
 ·rename_i h1;exact absurd h h1
 ·rename_i h1;rw [if_neg h1];exact ⟨by omega,rfl,rfl⟩
theorem ck.Bd {b:Bk} (h:ck b) (h1:(cQ b.bG).2.2=0):ck {b with an:=(gh (cQ b.bG).2.1 b.an b.aq).1,aq:=(gh (cQ b.bG).2.1 b.an b.aq).2.1,bG:=(cQ b.bG).1,down:=false}:=by
 obtain ⟨_,c1,c2⟩:=qH h1
 rw [c1,c2]
 obtain ⟨r1,r2,r3,r4,r5⟩:=zi b.bG.aZ b.an b.aq h.jy rfl h.perm h.right
 have hk:∀ {n:Int},n < (b.aq.length:Int)->n < ((gh b.bG.aZ b.an b.aq).2.1.length:Int):=fun hn=>by omega
 exact ⟨h.time,by rw [r2];exact h.an,h.due,by have:=h.aq;simp only [List.length_nil];omega,h.aO,h.w0,h.w1,by dsimp only;rw [r2];exact r3,fun a ha=>by simp at ha,
  fun t ht=>⟨(h.k0 t ht).1,(h.k0 t ht).2.1,hk (h.k0 t ht).2.2⟩,fun t ht=>⟨(h.k1 t ht).1,(h.k1 t ht).2.1,hk (h.k1 t ht).2.2⟩,r1,h.l0,h.l1,
  fun p hp hs=>⟨(h.p0 p hp hs).1,(h.p0 p hp hs).2.1,hk (h.p0 p hp hs).2.2⟩,fun p hp hs=>⟨(h.p1 p hp hs).1,(h.p1 p hp hs).2.1,hk (h.p1 p hp hs).2.2⟩,h.n0,h.n1,fun _=>rfl⟩
theorem Bg {l:List ca} {q:Nat} {x:ca} {cs:List bx} {xs:List bz} {a:bz} {e1 e2:Int} (h:l[q]?=some x) (hn:cY x.aJ x.ax x.sum x.time=(a,e1)) (hf:dt 0 e1=e2) (he:¬e2=0):gh (l.drop q) cs xs=(cs,xs,e2):=by
 rw [qf h,hn]
 have:e1=e2:=by unfold dt at hf;rw [if_pos rfl] at hf;exact hf
 subst this
 rw [if_pos he]
theorem Bf {l:List ca} {q:Nat} {x:ca} {cs:List bx} {xs:List bz} {a:bz} {c k:bx} {e1 e3 e4:Int} (h:l[q]?=some x) (hn:cY x.aJ x.ax x.sum x.time=(a,e1)) (hf1:dt 0 e1=0) (hc:cs[x.aJ.toNat]?=some c)
  (hF:eO c x.sum=(k,e3)) (hf:dt 0 e3=e4) (he:¬e4=0):gh (l.drop q) cs xs=(cs,xs,e4):=by
 rw [qf h,hn,hc]
 have h1:e1=0:=(fI hf1).2
 have:e3=e4:=by unfold dt at hf;rw [if_pos rfl] at hf;exact hf
 subst this h1
 dsimp only
 rw [if_neg (by simp),hF,if_pos he]
theorem Be {l:List ca} {q:Nat} {x:ca} {cs:List bx} {xs:List bz} {a:bz} {c k:bx} {e1 e3:Int} (h:l[q]?=some x) (hn:cY x.aJ x.ax x.sum x.time=(a,e1)) (hf1:dt 0 e1=0) (hc:cs[x.aJ.toNat]?=some c)
  (hF:eO c x.sum=(k,e3)) (hf:dt 0 e3=0):gh (l.drop q) cs xs=gh (l.drop (q+1)) (cs.set x.aJ.toNat k) (xs++[a]):=by
 rw [qf h,hn,hc]
 have h1:e1=0:=(fI hf1).2
 have h3:e3=0:=(fI hf).2
 subst h3 h1
 dsimp only
 rw [if_neg (by simp),hF,if_neg (by simp)]
theorem Df {l:List ca} {q:Nat} {cs:List bx} {xs:List bz} (h:¬q < l.length):gh (l.drop q) cs xs=(cs,xs,0):=by
 rw [List.drop_of_length_le (by omega)];rfl
theorem zj {b:Bk} {s:cu} {l:List ca} {cs:List bx} {xs:List bz} {e:Int} (hd:b.down=true) (h:cQ b.bG=(s,l,0)) (hL:gh l b.an b.aq=(cs,xs,e)) (he:¬e=0):jg b=(b,⟨e,0⟩):=by
 unfold jg
 rw [if_neg (by rw [hd];simp),h]
 dsimp only
 rw [if_neg (by simp),hL]
 dsimp only
 rw [if_pos he]
theorem DR {b:Bk} {s:cu} {l:List ca} {cs:List bx} {xs:List bz} (hd:b.down=true) (h:cQ b.bG=(s,l,0)) (hL:gh l b.an b.aq=(cs,xs,0)):
  jg b=(gP {b with an:=cs,aq:=xs,bG:=s,down:=false},⟨0,0⟩):=by
 unfold jg
 rw [if_neg (by rw [hd];simp),h]
 dsimp only
 rw [if_neg (by simp),hL]
 dsimp only
 rw [if_neg (by simp)]
theorem ck.FA {b:Bk} (hb:ck b) {s:cu} {l:List ca} {cs:List bx} {xs:List bz} (h:cQ b.bG=(s,l,0)) (hL:gh l b.an b.aq=(cs,xs,0)):
  ck {b with an:=cs,aq:=xs,bG:=s,down:=false}:=by
 have:=hb.Bd (by rw [h])
 rw [h] at this;dsimp only at this;rw [hL] at this;exact this
theorem ck.DQ {b:Bk} (h:ck b):ck (jg b).1:=by
 unfold jg
 split
 ·exact h
 split
 ·exact h
 split
 ·exact h
 ·exact (h.Bd (by omega)).late
theorem ck.qj {b:Bk} (h:ck b) {t:List aj} (ht:t.length<=100):ck {b with aO:=t}:=
 ⟨h.time,h.an,h.due,h.aq,ht,h.w0,h.w1,h.perm,h.jy,h.k0,h.k1,h.right,h.l0,h.l1,h.p0,h.p1,h.n0,h.n1,h.calm⟩
theorem lS {t:List aj} {y:List (List Int)} (h:t.length<=100):(iT t y).1.length<=100/\(iT t y).2.1.length<=y.length+1:=by
 unfold iT
 split
 ·exact ⟨h,Nat.le_succ _⟩
 ·exact ⟨by simp,by simp⟩
theorem ck.Ch {b:Bk} (h:ck b) (y:List (List Int)) (d:aS):ck (dc b y d).1/\(dc b y d).2.1.length<=y.length+1:=by
 unfold dc
 split
 ·exact ⟨h.load d,Nat.le_succ _⟩
 split
 ·exact ⟨h.asks d,Nat.le_succ _⟩
 split
 ·exact ⟨h.lF d,Nat.le_succ _⟩
 split
 ·exact ⟨h.cH d,Nat.le_succ _⟩
 split
 ·exact ⟨h.send d,Nat.le_succ _⟩
 split
 ·exact ⟨h.lG d,Nat.le_succ _⟩
 split
 ·split
  ·exact ⟨h,Nat.le_succ _⟩
  ·exact ⟨⟨h.time,h.an,h.due,h.aq,h.aO,h.w0,h.w1,h.perm,h.jy,h.k0,h.k1,h.right,h.l0,h.l1,h.p0,h.p1,h.n0,h.n1,fun h=>by cases h⟩,Nat.le_succ _⟩
 split
 ·exact ⟨h.DQ,Nat.le_succ _⟩
 split
 ·exact ⟨h.qj (lS h.aO).1,(lS (y:=y) h.aO).2⟩
 split
 ·exact ⟨h.uZ d,Nat.le_succ _⟩
 ·exact ⟨h,Nat.le_succ _⟩
theorem ck.once {b:Bk} (h:ck b) (y:List (List Int)) (told:List (Int×Answer)) (cl:Nat) (d:aS):ck (fG b y told cl d).1/\(fG b y told cl d).2.1.length<=y.length+1:=by
 unfold fG
 split
 ·exact ⟨h,Nat.le_succ _⟩
 ·exact h.Ch y d
theorem tk:∀ {l:List dk} {i:Int},(oC l i).err=0->∀ p∈l,fi p=0
 |p::l,i,h,x,hx=>by
  unfold oC at h
  split at h
  ·rename_i h1;exact absurd h h1
  ·rename_i h1
   rcases List.mem_cons.1 hx with rfl|hx
   ·omega
   ·exact tk h x hx
theorem kJ {s:Setup} (h:(ey s).err=0):s.cX.length<=8/\0<=s.iE/\s.iE<=8/\0<=s.cap/\s.cap<=1000000/\∀ p∈s.cX,fi p=0:=by
 unfold ey at h
 split at h
 ·cases h
 split at h
 ·cases h
 ·exact ⟨by omega,by omega,by omega,by omega,by omega,tk h⟩
theorem ck.start {s:Setup} (h:(ey s).err=0):ck (iv s):=by
 obtain ⟨h1,h2,h3,h4,h5,h6⟩:=kJ h
 have hn:dw s.cap s.cX.length=({cap:=s.cap,used:=List.replicate s.cX.length 0,aZ:=[]},0):=pO h1 ⟨h4,h5⟩
 unfold iv
 rw [hn]
 refine ⟨by dsimp only;omega,by simpa using h1,by simp;omega,by simp,by simp,by simp,by simp,by simp,by simp,by simp,by simp,fun c hc=>?_,by simp,by simp,by simp,by simp,by simp,by simp,fun _=>rfl⟩
 obtain ⟨p,hp,rfl⟩:=List.mem_map.1 hc
 exact pe (c:=⟨0,0,p,[]⟩) (by dsimp only;omega) (h6 p hp) (sc.2 ⟨by simp,by simp,by simp⟩)
end Go.Proofs.Ytegepioggeggaaa.Dev
