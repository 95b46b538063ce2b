/- A part of the proof: Bank8, Bank9, PlOk. No condition. -/
import Derived.Test.YtegepioggeggaaaD11
set_option linter.unusedVariables false
set_option linter.unusedSimpArgs false
set_option maxHeartbeats 8000000
set_option maxRecDepth 100000
namespace Go.Proofs.Ytegepioggeggaaa.Dev
open Go.RowKit

theorem EF (x:Nat->Value) (hx:∀ i,(x i).oneCell'=true) (b:Bk) (d:aR) (ok:ch b) (hdn:b.down=false) (b2:Bk) (a2:Answer) (hr:dD b d=(b2,a2)):cz Try.prog 63 [(.c (.p 0 0 0 0)),(.c (.q (cL d) 0))] [(0,(.box 98 (aS b 1 2 3 4 (.d (.v (x 17))) (.d (.v (x 19)))))),(1,(dN b.an)),(2,(dF b.due)),(3,(dU b.aq)),(4,(cF b.aQ))] [0] (.v (.g [cI a2.err,cI a2.ba])) [(0,(.box 98 (aS b2 1 2 3 4 (.d (.v (x 17))) (.d (.v (x 19)))))),(1,(dN b2.an)),(2,(dF b2.due)),(3,(dU b2.aq)),(4,(cF b2.aQ))]:=by
 refine cz.mk 214 [(0,(aC (.p 0 0 0 0))),(1,(aC (.q (cL d) 0)))] 5 Try.func63 rfl rfl rfl rfl rfl rfl rfl rfl rfl ?_
 intro W0 F0 T0 pg
 obtain ⟨okt,okc,okd,oka,oky,okw0,okw1,okp,okv,okk0,okk1,okg,okl0,okl1,okp0,okp1,okn0,okn1,okq⟩:=id ok
 refine ad aa 1 rfl ?_
 refine af ?_
 refine af ?_
 rcases Bool.eq_false_or_eq_true (decide (d.n < 0)) with hb1|hb1
 ·
  have hb1':=of_decide_eq_true hb1
  refine bb [0,1,4] [5,0,1,2,3,4] mixed rfl rfl ?_
  refine az (kn:=[(14,true)]) aa 38 rfl ⟨hb1,trivial⟩ ?_
  refine bA [5,0,1,2,3,4] rfl rfl rfl rfl (by kernel_rfl) ?_
  refine ae ?_
  refine ag rfl (fun _=>?_) (fun hno=>by cases hno)
  refine ad aa 2 rfl ?_
  refine ar ?_
  refine ao ?_
  have hX:dD b d=(b,(⟨6,0⟩:Answer)):=by
    unfold dD;(try simp only [hdn,Bool.false_eq_true,if_false]);(repeat' split)<;>first|rfl|omega|(exfalso;omega)|(simp_all;done)|(simp_all;omega)
  rw [hX] at hr;clear hX
  simp only [Prod.mk.injEq] at hr;obtain ⟨rfl,rfl⟩:=hr
  refine ah aa [0,1,2,3,4,5] 5 rfl rfl rfl rfl rfl rfl ?_ ?_
  all_goals first|rfl|(simp [au,aS,aY];done)|(simp [au,aS,aY];omega)
 have hb1':=of_decide_eq_false hb1
 rcases Bool.eq_false_or_eq_true (decide (d.n>=(↑b.an.length:Int))) with hb3|hb3
 ·
  have hb3':=of_decide_eq_true hb3
  refine bb [0,1,4] [5,0,1,2,3,4] mixed rfl rfl ?_
  refine az (kn:=[(14,false)]) aa 15 rfl ⟨hb1,trivial⟩ ?_
  refine aT (n':=6) [24,15] [1] rfl rfl (.inl ⟨(aj.yes rfl rfl rfl),aH.cast (dn rfl rfl rfl rfl rfl Try.underlying29) rfl⟩) rfl ?_
  refine az (kn:=[(26,true)]) aa 22 rfl ⟨hb3,trivial⟩ ?_
  refine bA [5,0,1,2,3,4] rfl rfl rfl rfl (by kernel_rfl) ?_
  refine ae ?_
  refine ag rfl (fun _=>?_) (fun hno=>by cases hno)
  refine ad aa 2 rfl ?_
  refine ar ?_
  refine ao ?_
  have hX:dD b d=(b,(⟨6,0⟩:Answer)):=by
    unfold dD;(try simp only [hdn,Bool.false_eq_true,if_false]);(repeat' split)<;>first|rfl|omega|(exfalso;omega)|(simp_all;done)|(simp_all;omega)
  rw [hX] at hr;clear hX
  simp only [Prod.mk.injEq] at hr;obtain ⟨rfl,rfl⟩:=hr
  refine ah aa [0,1,2,3,4,5] 5 rfl rfl rfl rfl rfl rfl ?_ ?_
  all_goals first|rfl|(simp [au,aS,aY];done)|(simp [au,aS,aY];omega)
 have hb3':=of_decide_eq_false hb3
 rcases Bool.eq_false_or_eq_true (decide (d.ay < 0)) with hb5|hb5
 ·
  have hb5':=of_decide_eq_true hb5
  refine bb [0,1,4] [5,0,1,2,3,4] mixed rfl rfl ?_
  refine az (kn:=[(14,false)]) aa 15 rfl ⟨hb1,trivial⟩ ?_
  refine aT (n':=6) [24,15] [1] rfl rfl (.inl ⟨(aj.yes rfl rfl rfl),aH.cast (dn rfl rfl rfl rfl rfl Try.underlying29) rfl⟩) rfl ?_
  refine az (kn:=[(26,false),(33,true)]) aa 22 rfl ⟨hb3,hb5,trivial⟩ ?_
  refine bA [5,0,1,2,3,4] rfl rfl rfl rfl (by kernel_rfl) ?_
  refine ae ?_
  refine ag rfl (fun _=>?_) (fun hno=>by cases hno)
  refine ad aa 2 rfl ?_
  refine ar ?_
  refine ao ?_
  have hX:dD b d=(b,(⟨6,0⟩:Answer)):=by
    unfold dD;(try simp only [hdn,Bool.false_eq_true,if_false]);(repeat' split)<;>first|rfl|omega|(exfalso;omega)|(simp_all;done)|(simp_all;omega)
  rw [hX] at hr;clear hX
  simp only [Prod.mk.injEq] at hr;obtain ⟨rfl,rfl⟩:=hr
  refine ah aa [0,1,2,3,4,5] 5 rfl rfl rfl rfl rfl rfl ?_ ?_
  all_goals first|rfl|(simp [au,aS,aY];done)|(simp [au,aS,aY];omega)
 have hb5':=of_decide_eq_false hb5
 refine bb [0,1,4] [5,0,1,2,3,4] mixed rfl rfl ?_
 refine az (kn:=[(14,false)]) aa 15 rfl ⟨hb1,trivial⟩ ?_
 refine aT (n':=6) [24,15] [1] rfl rfl (.inl ⟨(aj.yes rfl rfl rfl),aH.cast (dn rfl rfl rfl rfl rfl Try.underlying29) rfl⟩) rfl ?_
 refine az (kn:=[(26,false),(33,false)]) aa 19 rfl ⟨hb3,hb5,trivial⟩ ?_
 refine aT (n':=6) [44,35] [2] rfl rfl (.inl ⟨(aj.yes rfl rfl rfl),aH.cast (dn rfl rfl rfl rfl rfl Try.underlying30) rfl⟩) rfl ?_
 refine az (kn:=[]) aa 2 rfl trivial ?_
 refine bA [5,0,1,2,3,4] rfl rfl rfl rfl (by kernel_rfl) ?_
 refine ae ?_
 refine ag rfl (fun hc7=>?_) (fun hc7=>?_)
 ·
  have hc7':=of_decide_eq_true hc7
  refine ad aa 2 rfl ?_
  refine ar ?_
  refine ao ?_
  have hX:dD b d=(b,(⟨6,0⟩:Answer)):=by
    unfold dD;(try simp only [hdn,Bool.false_eq_true,if_false]);(repeat' split)<;>first|rfl|omega|(exfalso;omega)|(simp_all;done)|(simp_all;omega)
  rw [hX] at hr;clear hX
  simp only [Prod.mk.injEq] at hr;obtain ⟨rfl,rfl⟩:=hr
  refine ah aa [0,1,2,3,4,5] 5 rfl rfl rfl rfl rfl rfl ?_ ?_
  all_goals first|rfl|(simp [au,aS,aY];done)|(simp [au,aS,aY];omega)
 have hc7':=of_decide_eq_false hc7
 refine aN ?_
 refine af ?_
 refine ad aa 5 rfl ?_
 refine ag rfl (fun hno=>absurd (hdn.symm.trans hno) (by decide)) (fun _=>?_)
 refine aN ?_
 refine af ?_
 obtain ⟨b0,e0,hr0⟩:∃ (b0:bB) (e0:Int),cY d.n d.ay d.sum b.time=(b0,e0):=⟨_,_,rfl⟩
 refine cW [0,1,4] [5,0,1,2,3,4] mixed rfl rfl ?_
 refine bQ (kn:=[]) aa 17 rfl trivial ?_
 refine bV (n':=6) [123,127,131,136] [] rfl rfl (.inl ⟨(aj.plain rfl),aH.cast (bO 6 (rp d.n d.ay d.sum b.time b0 e0 hr0) Eg rfl rfl ⟨⟨_,rfl,.c (.d _)⟩,⟨_,rfl,.c (.d _)⟩,⟨_,rfl,.c (.d _)⟩,⟨_,rfl,.c (.d _)⟩,trivial⟩ ⟨⟨trivial,trivial,trivial,trivial,trivial,trivial,trivial,trivial,trivial⟩,trivial,trivial⟩ trivial rfl rfl rfl rfl) rfl⟩) rfl ?_
 refine bQ (n':=7) (kn:=[]) aa 6 rfl trivial ?_
 refine dO [0,1,4,7,8] [6,5,0,1,2,3,4] rfl rfl (by kernel_rfl) ?_
 refine then_ok ?_
 refine af ?_
 refine cp 150 ((decide (e0=0)) && (decide ((↑b.aq.length:Int)=30))) ?_ ?_
 ·
  refine aw ?_
  refine ab aa 3 rfl ?_
  refine bz (t:=142) rfl (fun hb9=>?_) (fun hb9=>?_)
  ·
   have hb9':=of_decide_eq_true hb9
   refine ab aa 5 rfl ?_
   refine dP (aj.yes rfl rfl rfl) (dn rfl rfl rfl rfl rfl Try.underlying31) rfl rfl ?_
   refine ab aa 2 rfl ?_
   refine ae ?_
   exact aD.bD 12 rfl rfl (by first|(simp [hb9];done)|(simp_all;done)|(exfalso;simp_all;done)|(simp_all;omega)) rfl
  have hb9':=of_decide_eq_false hb9
  refine ab aa 8 rfl ?_
  refine ae ?_
  exact aD.bD 12 rfl rfl (by first|(simp [hb9];done)|(simp_all;done)|(exfalso;simp_all;done)|(simp_all;omega)) rfl
 refine ag rfl (fun hc10=>?_) (fun hc10=>?_)
 ·
  have hc10':=hc10;try simp only [bj,bL] at hc10'
  refine aw ?_
  refine ab aa 1 rfl ?_
  refine ae ?_
  refine af ?_
  refine aA aa 1 rfl ?_
  refine ax (aJ rfl rfl rfl (show _=some (Value.bool true) from rfl)) rfl ?_
  refine ae ?_
  refine ag rfl (fun _=>?_) (fun hno=>by cases hno)
  refine ad aa 3 rfl ?_
  refine ar ?_
  refine ao ?_
  have hX:dD b d=(b,(⟨5,0⟩:Answer)):=by
    unfold dD;(try simp only [hdn,Bool.false_eq_true,if_false,hr0]);(repeat' split)<;>first|rfl|omega|(exfalso;omega)|(simp_all;done)|(simp_all;omega)
  rw [hX] at hr;clear hX
  simp only [Prod.mk.injEq] at hr;obtain ⟨rfl,rfl⟩:=hr
  refine ah aa [0,1,2,3,4,5] 5 rfl rfl rfl rfl rfl rfl ?_ ?_
  all_goals first|rfl|(simp [au,aS,aY];done)|(simp [au,aS,aY];omega)
 have hc10':=hc10;try simp only [bj,bL] at hc10'
 refine aN ?_
 refine af ?_
 refine ad aa 2 rfl ?_
 refine ag rfl (fun hc12=>?_) (fun hc12=>?_)
 ·
  have hc12':=of_decide_eq_true hc12
  refine ad aa 3 rfl ?_
  refine ar ?_
  refine ao ?_
  have hX:dD b d=(b,(⟨e0,0⟩:Answer)):=by
    unfold dD;(try simp only [hdn,Bool.false_eq_true,if_false,hr0]);(repeat' split)<;>first|rfl|omega|(exfalso;omega)|(simp_all;done)|(simp_all;omega)
  rw [hX] at hr;clear hX
  simp only [Prod.mk.injEq] at hr;obtain ⟨rfl,rfl⟩:=hr
  refine ah aa [0,1,2,3,4,5] 5 rfl rfl rfl rfl rfl rfl ?_ ?_
  all_goals first|rfl|(simp [au,aS,aY];done)|(simp [au,aS,aY];omega)
 have hc12':=of_decide_eq_false hc12
 refine aN ?_
 refine af ?_
 obtain ⟨x1,hx1⟩:=ck (xs:=b.an) (i:=Int.toNat (d.n)) (by first|omega|(simp;done)|(simp;omega))
 obtain ⟨xr1,e1,hr1⟩:∃ (xr1:bx) (e1:Int),dE x1 d.sum b.time=(xr1,e1):=⟨_,_,rfl⟩
 refine cW [0,1,4,7] [6,5,0,1,2,3,4] mixed rfl rfl ?_
 refine bQ (kn:=[]) aa 9 rfl trivial ?_
 refine bV (n':=7) [160,164] [1] rfl rfl (.inl ⟨(aj.plain rfl),aH.cast (bo (i:=Int.toNat (d.n)) rfl rfl rfl Try.underlying29 ig (by first|omega|(simp;done)|(simp;omega)) (by first|omega|(simp;done)|(simp;omega))) rfl⟩) rfl ?_
 refine bV (n':=7) [165] [1] rfl rfl (.inl ⟨(aj.plain rfl),aH.cast (da rfl rfl rfl Try.underlying61 rfl ig (bu hx1) rfl) rfl⟩) rfl ?_
 refine bQ (kn:=[]) aa 9 rfl trivial ?_
 refine bV (n':=7) [166,170,175] [] rfl rfl (.inl ⟨(aj.plain rfl),aH.cast (bO 7 (Fn.frozen (av':=(.t [(.g [(cI xr1.bp),(cI xr1.held),(cI xr1.bX.cH),(cI xr1.bX.count),(cI xr1.bX.sum),(fm xr1.cD)]),(.c (cI e1))])) (vy x1 d.sum b.time xr1 e1 hr1) ⟨⟨.inl ⟨_,rfl,rfl⟩,.inl ⟨_,rfl,rfl⟩,.inl ⟨_,rfl,rfl⟩,.inl ⟨_,rfl,rfl⟩,.inl ⟨_,rfl,rfl⟩,.inr ⟨_,_,_,_,_,rfl,rfl,rfl,by simp⟩,trivial⟩,.inl ⟨_,rfl,rfl⟩,trivial⟩) Gp rfl rfl ⟨⟨_,rfl,.g ⟨.d _,.d _,.d _,.d _,.d _,.d _,trivial⟩⟩,⟨_,rfl,.c (.d _)⟩,⟨_,rfl,.c (.d _)⟩,trivial⟩ ⟨⟨trivial,trivial,trivial,trivial,trivial,trivial,trivial⟩,trivial,trivial⟩ trivial rfl rfl rfl rfl) rfl⟩) rfl ?_
 refine bQ (n':=8) (kn:=[]) aa 6 rfl trivial ?_
 refine dO [0,1,4,7,9,8] [7,6,5,0,1,2,3,4] rfl rfl (by kernel_rfl) ?_
 refine then_ok ?_
 refine af ?_
 refine ad aa 2 rfl ?_
 refine ag rfl (fun hc13=>?_) (fun hc13=>?_)
 ·
  have hc13':=of_decide_eq_true hc13
  refine ad aa 3 rfl ?_
  refine ar ?_
  refine ao ?_
  have hX:dD b d=(b,(⟨e1,0⟩:Answer)):=by
    unfold dD;(try simp only [hdn,Bool.false_eq_true,if_false,hr0,hr1,hx1]);(repeat' split)<;>first|rfl|omega|(exfalso;omega)|(simp_all;done)|(simp_all;omega)
  rw [hX] at hr;clear hX
  simp only [Prod.mk.injEq] at hr;obtain ⟨rfl,rfl⟩:=hr
  refine ah aa [0,1,2,3,4,5] 5 rfl rfl rfl rfl rfl rfl ?_ ?_
  all_goals first|rfl|(simp [au,aS,aY];done)|(simp [au,aS,aY];omega)
 have hc13':=of_decide_eq_false hc13
 refine aN ?_
 refine af ?_
 refine bb [0,1,4,7,9] [7,6,5,0,1,2,3,4] mixed rfl rfl ?_
 refine az (kn:=[]) aa 10 rfl trivial ?_
 refine aT (n':=8) [187,191] [1] rfl rfl (.inl ⟨(aj.plain rfl),aH.cast (bo (i:=Int.toNat (d.n)) rfl rfl rfl Try.underlying29 ig (by first|omega|(simp;done)|(simp;omega)) (by first|omega|(simp;done)|(simp;omega))) rfl⟩) rfl ?_
 refine bA [7,6,5,0,1,2,3,4] rfl rfl rfl rfl (by kernel_rfl) ?_
 refine fY [7,6,5,0,1,2,3,4] (dL (ds:=[(dI xr1.bp),(dI xr1.held),(dI xr1.bX.cH),(dI xr1.bX.count),(dI xr1.bX.sum),(Ew xr1.cD)]) rfl rfl rfl rfl rfl ig rfl (Nat.le_of_ble_eq_true rfl) (bu hx1) rfl (eH (x':=xr1) rfl)) rfl ?_
 refine ae ?_
 refine fu (k:=0) (q:=2) (c':=(.s 1 0 6 (((b.an).set (Int.toNat (d.n)) xr1).length))) rfl rfl (by first|rfl|(simp;done)|(congr 1;omega)) rfl ?_
 refine af ?_
 refine bb [0,4,7] [6,5,0,1,2,3,4] mixed rfl rfl ?_
 refine az (kn:=[]) aa 7 rfl trivial ?_
 refine aT (n':=9) [200] [] rfl rfl (.inl ⟨(aj.plain rfl),aH.cast (dA (ys:=[(0,(.g [(cI b0.aK),(cI b0.ay),(cI b0.sum),(cI b0.captured),(cI b0.bw),(cI b0.bg),(cI b0.cO),(cB b0.shut)]))]) (rows:=([b0]).map iJ) 8 rH rfl (by decide) ⟨⟨rfl,rfl⟩,trivial⟩ rfl rfl rfl rfl) rfl⟩) rfl ?_
 refine aT (n':=10) [199,201] [8,3] rfl rfl (.inl ⟨(aj.plain rfl),aH.cast (de (m:=1) (N:=b.aq.length+1) (k2:=9) (ys:=([b0]).map iJ) rH rfl rfl rfl rfl rfl rfl (by first|omega|(simp;done)|(simp;omega)) rfl (.s rfl (by first|omega|(simp;done)|(simp;omega))) (by first|omega|(simp;done)|(simp;omega)) (by first|omega|(simp;done)|(simp;omega)) eY (by decide) (by first|omega|(simp;done)|(simp;omega)) (by first|omega|(simp;done)|(simp;omega))) rfl⟩) rfl ?_
 refine az (kn:=[]) aa 3 rfl trivial ?_
 refine bA [9,6,5,0,1,2,4] rfl rfl rfl rfl (by kernel_rfl) ?_
 refine ab aa 1 rfl ?_
 refine ae ?_
 refine fu (k:=0) (q:=4) (c':=(.s 9 0 8 ((b.aq++([b0])).length))) rfl rfl (by first|rfl|(simp;done)|(congr 1;omega)) rfl ?_
 refine aA aa 5 rfl ?_
 refine ax (dn rfl rfl rfl rfl rfl Try.underlying31) rfl ?_
 refine ax (aJ rfl rfl rfl (aF (by first|omega|(simp;done)|(simp;omega)))) rfl ?_
 refine ab aa 2 rfl ?_
 refine ae ?_
 refine ar ?_
 have hX:dD b d=((⟨b.time,b.down,(b.an).set (Int.toNat (d.n)) xr1,b.due,b.aq++([b0]),b.s0,b.s1,b.n0,b.n1,b.w0,b.w1,b.bF,b.aQ,b.book⟩:Bk),(⟨0,(↑((b.aq++([b0])).length):Int) - 1⟩:Answer)):=by
   unfold dD;(try simp only [hdn,Bool.false_eq_true,if_false,hr0,hr1,hx1]);(repeat' split)<;>first|rfl|omega|(exfalso;omega)|(simp_all;done)|(simp_all;omega)
 rw [hX] at hr;clear hX
 simp only [Prod.mk.injEq] at hr;obtain ⟨rfl,rfl⟩:=hr
 refine ah aa [0,1,2,9,4,5] 5 rfl rfl rfl rfl rfl rfl ?_ ?_
 all_goals first|rfl|(simp [au,aS,aY];done)|(simp [au,aS,aY];omega)
theorem EG (x:Nat->Value) (hx:∀ i,(x i).oneCell'=true) (b:Bk) (d:aR) (ok:ch b) (hdn:b.down=true) (b2:Bk) (a2:Answer) (hr:dD b d=(b2,a2)):cz Try.prog 63 [(.c (.p 0 0 0 0)),(.c (.q (cL d) 0))] [(0,(.box 98 (aS b 1 2 3 4 (.d (.v (x 17))) (.d (.v (x 19)))))),(1,(dN b.an)),(2,(dF b.due)),(3,(dU b.aq)),(4,(cF b.aQ))] [0] (.v (.g [cI a2.err,cI a2.ba])) [(0,(.box 98 (aS b2 1 2 3 4 (.d (.v (x 17))) (.d (.v (x 19)))))),(1,(dN b2.an)),(2,(dF b2.due)),(3,(dU b2.aq)),(4,(cF b2.aQ))]:=by
 refine cz.mk 214 [(0,(aC (.p 0 0 0 0))),(1,(aC (.q (cL d) 0)))] 5 Try.func63 rfl rfl rfl rfl rfl rfl rfl rfl rfl ?_
 intro W0 F0 T0 pg
 obtain ⟨okt,okc,okd,oka,oky,okw0,okw1,okp,okv,okk0,okk1,okg,okl0,okl1,okp0,okp1,okn0,okn1,okq⟩:=id ok
 refine ad aa 1 rfl ?_
 refine af ?_
 refine af ?_
 rcases Bool.eq_false_or_eq_true (decide (d.n < 0)) with hb1|hb1
 ·
  have hb1':=of_decide_eq_true hb1
  refine bb [0,1,4] [5,0,1,2,3,4] mixed rfl rfl ?_
  refine az (kn:=[(14,true)]) aa 38 rfl ⟨hb1,trivial⟩ ?_
  refine bA [5,0,1,2,3,4] rfl rfl rfl rfl (by kernel_rfl) ?_
  refine ae ?_
  refine ag rfl (fun _=>?_) (fun hno=>by cases hno)
  refine ad aa 2 rfl ?_
  refine ar ?_
  refine ao ?_
  have hX:dD b d=(b,(⟨6,0⟩:Answer)):=by
    unfold dD gu;(try simp only [hdn,if_true]);(repeat' split)<;>first|rfl|omega|(exfalso;omega)|(simp_all;done)|(simp_all;omega)
  rw [hX] at hr;clear hX
  simp only [Prod.mk.injEq] at hr;obtain ⟨rfl,rfl⟩:=hr
  refine ah aa [0,1,2,3,4,5] 5 rfl rfl rfl rfl rfl rfl ?_ ?_
  all_goals first|rfl|(simp [au,aS,aY];done)|(simp [au,aS,aY];omega)
 have hb1':=of_decide_eq_false hb1
 rcases Bool.eq_false_or_eq_true (decide (d.n>=(↑b.an.length:Int))) with hb3|hb3
 ·
  have hb3':=of_decide_eq_true hb3
  refine bb [0,1,4] [5,0,1,2,3,4] mixed rfl rfl ?_
  refine az (kn:=[(14,false)]) aa 15 rfl ⟨hb1,trivial⟩ ?_
  refine aT (n':=6) [24,15] [1] rfl rfl (.inl ⟨(aj.yes rfl rfl rfl),aH.cast (dn rfl rfl rfl rfl rfl Try.underlying29) rfl⟩) rfl ?_
  refine az (kn:=[(26,true)]) aa 22 rfl ⟨hb3,trivial⟩ ?_
  refine bA [5,0,1,2,3,4] rfl rfl rfl rfl (by kernel_rfl) ?_
  refine ae ?_
  refine ag rfl (fun _=>?_) (fun hno=>by cases hno)
  refine ad aa 2 rfl ?_
  refine ar ?_
  refine ao ?_
  have hX:dD b d=(b,(⟨6,0⟩:Answer)):=by
    unfold dD gu;(try simp only [hdn,if_true]);(repeat' split)<;>first|rfl|omega|(exfalso;omega)|(simp_all;done)|(simp_all;omega)
  rw [hX] at hr;clear hX
  simp only [Prod.mk.injEq] at hr;obtain ⟨rfl,rfl⟩:=hr
  refine ah aa [0,1,2,3,4,5] 5 rfl rfl rfl rfl rfl rfl ?_ ?_
  all_goals first|rfl|(simp [au,aS,aY];done)|(simp [au,aS,aY];omega)
 have hb3':=of_decide_eq_false hb3
 rcases Bool.eq_false_or_eq_true (decide (d.ay < 0)) with hb5|hb5
 ·
  have hb5':=of_decide_eq_true hb5
  refine bb [0,1,4] [5,0,1,2,3,4] mixed rfl rfl ?_
  refine az (kn:=[(14,false)]) aa 15 rfl ⟨hb1,trivial⟩ ?_
  refine aT (n':=6) [24,15] [1] rfl rfl (.inl ⟨(aj.yes rfl rfl rfl),aH.cast (dn rfl rfl rfl rfl rfl Try.underlying29) rfl⟩) rfl ?_
  refine az (kn:=[(26,false),(33,true)]) aa 22 rfl ⟨hb3,hb5,trivial⟩ ?_
  refine bA [5,0,1,2,3,4] rfl rfl rfl rfl (by kernel_rfl) ?_
  refine ae ?_
  refine ag rfl (fun _=>?_) (fun hno=>by cases hno)
  refine ad aa 2 rfl ?_
  refine ar ?_
  refine ao ?_
  have hX:dD b d=(b,(⟨6,0⟩:Answer)):=by
    unfold dD gu;(try simp only [hdn,if_true]);(repeat' split)<;>first|rfl|omega|(exfalso;omega)|(simp_all;done)|(simp_all;omega)
  rw [hX] at hr;clear hX
  simp only [Prod.mk.injEq] at hr;obtain ⟨rfl,rfl⟩:=hr
  refine ah aa [0,1,2,3,4,5] 5 rfl rfl rfl rfl rfl rfl ?_ ?_
  all_goals first|rfl|(simp [au,aS,aY];done)|(simp [au,aS,aY];omega)
 have hb5':=of_decide_eq_false hb5
 refine bb [0,1,4] [5,0,1,2,3,4] mixed rfl rfl ?_
 refine az (kn:=[(14,false)]) aa 15 rfl ⟨hb1,trivial⟩ ?_
 refine aT (n':=6) [24,15] [1] rfl rfl (.inl ⟨(aj.yes rfl rfl rfl),aH.cast (dn rfl rfl rfl rfl rfl Try.underlying29) rfl⟩) rfl ?_
 refine az (kn:=[(26,false),(33,false)]) aa 19 rfl ⟨hb3,hb5,trivial⟩ ?_
 refine aT (n':=6) [44,35] [2] rfl rfl (.inl ⟨(aj.yes rfl rfl rfl),aH.cast (dn rfl rfl rfl rfl rfl Try.underlying30) rfl⟩) rfl ?_
 refine az (kn:=[]) aa 2 rfl trivial ?_
 refine bA [5,0,1,2,3,4] rfl rfl rfl rfl (by kernel_rfl) ?_
 refine ae ?_
 refine ag rfl (fun hc7=>?_) (fun hc7=>?_)
 ·
  have hc7':=of_decide_eq_true hc7
  refine ad aa 2 rfl ?_
  refine ar ?_
  refine ao ?_
  have hX:dD b d=(b,(⟨6,0⟩:Answer)):=by
    unfold dD gu;(try simp only [hdn,if_true]);(repeat' split)<;>first|rfl|omega|(exfalso;omega)|(simp_all;done)|(simp_all;omega)
  rw [hX] at hr;clear hX
  simp only [Prod.mk.injEq] at hr;obtain ⟨rfl,rfl⟩:=hr
  refine ah aa [0,1,2,3,4,5] 5 rfl rfl rfl rfl rfl rfl ?_ ?_
  all_goals first|rfl|(simp [au,aS,aY];done)|(simp [au,aS,aY];omega)
 have hc7':=of_decide_eq_false hc7
 refine aN ?_
 refine af ?_
 refine ad aa 5 rfl ?_
 refine ag rfl (fun _=>?_) (fun hno=>absurd (hdn.symm.trans hno) (by decide))
 refine af ?_
 obtain ⟨xr0,e0,hr0⟩:∃ (xr0:cr) (e0:Int),cf b.bF (⟨d.n,d.ay,d.sum,b.time⟩:ca)=(xr0,e0):=⟨_,_,rfl⟩
 have hgl:=tH b.bF ((⟨d.n,d.ay,d.sum,b.time⟩:ca))
 rw [hr0] at hgl;dsimp only at hgl
 refine cW [0,1,4] [5,0,1,2,3,4] mixed rfl rfl ?_
 refine bQ (kn:=[]) aa 23 rfl trivial ?_
 refine bV (n':=6) [59,77] [] rfl rfl (.inl ⟨(aj.plain rfl),aH.cast (bO 6 (Fn.frozen (av':=(.t [(.g [(cI xr0.cap),(fG xr0.used),(gM xr0.aZ)]),(.c (cI e0))])) (vr b.bF (⟨d.n,d.ay,d.sum,b.time⟩:ca) xr0 e0 hr0) ⟨⟨.inl ⟨_,rfl,rfl⟩,.inr ⟨_,_,_,_,_,rfl,rfl,rfl,by simp⟩,.inr ⟨_,_,_,_,_,rfl,rfl,rfl,by simp⟩,trivial⟩,.inl ⟨_,rfl,rfl⟩,trivial⟩) Gq rfl rfl ⟨⟨_,rfl,.g ⟨.d _,.d _,.d _,trivial⟩⟩,⟨_,rfl,.g ⟨.d _,.d _,.d _,.d _,trivial⟩⟩,trivial⟩ ⟨⟨trivial,trivial,trivial,trivial⟩,trivial,trivial⟩ trivial rfl rfl rfl rfl) rfl⟩) rfl ?_
 refine bQ (n':=7) (kn:=[]) aa 6 rfl trivial ?_
 refine dO [0,1,4,5,6] [6,5,0,1,2,3,4] rfl rfl (by kernel_rfl) ?_
 refine then_ok ?_
 refine af ?_
 refine ad aa 2 rfl ?_
 refine ag rfl (fun hc9=>?_) (fun hc9=>?_)
 ·
  have hc9':=of_decide_eq_true hc9
  refine aw ?_
  refine ab aa 1 rfl ?_
  refine ae ?_
  refine af ?_
  refine af ?_
  refine bb [0,1,4,5,6] [6,5,0,1,2,3,4] mixed rfl rfl ?_
  refine az (kn:=[(84,false)]) aa 15 rfl ⟨rfl,trivial⟩ ?_
  refine bA [6,5,0,1,2,3,4] rfl rfl rfl rfl (by kernel_rfl) ?_
  refine ae ?_
  refine ag rfl (fun hno=>by cases hno) (fun _=>?_)
  refine aN ?_
  refine af ?_
  refine aA aa 1 rfl ?_
  refine ax (aJ rfl rfl rfl (show _=some (Value.bool true) from rfl)) rfl ?_
  refine ae ?_
  refine ag rfl (fun _=>?_) (fun hno=>by cases hno)
  refine ad aa 3 rfl ?_
  refine ar ?_
  refine ao ?_
  refine ao ?_
  have hX:dD b d=(b,(⟨12,0⟩:Answer)):=by
    unfold dD gu;(try simp only [hdn,if_true,hr0]);(repeat' split)<;>first|rfl|omega|(exfalso;omega)|(simp_all;done)|(simp_all;omega)
  rw [hX] at hr;clear hX
  simp only [Prod.mk.injEq] at hr;obtain ⟨rfl,rfl⟩:=hr
  refine ah aa [0,1,2,3,4,5] 5 rfl rfl rfl rfl rfl rfl ?_ ?_
  all_goals first|rfl|(simp [au,aS,aY];done)|(simp [au,aS,aY];omega)
 have hc9':=of_decide_eq_false hc9
 refine aN ?_
 refine af ?_
 refine af ?_
 rcases Bool.eq_false_or_eq_true (decide (e0=0)) with hb12|hb12
 ·
  have hb12':=of_decide_eq_true hb12
  refine bb [0,1,4,5,6] [6,5,0,1,2,3,4] mixed rfl rfl ?_
  refine az (kn:=[(84,true)]) aa 8 rfl ⟨hb12,trivial⟩ ?_
  refine aT (n':=7) [90,85] [3] rfl rfl (.inl ⟨(aj.yes rfl rfl rfl),aH.cast (dn rfl rfl rfl rfl rfl Try.underlying31) rfl⟩) rfl ?_
  refine az (kn:=[]) aa 2 rfl trivial ?_
  refine aT (n':=7) [93,85] [] rfl rfl (.inl ⟨(aj.yes rfl rfl rfl),aH.cast (cM rfl rfl rfl rfl rfl Try.underlying39) rfl⟩) rfl ?_
  refine aT (n':=7) [91,94,85] [] rfl rfl (.inl ⟨(aj.yes rfl rfl rfl),aH.cast (aJ rfl rfl rfl (aF (by first|omega|(simp;done)|(simp;omega)))) rfl⟩) rfl ?_
  refine az (kn:=[]) aa 2 rfl trivial ?_
  refine bA [6,5,0,1,2,3,4] rfl rfl rfl rfl (by kernel_rfl) ?_
  refine ae ?_
  refine ag rfl (fun hc13=>?_) (fun hc13=>?_)
  ·
   have hc13':=of_decide_eq_true hc13
   refine aw ?_
   refine ab aa 1 rfl ?_
   refine ae ?_
   refine af ?_
   refine aA aa 1 rfl ?_
   refine ax (aJ rfl rfl rfl (show _=some (Value.bool true) from rfl)) rfl ?_
   refine ae ?_
   refine ag rfl (fun _=>?_) (fun hno=>by cases hno)
   refine ad aa 3 rfl ?_
   refine ar ?_
   refine ao ?_
   refine ao ?_
   have hX:dD b d=(b,(⟨5,0⟩:Answer)):=by
     unfold dD gu;(try simp only [hdn,if_true,hr0]);(repeat' split)<;>first|rfl|omega|(exfalso;omega)|(simp_all;done)|(simp_all;omega)
   rw [hX] at hr;clear hX
   simp only [Prod.mk.injEq] at hr;obtain ⟨rfl,rfl⟩:=hr
   refine ah aa [0,1,2,3,4,5] 5 rfl rfl rfl rfl rfl rfl ?_ ?_
   all_goals first|rfl|(simp [au,aS,aY];done)|(simp [au,aS,aY];omega)
  have hc13':=of_decide_eq_false hc13
  refine aN ?_
  refine af ?_
  refine ad aa 2 rfl ?_
  refine ag rfl (fun hc15=>?_) (fun hc15=>?_)
  ·
   have hc15':=of_decide_eq_true hc15
   refine ad aa 3 rfl ?_
   refine ar ?_
   refine ao ?_
   refine ao ?_
   have hX:dD b d=(b,(⟨e0,0⟩:Answer)):=by
     unfold dD gu;(try simp only [hdn,if_true,hr0]);(repeat' split)<;>first|rfl|omega|(exfalso;omega)|(simp_all;done)|(simp_all;omega)
   rw [hX] at hr;clear hX
   simp only [Prod.mk.injEq] at hr;obtain ⟨rfl,rfl⟩:=hr
   refine ah aa [0,1,2,3,4,5] 5 rfl rfl rfl rfl rfl rfl ?_ ?_
   all_goals first|rfl|(simp [au,aS,aY];done)|(simp [au,aS,aY];omega)
  have hc15':=of_decide_eq_false hc15
  refine aN ?_
  refine ad aa 6 rfl ?_
  refine af ?_
  refine bb [0,1,4,5] [6,5,0,1,2,3,4] mixed rfl rfl ?_
  refine az (kn:=[]) aa 5 rfl trivial ?_
  refine aT (n':=7) [111] [3] rfl rfl (.inl ⟨(aj.plain rfl),aH.cast (dn rfl rfl rfl rfl rfl Try.underlying31) rfl⟩) rfl ?_
  refine az (kn:=[]) aa 2 rfl trivial ?_
  refine aT (n':=7) [114] [] rfl rfl (.inl ⟨(aj.plain rfl),aH.cast (cM rfl rfl rfl rfl rfl Try.underlying39) rfl⟩) rfl ?_
  refine aT (n':=7) [112,115] [] rfl rfl (.inl ⟨(aj.plain rfl),aH.cast (aJ rfl rfl rfl (aF (by first|omega|(simp;done)|(simp;omega)))) rfl⟩) rfl ?_
  refine aT (n':=7) [116] [] rfl rfl (.inl ⟨(aj.plain rfl),aH.cast (aJ rfl rfl rfl (aF (by first|omega|(simp;done)|(simp;omega)))) rfl⟩) rfl ?_
  refine az (kn:=[]) aa 1 rfl trivial ?_
  refine bA [6,5,0,1,2,3,4] rfl rfl rfl rfl (by kernel_rfl) ?_
  refine ab aa 1 rfl ?_
  refine ae ?_
  refine ar ?_
  refine ao ?_
  have hX:dD b d=((⟨b.time,b.down,b.an,b.due,b.aq,b.s0,b.s1,b.n0,b.n1,b.w0,b.w1,xr0,b.aQ,b.book⟩:Bk),(⟨0,((↑b.aq.length:Int)+(↑xr0.aZ.length:Int)) - 1⟩:Answer)):=by
    unfold dD gu;(try simp only [hdn,if_true,hr0]);(repeat' split)<;>first|rfl|omega|(exfalso;omega)|(simp_all;done)|(simp_all;omega)
  rw [hX] at hr;clear hX
  simp only [Prod.mk.injEq] at hr;obtain ⟨rfl,rfl⟩:=hr
  refine ah aa [0,1,2,3,4,5] 5 rfl rfl rfl rfl rfl rfl ?_ ?_
  all_goals first|rfl|(simp [au,aS,aY];done)|(simp [au,aS,aY];omega)
 have hb12':=of_decide_eq_false hb12
 refine bb [0,1,4,5,6] [6,5,0,1,2,3,4] mixed rfl rfl ?_
 refine az (kn:=[(84,false)]) aa 15 rfl ⟨hb12,trivial⟩ ?_
 refine bA [6,5,0,1,2,3,4] rfl rfl rfl rfl (by kernel_rfl) ?_
 refine ae ?_
 refine ag rfl (fun hno=>by cases hno) (fun _=>?_)
 refine aN ?_
 refine af ?_
 refine ad aa 2 rfl ?_
 refine ag rfl (fun hc17=>?_) (fun hc17=>?_)
 ·
  have hc17':=of_decide_eq_true hc17
  refine ad aa 3 rfl ?_
  refine ar ?_
  refine ao ?_
  refine ao ?_
  have hX:dD b d=(b,(⟨e0,0⟩:Answer)):=by
    unfold dD gu;(try simp only [hdn,if_true,hr0]);(repeat' split)<;>first|rfl|omega|(exfalso;omega)|(simp_all;done)|(simp_all;omega)
  rw [hX] at hr;clear hX
  simp only [Prod.mk.injEq] at hr;obtain ⟨rfl,rfl⟩:=hr
  refine ah aa [0,1,2,3,4,5] 5 rfl rfl rfl rfl rfl rfl ?_ ?_
  all_goals first|rfl|(simp [au,aS,aY];done)|(simp [au,aS,aY];omega)
 have hc17':=of_decide_eq_false hc17
 refine aN ?_
 refine ad aa 6 rfl ?_
 refine af ?_
 refine bb [0,1,4,5] [6,5,0,1,2,3,4] mixed rfl rfl ?_
 refine az (kn:=[]) aa 5 rfl trivial ?_
 refine aT (n':=7) [111] [3] rfl rfl (.inl ⟨(aj.plain rfl),aH.cast (dn rfl rfl rfl rfl rfl Try.underlying31) rfl⟩) rfl ?_
 refine az (kn:=[]) aa 2 rfl trivial ?_
 refine aT (n':=7) [114] [] rfl rfl (.inl ⟨(aj.plain rfl),aH.cast (cM rfl rfl rfl rfl rfl Try.underlying39) rfl⟩) rfl ?_
 refine aT (n':=7) [112,115] [] rfl rfl (.inl ⟨(aj.plain rfl),aH.cast (aJ rfl rfl rfl (aF (by first|omega|(simp;done)|(simp;omega)))) rfl⟩) rfl ?_
 refine aT (n':=7) [116] [] rfl rfl (.inl ⟨(aj.plain rfl),aH.cast (aJ rfl rfl rfl (aF (by first|omega|(simp;done)|(simp;omega)))) rfl⟩) rfl ?_
 refine az (kn:=[]) aa 1 rfl trivial ?_
 refine bA [6,5,0,1,2,3,4] rfl rfl rfl rfl (by kernel_rfl) ?_
 refine ab aa 1 rfl ?_
 refine ae ?_
 refine ar ?_
 refine ao ?_
 have hX:dD b d=((⟨b.time,b.down,b.an,b.due,b.aq,b.s0,b.s1,b.n0,b.n1,b.w0,b.w1,xr0,b.aQ,b.book⟩:Bk),(⟨0,((↑b.aq.length:Int)+(↑xr0.aZ.length:Int)) - 1⟩:Answer)):=by
   unfold dD gu;(try simp only [hdn,if_true,hr0]);(repeat' split)<;>first|rfl|omega|(exfalso;omega)|(simp_all;done)|(simp_all;omega)
 rw [hX] at hr;clear hX
 simp only [Prod.mk.injEq] at hr;obtain ⟨rfl,rfl⟩:=hr
 refine ah aa [0,1,2,3,4,5] 5 rfl rfl rfl rfl rfl rfl ?_ ?_
 all_goals first|rfl|(simp [au,aS,aY];done)|(simp [au,aS,aY];omega)
theorem FE (x:Nat->Value) (hx:∀ i,(x i).oneCell'=true) (b:Bk) (d:aR) (ok:ch b) (b2:Bk) (a2:Answer) (hr:dD b d=(b2,a2)):cz Try.prog 63 [(.c (.p 0 0 0 0)),(.c (.q (cL d) 0))] [(0,(.box 98 (aS b 1 2 3 4 (.d (.v (x 17))) (.d (.v (x 19)))))),(1,(dN b.an)),(2,(dF b.due)),(3,(dU b.aq)),(4,(cF b.aQ))] [0] (.v (.g [cI a2.err,cI a2.ba])) [(0,(.box 98 (aS b2 1 2 3 4 (.d (.v (x 17))) (.d (.v (x 19)))))),(1,(dN b2.an)),(2,(dF b2.due)),(3,(dU b2.aq)),(4,(cF b2.aQ))]:=by
  cases hdn:b.down
  ·exact EF x hx b d ok hdn b2 a2 hr
  ·exact EG x hx b d ok hdn b2 a2 hr

theorem zR (x:Nat->Value) (hx:∀ i,(x i).oneCell'=true) (b:Bk) (d:aR) (ok:ch b) (hdn:b.down=false) (b2:Bk) (a2:Answer) (hr:dG b d=(b2,a2)):cz Try.prog 64 [(.c (.p 0 0 0 0)),(.c (.q (cL d) 0))] [(0,(.box 98 (aS b 1 2 3 4 (.d (.v (x 17))) (.d (.v (x 19)))))),(1,(dN b.an)),(2,(dF b.due)),(3,(dU b.aq)),(4,(cF b.aQ))] [0] (.v (.g [cI a2.err,cI a2.ba])) [(0,(.box 98 (aS b2 1 2 3 4 (.d (.v (x 17))) (.d (.v (x 19)))))),(1,(dN b2.an)),(2,(dF b2.due)),(3,(dU b2.aq)),(4,(cF b2.aQ))]:=by
 refine cz.mk 246 [(0,(aC (.p 0 0 0 0))),(1,(aC (.q (cL d) 0)))] 5 Try.func64 rfl rfl rfl rfl rfl rfl rfl rfl rfl ?_
 intro W0 F0 T0 pg
 obtain ⟨okt,okc,okd,oka,oky,okw0,okw1,okp,okv,okk0,okk1,okg,okl0,okl1,okp0,okp1,okn0,okn1,okq⟩:=id ok
 refine ad aa 1 rfl ?_
 refine af ?_
 refine ad aa 5 rfl ?_
 refine ag rfl (fun hno=>absurd (hdn.symm.trans hno) (by decide)) (fun _=>?_)
 refine aN ?_
 refine af ?_
 refine af ?_
 rcases Bool.eq_false_or_eq_true (decide (d.n < 0)) with hb2|hb2
 ·
  have hb2':=of_decide_eq_true hb2
  refine bb [0,1,4] [5,0,1,2,3,4] mixed rfl rfl ?_
  refine az (kn:=[(22,true)]) aa 18 rfl ⟨hb2,trivial⟩ ?_
  refine bA [5,0,1,2,3,4] rfl rfl rfl rfl (by kernel_rfl) ?_
  refine ae ?_
  refine ag rfl (fun _=>?_) (fun hno=>by cases hno)
  refine ad aa 2 rfl ?_
  refine ar ?_
  refine ao ?_
  have hX:dG b d=(b,(⟨6,0⟩:Answer)):=by
    unfold dG;simp only [hdn,Bool.false_eq_true,if_false];(repeat' split)<;>first|rfl|omega|(exfalso;omega)|(simp_all;done)|(simp_all;omega)
  rw [hX] at hr;clear hX
  simp only [Prod.mk.injEq] at hr;obtain ⟨rfl,rfl⟩:=hr
  refine ah aa [0,1,2,3,4,5] 5 rfl rfl rfl rfl rfl rfl ?_ ?_
  all_goals first|rfl|(simp [au,aS,aY];done)|(simp [au,aS,aY];omega)
 have hb2':=of_decide_eq_false hb2
 refine bb [0,1,4] [5,0,1,2,3,4] mixed rfl rfl ?_
 refine az (kn:=[(22,false)]) aa 15 rfl ⟨hb2,trivial⟩ ?_
 refine aT (n':=6) [32,23] [3] rfl rfl (.inl ⟨(aj.yes rfl rfl rfl),aH.cast (dn rfl rfl rfl rfl rfl Try.underlying31) rfl⟩) rfl ?_
 refine az (kn:=[]) aa 2 rfl trivial ?_
 refine bA [5,0,1,2,3,4] rfl rfl rfl rfl (by kernel_rfl) ?_
 refine ae ?_
 refine ag rfl (fun hc4=>?_) (fun hc4=>?_)
 ·
  have hc4':=of_decide_eq_true hc4
  refine ad aa 2 rfl ?_
  refine ar ?_
  refine ao ?_
  have hX:dG b d=(b,(⟨6,0⟩:Answer)):=by
    unfold dG;simp only [hdn,Bool.false_eq_true,if_false];(repeat' split)<;>first|rfl|omega|(exfalso;omega)|(simp_all;done)|(simp_all;omega)
  rw [hX] at hr;clear hX
  simp only [Prod.mk.injEq] at hr;obtain ⟨rfl,rfl⟩:=hr
  refine ah aa [0,1,2,3,4,5] 5 rfl rfl rfl rfl rfl rfl ?_ ?_
  all_goals first|rfl|(simp [au,aS,aY];done)|(simp [au,aS,aY];omega)
 have hc4':=of_decide_eq_false hc4
 refine aN ?_
 refine af ?_
 obtain ⟨x1,hx1⟩:=ck (xs:=b.aq) (i:=Int.toNat (d.n)) (by first|omega|(simp;done)|(simp;omega))
 refine bb [0,1,4] [5,0,1,2,3,4] mixed rfl rfl ?_
 refine az (kn:=[]) aa 9 rfl trivial ?_
 refine aT (n':=6) [41,45] [3] rfl rfl (.inl ⟨(aj.plain rfl),aH.cast (bo (i:=Int.toNat (d.n)) rfl rfl rfl Try.underlying31 lV (by first|omega|(simp;done)|(simp;omega)) (by first|omega|(simp;done)|(simp;omega))) rfl⟩) rfl ?_
 refine aT (n':=6) [46] [3] rfl rfl (.inl ⟨(aj.plain rfl),aH.cast (da rfl rfl rfl Try.underlying67 rfl lV (bu hx1) rfl) rfl⟩) rfl ?_
 refine az (n':=7) (kn:=[]) aa 1 rfl trivial ?_
 refine bA [6,5,0,1,2,3,4] rfl rfl rfl rfl (by kernel_rfl) ?_
 refine ab aa 1 rfl ?_
 refine ae ?_
 refine af ?_
 obtain ⟨b0,e0,hr0⟩:∃ (b0:bB) (e0:Int),bZ x1 d.move d.sum=(b0,e0):=⟨_,_,rfl⟩
 refine cW [0,1,4,5] [6,5,0,1,2,3,4] mixed rfl rfl ?_
 refine bQ (kn:=[]) aa 9 rfl trivial ?_
 refine bV (n':=7) [49,53,57] [] rfl rfl (.inl ⟨(aj.plain rfl),aH.cast (bO 7 (wu x1 d.move d.sum b0 e0 hr0) Gn rfl rfl ⟨⟨_,rfl,.g ⟨.d _,.d _,.d _,.d _,.d _,.d _,.d _,.d _,trivial⟩⟩,⟨_,rfl,.c (.d _)⟩,⟨_,rfl,.c (.d _)⟩,trivial⟩ ⟨⟨trivial,trivial,trivial,trivial,trivial,trivial,trivial,trivial,trivial⟩,trivial,trivial⟩ trivial rfl rfl rfl rfl) rfl⟩) rfl ?_
 refine bQ (n':=8) (kn:=[]) aa 6 rfl trivial ?_
 refine dO [0,1,4,5,6,7] [7,6,5,0,1,2,3,4] rfl rfl (by kernel_rfl) ?_
 refine then_ok ?_
 refine af ?_
 refine ad aa 2 rfl ?_
 refine ag rfl (fun hc5=>?_) (fun hc5=>?_)
 ·
  have hc5':=of_decide_eq_true hc5
  refine ad aa 3 rfl ?_
  refine ar ?_
  refine ao ?_
  have hX:dG b d=(b,(⟨e0,0⟩:Answer)):=by
    unfold dG;simp only [hdn,Bool.false_eq_true,if_false];rw [if_neg (by omega),hx1];dsimp only;simp only [hr0];(repeat' split)<;>first|rfl|omega|(exfalso;omega)|(simp_all;done)|(simp_all;omega)
  rw [hX] at hr;clear hX
  simp only [Prod.mk.injEq] at hr;obtain ⟨rfl,rfl⟩:=hr
  refine ah aa [0,1,2,3,4,5] 5 rfl rfl rfl rfl rfl rfl ?_ ?_
  all_goals first|rfl|(simp [au,aS,aY];done)|(simp [au,aS,aY];omega)
 have hc5':=of_decide_eq_false hc5
 refine aN ?_
 obtain ⟨mw1,mw2,mc,ms,mk1,mk2,mn1,mn2⟩:=mf (show bZ x1 d.move d.sum=(b0,0) by rw [hr0];congr 1;omega)
 have hoP:=okp x1 (List.mem_of_getElem? hx1)
 have hI0:∀ t∈b.s0.kept,fB t.number:=fun t ht=>(okk0 t ht).1
 have hI1:∀ t∈b.s1.kept,fB t.number:=fun t ht=>(okk1 t ht).1
 refine aA aa 1 rfl ?_
 refine aL 17 [0,8,9,10,11,12,13,14,15,16,7,6,5] (cx id (aW [0,8,9,10,11,12,13,14,15,16]) (jZ (x 17) (x 19) b (by first|omega|(simp;done)|(simp;omega)) (by first|omega|(simp;done)|(simp;omega)) (by first|omega|(simp;done)|(simp;omega)) (by first|omega|(simp;done)|(simp;omega))) qi rfl rfl ⟨⟨_,rfl,.inl ⟨rfl,rfl⟩⟩,trivial⟩ ⟨rfl,rfl,rfl,rfl,rfl,trivial⟩ rfl rfl rfl rfl rfl rfl trivial ⟨⟨trivial,trivial,trivial,trivial,trivial,trivial,trivial,trivial,trivial,trivial,trivial,trivial,trivial,trivial,trivial,trivial,trivial,trivial,trivial,trivial,trivial⟩,⟨trivial,trivial,trivial,trivial,trivial,trivial,trivial,trivial,trivial,trivial,trivial,trivial,trivial,trivial,trivial,trivial,trivial,trivial,trivial,trivial,trivial⟩,(fun _ _ _ _=>trivial),(fun _ _ _ _=>trivial),(fun _ _ _ _=>trivial),(fun _ _ _ _=>trivial),(fun _ _ _ _=>trivial),(fun _ _ _ _=>trivial),(fun _ _ _ _=>trivial),(fun _ _ _ _=>trivial),trivial⟩ rfl rfl rfl rfl) rfl ?_
 refine ab aa 1 rfl ?_
 refine ae ?_
 refine af ?_
 obtain ⟨e1,hr1⟩:∃ (e1:Int),bq b0=e1:=⟨_,rfl⟩
 have hhb1:=ou (show bE b0=0 by assumption)
 rw [hr1] at hhb1
 obtain ⟨e2,hr2⟩:∃ (e2:Int),bq x1=e2:=⟨_,rfl⟩
 have hhb2:=ou (show bE x1=0 by assumption)
 rw [hr2] at hhb2
 refine bb [0,1,4,5,6,8] [0,8,9,10,11,12,13,14,15,16,7,6,5] mixed rfl rfl ?_
 refine az (kn:=[]) aa 1 rfl trivial ?_
 refine aT (n':=17) [67] [] rfl rfl (.inl ⟨(aj.plain rfl),aH.cast (bO 17 (kg b0 (by first|assumption|omega|rfl|decide) e1 hr1) yf rfl rfl ⟨⟨_,rfl,.g ⟨.d _,.d _,.d _,.d _,.d _,.d _,.d _,.d _,trivial⟩⟩,trivial⟩ trivial trivial rfl rfl rfl rfl) rfl⟩) rfl ?_
 refine az (kn:=[]) aa 1 rfl trivial ?_
 refine aT (n':=17) [69] [] rfl rfl (.inl ⟨(aj.plain rfl),aH.cast (bO 17 (kg x1 (by first|assumption|omega|rfl|decide) e2 hr2) yf rfl rfl ⟨⟨_,rfl,.g ⟨.d _,.d _,.d _,.d _,.d _,.d _,.d _,.d _,trivial⟩⟩,trivial⟩ trivial trivial rfl rfl rfl rfl) rfl⟩) rfl ?_
 refine aT (n':=17) [68,70] [] rfl rfl (.inl ⟨(aj.plain rfl),aH.cast (aJ rfl rfl rfl (aF (by first|omega|(simp;done)|(simp;omega)))) rfl⟩) rfl ?_
 refine az (kn:=[]) aa 1 rfl trivial ?_
 refine bA [0,8,9,10,11,12,13,14,15,16,7,6,5] rfl rfl rfl rfl (by kernel_rfl) ?_
 refine ae ?_
 refine af ?_
 refine vP (J:=⟨[(0,(aC (.p 0 0 0 0))),(1,(aC (.q (cL d) 0))),(4,(aC (.p 5 0 0 0))),(6,(aC (.p 7 0 0 0))),(8,(aC (.p 8 0 0 0))),(9,(aI (e1 - e2))),(93,(aB (decide (d.move=1/\d.sum > kx b.an b0.aK))))],[(0,(.box 98 (aS b 9 10 11 12 (.d (.v (x 17))) (.d (.v (x 19)))))),(8,(.box 147 (aS b 13 14 15 16 (.d (.v (x 17))) (cI 0)))),(9,(dN b.an)),(10,(dF b.due)),(11,(dU b.aq)),(12,(cF b.aQ)),(13,(dN b.an)),(14,(dF b.due)),(15,(dU b.aq)),(16,(cF b.aQ)),(7,(.box 67 [(cI b0.aK),(cI b0.ay),(cI b0.sum),(cI b0.captured),(cI b0.bw),(cI b0.bg),(cI b0.cO),(cB b0.shut)])),(5,(.box 65 [(cI 0),(cI 0)]))],17⟩) ?_ ?_
 ·
  rcases Bool.eq_false_or_eq_true (decide (d.move=1)) with hb6|hb6
  ·
   have hb6':=of_decide_eq_true hb6
   obtain ⟨x2,hx2⟩:=ck (xs:=b.an) (i:=Int.toNat (b0.aK)) (by first|omega|(simp;done)|(simp;omega))
   have hx2g:=An (okg x2 (List.mem_of_getElem? hx2))
   refine bb [0,1,4,6,8,9] [0,8,9,10,11,12,13,14,15,16,7,5] mixed rfl rfl ?_
   refine az (kn:=[(76,true)]) aa 17 rfl ⟨hb6,trivial⟩ ?_
   refine aT (n':=17) [86,88,77] [13] rfl rfl (.inl ⟨(aj.yes rfl rfl rfl),aH.cast (bo (i:=Int.toNat (b0.aK)) rfl rfl rfl Try.underlying29 ig (by first|omega|(simp;done)|(simp;omega)) (by first|omega|(simp;done)|(simp;omega))) rfl⟩) rfl ?_
   refine aT (n':=17) [89,77] [13] rfl rfl (.inl ⟨(aj.yes rfl rfl rfl),aH.cast (da rfl rfl rfl Try.underlying61 rfl ig (bu hx2) rfl) rfl⟩) rfl ?_
   refine aT (n':=17) [90,77] [] rfl rfl (.inl ⟨(aj.yes rfl rfl rfl),aH.cast (bO 17 (pD x2 (by first|assumption|omega|(constructor<;>decide)|(have hz:=gq (by first|assumption|omega);omega))) Er rfl rfl ⟨⟨_,rfl,.g ⟨.d _,.d _,.d _,.d _,.d _,.d _,trivial⟩⟩,trivial⟩ trivial trivial rfl rfl rfl rfl) rfl⟩) rfl ?_
   refine az (kn:=[]) aa 2 rfl trivial ?_
   refine bA [0,8,9,10,11,12,13,14,15,16,7,5] rfl rfl rfl rfl (by kernel_rfl) ?_
   refine ae ?_
   rw [show (decide (d.move=1/\d.sum > kx b.an b0.aK))=(decide (d.sum > (x2.bp - x2.held))) by (unfold kx;rw [hx2];dsimp only;first|(simp_all;done)|(simp_all;omega))]
   exact aD.bW id (⟨rfl,rfl,rfl,rfl,rfl,rfl,rfl,trivial⟩) (⟨rfl,rfl,rfl,rfl,rfl,rfl,rfl,rfl,rfl,rfl,rfl,rfl,trivial⟩) rfl
  have hb6':=of_decide_eq_false hb6
  refine bb [0,1,4,6,8,9] [0,8,9,10,11,12,13,14,15,16,7,5] mixed rfl rfl ?_
  refine az (kn:=[(76,false)]) aa 22 rfl ⟨hb6,trivial⟩ ?_
  refine bA [0,8,9,10,11,12,13,14,15,16,7,5] rfl rfl rfl rfl (by kernel_rfl) ?_
  refine ae ?_
  rw [show (decide (d.move=1/\d.sum > kx b.an b0.aK))=(false) by (unfold kx;first|(simp_all;done)|(simp_all;omega))]
  exact aD.bW id (⟨rfl,rfl,rfl,rfl,rfl,rfl,rfl,trivial⟩) (⟨rfl,rfl,rfl,rfl,rfl,rfl,rfl,rfl,rfl,rfl,rfl,rfl,trivial⟩) rfl
 refine ag rfl (fun hc7=>?_) (fun hc7=>?_)
 ·
  have hc7':=of_decide_eq_true hc7
  refine ad aa 2 rfl ?_
  refine ar ?_
  refine ao ?_
  have hX:dG b d=(b,(⟨10,0⟩:Answer)):=by
    unfold dG;simp only [hdn,Bool.false_eq_true,if_false];rw [if_neg (by omega),hx1];dsimp only;simp only [hr0];(repeat' split)<;>first|rfl|omega|(exfalso;omega)|(simp_all;done)|(simp_all;omega)
  rw [hX] at hr;clear hX
  simp only [Prod.mk.injEq] at hr;obtain ⟨rfl,rfl⟩:=hr
  refine ah aa [0,9,10,11,12,5] 5 rfl rfl rfl rfl rfl rfl ?_ ?_
  all_goals first|rfl|(simp [au,aS,aY];done)|(simp [au,aS,aY];omega)
 have hc7':=of_decide_eq_false hc7
 refine aN ?_
 refine af ?_
 refine bb [0,1,4,6,8,9] [0,8,9,10,11,12,13,14,15,16,7,5] mixed rfl rfl ?_
 refine az (kn:=[]) aa 2 rfl trivial ?_
 refine aT (n':=17) [96] [] rfl rfl (.inl ⟨(aj.plain rfl),aH.cast (aJ rfl rfl rfl (aF (by first|omega|(simp;done)|(simp;omega)))) rfl⟩) rfl ?_
 refine az (n':=18) (kn:=[]) aa 11 rfl trivial ?_
 refine bA [17,0,8,9,10,11,12,13,14,15,16,7,5] rfl rfl rfl rfl (by kernel_rfl) ?_
 refine ab aa 1 rfl ?_
 refine ae ?_
 obtain ⟨jcards,jdue,jbook,js0,js1,je,hj⟩:∃ (jcards:List bx) (jdue:List Int) (jbook:List Entry) (js0:bS) (js1:bS) (je:Int),dR b b0 x1 d=(jcards,jdue,jbook,js0,js1,je):=⟨_,_,_,_,_,_,rfl⟩
 have hj0:=hj
 refine vP (J:=⟨[(0,(aC (.p 0 0 0 0))),(1,(aC (.q (cL d) 0))),(4,(aC (.p 5 0 0 0))),(6,(aC (.p 7 0 0 0))),(8,(aC (.p 8 0 0 0)))],[(0,(.box 98 (aS b 9 10 11 12 (.d (.v (x 17))) (.d (.v (x 19)))))),(8,(.box 147 ((((((((aS b 13 14 15 16 (.d (.v (x 17))) (cI je)).set 2 (.s 13 0 6 jcards.length)).set 3 (.s 14 0 1 jdue.length)).set 5 (cI js0.bG)).set 6 (db js0.kept)).set 7 (cI js1.bG)).set 8 (db js1.kept)).set 18 (dJ jbook)))),(9,(dN b.an)),(10,(dF b.due)),(11,(dU b.aq)),(12,(cF b.aQ)),(13,(dN jcards)),(14,(dF jdue)),(15,(dU b.aq)),(16,(cF b.aQ)),(7,(.box 67 [(cI b0.aK),(cI b0.ay),(cI b0.sum),(cI b0.captured),(cI b0.bw),(cI b0.bg),(cI b0.cO),(cB b0.shut)])),(5,(.box 65 [(cI 0),(cI 0)]))],17⟩) ?_ ?_
 ·
  refine ad aa 4 rfl ?_
  refine aU ?_
  refine af ?_
  refine ad aa 2 rfl ?_
  refine ag rfl (fun hc8=>?_) (fun hc8=>?_)
  ·
   have hc8':=of_decide_eq_true hc8
   refine aN ?_
   refine ag rfl (fun _=>?_) (fun hno=>absurd (hc8.symm.trans hno) (by decide))
   refine aw ?_
   refine ab aa 4 rfl ?_
   obtain ⟨l23,e23,hr3⟩:∃ (l23:List bx) (e23:Int),cv b.an 0 b0.aK (e1 - e2) 0=(l23,e23):=⟨_,_,rfl⟩
   refine aL 19 [8,18,17,0,9,10,11,12,14,15,16,7,5] (cc (aW [8,13]) (aW [8,18]) (ms:=((dr.set 2 (some (.s 1 0 6 b.an.length))).set 19 (some (cI 0)))) (ms':=((dr.set 2 (some (.s 1 0 6 l23.length))).set 19 (some (cI e23)))) (fun x hx=>iN x hx b.an 0 b0.aK (e1 - e2) 0 (by first|omega|(simp;done)|(simp;omega)) l23 e23 hr3) nj rfl rfl ⟨⟨_,rfl,.inl ⟨rfl,rfl⟩⟩,⟨_,rfl,.inr (.c (.d _))⟩,⟨_,rfl,.inr (.c (.d _))⟩,⟨_,rfl,.inr (.c (.d _))⟩,trivial⟩ rfl rfl rfl rfl rfl rfl rfl ⟨rfl,trivial⟩ rfl rfl rfl rfl rfl rfl rfl rfl rfl rfl rfl rfl rfl) rfl ?_
   refine bY ?_
   refine bl ?_
   refine then_ok ?_
   have hX:dR b b0 x1 d=(l23,b.due,b.book,b.s0,b.s1,e23):=by
     unfold dR;(try simp only [hr1,hr2,hr3]);(repeat' split)<;>first|rfl|omega|(exfalso;omega)|(simp_all;done)|(simp_all;omega)
   rw [hX] at hj;clear hX;simp only [Prod.mk.injEq] at hj;obtain ⟨rfl,rfl,rfl,rfl,rfl,rfl⟩:=hj
   exact aD.bW (fun k=>if k=13 then 18 else k) (by refine ⟨?_,?_,?_,?_,?_,trivial⟩<;>first|rfl|(simp only [bm];done)|(congr 3;omega)|(congr 4;omega)|(simp only [bn];rfl)) (by refine ⟨?_,?_,?_,?_,?_,?_,?_,?_,?_,?_,?_,?_,trivial⟩<;>first|rfl|(simp only [bm];done)|(congr 3;omega)|(congr 4;omega)|(simp only [bn];rfl)) rfl
  have hc8':=of_decide_eq_false hc8
  refine aw ?_
  refine ab aa 2 rfl ?_
  refine ae ?_
  refine ag rfl (fun hc10=>?_) (fun hc10=>?_)
  ·
   have hc10':=of_decide_eq_true hc10
   refine aw ?_
   refine ab aa 4 rfl ?_
   obtain ⟨l24,e24,hr4⟩:∃ (l24:List bx) (e24:Int),cv b.an 0 b0.aK (e1 - e2) 0=(l24,e24):=⟨_,_,rfl⟩
   refine aL 19 [8,18,17,0,9,10,11,12,14,15,16,7,5] (cc (aW [8,13]) (aW [8,18]) (ms:=((dr.set 2 (some (.s 1 0 6 b.an.length))).set 19 (some (cI 0)))) (ms':=((dr.set 2 (some (.s 1 0 6 l24.length))).set 19 (some (cI e24)))) (fun x hx=>iN x hx b.an 0 b0.aK (e1 - e2) 0 (by first|omega|(simp;done)|(simp;omega)) l24 e24 hr4) nj rfl rfl ⟨⟨_,rfl,.inl ⟨rfl,rfl⟩⟩,⟨_,rfl,.inr (.c (.d _))⟩,⟨_,rfl,.inr (.c (.d _))⟩,⟨_,rfl,.inr (.c (.d _))⟩,trivial⟩ rfl rfl rfl rfl rfl rfl rfl ⟨rfl,trivial⟩ rfl rfl rfl rfl rfl rfl rfl rfl rfl rfl rfl rfl rfl) rfl ?_
   refine bY ?_
   refine bl ?_
   refine then_ok ?_
   have hX:dR b b0 x1 d=(l24,b.due,b.book,b.s0,b.s1,e24):=by
     unfold dR;(try simp only [hr1,hr2,hr4]);(repeat' split)<;>first|rfl|omega|(exfalso;omega)|(simp_all;done)|(simp_all;omega)
   rw [hX] at hj;clear hX;simp only [Prod.mk.injEq] at hj;obtain ⟨rfl,rfl,rfl,rfl,rfl,rfl⟩:=hj
   exact aD.bW (fun k=>if k=13 then 18 else k) (by refine ⟨?_,?_,?_,?_,?_,trivial⟩<;>first|rfl|(simp only [bm];done)|(congr 3;omega)|(congr 4;omega)|(simp only [bn];rfl)) (by refine ⟨?_,?_,?_,?_,?_,?_,?_,?_,?_,?_,?_,?_,trivial⟩<;>first|rfl|(simp only [bm];done)|(congr 3;omega)|(congr 4;omega)|(simp only [bn];rfl)) rfl
  have hc10':=of_decide_eq_false hc10
  refine af ?_
  refine ad aa 2 rfl ?_
  refine ag rfl (fun hc11=>?_) (fun hc11=>?_)
  ·
   have hc11':=of_decide_eq_true hc11
   refine aN ?_
   refine ag rfl (fun _=>?_) (fun hno=>absurd (hc11.symm.trans hno) (by decide))
   refine af ?_
   obtain ⟨l25,e25,hr5⟩:∃ (l25:List bx) (e25:Int),cv b.an 0 b0.aK (e1 - e2) (0 - d.sum)=(l25,e25):=⟨_,_,rfl⟩
   refine cW [0,1,4,6,8,9,11,10] [17,0,8,9,10,11,12,13,14,15,16,7,5] mixed rfl rfl ?_
   refine bQ (kn:=[]) aa 8 rfl trivial ?_
   refine bV (n':=18) [129] [] rfl rfl (.inl ⟨(aj.plain rfl),aH.cast (rb rfl rfl (aF (by first|omega|(simp;done)|(simp;omega)))) rfl⟩) rfl ?_
   refine bV (n':=19) [122,124,125,130] [13,8] rfl rfl (.inl ⟨(aj.plain rfl),aH.cast (cc (aW [8,13]) (aW [8,18]) (ms:=((dr.set 2 (some (.s 1 0 6 b.an.length))).set 19 (some (cI 0)))) (ms':=((dr.set 2 (some (.s 1 0 6 l25.length))).set 19 (some (cI e25)))) (fun x hx=>iN x hx b.an 0 b0.aK (e1 - e2) (0 - d.sum) (by first|omega|(simp;done)|(simp;omega)) l25 e25 hr5) nj rfl rfl ⟨⟨_,rfl,.inl ⟨rfl,rfl⟩⟩,⟨_,rfl,.inr (.c (.d _))⟩,⟨_,rfl,.inr (.c (.d _))⟩,⟨_,rfl,.inr (.c (.d _))⟩,trivial⟩ rfl rfl rfl rfl rfl rfl rfl ⟨rfl,trivial⟩ rfl rfl rfl rfl rfl rfl rfl rfl rfl rfl rfl rfl rfl) rfl⟩) rfl ?_
   refine dO [0,1,4,6,8,11,10] [18,8,17,0,9,10,11,12,14,15,16,7,5] rfl rfl (by kernel_rfl) ?_
   refine then_ok ?_
   refine aA aa 6 rfl ?_
   obtain ⟨l26,e26,hr6⟩:∃ (l26:List Entry) (e26:Int),dQ b.book e25 (10+b0.aK) 1 d.sum=(l26,e26):=⟨_,_,rfl⟩
   refine aL 19 [8,18,17,0,9,10,11,12,14,15,16,7,5] (cc (aW [8]) (aW [8]) (ms:=((dr.set 18 (some (dJ b.book))).set 19 (some (cI e25)))) (ms':=((dr.set 18 (some (dJ l26))).set 19 (some (cI e26)))) (fun x hx=>jc x hx b.book e25 (10+b0.aK) 1 d.sum l26 e26 hr6) mg rfl rfl ⟨⟨_,rfl,.inl ⟨rfl,rfl⟩⟩,⟨_,rfl,.inr (.c (.d _))⟩,⟨_,rfl,.inr (.c (.d _))⟩,⟨_,rfl,.inr (.c (.d _))⟩,trivial⟩ rfl rfl rfl rfl rfl rfl rfl trivial rfl rfl rfl rfl rfl rfl rfl rfl rfl rfl rfl rfl rfl) rfl ?_
   refine ae ?_
   refine ad aa 2 rfl ?_
   refine aw ?_
   refine ab aa 2 rfl ?_
   obtain ⟨s27,e27,hr7⟩:∃ (s27:bS) (e27:Int),eA b.s0 e26 (⟨0,1,d.n,d.sum⟩:aV)=(s27,e27):=⟨_,_,rfl⟩
   refine aL 19 [8,18,17,0,9,10,11,12,14,15,16,7,5] (cc (aW [8]) (aW [8]) (ms:=(((dr.set 5 (some (cI b.s0.bG))).set 6 (some (db b.s0.kept))).set 19 (some (cI e26)))) (ms':=(((dr.set 5 (some (cI s27.bG))).set 6 (some (db s27.kept))).set 19 (some (cI e27)))) (fun x hx=>sc x hx b.s0 e26 (⟨0,1,d.n,d.sum⟩:aV) (by assumption) s27 e27 hr7) yc rfl rfl ⟨⟨_,rfl,.inl ⟨rfl,rfl⟩⟩,⟨_,rfl,.inr (.c (.d _))⟩,⟨_,rfl,.inr (.g ⟨.d _,.d _,.d _,.d _,trivial⟩)⟩,trivial⟩ rfl rfl rfl rfl rfl rfl rfl trivial rfl rfl rfl rfl rfl rfl rfl rfl rfl rfl rfl rfl rfl) rfl ?_
   refine bY ?_
   refine bl ?_
   refine then_ok ?_
   have hX:dR b b0 x1 d=(l25,b.due,l26,s27,b.s1,e27):=by
     unfold dR;(try simp only [hr1,hr2,hr5,hr6,hr7]);(repeat' split)<;>first|rfl|omega|(exfalso;omega)|(simp_all;done)|(simp_all;omega)
   rw [hX] at hj;clear hX;simp only [Prod.mk.injEq] at hj;obtain ⟨rfl,rfl,rfl,rfl,rfl,rfl⟩:=hj
   exact aD.bW (fun k=>if k=13 then 18 else k) (by refine ⟨?_,?_,?_,?_,?_,trivial⟩<;>first|rfl|(simp only [bm];done)|(congr 3;omega)|(congr 4;omega)|(simp only [bn];rfl)) (by refine ⟨?_,?_,?_,?_,?_,?_,?_,?_,?_,?_,?_,?_,trivial⟩<;>first|rfl|(simp only [bm];done)|(congr 3;omega)|(congr 4;omega)|(simp only [bn];rfl)) rfl
  have hc11':=of_decide_eq_false hc11
  refine aw ?_
  refine ab aa 2 rfl ?_
  refine ae ?_
  refine ag rfl (fun hc13=>?_) (fun hc13=>?_)
  ·
   have hc13':=of_decide_eq_true hc13
   refine af ?_
   obtain ⟨l28,e28,hr8⟩:∃ (l28:List bx) (e28:Int),cv b.an 0 b0.aK (e1 - e2) (0 - d.sum)=(l28,e28):=⟨_,_,rfl⟩
   refine cW [0,1,4,6,8,9,11,10] [17,0,8,9,10,11,12,13,14,15,16,7,5] mixed rfl rfl ?_
   refine bQ (kn:=[]) aa 8 rfl trivial ?_
   refine bV (n':=18) [129] [] rfl rfl (.inl ⟨(aj.plain rfl),aH.cast (rb rfl rfl (aF (by first|omega|(simp;done)|(simp;omega)))) rfl⟩) rfl ?_
   refine bV (n':=19) [122,124,125,130] [13,8] rfl rfl (.inl ⟨(aj.plain rfl),aH.cast (cc (aW [8,13]) (aW [8,18]) (ms:=((dr.set 2 (some (.s 1 0 6 b.an.length))).set 19 (some (cI 0)))) (ms':=((dr.set 2 (some (.s 1 0 6 l28.length))).set 19 (some (cI e28)))) (fun x hx=>iN x hx b.an 0 b0.aK (e1 - e2) (0 - d.sum) (by first|omega|(simp;done)|(simp;omega)) l28 e28 hr8) nj rfl rfl ⟨⟨_,rfl,.inl ⟨rfl,rfl⟩⟩,⟨_,rfl,.inr (.c (.d _))⟩,⟨_,rfl,.inr (.c (.d _))⟩,⟨_,rfl,.inr (.c (.d _))⟩,trivial⟩ rfl rfl rfl rfl rfl rfl rfl ⟨rfl,trivial⟩ rfl rfl rfl rfl rfl rfl rfl rfl rfl rfl rfl rfl rfl) rfl⟩) rfl ?_
   refine dO [0,1,4,6,8,11,10] [18,8,17,0,9,10,11,12,14,15,16,7,5] rfl rfl (by kernel_rfl) ?_
   refine then_ok ?_
   refine aA aa 6 rfl ?_
   obtain ⟨l29,e29,hr9⟩:∃ (l29:List Entry) (e29:Int),dQ b.book e28 (10+b0.aK) 1 d.sum=(l29,e29):=⟨_,_,rfl⟩
   refine aL 19 [8,18,17,0,9,10,11,12,14,15,16,7,5] (cc (aW [8]) (aW [8]) (ms:=((dr.set 18 (some (dJ b.book))).set 19 (some (cI e28)))) (ms':=((dr.set 18 (some (dJ l29))).set 19 (some (cI e29)))) (fun x hx=>jc x hx b.book e28 (10+b0.aK) 1 d.sum l29 e29 hr9) mg rfl rfl ⟨⟨_,rfl,.inl ⟨rfl,rfl⟩⟩,⟨_,rfl,.inr (.c (.d _))⟩,⟨_,rfl,.inr (.c (.d _))⟩,⟨_,rfl,.inr (.c (.d _))⟩,trivial⟩ rfl rfl rfl rfl rfl rfl rfl trivial rfl rfl rfl rfl rfl rfl rfl rfl rfl rfl rfl rfl rfl) rfl ?_
   refine ae ?_
   refine ad aa 2 rfl ?_
   refine aw ?_
   refine ab aa 2 rfl ?_
   obtain ⟨s210,e210,hr10⟩:∃ (s210:bS) (e210:Int),eA b.s0 e29 (⟨0,1,d.n,d.sum⟩:aV)=(s210,e210):=⟨_,_,rfl⟩
   refine aL 19 [8,18,17,0,9,10,11,12,14,15,16,7,5] (cc (aW [8]) (aW [8]) (ms:=(((dr.set 5 (some (cI b.s0.bG))).set 6 (some (db b.s0.kept))).set 19 (some (cI e29)))) (ms':=(((dr.set 5 (some (cI s210.bG))).set 6 (some (db s210.kept))).set 19 (some (cI e210)))) (fun x hx=>sc x hx b.s0 e29 (⟨0,1,d.n,d.sum⟩:aV) (by assumption) s210 e210 hr10) yc rfl rfl ⟨⟨_,rfl,.inl ⟨rfl,rfl⟩⟩,⟨_,rfl,.inr (.c (.d _))⟩,⟨_,rfl,.inr (.g ⟨.d _,.d _,.d _,.d _,trivial⟩)⟩,trivial⟩ rfl rfl rfl rfl rfl rfl rfl trivial rfl rfl rfl rfl rfl rfl rfl rfl rfl rfl rfl rfl rfl) rfl ?_
   refine bY ?_
   refine bl ?_
   refine then_ok ?_
   have hX:dR b b0 x1 d=(l28,b.due,l29,s210,b.s1,e210):=by
     unfold dR;(try simp only [hr1,hr2,hr8,hr9,hr10]);(repeat' split)<;>first|rfl|omega|(exfalso;omega)|(simp_all;done)|(simp_all;omega)
   rw [hX] at hj;clear hX;simp only [Prod.mk.injEq] at hj;obtain ⟨rfl,rfl,rfl,rfl,rfl,rfl⟩:=hj
   exact aD.bW (fun k=>if k=13 then 18 else k) (by refine ⟨?_,?_,?_,?_,?_,trivial⟩<;>first|rfl|(simp only [bm];done)|(congr 3;omega)|(congr 4;omega)|(simp only [bn];rfl)) (by refine ⟨?_,?_,?_,?_,?_,?_,?_,?_,?_,?_,?_,?_,trivial⟩<;>first|rfl|(simp only [bm];done)|(congr 3;omega)|(congr 4;omega)|(simp only [bn];rfl)) rfl
  have hc13':=of_decide_eq_false hc13
  refine ad aa 2 rfl ?_
  refine ag rfl (fun hc14=>?_) (fun hc14=>?_)
  ·
   have hc14':=of_decide_eq_true hc14
   refine af ?_
   obtain ⟨x2,hx2⟩:=ck (xs:=b.due) (i:=Int.toNat (b0.ay)) (by first|omega|(simp;done)|(simp;omega))
   refine bb [0,1,4,6,8,11] [17,0,8,9,10,11,12,13,14,15,16,7,5] mixed rfl rfl ?_
   refine az (kn:=[]) aa 7 rfl trivial ?_
   refine aT (n':=18) [149,151] [14] rfl rfl (.inl ⟨(aj.plain rfl),aH.cast (bo (i:=Int.toNat (b0.ay)) rfl rfl rfl Try.underlying30 fH (by first|omega|(simp;done)|(simp;omega)) (by first|omega|(simp;done)|(simp;omega))) rfl⟩) rfl ?_
   refine aT (n':=18) [152] [14] rfl rfl (.inl ⟨(aj.plain rfl),aH.cast (eD rfl rfl rfl Try.underlying3 rfl (bu hx2) rfl) rfl⟩) rfl ?_
   refine az (kn:=[]) aa 5 rfl trivial ?_
   refine aT (n':=18) [149,151] [14] rfl rfl (.inl ⟨(aj.plain rfl),aH.cast (bo (i:=Int.toNat (b0.ay)) rfl rfl rfl Try.underlying30 fH (by first|omega|(simp;done)|(simp;omega)) (by first|omega|(simp;done)|(simp;omega))) rfl⟩) rfl ?_
   refine bA [17,0,8,9,10,11,12,13,14,15,16,7,5] rfl rfl rfl rfl (by kernel_rfl) ?_
   refine fY [17,0,8,9,10,11,12,13,14,15,16,7,5] (dL (ds:=[(dI (IntKind.i64.wrap (x2 - d.sum)))]) rfl rfl rfl rfl rfl fH rfl (Nat.le_of_ble_eq_true rfl) (bu hx2) rfl (eH (x':=(IntKind.i64.wrap (x2 - d.sum))) rfl)) rfl ?_
   refine ae ?_
   refine fu (k:=8) (q:=3) (c':=(.s 14 0 1 (((b.due).set (Int.toNat (b0.ay)) (IntKind.i64.wrap (x2 - d.sum))).length))) rfl rfl (by first|rfl|(simp;done)|(congr 1;omega)) rfl ?_
   refine af ?_
   obtain ⟨l211,e211,hr11⟩:∃ (l211:List Entry) (e211:Int),dQ b.book 0 (50+b0.ay) 1 d.sum=(l211,e211):=⟨_,_,rfl⟩
   refine cW [0,1,4,6,8,11] [17,0,8,9,10,11,12,13,14,15,16,7,5] mixed rfl rfl ?_
   refine bQ (kn:=[]) aa 3 rfl trivial ?_
   refine bV (n':=18) [162] [] rfl rfl (.inl ⟨(aj.plain rfl),aH.cast (aJ rfl rfl rfl (aF (by first|omega|(simp;done)|(simp;omega)))) rfl⟩) rfl ?_
   refine bQ (kn:=[]) aa 4 rfl trivial ?_
   refine bV (n':=18) [160,163,167] [8] rfl rfl (.inl ⟨(aj.plain rfl),aH.cast (cc (aW [8]) (aW [8]) (ms:=((dr.set 18 (some (dJ b.book))).set 19 (some (cI 0)))) (ms':=((dr.set 18 (some (dJ l211))).set 19 (some (cI e211)))) (fun x hx=>jc x hx b.book 0 (50+b0.ay) 1 d.sum l211 e211 hr11) mg rfl rfl ⟨⟨_,rfl,.inl ⟨rfl,rfl⟩⟩,⟨_,rfl,.inr (.c (.d _))⟩,⟨_,rfl,.inr (.c (.d _))⟩,⟨_,rfl,.inr (.c (.d _))⟩,trivial⟩ rfl rfl rfl rfl rfl rfl rfl trivial rfl rfl rfl rfl rfl rfl rfl rfl rfl rfl rfl rfl rfl) rfl⟩) rfl ?_
   refine dO [0,1,4,6,8,11] [8,17,0,9,10,11,12,13,14,15,16,7,5] rfl rfl (by kernel_rfl) ?_
   refine then_ok ?_
   refine ad aa 2 rfl ?_
   refine aw ?_
   refine ab aa 2 rfl ?_
   obtain ⟨s212,e212,hr12⟩:∃ (s212:bS) (e212:Int),eA b.s1 e211 (⟨0,2,d.n,d.sum⟩:aV)=(s212,e212):=⟨_,_,rfl⟩
   refine aL 18 [8,17,0,9,10,11,12,13,14,15,16,7,5] (cc (aW [8]) (aW [8]) (ms:=(((dr.set 7 (some (cI b.s1.bG))).set 8 (some (db b.s1.kept))).set 19 (some (cI e211)))) (ms':=(((dr.set 7 (some (cI s212.bG))).set 8 (some (db s212.kept))).set 19 (some (cI e212)))) (fun x hx=>CY x hx b.s1 e211 (⟨0,2,d.n,d.sum⟩:aV) (by assumption) s212 e212 hr12) yc rfl rfl ⟨⟨_,rfl,.inl ⟨rfl,rfl⟩⟩,⟨_,rfl,.inr (.c (.d _))⟩,⟨_,rfl,.inr (.g ⟨.d _,.d _,.d _,.d _,trivial⟩)⟩,trivial⟩ rfl rfl rfl rfl rfl rfl rfl trivial rfl rfl rfl rfl rfl rfl rfl rfl rfl rfl rfl rfl rfl) rfl ?_
   refine bY ?_
   refine bl ?_
   refine then_ok ?_
   have hX:dR b b0 x1 d=(b.an,(b.due).set (Int.toNat (b0.ay)) (IntKind.i64.wrap (x2 - d.sum)),l211,b.s0,s212,e212):=by
     unfold dR;simp only [List.getD_eq_getElem?_getD,hx2,Option.getD_some];(try simp only [hr1,hr2,hr11,hr12,hx2]);(repeat' split)<;>first|rfl|omega|(exfalso;omega)|(simp_all;done)|(simp_all;omega)
   rw [hX] at hj;clear hX;simp only [Prod.mk.injEq] at hj;obtain ⟨rfl,rfl,rfl,rfl,rfl,rfl⟩:=hj
   exact aD.bW id (by refine ⟨?_,?_,?_,?_,?_,trivial⟩<;>first|rfl|(simp only [bm];done)|(congr 3;omega)|(congr 4;omega)|(simp only [bn];rfl)) (by refine ⟨?_,?_,?_,?_,?_,?_,?_,?_,?_,?_,?_,?_,trivial⟩<;>first|rfl|(simp only [bm];done)|(congr 3;omega)|(congr 4;omega)|(simp only [bn];rfl)) rfl
  have hc14':=of_decide_eq_false hc14
  refine ad aa 2 rfl ?_
  refine ag rfl (fun hc15=>?_) (fun hc15=>?_)
  ·
   have hc15':=of_decide_eq_true hc15
   refine af ?_
   obtain ⟨l213,e213,hr13⟩:∃ (l213:List bx) (e213:Int),cv b.an 0 b0.aK 0 d.sum=(l213,e213):=⟨_,_,rfl⟩
   refine cW [0,1,4,6,8,10] [0,8,9,10,11,12,13,14,15,16,7,5] mixed rfl rfl ?_
   refine bQ (kn:=[]) aa 7 rfl trivial ?_
   refine bV (n':=19) [175,177,181] [13,8] rfl rfl (.inl ⟨(aj.plain rfl),aH.cast (cc (aW [8,13]) (aW [8,18]) (ms:=((dr.set 2 (some (.s 1 0 6 b.an.length))).set 19 (some (cI 0)))) (ms':=((dr.set 2 (some (.s 1 0 6 l213.length))).set 19 (some (cI e213)))) (fun x hx=>iN x hx b.an 0 b0.aK 0 d.sum (by first|omega|(simp;done)|(simp;omega)) l213 e213 hr13) nj rfl rfl ⟨⟨_,rfl,.inl ⟨rfl,rfl⟩⟩,⟨_,rfl,.inr (.c (.d _))⟩,⟨_,rfl,.inr (.c (.d _))⟩,⟨_,rfl,.inr (.c (.d _))⟩,trivial⟩ rfl rfl rfl rfl rfl rfl rfl ⟨rfl,trivial⟩ rfl rfl rfl rfl rfl rfl rfl rfl rfl rfl rfl rfl rfl) rfl⟩) rfl ?_
   refine dO [0,1,4,6,8,10] [18,8,0,9,10,11,12,14,15,16,7,5] rfl rfl (by kernel_rfl) ?_
   refine then_ok ?_
   refine aw ?_
   refine ab aa 6 rfl ?_
   obtain ⟨l214,e214,hr14⟩:∃ (l214:List Entry) (e214:Int),dQ b.book e213 2 (10+b0.aK) d.sum=(l214,e214):=⟨_,_,rfl⟩
   refine aL 19 [8,18,0,9,10,11,12,14,15,16,7,5] (cc (aW [8]) (aW [8]) (ms:=((dr.set 18 (some (dJ b.book))).set 19 (some (cI e213)))) (ms':=((dr.set 18 (some (dJ l214))).set 19 (some (cI e214)))) (fun x hx=>jc x hx b.book e213 2 (10+b0.aK) d.sum l214 e214 hr14) mg rfl rfl ⟨⟨_,rfl,.inl ⟨rfl,rfl⟩⟩,⟨_,rfl,.inr (.c (.d _))⟩,⟨_,rfl,.inr (.c (.d _))⟩,⟨_,rfl,.inr (.c (.d _))⟩,trivial⟩ rfl rfl rfl rfl rfl rfl rfl trivial rfl rfl rfl rfl rfl rfl rfl rfl rfl rfl rfl rfl rfl) rfl ?_
   refine bY ?_
   refine bl ?_
   refine then_ok ?_
   have hX:dR b b0 x1 d=(l213,b.due,l214,b.s0,b.s1,e214):=by
     unfold dR;(try simp only [hr1,hr2,hr13,hr14]);(repeat' split)<;>first|rfl|omega|(exfalso;omega)|(simp_all;done)|(simp_all;omega)
   rw [hX] at hj;clear hX;simp only [Prod.mk.injEq] at hj;obtain ⟨rfl,rfl,rfl,rfl,rfl,rfl⟩:=hj
   exact aD.bW (fun k=>if k=13 then 18 else k) (by refine ⟨?_,?_,?_,?_,?_,trivial⟩<;>first|rfl|(simp only [bm];done)|(congr 3;omega)|(congr 4;omega)|(simp only [bn];rfl)) (by refine ⟨?_,?_,?_,?_,?_,?_,?_,?_,?_,?_,?_,?_,trivial⟩<;>first|rfl|(simp only [bm];done)|(congr 3;omega)|(congr 4;omega)|(simp only [bn];rfl)) rfl
  have hc15':=of_decide_eq_false hc15
  refine ad aa 2 rfl ?_
  refine ag rfl (fun hc16=>?_) (fun hc16=>?_)
  ·
   have hc16':=of_decide_eq_true hc16
   refine ad aa 2 rfl ?_
   refine aw ?_
   refine ab aa 2 rfl ?_
   obtain ⟨s215,e215,hr15⟩:∃ (s215:bS) (e215:Int),eA b.s0 0 (⟨0,3,d.n,d.sum⟩:aV)=(s215,e215):=⟨_,_,rfl⟩
   refine aL 18 [8,17,0,9,10,11,12,13,14,15,16,7,5] (cc (aW [8]) (aW [8]) (ms:=(((dr.set 5 (some (cI b.s0.bG))).set 6 (some (db b.s0.kept))).set 19 (some (cI 0)))) (ms':=(((dr.set 5 (some (cI s215.bG))).set 6 (some (db s215.kept))).set 19 (some (cI e215)))) (fun x hx=>sc x hx b.s0 0 (⟨0,3,d.n,d.sum⟩:aV) (by assumption) s215 e215 hr15) yc rfl rfl ⟨⟨_,rfl,.inl ⟨rfl,rfl⟩⟩,⟨_,rfl,.inr (.c (.d _))⟩,⟨_,rfl,.inr (.g ⟨.d _,.d _,.d _,.d _,trivial⟩)⟩,trivial⟩ rfl rfl rfl rfl rfl rfl rfl trivial rfl rfl rfl rfl rfl rfl rfl rfl rfl rfl rfl rfl rfl) rfl ?_
   refine bY ?_
   refine bl ?_
   refine then_ok ?_
   have hX:dR b b0 x1 d=(b.an,b.due,b.book,s215,b.s1,e215):=by
     unfold dR;(try simp only [hr1,hr2,hr15]);(repeat' split)<;>first|rfl|omega|(exfalso;omega)|(simp_all;done)|(simp_all;omega)
   rw [hX] at hj;clear hX;simp only [Prod.mk.injEq] at hj;obtain ⟨rfl,rfl,rfl,rfl,rfl,rfl⟩:=hj
   exact aD.bW id (by refine ⟨?_,?_,?_,?_,?_,trivial⟩<;>first|rfl|(simp only [bm];done)|(congr 3;omega)|(congr 4;omega)|(simp only [bn];rfl)) (by refine ⟨?_,?_,?_,?_,?_,?_,?_,?_,?_,?_,?_,?_,trivial⟩<;>first|rfl|(simp only [bm];done)|(congr 3;omega)|(congr 4;omega)|(simp only [bn];rfl)) rfl
  have hc16':=of_decide_eq_false hc16
  refine ad aa 2 rfl ?_
  refine ag rfl (fun hc17=>?_) (fun hc17=>?_)
  ·
   have hc17':=of_decide_eq_true hc17
   refine af ?_
   obtain ⟨l216,e216,hr16⟩:∃ (l216:List bx) (e216:Int),cv b.an 0 b0.aK 0 (0 - d.sum)=(l216,e216):=⟨_,_,rfl⟩
   refine cW [0,1,4,6,8,10] [0,8,9,10,11,12,13,14,15,16,7,5] mixed rfl rfl ?_
   refine bQ (kn:=[]) aa 7 rfl trivial ?_
   refine bV (n':=18) [204] [] rfl rfl (.inl ⟨(aj.plain rfl),aH.cast (rb rfl rfl (aF (by first|omega|(simp;done)|(simp;omega)))) rfl⟩) rfl ?_
   refine bV (n':=19) [198,200,205] [13,8] rfl rfl (.inl ⟨(aj.plain rfl),aH.cast (cc (aW [8,13]) (aW [8,18]) (ms:=((dr.set 2 (some (.s 1 0 6 b.an.length))).set 19 (some (cI 0)))) (ms':=((dr.set 2 (some (.s 1 0 6 l216.length))).set 19 (some (cI e216)))) (fun x hx=>iN x hx b.an 0 b0.aK 0 (0 - d.sum) (by first|omega|(simp;done)|(simp;omega)) l216 e216 hr16) nj rfl rfl ⟨⟨_,rfl,.inl ⟨rfl,rfl⟩⟩,⟨_,rfl,.inr (.c (.d _))⟩,⟨_,rfl,.inr (.c (.d _))⟩,⟨_,rfl,.inr (.c (.d _))⟩,trivial⟩ rfl rfl rfl rfl rfl rfl rfl ⟨rfl,trivial⟩ rfl rfl rfl rfl rfl rfl rfl rfl rfl rfl rfl rfl rfl) rfl⟩) rfl ?_
   refine dO [0,1,4,6,8,10] [18,8,0,9,10,11,12,14,15,16,7,5] rfl rfl (by kernel_rfl) ?_
   refine then_ok ?_
   refine aw ?_
   refine ab aa 6 rfl ?_
   obtain ⟨l217,e217,hr17⟩:∃ (l217:List Entry) (e217:Int),dQ b.book e216 (10+b0.aK) 2 d.sum=(l217,e217):=⟨_,_,rfl⟩
   refine aL 19 [8,18,0,9,10,11,12,14,15,16,7,5] (cc (aW [8]) (aW [8]) (ms:=((dr.set 18 (some (dJ b.book))).set 19 (some (cI e216)))) (ms':=((dr.set 18 (some (dJ l217))).set 19 (some (cI e217)))) (fun x hx=>jc x hx b.book e216 (10+b0.aK) 2 d.sum l217 e217 hr17) mg rfl rfl ⟨⟨_,rfl,.inl ⟨rfl,rfl⟩⟩,⟨_,rfl,.inr (.c (.d _))⟩,⟨_,rfl,.inr (.c (.d _))⟩,⟨_,rfl,.inr (.c (.d _))⟩,trivial⟩ rfl rfl rfl rfl rfl rfl rfl trivial rfl rfl rfl rfl rfl rfl rfl rfl rfl rfl rfl rfl rfl) rfl ?_
   refine bY ?_
   refine bl ?_
   refine then_ok ?_
   have hX:dR b b0 x1 d=(l216,b.due,l217,b.s0,b.s1,e217):=by
     unfold dR;(try simp only [hr1,hr2,hr16,hr17]);(repeat' split)<;>first|rfl|omega|(exfalso;omega)|(simp_all;done)|(simp_all;omega)
   rw [hX] at hj;clear hX;simp only [Prod.mk.injEq] at hj;obtain ⟨rfl,rfl,rfl,rfl,rfl,rfl⟩:=hj
   exact aD.bW (fun k=>if k=13 then 18 else k) (by refine ⟨?_,?_,?_,?_,?_,trivial⟩<;>first|rfl|(simp only [bm];done)|(congr 3;omega)|(congr 4;omega)|(simp only [bn];rfl)) (by refine ⟨?_,?_,?_,?_,?_,?_,?_,?_,?_,?_,?_,?_,trivial⟩<;>first|rfl|(simp only [bm];done)|(congr 3;omega)|(congr 4;omega)|(simp only [bn];rfl)) rfl
  have hc17':=of_decide_eq_false hc17
  refine cU ?_
  refine bl ?_
  refine then_ok ?_
  have hX:dR b b0 x1 d=(b.an,b.due,b.book,b.s0,b.s1,0):=by
    unfold dR;(try simp only [hr1,hr2]);(repeat' split)<;>first|rfl|omega|(exfalso;omega)|(simp_all;done)|(simp_all;omega)
  rw [hX] at hj;clear hX;simp only [Prod.mk.injEq] at hj;obtain ⟨rfl,rfl,rfl,rfl,rfl,rfl⟩:=hj
  exact aD.bW id (by refine ⟨?_,?_,?_,?_,?_,trivial⟩<;>first|rfl|(simp only [bm];done)|(congr 3;omega)|(congr 4;omega)|(simp only [bn];rfl)) (by refine ⟨?_,?_,?_,?_,?_,?_,?_,?_,?_,?_,?_,?_,trivial⟩<;>first|rfl|(simp only [bm];done)|(congr 3;omega)|(congr 4;omega)|(simp only [bn];rfl)) rfl
 refine af ?_
 obtain ⟨l218,e218,hr18⟩:∃ (l218:List al) (e218:Int),iq b.aQ je (⟨b0.ay,d.n,d.move,d.sum⟩:al)=(l218,e218):=⟨_,_,rfl⟩
 refine cW [0,1,4,6,8] [0,8,9,10,11,12,13,14,15,16,7,5] mixed rfl rfl ?_
 refine bQ (kn:=[]) aa 16 rfl trivial ?_
 refine bV (n':=18) [214,229] [16,8] rfl rfl (.inl ⟨(aj.plain rfl),aH.cast (cc (aW [8,16]) (aW [8,17]) (ms:=((dr.set 16 (some (.s 1 0 4 b.aQ.length))).set 19 (some (cI je)))) (ms':=((dr.set 16 (some (.s 1 0 4 l218.length))).set 19 (some (cI e218)))) (fun x hx=>EC x hx b.aQ je (⟨b0.ay,d.n,d.move,d.sum⟩:al) (by first|omega|(simp;done)|(simp;omega)) l218 e218 hr18) Gm rfl rfl ⟨⟨_,rfl,.inl ⟨rfl,rfl⟩⟩,⟨_,rfl,.inr (.g ⟨.d _,.d _,.d _,.d _,trivial⟩)⟩,trivial⟩ rfl rfl rfl rfl rfl rfl rfl ⟨rfl,trivial⟩ rfl rfl rfl rfl rfl rfl rfl rfl rfl rfl rfl rfl rfl) rfl⟩) rfl ?_
 refine dO [0,1,4,6,8] [17,8,0,9,10,11,12,13,14,15,7,5] rfl rfl (by kernel_rfl) ?_
 refine then_ok ?_
 refine af ?_
 refine bb [0,1,4,6,8] [17,8,0,9,10,11,12,13,14,15,7,5] mixed rfl rfl ?_
 refine az (kn:=[]) aa 10 rfl trivial ?_
 refine aT (n':=18) [235,239] [15] rfl rfl (.inl ⟨(aj.plain rfl),aH.cast (bo (i:=Int.toNat (d.n)) rfl rfl rfl Try.underlying31 lV (by first|omega|(simp;done)|(simp;omega)) (by first|omega|(simp;done)|(simp;omega))) rfl⟩) rfl ?_
 refine bA [17,8,0,9,10,11,12,13,14,15,7,5] rfl rfl rfl rfl (by kernel_rfl) ?_
 refine fY [17,8,0,9,10,11,12,13,14,15,7,5] (dL (ds:=[(dI b0.aK),(dI b0.ay),(dI b0.sum),(dI b0.captured),(dI b0.bw),(dI b0.bg),(dI b0.cO),(dB b0.shut)]) rfl rfl rfl rfl rfl lV rfl (Nat.le_of_ble_eq_true rfl) (bu hx1) rfl (eH (x':=b0) rfl)) rfl ?_
 refine ae ?_
 rcases (show e218=0\/¬e218=0 from by omega) with hs18|hs18
 ·
  refine fu (k:=8) (q:=4) (c':=(.s 15 0 8 (((b.aq).set (Int.toNat (d.n)) b0).length))) rfl rfl (by first|rfl|(simp;done)|(congr 1;omega)) rfl ?_
  refine aA aa 2 rfl ?_
  refine aL 22 [0,18,19,20,21,7,5] (cx (aW [0,8,9,10,11,12,13,14,15,17]) (aW [0,18,19,20,21]) (fb (x 17) (x 19) b (⟨b.time,b.down,jcards,jdue,(b.aq).set (Int.toNat (d.n)) b0,js0,js1,b.n0,b.n1,b.w0,b.w1,b.bF,l218,jbook⟩:Bk) e218 (by first|assumption|omega)) fz rfl rfl ⟨⟨_,rfl,.inl ⟨rfl,rfl⟩⟩,⟨_,rfl,.inl ⟨rfl,rfl⟩⟩,trivial⟩ ⟨rfl,rfl,rfl,rfl,rfl,rfl,rfl,rfl,rfl,rfl,trivial⟩ rfl rfl rfl rfl rfl rfl trivial ⟨⟨trivial,trivial,trivial,trivial,trivial,trivial,trivial,trivial,trivial,trivial,trivial,trivial,trivial,trivial,trivial,trivial,trivial,trivial,trivial,trivial,trivial⟩,(fun _ _ _ _=>trivial),(fun _ _ _ _=>trivial),(fun _ _ _ _=>trivial),(fun _ _ _ _=>trivial),trivial⟩ rfl rfl rfl rfl) rfl ?_
  refine ab aa 2 rfl ?_
  refine ae ?_
  refine ar ?_
  have hX:dG b d=((⟨b.time,b.down,jcards,jdue,(b.aq).set (Int.toNat (d.n)) b0,js0,js1,b.n0,b.n1,b.w0,b.w1,b.bF,l218,jbook⟩:Bk),(⟨e218,0⟩:Answer)):=by
    unfold dG;simp only [hdn,Bool.false_eq_true,if_false];rw [if_neg (by omega),hx1];dsimp only;simp only [hr0,hj0];unfold nk dx;simp only [hr18];(repeat' split)<;>first|rfl|omega|(exfalso;omega)|(simp_all;done)|(simp_all;omega)
  rw [hX] at hr;clear hX
  simp only [Prod.mk.injEq] at hr;obtain ⟨rfl,rfl⟩:=hr
  refine ah aa [0,18,19,20,21,5] 5 rfl rfl rfl rfl rfl rfl ?_ ?_
  all_goals first|rfl|(simp [au,aS,aY];done)|(simp [au,aS,aY];omega)
 refine fu (k:=8) (q:=4) (c':=(.s 15 0 8 (((b.aq).set (Int.toNat (d.n)) b0).length))) rfl rfl (by first|rfl|(simp;done)|(congr 1;omega)) rfl ?_
 refine aA aa 2 rfl ?_
 refine aL 22 [0,18,19,20,21,7,5] (cx (aW [0,8,9,10,11,12,13,14,15,17]) (aW [0,18,19,20,21]) (fQ (x 17) (x 19) b (⟨b.time,b.down,jcards,jdue,(b.aq).set (Int.toNat (d.n)) b0,js0,js1,b.n0,b.n1,b.w0,b.w1,b.bF,l218,jbook⟩:Bk) e218 (by first|assumption|omega)) fz rfl rfl ⟨⟨_,rfl,.inl ⟨rfl,rfl⟩⟩,⟨_,rfl,.inl ⟨rfl,rfl⟩⟩,trivial⟩ ⟨rfl,rfl,rfl,rfl,rfl,rfl,rfl,rfl,rfl,rfl,trivial⟩ rfl rfl rfl rfl rfl rfl trivial ⟨⟨trivial,trivial,trivial,trivial,trivial,trivial,trivial,trivial,trivial,trivial,trivial,trivial,trivial,trivial,trivial,trivial,trivial,trivial,trivial,trivial,trivial⟩,(fun _ _ _ _=>trivial),(fun _ _ _ _=>trivial),(fun _ _ _ _=>trivial),(fun _ _ _ _=>trivial),trivial⟩ rfl rfl rfl rfl) rfl ?_
 refine ab aa 2 rfl ?_
 refine ae ?_
 refine ar ?_
 have hX:dG b d=(b,(⟨e218,0⟩:Answer)):=by
   unfold dG;simp only [hdn,Bool.false_eq_true,if_false];rw [if_neg (by omega),hx1];dsimp only;simp only [hr0,hj0];unfold nk dx;simp only [hr18];(repeat' split)<;>first|rfl|omega|(exfalso;omega)|(simp_all;done)|(simp_all;omega)
 rw [hX] at hr;clear hX
 simp only [Prod.mk.injEq] at hr;obtain ⟨rfl,rfl⟩:=hr
 refine ah aa [0,18,19,20,21,5] 5 rfl rfl rfl rfl rfl rfl ?_ ?_
 all_goals first|rfl|(simp [au,aS,aY];done)|(simp [au,aS,aY];omega)
theorem zS (x:Nat->Value) (hx:∀ i,(x i).oneCell'=true) (b:Bk) (d:aR) (ok:ch b) (hdn:b.down=true) (b2:Bk) (a2:Answer) (hr:dG b d=(b2,a2)):cz Try.prog 64 [(.c (.p 0 0 0 0)),(.c (.q (cL d) 0))] [(0,(.box 98 (aS b 1 2 3 4 (.d (.v (x 17))) (.d (.v (x 19)))))),(1,(dN b.an)),(2,(dF b.due)),(3,(dU b.aq)),(4,(cF b.aQ))] [0] (.v (.g [cI a2.err,cI a2.ba])) [(0,(.box 98 (aS b2 1 2 3 4 (.d (.v (x 17))) (.d (.v (x 19)))))),(1,(dN b2.an)),(2,(dF b2.due)),(3,(dU b2.aq)),(4,(cF b2.aQ))]:=by
 refine cz.mk 246 [(0,(aC (.p 0 0 0 0))),(1,(aC (.q (cL d) 0)))] 5 Try.func64 rfl rfl rfl rfl rfl rfl rfl rfl rfl ?_
 intro W0 F0 T0 pg
 obtain ⟨okt,okc,okd,oka,oky,okw0,okw1,okp,okv,okk0,okk1,okg,okl0,okl1,okp0,okp1,okn0,okn1,okq⟩:=id ok
 refine ad aa 1 rfl ?_
 refine af ?_
 refine ad aa 5 rfl ?_
 refine ag rfl (fun _=>?_) (fun hno=>absurd (hdn.symm.trans hno) (by decide))
 refine ad aa 2 rfl ?_
 refine ar ?_
 refine ao ?_
 have hX:dG b d=(b,(⟨12,0⟩:Answer)):=by
   unfold dG;rw [if_pos hdn]
 rw [hX] at hr;clear hX
 simp only [Prod.mk.injEq] at hr;obtain ⟨rfl,rfl⟩:=hr
 refine ah aa [0,1,2,3,4,5] 5 rfl rfl rfl rfl rfl rfl ?_ ?_
 all_goals first|rfl|(simp [au,aS,aY];done)|(simp [au,aS,aY];omega)
theorem BI (x:Nat->Value) (hx:∀ i,(x i).oneCell'=true) (b:Bk) (d:aR) (ok:ch b) (b2:Bk) (a2:Answer) (hr:dG b d=(b2,a2)):cz Try.prog 64 [(.c (.p 0 0 0 0)),(.c (.q (cL d) 0))] [(0,(.box 98 (aS b 1 2 3 4 (.d (.v (x 17))) (.d (.v (x 19)))))),(1,(dN b.an)),(2,(dF b.due)),(3,(dU b.aq)),(4,(cF b.aQ))] [0] (.v (.g [cI a2.err,cI a2.ba])) [(0,(.box 98 (aS b2 1 2 3 4 (.d (.v (x 17))) (.d (.v (x 19)))))),(1,(dN b2.an)),(2,(dF b2.due)),(3,(dU b2.aq)),(4,(cF b2.aQ))]:=by
  cases hdn:b.down
  ·exact zR x hx b d ok hdn b2 a2 hr
  ·exact zS x hx b d ok hdn b2 a2 hr
theorem fV {α:Type} {l:List α} {n:Nat} {x y:α} (h:y∈l.set n x):y∈l\/y=x:=List.mem_or_eq_of_mem_set h
theorem ju {l:List bx} {e k x y:Int} (h:∀ c∈l,cu c=0):∀ c∈(cv l e k x y).1,cu c=0:=by
 unfold cv
 split
 ·exact h
 ·rename_i c hc
  split
  ·rename_i h0
   intro z hz
   rcases fV hz with hz|rfl
   ·exact h z hz
   ·have he:(dT c x y).2=0:=by unfold dv at h0;split at h0<;>omega
    rcases pR (show dT c x y=((dT c x y).1,(dT c x y).2) from rfl) with ⟨h1,_⟩|h1
    ·exact absurd he h1
    ·exact h1.2.2.2.2.2.2.2
  ·exact h
theorem uN {time:Int} {n m:Nat}:∀ (l:List bB) (i:Nat) (an:List bx) (aq:List bB) (e:Int),(∀ a∈l,bE a=0/\0<=a.aK/\a.aK < n/\0<=a.ay/\a.ay < m)->
  (∀ a∈aq,bE a=0/\0<=a.aK/\a.aK < n/\0<=a.ay/\a.ay < m)->(∀ c∈an,cu c=0)->
  (∀ c∈(fD time l i an aq e).1,cu c=0)/\(fD time l i an aq e).1.length=an.length/\(fD time l i an aq e).2.1.length=aq.length/\
  (∀ a∈(fD time l i an aq e).2.1,bE a=0/\0<=a.aK/\a.aK < n/\0<=a.ay/\a.ay < m)
 |[],_,_,_,_,_,h2,h3=>⟨h3,rfl,rfl,h2⟩
 |a::l,i,an,aq,e,h1,h2,h3=>by
  have ha:=h1 a List.mem_cons_self
  obtain ⟨r1,r2,r3,r4⟩:=uN l (i+1) (cv an e a.aK (bq (ed a time) - bq a) 0).1 (aq.set i (ed a time)) (cv an e a.aK (bq (ed a time) - bq a) 0).2
   (fun x hx=>h1 x (List.mem_cons_of_mem _ hx)) (fun x hx=>by
    rcases fV hx with hx|rfl
    ·exact h2 x hx
    ·exact ⟨wY ha.1,ha.2⟩) (ju h3)
  refine ⟨r1,r2.trans (fa _ _ _ _ _),r3.trans (List.length_set ..),r4⟩
theorem ch.late {b:Bk} (h:ch b):ch (gL b):=by
 unfold gL
 split
 ·obtain ⟨r1,r2,r3,r4⟩:=uN (time:=b.time) (n:=b.an.length) (m:=b.due.length) b.aq 0 b.an b.aq 0 h.perm h.perm h.right
  exact ⟨h.time,by rw [r2];exact h.an,h.due,by rw [r3];exact h.aq,h.aQ,h.w0,h.w1,by dsimp only;rw [r2];exact r4,by dsimp only;rw [r2];exact h.jr,by dsimp only;rw [r3];exact h.k0,by dsimp only;rw [r3];exact h.k1,r1,h.l0,h.l1,by dsimp only;rw [r3];exact h.p0,by dsimp only;rw [r3];exact h.p1,h.n0,h.n1,h.calm⟩
 ·exact h
theorem ch.dx {b c:Bk} {e:Int} (h:ch b) (hc:e=0->ch c):ch (dx b c e).1:=by
 unfold Dev.dx;split
 ·exact hc (by assumption)
 ·exact h
theorem fE {e x:Int} (h:dv e x=0):e=0/\x=0:=by unfold dv at h;split at h<;>omega
theorem jA {l:List Entry} {e s d n:Int} (h:(dQ l e s d n).2=0):e=0/\(iL l s d n).2=0/\(dQ l e s d n).1=(iL l s d n).1:=by
 unfold dQ at h ⊢
 split at h
 ·rename_i h1;rw [if_pos h1];have:=fE h1;exact ⟨this.1,this.2,rfl⟩
 ·rename_i h1;exact absurd h h1
theorem ch.zK {b:Bk} (h:ch b) {cs:List bx} {bk:List Entry} (h1:∀ c∈cs,cu c=0) (h2:cs.length=b.an.length):ch {b with an:=cs,book:=bk}:=
 ⟨h.time,by rw [h2];exact h.an,h.due,h.aq,h.aQ,h.w0,h.w1,by dsimp only;rw [h2];exact h.perm,by dsimp only;rw [h2];exact h.jr,h.k0,h.k1,h1,h.l0,h.l1,h.p0,h.p1,h.n0,h.n1,h.calm⟩
theorem ch.load {b:Bk} (h:ch b) (d:aR):ch (fw b d).1:=by
 unfold fw
 split
 ·exact h
 split
 ·exact h
 ·exact h.dx fun _=>h.zK (ju h.right) (fa _ _ _ _ _)
theorem ch.CN {b:Bk} (h:ch b) {due:List Int} {bk:List Entry} (h2:due.length=b.due.length):ch {b with due:=due,book:=bk}:=
 ⟨h.time,h.an,by rw [h2];exact h.due,h.aq,h.aQ,h.w0,h.w1,by dsimp only;rw [h2];exact h.perm,by dsimp only;rw [h2];exact h.jr,h.k0,h.k1,h.right,h.l0,h.l1,h.p0,h.p1,h.n0,h.n1,h.calm⟩
theorem ch.uE {b:Bk} (h:ch b) (d:aR):ch (gm b d).1:=by
 unfold gm
 split
 ·exact h
 split
 ·exact h
 ·exact h.dx fun _=>h.CN (List.length_set ..)
theorem ch.cH {b:Bk} (h:ch b) (d:aR):ch (fi b d).1:=by
 unfold fi
 split
 ·exact h
 ·have h1:ch {b with time:=b.time+d.sum}:=by have:=h.time;exact h.tick (by omega) (by omega)
  dsimp only
  split
  ·exact h1
  ·exact h1.late
theorem sM {l:List bU} {ks:List aV} {n:Int} {p:bU} (h:p∈gr l ks n):p∈l\/(∃ t∈ks,p=⟨t,-1⟩)\/p=⟨⟨0,0,0,0⟩,n⟩:=by
 unfold gr at h
 simp only [List.mem_append,List.mem_map,List.mem_singleton] at h
 rcases h with (h|⟨t,ht,rfl⟩)|h
 ·exact .inl h
 ·exact .inr (.inl ⟨t,ht,rfl⟩)
 ·exact .inr (.inr h)
structure xp (b:Bk) (n:Nat) (w:List bU):Prop where
 len:w.length<=60
 own:∀ p∈w,p.seen < 0->fB p.cq.number/\0<=p.cq.ba/\p.cq.ba < n
theorem ch.ways {b:Bk} (h:ch b) {v0 v1:List bU} (h0:xp b b.aq.length v0) (h1:xp b b.aq.length v1):ch {b with w0:=v0,w1:=v1}:=
 ⟨h.time,h.an,h.due,h.aq,h.aQ,h0.len,h1.len,h.perm,h.jr,h.k0,h.k1,h.right,h.l0,h.l1,h0.own,h1.own,h.n0,h.n1,h.calm⟩
theorem uo {b:Bk} {w:List bU} {ks:List aV} {n:Int} (hn:0<=n) (h:xp b b.aq.length w) (hk:∀ t∈ks,fB t.number/\0<=t.ba/\t.ba < b.aq.length):xp b b.aq.length (gX w ks n).1:=by
 unfold gX
 split
 ·exact h
 ·refine ⟨by dsimp only;omega,fun p hp hs=>?_⟩
  rcases sM hp with hp|⟨t,ht,rfl⟩|rfl
  ·exact h.own p hp hs
  ·exact hk t ht
  ·simp at hs;omega
theorem ch.send {b:Bk} (h:ch b) (d:aR):ch {b with w0:=(eu b.s0 b.s1 b.n0 b.n1 b.w0 b.w1 d).1,w1:=(eu b.s0 b.s1 b.n0 b.n1 b.w0 b.w1 d).2.1}:=by
 have h0:xp b b.aq.length b.w0:=⟨h.w0,h.p0⟩
 have h1:xp b b.aq.length b.w1:=⟨h.w1,h.p1⟩
 unfold eu
 split
 ·exact h.ways h0 (uo h.n0 h1 h.k0)
 split
 ·exact h.ways (uo h.n1 h0 h.k1) h1
 ·exact h.ways h0 h1
theorem uq {s:bS} {e:Int} {t:aV} {n:Nat} (h:∀ t∈s.kept,fB t.number/\0<=t.ba/\t.ba < n) (hl:s.kept.length<=40) (ht:0<=t.ba/\t.ba < n):
  (∀ u∈(eA s e t).1.kept,fB u.number/\0<=u.ba/\u.ba < n)/\(eA s e t).1.kept.length<=40:=by
 unfold eA
 split
 ·rename_i h0
  have he:=(fE h0).2
  unfold fF at he
  split at he
  ·rename_i h1;exact absurd he h1
  split at he
  ·rename_i h1;exact absurd he h1
  ·rename_i h1 h2
   have hp:(fF s t).1=iA s t:=by unfold fF;rw [if_neg h1,if_neg h2]
   have hw:(cj (iA s t)).err=0:=by omega
   have hr:=uz hw
   dsimp only
   rw [hp]
   refine ⟨fun x hx=>?_,hr.1⟩
   rcases List.mem_append.1 hx with hx|hx
   ·exact h x hx
   ·obtain rfl:=List.mem_singleton.1 hx
    exact ⟨by have:=hr.2.1;have:=hr.2.2.1;constructor<;>simp only [iA,List.length_append] at *<;>omega,ht⟩
 ·exact ⟨h,hl⟩
theorem yY {l:List al} {e:Int} {r:al} (h:l.length<=100):(iq l e r).1.length<=100:=by
 unfold iq
 split
 ·exact h
 ·rw [List.length_append,List.length_singleton];omega
theorem xK {l:List al} {e:Int} {r:al} (h:(iq l e r).2=0):e=0/\l.length≠100/\(iq l e r).1=l++[r]:=by
 unfold iq at h ⊢
 split at h
 ·have:=(fE h).2;omega
 ·rename_i h1;rw [if_neg h1];exact ⟨h,h1,rfl⟩
structure nI (n:Nat) (s:bS):Prop where
 own:∀ t∈s.kept,fB t.number/\0<=t.ba/\t.ba < n
 len:s.kept.length<=40
theorem ch.sX {b:Bk} (h:ch b):nI b.aq.length b.s0:=⟨h.k0,h.l0⟩
theorem ch.sW {b:Bk} (h:ch b):nI b.aq.length b.s1:=⟨h.k1,h.l1⟩
theorem nI.send {n:Nat} {s:bS} {e:Int} {t:aV} (h:nI n s) (ht:0<=t.ba/\t.ba < n):nI n (eA s e t).1:=⟨(uq h.own h.len ht).1,(uq h.own h.len ht).2⟩
theorem Bw {b:Bk} (h:ch b) (a cw:bB) (d:aR) (hn:0<=d.n/\d.n < b.aq.length):
  (∀ c∈(dR b a cw d).1,cu c=0)/\(dR b a cw d).1.length=b.an.length/\(dR b a cw d).2.1.length=b.due.length/\
  nI b.aq.length (dR b a cw d).2.2.2.1/\nI b.aq.length (dR b a cw d).2.2.2.2.1:=by
 unfold dR
 have hc:∀ e k x y,(∀ c∈(cv b.an e k x y).1,cu c=0)/\(cv b.an e k x y).1.length=b.an.length:=fun e k x y=>⟨ju h.right,fa _ _ _ _ _⟩
 split
 ·exact ⟨(hc ..).1,(hc ..).2,rfl,h.sX,h.sW⟩
 split
 ·exact ⟨(hc ..).1,(hc ..).2,rfl,h.sX.send hn,h.sW⟩
 split
 ·exact ⟨h.right,rfl,List.length_set ..,h.sX,h.sW.send hn⟩
 split
 ·exact ⟨(hc ..).1,(hc ..).2,rfl,h.sX,h.sW⟩
 split
 ·exact ⟨h.right,rfl,rfl,h.sX.send hn,h.sW⟩
 split
 ·exact ⟨(hc ..).1,(hc ..).2,rfl,h.sX,h.sW⟩
 ·exact ⟨h.right,rfl,rfl,h.sX,h.sW⟩
theorem ch.lr {b:Bk} (h:ch b) (d:aR):ch (dG b d).1:=by
 unfold dG
 split
 ·exact h
 split
 ·exact h
 rename_i hd hn
 have hn:0<=d.n/\d.n < b.aq.length:=by omega
 split
 ·exact h
 rename_i cw ho
 split
 ·exact h
 rename_i hm
 split
 ·exact h
 have hm:bZ cw d.move d.sum=((bZ cw d.move d.sum).1,0):=Prod.ext rfl (by dsimp only;omega)
 obtain ⟨m1,m2,m3,m4,_⟩:=mf hm
 obtain ⟨r1,r2,r3,r4,r5⟩:=Bw h (bZ cw d.move d.sum).1 cw d hn
 have hp:=h.perm cw (List.mem_of_getElem? ho)
 unfold nk
 refine h.dx fun _=>⟨h.time,by rw [r2];exact h.an,by rw [r3];exact h.due,by rw [List.length_set];exact h.aq,yY h.aQ,h.w0,h.w1,fun a ha=>?_,by dsimp only;rw [r2,r3];exact h.jr,by dsimp only;rw [List.length_set];exact r4.own,by dsimp only;rw [List.length_set];exact r5.own,r1,r4.len,r5.len,by dsimp only;rw [List.length_set];exact h.p0,by dsimp only;rw [List.length_set];exact h.p1,h.n0,h.n1,h.calm⟩
 dsimp only
 rw [r2,r3]
 rcases fV ha with ha|rfl
 ·exact h.perm a ha
 ·exact ⟨m2,by rw [m3,m4];exact hp.2⟩
theorem oe {aK ay n time:Int} (h:(cY aK ay n time).2=0):bE (cY aK ay n time).1=0/\(cY aK ay n time).1=⟨aK,ay,n,0,0,0,time+100,false⟩/\¬(n < 1\/n > 1000000\/time < 0\/time > 1000000\/aK < 0\/aK > 7\/ay < 0\/ay > 7):=by
 unfold cY at h ⊢
 split at h
 ·cases h
 ·rename_i h1;rw [if_neg h1];exact ⟨qK (by dsimp only;omega),rfl,h1⟩
theorem AZ {s:cr} {a:ca} (h:(cf s a).2=0):(cf s a).1.aZ=s.aZ++[a]:=by
 unfold cf at h ⊢
 split at h
 ·rename_i h1;exact absurd h h1
 split at h
 ·cases h
 split at h
 ·cases h
 split at h
 ·cases h
 ·rename_i h1 h2 h3 h4;rw [if_neg h1,if_neg h2,if_neg h3,if_neg h4]
theorem rh {e:Int} (h:gu e=0):e=0:=by unfold gu at h;split at h<;>omega
theorem ch.asks {b:Bk} (h:ch b) (d:aR):ch (dD b d).1:=by
 unfold dD
 split
 ·exact h
 rename_i hn
 have hlen:∀ a∈b.bF.aZ++[(⟨d.n,d.ay,d.sum,b.time⟩:ca)],0<=a.aK/\a.aK < b.an.length/\0<=a.ay/\a.ay < b.due.length:=fun a ha=>by
  rcases List.mem_append.1 ha with ha|ha
  ·exact h.jr a ha
  ·obtain rfl:=List.mem_singleton.1 ha;dsimp only;omega
 split
 ·split
  ·exact h
  split
  ·exact h
  rename_i h1 h2
  have he:=rh (show gu (cf b.bF ⟨d.n,d.ay,d.sum,b.time⟩).2=0 by omega)
  have hg:=AZ he
  exact ⟨h.time,h.an,h.due,by dsimp only;omega,h.aQ,h.w0,h.w1,h.perm,by dsimp only;rw [hg];exact hlen,h.k0,h.k1,h.right,h.l0,h.l1,h.p0,h.p1,h.n0,h.n1,fun hf=>by dsimp only at hf;simp_all⟩
 split
 ·exact h
 split
 ·exact h
 split
 ·exact h
 rename_i h1 h2 h3 c hc
 split
 ·exact h
 rename_i h4
 obtain ⟨w1,w2,w3⟩:=oe (show (cY d.n d.ay d.sum b.time).2=0 by omega)
 have hcr:cu (dE c d.sum b.time).1=0:=by
  rcases qp (show dE c d.sum b.time=((dE c d.sum b.time).1,(dE c d.sum b.time).2) from rfl) with ⟨h5,_⟩|⟨h5,h6,h7,h8,h9,h10,h11,l,h12,h13⟩
  ·exact absurd h5 (by omega)
  ·rw [h13];have hr:=gq h6;exact oP (by dsimp only;omega) hr.2.2.2.2.1 (Af h12)
 have hq:=h.calm (by cases hd:b.down with|true=>exact absurd hd (by assumption)|false=>rfl)
 have hl:b.aq.length+1<=30:=by have:=h.aq;rw [hq] at this;simp only [List.length_nil] at this;omega
 have hk:∀ {n:Int},n < (b.aq.length:Int)->n < ((b.aq++[(cY d.n d.ay d.sum b.time).1]).length:Int):=fun hn=>by rw [List.length_append,List.length_singleton];omega
 refine ⟨h.time,by rw [List.length_set];exact h.an,h.due,by dsimp only;rw [hq,List.length_append,List.length_singleton];exact hl,h.aQ,h.w0,h.w1,fun a ha=>?_,by dsimp only;rw [List.length_set];exact h.jr,
  fun t ht=>⟨(h.k0 t ht).1,(h.k0 t ht).2.1,hk (h.k0 t ht).2.2⟩,fun t ht=>⟨(h.k1 t ht).1,(h.k1 t ht).2.1,hk (h.k1 t ht).2.2⟩,fun x hx=>?_,h.l0,h.l1,
  fun p hp hs=>⟨(h.p0 p hp hs).1,(h.p0 p hp hs).2.1,hk (h.p0 p hp hs).2.2⟩,fun p hp hs=>⟨(h.p1 p hp hs).1,(h.p1 p hp hs).2.1,hk (h.p1 p hp hs).2.2⟩,h.n0,h.n1,h.calm⟩
 ·dsimp only at ha ⊢
  rw [List.length_set]
  rcases List.mem_append.1 ha with ha|ha
  ·exact h.perm a ha
  ·obtain rfl:=List.mem_singleton.1 ha
   exact ⟨w1,by rw [w2];dsimp only;omega⟩
 ·rcases fV hx with hx|rfl
  ·exact h.right x hx
  ·exact hcr
theorem sV {α:Type} {p:α->Bool} {l:List α} {x:α} (h:x∈dq p l):x∈l:=(List.mem_filter.1 h).1
theorem nI.back {n:Nat} {s:bS} (h:nI n s) {seen:Int} (hb:(dK s seen).2=0):nI n (dK s seen).1:=by
 rcases pa (show dK s seen=((dK s seen).1,(dK s seen).2) from rfl) with ⟨h1,_⟩|⟨_,_,_,_,h2⟩
 ·exact absurd hb h1
 ·rw [h2];exact ⟨fun t ht=>h.own t (sV ht),Nat.le_trans (List.length_filter_le ..) h.len⟩
theorem uc {aq:List bB} {due:List Int} {an:List bx} {book:List Entry} {e:Int} {t:aV} (h:∀ c∈an,cu c=0):
  (dW aq due an book e t).1.length=due.length/\(∀ c∈(dW aq due an book e t).2.1,cu c=0)/\(dW aq due an book e t).2.1.length=an.length:=by
 unfold dW
 split
 ·exact ⟨rfl,h,rfl⟩
 split
 ·exact ⟨List.length_set ..,h,rfl⟩
 split
 ·exact ⟨rfl,ju h,fa _ _ _ _ _⟩
 split
 ·exact ⟨List.length_set ..,h,rfl⟩
 ·exact ⟨rfl,h,rfl⟩
theorem mI {n:Int} {t:aV} (h:0<=n):0<=(fo n t).1:=by unfold fo;split<;>(dsimp only;omega)
theorem vk {α:Type} {l:List α} {n:Nat} {x:α} (h:x∈l.drop n):x∈l:=List.mem_of_mem_drop h
theorem ch.bp {b:Bk} (h:ch b) {cs:List bx} {due:List Int} {bk:List Entry} (h1:∀ c∈cs,cu c=0) (h2:cs.length=b.an.length) (h3:due.length=b.due.length):ch {b with an:=cs,due:=due,book:=bk}:=
 ⟨h.time,by rw [h2];exact h.an,by rw [h3];exact h.due,h.aq,h.aQ,h.w0,h.w1,by dsimp only;rw [h2,h3];exact h.perm,by dsimp only;rw [h2,h3];exact h.jr,h.k0,h.k1,h1,h.l0,h.l1,h.p0,h.p1,h.n0,h.n1,h.calm⟩
theorem ch.xv {b:Bk} (h:ch b):ch {b with w0:=b.w0.drop 1}:=
 ⟨h.time,h.an,h.due,h.aq,h.aQ,by dsimp only;rw [List.length_drop];have:=h.w0;omega,h.w1,h.perm,h.jr,h.k0,h.k1,h.right,h.l0,h.l1,fun p hp=>h.p0 p (vk hp),h.p1,h.n0,h.n1,h.calm⟩
theorem ch.xu {b:Bk} (h:ch b):ch {b with w1:=b.w1.drop 1}:=
 ⟨h.time,h.an,h.due,h.aq,h.aQ,h.w0,by dsimp only;rw [List.length_drop];have:=h.w1;omega,h.perm,h.jr,h.k0,h.k1,h.right,h.l0,h.l1,h.p0,fun p hp=>h.p1 p (vk hp),h.n0,h.n1,h.calm⟩
theorem ch.EW {b:Bk} (h:ch b) {s:bS} (hs:nI b.aq.length s):ch {b with s0:=s}:=
 ⟨h.time,h.an,h.due,h.aq,h.aQ,h.w0,h.w1,h.perm,h.jr,hs.own,h.k1,h.right,hs.len,h.l1,h.p0,h.p1,h.n0,h.n1,h.calm⟩
theorem ch.EV {b:Bk} (h:ch b) {s:bS} (hs:nI b.aq.length s):ch {b with s1:=s}:=
 ⟨h.time,h.an,h.due,h.aq,h.aQ,h.w0,h.w1,h.perm,h.jr,h.k0,hs.own,h.right,h.l0,hs.len,h.p0,h.p1,h.n0,h.n1,h.calm⟩
theorem ch.Ce {b:Bk} (h:ch b) {n:Int} (hn:0<=n):ch {b with n0:=n}:=
 ⟨h.time,h.an,h.due,h.aq,h.aQ,h.w0,h.w1,h.perm,h.jr,h.k0,h.k1,h.right,h.l0,h.l1,h.p0,h.p1,hn,h.n1,h.calm⟩
theorem ch.Cd {b:Bk} (h:ch b) {n:Int} (hn:0<=n):ch {b with n1:=n}:=
 ⟨h.time,h.an,h.due,h.aq,h.aQ,h.w0,h.w1,h.perm,h.jr,h.k0,h.k1,h.right,h.l0,h.l1,h.p0,h.p1,h.n0,hn,h.calm⟩
theorem ch.BO {b:Bk} (h:ch b) (d:aR):ch (eV b d).1:=by
 unfold eV
 split
 ·exact h
 split
 ·exact h.xv
 split
 ·split
  ·rename_i hb;exact h.xv.EW (h.sX.back hb)
  ·exact h
 split
 ·obtain ⟨r1,r2,r3⟩:=uc (aq:=b.aq) (due:=b.due) (book:=b.book) (e:=0) (t:=(by assumption:bU).cq) h.right
  exact h.dx fun _=>(h.xv.Ce (mI h.n0)).bp r2 r3 r1
 ·exact h.xv.Ce (mI h.n0)
theorem ch.BN {b:Bk} (h:ch b) (d:aR):ch (eU b d).1:=by
 unfold eU
 split
 ·exact h
 split
 ·exact h.xu
 split
 ·split
  ·rename_i hb;exact h.xu.EV (h.sW.back hb)
  ·exact h
 split
 ·obtain ⟨r1,r2,r3⟩:=uc (aq:=b.aq) (due:=b.due) (book:=b.book) (e:=0) (t:=(by assumption:bU).cq) h.right
  exact h.dx fun _=>(h.xu.Cd (mI h.n1)).bp r2 r3 r1
 ·exact h.xu.Cd (mI h.n1)
theorem ch.lu {b:Bk} (h:ch b) (d:aR):ch (bP b d).1:=by
 unfold bP
 split
 ·exact h.BO d
 split
 ·exact h.BN d
 ·exact h
theorem ox {c:bx} {n:Int} (h:(eK c n).2=0):cu (eK c n).1=0/\(eK c n).1=⟨c.bp,c.held+n,c.bX,c.cD⟩/\cu c=0/\1<=n/\n<=1000000:=by
 unfold eK at h ⊢
 split at h
 ·rename_i h1;exact absurd h h1
 split at h
 ·cases h
 ·rename_i h1 h2
  rw [if_neg h1,if_neg h2]
  have hw:cu c=0:=by omega
  have hr:=gq hw
  exact ⟨oP (by dsimp only;omega) hr.2.2.2.2.1 hr.2.2.2.2.2,rfl,hw,by omega,by omega⟩
theorem yD {n m:Nat}:∀ (l:List ca) (cs:List bx) (xs:List bB),(∀ a∈l,0<=a.aK/\a.aK < n/\0<=a.ay/\a.ay < m)->cs.length=n->
  (∀ a∈xs,bE a=0/\0<=a.aK/\a.aK < n/\0<=a.ay/\a.ay < m)->(∀ c∈cs,cu c=0)->
  (∀ c∈(fZ l cs xs).1,cu c=0)/\(fZ l cs xs).1.length=n/\(∀ a∈(fZ l cs xs).2.1,bE a=0/\0<=a.aK/\a.aK < n/\0<=a.ay/\a.ay < m)/\xs.length<=(fZ l cs xs).2.1.length/\(fZ l cs xs).2.1.length<=xs.length+l.length
 |[],cs,xs,_,h2,h3,h4=>⟨h4,h2,h3,Nat.le_refl _,Nat.le_refl _⟩
 |x::l,cs,xs,h1,h2,h3,h4=>by
  unfold fZ
  split
  ·exact ⟨h4,h2,h3,Nat.le_refl _,by dsimp only;omega⟩
  rename_i e1
  split
  ·exact ⟨h4,h2,h3,Nat.le_refl _,by dsimp only;omega⟩
  rename_i c hc
  split
  ·exact ⟨h4,h2,h3,Nat.le_refl _,by dsimp only;omega⟩
  rename_i e2
  have hx:=h1 x List.mem_cons_self
  obtain ⟨w1,w2,w3⟩:=oe (show (cY x.aK x.ay x.sum x.time).2=0 by omega)
  obtain ⟨f1,_⟩:=ox (show (eK c x.sum).2=0 by omega)
  obtain ⟨r1,r2,r3,r4,r5⟩:=yD l (cs.set x.aK.toNat (eK c x.sum).1) (xs++[(cY x.aK x.ay x.sum x.time).1]) (fun a ha=>h1 a (List.mem_cons_of_mem _ ha)) ((List.length_set ..).trans h2)
   (fun a ha=>by
    rcases List.mem_append.1 ha with ha|ha
    ·exact h3 a ha
    ·obtain rfl:=List.mem_singleton.1 ha;exact ⟨w1,by rw [w2];exact hx⟩)
   (fun z hz=>by
    rcases fV hz with hz|rfl
    ·exact h4 z hz
    ·exact f1)
  rw [List.length_append,List.length_singleton] at r4 r5
  exact ⟨r1,r2,r3,by omega,by rw [List.length_cons];omega⟩
theorem qn {s:cr} (h:(cS s).2.2=0):bT s=0/\(cS s).1=⟨s.cap,List.replicate s.used.length 0,[]⟩/\(cS s).2.1=s.aZ:=by
 unfold cS at h ⊢
 split at h
 ·rename_i h1;exact absurd h h1
 ·rename_i h1;rw [if_neg h1];exact ⟨by omega,rfl,rfl⟩
theorem ch.Ap {b:Bk} (h:ch b) (h1:(cS b.bF).2.2=0):ch {b with an:=(fZ (cS b.bF).2.1 b.an b.aq).1,aq:=(fZ (cS b.bF).2.1 b.an b.aq).2.1,bF:=(cS b.bF).1,down:=false}:=by
 obtain ⟨_,c1,c2⟩:=qn h1
 rw [c1,c2]
 obtain ⟨r1,r2,r3,r4,r5⟩:=yD b.bF.aZ b.an b.aq h.jr rfl h.perm h.right
 have hk:∀ {n:Int},n < (b.aq.length:Int)->n < ((fZ b.bF.aZ b.an b.aq).2.1.length:Int):=fun hn=>by omega
 exact ⟨h.time,by rw [r2];exact h.an,h.due,by have:=h.aq;simp only [List.length_nil];omega,h.aQ,h.w0,h.w1,by dsimp only;rw [r2];exact r3,fun a ha=>by simp at ha,
  fun t ht=>⟨(h.k0 t ht).1,(h.k0 t ht).2.1,hk (h.k0 t ht).2.2⟩,fun t ht=>⟨(h.k1 t ht).1,(h.k1 t ht).2.1,hk (h.k1 t ht).2.2⟩,r1,h.l0,h.l1,
  fun p hp hs=>⟨(h.p0 p hp hs).1,(h.p0 p hp hs).2.1,hk (h.p0 p hp hs).2.2⟩,fun p hp hs=>⟨(h.p1 p hp hs).1,(h.p1 p hp hs).2.1,hk (h.p1 p hp hs).2.2⟩,h.n0,h.n1,fun _=>rfl⟩
theorem As {l:List ca} {q:Nat} {x:ca} {cs:List bx} {xs:List bB} {a:bB} {e1 e2:Int} (h:l[q]?=some x) (hn:cY x.aK x.ay x.sum x.time=(a,e1)) (hf:dv 0 e1=e2) (he:¬e2=0):fZ (l.drop q) cs xs=(cs,xs,e2):=by
 rw [pO h,hn]
 have:e1=e2:=by unfold dv at hf;rw [if_pos rfl] at hf;exact hf
 subst this
 rw [if_pos he]
theorem Ar {l:List ca} {q:Nat} {x:ca} {cs:List bx} {xs:List bB} {a:bB} {c k:bx} {e1 e3 e4:Int} (h:l[q]?=some x) (hn:cY x.aK x.ay x.sum x.time=(a,e1)) (hf1:dv 0 e1=0) (hc:cs[x.aK.toNat]?=some c)
  (hF:eK c x.sum=(k,e3)) (hf:dv 0 e3=e4) (he:¬e4=0):fZ (l.drop q) cs xs=(cs,xs,e4):=by
 rw [pO h,hn,hc]
 have h1:e1=0:=(fE hf1).2
 have:e3=e4:=by unfold dv at hf;rw [if_pos rfl] at hf;exact hf
 subst this h1
 dsimp only
 rw [if_neg (by simp),hF,if_pos he]
theorem Aq {l:List ca} {q:Nat} {x:ca} {cs:List bx} {xs:List bB} {a:bB} {c k:bx} {e1 e3:Int} (h:l[q]?=some x) (hn:cY x.aK x.ay x.sum x.time=(a,e1)) (hf1:dv 0 e1=0) (hc:cs[x.aK.toNat]?=some c)
  (hF:eK c x.sum=(k,e3)) (hf:dv 0 e3=0):fZ (l.drop q) cs xs=fZ (l.drop (q+1)) (cs.set x.aK.toNat k) (xs++[a]):=by
 rw [pO h,hn,hc]
 have h1:e1=0:=(fE hf1).2
 have h3:e3=0:=(fE hf).2
 subst h3 h1
 dsimp only
 rw [if_neg (by simp),hF,if_neg (by simp)]
theorem Cu {l:List ca} {q:Nat} {cs:List bx} {xs:List bB} (h:¬q < l.length):fZ (l.drop q) cs xs=(cs,xs,0):=by
 rw [List.drop_of_length_le (by omega)];rfl
theorem yE {b:Bk} {s:cr} {l:List ca} {cs:List bx} {xs:List bB} {e:Int} (hd:b.down=true) (h:cS b.bF=(s,l,0)) (hL:fZ l b.an b.aq=(cs,xs,e)) (he:¬e=0):iW b=(b,⟨e,0⟩):=by
 unfold iW
 rw [if_neg (by rw [hd];simp),h]
 dsimp only
 rw [if_neg (by simp),hL]
 dsimp only
 rw [if_pos he]
theorem Dk {b:Bk} {s:cr} {l:List ca} {cs:List bx} {xs:List bB} (hd:b.down=true) (h:cS b.bF=(s,l,0)) (hL:fZ l b.an b.aq=(cs,xs,0)):
  iW b=(gL {b with an:=cs,aq:=xs,bF:=s,down:=false},⟨0,0⟩):=by
 unfold iW
 rw [if_neg (by rw [hd];simp),h]
 dsimp only
 rw [if_neg (by simp),hL]
 dsimp only
 rw [if_neg (by simp)]
theorem ch.ES {b:Bk} (hb:ch b) {s:cr} {l:List ca} {cs:List bx} {xs:List bB} (h:cS b.bF=(s,l,0)) (hL:fZ l b.an b.aq=(cs,xs,0)):
  ch {b with an:=cs,aq:=xs,bF:=s,down:=false}:=by
 have:=hb.Ap (by rw [h])
 rw [h] at this;dsimp only at this;rw [hL] at this;exact this
theorem ch.Dj {b:Bk} (h:ch b):ch (iW b).1:=by
 unfold iW
 split
 ·exact h
 split
 ·exact h
 split
 ·exact h
 ·exact (h.Ap (by omega)).late
theorem ch.pS {b:Bk} (h:ch b) {t:List al} (ht:t.length<=100):ch {b with aQ:=t}:=
 ⟨h.time,h.an,h.due,h.aq,ht,h.w0,h.w1,h.perm,h.jr,h.k0,h.k1,h.right,h.l0,h.l1,h.p0,h.p1,h.n0,h.n1,h.calm⟩
theorem lH {t:List al} {y:List (List Int)} (h:t.length<=100):(iK t y).1.length<=100/\(iK t y).2.1.length<=y.length+1:=by
 unfold iK
 split
 ·exact ⟨h,Nat.le_succ _⟩
 ·exact ⟨by simp,by simp⟩
theorem ch.Bu {b:Bk} (h:ch b) (y:List (List Int)) (d:aR):ch (dc b y d).1/\(dc b y d).2.1.length<=y.length+1:=by
 unfold dc
 split
 ·exact ⟨h.load d,Nat.le_succ _⟩
 split
 ·exact ⟨h.asks d,Nat.le_succ _⟩
 split
 ·exact ⟨h.lr d,Nat.le_succ _⟩
 split
 ·exact ⟨h.cH d,Nat.le_succ _⟩
 split
 ·exact ⟨h.send d,Nat.le_succ _⟩
 split
 ·exact ⟨h.lu d,Nat.le_succ _⟩
 split
 ·split
  ·exact ⟨h,Nat.le_succ _⟩
  ·exact ⟨⟨h.time,h.an,h.due,h.aq,h.aQ,h.w0,h.w1,h.perm,h.jr,h.k0,h.k1,h.right,h.l0,h.l1,h.p0,h.p1,h.n0,h.n1,fun h=>by cases h⟩,Nat.le_succ _⟩
 split
 ·exact ⟨h.Dj,Nat.le_succ _⟩
 split
 ·exact ⟨h.pS (lH h.aQ).1,(lH (y:=y) h.aQ).2⟩
 split
 ·exact ⟨h.uE d,Nat.le_succ _⟩
 ·exact ⟨h,Nat.le_succ _⟩
theorem ch.once {b:Bk} (h:ch b) (y:List (List Int)) (told:List (Int×Answer)) (cl:Nat) (d:aR):ch (fC b y told cl d).1/\(fC b y told cl d).2.1.length<=y.length+1:=by
 unfold fC
 split
 ·exact ⟨h,Nat.le_succ _⟩
 ·exact h.Bu y d
theorem sN:∀ {l:List dk} {i:Int},(oc l i).err=0->∀ p∈l,fc p=0
 |p::l,i,h,x,hx=>by
  unfold oc at h
  split at h
  ·rename_i h1;exact absurd h h1
  ·rename_i h1
   rcases List.mem_cons.1 hx with rfl|hx
   ·omega
   ·exact sN h x hx
theorem kz {s:Setup} (h:(er s).err=0):s.cX.length<=8/\0<=s.im/\s.im<=8/\0<=s.cap/\s.cap<=1000000/\∀ p∈s.cX,fc p=0:=by
 unfold er at h
 split at h
 ·cases h
 split at h
 ·cases h
 ·exact ⟨by omega,by omega,by omega,by omega,by omega,sN h⟩
theorem ch.start {s:Setup} (h:(er s).err=0):ch (hZ s):=by
 obtain ⟨h1,h2,h3,h4,h5,h6⟩:=kz h
 have hn:dt s.cap s.cX.length=({cap:=s.cap,used:=List.replicate s.cX.length 0,aZ:=[]},0):=px h1 ⟨h4,h5⟩
 unfold hZ
 rw [hn]
 refine ⟨by dsimp only;omega,by simpa using h1,by simp;omega,by simp,by simp,by simp,by simp,by simp,by simp,by simp,by simp,fun c hc=>?_,by simp,by simp,by simp,by simp,by simp,by simp,fun _=>rfl⟩
 obtain ⟨p,hp,rfl⟩:=List.mem_map.1 hc
 exact oP (c:=⟨0,0,p,[]⟩) (by dsimp only;omega) (h6 p hp) (rG.2 ⟨by simp,by simp,by simp⟩)
end Go.Proofs.Ytegepioggeggaaa.Dev
