/- A part of the proof: Bank8, Bank9, PlOk. No condition. -/
import Derived.Test.YtegepioggeggaaaD11
set_option linter.unusedVariables false
set_option linter.unusedSimpArgs false
set_option maxHeartbeats 8000000
set_option maxRecDepth 100000
namespace Go.Proofs.Ytegepioggeggaaa.Dev
open Go.RowKit

theorem EJ (x:Nat->Value) (hx:∀ i,(x i).oneCell'=true) (b:Bk) (d:bh) (ok:cu b) (hdn:b.down=false) (b2:Bk) (a2:Answer) (hr:dG b d=(b2,a2)):cJ Try.prog 63 [(.c (.p 0 0 0 0)),(.c (.q (cY d) 0))] [(0,(.box 98 (aY b 1 2 3 4 (.d (.v (x 17))) (.d (.v (x 19)))))),(1,(dN b.aq)),(2,(dD b.due)),(3,(dS b.ax)),(4,(cS b.aS))] [0] (.v (.g [cI a2.err,cI a2.ba])) [(0,(.box 98 (aY b2 1 2 3 4 (.d (.v (x 17))) (.d (.v (x 19)))))),(1,(dN b2.aq)),(2,(dD b2.due)),(3,(dS b2.ax)),(4,(cS b2.aS))]:=by
 refine cJ.mk 214 [(0,(aC (.p 0 0 0 0))),(1,(aC (.q (cY d) 0)))] 5 Try.func63 rfl rfl rfl rfl rfl rfl rfl rfl rfl ?_
 intro W0 F0 T0 pg
 obtain ⟨okt,okc,okd,oka,oky,okw0,okw1,okp,okv,okk0,okk1,okg,okl0,okl1,okp0,okp1,okn0,okn1,okq⟩:=id ok
 refine ae aa 1 rfl ?_
 refine ag ?_
 refine ag ?_
 rcases Bool.eq_false_or_eq_true (decide (d.n < 0)) with hb1|hb1
 ·
  have hb1':=of_decide_eq_true hb1
  refine aW [0,1,4] [5,0,1,2,3,4] mixed rfl rfl ?_
  refine aw (kn:=[(14,true)]) aa 38 rfl ⟨hb1,trivial⟩ ?_
  refine bw [5,0,1,2,3,4] rfl rfl rfl rfl (by kernel_rfl) ?_
  refine af ?_
  refine aj rfl (fun _=>?_) (fun hno=>by cases hno)
  refine ae aa 2 rfl ?_
  refine az ?_
  refine ar ?_
  have hX:dG b d=(b,(⟨6,0⟩:Answer)):=by
    unfold dG;(try simp only [hdn,Bool.false_eq_true,if_false]);(repeat' split)<;>first|rfl|omega|(exfalso;omega)|(simp_all;done)|(simp_all;omega)
  rw [hX] at hr;clear hX
  simp only [Prod.mk.injEq] at hr;obtain ⟨rfl,rfl⟩:=hr
  refine an aa [0,1,2,3,4,5] 5 rfl rfl rfl rfl rfl rfl ?_ ?_
  all_goals first|rfl|(simp [aA,aY,bg];done)|(simp [aA,aY,bg];omega)
 have hb1':=of_decide_eq_false hb1
 rcases Bool.eq_false_or_eq_true (decide (d.n>=(↑b.aq.length:Int))) with hb3|hb3
 ·
  have hb3':=of_decide_eq_true hb3
  refine aW [0,1,4] [5,0,1,2,3,4] mixed rfl rfl ?_
  refine aw (kn:=[(14,false)]) aa 15 rfl ⟨hb1,trivial⟩ ?_
  refine aM (n':=6) [24,15] [1] rfl rfl (.inl ⟨(ah.yes rfl rfl rfl),aF.cast (du rfl rfl rfl rfl rfl Try.underlying29) rfl⟩) rfl ?_
  refine aw (kn:=[(26,true)]) aa 22 rfl ⟨hb3,trivial⟩ ?_
  refine bw [5,0,1,2,3,4] rfl rfl rfl rfl (by kernel_rfl) ?_
  refine af ?_
  refine aj rfl (fun _=>?_) (fun hno=>by cases hno)
  refine ae aa 2 rfl ?_
  refine az ?_
  refine ar ?_
  have hX:dG b d=(b,(⟨6,0⟩:Answer)):=by
    unfold dG;(try simp only [hdn,Bool.false_eq_true,if_false]);(repeat' split)<;>first|rfl|omega|(exfalso;omega)|(simp_all;done)|(simp_all;omega)
  rw [hX] at hr;clear hX
  simp only [Prod.mk.injEq] at hr;obtain ⟨rfl,rfl⟩:=hr
  refine an aa [0,1,2,3,4,5] 5 rfl rfl rfl rfl rfl rfl ?_ ?_
  all_goals first|rfl|(simp [aA,aY,bg];done)|(simp [aA,aY,bg];omega)
 have hb3':=of_decide_eq_false hb3
 rcases Bool.eq_false_or_eq_true (decide (d.aD < 0)) with hb5|hb5
 ·
  have hb5':=of_decide_eq_true hb5
  refine aW [0,1,4] [5,0,1,2,3,4] mixed rfl rfl ?_
  refine aw (kn:=[(14,false)]) aa 15 rfl ⟨hb1,trivial⟩ ?_
  refine aM (n':=6) [24,15] [1] rfl rfl (.inl ⟨(ah.yes rfl rfl rfl),aF.cast (du rfl rfl rfl rfl rfl Try.underlying29) rfl⟩) rfl ?_
  refine aw (kn:=[(26,false),(33,true)]) aa 22 rfl ⟨hb3,hb5,trivial⟩ ?_
  refine bw [5,0,1,2,3,4] rfl rfl rfl rfl (by kernel_rfl) ?_
  refine af ?_
  refine aj rfl (fun _=>?_) (fun hno=>by cases hno)
  refine ae aa 2 rfl ?_
  refine az ?_
  refine ar ?_
  have hX:dG b d=(b,(⟨6,0⟩:Answer)):=by
    unfold dG;(try simp only [hdn,Bool.false_eq_true,if_false]);(repeat' split)<;>first|rfl|omega|(exfalso;omega)|(simp_all;done)|(simp_all;omega)
  rw [hX] at hr;clear hX
  simp only [Prod.mk.injEq] at hr;obtain ⟨rfl,rfl⟩:=hr
  refine an aa [0,1,2,3,4,5] 5 rfl rfl rfl rfl rfl rfl ?_ ?_
  all_goals first|rfl|(simp [aA,aY,bg];done)|(simp [aA,aY,bg];omega)
 have hb5':=of_decide_eq_false hb5
 refine aW [0,1,4] [5,0,1,2,3,4] mixed rfl rfl ?_
 refine aw (kn:=[(14,false)]) aa 15 rfl ⟨hb1,trivial⟩ ?_
 refine aM (n':=6) [24,15] [1] rfl rfl (.inl ⟨(ah.yes rfl rfl rfl),aF.cast (du rfl rfl rfl rfl rfl Try.underlying29) rfl⟩) rfl ?_
 refine aw (kn:=[(26,false),(33,false)]) aa 19 rfl ⟨hb3,hb5,trivial⟩ ?_
 refine aM (n':=6) [44,35] [2] rfl rfl (.inl ⟨(ah.yes rfl rfl rfl),aF.cast (du rfl rfl rfl rfl rfl Try.underlying30) rfl⟩) rfl ?_
 refine aw (kn:=[]) aa 2 rfl trivial ?_
 refine bw [5,0,1,2,3,4] rfl rfl rfl rfl (by kernel_rfl) ?_
 refine af ?_
 refine aj rfl (fun hc7=>?_) (fun hc7=>?_)
 ·
  have hc7':=of_decide_eq_true hc7
  refine ae aa 2 rfl ?_
  refine az ?_
  refine ar ?_
  have hX:dG b d=(b,(⟨6,0⟩:Answer)):=by
    unfold dG;(try simp only [hdn,Bool.false_eq_true,if_false]);(repeat' split)<;>first|rfl|omega|(exfalso;omega)|(simp_all;done)|(simp_all;omega)
  rw [hX] at hr;clear hX
  simp only [Prod.mk.injEq] at hr;obtain ⟨rfl,rfl⟩:=hr
  refine an aa [0,1,2,3,4,5] 5 rfl rfl rfl rfl rfl rfl ?_ ?_
  all_goals first|rfl|(simp [aA,aY,bg];done)|(simp [aA,aY,bg];omega)
 have hc7':=of_decide_eq_false hc7
 refine aP ?_
 refine ag ?_
 refine ae aa 5 rfl ?_
 refine aj rfl (fun hno=>absurd (hdn.symm.trans hno) (by decide)) (fun _=>?_)
 refine aP ?_
 refine ag ?_
 obtain ⟨b0,e0,hr0⟩:∃ (b0:bH) (e0:Int),dq d.n d.aD d.sum b.time=(b0,e0):=⟨_,_,rfl⟩
 refine dh [0,1,4] [5,0,1,2,3,4] mixed rfl rfl ?_
 refine bS (kn:=[]) aa 17 rfl trivial ?_
 refine bY (n':=6) [123,127,131,136] [] rfl rfl (.inl ⟨(ah.plain rfl),aF.cast (bX 6 (rq d.n d.aD d.sum b.time b0 e0 hr0) Ek rfl rfl ⟨⟨_,rfl,.c (.d _)⟩,⟨_,rfl,.c (.d _)⟩,⟨_,rfl,.c (.d _)⟩,⟨_,rfl,.c (.d _)⟩,trivial⟩ ⟨⟨trivial,trivial,trivial,trivial,trivial,trivial,trivial,trivial,trivial⟩,trivial,trivial⟩ trivial rfl rfl rfl rfl) rfl⟩) rfl ?_
 refine bS (n':=7) (kn:=[]) aa 6 rfl trivial ?_
 refine dO [0,1,4,7,8] [6,5,0,1,2,3,4] rfl rfl (by kernel_rfl) ?_
 refine then_ok ?_
 refine ag ?_
 refine ch 150 ((decide (e0=0)) && (decide ((↑b.ax.length:Int)=30))) ?_ ?_
 ·
  refine au ?_
  refine ad aa 3 rfl ?_
  refine bE (t:=142) rfl (fun hb9=>?_) (fun hb9=>?_)
  ·
   have hb9':=of_decide_eq_true hb9
   refine ad aa 5 rfl ?_
   refine cz (ah.yes rfl rfl rfl) (du rfl rfl rfl rfl rfl Try.underlying31) rfl rfl ?_
   refine ad aa 2 rfl ?_
   refine af ?_
   exact aE.bB 12 rfl rfl (by first|(simp [hb9];done)|(simp_all;done)|(exfalso;simp_all;done)|(simp_all;omega)) rfl
  have hb9':=of_decide_eq_false hb9
  refine ad aa 8 rfl ?_
  refine af ?_
  exact aE.bB 12 rfl rfl (by first|(simp [hb9];done)|(simp_all;done)|(exfalso;simp_all;done)|(simp_all;omega)) rfl
 refine aj rfl (fun hc10=>?_) (fun hc10=>?_)
 ·
  have hc10':=hc10;try simp only [bq,bM] at hc10'
  refine au ?_
  refine ad aa 1 rfl ?_
  refine af ?_
  refine ag ?_
  refine aH aa 1 rfl ?_
  refine ay (aJ rfl rfl rfl (show _=some (Value.bool true) from rfl)) rfl ?_
  refine af ?_
  refine aj rfl (fun _=>?_) (fun hno=>by cases hno)
  refine ae aa 3 rfl ?_
  refine az ?_
  refine ar ?_
  have hX:dG b d=(b,(⟨5,0⟩:Answer)):=by
    unfold dG;(try simp only [hdn,Bool.false_eq_true,if_false,hr0]);(repeat' split)<;>first|rfl|omega|(exfalso;omega)|(simp_all;done)|(simp_all;omega)
  rw [hX] at hr;clear hX
  simp only [Prod.mk.injEq] at hr;obtain ⟨rfl,rfl⟩:=hr
  refine an aa [0,1,2,3,4,5] 5 rfl rfl rfl rfl rfl rfl ?_ ?_
  all_goals first|rfl|(simp [aA,aY,bg];done)|(simp [aA,aY,bg];omega)
 have hc10':=hc10;try simp only [bq,bM] at hc10'
 refine aP ?_
 refine ag ?_
 refine ae aa 2 rfl ?_
 refine aj rfl (fun hc12=>?_) (fun hc12=>?_)
 ·
  have hc12':=of_decide_eq_true hc12
  refine ae aa 3 rfl ?_
  refine az ?_
  refine ar ?_
  have hX:dG b d=(b,(⟨e0,0⟩:Answer)):=by
    unfold dG;(try simp only [hdn,Bool.false_eq_true,if_false,hr0]);(repeat' split)<;>first|rfl|omega|(exfalso;omega)|(simp_all;done)|(simp_all;omega)
  rw [hX] at hr;clear hX
  simp only [Prod.mk.injEq] at hr;obtain ⟨rfl,rfl⟩:=hr
  refine an aa [0,1,2,3,4,5] 5 rfl rfl rfl rfl rfl rfl ?_ ?_
  all_goals first|rfl|(simp [aA,aY,bg];done)|(simp [aA,aY,bg];omega)
 have hc12':=of_decide_eq_false hc12
 refine aP ?_
 refine ag ?_
 obtain ⟨x1,hx1⟩:=cb (xs:=b.aq) (i:=Int.toNat (d.n)) (by first|omega|(simp;done)|(simp;omega))
 obtain ⟨xr1,e1,hr1⟩:∃ (xr1:bI) (e1:Int),dR x1 d.sum b.time=(xr1,e1):=⟨_,_,rfl⟩
 refine dh [0,1,4,7] [6,5,0,1,2,3,4] mixed rfl rfl ?_
 refine bS (kn:=[]) aa 9 rfl trivial ?_
 refine bY (n':=7) [160,164] [1] rfl rfl (.inl ⟨(ah.plain rfl),aF.cast (bx (i:=Int.toNat (d.n)) rfl rfl rfl Try.underlying29 iu (by first|omega|(simp;done)|(simp;omega)) (by first|omega|(simp;done)|(simp;omega))) rfl⟩) rfl ?_
 refine bY (n':=7) [165] [1] rfl rfl (.inl ⟨(ah.plain rfl),aF.cast (dg rfl rfl rfl Try.underlying61 rfl iu (bf hx1) rfl) rfl⟩) rfl ?_
 refine bS (kn:=[]) aa 9 rfl trivial ?_
 refine bY (n':=7) [166,170,175] [] rfl rfl (.inl ⟨(ah.plain rfl),aF.cast (bX 7 (Fn.frozen (av':=(.t [(.g [(cI xr1.bJ),(cI xr1.held),(cI xr1.bU.cE),(cI xr1.bU.count),(cI xr1.bU.sum),(eD xr1.cW)]),(.c (cI e1))])) (vB x1 d.sum b.time xr1 e1 hr1) ⟨⟨.inl ⟨_,rfl,rfl⟩,.inl ⟨_,rfl,rfl⟩,.inl ⟨_,rfl,rfl⟩,.inl ⟨_,rfl,rfl⟩,.inl ⟨_,rfl,rfl⟩,.inr ⟨_,_,_,_,_,rfl,rfl,rfl,by simp⟩,trivial⟩,.inl ⟨_,rfl,rfl⟩,trivial⟩) GA rfl rfl ⟨⟨_,rfl,.g ⟨.d _,.d _,.d _,.d _,.d _,.d _,trivial⟩⟩,⟨_,rfl,.c (.d _)⟩,⟨_,rfl,.c (.d _)⟩,trivial⟩ ⟨⟨trivial,trivial,trivial,trivial,trivial,trivial,trivial⟩,trivial,trivial⟩ trivial rfl rfl rfl rfl) rfl⟩) rfl ?_
 refine bS (n':=8) (kn:=[]) aa 6 rfl trivial ?_
 refine dO [0,1,4,7,9,8] [7,6,5,0,1,2,3,4] rfl rfl (by kernel_rfl) ?_
 refine then_ok ?_
 refine ag ?_
 refine ae aa 2 rfl ?_
 refine aj rfl (fun hc13=>?_) (fun hc13=>?_)
 ·
  have hc13':=of_decide_eq_true hc13
  refine ae aa 3 rfl ?_
  refine az ?_
  refine ar ?_
  have hX:dG b d=(b,(⟨e1,0⟩:Answer)):=by
    unfold dG;(try simp only [hdn,Bool.false_eq_true,if_false,hr0,hr1,hx1]);(repeat' split)<;>first|rfl|omega|(exfalso;omega)|(simp_all;done)|(simp_all;omega)
  rw [hX] at hr;clear hX
  simp only [Prod.mk.injEq] at hr;obtain ⟨rfl,rfl⟩:=hr
  refine an aa [0,1,2,3,4,5] 5 rfl rfl rfl rfl rfl rfl ?_ ?_
  all_goals first|rfl|(simp [aA,aY,bg];done)|(simp [aA,aY,bg];omega)
 have hc13':=of_decide_eq_false hc13
 refine aP ?_
 refine ag ?_
 refine aW [0,1,4,7,9] [7,6,5,0,1,2,3,4] mixed rfl rfl ?_
 refine aw (kn:=[]) aa 10 rfl trivial ?_
 refine aM (n':=8) [187,191] [1] rfl rfl (.inl ⟨(ah.plain rfl),aF.cast (bx (i:=Int.toNat (d.n)) rfl rfl rfl Try.underlying29 iu (by first|omega|(simp;done)|(simp;omega)) (by first|omega|(simp;done)|(simp;omega))) rfl⟩) rfl ?_
 refine bw [7,6,5,0,1,2,3,4] rfl rfl rfl rfl (by kernel_rfl) ?_
 refine gh [7,6,5,0,1,2,3,4] (dL (ds:=[(dI xr1.bJ),(dI xr1.held),(dI xr1.bU.cE),(dI xr1.bU.count),(dI xr1.bU.sum),(Ex xr1.cW)]) rfl rfl rfl rfl rfl iu rfl (Nat.le_of_ble_eq_true rfl) (bf hx1) rfl (eL (x':=xr1) rfl)) rfl ?_
 refine af ?_
 refine fA (k:=0) (q:=2) (c':=(.s 1 0 6 (((b.aq).set (Int.toNat (d.n)) xr1).length))) rfl rfl (by first|rfl|(simp;done)|(congr 1;omega)) rfl ?_
 refine ag ?_
 refine aW [0,4,7] [6,5,0,1,2,3,4] mixed rfl rfl ?_
 refine aw (kn:=[]) aa 7 rfl trivial ?_
 refine aM (n':=9) [200] [] rfl rfl (.inl ⟨(ah.plain rfl),aF.cast (dJ (ys:=[(0,(.g [(cI b0.aO),(cI b0.aD),(cI b0.sum),(cI b0.captured),(cI b0.bA),(cI b0.bp),(cI b0.db),(cB b0.shut)]))]) (rows:=([b0]).map iJ) 8 rJ rfl (by decide) ⟨⟨rfl,rfl⟩,trivial⟩ rfl rfl rfl rfl) rfl⟩) rfl ?_
 refine aM (n':=10) [199,201] [8,3] rfl rfl (.inl ⟨(ah.plain rfl),aF.cast (dp (m:=1) (N:=b.ax.length+1) (k2:=9) (ys:=([b0]).map iJ) rJ rfl rfl rfl rfl rfl rfl (by first|omega|(simp;done)|(simp;omega)) rfl (.s rfl (by first|omega|(simp;done)|(simp;omega))) (by first|omega|(simp;done)|(simp;omega)) (by first|omega|(simp;done)|(simp;omega)) ff (by decide) (by first|omega|(simp;done)|(simp;omega)) (by first|omega|(simp;done)|(simp;omega))) rfl⟩) rfl ?_
 refine aw (kn:=[]) aa 3 rfl trivial ?_
 refine bw [9,6,5,0,1,2,4] rfl rfl rfl rfl (by kernel_rfl) ?_
 refine ad aa 1 rfl ?_
 refine af ?_
 refine fA (k:=0) (q:=4) (c':=(.s 9 0 8 ((b.ax++([b0])).length))) rfl rfl (by first|rfl|(simp;done)|(congr 1;omega)) rfl ?_
 refine aH aa 5 rfl ?_
 refine ay (du rfl rfl rfl rfl rfl Try.underlying31) rfl ?_
 refine ay (aJ rfl rfl rfl (aL (by first|omega|(simp;done)|(simp;omega)))) rfl ?_
 refine ad aa 2 rfl ?_
 refine af ?_
 refine az ?_
 have hX:dG b d=((⟨b.time,b.down,(b.aq).set (Int.toNat (d.n)) xr1,b.due,b.ax++([b0]),b.s0,b.s1,b.n0,b.n1,b.w0,b.w1,b.aX,b.aS,b.book⟩:Bk),(⟨0,(↑((b.ax++([b0])).length):Int) - 1⟩:Answer)):=by
   unfold dG;(try simp only [hdn,Bool.false_eq_true,if_false,hr0,hr1,hx1]);(repeat' split)<;>first|rfl|omega|(exfalso;omega)|(simp_all;done)|(simp_all;omega)
 rw [hX] at hr;clear hX
 simp only [Prod.mk.injEq] at hr;obtain ⟨rfl,rfl⟩:=hr
 refine an aa [0,1,2,9,4,5] 5 rfl rfl rfl rfl rfl rfl ?_ ?_
 all_goals first|rfl|(simp [aA,aY,bg];done)|(simp [aA,aY,bg];omega)
theorem EK (x:Nat->Value) (hx:∀ i,(x i).oneCell'=true) (b:Bk) (d:bh) (ok:cu b) (hdn:b.down=true) (b2:Bk) (a2:Answer) (hr:dG b d=(b2,a2)):cJ Try.prog 63 [(.c (.p 0 0 0 0)),(.c (.q (cY d) 0))] [(0,(.box 98 (aY b 1 2 3 4 (.d (.v (x 17))) (.d (.v (x 19)))))),(1,(dN b.aq)),(2,(dD b.due)),(3,(dS b.ax)),(4,(cS b.aS))] [0] (.v (.g [cI a2.err,cI a2.ba])) [(0,(.box 98 (aY b2 1 2 3 4 (.d (.v (x 17))) (.d (.v (x 19)))))),(1,(dN b2.aq)),(2,(dD b2.due)),(3,(dS b2.ax)),(4,(cS b2.aS))]:=by
 refine cJ.mk 214 [(0,(aC (.p 0 0 0 0))),(1,(aC (.q (cY d) 0)))] 5 Try.func63 rfl rfl rfl rfl rfl rfl rfl rfl rfl ?_
 intro W0 F0 T0 pg
 obtain ⟨okt,okc,okd,oka,oky,okw0,okw1,okp,okv,okk0,okk1,okg,okl0,okl1,okp0,okp1,okn0,okn1,okq⟩:=id ok
 refine ae aa 1 rfl ?_
 refine ag ?_
 refine ag ?_
 rcases Bool.eq_false_or_eq_true (decide (d.n < 0)) with hb1|hb1
 ·
  have hb1':=of_decide_eq_true hb1
  refine aW [0,1,4] [5,0,1,2,3,4] mixed rfl rfl ?_
  refine aw (kn:=[(14,true)]) aa 38 rfl ⟨hb1,trivial⟩ ?_
  refine bw [5,0,1,2,3,4] rfl rfl rfl rfl (by kernel_rfl) ?_
  refine af ?_
  refine aj rfl (fun _=>?_) (fun hno=>by cases hno)
  refine ae aa 2 rfl ?_
  refine az ?_
  refine ar ?_
  have hX:dG b d=(b,(⟨6,0⟩:Answer)):=by
    unfold dG gF;(try simp only [hdn,if_true]);(repeat' split)<;>first|rfl|omega|(exfalso;omega)|(simp_all;done)|(simp_all;omega)
  rw [hX] at hr;clear hX
  simp only [Prod.mk.injEq] at hr;obtain ⟨rfl,rfl⟩:=hr
  refine an aa [0,1,2,3,4,5] 5 rfl rfl rfl rfl rfl rfl ?_ ?_
  all_goals first|rfl|(simp [aA,aY,bg];done)|(simp [aA,aY,bg];omega)
 have hb1':=of_decide_eq_false hb1
 rcases Bool.eq_false_or_eq_true (decide (d.n>=(↑b.aq.length:Int))) with hb3|hb3
 ·
  have hb3':=of_decide_eq_true hb3
  refine aW [0,1,4] [5,0,1,2,3,4] mixed rfl rfl ?_
  refine aw (kn:=[(14,false)]) aa 15 rfl ⟨hb1,trivial⟩ ?_
  refine aM (n':=6) [24,15] [1] rfl rfl (.inl ⟨(ah.yes rfl rfl rfl),aF.cast (du rfl rfl rfl rfl rfl Try.underlying29) rfl⟩) rfl ?_
  refine aw (kn:=[(26,true)]) aa 22 rfl ⟨hb3,trivial⟩ ?_
  refine bw [5,0,1,2,3,4] rfl rfl rfl rfl (by kernel_rfl) ?_
  refine af ?_
  refine aj rfl (fun _=>?_) (fun hno=>by cases hno)
  refine ae aa 2 rfl ?_
  refine az ?_
  refine ar ?_
  have hX:dG b d=(b,(⟨6,0⟩:Answer)):=by
    unfold dG gF;(try simp only [hdn,if_true]);(repeat' split)<;>first|rfl|omega|(exfalso;omega)|(simp_all;done)|(simp_all;omega)
  rw [hX] at hr;clear hX
  simp only [Prod.mk.injEq] at hr;obtain ⟨rfl,rfl⟩:=hr
  refine an aa [0,1,2,3,4,5] 5 rfl rfl rfl rfl rfl rfl ?_ ?_
  all_goals first|rfl|(simp [aA,aY,bg];done)|(simp [aA,aY,bg];omega)
 have hb3':=of_decide_eq_false hb3
 rcases Bool.eq_false_or_eq_true (decide (d.aD < 0)) with hb5|hb5
 ·
  have hb5':=of_decide_eq_true hb5
  refine aW [0,1,4] [5,0,1,2,3,4] mixed rfl rfl ?_
  refine aw (kn:=[(14,false)]) aa 15 rfl ⟨hb1,trivial⟩ ?_
  refine aM (n':=6) [24,15] [1] rfl rfl (.inl ⟨(ah.yes rfl rfl rfl),aF.cast (du rfl rfl rfl rfl rfl Try.underlying29) rfl⟩) rfl ?_
  refine aw (kn:=[(26,false),(33,true)]) aa 22 rfl ⟨hb3,hb5,trivial⟩ ?_
  refine bw [5,0,1,2,3,4] rfl rfl rfl rfl (by kernel_rfl) ?_
  refine af ?_
  refine aj rfl (fun _=>?_) (fun hno=>by cases hno)
  refine ae aa 2 rfl ?_
  refine az ?_
  refine ar ?_
  have hX:dG b d=(b,(⟨6,0⟩:Answer)):=by
    unfold dG gF;(try simp only [hdn,if_true]);(repeat' split)<;>first|rfl|omega|(exfalso;omega)|(simp_all;done)|(simp_all;omega)
  rw [hX] at hr;clear hX
  simp only [Prod.mk.injEq] at hr;obtain ⟨rfl,rfl⟩:=hr
  refine an aa [0,1,2,3,4,5] 5 rfl rfl rfl rfl rfl rfl ?_ ?_
  all_goals first|rfl|(simp [aA,aY,bg];done)|(simp [aA,aY,bg];omega)
 have hb5':=of_decide_eq_false hb5
 refine aW [0,1,4] [5,0,1,2,3,4] mixed rfl rfl ?_
 refine aw (kn:=[(14,false)]) aa 15 rfl ⟨hb1,trivial⟩ ?_
 refine aM (n':=6) [24,15] [1] rfl rfl (.inl ⟨(ah.yes rfl rfl rfl),aF.cast (du rfl rfl rfl rfl rfl Try.underlying29) rfl⟩) rfl ?_
 refine aw (kn:=[(26,false),(33,false)]) aa 19 rfl ⟨hb3,hb5,trivial⟩ ?_
 refine aM (n':=6) [44,35] [2] rfl rfl (.inl ⟨(ah.yes rfl rfl rfl),aF.cast (du rfl rfl rfl rfl rfl Try.underlying30) rfl⟩) rfl ?_
 refine aw (kn:=[]) aa 2 rfl trivial ?_
 refine bw [5,0,1,2,3,4] rfl rfl rfl rfl (by kernel_rfl) ?_
 refine af ?_
 refine aj rfl (fun hc7=>?_) (fun hc7=>?_)
 ·
  have hc7':=of_decide_eq_true hc7
  refine ae aa 2 rfl ?_
  refine az ?_
  refine ar ?_
  have hX:dG b d=(b,(⟨6,0⟩:Answer)):=by
    unfold dG gF;(try simp only [hdn,if_true]);(repeat' split)<;>first|rfl|omega|(exfalso;omega)|(simp_all;done)|(simp_all;omega)
  rw [hX] at hr;clear hX
  simp only [Prod.mk.injEq] at hr;obtain ⟨rfl,rfl⟩:=hr
  refine an aa [0,1,2,3,4,5] 5 rfl rfl rfl rfl rfl rfl ?_ ?_
  all_goals first|rfl|(simp [aA,aY,bg];done)|(simp [aA,aY,bg];omega)
 have hc7':=of_decide_eq_false hc7
 refine aP ?_
 refine ag ?_
 refine ae aa 5 rfl ?_
 refine aj rfl (fun _=>?_) (fun hno=>absurd (hdn.symm.trans hno) (by decide))
 refine ag ?_
 obtain ⟨xr0,e0,hr0⟩:∃ (xr0:cC) (e0:Int),ct b.aX (⟨d.n,d.aD,d.sum,b.time⟩:cj)=(xr0,e0):=⟨_,_,rfl⟩
 have hgl:=tH b.aX ((⟨d.n,d.aD,d.sum,b.time⟩:cj))
 rw [hr0] at hgl;dsimp only at hgl
 refine dh [0,1,4] [5,0,1,2,3,4] mixed rfl rfl ?_
 refine bS (kn:=[]) aa 23 rfl trivial ?_
 refine bY (n':=6) [59,77] [] rfl rfl (.inl ⟨(ah.plain rfl),aF.cast (bX 6 (Fn.frozen (av':=(.t [(.g [(cI xr0.cap),(cX xr0.used),(dV xr0.aQ)]),(.c (cI e0))])) (vw b.aX (⟨d.n,d.aD,d.sum,b.time⟩:cj) xr0 e0 hr0) ⟨⟨.inl ⟨_,rfl,rfl⟩,.inr ⟨_,_,_,_,_,rfl,rfl,rfl,by simp⟩,.inr ⟨_,_,_,_,_,rfl,rfl,rfl,by simp⟩,trivial⟩,.inl ⟨_,rfl,rfl⟩,trivial⟩) GB rfl rfl ⟨⟨_,rfl,.g ⟨.d _,.d _,.d _,trivial⟩⟩,⟨_,rfl,.g ⟨.d _,.d _,.d _,.d _,trivial⟩⟩,trivial⟩ ⟨⟨trivial,trivial,trivial,trivial⟩,trivial,trivial⟩ trivial rfl rfl rfl rfl) rfl⟩) rfl ?_
 refine bS (n':=7) (kn:=[]) aa 6 rfl trivial ?_
 refine dO [0,1,4,5,6] [6,5,0,1,2,3,4] rfl rfl (by kernel_rfl) ?_
 refine then_ok ?_
 refine ag ?_
 refine ae aa 2 rfl ?_
 refine aj rfl (fun hc9=>?_) (fun hc9=>?_)
 ·
  have hc9':=of_decide_eq_true hc9
  refine au ?_
  refine ad aa 1 rfl ?_
  refine af ?_
  refine ag ?_
  refine ag ?_
  refine aW [0,1,4,5,6] [6,5,0,1,2,3,4] mixed rfl rfl ?_
  refine aw (kn:=[(84,false)]) aa 15 rfl ⟨rfl,trivial⟩ ?_
  refine bw [6,5,0,1,2,3,4] rfl rfl rfl rfl (by kernel_rfl) ?_
  refine af ?_
  refine aj rfl (fun hno=>by cases hno) (fun _=>?_)
  refine aP ?_
  refine ag ?_
  refine aH aa 1 rfl ?_
  refine ay (aJ rfl rfl rfl (show _=some (Value.bool true) from rfl)) rfl ?_
  refine af ?_
  refine aj rfl (fun _=>?_) (fun hno=>by cases hno)
  refine ae aa 3 rfl ?_
  refine az ?_
  refine ar ?_
  refine ar ?_
  have hX:dG b d=(b,(⟨12,0⟩:Answer)):=by
    unfold dG gF;(try simp only [hdn,if_true,hr0]);(repeat' split)<;>first|rfl|omega|(exfalso;omega)|(simp_all;done)|(simp_all;omega)
  rw [hX] at hr;clear hX
  simp only [Prod.mk.injEq] at hr;obtain ⟨rfl,rfl⟩:=hr
  refine an aa [0,1,2,3,4,5] 5 rfl rfl rfl rfl rfl rfl ?_ ?_
  all_goals first|rfl|(simp [aA,aY,bg];done)|(simp [aA,aY,bg];omega)
 have hc9':=of_decide_eq_false hc9
 refine aP ?_
 refine ag ?_
 refine ag ?_
 rcases Bool.eq_false_or_eq_true (decide (e0=0)) with hb12|hb12
 ·
  have hb12':=of_decide_eq_true hb12
  refine aW [0,1,4,5,6] [6,5,0,1,2,3,4] mixed rfl rfl ?_
  refine aw (kn:=[(84,true)]) aa 8 rfl ⟨hb12,trivial⟩ ?_
  refine aM (n':=7) [90,85] [3] rfl rfl (.inl ⟨(ah.yes rfl rfl rfl),aF.cast (du rfl rfl rfl rfl rfl Try.underlying31) rfl⟩) rfl ?_
  refine aw (kn:=[]) aa 2 rfl trivial ?_
  refine aM (n':=7) [93,85] [] rfl rfl (.inl ⟨(ah.yes rfl rfl rfl),aF.cast (bN rfl rfl rfl rfl rfl Try.underlying39) rfl⟩) rfl ?_
  refine aM (n':=7) [91,94,85] [] rfl rfl (.inl ⟨(ah.yes rfl rfl rfl),aF.cast (aJ rfl rfl rfl (aL (by first|omega|(simp;done)|(simp;omega)))) rfl⟩) rfl ?_
  refine aw (kn:=[]) aa 2 rfl trivial ?_
  refine bw [6,5,0,1,2,3,4] rfl rfl rfl rfl (by kernel_rfl) ?_
  refine af ?_
  refine aj rfl (fun hc13=>?_) (fun hc13=>?_)
  ·
   have hc13':=of_decide_eq_true hc13
   refine au ?_
   refine ad aa 1 rfl ?_
   refine af ?_
   refine ag ?_
   refine aH aa 1 rfl ?_
   refine ay (aJ rfl rfl rfl (show _=some (Value.bool true) from rfl)) rfl ?_
   refine af ?_
   refine aj rfl (fun _=>?_) (fun hno=>by cases hno)
   refine ae aa 3 rfl ?_
   refine az ?_
   refine ar ?_
   refine ar ?_
   have hX:dG b d=(b,(⟨5,0⟩:Answer)):=by
     unfold dG gF;(try simp only [hdn,if_true,hr0]);(repeat' split)<;>first|rfl|omega|(exfalso;omega)|(simp_all;done)|(simp_all;omega)
   rw [hX] at hr;clear hX
   simp only [Prod.mk.injEq] at hr;obtain ⟨rfl,rfl⟩:=hr
   refine an aa [0,1,2,3,4,5] 5 rfl rfl rfl rfl rfl rfl ?_ ?_
   all_goals first|rfl|(simp [aA,aY,bg];done)|(simp [aA,aY,bg];omega)
  have hc13':=of_decide_eq_false hc13
  refine aP ?_
  refine ag ?_
  refine ae aa 2 rfl ?_
  refine aj rfl (fun hc15=>?_) (fun hc15=>?_)
  ·
   have hc15':=of_decide_eq_true hc15
   refine ae aa 3 rfl ?_
   refine az ?_
   refine ar ?_
   refine ar ?_
   have hX:dG b d=(b,(⟨e0,0⟩:Answer)):=by
     unfold dG gF;(try simp only [hdn,if_true,hr0]);(repeat' split)<;>first|rfl|omega|(exfalso;omega)|(simp_all;done)|(simp_all;omega)
   rw [hX] at hr;clear hX
   simp only [Prod.mk.injEq] at hr;obtain ⟨rfl,rfl⟩:=hr
   refine an aa [0,1,2,3,4,5] 5 rfl rfl rfl rfl rfl rfl ?_ ?_
   all_goals first|rfl|(simp [aA,aY,bg];done)|(simp [aA,aY,bg];omega)
  have hc15':=of_decide_eq_false hc15
  refine aP ?_
  refine ae aa 6 rfl ?_
  refine ag ?_
  refine aW [0,1,4,5] [6,5,0,1,2,3,4] mixed rfl rfl ?_
  refine aw (kn:=[]) aa 5 rfl trivial ?_
  refine aM (n':=7) [111] [3] rfl rfl (.inl ⟨(ah.plain rfl),aF.cast (du rfl rfl rfl rfl rfl Try.underlying31) rfl⟩) rfl ?_
  refine aw (kn:=[]) aa 2 rfl trivial ?_
  refine aM (n':=7) [114] [] rfl rfl (.inl ⟨(ah.plain rfl),aF.cast (bN rfl rfl rfl rfl rfl Try.underlying39) rfl⟩) rfl ?_
  refine aM (n':=7) [112,115] [] rfl rfl (.inl ⟨(ah.plain rfl),aF.cast (aJ rfl rfl rfl (aL (by first|omega|(simp;done)|(simp;omega)))) rfl⟩) rfl ?_
  refine aM (n':=7) [116] [] rfl rfl (.inl ⟨(ah.plain rfl),aF.cast (aJ rfl rfl rfl (aL (by first|omega|(simp;done)|(simp;omega)))) rfl⟩) rfl ?_
  refine aw (kn:=[]) aa 1 rfl trivial ?_
  refine bw [6,5,0,1,2,3,4] rfl rfl rfl rfl (by kernel_rfl) ?_
  refine ad aa 1 rfl ?_
  refine af ?_
  refine az ?_
  refine ar ?_
  have hX:dG b d=((⟨b.time,b.down,b.aq,b.due,b.ax,b.s0,b.s1,b.n0,b.n1,b.w0,b.w1,xr0,b.aS,b.book⟩:Bk),(⟨0,((↑b.ax.length:Int)+(↑xr0.aQ.length:Int)) - 1⟩:Answer)):=by
    unfold dG gF;(try simp only [hdn,if_true,hr0]);(repeat' split)<;>first|rfl|omega|(exfalso;omega)|(simp_all;done)|(simp_all;omega)
  rw [hX] at hr;clear hX
  simp only [Prod.mk.injEq] at hr;obtain ⟨rfl,rfl⟩:=hr
  refine an aa [0,1,2,3,4,5] 5 rfl rfl rfl rfl rfl rfl ?_ ?_
  all_goals first|rfl|(simp [aA,aY,bg];done)|(simp [aA,aY,bg];omega)
 have hb12':=of_decide_eq_false hb12
 refine aW [0,1,4,5,6] [6,5,0,1,2,3,4] mixed rfl rfl ?_
 refine aw (kn:=[(84,false)]) aa 15 rfl ⟨hb12,trivial⟩ ?_
 refine bw [6,5,0,1,2,3,4] rfl rfl rfl rfl (by kernel_rfl) ?_
 refine af ?_
 refine aj rfl (fun hno=>by cases hno) (fun _=>?_)
 refine aP ?_
 refine ag ?_
 refine ae aa 2 rfl ?_
 refine aj rfl (fun hc17=>?_) (fun hc17=>?_)
 ·
  have hc17':=of_decide_eq_true hc17
  refine ae aa 3 rfl ?_
  refine az ?_
  refine ar ?_
  refine ar ?_
  have hX:dG b d=(b,(⟨e0,0⟩:Answer)):=by
    unfold dG gF;(try simp only [hdn,if_true,hr0]);(repeat' split)<;>first|rfl|omega|(exfalso;omega)|(simp_all;done)|(simp_all;omega)
  rw [hX] at hr;clear hX
  simp only [Prod.mk.injEq] at hr;obtain ⟨rfl,rfl⟩:=hr
  refine an aa [0,1,2,3,4,5] 5 rfl rfl rfl rfl rfl rfl ?_ ?_
  all_goals first|rfl|(simp [aA,aY,bg];done)|(simp [aA,aY,bg];omega)
 have hc17':=of_decide_eq_false hc17
 refine aP ?_
 refine ae aa 6 rfl ?_
 refine ag ?_
 refine aW [0,1,4,5] [6,5,0,1,2,3,4] mixed rfl rfl ?_
 refine aw (kn:=[]) aa 5 rfl trivial ?_
 refine aM (n':=7) [111] [3] rfl rfl (.inl ⟨(ah.plain rfl),aF.cast (du rfl rfl rfl rfl rfl Try.underlying31) rfl⟩) rfl ?_
 refine aw (kn:=[]) aa 2 rfl trivial ?_
 refine aM (n':=7) [114] [] rfl rfl (.inl ⟨(ah.plain rfl),aF.cast (bN rfl rfl rfl rfl rfl Try.underlying39) rfl⟩) rfl ?_
 refine aM (n':=7) [112,115] [] rfl rfl (.inl ⟨(ah.plain rfl),aF.cast (aJ rfl rfl rfl (aL (by first|omega|(simp;done)|(simp;omega)))) rfl⟩) rfl ?_
 refine aM (n':=7) [116] [] rfl rfl (.inl ⟨(ah.plain rfl),aF.cast (aJ rfl rfl rfl (aL (by first|omega|(simp;done)|(simp;omega)))) rfl⟩) rfl ?_
 refine aw (kn:=[]) aa 1 rfl trivial ?_
 refine bw [6,5,0,1,2,3,4] rfl rfl rfl rfl (by kernel_rfl) ?_
 refine ad aa 1 rfl ?_
 refine af ?_
 refine az ?_
 refine ar ?_
 have hX:dG b d=((⟨b.time,b.down,b.aq,b.due,b.ax,b.s0,b.s1,b.n0,b.n1,b.w0,b.w1,xr0,b.aS,b.book⟩:Bk),(⟨0,((↑b.ax.length:Int)+(↑xr0.aQ.length:Int)) - 1⟩:Answer)):=by
   unfold dG gF;(try simp only [hdn,if_true,hr0]);(repeat' split)<;>first|rfl|omega|(exfalso;omega)|(simp_all;done)|(simp_all;omega)
 rw [hX] at hr;clear hX
 simp only [Prod.mk.injEq] at hr;obtain ⟨rfl,rfl⟩:=hr
 refine an aa [0,1,2,3,4,5] 5 rfl rfl rfl rfl rfl rfl ?_ ?_
 all_goals first|rfl|(simp [aA,aY,bg];done)|(simp [aA,aY,bg];omega)
theorem FR (x:Nat->Value) (hx:∀ i,(x i).oneCell'=true) (b:Bk) (d:bh) (ok:cu b) (b2:Bk) (a2:Answer) (hr:dG b d=(b2,a2)):cJ Try.prog 63 [(.c (.p 0 0 0 0)),(.c (.q (cY d) 0))] [(0,(.box 98 (aY b 1 2 3 4 (.d (.v (x 17))) (.d (.v (x 19)))))),(1,(dN b.aq)),(2,(dD b.due)),(3,(dS b.ax)),(4,(cS b.aS))] [0] (.v (.g [cI a2.err,cI a2.ba])) [(0,(.box 98 (aY b2 1 2 3 4 (.d (.v (x 17))) (.d (.v (x 19)))))),(1,(dN b2.aq)),(2,(dD b2.due)),(3,(dS b2.ax)),(4,(cS b2.aS))]:=by
  cases hdn:b.down
  ·exact EJ x hx b d ok hdn b2 a2 hr
  ·exact EK x hx b d ok hdn b2 a2 hr

theorem Ad (x:Nat->Value) (hx:∀ i,(x i).oneCell'=true) (b:Bk) (d:bh) (ok:cu b) (hdn:b.down=false) (b2:Bk) (a2:Answer) (hr:dP b d=(b2,a2)):cJ Try.prog 64 [(.c (.p 0 0 0 0)),(.c (.q (cY d) 0))] [(0,(.box 98 (aY b 1 2 3 4 (.d (.v (x 17))) (.d (.v (x 19)))))),(1,(dN b.aq)),(2,(dD b.due)),(3,(dS b.ax)),(4,(cS b.aS))] [0] (.v (.g [cI a2.err,cI a2.ba])) [(0,(.box 98 (aY b2 1 2 3 4 (.d (.v (x 17))) (.d (.v (x 19)))))),(1,(dN b2.aq)),(2,(dD b2.due)),(3,(dS b2.ax)),(4,(cS b2.aS))]:=by
 refine cJ.mk 246 [(0,(aC (.p 0 0 0 0))),(1,(aC (.q (cY d) 0)))] 5 Try.func64 rfl rfl rfl rfl rfl rfl rfl rfl rfl ?_
 intro W0 F0 T0 pg
 obtain ⟨okt,okc,okd,oka,oky,okw0,okw1,okp,okv,okk0,okk1,okg,okl0,okl1,okp0,okp1,okn0,okn1,okq⟩:=id ok
 refine ae aa 1 rfl ?_
 refine ag ?_
 refine ae aa 5 rfl ?_
 refine aj rfl (fun hno=>absurd (hdn.symm.trans hno) (by decide)) (fun _=>?_)
 refine aP ?_
 refine ag ?_
 refine ag ?_
 rcases Bool.eq_false_or_eq_true (decide (d.n < 0)) with hb2|hb2
 ·
  have hb2':=of_decide_eq_true hb2
  refine aW [0,1,4] [5,0,1,2,3,4] mixed rfl rfl ?_
  refine aw (kn:=[(22,true)]) aa 18 rfl ⟨hb2,trivial⟩ ?_
  refine bw [5,0,1,2,3,4] rfl rfl rfl rfl (by kernel_rfl) ?_
  refine af ?_
  refine aj rfl (fun _=>?_) (fun hno=>by cases hno)
  refine ae aa 2 rfl ?_
  refine az ?_
  refine ar ?_
  have hX:dP b d=(b,(⟨6,0⟩:Answer)):=by
    unfold dP;simp only [hdn,Bool.false_eq_true,if_false];(repeat' split)<;>first|rfl|omega|(exfalso;omega)|(simp_all;done)|(simp_all;omega)
  rw [hX] at hr;clear hX
  simp only [Prod.mk.injEq] at hr;obtain ⟨rfl,rfl⟩:=hr
  refine an aa [0,1,2,3,4,5] 5 rfl rfl rfl rfl rfl rfl ?_ ?_
  all_goals first|rfl|(simp [aA,aY,bg];done)|(simp [aA,aY,bg];omega)
 have hb2':=of_decide_eq_false hb2
 refine aW [0,1,4] [5,0,1,2,3,4] mixed rfl rfl ?_
 refine aw (kn:=[(22,false)]) aa 15 rfl ⟨hb2,trivial⟩ ?_
 refine aM (n':=6) [32,23] [3] rfl rfl (.inl ⟨(ah.yes rfl rfl rfl),aF.cast (du rfl rfl rfl rfl rfl Try.underlying31) rfl⟩) rfl ?_
 refine aw (kn:=[]) aa 2 rfl trivial ?_
 refine bw [5,0,1,2,3,4] rfl rfl rfl rfl (by kernel_rfl) ?_
 refine af ?_
 refine aj rfl (fun hc4=>?_) (fun hc4=>?_)
 ·
  have hc4':=of_decide_eq_true hc4
  refine ae aa 2 rfl ?_
  refine az ?_
  refine ar ?_
  have hX:dP b d=(b,(⟨6,0⟩:Answer)):=by
    unfold dP;simp only [hdn,Bool.false_eq_true,if_false];(repeat' split)<;>first|rfl|omega|(exfalso;omega)|(simp_all;done)|(simp_all;omega)
  rw [hX] at hr;clear hX
  simp only [Prod.mk.injEq] at hr;obtain ⟨rfl,rfl⟩:=hr
  refine an aa [0,1,2,3,4,5] 5 rfl rfl rfl rfl rfl rfl ?_ ?_
  all_goals first|rfl|(simp [aA,aY,bg];done)|(simp [aA,aY,bg];omega)
 have hc4':=of_decide_eq_false hc4
 refine aP ?_
 refine ag ?_
 obtain ⟨x1,hx1⟩:=cb (xs:=b.ax) (i:=Int.toNat (d.n)) (by first|omega|(simp;done)|(simp;omega))
 refine aW [0,1,4] [5,0,1,2,3,4] mixed rfl rfl ?_
 refine aw (kn:=[]) aa 9 rfl trivial ?_
 refine aM (n':=6) [41,45] [3] rfl rfl (.inl ⟨(ah.plain rfl),aF.cast (bx (i:=Int.toNat (d.n)) rfl rfl rfl Try.underlying31 kM (by first|omega|(simp;done)|(simp;omega)) (by first|omega|(simp;done)|(simp;omega))) rfl⟩) rfl ?_
 refine aM (n':=6) [46] [3] rfl rfl (.inl ⟨(ah.plain rfl),aF.cast (dg rfl rfl rfl Try.underlying67 rfl kM (bf hx1) rfl) rfl⟩) rfl ?_
 refine aw (n':=7) (kn:=[]) aa 1 rfl trivial ?_
 refine bw [6,5,0,1,2,3,4] rfl rfl rfl rfl (by kernel_rfl) ?_
 refine ad aa 1 rfl ?_
 refine af ?_
 refine ag ?_
 obtain ⟨b0,e0,hr0⟩:∃ (b0:bH) (e0:Int),cv x1 d.move d.sum=(b0,e0):=⟨_,_,rfl⟩
 refine dh [0,1,4,5] [6,5,0,1,2,3,4] mixed rfl rfl ?_
 refine bS (kn:=[]) aa 9 rfl trivial ?_
 refine bY (n':=7) [49,53,57] [] rfl rfl (.inl ⟨(ah.plain rfl),aF.cast (bX 7 (wu x1 d.move d.sum b0 e0 hr0) Gz rfl rfl ⟨⟨_,rfl,.g ⟨.d _,.d _,.d _,.d _,.d _,.d _,.d _,.d _,trivial⟩⟩,⟨_,rfl,.c (.d _)⟩,⟨_,rfl,.c (.d _)⟩,trivial⟩ ⟨⟨trivial,trivial,trivial,trivial,trivial,trivial,trivial,trivial,trivial⟩,trivial,trivial⟩ trivial rfl rfl rfl rfl) rfl⟩) rfl ?_
 refine bS (n':=8) (kn:=[]) aa 6 rfl trivial ?_
 refine dO [0,1,4,5,6,7] [7,6,5,0,1,2,3,4] rfl rfl (by kernel_rfl) ?_
 refine then_ok ?_
 refine ag ?_
 refine ae aa 2 rfl ?_
 refine aj rfl (fun hc5=>?_) (fun hc5=>?_)
 ·
  have hc5':=of_decide_eq_true hc5
  refine ae aa 3 rfl ?_
  refine az ?_
  refine ar ?_
  have hX:dP b d=(b,(⟨e0,0⟩:Answer)):=by
    unfold dP;simp only [hdn,Bool.false_eq_true,if_false];rw [if_neg (by omega),hx1];dsimp only;simp only [hr0];(repeat' split)<;>first|rfl|omega|(exfalso;omega)|(simp_all;done)|(simp_all;omega)
  rw [hX] at hr;clear hX
  simp only [Prod.mk.injEq] at hr;obtain ⟨rfl,rfl⟩:=hr
  refine an aa [0,1,2,3,4,5] 5 rfl rfl rfl rfl rfl rfl ?_ ?_
  all_goals first|rfl|(simp [aA,aY,bg];done)|(simp [aA,aY,bg];omega)
 have hc5':=of_decide_eq_false hc5
 refine aP ?_
 obtain ⟨mw1,mw2,mc,ms,mk1,mk2,mn1,mn2⟩:=mv (show cv x1 d.move d.sum=(b0,0) by rw [hr0];congr 1;omega)
 have hoP:=okp x1 (List.mem_of_getElem? hx1)
 have hI0:∀ t∈b.s0.kept,eY t.number:=fun t ht=>(okk0 t ht).1
 have hI1:∀ t∈b.s1.kept,eY t.number:=fun t ht=>(okk1 t ht).1
 refine aH aa 1 rfl ?_
 refine aR 17 [0,8,9,10,11,12,13,14,15,16,7,6,5] (cK id (bb [0,8,9,10,11,12,13,14,15,16]) (ki (x 17) (x 19) b (by first|omega|(simp;done)|(simp;omega)) (by first|omega|(simp;done)|(simp;omega)) (by first|omega|(simp;done)|(simp;omega)) (by first|omega|(simp;done)|(simp;omega))) qp rfl rfl ⟨⟨_,rfl,.inl ⟨rfl,rfl⟩⟩,trivial⟩ ⟨rfl,rfl,rfl,rfl,rfl,trivial⟩ rfl rfl rfl rfl rfl rfl trivial ⟨⟨trivial,trivial,trivial,trivial,trivial,trivial,trivial,trivial,trivial,trivial,trivial,trivial,trivial,trivial,trivial,trivial,trivial,trivial,trivial,trivial,trivial⟩,⟨trivial,trivial,trivial,trivial,trivial,trivial,trivial,trivial,trivial,trivial,trivial,trivial,trivial,trivial,trivial,trivial,trivial,trivial,trivial,trivial,trivial⟩,(fun _ _ _ _=>trivial),(fun _ _ _ _=>trivial),(fun _ _ _ _=>trivial),(fun _ _ _ _=>trivial),(fun _ _ _ _=>trivial),(fun _ _ _ _=>trivial),(fun _ _ _ _=>trivial),(fun _ _ _ _=>trivial),trivial⟩ rfl rfl rfl rfl) rfl ?_
 refine ad aa 1 rfl ?_
 refine af ?_
 refine ag ?_
 obtain ⟨e1,hr1⟩:∃ (e1:Int),bP b0=e1:=⟨_,rfl⟩
 have hhb1:=ox (show bK b0=0 by assumption)
 rw [hr1] at hhb1
 obtain ⟨e2,hr2⟩:∃ (e2:Int),bP x1=e2:=⟨_,rfl⟩
 have hhb2:=ox (show bK x1=0 by assumption)
 rw [hr2] at hhb2
 refine aW [0,1,4,5,6,8] [0,8,9,10,11,12,13,14,15,16,7,6,5] mixed rfl rfl ?_
 refine aw (kn:=[]) aa 1 rfl trivial ?_
 refine aM (n':=17) [67] [] rfl rfl (.inl ⟨(ah.plain rfl),aF.cast (bX 17 (kr b0 (by first|assumption|omega|rfl|decide) e1 hr1) yp rfl rfl ⟨⟨_,rfl,.g ⟨.d _,.d _,.d _,.d _,.d _,.d _,.d _,.d _,trivial⟩⟩,trivial⟩ trivial trivial rfl rfl rfl rfl) rfl⟩) rfl ?_
 refine aw (kn:=[]) aa 1 rfl trivial ?_
 refine aM (n':=17) [69] [] rfl rfl (.inl ⟨(ah.plain rfl),aF.cast (bX 17 (kr x1 (by first|assumption|omega|rfl|decide) e2 hr2) yp rfl rfl ⟨⟨_,rfl,.g ⟨.d _,.d _,.d _,.d _,.d _,.d _,.d _,.d _,trivial⟩⟩,trivial⟩ trivial trivial rfl rfl rfl rfl) rfl⟩) rfl ?_
 refine aM (n':=17) [68,70] [] rfl rfl (.inl ⟨(ah.plain rfl),aF.cast (aJ rfl rfl rfl (aL (by first|omega|(simp;done)|(simp;omega)))) rfl⟩) rfl ?_
 refine aw (kn:=[]) aa 1 rfl trivial ?_
 refine bw [0,8,9,10,11,12,13,14,15,16,7,6,5] rfl rfl rfl rfl (by kernel_rfl) ?_
 refine af ?_
 refine ag ?_
 refine vR (J:=⟨[(0,(aC (.p 0 0 0 0))),(1,(aC (.q (cY d) 0))),(4,(aC (.p 5 0 0 0))),(6,(aC (.p 7 0 0 0))),(8,(aC (.p 8 0 0 0))),(9,(aI (e1 - e2))),(93,(aB (decide (d.move=1/\d.sum > kH b.aq b0.aO))))],[(0,(.box 98 (aY b 9 10 11 12 (.d (.v (x 17))) (.d (.v (x 19)))))),(8,(.box 147 (aY b 13 14 15 16 (.d (.v (x 17))) (cI 0)))),(9,(dN b.aq)),(10,(dD b.due)),(11,(dS b.ax)),(12,(cS b.aS)),(13,(dN b.aq)),(14,(dD b.due)),(15,(dS b.ax)),(16,(cS b.aS)),(7,(.box 67 [(cI b0.aO),(cI b0.aD),(cI b0.sum),(cI b0.captured),(cI b0.bA),(cI b0.bp),(cI b0.db),(cB b0.shut)])),(5,(.box 65 [(cI 0),(cI 0)]))],17⟩) ?_ ?_
 ·
  rcases Bool.eq_false_or_eq_true (decide (d.move=1)) with hb6|hb6
  ·
   have hb6':=of_decide_eq_true hb6
   obtain ⟨x2,hx2⟩:=cb (xs:=b.aq) (i:=Int.toNat (b0.aO)) (by first|omega|(simp;done)|(simp;omega))
   have hx2g:=Au (okg x2 (List.mem_of_getElem? hx2))
   refine aW [0,1,4,6,8,9] [0,8,9,10,11,12,13,14,15,16,7,5] mixed rfl rfl ?_
   refine aw (kn:=[(76,true)]) aa 17 rfl ⟨hb6,trivial⟩ ?_
   refine aM (n':=17) [86,88,77] [13] rfl rfl (.inl ⟨(ah.yes rfl rfl rfl),aF.cast (bx (i:=Int.toNat (b0.aO)) rfl rfl rfl Try.underlying29 iu (by first|omega|(simp;done)|(simp;omega)) (by first|omega|(simp;done)|(simp;omega))) rfl⟩) rfl ?_
   refine aM (n':=17) [89,77] [13] rfl rfl (.inl ⟨(ah.yes rfl rfl rfl),aF.cast (dg rfl rfl rfl Try.underlying61 rfl iu (bf hx2) rfl) rfl⟩) rfl ?_
   refine aM (n':=17) [90,77] [] rfl rfl (.inl ⟨(ah.yes rfl rfl rfl),aF.cast (bX 17 (pK x2 (by first|assumption|omega|(constructor<;>decide)|(have hz:=iY (by first|assumption|omega);omega))) Ev rfl rfl ⟨⟨_,rfl,.g ⟨.d _,.d _,.d _,.d _,.d _,.d _,trivial⟩⟩,trivial⟩ trivial trivial rfl rfl rfl rfl) rfl⟩) rfl ?_
   refine aw (kn:=[]) aa 2 rfl trivial ?_
   refine bw [0,8,9,10,11,12,13,14,15,16,7,5] rfl rfl rfl rfl (by kernel_rfl) ?_
   refine af ?_
   rw [show (decide (d.move=1/\d.sum > kH b.aq b0.aO))=(decide (d.sum > (x2.bJ - x2.held))) by (unfold kH;rw [hx2];dsimp only;first|(simp_all;done)|(simp_all;omega))]
   exact aE.bR id (⟨rfl,rfl,rfl,rfl,rfl,rfl,rfl,trivial⟩) (⟨rfl,rfl,rfl,rfl,rfl,rfl,rfl,rfl,rfl,rfl,rfl,rfl,trivial⟩) rfl
  have hb6':=of_decide_eq_false hb6
  refine aW [0,1,4,6,8,9] [0,8,9,10,11,12,13,14,15,16,7,5] mixed rfl rfl ?_
  refine aw (kn:=[(76,false)]) aa 22 rfl ⟨hb6,trivial⟩ ?_
  refine bw [0,8,9,10,11,12,13,14,15,16,7,5] rfl rfl rfl rfl (by kernel_rfl) ?_
  refine af ?_
  rw [show (decide (d.move=1/\d.sum > kH b.aq b0.aO))=(false) by (unfold kH;first|(simp_all;done)|(simp_all;omega))]
  exact aE.bR id (⟨rfl,rfl,rfl,rfl,rfl,rfl,rfl,trivial⟩) (⟨rfl,rfl,rfl,rfl,rfl,rfl,rfl,rfl,rfl,rfl,rfl,rfl,trivial⟩) rfl
 refine aj rfl (fun hc7=>?_) (fun hc7=>?_)
 ·
  have hc7':=of_decide_eq_true hc7
  refine ae aa 2 rfl ?_
  refine az ?_
  refine ar ?_
  have hX:dP b d=(b,(⟨10,0⟩:Answer)):=by
    unfold dP;simp only [hdn,Bool.false_eq_true,if_false];rw [if_neg (by omega),hx1];dsimp only;simp only [hr0];(repeat' split)<;>first|rfl|omega|(exfalso;omega)|(simp_all;done)|(simp_all;omega)
  rw [hX] at hr;clear hX
  simp only [Prod.mk.injEq] at hr;obtain ⟨rfl,rfl⟩:=hr
  refine an aa [0,9,10,11,12,5] 5 rfl rfl rfl rfl rfl rfl ?_ ?_
  all_goals first|rfl|(simp [aA,aY,bg];done)|(simp [aA,aY,bg];omega)
 have hc7':=of_decide_eq_false hc7
 refine aP ?_
 refine ag ?_
 refine aW [0,1,4,6,8,9] [0,8,9,10,11,12,13,14,15,16,7,5] mixed rfl rfl ?_
 refine aw (kn:=[]) aa 2 rfl trivial ?_
 refine aM (n':=17) [96] [] rfl rfl (.inl ⟨(ah.plain rfl),aF.cast (aJ rfl rfl rfl (aL (by first|omega|(simp;done)|(simp;omega)))) rfl⟩) rfl ?_
 refine aw (n':=18) (kn:=[]) aa 11 rfl trivial ?_
 refine bw [17,0,8,9,10,11,12,13,14,15,16,7,5] rfl rfl rfl rfl (by kernel_rfl) ?_
 refine ad aa 1 rfl ?_
 refine af ?_
 obtain ⟨jcards,jdue,jbook,js0,js1,je,hj⟩:∃ (jcards:List bI) (jdue:List Int) (jbook:List Entry) (js0:ca) (js1:ca) (je:Int),dU b b0 x1 d=(jcards,jdue,jbook,js0,js1,je):=⟨_,_,_,_,_,_,rfl⟩
 have hj0:=hj
 refine vR (J:=⟨[(0,(aC (.p 0 0 0 0))),(1,(aC (.q (cY d) 0))),(4,(aC (.p 5 0 0 0))),(6,(aC (.p 7 0 0 0))),(8,(aC (.p 8 0 0 0)))],[(0,(.box 98 (aY b 9 10 11 12 (.d (.v (x 17))) (.d (.v (x 19)))))),(8,(.box 147 ((((((((aY b 13 14 15 16 (.d (.v (x 17))) (cI je)).set 2 (.s 13 0 6 jcards.length)).set 3 (.s 14 0 1 jdue.length)).set 5 (cI js0.bz)).set 6 (cm js0.kept)).set 7 (cI js1.bz)).set 8 (cm js1.kept)).set 18 (da jbook)))),(9,(dN b.aq)),(10,(dD b.due)),(11,(dS b.ax)),(12,(cS b.aS)),(13,(dN jcards)),(14,(dD jdue)),(15,(dS b.ax)),(16,(cS b.aS)),(7,(.box 67 [(cI b0.aO),(cI b0.aD),(cI b0.sum),(cI b0.captured),(cI b0.bA),(cI b0.bp),(cI b0.db),(cB b0.shut)])),(5,(.box 65 [(cI 0),(cI 0)]))],17⟩) ?_ ?_
 ·
  refine ae aa 4 rfl ?_
  refine aU ?_
  refine ag ?_
  refine ae aa 2 rfl ?_
  refine aj rfl (fun hc8=>?_) (fun hc8=>?_)
  ·
   have hc8':=of_decide_eq_true hc8
   refine aP ?_
   refine aj rfl (fun _=>?_) (fun hno=>absurd (hc8.symm.trans hno) (by decide))
   refine au ?_
   refine ad aa 4 rfl ?_
   obtain ⟨l23,e23,hr3⟩:∃ (l23:List bI) (e23:Int),cH b.aq 0 b0.aO (e1 - e2) 0=(l23,e23):=⟨_,_,rfl⟩
   refine aR 19 [8,18,17,0,9,10,11,12,14,15,16,7,5] (cr (bb [8,13]) (bb [8,18]) (ms:=((dw.set 2 (some (.s 1 0 6 b.aq.length))).set 19 (some (cI 0)))) (ms':=((dw.set 2 (some (.s 1 0 6 l23.length))).set 19 (some (cI e23)))) (fun x hx=>iO x hx b.aq 0 b0.aO (e1 - e2) 0 (by first|omega|(simp;done)|(simp;omega)) l23 e23 hr3) nB rfl rfl ⟨⟨_,rfl,.inl ⟨rfl,rfl⟩⟩,⟨_,rfl,.inr (.c (.d _))⟩,⟨_,rfl,.inr (.c (.d _))⟩,⟨_,rfl,.inr (.c (.d _))⟩,trivial⟩ rfl rfl rfl rfl rfl rfl rfl ⟨rfl,trivial⟩ rfl rfl rfl rfl rfl rfl rfl rfl rfl rfl rfl rfl rfl) rfl ?_
   refine cc ?_
   refine bl ?_
   refine then_ok ?_
   have hX:dU b b0 x1 d=(l23,b.due,b.book,b.s0,b.s1,e23):=by
     unfold dU;(try simp only [hr1,hr2,hr3]);(repeat' split)<;>first|rfl|omega|(exfalso;omega)|(simp_all;done)|(simp_all;omega)
   rw [hX] at hj;clear hX;simp only [Prod.mk.injEq] at hj;obtain ⟨rfl,rfl,rfl,rfl,rfl,rfl⟩:=hj
   exact aE.bR (fun k=>if k=13 then 18 else k) (by refine ⟨?_,?_,?_,?_,?_,trivial⟩<;>first|rfl|(simp only [bc];done)|(congr 3;omega)|(congr 4;omega)|(simp only [bd];rfl)) (by refine ⟨?_,?_,?_,?_,?_,?_,?_,?_,?_,?_,?_,?_,trivial⟩<;>first|rfl|(simp only [bc];done)|(congr 3;omega)|(congr 4;omega)|(simp only [bd];rfl)) rfl
  have hc8':=of_decide_eq_false hc8
  refine au ?_
  refine ad aa 2 rfl ?_
  refine af ?_
  refine aj rfl (fun hc10=>?_) (fun hc10=>?_)
  ·
   have hc10':=of_decide_eq_true hc10
   refine au ?_
   refine ad aa 4 rfl ?_
   obtain ⟨l24,e24,hr4⟩:∃ (l24:List bI) (e24:Int),cH b.aq 0 b0.aO (e1 - e2) 0=(l24,e24):=⟨_,_,rfl⟩
   refine aR 19 [8,18,17,0,9,10,11,12,14,15,16,7,5] (cr (bb [8,13]) (bb [8,18]) (ms:=((dw.set 2 (some (.s 1 0 6 b.aq.length))).set 19 (some (cI 0)))) (ms':=((dw.set 2 (some (.s 1 0 6 l24.length))).set 19 (some (cI e24)))) (fun x hx=>iO x hx b.aq 0 b0.aO (e1 - e2) 0 (by first|omega|(simp;done)|(simp;omega)) l24 e24 hr4) nB rfl rfl ⟨⟨_,rfl,.inl ⟨rfl,rfl⟩⟩,⟨_,rfl,.inr (.c (.d _))⟩,⟨_,rfl,.inr (.c (.d _))⟩,⟨_,rfl,.inr (.c (.d _))⟩,trivial⟩ rfl rfl rfl rfl rfl rfl rfl ⟨rfl,trivial⟩ rfl rfl rfl rfl rfl rfl rfl rfl rfl rfl rfl rfl rfl) rfl ?_
   refine cc ?_
   refine bl ?_
   refine then_ok ?_
   have hX:dU b b0 x1 d=(l24,b.due,b.book,b.s0,b.s1,e24):=by
     unfold dU;(try simp only [hr1,hr2,hr4]);(repeat' split)<;>first|rfl|omega|(exfalso;omega)|(simp_all;done)|(simp_all;omega)
   rw [hX] at hj;clear hX;simp only [Prod.mk.injEq] at hj;obtain ⟨rfl,rfl,rfl,rfl,rfl,rfl⟩:=hj
   exact aE.bR (fun k=>if k=13 then 18 else k) (by refine ⟨?_,?_,?_,?_,?_,trivial⟩<;>first|rfl|(simp only [bc];done)|(congr 3;omega)|(congr 4;omega)|(simp only [bd];rfl)) (by refine ⟨?_,?_,?_,?_,?_,?_,?_,?_,?_,?_,?_,?_,trivial⟩<;>first|rfl|(simp only [bc];done)|(congr 3;omega)|(congr 4;omega)|(simp only [bd];rfl)) rfl
  have hc10':=of_decide_eq_false hc10
  refine ag ?_
  refine ae aa 2 rfl ?_
  refine aj rfl (fun hc11=>?_) (fun hc11=>?_)
  ·
   have hc11':=of_decide_eq_true hc11
   refine aP ?_
   refine aj rfl (fun _=>?_) (fun hno=>absurd (hc11.symm.trans hno) (by decide))
   refine ag ?_
   obtain ⟨l25,e25,hr5⟩:∃ (l25:List bI) (e25:Int),cH b.aq 0 b0.aO (e1 - e2) (0 - d.sum)=(l25,e25):=⟨_,_,rfl⟩
   refine dh [0,1,4,6,8,9,11,10] [17,0,8,9,10,11,12,13,14,15,16,7,5] mixed rfl rfl ?_
   refine bS (kn:=[]) aa 8 rfl trivial ?_
   refine bY (n':=18) [129] [] rfl rfl (.inl ⟨(ah.plain rfl),aF.cast (re rfl rfl (aL (by first|omega|(simp;done)|(simp;omega)))) rfl⟩) rfl ?_
   refine bY (n':=19) [122,124,125,130] [13,8] rfl rfl (.inl ⟨(ah.plain rfl),aF.cast (cr (bb [8,13]) (bb [8,18]) (ms:=((dw.set 2 (some (.s 1 0 6 b.aq.length))).set 19 (some (cI 0)))) (ms':=((dw.set 2 (some (.s 1 0 6 l25.length))).set 19 (some (cI e25)))) (fun x hx=>iO x hx b.aq 0 b0.aO (e1 - e2) (0 - d.sum) (by first|omega|(simp;done)|(simp;omega)) l25 e25 hr5) nB rfl rfl ⟨⟨_,rfl,.inl ⟨rfl,rfl⟩⟩,⟨_,rfl,.inr (.c (.d _))⟩,⟨_,rfl,.inr (.c (.d _))⟩,⟨_,rfl,.inr (.c (.d _))⟩,trivial⟩ rfl rfl rfl rfl rfl rfl rfl ⟨rfl,trivial⟩ rfl rfl rfl rfl rfl rfl rfl rfl rfl rfl rfl rfl rfl) rfl⟩) rfl ?_
   refine dO [0,1,4,6,8,11,10] [18,8,17,0,9,10,11,12,14,15,16,7,5] rfl rfl (by kernel_rfl) ?_
   refine then_ok ?_
   refine aH aa 6 rfl ?_
   obtain ⟨l26,e26,hr6⟩:∃ (l26:List Entry) (e26:Int),dX b.book e25 (10+b0.aO) 1 d.sum=(l26,e26):=⟨_,_,rfl⟩
   refine aR 19 [8,18,17,0,9,10,11,12,14,15,16,7,5] (cr (bb [8]) (bb [8]) (ms:=((dw.set 18 (some (da b.book))).set 19 (some (cI e25)))) (ms':=((dw.set 18 (some (da l26))).set 19 (some (cI e26)))) (fun x hx=>jc x hx b.book e25 (10+b0.aO) 1 d.sum l26 e26 hr6) mw rfl rfl ⟨⟨_,rfl,.inl ⟨rfl,rfl⟩⟩,⟨_,rfl,.inr (.c (.d _))⟩,⟨_,rfl,.inr (.c (.d _))⟩,⟨_,rfl,.inr (.c (.d _))⟩,trivial⟩ rfl rfl rfl rfl rfl rfl rfl trivial rfl rfl rfl rfl rfl rfl rfl rfl rfl rfl rfl rfl rfl) rfl ?_
   refine af ?_
   refine ae aa 2 rfl ?_
   refine au ?_
   refine ad aa 2 rfl ?_
   obtain ⟨s27,e27,hr7⟩:∃ (s27:ca) (e27:Int),eH b.s0 e26 (⟨0,1,d.n,d.sum⟩:bu)=(s27,e27):=⟨_,_,rfl⟩
   refine aR 19 [8,18,17,0,9,10,11,12,14,15,16,7,5] (cr (bb [8]) (bb [8]) (ms:=(((dw.set 5 (some (cI b.s0.bz))).set 6 (some (cm b.s0.kept))).set 19 (some (cI e26)))) (ms':=(((dw.set 5 (some (cI s27.bz))).set 6 (some (cm s27.kept))).set 19 (some (cI e27)))) (fun x hx=>sc x hx b.s0 e26 (⟨0,1,d.n,d.sum⟩:bu) (by assumption) s27 e27 hr7) ym rfl rfl ⟨⟨_,rfl,.inl ⟨rfl,rfl⟩⟩,⟨_,rfl,.inr (.c (.d _))⟩,⟨_,rfl,.inr (.g ⟨.d _,.d _,.d _,.d _,trivial⟩)⟩,trivial⟩ rfl rfl rfl rfl rfl rfl rfl trivial rfl rfl rfl rfl rfl rfl rfl rfl rfl rfl rfl rfl rfl) rfl ?_
   refine cc ?_
   refine bl ?_
   refine then_ok ?_
   have hX:dU b b0 x1 d=(l25,b.due,l26,s27,b.s1,e27):=by
     unfold dU;(try simp only [hr1,hr2,hr5,hr6,hr7]);(repeat' split)<;>first|rfl|omega|(exfalso;omega)|(simp_all;done)|(simp_all;omega)
   rw [hX] at hj;clear hX;simp only [Prod.mk.injEq] at hj;obtain ⟨rfl,rfl,rfl,rfl,rfl,rfl⟩:=hj
   exact aE.bR (fun k=>if k=13 then 18 else k) (by refine ⟨?_,?_,?_,?_,?_,trivial⟩<;>first|rfl|(simp only [bc];done)|(congr 3;omega)|(congr 4;omega)|(simp only [bd];rfl)) (by refine ⟨?_,?_,?_,?_,?_,?_,?_,?_,?_,?_,?_,?_,trivial⟩<;>first|rfl|(simp only [bc];done)|(congr 3;omega)|(congr 4;omega)|(simp only [bd];rfl)) rfl
  have hc11':=of_decide_eq_false hc11
  refine au ?_
  refine ad aa 2 rfl ?_
  refine af ?_
  refine aj rfl (fun hc13=>?_) (fun hc13=>?_)
  ·
   have hc13':=of_decide_eq_true hc13
   refine ag ?_
   obtain ⟨l28,e28,hr8⟩:∃ (l28:List bI) (e28:Int),cH b.aq 0 b0.aO (e1 - e2) (0 - d.sum)=(l28,e28):=⟨_,_,rfl⟩
   refine dh [0,1,4,6,8,9,11,10] [17,0,8,9,10,11,12,13,14,15,16,7,5] mixed rfl rfl ?_
   refine bS (kn:=[]) aa 8 rfl trivial ?_
   refine bY (n':=18) [129] [] rfl rfl (.inl ⟨(ah.plain rfl),aF.cast (re rfl rfl (aL (by first|omega|(simp;done)|(simp;omega)))) rfl⟩) rfl ?_
   refine bY (n':=19) [122,124,125,130] [13,8] rfl rfl (.inl ⟨(ah.plain rfl),aF.cast (cr (bb [8,13]) (bb [8,18]) (ms:=((dw.set 2 (some (.s 1 0 6 b.aq.length))).set 19 (some (cI 0)))) (ms':=((dw.set 2 (some (.s 1 0 6 l28.length))).set 19 (some (cI e28)))) (fun x hx=>iO x hx b.aq 0 b0.aO (e1 - e2) (0 - d.sum) (by first|omega|(simp;done)|(simp;omega)) l28 e28 hr8) nB rfl rfl ⟨⟨_,rfl,.inl ⟨rfl,rfl⟩⟩,⟨_,rfl,.inr (.c (.d _))⟩,⟨_,rfl,.inr (.c (.d _))⟩,⟨_,rfl,.inr (.c (.d _))⟩,trivial⟩ rfl rfl rfl rfl rfl rfl rfl ⟨rfl,trivial⟩ rfl rfl rfl rfl rfl rfl rfl rfl rfl rfl rfl rfl rfl) rfl⟩) rfl ?_
   refine dO [0,1,4,6,8,11,10] [18,8,17,0,9,10,11,12,14,15,16,7,5] rfl rfl (by kernel_rfl) ?_
   refine then_ok ?_
   refine aH aa 6 rfl ?_
   obtain ⟨l29,e29,hr9⟩:∃ (l29:List Entry) (e29:Int),dX b.book e28 (10+b0.aO) 1 d.sum=(l29,e29):=⟨_,_,rfl⟩
   refine aR 19 [8,18,17,0,9,10,11,12,14,15,16,7,5] (cr (bb [8]) (bb [8]) (ms:=((dw.set 18 (some (da b.book))).set 19 (some (cI e28)))) (ms':=((dw.set 18 (some (da l29))).set 19 (some (cI e29)))) (fun x hx=>jc x hx b.book e28 (10+b0.aO) 1 d.sum l29 e29 hr9) mw rfl rfl ⟨⟨_,rfl,.inl ⟨rfl,rfl⟩⟩,⟨_,rfl,.inr (.c (.d _))⟩,⟨_,rfl,.inr (.c (.d _))⟩,⟨_,rfl,.inr (.c (.d _))⟩,trivial⟩ rfl rfl rfl rfl rfl rfl rfl trivial rfl rfl rfl rfl rfl rfl rfl rfl rfl rfl rfl rfl rfl) rfl ?_
   refine af ?_
   refine ae aa 2 rfl ?_
   refine au ?_
   refine ad aa 2 rfl ?_
   obtain ⟨s210,e210,hr10⟩:∃ (s210:ca) (e210:Int),eH b.s0 e29 (⟨0,1,d.n,d.sum⟩:bu)=(s210,e210):=⟨_,_,rfl⟩
   refine aR 19 [8,18,17,0,9,10,11,12,14,15,16,7,5] (cr (bb [8]) (bb [8]) (ms:=(((dw.set 5 (some (cI b.s0.bz))).set 6 (some (cm b.s0.kept))).set 19 (some (cI e29)))) (ms':=(((dw.set 5 (some (cI s210.bz))).set 6 (some (cm s210.kept))).set 19 (some (cI e210)))) (fun x hx=>sc x hx b.s0 e29 (⟨0,1,d.n,d.sum⟩:bu) (by assumption) s210 e210 hr10) ym rfl rfl ⟨⟨_,rfl,.inl ⟨rfl,rfl⟩⟩,⟨_,rfl,.inr (.c (.d _))⟩,⟨_,rfl,.inr (.g ⟨.d _,.d _,.d _,.d _,trivial⟩)⟩,trivial⟩ rfl rfl rfl rfl rfl rfl rfl trivial rfl rfl rfl rfl rfl rfl rfl rfl rfl rfl rfl rfl rfl) rfl ?_
   refine cc ?_
   refine bl ?_
   refine then_ok ?_
   have hX:dU b b0 x1 d=(l28,b.due,l29,s210,b.s1,e210):=by
     unfold dU;(try simp only [hr1,hr2,hr8,hr9,hr10]);(repeat' split)<;>first|rfl|omega|(exfalso;omega)|(simp_all;done)|(simp_all;omega)
   rw [hX] at hj;clear hX;simp only [Prod.mk.injEq] at hj;obtain ⟨rfl,rfl,rfl,rfl,rfl,rfl⟩:=hj
   exact aE.bR (fun k=>if k=13 then 18 else k) (by refine ⟨?_,?_,?_,?_,?_,trivial⟩<;>first|rfl|(simp only [bc];done)|(congr 3;omega)|(congr 4;omega)|(simp only [bd];rfl)) (by refine ⟨?_,?_,?_,?_,?_,?_,?_,?_,?_,?_,?_,?_,trivial⟩<;>first|rfl|(simp only [bc];done)|(congr 3;omega)|(congr 4;omega)|(simp only [bd];rfl)) rfl
  have hc13':=of_decide_eq_false hc13
  refine ae aa 2 rfl ?_
  refine aj rfl (fun hc14=>?_) (fun hc14=>?_)
  ·
   have hc14':=of_decide_eq_true hc14
   refine ag ?_
   obtain ⟨x2,hx2⟩:=cb (xs:=b.due) (i:=Int.toNat (b0.aD)) (by first|omega|(simp;done)|(simp;omega))
   refine aW [0,1,4,6,8,11] [17,0,8,9,10,11,12,13,14,15,16,7,5] mixed rfl rfl ?_
   refine aw (kn:=[]) aa 7 rfl trivial ?_
   refine aM (n':=18) [149,151] [14] rfl rfl (.inl ⟨(ah.plain rfl),aF.cast (bx (i:=Int.toNat (b0.aD)) rfl rfl rfl Try.underlying30 fE (by first|omega|(simp;done)|(simp;omega)) (by first|omega|(simp;done)|(simp;omega))) rfl⟩) rfl ?_
   refine aM (n':=18) [152] [14] rfl rfl (.inl ⟨(ah.plain rfl),aF.cast (eI rfl rfl rfl Try.underlying3 rfl (bf hx2) rfl) rfl⟩) rfl ?_
   refine aw (kn:=[]) aa 5 rfl trivial ?_
   refine aM (n':=18) [149,151] [14] rfl rfl (.inl ⟨(ah.plain rfl),aF.cast (bx (i:=Int.toNat (b0.aD)) rfl rfl rfl Try.underlying30 fE (by first|omega|(simp;done)|(simp;omega)) (by first|omega|(simp;done)|(simp;omega))) rfl⟩) rfl ?_
   refine bw [17,0,8,9,10,11,12,13,14,15,16,7,5] rfl rfl rfl rfl (by kernel_rfl) ?_
   refine gh [17,0,8,9,10,11,12,13,14,15,16,7,5] (dL (ds:=[(dI (IntKind.i64.wrap (x2 - d.sum)))]) rfl rfl rfl rfl rfl fE rfl (Nat.le_of_ble_eq_true rfl) (bf hx2) rfl (eL (x':=(IntKind.i64.wrap (x2 - d.sum))) rfl)) rfl ?_
   refine af ?_
   refine fA (k:=8) (q:=3) (c':=(.s 14 0 1 (((b.due).set (Int.toNat (b0.aD)) (IntKind.i64.wrap (x2 - d.sum))).length))) rfl rfl (by first|rfl|(simp;done)|(congr 1;omega)) rfl ?_
   refine ag ?_
   obtain ⟨l211,e211,hr11⟩:∃ (l211:List Entry) (e211:Int),dX b.book 0 (50+b0.aD) 1 d.sum=(l211,e211):=⟨_,_,rfl⟩
   refine dh [0,1,4,6,8,11] [17,0,8,9,10,11,12,13,14,15,16,7,5] mixed rfl rfl ?_
   refine bS (kn:=[]) aa 3 rfl trivial ?_
   refine bY (n':=18) [162] [] rfl rfl (.inl ⟨(ah.plain rfl),aF.cast (aJ rfl rfl rfl (aL (by first|omega|(simp;done)|(simp;omega)))) rfl⟩) rfl ?_
   refine bS (kn:=[]) aa 4 rfl trivial ?_
   refine bY (n':=18) [160,163,167] [8] rfl rfl (.inl ⟨(ah.plain rfl),aF.cast (cr (bb [8]) (bb [8]) (ms:=((dw.set 18 (some (da b.book))).set 19 (some (cI 0)))) (ms':=((dw.set 18 (some (da l211))).set 19 (some (cI e211)))) (fun x hx=>jc x hx b.book 0 (50+b0.aD) 1 d.sum l211 e211 hr11) mw rfl rfl ⟨⟨_,rfl,.inl ⟨rfl,rfl⟩⟩,⟨_,rfl,.inr (.c (.d _))⟩,⟨_,rfl,.inr (.c (.d _))⟩,⟨_,rfl,.inr (.c (.d _))⟩,trivial⟩ rfl rfl rfl rfl rfl rfl rfl trivial rfl rfl rfl rfl rfl rfl rfl rfl rfl rfl rfl rfl rfl) rfl⟩) rfl ?_
   refine dO [0,1,4,6,8,11] [8,17,0,9,10,11,12,13,14,15,16,7,5] rfl rfl (by kernel_rfl) ?_
   refine then_ok ?_
   refine ae aa 2 rfl ?_
   refine au ?_
   refine ad aa 2 rfl ?_
   obtain ⟨s212,e212,hr12⟩:∃ (s212:ca) (e212:Int),eH b.s1 e211 (⟨0,2,d.n,d.sum⟩:bu)=(s212,e212):=⟨_,_,rfl⟩
   refine aR 18 [8,17,0,9,10,11,12,13,14,15,16,7,5] (cr (bb [8]) (bb [8]) (ms:=(((dw.set 7 (some (cI b.s1.bz))).set 8 (some (cm b.s1.kept))).set 19 (some (cI e211)))) (ms':=(((dw.set 7 (some (cI s212.bz))).set 8 (some (cm s212.kept))).set 19 (some (cI e212)))) (fun x hx=>Da x hx b.s1 e211 (⟨0,2,d.n,d.sum⟩:bu) (by assumption) s212 e212 hr12) ym rfl rfl ⟨⟨_,rfl,.inl ⟨rfl,rfl⟩⟩,⟨_,rfl,.inr (.c (.d _))⟩,⟨_,rfl,.inr (.g ⟨.d _,.d _,.d _,.d _,trivial⟩)⟩,trivial⟩ rfl rfl rfl rfl rfl rfl rfl trivial rfl rfl rfl rfl rfl rfl rfl rfl rfl rfl rfl rfl rfl) rfl ?_
   refine cc ?_
   refine bl ?_
   refine then_ok ?_
   have hX:dU b b0 x1 d=(b.aq,(b.due).set (Int.toNat (b0.aD)) (IntKind.i64.wrap (x2 - d.sum)),l211,b.s0,s212,e212):=by
     unfold dU;simp only [List.getD_eq_getElem?_getD,hx2,Option.getD_some];(try simp only [hr1,hr2,hr11,hr12,hx2]);(repeat' split)<;>first|rfl|omega|(exfalso;omega)|(simp_all;done)|(simp_all;omega)
   rw [hX] at hj;clear hX;simp only [Prod.mk.injEq] at hj;obtain ⟨rfl,rfl,rfl,rfl,rfl,rfl⟩:=hj
   exact aE.bR id (by refine ⟨?_,?_,?_,?_,?_,trivial⟩<;>first|rfl|(simp only [bc];done)|(congr 3;omega)|(congr 4;omega)|(simp only [bd];rfl)) (by refine ⟨?_,?_,?_,?_,?_,?_,?_,?_,?_,?_,?_,?_,trivial⟩<;>first|rfl|(simp only [bc];done)|(congr 3;omega)|(congr 4;omega)|(simp only [bd];rfl)) rfl
  have hc14':=of_decide_eq_false hc14
  refine ae aa 2 rfl ?_
  refine aj rfl (fun hc15=>?_) (fun hc15=>?_)
  ·
   have hc15':=of_decide_eq_true hc15
   refine ag ?_
   obtain ⟨l213,e213,hr13⟩:∃ (l213:List bI) (e213:Int),cH b.aq 0 b0.aO 0 d.sum=(l213,e213):=⟨_,_,rfl⟩
   refine dh [0,1,4,6,8,10] [0,8,9,10,11,12,13,14,15,16,7,5] mixed rfl rfl ?_
   refine bS (kn:=[]) aa 7 rfl trivial ?_
   refine bY (n':=19) [175,177,181] [13,8] rfl rfl (.inl ⟨(ah.plain rfl),aF.cast (cr (bb [8,13]) (bb [8,18]) (ms:=((dw.set 2 (some (.s 1 0 6 b.aq.length))).set 19 (some (cI 0)))) (ms':=((dw.set 2 (some (.s 1 0 6 l213.length))).set 19 (some (cI e213)))) (fun x hx=>iO x hx b.aq 0 b0.aO 0 d.sum (by first|omega|(simp;done)|(simp;omega)) l213 e213 hr13) nB rfl rfl ⟨⟨_,rfl,.inl ⟨rfl,rfl⟩⟩,⟨_,rfl,.inr (.c (.d _))⟩,⟨_,rfl,.inr (.c (.d _))⟩,⟨_,rfl,.inr (.c (.d _))⟩,trivial⟩ rfl rfl rfl rfl rfl rfl rfl ⟨rfl,trivial⟩ rfl rfl rfl rfl rfl rfl rfl rfl rfl rfl rfl rfl rfl) rfl⟩) rfl ?_
   refine dO [0,1,4,6,8,10] [18,8,0,9,10,11,12,14,15,16,7,5] rfl rfl (by kernel_rfl) ?_
   refine then_ok ?_
   refine au ?_
   refine ad aa 6 rfl ?_
   obtain ⟨l214,e214,hr14⟩:∃ (l214:List Entry) (e214:Int),dX b.book e213 2 (10+b0.aO) d.sum=(l214,e214):=⟨_,_,rfl⟩
   refine aR 19 [8,18,0,9,10,11,12,14,15,16,7,5] (cr (bb [8]) (bb [8]) (ms:=((dw.set 18 (some (da b.book))).set 19 (some (cI e213)))) (ms':=((dw.set 18 (some (da l214))).set 19 (some (cI e214)))) (fun x hx=>jc x hx b.book e213 2 (10+b0.aO) d.sum l214 e214 hr14) mw rfl rfl ⟨⟨_,rfl,.inl ⟨rfl,rfl⟩⟩,⟨_,rfl,.inr (.c (.d _))⟩,⟨_,rfl,.inr (.c (.d _))⟩,⟨_,rfl,.inr (.c (.d _))⟩,trivial⟩ rfl rfl rfl rfl rfl rfl rfl trivial rfl rfl rfl rfl rfl rfl rfl rfl rfl rfl rfl rfl rfl) rfl ?_
   refine cc ?_
   refine bl ?_
   refine then_ok ?_
   have hX:dU b b0 x1 d=(l213,b.due,l214,b.s0,b.s1,e214):=by
     unfold dU;(try simp only [hr1,hr2,hr13,hr14]);(repeat' split)<;>first|rfl|omega|(exfalso;omega)|(simp_all;done)|(simp_all;omega)
   rw [hX] at hj;clear hX;simp only [Prod.mk.injEq] at hj;obtain ⟨rfl,rfl,rfl,rfl,rfl,rfl⟩:=hj
   exact aE.bR (fun k=>if k=13 then 18 else k) (by refine ⟨?_,?_,?_,?_,?_,trivial⟩<;>first|rfl|(simp only [bc];done)|(congr 3;omega)|(congr 4;omega)|(simp only [bd];rfl)) (by refine ⟨?_,?_,?_,?_,?_,?_,?_,?_,?_,?_,?_,?_,trivial⟩<;>first|rfl|(simp only [bc];done)|(congr 3;omega)|(congr 4;omega)|(simp only [bd];rfl)) rfl
  have hc15':=of_decide_eq_false hc15
  refine ae aa 2 rfl ?_
  refine aj rfl (fun hc16=>?_) (fun hc16=>?_)
  ·
   have hc16':=of_decide_eq_true hc16
   refine ae aa 2 rfl ?_
   refine au ?_
   refine ad aa 2 rfl ?_
   obtain ⟨s215,e215,hr15⟩:∃ (s215:ca) (e215:Int),eH b.s0 0 (⟨0,3,d.n,d.sum⟩:bu)=(s215,e215):=⟨_,_,rfl⟩
   refine aR 18 [8,17,0,9,10,11,12,13,14,15,16,7,5] (cr (bb [8]) (bb [8]) (ms:=(((dw.set 5 (some (cI b.s0.bz))).set 6 (some (cm b.s0.kept))).set 19 (some (cI 0)))) (ms':=(((dw.set 5 (some (cI s215.bz))).set 6 (some (cm s215.kept))).set 19 (some (cI e215)))) (fun x hx=>sc x hx b.s0 0 (⟨0,3,d.n,d.sum⟩:bu) (by assumption) s215 e215 hr15) ym rfl rfl ⟨⟨_,rfl,.inl ⟨rfl,rfl⟩⟩,⟨_,rfl,.inr (.c (.d _))⟩,⟨_,rfl,.inr (.g ⟨.d _,.d _,.d _,.d _,trivial⟩)⟩,trivial⟩ rfl rfl rfl rfl rfl rfl rfl trivial rfl rfl rfl rfl rfl rfl rfl rfl rfl rfl rfl rfl rfl) rfl ?_
   refine cc ?_
   refine bl ?_
   refine then_ok ?_
   have hX:dU b b0 x1 d=(b.aq,b.due,b.book,s215,b.s1,e215):=by
     unfold dU;(try simp only [hr1,hr2,hr15]);(repeat' split)<;>first|rfl|omega|(exfalso;omega)|(simp_all;done)|(simp_all;omega)
   rw [hX] at hj;clear hX;simp only [Prod.mk.injEq] at hj;obtain ⟨rfl,rfl,rfl,rfl,rfl,rfl⟩:=hj
   exact aE.bR id (by refine ⟨?_,?_,?_,?_,?_,trivial⟩<;>first|rfl|(simp only [bc];done)|(congr 3;omega)|(congr 4;omega)|(simp only [bd];rfl)) (by refine ⟨?_,?_,?_,?_,?_,?_,?_,?_,?_,?_,?_,?_,trivial⟩<;>first|rfl|(simp only [bc];done)|(congr 3;omega)|(congr 4;omega)|(simp only [bd];rfl)) rfl
  have hc16':=of_decide_eq_false hc16
  refine ae aa 2 rfl ?_
  refine aj rfl (fun hc17=>?_) (fun hc17=>?_)
  ·
   have hc17':=of_decide_eq_true hc17
   refine ag ?_
   obtain ⟨l216,e216,hr16⟩:∃ (l216:List bI) (e216:Int),cH b.aq 0 b0.aO 0 (0 - d.sum)=(l216,e216):=⟨_,_,rfl⟩
   refine dh [0,1,4,6,8,10] [0,8,9,10,11,12,13,14,15,16,7,5] mixed rfl rfl ?_
   refine bS (kn:=[]) aa 7 rfl trivial ?_
   refine bY (n':=18) [204] [] rfl rfl (.inl ⟨(ah.plain rfl),aF.cast (re rfl rfl (aL (by first|omega|(simp;done)|(simp;omega)))) rfl⟩) rfl ?_
   refine bY (n':=19) [198,200,205] [13,8] rfl rfl (.inl ⟨(ah.plain rfl),aF.cast (cr (bb [8,13]) (bb [8,18]) (ms:=((dw.set 2 (some (.s 1 0 6 b.aq.length))).set 19 (some (cI 0)))) (ms':=((dw.set 2 (some (.s 1 0 6 l216.length))).set 19 (some (cI e216)))) (fun x hx=>iO x hx b.aq 0 b0.aO 0 (0 - d.sum) (by first|omega|(simp;done)|(simp;omega)) l216 e216 hr16) nB rfl rfl ⟨⟨_,rfl,.inl ⟨rfl,rfl⟩⟩,⟨_,rfl,.inr (.c (.d _))⟩,⟨_,rfl,.inr (.c (.d _))⟩,⟨_,rfl,.inr (.c (.d _))⟩,trivial⟩ rfl rfl rfl rfl rfl rfl rfl ⟨rfl,trivial⟩ rfl rfl rfl rfl rfl rfl rfl rfl rfl rfl rfl rfl rfl) rfl⟩) rfl ?_
   refine dO [0,1,4,6,8,10] [18,8,0,9,10,11,12,14,15,16,7,5] rfl rfl (by kernel_rfl) ?_
   refine then_ok ?_
   refine au ?_
   refine ad aa 6 rfl ?_
   obtain ⟨l217,e217,hr17⟩:∃ (l217:List Entry) (e217:Int),dX b.book e216 (10+b0.aO) 2 d.sum=(l217,e217):=⟨_,_,rfl⟩
   refine aR 19 [8,18,0,9,10,11,12,14,15,16,7,5] (cr (bb [8]) (bb [8]) (ms:=((dw.set 18 (some (da b.book))).set 19 (some (cI e216)))) (ms':=((dw.set 18 (some (da l217))).set 19 (some (cI e217)))) (fun x hx=>jc x hx b.book e216 (10+b0.aO) 2 d.sum l217 e217 hr17) mw rfl rfl ⟨⟨_,rfl,.inl ⟨rfl,rfl⟩⟩,⟨_,rfl,.inr (.c (.d _))⟩,⟨_,rfl,.inr (.c (.d _))⟩,⟨_,rfl,.inr (.c (.d _))⟩,trivial⟩ rfl rfl rfl rfl rfl rfl rfl trivial rfl rfl rfl rfl rfl rfl rfl rfl rfl rfl rfl rfl rfl) rfl ?_
   refine cc ?_
   refine bl ?_
   refine then_ok ?_
   have hX:dU b b0 x1 d=(l216,b.due,l217,b.s0,b.s1,e217):=by
     unfold dU;(try simp only [hr1,hr2,hr16,hr17]);(repeat' split)<;>first|rfl|omega|(exfalso;omega)|(simp_all;done)|(simp_all;omega)
   rw [hX] at hj;clear hX;simp only [Prod.mk.injEq] at hj;obtain ⟨rfl,rfl,rfl,rfl,rfl,rfl⟩:=hj
   exact aE.bR (fun k=>if k=13 then 18 else k) (by refine ⟨?_,?_,?_,?_,?_,trivial⟩<;>first|rfl|(simp only [bc];done)|(congr 3;omega)|(congr 4;omega)|(simp only [bd];rfl)) (by refine ⟨?_,?_,?_,?_,?_,?_,?_,?_,?_,?_,?_,?_,trivial⟩<;>first|rfl|(simp only [bc];done)|(congr 3;omega)|(congr 4;omega)|(simp only [bd];rfl)) rfl
  have hc17':=of_decide_eq_false hc17
  refine cD ?_
  refine bl ?_
  refine then_ok ?_
  have hX:dU b b0 x1 d=(b.aq,b.due,b.book,b.s0,b.s1,0):=by
    unfold dU;(try simp only [hr1,hr2]);(repeat' split)<;>first|rfl|omega|(exfalso;omega)|(simp_all;done)|(simp_all;omega)
  rw [hX] at hj;clear hX;simp only [Prod.mk.injEq] at hj;obtain ⟨rfl,rfl,rfl,rfl,rfl,rfl⟩:=hj
  exact aE.bR id (by refine ⟨?_,?_,?_,?_,?_,trivial⟩<;>first|rfl|(simp only [bc];done)|(congr 3;omega)|(congr 4;omega)|(simp only [bd];rfl)) (by refine ⟨?_,?_,?_,?_,?_,?_,?_,?_,?_,?_,?_,?_,trivial⟩<;>first|rfl|(simp only [bc];done)|(congr 3;omega)|(congr 4;omega)|(simp only [bd];rfl)) rfl
 refine ag ?_
 obtain ⟨l218,e218,hr18⟩:∃ (l218:List al) (e218:Int),iM b.aS je (⟨b0.aD,d.n,d.move,d.sum⟩:al)=(l218,e218):=⟨_,_,rfl⟩
 refine dh [0,1,4,6,8] [0,8,9,10,11,12,13,14,15,16,7,5] mixed rfl rfl ?_
 refine bS (kn:=[]) aa 16 rfl trivial ?_
 refine bY (n':=18) [214,229] [16,8] rfl rfl (.inl ⟨(ah.plain rfl),aF.cast (cr (bb [8,16]) (bb [8,17]) (ms:=((dw.set 16 (some (.s 1 0 4 b.aS.length))).set 19 (some (cI je)))) (ms':=((dw.set 16 (some (.s 1 0 4 l218.length))).set 19 (some (cI e218)))) (fun x hx=>EH x hx b.aS je (⟨b0.aD,d.n,d.move,d.sum⟩:al) (by first|omega|(simp;done)|(simp;omega)) l218 e218 hr18) Gy rfl rfl ⟨⟨_,rfl,.inl ⟨rfl,rfl⟩⟩,⟨_,rfl,.inr (.g ⟨.d _,.d _,.d _,.d _,trivial⟩)⟩,trivial⟩ rfl rfl rfl rfl rfl rfl rfl ⟨rfl,trivial⟩ rfl rfl rfl rfl rfl rfl rfl rfl rfl rfl rfl rfl rfl) rfl⟩) rfl ?_
 refine dO [0,1,4,6,8] [17,8,0,9,10,11,12,13,14,15,7,5] rfl rfl (by kernel_rfl) ?_
 refine then_ok ?_
 refine ag ?_
 refine aW [0,1,4,6,8] [17,8,0,9,10,11,12,13,14,15,7,5] mixed rfl rfl ?_
 refine aw (kn:=[]) aa 10 rfl trivial ?_
 refine aM (n':=18) [235,239] [15] rfl rfl (.inl ⟨(ah.plain rfl),aF.cast (bx (i:=Int.toNat (d.n)) rfl rfl rfl Try.underlying31 kM (by first|omega|(simp;done)|(simp;omega)) (by first|omega|(simp;done)|(simp;omega))) rfl⟩) rfl ?_
 refine bw [17,8,0,9,10,11,12,13,14,15,7,5] rfl rfl rfl rfl (by kernel_rfl) ?_
 refine gh [17,8,0,9,10,11,12,13,14,15,7,5] (dL (ds:=[(dI b0.aO),(dI b0.aD),(dI b0.sum),(dI b0.captured),(dI b0.bA),(dI b0.bp),(dI b0.db),(dB b0.shut)]) rfl rfl rfl rfl rfl kM rfl (Nat.le_of_ble_eq_true rfl) (bf hx1) rfl (eL (x':=b0) rfl)) rfl ?_
 refine af ?_
 rcases (show e218=0\/¬e218=0 from by omega) with hs18|hs18
 ·
  refine fA (k:=8) (q:=4) (c':=(.s 15 0 8 (((b.ax).set (Int.toNat (d.n)) b0).length))) rfl rfl (by first|rfl|(simp;done)|(congr 1;omega)) rfl ?_
  refine aH aa 2 rfl ?_
  refine aR 22 [0,18,19,20,21,7,5] (cK (bb [0,8,9,10,11,12,13,14,15,17]) (bb [0,18,19,20,21]) (fj (x 17) (x 19) b (⟨b.time,b.down,jcards,jdue,(b.ax).set (Int.toNat (d.n)) b0,js0,js1,b.n0,b.n1,b.w0,b.w1,b.aX,l218,jbook⟩:Bk) e218 (by first|assumption|omega)) fI rfl rfl ⟨⟨_,rfl,.inl ⟨rfl,rfl⟩⟩,⟨_,rfl,.inl ⟨rfl,rfl⟩⟩,trivial⟩ ⟨rfl,rfl,rfl,rfl,rfl,rfl,rfl,rfl,rfl,rfl,trivial⟩ rfl rfl rfl rfl rfl rfl trivial ⟨⟨trivial,trivial,trivial,trivial,trivial,trivial,trivial,trivial,trivial,trivial,trivial,trivial,trivial,trivial,trivial,trivial,trivial,trivial,trivial,trivial,trivial⟩,(fun _ _ _ _=>trivial),(fun _ _ _ _=>trivial),(fun _ _ _ _=>trivial),(fun _ _ _ _=>trivial),trivial⟩ rfl rfl rfl rfl) rfl ?_
  refine ad aa 2 rfl ?_
  refine af ?_
  refine az ?_
  have hX:dP b d=((⟨b.time,b.down,jcards,jdue,(b.ax).set (Int.toNat (d.n)) b0,js0,js1,b.n0,b.n1,b.w0,b.w1,b.aX,l218,jbook⟩:Bk),(⟨e218,0⟩:Answer)):=by
    unfold dP;simp only [hdn,Bool.false_eq_true,if_false];rw [if_neg (by omega),hx1];dsimp only;simp only [hr0,hj0];unfold pc dy;simp only [hr18];(repeat' split)<;>first|rfl|omega|(exfalso;omega)|(simp_all;done)|(simp_all;omega)
  rw [hX] at hr;clear hX
  simp only [Prod.mk.injEq] at hr;obtain ⟨rfl,rfl⟩:=hr
  refine an aa [0,18,19,20,21,5] 5 rfl rfl rfl rfl rfl rfl ?_ ?_
  all_goals first|rfl|(simp [aA,aY,bg];done)|(simp [aA,aY,bg];omega)
 refine fA (k:=8) (q:=4) (c':=(.s 15 0 8 (((b.ax).set (Int.toNat (d.n)) b0).length))) rfl rfl (by first|rfl|(simp;done)|(congr 1;omega)) rfl ?_
 refine aH aa 2 rfl ?_
 refine aR 22 [0,18,19,20,21,7,5] (cK (bb [0,8,9,10,11,12,13,14,15,17]) (bb [0,18,19,20,21]) (fX (x 17) (x 19) b (⟨b.time,b.down,jcards,jdue,(b.ax).set (Int.toNat (d.n)) b0,js0,js1,b.n0,b.n1,b.w0,b.w1,b.aX,l218,jbook⟩:Bk) e218 (by first|assumption|omega)) fI rfl rfl ⟨⟨_,rfl,.inl ⟨rfl,rfl⟩⟩,⟨_,rfl,.inl ⟨rfl,rfl⟩⟩,trivial⟩ ⟨rfl,rfl,rfl,rfl,rfl,rfl,rfl,rfl,rfl,rfl,trivial⟩ rfl rfl rfl rfl rfl rfl trivial ⟨⟨trivial,trivial,trivial,trivial,trivial,trivial,trivial,trivial,trivial,trivial,trivial,trivial,trivial,trivial,trivial,trivial,trivial,trivial,trivial,trivial,trivial⟩,(fun _ _ _ _=>trivial),(fun _ _ _ _=>trivial),(fun _ _ _ _=>trivial),(fun _ _ _ _=>trivial),trivial⟩ rfl rfl rfl rfl) rfl ?_
 refine ad aa 2 rfl ?_
 refine af ?_
 refine az ?_
 have hX:dP b d=(b,(⟨e218,0⟩:Answer)):=by
   unfold dP;simp only [hdn,Bool.false_eq_true,if_false];rw [if_neg (by omega),hx1];dsimp only;simp only [hr0,hj0];unfold pc dy;simp only [hr18];(repeat' split)<;>first|rfl|omega|(exfalso;omega)|(simp_all;done)|(simp_all;omega)
 rw [hX] at hr;clear hX
 simp only [Prod.mk.injEq] at hr;obtain ⟨rfl,rfl⟩:=hr
 refine an aa [0,18,19,20,21,5] 5 rfl rfl rfl rfl rfl rfl ?_ ?_
 all_goals first|rfl|(simp [aA,aY,bg];done)|(simp [aA,aY,bg];omega)
theorem Ae (x:Nat->Value) (hx:∀ i,(x i).oneCell'=true) (b:Bk) (d:bh) (ok:cu b) (hdn:b.down=true) (b2:Bk) (a2:Answer) (hr:dP b d=(b2,a2)):cJ Try.prog 64 [(.c (.p 0 0 0 0)),(.c (.q (cY d) 0))] [(0,(.box 98 (aY b 1 2 3 4 (.d (.v (x 17))) (.d (.v (x 19)))))),(1,(dN b.aq)),(2,(dD b.due)),(3,(dS b.ax)),(4,(cS b.aS))] [0] (.v (.g [cI a2.err,cI a2.ba])) [(0,(.box 98 (aY b2 1 2 3 4 (.d (.v (x 17))) (.d (.v (x 19)))))),(1,(dN b2.aq)),(2,(dD b2.due)),(3,(dS b2.ax)),(4,(cS b2.aS))]:=by
 refine cJ.mk 246 [(0,(aC (.p 0 0 0 0))),(1,(aC (.q (cY d) 0)))] 5 Try.func64 rfl rfl rfl rfl rfl rfl rfl rfl rfl ?_
 intro W0 F0 T0 pg
 obtain ⟨okt,okc,okd,oka,oky,okw0,okw1,okp,okv,okk0,okk1,okg,okl0,okl1,okp0,okp1,okn0,okn1,okq⟩:=id ok
 refine ae aa 1 rfl ?_
 refine ag ?_
 refine ae aa 5 rfl ?_
 refine aj rfl (fun _=>?_) (fun hno=>absurd (hdn.symm.trans hno) (by decide))
 refine ae aa 2 rfl ?_
 refine az ?_
 refine ar ?_
 have hX:dP b d=(b,(⟨12,0⟩:Answer)):=by
   unfold dP;rw [if_pos hdn]
 rw [hX] at hr;clear hX
 simp only [Prod.mk.injEq] at hr;obtain ⟨rfl,rfl⟩:=hr
 refine an aa [0,1,2,3,4,5] 5 rfl rfl rfl rfl rfl rfl ?_ ?_
 all_goals first|rfl|(simp [aA,aY,bg];done)|(simp [aA,aY,bg];omega)
theorem BO (x:Nat->Value) (hx:∀ i,(x i).oneCell'=true) (b:Bk) (d:bh) (ok:cu b) (b2:Bk) (a2:Answer) (hr:dP b d=(b2,a2)):cJ Try.prog 64 [(.c (.p 0 0 0 0)),(.c (.q (cY d) 0))] [(0,(.box 98 (aY b 1 2 3 4 (.d (.v (x 17))) (.d (.v (x 19)))))),(1,(dN b.aq)),(2,(dD b.due)),(3,(dS b.ax)),(4,(cS b.aS))] [0] (.v (.g [cI a2.err,cI a2.ba])) [(0,(.box 98 (aY b2 1 2 3 4 (.d (.v (x 17))) (.d (.v (x 19)))))),(1,(dN b2.aq)),(2,(dD b2.due)),(3,(dS b2.ax)),(4,(cS b2.aS))]:=by
  cases hdn:b.down
  ·exact Ad x hx b d ok hdn b2 a2 hr
  ·exact Ae x hx b d ok hdn b2 a2 hr
theorem gd {α:Type} {l:List α} {n:Nat} {x y:α} (h:y∈l.set n x):y∈l\/y=x:=List.mem_or_eq_of_mem_set h
theorem jx {l:List bI} {e k x y:Int} (h:∀ c∈l,cZ c=0):∀ c∈(cH l e k x y).1,cZ c=0:=by
 unfold cH
 split
 ·exact h
 ·rename_i c hc
  split
  ·rename_i h0
   intro z hz
   rcases gd hz with hz|rfl
   ·exact h z hz
   ·have he:(ec c x y).2=0:=by unfold dz at h0;split at h0<;>omega
    rcases qa (show ec c x y=((ec c x y).1,(ec c x y).2) from rfl) with ⟨h1,_⟩|h1
    ·exact absurd he h1
    ·exact h1.2.2.2.2.2.2.2
  ·exact h
theorem uS {time:Int} {n m:Nat}:∀ (l:List bH) (i:Nat) (aq:List bI) (ax:List bH) (e:Int),(∀ a∈l,bK a=0/\0<=a.aO/\a.aO < n/\0<=a.aD/\a.aD < m)->
  (∀ a∈ax,bK a=0/\0<=a.aO/\a.aO < n/\0<=a.aD/\a.aD < m)->(∀ c∈aq,cZ c=0)->
  (∀ c∈(fK time l i aq ax e).1,cZ c=0)/\(fK time l i aq ax e).1.length=aq.length/\(fK time l i aq ax e).2.1.length=ax.length/\
  (∀ a∈(fK time l i aq ax e).2.1,bK a=0/\0<=a.aO/\a.aO < n/\0<=a.aD/\a.aD < m)
 |[],_,_,_,_,_,h2,h3=>⟨h3,rfl,rfl,h2⟩
 |a::l,i,aq,ax,e,h1,h2,h3=>by
  have ha:=h1 a List.mem_cons_self
  obtain ⟨r1,r2,r3,r4⟩:=uS l (i+1) (cH aq e a.aO (bP (eh a time) - bP a) 0).1 (ax.set i (eh a time)) (cH aq e a.aO (bP (eh a time) - bP a) 0).2
   (fun x hx=>h1 x (List.mem_cons_of_mem _ hx)) (fun x hx=>by
    rcases gd hx with hx|rfl
    ·exact h2 x hx
    ·exact ⟨xc ha.1,ha.2⟩) (jx h3)
  refine ⟨r1,r2.trans (fg _ _ _ _ _),r3.trans (List.length_set ..),r4⟩
theorem cu.late {b:Bk} (h:cu b):cu (gV b):=by
 unfold gV
 split
 ·obtain ⟨r1,r2,r3,r4⟩:=uS (time:=b.time) (n:=b.aq.length) (m:=b.due.length) b.ax 0 b.aq b.ax 0 h.perm h.perm h.right
  exact ⟨h.time,by rw [r2];exact h.aq,h.due,by rw [r3];exact h.ax,h.aS,h.w0,h.w1,by dsimp only;rw [r2];exact r4,by dsimp only;rw [r2];exact h.js,by dsimp only;rw [r3];exact h.k0,by dsimp only;rw [r3];exact h.k1,r1,h.l0,h.l1,by dsimp only;rw [r3];exact h.p0,by dsimp only;rw [r3];exact h.p1,h.n0,h.n1,h.calm⟩
 ·exact h
theorem cu.dy {b c:Bk} {e:Int} (h:cu b) (hc:e=0->cu c):cu (dy b c e).1:=by
 unfold Dev.dy;split
 ·exact hc (by assumption)
 ·exact h
theorem fL {e x:Int} (h:dz e x=0):e=0/\x=0:=by unfold dz at h;split at h<;>omega
theorem jF {l:List Entry} {e s d n:Int} (h:(dX l e s d n).2=0):e=0/\(jG l s d n).2=0/\(dX l e s d n).1=(jG l s d n).1:=by
 unfold dX at h ⊢
 split at h
 ·rename_i h1;rw [if_pos h1];have:=fL h1;exact ⟨this.1,this.2,rfl⟩
 ·rename_i h1;exact absurd h h1
theorem cu.zX {b:Bk} (h:cu b) {cs:List bI} {bk:List Entry} (h1:∀ c∈cs,cZ c=0) (h2:cs.length=b.aq.length):cu {b with aq:=cs,book:=bk}:=
 ⟨h.time,by rw [h2];exact h.aq,h.due,h.ax,h.aS,h.w0,h.w1,by dsimp only;rw [h2];exact h.perm,by dsimp only;rw [h2];exact h.js,h.k0,h.k1,h1,h.l0,h.l1,h.p0,h.p1,h.n0,h.n1,h.calm⟩
theorem cu.load {b:Bk} (h:cu b) (d:bh):cu (fP b d).1:=by
 unfold fP
 split
 ·exact h
 split
 ·exact h
 ·exact h.dy fun _=>h.zX (jx h.right) (fg _ _ _ _ _)
theorem cu.CW {b:Bk} (h:cu b) {due:List Int} {bk:List Entry} (h2:due.length=b.due.length):cu {b with due:=due,book:=bk}:=
 ⟨h.time,h.aq,by rw [h2];exact h.due,h.ax,h.aS,h.w0,h.w1,by dsimp only;rw [h2];exact h.perm,by dsimp only;rw [h2];exact h.js,h.k0,h.k1,h.right,h.l0,h.l1,h.p0,h.p1,h.n0,h.n1,h.calm⟩
theorem cu.uI {b:Bk} (h:cu b) (d:bh):cu (gZ b d).1:=by
 unfold gZ
 split
 ·exact h
 split
 ·exact h
 ·exact h.dy fun _=>h.CW (List.length_set ..)
theorem cu.cE {b:Bk} (h:cu b) (d:bh):cu (fo b d).1:=by
 unfold fo
 split
 ·exact h
 ·have h1:cu {b with time:=b.time+d.sum}:=by have:=h.time;exact h.tick (by omega) (by omega)
  dsimp only
  split
  ·exact h1
  ·exact h1.late
theorem sO {l:List cq} {ks:List bu} {n:Int} {p:cq} (h:p∈lU l ks n):p∈l\/(∃ t∈ks,p=⟨t,-1⟩)\/p=⟨⟨0,0,0,0⟩,n⟩:=by
 unfold lU at h
 simp only [List.mem_append,List.mem_map,List.mem_singleton] at h
 rcases h with (h|⟨t,ht,rfl⟩)|h
 ·exact .inl h
 ·exact .inr (.inl ⟨t,ht,rfl⟩)
 ·exact .inr (.inr h)
structure xx (b:Bk) (n:Nat) (w:List cq):Prop where
 len:w.length<=60
 own:∀ p∈w,p.seen < 0->eY p.ck.number/\0<=p.ck.ba/\p.ck.ba < n
theorem cu.ways {b:Bk} (h:cu b) {v0 v1:List cq} (h0:xx b b.ax.length v0) (h1:xx b b.ax.length v1):cu {b with w0:=v0,w1:=v1}:=
 ⟨h.time,h.aq,h.due,h.ax,h.aS,h0.len,h1.len,h.perm,h.js,h.k0,h.k1,h.right,h.l0,h.l1,h0.own,h1.own,h.n0,h.n1,h.calm⟩
theorem uu {b:Bk} {w:List cq} {ks:List bu} {n:Int} (hn:0<=n) (h:xx b b.ax.length w) (hk:∀ t∈ks,eY t.number/\0<=t.ba/\t.ba < b.ax.length):xx b b.ax.length (jy w ks n).1:=by
 unfold jy
 split
 ·exact h
 ·refine ⟨by dsimp only;omega,fun p hp hs=>?_⟩
  rcases sO hp with hp|⟨t,ht,rfl⟩|rfl
  ·exact h.own p hp hs
  ·exact hk t ht
  ·simp at hs;omega
theorem cu.send {b:Bk} (h:cu b) (d:bh):cu {b with w0:=(eR b.s0 b.s1 b.n0 b.n1 b.w0 b.w1 d).1,w1:=(eR b.s0 b.s1 b.n0 b.n1 b.w0 b.w1 d).2.1}:=by
 have h0:xx b b.ax.length b.w0:=⟨h.w0,h.p0⟩
 have h1:xx b b.ax.length b.w1:=⟨h.w1,h.p1⟩
 unfold eR
 split
 ·exact h.ways h0 (uu h.n0 h1 h.k0)
 split
 ·exact h.ways (uu h.n1 h0 h.k1) h1
 ·exact h.ways h0 h1
theorem uv {s:ca} {e:Int} {t:bu} {n:Nat} (h:∀ t∈s.kept,eY t.number/\0<=t.ba/\t.ba < n) (hl:s.kept.length<=40) (ht:0<=t.ba/\t.ba < n):
  (∀ u∈(eH s e t).1.kept,eY u.number/\0<=u.ba/\u.ba < n)/\(eH s e t).1.kept.length<=40:=by
 unfold eH
 split
 ·rename_i h0
  have he:=(fL h0).2
  unfold gq at he
  split at he
  ·rename_i h1;exact absurd he h1
  split at he
  ·rename_i h1;exact absurd he h1
  ·rename_i h1 h2
   have hp:(gq s t).1=lA s t:=by unfold gq;rw [if_neg h1,if_neg h2]
   have hw:(cP (lA s t)).err=0:=by omega
   have hr:=uB hw
   dsimp only
   rw [hp]
   refine ⟨fun x hx=>?_,hr.1⟩
   rcases List.mem_append.1 hx with hx|hx
   ·exact h x hx
   ·obtain rfl:=List.mem_singleton.1 hx
    exact ⟨by have:=hr.2.1;have:=hr.2.2.1;constructor<;>simp only [lA,List.length_append] at *<;>omega,ht⟩
 ·exact ⟨h,hl⟩
theorem zn {l:List al} {e:Int} {r:al} (h:l.length<=100):(iM l e r).1.length<=100:=by
 unfold iM
 split
 ·exact h
 ·rw [List.length_append,List.length_singleton];omega
theorem xU {l:List al} {e:Int} {r:al} (h:(iM l e r).2=0):e=0/\l.length≠100/\(iM l e r).1=l++[r]:=by
 unfold iM at h ⊢
 split at h
 ·have:=(fL h).2;omega
 ·rename_i h1;rw [if_neg h1];exact ⟨h,h1,rfl⟩
structure nP (n:Nat) (s:ca):Prop where
 own:∀ t∈s.kept,eY t.number/\0<=t.ba/\t.ba < n
 len:s.kept.length<=40
theorem cu.sZ {b:Bk} (h:cu b):nP b.ax.length b.s0:=⟨h.k0,h.l0⟩
theorem cu.sY {b:Bk} (h:cu b):nP b.ax.length b.s1:=⟨h.k1,h.l1⟩
theorem nP.send {n:Nat} {s:ca} {e:Int} {t:bu} (h:nP n s) (ht:0<=t.ba/\t.ba < n):nP n (eH s e t).1:=⟨(uv h.own h.len ht).1,(uv h.own h.len ht).2⟩
theorem BF {b:Bk} (h:cu b) (a cG:bH) (d:bh) (hn:0<=d.n/\d.n < b.ax.length):
  (∀ c∈(dU b a cG d).1,cZ c=0)/\(dU b a cG d).1.length=b.aq.length/\(dU b a cG d).2.1.length=b.due.length/\
  nP b.ax.length (dU b a cG d).2.2.2.1/\nP b.ax.length (dU b a cG d).2.2.2.2.1:=by
 unfold dU
 have hc:∀ e k x y,(∀ c∈(cH b.aq e k x y).1,cZ c=0)/\(cH b.aq e k x y).1.length=b.aq.length:=fun e k x y=>⟨jx h.right,fg _ _ _ _ _⟩
 split
 ·exact ⟨(hc ..).1,(hc ..).2,rfl,h.sZ,h.sY⟩
 split
 ·exact ⟨(hc ..).1,(hc ..).2,rfl,h.sZ.send hn,h.sY⟩
 split
 ·exact ⟨h.right,rfl,List.length_set ..,h.sZ,h.sY.send hn⟩
 split
 ·exact ⟨(hc ..).1,(hc ..).2,rfl,h.sZ,h.sY⟩
 split
 ·exact ⟨h.right,rfl,rfl,h.sZ.send hn,h.sY⟩
 split
 ·exact ⟨(hc ..).1,(hc ..).2,rfl,h.sZ,h.sY⟩
 ·exact ⟨h.right,rfl,rfl,h.sZ,h.sY⟩
theorem cu.lG {b:Bk} (h:cu b) (d:bh):cu (dP b d).1:=by
 unfold dP
 split
 ·exact h
 split
 ·exact h
 rename_i hd hn
 have hn:0<=d.n/\d.n < b.ax.length:=by omega
 split
 ·exact h
 rename_i cG ho
 split
 ·exact h
 rename_i hm
 split
 ·exact h
 have hm:cv cG d.move d.sum=((cv cG d.move d.sum).1,0):=Prod.ext rfl (by dsimp only;omega)
 obtain ⟨m1,m2,m3,m4,_⟩:=mv hm
 obtain ⟨r1,r2,r3,r4,r5⟩:=BF h (cv cG d.move d.sum).1 cG d hn
 have hp:=h.perm cG (List.mem_of_getElem? ho)
 unfold pc
 refine h.dy fun _=>⟨h.time,by rw [r2];exact h.aq,by rw [r3];exact h.due,by rw [List.length_set];exact h.ax,zn h.aS,h.w0,h.w1,fun a ha=>?_,by dsimp only;rw [r2,r3];exact h.js,by dsimp only;rw [List.length_set];exact r4.own,by dsimp only;rw [List.length_set];exact r5.own,r1,r4.len,r5.len,by dsimp only;rw [List.length_set];exact h.p0,by dsimp only;rw [List.length_set];exact h.p1,h.n0,h.n1,h.calm⟩
 dsimp only
 rw [r2,r3]
 rcases gd ha with ha|rfl
 ·exact h.perm a ha
 ·exact ⟨m2,by rw [m3,m4];exact hp.2⟩
theorem oo {aO aD n time:Int} (h:(dq aO aD n time).2=0):bK (dq aO aD n time).1=0/\(dq aO aD n time).1=⟨aO,aD,n,0,0,0,time+100,false⟩/\¬(n < 1\/n > 1000000\/time < 0\/time > 1000000\/aO < 0\/aO > 7\/aD < 0\/aD > 7):=by
 unfold dq at h ⊢
 split at h
 ·cases h
 ·rename_i h1;rw [if_neg h1];exact ⟨qO (by dsimp only;omega),rfl,h1⟩
theorem Bh {s:cC} {a:cj} (h:(ct s a).2=0):(ct s a).1.aQ=s.aQ++[a]:=by
 unfold ct at h ⊢
 split at h
 ·rename_i h1;exact absurd h h1
 split at h
 ·cases h
 split at h
 ·cases h
 split at h
 ·cases h
 ·rename_i h1 h2 h3 h4;rw [if_neg h1,if_neg h2,if_neg h3,if_neg h4]
theorem rl {e:Int} (h:gF e=0):e=0:=by unfold gF at h;split at h<;>omega
theorem cu.asks {b:Bk} (h:cu b) (d:bh):cu (dG b d).1:=by
 unfold dG
 split
 ·exact h
 rename_i hn
 have hlen:∀ a∈b.aX.aQ++[(⟨d.n,d.aD,d.sum,b.time⟩:cj)],0<=a.aO/\a.aO < b.aq.length/\0<=a.aD/\a.aD < b.due.length:=fun a ha=>by
  rcases List.mem_append.1 ha with ha|ha
  ·exact h.js a ha
  ·obtain rfl:=List.mem_singleton.1 ha;dsimp only;omega
 split
 ·split
  ·exact h
  split
  ·exact h
  rename_i h1 h2
  have he:=rl (show gF (ct b.aX ⟨d.n,d.aD,d.sum,b.time⟩).2=0 by omega)
  have hg:=Bh he
  exact ⟨h.time,h.aq,h.due,by dsimp only;omega,h.aS,h.w0,h.w1,h.perm,by dsimp only;rw [hg];exact hlen,h.k0,h.k1,h.right,h.l0,h.l1,h.p0,h.p1,h.n0,h.n1,fun hf=>by dsimp only at hf;simp_all⟩
 split
 ·exact h
 split
 ·exact h
 split
 ·exact h
 rename_i h1 h2 h3 c hc
 split
 ·exact h
 rename_i h4
 obtain ⟨w1,w2,w3⟩:=oo (show (dq d.n d.aD d.sum b.time).2=0 by omega)
 have hcr:cZ (dR c d.sum b.time).1=0:=by
  rcases qx (show dR c d.sum b.time=((dR c d.sum b.time).1,(dR c d.sum b.time).2) from rfl) with ⟨h5,_⟩|⟨h5,h6,h7,h8,h9,h10,h11,l,h12,h13⟩
  ·exact absurd h5 (by omega)
  ·rw [h13];have hr:=iY h6;exact oT (by dsimp only;omega) hr.2.2.2.2.1 (Al h12)
 have hq:=h.calm (by cases hd:b.down with|true=>exact absurd hd (by assumption)|false=>rfl)
 have hl:b.ax.length+1<=30:=by have:=h.ax;rw [hq] at this;simp only [List.length_nil] at this;omega
 have hk:∀ {n:Int},n < (b.ax.length:Int)->n < ((b.ax++[(dq d.n d.aD d.sum b.time).1]).length:Int):=fun hn=>by rw [List.length_append,List.length_singleton];omega
 refine ⟨h.time,by rw [List.length_set];exact h.aq,h.due,by dsimp only;rw [hq,List.length_append,List.length_singleton];exact hl,h.aS,h.w0,h.w1,fun a ha=>?_,by dsimp only;rw [List.length_set];exact h.js,
  fun t ht=>⟨(h.k0 t ht).1,(h.k0 t ht).2.1,hk (h.k0 t ht).2.2⟩,fun t ht=>⟨(h.k1 t ht).1,(h.k1 t ht).2.1,hk (h.k1 t ht).2.2⟩,fun x hx=>?_,h.l0,h.l1,
  fun p hp hs=>⟨(h.p0 p hp hs).1,(h.p0 p hp hs).2.1,hk (h.p0 p hp hs).2.2⟩,fun p hp hs=>⟨(h.p1 p hp hs).1,(h.p1 p hp hs).2.1,hk (h.p1 p hp hs).2.2⟩,h.n0,h.n1,h.calm⟩
 ·dsimp only at ha ⊢
  rw [List.length_set]
  rcases List.mem_append.1 ha with ha|ha
  ·exact h.perm a ha
  ·obtain rfl:=List.mem_singleton.1 ha
   exact ⟨w1,by rw [w2];dsimp only;omega⟩
 ·rcases gd hx with hx|rfl
  ·exact h.right x hx
  ·exact hcr
theorem sX {α:Type} {p:α->Bool} {l:List α} {x:α} (h:x∈dH p l):x∈l:=(List.mem_filter.1 h).1
theorem nP.back {n:Nat} {s:ca} (h:nP n s) {seen:Int} (hb:(ea s seen).2=0):nP n (ea s seen).1:=by
 rcases pf (show ea s seen=((ea s seen).1,(ea s seen).2) from rfl) with ⟨h1,_⟩|⟨_,_,_,_,h2⟩
 ·exact absurd hb h1
 ·rw [h2];exact ⟨fun t ht=>h.own t (sX ht),Nat.le_trans (List.length_filter_le ..) h.len⟩
theorem ud {ax:List bH} {due:List Int} {aq:List bI} {book:List Entry} {e:Int} {t:bu} (h:∀ c∈aq,cZ c=0):
  (eG ax due aq book e t).1.length=due.length/\(∀ c∈(eG ax due aq book e t).2.1,cZ c=0)/\(eG ax due aq book e t).2.1.length=aq.length:=by
 unfold eG
 split
 ·exact ⟨rfl,h,rfl⟩
 split
 ·exact ⟨List.length_set ..,h,rfl⟩
 split
 ·exact ⟨rfl,jx h,fg _ _ _ _ _⟩
 split
 ·exact ⟨List.length_set ..,h,rfl⟩
 ·exact ⟨rfl,h,rfl⟩
theorem mS {n:Int} {t:bu} (h:0<=n):0<=(ia n t).1:=by unfold ia;split<;>(dsimp only;omega)
theorem vq {α:Type} {l:List α} {n:Nat} {x:α} (h:x∈l.drop n):x∈l:=List.mem_of_mem_drop h
theorem cu.bJ {b:Bk} (h:cu b) {cs:List bI} {due:List Int} {bk:List Entry} (h1:∀ c∈cs,cZ c=0) (h2:cs.length=b.aq.length) (h3:due.length=b.due.length):cu {b with aq:=cs,due:=due,book:=bk}:=
 ⟨h.time,by rw [h2];exact h.aq,by rw [h3];exact h.due,h.ax,h.aS,h.w0,h.w1,by dsimp only;rw [h2,h3];exact h.perm,by dsimp only;rw [h2,h3];exact h.js,h.k0,h.k1,h1,h.l0,h.l1,h.p0,h.p1,h.n0,h.n1,h.calm⟩
theorem cu.xB {b:Bk} (h:cu b):cu {b with w0:=b.w0.drop 1}:=
 ⟨h.time,h.aq,h.due,h.ax,h.aS,by dsimp only;rw [List.length_drop];have:=h.w0;omega,h.w1,h.perm,h.js,h.k0,h.k1,h.right,h.l0,h.l1,fun p hp=>h.p0 p (vq hp),h.p1,h.n0,h.n1,h.calm⟩
theorem cu.xA {b:Bk} (h:cu b):cu {b with w1:=b.w1.drop 1}:=
 ⟨h.time,h.aq,h.due,h.ax,h.aS,h.w0,by dsimp only;rw [List.length_drop];have:=h.w1;omega,h.perm,h.js,h.k0,h.k1,h.right,h.l0,h.l1,h.p0,fun p hp=>h.p1 p (vq hp),h.n0,h.n1,h.calm⟩
theorem cu.Fe {b:Bk} (h:cu b) {s:ca} (hs:nP b.ax.length s):cu {b with s0:=s}:=
 ⟨h.time,h.aq,h.due,h.ax,h.aS,h.w0,h.w1,h.perm,h.js,hs.own,h.k1,h.right,hs.len,h.l1,h.p0,h.p1,h.n0,h.n1,h.calm⟩
theorem cu.Fc {b:Bk} (h:cu b) {s:ca} (hs:nP b.ax.length s):cu {b with s1:=s}:=
 ⟨h.time,h.aq,h.due,h.ax,h.aS,h.w0,h.w1,h.perm,h.js,h.k0,hs.own,h.right,h.l0,hs.len,h.p0,h.p1,h.n0,h.n1,h.calm⟩
theorem cu.Ci {b:Bk} (h:cu b) {n:Int} (hn:0<=n):cu {b with n0:=n}:=
 ⟨h.time,h.aq,h.due,h.ax,h.aS,h.w0,h.w1,h.perm,h.js,h.k0,h.k1,h.right,h.l0,h.l1,h.p0,h.p1,hn,h.n1,h.calm⟩
theorem cu.Ch {b:Bk} (h:cu b) {n:Int} (hn:0<=n):cu {b with n1:=n}:=
 ⟨h.time,h.aq,h.due,h.ax,h.aS,h.w0,h.w1,h.perm,h.js,h.k0,h.k1,h.right,h.l0,h.l1,h.p0,h.p1,h.n0,hn,h.calm⟩
theorem cu.BU {b:Bk} (h:cu b) (d:bh):cu (fT b d).1:=by
 unfold fT
 split
 ·exact h
 split
 ·exact h.xB
 split
 ·split
  ·rename_i hb;exact h.xB.Fe (h.sZ.back hb)
  ·exact h
 split
 ·obtain ⟨r1,r2,r3⟩:=ud (ax:=b.ax) (due:=b.due) (book:=b.book) (e:=0) (t:=(by assumption:cq).ck) h.right
  exact h.dy fun _=>(h.xB.Ci (mS h.n0)).bJ r2 r3 r1
 ·exact h.xB.Ci (mS h.n0)
theorem cu.BS {b:Bk} (h:cu b) (d:bh):cu (fS b d).1:=by
 unfold fS
 split
 ·exact h
 split
 ·exact h.xA
 split
 ·split
  ·rename_i hb;exact h.xA.Fc (h.sY.back hb)
  ·exact h
 split
 ·obtain ⟨r1,r2,r3⟩:=ud (ax:=b.ax) (due:=b.due) (book:=b.book) (e:=0) (t:=(by assumption:cq).ck) h.right
  exact h.dy fun _=>(h.xA.Ch (mS h.n1)).bJ r2 r3 r1
 ·exact h.xA.Ch (mS h.n1)
theorem cu.lH {b:Bk} (h:cu b) (d:bh):cu (cw b d).1:=by
 unfold cw
 split
 ·exact h.BU d
 split
 ·exact h.BS d
 ·exact h
theorem oA {c:bI} {n:Int} (h:(eP c n).2=0):cZ (eP c n).1=0/\(eP c n).1=⟨c.bJ,c.held+n,c.bU,c.cW⟩/\cZ c=0/\1<=n/\n<=1000000:=by
 unfold eP at h ⊢
 split at h
 ·rename_i h1;exact absurd h h1
 split at h
 ·cases h
 ·rename_i h1 h2
  rw [if_neg h1,if_neg h2]
  have hw:cZ c=0:=by omega
  have hr:=iY hw
  exact ⟨oT (by dsimp only;omega) hr.2.2.2.2.1 hr.2.2.2.2.2,rfl,hw,by omega,by omega⟩
theorem yO {n m:Nat}:∀ (l:List cj) (cs:List bI) (xs:List bH),(∀ a∈l,0<=a.aO/\a.aO < n/\0<=a.aD/\a.aD < m)->cs.length=n->
  (∀ a∈xs,bK a=0/\0<=a.aO/\a.aO < n/\0<=a.aD/\a.aD < m)->(∀ c∈cs,cZ c=0)->
  (∀ c∈(gi l cs xs).1,cZ c=0)/\(gi l cs xs).1.length=n/\(∀ a∈(gi l cs xs).2.1,bK a=0/\0<=a.aO/\a.aO < n/\0<=a.aD/\a.aD < m)/\xs.length<=(gi l cs xs).2.1.length/\(gi l cs xs).2.1.length<=xs.length+l.length
 |[],cs,xs,_,h2,h3,h4=>⟨h4,h2,h3,Nat.le_refl _,Nat.le_refl _⟩
 |x::l,cs,xs,h1,h2,h3,h4=>by
  unfold gi
  split
  ·exact ⟨h4,h2,h3,Nat.le_refl _,by dsimp only;omega⟩
  rename_i e1
  split
  ·exact ⟨h4,h2,h3,Nat.le_refl _,by dsimp only;omega⟩
  rename_i c hc
  split
  ·exact ⟨h4,h2,h3,Nat.le_refl _,by dsimp only;omega⟩
  rename_i e2
  have hx:=h1 x List.mem_cons_self
  obtain ⟨w1,w2,w3⟩:=oo (show (dq x.aO x.aD x.sum x.time).2=0 by omega)
  obtain ⟨f1,_⟩:=oA (show (eP c x.sum).2=0 by omega)
  obtain ⟨r1,r2,r3,r4,r5⟩:=yO l (cs.set x.aO.toNat (eP c x.sum).1) (xs++[(dq x.aO x.aD x.sum x.time).1]) (fun a ha=>h1 a (List.mem_cons_of_mem _ ha)) ((List.length_set ..).trans h2)
   (fun a ha=>by
    rcases List.mem_append.1 ha with ha|ha
    ·exact h3 a ha
    ·obtain rfl:=List.mem_singleton.1 ha;exact ⟨w1,by rw [w2];exact hx⟩)
   (fun z hz=>by
    rcases gd hz with hz|rfl
    ·exact h4 z hz
    ·exact f1)
  rw [List.length_append,List.length_singleton] at r4 r5
  exact ⟨r1,r2,r3,by omega,by rw [List.length_cons];omega⟩
theorem qv {s:cC} (h:(dd s).2.2=0):bW s=0/\(dd s).1=⟨s.cap,List.replicate s.used.length 0,[]⟩/\(dd s).2.1=s.aQ:=by
 unfold dd at h ⊢
 split at h
 ·rename_i h1;exact absurd h h1
 ·rename_i h1;rw [if_neg h1];exact ⟨by omega,rfl,rfl⟩
theorem cu.Aw {b:Bk} (h:cu b) (h1:(dd b.aX).2.2=0):cu {b with aq:=(gi (dd b.aX).2.1 b.aq b.ax).1,ax:=(gi (dd b.aX).2.1 b.aq b.ax).2.1,aX:=(dd b.aX).1,down:=false}:=by
 obtain ⟨_,c1,c2⟩:=qv h1
 rw [c1,c2]
 obtain ⟨r1,r2,r3,r4,r5⟩:=yO b.aX.aQ b.aq b.ax h.js rfl h.perm h.right
 have hk:∀ {n:Int},n < (b.ax.length:Int)->n < ((gi b.aX.aQ b.aq b.ax).2.1.length:Int):=fun hn=>by omega
 exact ⟨h.time,by rw [r2];exact h.aq,h.due,by have:=h.ax;simp only [List.length_nil];omega,h.aS,h.w0,h.w1,by dsimp only;rw [r2];exact r3,fun a ha=>by simp at ha,
  fun t ht=>⟨(h.k0 t ht).1,(h.k0 t ht).2.1,hk (h.k0 t ht).2.2⟩,fun t ht=>⟨(h.k1 t ht).1,(h.k1 t ht).2.1,hk (h.k1 t ht).2.2⟩,r1,h.l0,h.l1,
  fun p hp hs=>⟨(h.p0 p hp hs).1,(h.p0 p hp hs).2.1,hk (h.p0 p hp hs).2.2⟩,fun p hp hs=>⟨(h.p1 p hp hs).1,(h.p1 p hp hs).2.1,hk (h.p1 p hp hs).2.2⟩,h.n0,h.n1,fun _=>rfl⟩
theorem Az {l:List cj} {q:Nat} {x:cj} {cs:List bI} {xs:List bH} {a:bH} {e1 e2:Int} (h:l[q]?=some x) (hn:dq x.aO x.aD x.sum x.time=(a,e1)) (hf:dz 0 e1=e2) (he:¬e2=0):gi (l.drop q) cs xs=(cs,xs,e2):=by
 rw [pW h,hn]
 have:e1=e2:=by unfold dz at hf;rw [if_pos rfl] at hf;exact hf
 subst this
 rw [if_pos he]
theorem Ay {l:List cj} {q:Nat} {x:cj} {cs:List bI} {xs:List bH} {a:bH} {c k:bI} {e1 e3 e4:Int} (h:l[q]?=some x) (hn:dq x.aO x.aD x.sum x.time=(a,e1)) (hf1:dz 0 e1=0) (hc:cs[x.aO.toNat]?=some c)
  (hF:eP c x.sum=(k,e3)) (hf:dz 0 e3=e4) (he:¬e4=0):gi (l.drop q) cs xs=(cs,xs,e4):=by
 rw [pW h,hn,hc]
 have h1:e1=0:=(fL hf1).2
 have:e3=e4:=by unfold dz at hf;rw [if_pos rfl] at hf;exact hf
 subst this h1
 dsimp only
 rw [if_neg (by simp),hF,if_pos he]
theorem Ax {l:List cj} {q:Nat} {x:cj} {cs:List bI} {xs:List bH} {a:bH} {c k:bI} {e1 e3:Int} (h:l[q]?=some x) (hn:dq x.aO x.aD x.sum x.time=(a,e1)) (hf1:dz 0 e1=0) (hc:cs[x.aO.toNat]?=some c)
  (hF:eP c x.sum=(k,e3)) (hf:dz 0 e3=0):gi (l.drop q) cs xs=gi (l.drop (q+1)) (cs.set x.aO.toNat k) (xs++[a]):=by
 rw [pW h,hn,hc]
 have h1:e1=0:=(fL hf1).2
 have h3:e3=0:=(fL hf).2
 subst h3 h1
 dsimp only
 rw [if_neg (by simp),hF,if_neg (by simp)]
theorem CA {l:List cj} {q:Nat} {cs:List bI} {xs:List bH} (h:¬q < l.length):gi (l.drop q) cs xs=(cs,xs,0):=by
 rw [List.drop_of_length_le (by omega)];rfl
theorem yP {b:Bk} {s:cC} {l:List cj} {cs:List bI} {xs:List bH} {e:Int} (hd:b.down=true) (h:dd b.aX=(s,l,0)) (hL:gi l b.aq b.ax=(cs,xs,e)) (he:¬e=0):iV b=(b,⟨e,0⟩):=by
 unfold iV
 rw [if_neg (by rw [hd];simp),h]
 dsimp only
 rw [if_neg (by simp),hL]
 dsimp only
 rw [if_pos he]
theorem Di {b:Bk} {s:cC} {l:List cj} {cs:List bI} {xs:List bH} (hd:b.down=true) (h:dd b.aX=(s,l,0)) (hL:gi l b.aq b.ax=(cs,xs,0)):
  iV b=(gV {b with aq:=cs,ax:=xs,aX:=s,down:=false},⟨0,0⟩):=by
 unfold iV
 rw [if_neg (by rw [hd];simp),h]
 dsimp only
 rw [if_neg (by simp),hL]
 dsimp only
 rw [if_neg (by simp)]
theorem cu.EZ {b:Bk} (hb:cu b) {s:cC} {l:List cj} {cs:List bI} {xs:List bH} (h:dd b.aX=(s,l,0)) (hL:gi l b.aq b.ax=(cs,xs,0)):
  cu {b with aq:=cs,ax:=xs,aX:=s,down:=false}:=by
 have:=hb.Aw (by rw [h])
 rw [h] at this;dsimp only at this;rw [hL] at this;exact this
theorem cu.Dh {b:Bk} (h:cu b):cu (iV b).1:=by
 unfold iV
 split
 ·exact h
 split
 ·exact h
 split
 ·exact h
 ·exact (h.Aw (by omega)).late
theorem cu.qb {b:Bk} (h:cu b) {t:List al} (ht:t.length<=100):cu {b with aS:=t}:=
 ⟨h.time,h.aq,h.due,h.ax,ht,h.w0,h.w1,h.perm,h.js,h.k0,h.k1,h.right,h.l0,h.l1,h.p0,h.p1,h.n0,h.n1,h.calm⟩
theorem lV {t:List al} {y:List (List Int)} (h:t.length<=100):(iL t y).1.length<=100/\(iL t y).2.1.length<=y.length+1:=by
 unfold iL
 split
 ·exact ⟨h,Nat.le_succ _⟩
 ·exact ⟨by simp,by simp⟩
theorem cu.BE {b:Bk} (h:cu b) (y:List (List Int)) (d:bh):cu (fv b y d).1/\(fv b y d).2.1.length<=y.length+1:=by
 unfold fv
 split
 ·exact ⟨h.load d,Nat.le_succ _⟩
 split
 ·exact ⟨h.asks d,Nat.le_succ _⟩
 split
 ·exact ⟨h.lG d,Nat.le_succ _⟩
 split
 ·exact ⟨h.cE d,Nat.le_succ _⟩
 split
 ·exact ⟨h.send d,Nat.le_succ _⟩
 split
 ·exact ⟨h.lH d,Nat.le_succ _⟩
 split
 ·split
  ·exact ⟨h,Nat.le_succ _⟩
  ·exact ⟨⟨h.time,h.aq,h.due,h.ax,h.aS,h.w0,h.w1,h.perm,h.js,h.k0,h.k1,h.right,h.l0,h.l1,h.p0,h.p1,h.n0,h.n1,fun h=>by cases h⟩,Nat.le_succ _⟩
 split
 ·exact ⟨h.Dh,Nat.le_succ _⟩
 split
 ·exact ⟨h.qb (lV h.aS).1,(lV (y:=y) h.aS).2⟩
 split
 ·exact ⟨h.uI d,Nat.le_succ _⟩
 ·exact ⟨h,Nat.le_succ _⟩
theorem cu.once {b:Bk} (h:cu b) (y:List (List Int)) (told:List (Int×Answer)) (cl:Nat) (d:bh):cu (eC b y told cl d).1/\(eC b y told cl d).2.1.length<=y.length+1:=by
 unfold eC
 split
 ·exact ⟨h,Nat.le_succ _⟩
 ·exact h.BE y d
theorem sP:∀ {l:List eu} {i:Int},(oh l i).err=0->∀ p∈l,fu p=0
 |p::l,i,h,x,hx=>by
  unfold oh at h
  split at h
  ·rename_i h1;exact absurd h h1
  ·rename_i h1
   rcases List.mem_cons.1 hx with rfl|hx
   ·omega
   ·exact sP h x hx
theorem kJ {s:Setup} (h:(eE s).err=0):s.cQ.length<=8/\0<=s.eZ/\s.eZ<=8/\0<=s.cap/\s.cap<=1000000/\∀ p∈s.cQ,fu p=0:=by
 unfold eE at h
 split at h
 ·cases h
 split at h
 ·cases h
 ·exact ⟨by omega,by omega,by omega,by omega,by omega,sP h⟩
theorem cu.start {s:Setup} (h:(eE s).err=0):cu (iB s):=by
 obtain ⟨h1,h2,h3,h4,h5,h6⟩:=kJ h
 have hn:dA s.cap s.cQ.length=({cap:=s.cap,used:=List.replicate s.cQ.length 0,aQ:=[]},0):=pD h1 ⟨h4,h5⟩
 unfold iB
 rw [hn]
 refine ⟨by dsimp only;omega,by simpa using h1,by simp;omega,by simp,by simp,by simp,by simp,by simp,by simp,by simp,by simp,fun c hc=>?_,by simp,by simp,by simp,by simp,by simp,by simp,fun _=>rfl⟩
 obtain ⟨p,hp,rfl⟩:=List.mem_map.1 hc
 exact oT (c:=⟨0,0,p,[]⟩) (by dsimp only;omega) (h6 p hp) (rH.2 ⟨by simp,by simp,by simp⟩)
end Go.Proofs.Ytegepioggeggaaa.Dev
