/- A part of the proof: Bank8, Bank9, PlOk. No condition. -/
import Derived.Test.YtegepioggeggaaaD11
set_option linter.unusedVariables false
set_option linter.unusedSimpArgs false
set_option maxHeartbeats 8000000
set_option maxRecDepth 100000
namespace Go.Proofs.Ytegepioggeggaaa.Dev
open Go.RowKit

theorem Ey (x:Nat->Value) (hx:∀ i,(x i).oneCell'=true) (b:Bk) (d:bB) (ok:ct b) (hdn:b.down=false) (b2:Bk) (a2:Answer) (hr:dD b d=(b2,a2)):cJ Try.prog 63 [(.c (.p 0 0 0 0)),(.c (.q (df d) 0))] [(0,(.box 98 (aX b 1 2 3 4 (.d (.v (x 17))) (.d (.v (x 19)))))),(1,(dO b.aq)),(2,(dF b.due)),(3,(dR b.ax)),(4,(cP b.aR))] [0] (.v (.g [cI a2.err,cI a2.aZ])) [(0,(.box 98 (aX b2 1 2 3 4 (.d (.v (x 17))) (.d (.v (x 19)))))),(1,(dO b2.aq)),(2,(dF b2.due)),(3,(dR b2.ax)),(4,(cP b2.aR))]:=by
 refine cJ.mk 214 [(0,(aC (.p 0 0 0 0))),(1,(aC (.q (df d) 0)))] 5 Try.func63 rfl rfl rfl rfl rfl rfl rfl rfl rfl ?_
 intro W0 F0 T0 pg
 obtain ⟨okt,okc,okd,oka,oky,okw0,okw1,okp,okv,okk0,okk1,okg,okl0,okl1,okp0,okp1,okn0,okn1,okq⟩:=id ok
 refine ae aa 1 rfl ?_
 refine ag ?_
 refine ag ?_
 rcases Bool.eq_false_or_eq_true (decide (d.n < 0)) with hb1|hb1
 ·
  have hb1':=of_decide_eq_true hb1
  refine aW [0,1,4] [5,0,1,2,3,4] mixed rfl rfl ?_
  refine au (kn:=[(14,true)]) aa 38 rfl ⟨hb1,trivial⟩ ?_
  refine br [5,0,1,2,3,4] rfl rfl rfl rfl (by kernel_rfl) ?_
  refine af ?_
  refine aj rfl (fun _=>?_) (fun hno=>by cases hno)
  refine ae aa 2 rfl ?_
  refine ay ?_
  refine ar ?_
  have hX:dD b d=(b,(⟨6,0⟩:Answer)):=by
    unfold dD;(try simp only [hdn,Bool.false_eq_true,if_false]);(repeat' split)<;>first|rfl|omega|(exfalso;omega)|(simp_all;done)|(simp_all;omega)
  rw [hX] at hr;clear hX
  simp only [Prod.mk.injEq] at hr;obtain ⟨rfl,rfl⟩:=hr
  refine an aa [0,1,2,3,4,5] 5 rfl rfl rfl rfl rfl rfl ?_ ?_
  all_goals first|rfl|(simp [az,aX,bc];done)|(simp [az,aX,bc];omega)
 have hb1':=of_decide_eq_false hb1
 rcases Bool.eq_false_or_eq_true (decide (d.n>=(↑b.aq.length:Int))) with hb3|hb3
 ·
  have hb3':=of_decide_eq_true hb3
  refine aW [0,1,4] [5,0,1,2,3,4] mixed rfl rfl ?_
  refine au (kn:=[(14,false)]) aa 15 rfl ⟨hb1,trivial⟩ ?_
  refine aM (n':=6) [24,15] [1] rfl rfl (.inl ⟨(ah.yes rfl rfl rfl),aE.cast (du rfl rfl rfl rfl rfl Try.underlying29) rfl⟩) rfl ?_
  refine au (kn:=[(26,true)]) aa 22 rfl ⟨hb3,trivial⟩ ?_
  refine br [5,0,1,2,3,4] rfl rfl rfl rfl (by kernel_rfl) ?_
  refine af ?_
  refine aj rfl (fun _=>?_) (fun hno=>by cases hno)
  refine ae aa 2 rfl ?_
  refine ay ?_
  refine ar ?_
  have hX:dD b d=(b,(⟨6,0⟩:Answer)):=by
    unfold dD;(try simp only [hdn,Bool.false_eq_true,if_false]);(repeat' split)<;>first|rfl|omega|(exfalso;omega)|(simp_all;done)|(simp_all;omega)
  rw [hX] at hr;clear hX
  simp only [Prod.mk.injEq] at hr;obtain ⟨rfl,rfl⟩:=hr
  refine an aa [0,1,2,3,4,5] 5 rfl rfl rfl rfl rfl rfl ?_ ?_
  all_goals first|rfl|(simp [az,aX,bc];done)|(simp [az,aX,bc];omega)
 have hb3':=of_decide_eq_false hb3
 rcases Bool.eq_false_or_eq_true (decide (d.aD < 0)) with hb5|hb5
 ·
  have hb5':=of_decide_eq_true hb5
  refine aW [0,1,4] [5,0,1,2,3,4] mixed rfl rfl ?_
  refine au (kn:=[(14,false)]) aa 15 rfl ⟨hb1,trivial⟩ ?_
  refine aM (n':=6) [24,15] [1] rfl rfl (.inl ⟨(ah.yes rfl rfl rfl),aE.cast (du rfl rfl rfl rfl rfl Try.underlying29) rfl⟩) rfl ?_
  refine au (kn:=[(26,false),(33,true)]) aa 22 rfl ⟨hb3,hb5,trivial⟩ ?_
  refine br [5,0,1,2,3,4] rfl rfl rfl rfl (by kernel_rfl) ?_
  refine af ?_
  refine aj rfl (fun _=>?_) (fun hno=>by cases hno)
  refine ae aa 2 rfl ?_
  refine ay ?_
  refine ar ?_
  have hX:dD b d=(b,(⟨6,0⟩:Answer)):=by
    unfold dD;(try simp only [hdn,Bool.false_eq_true,if_false]);(repeat' split)<;>first|rfl|omega|(exfalso;omega)|(simp_all;done)|(simp_all;omega)
  rw [hX] at hr;clear hX
  simp only [Prod.mk.injEq] at hr;obtain ⟨rfl,rfl⟩:=hr
  refine an aa [0,1,2,3,4,5] 5 rfl rfl rfl rfl rfl rfl ?_ ?_
  all_goals first|rfl|(simp [az,aX,bc];done)|(simp [az,aX,bc];omega)
 have hb5':=of_decide_eq_false hb5
 refine aW [0,1,4] [5,0,1,2,3,4] mixed rfl rfl ?_
 refine au (kn:=[(14,false)]) aa 15 rfl ⟨hb1,trivial⟩ ?_
 refine aM (n':=6) [24,15] [1] rfl rfl (.inl ⟨(ah.yes rfl rfl rfl),aE.cast (du rfl rfl rfl rfl rfl Try.underlying29) rfl⟩) rfl ?_
 refine au (kn:=[(26,false),(33,false)]) aa 19 rfl ⟨hb3,hb5,trivial⟩ ?_
 refine aM (n':=6) [44,35] [2] rfl rfl (.inl ⟨(ah.yes rfl rfl rfl),aE.cast (du rfl rfl rfl rfl rfl Try.underlying30) rfl⟩) rfl ?_
 refine au (kn:=[]) aa 2 rfl trivial ?_
 refine br [5,0,1,2,3,4] rfl rfl rfl rfl (by kernel_rfl) ?_
 refine af ?_
 refine aj rfl (fun hc7=>?_) (fun hc7=>?_)
 ·
  have hc7':=of_decide_eq_true hc7
  refine ae aa 2 rfl ?_
  refine ay ?_
  refine ar ?_
  have hX:dD b d=(b,(⟨6,0⟩:Answer)):=by
    unfold dD;(try simp only [hdn,Bool.false_eq_true,if_false]);(repeat' split)<;>first|rfl|omega|(exfalso;omega)|(simp_all;done)|(simp_all;omega)
  rw [hX] at hr;clear hX
  simp only [Prod.mk.injEq] at hr;obtain ⟨rfl,rfl⟩:=hr
  refine an aa [0,1,2,3,4,5] 5 rfl rfl rfl rfl rfl rfl ?_ ?_
  all_goals first|rfl|(simp [az,aX,bc];done)|(simp [az,aX,bc];omega)
 have hc7':=of_decide_eq_false hc7
 refine aP ?_
 refine ag ?_
 refine ae aa 5 rfl ?_
 refine aj rfl (fun hno=>absurd (hdn.symm.trans hno) (by decide)) (fun _=>?_)
 refine aP ?_
 refine ag ?_
 obtain ⟨b0,e0,hr0⟩:∃ (b0:bH) (e0:Int),dm d.n d.aD d.sum b.time=(b0,e0):=⟨_,_,rfl⟩
 refine dd [0,1,4] [5,0,1,2,3,4] mixed rfl rfl ?_
 refine bP (kn:=[]) aa 17 rfl trivial ?_
 refine bU (n':=6) [123,127,131,136] [] rfl rfl (.inl ⟨(ah.plain rfl),aE.cast (bX 6 (ra d.n d.aD d.sum b.time b0 e0 hr0) DZ rfl rfl ⟨⟨_,rfl,.c (.d _)⟩,⟨_,rfl,.c (.d _)⟩,⟨_,rfl,.c (.d _)⟩,⟨_,rfl,.c (.d _)⟩,trivial⟩ ⟨⟨trivial,trivial,trivial,trivial,trivial,trivial,trivial,trivial,trivial⟩,trivial,trivial⟩ trivial rfl rfl rfl rfl) rfl⟩) rfl ?_
 refine bP (n':=7) (kn:=[]) aa 6 rfl trivial ?_
 refine dJ [0,1,4,7,8] [6,5,0,1,2,3,4] rfl rfl (by kernel_rfl) ?_
 refine then_ok ?_
 refine ag ?_
 refine ck 150 ((decide (e0=0)) && (decide ((↑b.ax.length:Int)=30))) ?_ ?_
 ·
  refine aw ?_
  refine ad aa 3 rfl ?_
  refine bE (t:=142) rfl (fun hb9=>?_) (fun hb9=>?_)
  ·
   have hb9':=of_decide_eq_true hb9
   refine ad aa 5 rfl ?_
   refine cC (ah.yes rfl rfl rfl) (du rfl rfl rfl rfl rfl Try.underlying31) rfl rfl ?_
   refine ad aa 2 rfl ?_
   refine af ?_
   exact aH.bA 12 rfl rfl (by first|(simp [hb9];done)|(simp_all;done)|(exfalso;simp_all;done)|(simp_all;omega)) rfl
  have hb9':=of_decide_eq_false hb9
  refine ad aa 8 rfl ?_
  refine af ?_
  exact aH.bA 12 rfl rfl (by first|(simp [hb9];done)|(simp_all;done)|(exfalso;simp_all;done)|(simp_all;omega)) rfl
 refine aj rfl (fun hc10=>?_) (fun hc10=>?_)
 ·
  have hc10':=hc10;try simp only [bu,bR] at hc10'
  refine aw ?_
  refine ad aa 1 rfl ?_
  refine af ?_
  refine ag ?_
  refine aF aa 1 rfl ?_
  refine aA (aK rfl rfl rfl (show _=some (Value.bool true) from rfl)) rfl ?_
  refine af ?_
  refine aj rfl (fun _=>?_) (fun hno=>by cases hno)
  refine ae aa 3 rfl ?_
  refine ay ?_
  refine ar ?_
  have hX:dD b d=(b,(⟨5,0⟩:Answer)):=by
    unfold dD;(try simp only [hdn,Bool.false_eq_true,if_false,hr0]);(repeat' split)<;>first|rfl|omega|(exfalso;omega)|(simp_all;done)|(simp_all;omega)
  rw [hX] at hr;clear hX
  simp only [Prod.mk.injEq] at hr;obtain ⟨rfl,rfl⟩:=hr
  refine an aa [0,1,2,3,4,5] 5 rfl rfl rfl rfl rfl rfl ?_ ?_
  all_goals first|rfl|(simp [az,aX,bc];done)|(simp [az,aX,bc];omega)
 have hc10':=hc10;try simp only [bu,bR] at hc10'
 refine aP ?_
 refine ag ?_
 refine ae aa 2 rfl ?_
 refine aj rfl (fun hc12=>?_) (fun hc12=>?_)
 ·
  have hc12':=of_decide_eq_true hc12
  refine ae aa 3 rfl ?_
  refine ay ?_
  refine ar ?_
  have hX:dD b d=(b,(⟨e0,0⟩:Answer)):=by
    unfold dD;(try simp only [hdn,Bool.false_eq_true,if_false,hr0]);(repeat' split)<;>first|rfl|omega|(exfalso;omega)|(simp_all;done)|(simp_all;omega)
  rw [hX] at hr;clear hX
  simp only [Prod.mk.injEq] at hr;obtain ⟨rfl,rfl⟩:=hr
  refine an aa [0,1,2,3,4,5] 5 rfl rfl rfl rfl rfl rfl ?_ ?_
  all_goals first|rfl|(simp [az,aX,bc];done)|(simp [az,aX,bc];omega)
 have hc12':=of_decide_eq_false hc12
 refine aP ?_
 refine ag ?_
 obtain ⟨x1,hx1⟩:=cb (xs:=b.aq) (i:=Int.toNat (d.n)) (by first|omega|(simp;done)|(simp;omega))
 obtain ⟨xr1,e1,hr1⟩:∃ (xr1:bI) (e1:Int),dQ x1 d.sum b.time=(xr1,e1):=⟨_,_,rfl⟩
 refine dd [0,1,4,7] [6,5,0,1,2,3,4] mixed rfl rfl ?_
 refine bP (kn:=[]) aa 9 rfl trivial ?_
 refine bU (n':=7) [160,164] [1] rfl rfl (.inl ⟨(ah.plain rfl),aE.cast (bw (i:=Int.toNat (d.n)) rfl rfl rfl Try.underlying29 iq (by first|omega|(simp;done)|(simp;omega)) (by first|omega|(simp;done)|(simp;omega))) rfl⟩) rfl ?_
 refine bU (n':=7) [165] [1] rfl rfl (.inl ⟨(ah.plain rfl),aE.cast (di rfl rfl rfl Try.underlying61 rfl iq (bf hx1) rfl) rfl⟩) rfl ?_
 refine bP (kn:=[]) aa 9 rfl trivial ?_
 refine bU (n':=7) [166,170,175] [] rfl rfl (.inl ⟨(ah.plain rfl),aE.cast (bX 7 (Fn.frozen (av':=(.t [(.g [(cI xr1.bJ),(cI xr1.held),(cI xr1.bV.cD),(cI xr1.bV.count),(cI xr1.bV.sum),(eC xr1.cT)]),(.c (cI e1))])) (vo x1 d.sum b.time xr1 e1 hr1) ⟨⟨.inl ⟨_,rfl,rfl⟩,.inl ⟨_,rfl,rfl⟩,.inl ⟨_,rfl,rfl⟩,.inl ⟨_,rfl,rfl⟩,.inl ⟨_,rfl,rfl⟩,.inr ⟨_,_,_,_,_,rfl,rfl,rfl,by simp⟩,trivial⟩,.inl ⟨_,rfl,rfl⟩,trivial⟩) Gq rfl rfl ⟨⟨_,rfl,.g ⟨.d _,.d _,.d _,.d _,.d _,.d _,trivial⟩⟩,⟨_,rfl,.c (.d _)⟩,⟨_,rfl,.c (.d _)⟩,trivial⟩ ⟨⟨trivial,trivial,trivial,trivial,trivial,trivial,trivial⟩,trivial,trivial⟩ trivial rfl rfl rfl rfl) rfl⟩) rfl ?_
 refine bP (n':=8) (kn:=[]) aa 6 rfl trivial ?_
 refine dJ [0,1,4,7,9,8] [7,6,5,0,1,2,3,4] rfl rfl (by kernel_rfl) ?_
 refine then_ok ?_
 refine ag ?_
 refine ae aa 2 rfl ?_
 refine aj rfl (fun hc13=>?_) (fun hc13=>?_)
 ·
  have hc13':=of_decide_eq_true hc13
  refine ae aa 3 rfl ?_
  refine ay ?_
  refine ar ?_
  have hX:dD b d=(b,(⟨e1,0⟩:Answer)):=by
    unfold dD;(try simp only [hdn,Bool.false_eq_true,if_false,hr0,hr1,hx1]);(repeat' split)<;>first|rfl|omega|(exfalso;omega)|(simp_all;done)|(simp_all;omega)
  rw [hX] at hr;clear hX
  simp only [Prod.mk.injEq] at hr;obtain ⟨rfl,rfl⟩:=hr
  refine an aa [0,1,2,3,4,5] 5 rfl rfl rfl rfl rfl rfl ?_ ?_
  all_goals first|rfl|(simp [az,aX,bc];done)|(simp [az,aX,bc];omega)
 have hc13':=of_decide_eq_false hc13
 refine aP ?_
 refine ag ?_
 refine aW [0,1,4,7,9] [7,6,5,0,1,2,3,4] mixed rfl rfl ?_
 refine au (kn:=[]) aa 10 rfl trivial ?_
 refine aM (n':=8) [187,191] [1] rfl rfl (.inl ⟨(ah.plain rfl),aE.cast (bw (i:=Int.toNat (d.n)) rfl rfl rfl Try.underlying29 iq (by first|omega|(simp;done)|(simp;omega)) (by first|omega|(simp;done)|(simp;omega))) rfl⟩) rfl ?_
 refine br [7,6,5,0,1,2,3,4] rfl rfl rfl rfl (by kernel_rfl) ?_
 refine fZ [7,6,5,0,1,2,3,4] (dM (ds:=[(dI xr1.bJ),(dI xr1.held),(dI xr1.bV.cD),(dI xr1.bV.count),(dI xr1.bV.sum),(Em xr1.cT)]) rfl rfl rfl rfl rfl iq rfl (Nat.le_of_ble_eq_true rfl) (bf hx1) rfl (eK (x':=xr1) rfl)) rfl ?_
 refine af ?_
 refine fw (k:=0) (q:=2) (c':=(.s 1 0 6 (((b.aq).set (Int.toNat (d.n)) xr1).length))) rfl rfl (by first|rfl|(simp;done)|(congr 1;omega)) rfl ?_
 refine ag ?_
 refine aW [0,4,7] [6,5,0,1,2,3,4] mixed rfl rfl ?_
 refine au (kn:=[]) aa 7 rfl trivial ?_
 refine aM (n':=9) [200] [] rfl rfl (.inl ⟨(ah.plain rfl),aE.cast (dW (ys:=[(0,(.g [(cI b0.aN),(cI b0.aD),(cI b0.sum),(cI b0.captured),(cI b0.bx),(cI b0.bn),(cI b0.cZ),(cB b0.shut)]))]) (rows:=([b0]).map iH) 8 ru rfl (by decide) ⟨⟨rfl,rfl⟩,trivial⟩ rfl rfl rfl rfl) rfl⟩) rfl ?_
 refine aM (n':=10) [199,201] [8,3] rfl rfl (.inl ⟨(ah.plain rfl),aE.cast (dx (m:=1) (N:=b.ax.length+1) (k2:=9) (ys:=([b0]).map iH) ru rfl rfl rfl rfl rfl rfl (by first|omega|(simp;done)|(simp;omega)) rfl (.s rfl (by first|omega|(simp;done)|(simp;omega))) (by first|omega|(simp;done)|(simp;omega)) (by first|omega|(simp;done)|(simp;omega)) fA (by decide) (by first|omega|(simp;done)|(simp;omega)) (by first|omega|(simp;done)|(simp;omega))) rfl⟩) rfl ?_
 refine au (kn:=[]) aa 3 rfl trivial ?_
 refine br [9,6,5,0,1,2,4] rfl rfl rfl rfl (by kernel_rfl) ?_
 refine ad aa 1 rfl ?_
 refine af ?_
 refine fw (k:=0) (q:=4) (c':=(.s 9 0 8 ((b.ax++([b0])).length))) rfl rfl (by first|rfl|(simp;done)|(congr 1;omega)) rfl ?_
 refine aF aa 5 rfl ?_
 refine aA (du rfl rfl rfl rfl rfl Try.underlying31) rfl ?_
 refine aA (aK rfl rfl rfl (aL (by first|omega|(simp;done)|(simp;omega)))) rfl ?_
 refine ad aa 2 rfl ?_
 refine af ?_
 refine ay ?_
 have hX:dD b d=((⟨b.time,b.down,(b.aq).set (Int.toNat (d.n)) xr1,b.due,b.ax++([b0]),b.s0,b.s1,b.n0,b.n1,b.w0,b.w1,b.ba,b.aR,b.book⟩:Bk),(⟨0,(↑((b.ax++([b0])).length):Int) - 1⟩:Answer)):=by
   unfold dD;(try simp only [hdn,Bool.false_eq_true,if_false,hr0,hr1,hx1]);(repeat' split)<;>first|rfl|omega|(exfalso;omega)|(simp_all;done)|(simp_all;omega)
 rw [hX] at hr;clear hX
 simp only [Prod.mk.injEq] at hr;obtain ⟨rfl,rfl⟩:=hr
 refine an aa [0,1,2,9,4,5] 5 rfl rfl rfl rfl rfl rfl ?_ ?_
 all_goals first|rfl|(simp [az,aX,bc];done)|(simp [az,aX,bc];omega)
theorem Ez (x:Nat->Value) (hx:∀ i,(x i).oneCell'=true) (b:Bk) (d:bB) (ok:ct b) (hdn:b.down=true) (b2:Bk) (a2:Answer) (hr:dD b d=(b2,a2)):cJ Try.prog 63 [(.c (.p 0 0 0 0)),(.c (.q (df d) 0))] [(0,(.box 98 (aX b 1 2 3 4 (.d (.v (x 17))) (.d (.v (x 19)))))),(1,(dO b.aq)),(2,(dF b.due)),(3,(dR b.ax)),(4,(cP b.aR))] [0] (.v (.g [cI a2.err,cI a2.aZ])) [(0,(.box 98 (aX b2 1 2 3 4 (.d (.v (x 17))) (.d (.v (x 19)))))),(1,(dO b2.aq)),(2,(dF b2.due)),(3,(dR b2.ax)),(4,(cP b2.aR))]:=by
 refine cJ.mk 214 [(0,(aC (.p 0 0 0 0))),(1,(aC (.q (df d) 0)))] 5 Try.func63 rfl rfl rfl rfl rfl rfl rfl rfl rfl ?_
 intro W0 F0 T0 pg
 obtain ⟨okt,okc,okd,oka,oky,okw0,okw1,okp,okv,okk0,okk1,okg,okl0,okl1,okp0,okp1,okn0,okn1,okq⟩:=id ok
 refine ae aa 1 rfl ?_
 refine ag ?_
 refine ag ?_
 rcases Bool.eq_false_or_eq_true (decide (d.n < 0)) with hb1|hb1
 ·
  have hb1':=of_decide_eq_true hb1
  refine aW [0,1,4] [5,0,1,2,3,4] mixed rfl rfl ?_
  refine au (kn:=[(14,true)]) aa 38 rfl ⟨hb1,trivial⟩ ?_
  refine br [5,0,1,2,3,4] rfl rfl rfl rfl (by kernel_rfl) ?_
  refine af ?_
  refine aj rfl (fun _=>?_) (fun hno=>by cases hno)
  refine ae aa 2 rfl ?_
  refine ay ?_
  refine ar ?_
  have hX:dD b d=(b,(⟨6,0⟩:Answer)):=by
    unfold dD gD;(try simp only [hdn,if_true]);(repeat' split)<;>first|rfl|omega|(exfalso;omega)|(simp_all;done)|(simp_all;omega)
  rw [hX] at hr;clear hX
  simp only [Prod.mk.injEq] at hr;obtain ⟨rfl,rfl⟩:=hr
  refine an aa [0,1,2,3,4,5] 5 rfl rfl rfl rfl rfl rfl ?_ ?_
  all_goals first|rfl|(simp [az,aX,bc];done)|(simp [az,aX,bc];omega)
 have hb1':=of_decide_eq_false hb1
 rcases Bool.eq_false_or_eq_true (decide (d.n>=(↑b.aq.length:Int))) with hb3|hb3
 ·
  have hb3':=of_decide_eq_true hb3
  refine aW [0,1,4] [5,0,1,2,3,4] mixed rfl rfl ?_
  refine au (kn:=[(14,false)]) aa 15 rfl ⟨hb1,trivial⟩ ?_
  refine aM (n':=6) [24,15] [1] rfl rfl (.inl ⟨(ah.yes rfl rfl rfl),aE.cast (du rfl rfl rfl rfl rfl Try.underlying29) rfl⟩) rfl ?_
  refine au (kn:=[(26,true)]) aa 22 rfl ⟨hb3,trivial⟩ ?_
  refine br [5,0,1,2,3,4] rfl rfl rfl rfl (by kernel_rfl) ?_
  refine af ?_
  refine aj rfl (fun _=>?_) (fun hno=>by cases hno)
  refine ae aa 2 rfl ?_
  refine ay ?_
  refine ar ?_
  have hX:dD b d=(b,(⟨6,0⟩:Answer)):=by
    unfold dD gD;(try simp only [hdn,if_true]);(repeat' split)<;>first|rfl|omega|(exfalso;omega)|(simp_all;done)|(simp_all;omega)
  rw [hX] at hr;clear hX
  simp only [Prod.mk.injEq] at hr;obtain ⟨rfl,rfl⟩:=hr
  refine an aa [0,1,2,3,4,5] 5 rfl rfl rfl rfl rfl rfl ?_ ?_
  all_goals first|rfl|(simp [az,aX,bc];done)|(simp [az,aX,bc];omega)
 have hb3':=of_decide_eq_false hb3
 rcases Bool.eq_false_or_eq_true (decide (d.aD < 0)) with hb5|hb5
 ·
  have hb5':=of_decide_eq_true hb5
  refine aW [0,1,4] [5,0,1,2,3,4] mixed rfl rfl ?_
  refine au (kn:=[(14,false)]) aa 15 rfl ⟨hb1,trivial⟩ ?_
  refine aM (n':=6) [24,15] [1] rfl rfl (.inl ⟨(ah.yes rfl rfl rfl),aE.cast (du rfl rfl rfl rfl rfl Try.underlying29) rfl⟩) rfl ?_
  refine au (kn:=[(26,false),(33,true)]) aa 22 rfl ⟨hb3,hb5,trivial⟩ ?_
  refine br [5,0,1,2,3,4] rfl rfl rfl rfl (by kernel_rfl) ?_
  refine af ?_
  refine aj rfl (fun _=>?_) (fun hno=>by cases hno)
  refine ae aa 2 rfl ?_
  refine ay ?_
  refine ar ?_
  have hX:dD b d=(b,(⟨6,0⟩:Answer)):=by
    unfold dD gD;(try simp only [hdn,if_true]);(repeat' split)<;>first|rfl|omega|(exfalso;omega)|(simp_all;done)|(simp_all;omega)
  rw [hX] at hr;clear hX
  simp only [Prod.mk.injEq] at hr;obtain ⟨rfl,rfl⟩:=hr
  refine an aa [0,1,2,3,4,5] 5 rfl rfl rfl rfl rfl rfl ?_ ?_
  all_goals first|rfl|(simp [az,aX,bc];done)|(simp [az,aX,bc];omega)
 have hb5':=of_decide_eq_false hb5
 refine aW [0,1,4] [5,0,1,2,3,4] mixed rfl rfl ?_
 refine au (kn:=[(14,false)]) aa 15 rfl ⟨hb1,trivial⟩ ?_
 refine aM (n':=6) [24,15] [1] rfl rfl (.inl ⟨(ah.yes rfl rfl rfl),aE.cast (du rfl rfl rfl rfl rfl Try.underlying29) rfl⟩) rfl ?_
 refine au (kn:=[(26,false),(33,false)]) aa 19 rfl ⟨hb3,hb5,trivial⟩ ?_
 refine aM (n':=6) [44,35] [2] rfl rfl (.inl ⟨(ah.yes rfl rfl rfl),aE.cast (du rfl rfl rfl rfl rfl Try.underlying30) rfl⟩) rfl ?_
 refine au (kn:=[]) aa 2 rfl trivial ?_
 refine br [5,0,1,2,3,4] rfl rfl rfl rfl (by kernel_rfl) ?_
 refine af ?_
 refine aj rfl (fun hc7=>?_) (fun hc7=>?_)
 ·
  have hc7':=of_decide_eq_true hc7
  refine ae aa 2 rfl ?_
  refine ay ?_
  refine ar ?_
  have hX:dD b d=(b,(⟨6,0⟩:Answer)):=by
    unfold dD gD;(try simp only [hdn,if_true]);(repeat' split)<;>first|rfl|omega|(exfalso;omega)|(simp_all;done)|(simp_all;omega)
  rw [hX] at hr;clear hX
  simp only [Prod.mk.injEq] at hr;obtain ⟨rfl,rfl⟩:=hr
  refine an aa [0,1,2,3,4,5] 5 rfl rfl rfl rfl rfl rfl ?_ ?_
  all_goals first|rfl|(simp [az,aX,bc];done)|(simp [az,aX,bc];omega)
 have hc7':=of_decide_eq_false hc7
 refine aP ?_
 refine ag ?_
 refine ae aa 5 rfl ?_
 refine aj rfl (fun _=>?_) (fun hno=>absurd (hdn.symm.trans hno) (by decide))
 refine ag ?_
 obtain ⟨xr0,e0,hr0⟩:∃ (xr0:cA) (e0:Int),cr b.ba (⟨d.n,d.aD,d.sum,b.time⟩:cg)=(xr0,e0):=⟨_,_,rfl⟩
 have hgl:=tu b.ba ((⟨d.n,d.aD,d.sum,b.time⟩:cg))
 rw [hr0] at hgl;dsimp only at hgl
 refine dd [0,1,4] [5,0,1,2,3,4] mixed rfl rfl ?_
 refine bP (kn:=[]) aa 23 rfl trivial ?_
 refine bU (n':=6) [59,77] [] rfl rfl (.inl ⟨(ah.plain rfl),aE.cast (bX 6 (Fn.frozen (av':=(.t [(.g [(cI xr0.cap),(dr xr0.used),(ei xr0.aT)]),(.c (cI e0))])) (vi b.ba (⟨d.n,d.aD,d.sum,b.time⟩:cg) xr0 e0 hr0) ⟨⟨.inl ⟨_,rfl,rfl⟩,.inr ⟨_,_,_,_,_,rfl,rfl,rfl,by simp⟩,.inr ⟨_,_,_,_,_,rfl,rfl,rfl,by simp⟩,trivial⟩,.inl ⟨_,rfl,rfl⟩,trivial⟩) Gr rfl rfl ⟨⟨_,rfl,.g ⟨.d _,.d _,.d _,trivial⟩⟩,⟨_,rfl,.g ⟨.d _,.d _,.d _,.d _,trivial⟩⟩,trivial⟩ ⟨⟨trivial,trivial,trivial,trivial⟩,trivial,trivial⟩ trivial rfl rfl rfl rfl) rfl⟩) rfl ?_
 refine bP (n':=7) (kn:=[]) aa 6 rfl trivial ?_
 refine dJ [0,1,4,5,6] [6,5,0,1,2,3,4] rfl rfl (by kernel_rfl) ?_
 refine then_ok ?_
 refine ag ?_
 refine ae aa 2 rfl ?_
 refine aj rfl (fun hc9=>?_) (fun hc9=>?_)
 ·
  have hc9':=of_decide_eq_true hc9
  refine aw ?_
  refine ad aa 1 rfl ?_
  refine af ?_
  refine ag ?_
  refine ag ?_
  refine aW [0,1,4,5,6] [6,5,0,1,2,3,4] mixed rfl rfl ?_
  refine au (kn:=[(84,false)]) aa 15 rfl ⟨rfl,trivial⟩ ?_
  refine br [6,5,0,1,2,3,4] rfl rfl rfl rfl (by kernel_rfl) ?_
  refine af ?_
  refine aj rfl (fun hno=>by cases hno) (fun _=>?_)
  refine aP ?_
  refine ag ?_
  refine aF aa 1 rfl ?_
  refine aA (aK rfl rfl rfl (show _=some (Value.bool true) from rfl)) rfl ?_
  refine af ?_
  refine aj rfl (fun _=>?_) (fun hno=>by cases hno)
  refine ae aa 3 rfl ?_
  refine ay ?_
  refine ar ?_
  refine ar ?_
  have hX:dD b d=(b,(⟨12,0⟩:Answer)):=by
    unfold dD gD;(try simp only [hdn,if_true,hr0]);(repeat' split)<;>first|rfl|omega|(exfalso;omega)|(simp_all;done)|(simp_all;omega)
  rw [hX] at hr;clear hX
  simp only [Prod.mk.injEq] at hr;obtain ⟨rfl,rfl⟩:=hr
  refine an aa [0,1,2,3,4,5] 5 rfl rfl rfl rfl rfl rfl ?_ ?_
  all_goals first|rfl|(simp [az,aX,bc];done)|(simp [az,aX,bc];omega)
 have hc9':=of_decide_eq_false hc9
 refine aP ?_
 refine ag ?_
 refine ag ?_
 rcases Bool.eq_false_or_eq_true (decide (e0=0)) with hb12|hb12
 ·
  have hb12':=of_decide_eq_true hb12
  refine aW [0,1,4,5,6] [6,5,0,1,2,3,4] mixed rfl rfl ?_
  refine au (kn:=[(84,true)]) aa 8 rfl ⟨hb12,trivial⟩ ?_
  refine aM (n':=7) [90,85] [3] rfl rfl (.inl ⟨(ah.yes rfl rfl rfl),aE.cast (du rfl rfl rfl rfl rfl Try.underlying31) rfl⟩) rfl ?_
  refine au (kn:=[]) aa 2 rfl trivial ?_
  refine aM (n':=7) [93,85] [] rfl rfl (.inl ⟨(ah.yes rfl rfl rfl),aE.cast (bQ rfl rfl rfl rfl rfl Try.underlying39) rfl⟩) rfl ?_
  refine aM (n':=7) [91,94,85] [] rfl rfl (.inl ⟨(ah.yes rfl rfl rfl),aE.cast (aK rfl rfl rfl (aL (by first|omega|(simp;done)|(simp;omega)))) rfl⟩) rfl ?_
  refine au (kn:=[]) aa 2 rfl trivial ?_
  refine br [6,5,0,1,2,3,4] rfl rfl rfl rfl (by kernel_rfl) ?_
  refine af ?_
  refine aj rfl (fun hc13=>?_) (fun hc13=>?_)
  ·
   have hc13':=of_decide_eq_true hc13
   refine aw ?_
   refine ad aa 1 rfl ?_
   refine af ?_
   refine ag ?_
   refine aF aa 1 rfl ?_
   refine aA (aK rfl rfl rfl (show _=some (Value.bool true) from rfl)) rfl ?_
   refine af ?_
   refine aj rfl (fun _=>?_) (fun hno=>by cases hno)
   refine ae aa 3 rfl ?_
   refine ay ?_
   refine ar ?_
   refine ar ?_
   have hX:dD b d=(b,(⟨5,0⟩:Answer)):=by
     unfold dD gD;(try simp only [hdn,if_true,hr0]);(repeat' split)<;>first|rfl|omega|(exfalso;omega)|(simp_all;done)|(simp_all;omega)
   rw [hX] at hr;clear hX
   simp only [Prod.mk.injEq] at hr;obtain ⟨rfl,rfl⟩:=hr
   refine an aa [0,1,2,3,4,5] 5 rfl rfl rfl rfl rfl rfl ?_ ?_
   all_goals first|rfl|(simp [az,aX,bc];done)|(simp [az,aX,bc];omega)
  have hc13':=of_decide_eq_false hc13
  refine aP ?_
  refine ag ?_
  refine ae aa 2 rfl ?_
  refine aj rfl (fun hc15=>?_) (fun hc15=>?_)
  ·
   have hc15':=of_decide_eq_true hc15
   refine ae aa 3 rfl ?_
   refine ay ?_
   refine ar ?_
   refine ar ?_
   have hX:dD b d=(b,(⟨e0,0⟩:Answer)):=by
     unfold dD gD;(try simp only [hdn,if_true,hr0]);(repeat' split)<;>first|rfl|omega|(exfalso;omega)|(simp_all;done)|(simp_all;omega)
   rw [hX] at hr;clear hX
   simp only [Prod.mk.injEq] at hr;obtain ⟨rfl,rfl⟩:=hr
   refine an aa [0,1,2,3,4,5] 5 rfl rfl rfl rfl rfl rfl ?_ ?_
   all_goals first|rfl|(simp [az,aX,bc];done)|(simp [az,aX,bc];omega)
  have hc15':=of_decide_eq_false hc15
  refine aP ?_
  refine ae aa 6 rfl ?_
  refine ag ?_
  refine aW [0,1,4,5] [6,5,0,1,2,3,4] mixed rfl rfl ?_
  refine au (kn:=[]) aa 5 rfl trivial ?_
  refine aM (n':=7) [111] [3] rfl rfl (.inl ⟨(ah.plain rfl),aE.cast (du rfl rfl rfl rfl rfl Try.underlying31) rfl⟩) rfl ?_
  refine au (kn:=[]) aa 2 rfl trivial ?_
  refine aM (n':=7) [114] [] rfl rfl (.inl ⟨(ah.plain rfl),aE.cast (bQ rfl rfl rfl rfl rfl Try.underlying39) rfl⟩) rfl ?_
  refine aM (n':=7) [112,115] [] rfl rfl (.inl ⟨(ah.plain rfl),aE.cast (aK rfl rfl rfl (aL (by first|omega|(simp;done)|(simp;omega)))) rfl⟩) rfl ?_
  refine aM (n':=7) [116] [] rfl rfl (.inl ⟨(ah.plain rfl),aE.cast (aK rfl rfl rfl (aL (by first|omega|(simp;done)|(simp;omega)))) rfl⟩) rfl ?_
  refine au (kn:=[]) aa 1 rfl trivial ?_
  refine br [6,5,0,1,2,3,4] rfl rfl rfl rfl (by kernel_rfl) ?_
  refine ad aa 1 rfl ?_
  refine af ?_
  refine ay ?_
  refine ar ?_
  have hX:dD b d=((⟨b.time,b.down,b.aq,b.due,b.ax,b.s0,b.s1,b.n0,b.n1,b.w0,b.w1,xr0,b.aR,b.book⟩:Bk),(⟨0,((↑b.ax.length:Int)+(↑xr0.aT.length:Int)) - 1⟩:Answer)):=by
    unfold dD gD;(try simp only [hdn,if_true,hr0]);(repeat' split)<;>first|rfl|omega|(exfalso;omega)|(simp_all;done)|(simp_all;omega)
  rw [hX] at hr;clear hX
  simp only [Prod.mk.injEq] at hr;obtain ⟨rfl,rfl⟩:=hr
  refine an aa [0,1,2,3,4,5] 5 rfl rfl rfl rfl rfl rfl ?_ ?_
  all_goals first|rfl|(simp [az,aX,bc];done)|(simp [az,aX,bc];omega)
 have hb12':=of_decide_eq_false hb12
 refine aW [0,1,4,5,6] [6,5,0,1,2,3,4] mixed rfl rfl ?_
 refine au (kn:=[(84,false)]) aa 15 rfl ⟨hb12,trivial⟩ ?_
 refine br [6,5,0,1,2,3,4] rfl rfl rfl rfl (by kernel_rfl) ?_
 refine af ?_
 refine aj rfl (fun hno=>by cases hno) (fun _=>?_)
 refine aP ?_
 refine ag ?_
 refine ae aa 2 rfl ?_
 refine aj rfl (fun hc17=>?_) (fun hc17=>?_)
 ·
  have hc17':=of_decide_eq_true hc17
  refine ae aa 3 rfl ?_
  refine ay ?_
  refine ar ?_
  refine ar ?_
  have hX:dD b d=(b,(⟨e0,0⟩:Answer)):=by
    unfold dD gD;(try simp only [hdn,if_true,hr0]);(repeat' split)<;>first|rfl|omega|(exfalso;omega)|(simp_all;done)|(simp_all;omega)
  rw [hX] at hr;clear hX
  simp only [Prod.mk.injEq] at hr;obtain ⟨rfl,rfl⟩:=hr
  refine an aa [0,1,2,3,4,5] 5 rfl rfl rfl rfl rfl rfl ?_ ?_
  all_goals first|rfl|(simp [az,aX,bc];done)|(simp [az,aX,bc];omega)
 have hc17':=of_decide_eq_false hc17
 refine aP ?_
 refine ae aa 6 rfl ?_
 refine ag ?_
 refine aW [0,1,4,5] [6,5,0,1,2,3,4] mixed rfl rfl ?_
 refine au (kn:=[]) aa 5 rfl trivial ?_
 refine aM (n':=7) [111] [3] rfl rfl (.inl ⟨(ah.plain rfl),aE.cast (du rfl rfl rfl rfl rfl Try.underlying31) rfl⟩) rfl ?_
 refine au (kn:=[]) aa 2 rfl trivial ?_
 refine aM (n':=7) [114] [] rfl rfl (.inl ⟨(ah.plain rfl),aE.cast (bQ rfl rfl rfl rfl rfl Try.underlying39) rfl⟩) rfl ?_
 refine aM (n':=7) [112,115] [] rfl rfl (.inl ⟨(ah.plain rfl),aE.cast (aK rfl rfl rfl (aL (by first|omega|(simp;done)|(simp;omega)))) rfl⟩) rfl ?_
 refine aM (n':=7) [116] [] rfl rfl (.inl ⟨(ah.plain rfl),aE.cast (aK rfl rfl rfl (aL (by first|omega|(simp;done)|(simp;omega)))) rfl⟩) rfl ?_
 refine au (kn:=[]) aa 1 rfl trivial ?_
 refine br [6,5,0,1,2,3,4] rfl rfl rfl rfl (by kernel_rfl) ?_
 refine ad aa 1 rfl ?_
 refine af ?_
 refine ay ?_
 refine ar ?_
 have hX:dD b d=((⟨b.time,b.down,b.aq,b.due,b.ax,b.s0,b.s1,b.n0,b.n1,b.w0,b.w1,xr0,b.aR,b.book⟩:Bk),(⟨0,((↑b.ax.length:Int)+(↑xr0.aT.length:Int)) - 1⟩:Answer)):=by
   unfold dD gD;(try simp only [hdn,if_true,hr0]);(repeat' split)<;>first|rfl|omega|(exfalso;omega)|(simp_all;done)|(simp_all;omega)
 rw [hX] at hr;clear hX
 simp only [Prod.mk.injEq] at hr;obtain ⟨rfl,rfl⟩:=hr
 refine an aa [0,1,2,3,4,5] 5 rfl rfl rfl rfl rfl rfl ?_ ?_
 all_goals first|rfl|(simp [az,aX,bc];done)|(simp [az,aX,bc];omega)
theorem FG (x:Nat->Value) (hx:∀ i,(x i).oneCell'=true) (b:Bk) (d:bB) (ok:ct b) (b2:Bk) (a2:Answer) (hr:dD b d=(b2,a2)):cJ Try.prog 63 [(.c (.p 0 0 0 0)),(.c (.q (df d) 0))] [(0,(.box 98 (aX b 1 2 3 4 (.d (.v (x 17))) (.d (.v (x 19)))))),(1,(dO b.aq)),(2,(dF b.due)),(3,(dR b.ax)),(4,(cP b.aR))] [0] (.v (.g [cI a2.err,cI a2.aZ])) [(0,(.box 98 (aX b2 1 2 3 4 (.d (.v (x 17))) (.d (.v (x 19)))))),(1,(dO b2.aq)),(2,(dF b2.due)),(3,(dR b2.ax)),(4,(cP b2.aR))]:=by
  cases hdn:b.down
  ·exact Ey x hx b d ok hdn b2 a2 hr
  ·exact Ez x hx b d ok hdn b2 a2 hr

theorem zO (x:Nat->Value) (hx:∀ i,(x i).oneCell'=true) (b:Bk) (d:bB) (ok:ct b) (hdn:b.down=false) (b2:Bk) (a2:Answer) (hr:dA b d=(b2,a2)):cJ Try.prog 64 [(.c (.p 0 0 0 0)),(.c (.q (df d) 0))] [(0,(.box 98 (aX b 1 2 3 4 (.d (.v (x 17))) (.d (.v (x 19)))))),(1,(dO b.aq)),(2,(dF b.due)),(3,(dR b.ax)),(4,(cP b.aR))] [0] (.v (.g [cI a2.err,cI a2.aZ])) [(0,(.box 98 (aX b2 1 2 3 4 (.d (.v (x 17))) (.d (.v (x 19)))))),(1,(dO b2.aq)),(2,(dF b2.due)),(3,(dR b2.ax)),(4,(cP b2.aR))]:=by
 refine cJ.mk 246 [(0,(aC (.p 0 0 0 0))),(1,(aC (.q (df d) 0)))] 5 Try.func64 rfl rfl rfl rfl rfl rfl rfl rfl rfl ?_
 intro W0 F0 T0 pg
 obtain ⟨okt,okc,okd,oka,oky,okw0,okw1,okp,okv,okk0,okk1,okg,okl0,okl1,okp0,okp1,okn0,okn1,okq⟩:=id ok
 refine ae aa 1 rfl ?_
 refine ag ?_
 refine ae aa 5 rfl ?_
 refine aj rfl (fun hno=>absurd (hdn.symm.trans hno) (by decide)) (fun _=>?_)
 refine aP ?_
 refine ag ?_
 refine ag ?_
 rcases Bool.eq_false_or_eq_true (decide (d.n < 0)) with hb2|hb2
 ·
  have hb2':=of_decide_eq_true hb2
  refine aW [0,1,4] [5,0,1,2,3,4] mixed rfl rfl ?_
  refine au (kn:=[(22,true)]) aa 18 rfl ⟨hb2,trivial⟩ ?_
  refine br [5,0,1,2,3,4] rfl rfl rfl rfl (by kernel_rfl) ?_
  refine af ?_
  refine aj rfl (fun _=>?_) (fun hno=>by cases hno)
  refine ae aa 2 rfl ?_
  refine ay ?_
  refine ar ?_
  have hX:dA b d=(b,(⟨6,0⟩:Answer)):=by
    unfold dA;simp only [hdn,Bool.false_eq_true,if_false];(repeat' split)<;>first|rfl|omega|(exfalso;omega)|(simp_all;done)|(simp_all;omega)
  rw [hX] at hr;clear hX
  simp only [Prod.mk.injEq] at hr;obtain ⟨rfl,rfl⟩:=hr
  refine an aa [0,1,2,3,4,5] 5 rfl rfl rfl rfl rfl rfl ?_ ?_
  all_goals first|rfl|(simp [az,aX,bc];done)|(simp [az,aX,bc];omega)
 have hb2':=of_decide_eq_false hb2
 refine aW [0,1,4] [5,0,1,2,3,4] mixed rfl rfl ?_
 refine au (kn:=[(22,false)]) aa 15 rfl ⟨hb2,trivial⟩ ?_
 refine aM (n':=6) [32,23] [3] rfl rfl (.inl ⟨(ah.yes rfl rfl rfl),aE.cast (du rfl rfl rfl rfl rfl Try.underlying31) rfl⟩) rfl ?_
 refine au (kn:=[]) aa 2 rfl trivial ?_
 refine br [5,0,1,2,3,4] rfl rfl rfl rfl (by kernel_rfl) ?_
 refine af ?_
 refine aj rfl (fun hc4=>?_) (fun hc4=>?_)
 ·
  have hc4':=of_decide_eq_true hc4
  refine ae aa 2 rfl ?_
  refine ay ?_
  refine ar ?_
  have hX:dA b d=(b,(⟨6,0⟩:Answer)):=by
    unfold dA;simp only [hdn,Bool.false_eq_true,if_false];(repeat' split)<;>first|rfl|omega|(exfalso;omega)|(simp_all;done)|(simp_all;omega)
  rw [hX] at hr;clear hX
  simp only [Prod.mk.injEq] at hr;obtain ⟨rfl,rfl⟩:=hr
  refine an aa [0,1,2,3,4,5] 5 rfl rfl rfl rfl rfl rfl ?_ ?_
  all_goals first|rfl|(simp [az,aX,bc];done)|(simp [az,aX,bc];omega)
 have hc4':=of_decide_eq_false hc4
 refine aP ?_
 refine ag ?_
 obtain ⟨x1,hx1⟩:=cb (xs:=b.ax) (i:=Int.toNat (d.n)) (by first|omega|(simp;done)|(simp;omega))
 refine aW [0,1,4] [5,0,1,2,3,4] mixed rfl rfl ?_
 refine au (kn:=[]) aa 9 rfl trivial ?_
 refine aM (n':=6) [41,45] [3] rfl rfl (.inl ⟨(ah.plain rfl),aE.cast (bw (i:=Int.toNat (d.n)) rfl rfl rfl Try.underlying31 kG (by first|omega|(simp;done)|(simp;omega)) (by first|omega|(simp;done)|(simp;omega))) rfl⟩) rfl ?_
 refine aM (n':=6) [46] [3] rfl rfl (.inl ⟨(ah.plain rfl),aE.cast (di rfl rfl rfl Try.underlying67 rfl kG (bf hx1) rfl) rfl⟩) rfl ?_
 refine au (n':=7) (kn:=[]) aa 1 rfl trivial ?_
 refine br [6,5,0,1,2,3,4] rfl rfl rfl rfl (by kernel_rfl) ?_
 refine ad aa 1 rfl ?_
 refine af ?_
 refine ag ?_
 obtain ⟨b0,e0,hr0⟩:∃ (b0:bH) (e0:Int),cu x1 d.move d.sum=(b0,e0):=⟨_,_,rfl⟩
 refine dd [0,1,4,5] [6,5,0,1,2,3,4] mixed rfl rfl ?_
 refine bP (kn:=[]) aa 9 rfl trivial ?_
 refine bU (n':=7) [49,53,57] [] rfl rfl (.inl ⟨(ah.plain rfl),aE.cast (bX 7 (wc x1 d.move d.sum b0 e0 hr0) Gp rfl rfl ⟨⟨_,rfl,.g ⟨.d _,.d _,.d _,.d _,.d _,.d _,.d _,.d _,trivial⟩⟩,⟨_,rfl,.c (.d _)⟩,⟨_,rfl,.c (.d _)⟩,trivial⟩ ⟨⟨trivial,trivial,trivial,trivial,trivial,trivial,trivial,trivial,trivial⟩,trivial,trivial⟩ trivial rfl rfl rfl rfl) rfl⟩) rfl ?_
 refine bP (n':=8) (kn:=[]) aa 6 rfl trivial ?_
 refine dJ [0,1,4,5,6,7] [7,6,5,0,1,2,3,4] rfl rfl (by kernel_rfl) ?_
 refine then_ok ?_
 refine ag ?_
 refine ae aa 2 rfl ?_
 refine aj rfl (fun hc5=>?_) (fun hc5=>?_)
 ·
  have hc5':=of_decide_eq_true hc5
  refine ae aa 3 rfl ?_
  refine ay ?_
  refine ar ?_
  have hX:dA b d=(b,(⟨e0,0⟩:Answer)):=by
    unfold dA;simp only [hdn,Bool.false_eq_true,if_false];rw [if_neg (by omega),hx1];dsimp only;simp only [hr0];(repeat' split)<;>first|rfl|omega|(exfalso;omega)|(simp_all;done)|(simp_all;omega)
  rw [hX] at hr;clear hX
  simp only [Prod.mk.injEq] at hr;obtain ⟨rfl,rfl⟩:=hr
  refine an aa [0,1,2,3,4,5] 5 rfl rfl rfl rfl rfl rfl ?_ ?_
  all_goals first|rfl|(simp [az,aX,bc];done)|(simp [az,aX,bc];omega)
 have hc5':=of_decide_eq_false hc5
 refine aP ?_
 obtain ⟨mw1,mw2,mc,ms,mk1,mk2,mn1,mn2⟩:=mb (show cu x1 d.move d.sum=(b0,0) by rw [hr0];congr 1;omega)
 have hoP:=okp x1 (List.mem_of_getElem? hx1)
 have hI0:∀ t∈b.s0.kept,eX t.number:=fun t ht=>(okk0 t ht).1
 have hI1:∀ t∈b.s1.kept,eX t.number:=fun t ht=>(okk1 t ht).1
 refine aF aa 1 rfl ?_
 refine aQ 17 [0,8,9,10,11,12,13,14,15,16,7,6,5] (cK id (bb [0,8,9,10,11,12,13,14,15,16]) (ke (x 17) (x 19) b (by first|omega|(simp;done)|(simp;omega)) (by first|omega|(simp;done)|(simp;omega)) (by first|omega|(simp;done)|(simp;omega)) (by first|omega|(simp;done)|(simp;omega))) qf rfl rfl ⟨⟨_,rfl,.inl ⟨rfl,rfl⟩⟩,trivial⟩ ⟨rfl,rfl,rfl,rfl,rfl,trivial⟩ rfl rfl rfl rfl rfl rfl trivial ⟨⟨trivial,trivial,trivial,trivial,trivial,trivial,trivial,trivial,trivial,trivial,trivial,trivial,trivial,trivial,trivial,trivial,trivial,trivial,trivial,trivial,trivial⟩,⟨trivial,trivial,trivial,trivial,trivial,trivial,trivial,trivial,trivial,trivial,trivial,trivial,trivial,trivial,trivial,trivial,trivial,trivial,trivial,trivial,trivial⟩,(fun _ _ _ _=>trivial),(fun _ _ _ _=>trivial),(fun _ _ _ _=>trivial),(fun _ _ _ _=>trivial),(fun _ _ _ _=>trivial),(fun _ _ _ _=>trivial),(fun _ _ _ _=>trivial),(fun _ _ _ _=>trivial),trivial⟩ rfl rfl rfl rfl) rfl ?_
 refine ad aa 1 rfl ?_
 refine af ?_
 refine ag ?_
 obtain ⟨e1,hr1⟩:∃ (e1:Int),bN b0=e1:=⟨_,rfl⟩
 have hhb1:=oa (show bK b0=0 by assumption)
 rw [hr1] at hhb1
 obtain ⟨e2,hr2⟩:∃ (e2:Int),bN x1=e2:=⟨_,rfl⟩
 have hhb2:=oa (show bK x1=0 by assumption)
 rw [hr2] at hhb2
 refine aW [0,1,4,5,6,8] [0,8,9,10,11,12,13,14,15,16,7,6,5] mixed rfl rfl ?_
 refine au (kn:=[]) aa 1 rfl trivial ?_
 refine aM (n':=17) [67] [] rfl rfl (.inl ⟨(ah.plain rfl),aE.cast (bX 17 (kl b0 (by first|assumption|omega|rfl|decide) e1 hr1) ya rfl rfl ⟨⟨_,rfl,.g ⟨.d _,.d _,.d _,.d _,.d _,.d _,.d _,.d _,trivial⟩⟩,trivial⟩ trivial trivial rfl rfl rfl rfl) rfl⟩) rfl ?_
 refine au (kn:=[]) aa 1 rfl trivial ?_
 refine aM (n':=17) [69] [] rfl rfl (.inl ⟨(ah.plain rfl),aE.cast (bX 17 (kl x1 (by first|assumption|omega|rfl|decide) e2 hr2) ya rfl rfl ⟨⟨_,rfl,.g ⟨.d _,.d _,.d _,.d _,.d _,.d _,.d _,.d _,trivial⟩⟩,trivial⟩ trivial trivial rfl rfl rfl rfl) rfl⟩) rfl ?_
 refine aM (n':=17) [68,70] [] rfl rfl (.inl ⟨(ah.plain rfl),aE.cast (aK rfl rfl rfl (aL (by first|omega|(simp;done)|(simp;omega)))) rfl⟩) rfl ?_
 refine au (kn:=[]) aa 1 rfl trivial ?_
 refine br [0,8,9,10,11,12,13,14,15,16,7,6,5] rfl rfl rfl rfl (by kernel_rfl) ?_
 refine af ?_
 refine ag ?_
 refine vF (J:=⟨[(0,(aC (.p 0 0 0 0))),(1,(aC (.q (df d) 0))),(4,(aC (.p 5 0 0 0))),(6,(aC (.p 7 0 0 0))),(8,(aC (.p 8 0 0 0))),(9,(aI (e1 - e2))),(93,(aB (decide (d.move=1/\d.sum > kB b.aq b0.aN))))],[(0,(.box 98 (aX b 9 10 11 12 (.d (.v (x 17))) (.d (.v (x 19)))))),(8,(.box 147 (aX b 13 14 15 16 (.d (.v (x 17))) (cI 0)))),(9,(dO b.aq)),(10,(dF b.due)),(11,(dR b.ax)),(12,(cP b.aR)),(13,(dO b.aq)),(14,(dF b.due)),(15,(dR b.ax)),(16,(cP b.aR)),(7,(.box 67 [(cI b0.aN),(cI b0.aD),(cI b0.sum),(cI b0.captured),(cI b0.bx),(cI b0.bn),(cI b0.cZ),(cB b0.shut)])),(5,(.box 65 [(cI 0),(cI 0)]))],17⟩) ?_ ?_
 ·
  rcases Bool.eq_false_or_eq_true (decide (d.move=1)) with hb6|hb6
  ·
   have hb6':=of_decide_eq_true hb6
   obtain ⟨x2,hx2⟩:=cb (xs:=b.aq) (i:=Int.toNat (b0.aN)) (by first|omega|(simp;done)|(simp;omega))
   have hx2g:=Af (okg x2 (List.mem_of_getElem? hx2))
   refine aW [0,1,4,6,8,9] [0,8,9,10,11,12,13,14,15,16,7,5] mixed rfl rfl ?_
   refine au (kn:=[(76,true)]) aa 17 rfl ⟨hb6,trivial⟩ ?_
   refine aM (n':=17) [86,88,77] [13] rfl rfl (.inl ⟨(ah.yes rfl rfl rfl),aE.cast (bw (i:=Int.toNat (b0.aN)) rfl rfl rfl Try.underlying29 iq (by first|omega|(simp;done)|(simp;omega)) (by first|omega|(simp;done)|(simp;omega))) rfl⟩) rfl ?_
   refine aM (n':=17) [89,77] [13] rfl rfl (.inl ⟨(ah.yes rfl rfl rfl),aE.cast (di rfl rfl rfl Try.underlying61 rfl iq (bf hx2) rfl) rfl⟩) rfl ?_
   refine aM (n':=17) [90,77] [] rfl rfl (.inl ⟨(ah.yes rfl rfl rfl),aE.cast (bX 17 (pA x2 (by first|assumption|omega|(constructor<;>decide)|(have hz:=iV (by first|assumption|omega);omega))) Ej rfl rfl ⟨⟨_,rfl,.g ⟨.d _,.d _,.d _,.d _,.d _,.d _,trivial⟩⟩,trivial⟩ trivial trivial rfl rfl rfl rfl) rfl⟩) rfl ?_
   refine au (kn:=[]) aa 2 rfl trivial ?_
   refine br [0,8,9,10,11,12,13,14,15,16,7,5] rfl rfl rfl rfl (by kernel_rfl) ?_
   refine af ?_
   rw [show (decide (d.move=1/\d.sum > kB b.aq b0.aN))=(decide (d.sum > (x2.bJ - x2.held))) by (unfold kB;rw [hx2];dsimp only;first|(simp_all;done)|(simp_all;omega))]
   exact aH.bS id (⟨rfl,rfl,rfl,rfl,rfl,rfl,rfl,trivial⟩) (⟨rfl,rfl,rfl,rfl,rfl,rfl,rfl,rfl,rfl,rfl,rfl,rfl,trivial⟩) rfl
  have hb6':=of_decide_eq_false hb6
  refine aW [0,1,4,6,8,9] [0,8,9,10,11,12,13,14,15,16,7,5] mixed rfl rfl ?_
  refine au (kn:=[(76,false)]) aa 22 rfl ⟨hb6,trivial⟩ ?_
  refine br [0,8,9,10,11,12,13,14,15,16,7,5] rfl rfl rfl rfl (by kernel_rfl) ?_
  refine af ?_
  rw [show (decide (d.move=1/\d.sum > kB b.aq b0.aN))=(false) by (unfold kB;first|(simp_all;done)|(simp_all;omega))]
  exact aH.bS id (⟨rfl,rfl,rfl,rfl,rfl,rfl,rfl,trivial⟩) (⟨rfl,rfl,rfl,rfl,rfl,rfl,rfl,rfl,rfl,rfl,rfl,rfl,trivial⟩) rfl
 refine aj rfl (fun hc7=>?_) (fun hc7=>?_)
 ·
  have hc7':=of_decide_eq_true hc7
  refine ae aa 2 rfl ?_
  refine ay ?_
  refine ar ?_
  have hX:dA b d=(b,(⟨10,0⟩:Answer)):=by
    unfold dA;simp only [hdn,Bool.false_eq_true,if_false];rw [if_neg (by omega),hx1];dsimp only;simp only [hr0];(repeat' split)<;>first|rfl|omega|(exfalso;omega)|(simp_all;done)|(simp_all;omega)
  rw [hX] at hr;clear hX
  simp only [Prod.mk.injEq] at hr;obtain ⟨rfl,rfl⟩:=hr
  refine an aa [0,9,10,11,12,5] 5 rfl rfl rfl rfl rfl rfl ?_ ?_
  all_goals first|rfl|(simp [az,aX,bc];done)|(simp [az,aX,bc];omega)
 have hc7':=of_decide_eq_false hc7
 refine aP ?_
 refine ag ?_
 refine aW [0,1,4,6,8,9] [0,8,9,10,11,12,13,14,15,16,7,5] mixed rfl rfl ?_
 refine au (kn:=[]) aa 2 rfl trivial ?_
 refine aM (n':=17) [96] [] rfl rfl (.inl ⟨(ah.plain rfl),aE.cast (aK rfl rfl rfl (aL (by first|omega|(simp;done)|(simp;omega)))) rfl⟩) rfl ?_
 refine au (n':=18) (kn:=[]) aa 11 rfl trivial ?_
 refine br [17,0,8,9,10,11,12,13,14,15,16,7,5] rfl rfl rfl rfl (by kernel_rfl) ?_
 refine ad aa 1 rfl ?_
 refine af ?_
 obtain ⟨jcards,jdue,jbook,js0,js1,je,hj⟩:∃ (jcards:List bI) (jdue:List Int) (jbook:List Entry) (js0:bY) (js1:bY) (je:Int),dS b b0 x1 d=(jcards,jdue,jbook,js0,js1,je):=⟨_,_,_,_,_,_,rfl⟩
 have hj0:=hj
 refine vF (J:=⟨[(0,(aC (.p 0 0 0 0))),(1,(aC (.q (df d) 0))),(4,(aC (.p 5 0 0 0))),(6,(aC (.p 7 0 0 0))),(8,(aC (.p 8 0 0 0)))],[(0,(.box 98 (aX b 9 10 11 12 (.d (.v (x 17))) (.d (.v (x 19)))))),(8,(.box 147 ((((((((aX b 13 14 15 16 (.d (.v (x 17))) (cI je)).set 2 (.s 13 0 6 jcards.length)).set 3 (.s 14 0 1 jdue.length)).set 5 (cI js0.bz)).set 6 (cw js0.kept)).set 7 (cI js1.bz)).set 8 (cw js1.kept)).set 18 (de jbook)))),(9,(dO b.aq)),(10,(dF b.due)),(11,(dR b.ax)),(12,(cP b.aR)),(13,(dO jcards)),(14,(dF jdue)),(15,(dR b.ax)),(16,(cP b.aR)),(7,(.box 67 [(cI b0.aN),(cI b0.aD),(cI b0.sum),(cI b0.captured),(cI b0.bx),(cI b0.bn),(cI b0.cZ),(cB b0.shut)])),(5,(.box 65 [(cI 0),(cI 0)]))],17⟩) ?_ ?_
 ·
  refine ae aa 4 rfl ?_
  refine aU ?_
  refine ag ?_
  refine ae aa 2 rfl ?_
  refine aj rfl (fun hc8=>?_) (fun hc8=>?_)
  ·
   have hc8':=of_decide_eq_true hc8
   refine aP ?_
   refine aj rfl (fun _=>?_) (fun hno=>absurd (hc8.symm.trans hno) (by decide))
   refine aw ?_
   refine ad aa 4 rfl ?_
   obtain ⟨l23,e23,hr3⟩:∃ (l23:List bI) (e23:Int),cH b.aq 0 b0.aN (e1 - e2) 0=(l23,e23):=⟨_,_,rfl⟩
   refine aQ 19 [8,18,17,0,9,10,11,12,14,15,16,7,5] (cq (bb [8,13]) (bb [8,18]) (ms:=((dw.set 2 (some (.s 1 0 6 b.aq.length))).set 19 (some (cI 0)))) (ms':=((dw.set 2 (some (.s 1 0 6 l23.length))).set 19 (some (cI e23)))) (fun x hx=>iK x hx b.aq 0 b0.aN (e1 - e2) 0 (by first|omega|(simp;done)|(simp;omega)) l23 e23 hr3) nk rfl rfl ⟨⟨_,rfl,.inl ⟨rfl,rfl⟩⟩,⟨_,rfl,.inr (.c (.d _))⟩,⟨_,rfl,.inr (.c (.d _))⟩,⟨_,rfl,.inr (.c (.d _))⟩,trivial⟩ rfl rfl rfl rfl rfl rfl rfl ⟨rfl,trivial⟩ rfl rfl rfl rfl rfl rfl rfl rfl rfl rfl rfl rfl rfl) rfl ?_
   refine cf ?_
   refine bl ?_
   refine then_ok ?_
   have hX:dS b b0 x1 d=(l23,b.due,b.book,b.s0,b.s1,e23):=by
     unfold dS;(try simp only [hr1,hr2,hr3]);(repeat' split)<;>first|rfl|omega|(exfalso;omega)|(simp_all;done)|(simp_all;omega)
   rw [hX] at hj;clear hX;simp only [Prod.mk.injEq] at hj;obtain ⟨rfl,rfl,rfl,rfl,rfl,rfl⟩:=hj
   exact aH.bS (fun k=>if k=13 then 18 else k) (by refine ⟨?_,?_,?_,?_,?_,trivial⟩<;>first|rfl|(simp only [bh];done)|(congr 3;omega)|(congr 4;omega)|(simp only [bj];rfl)) (by refine ⟨?_,?_,?_,?_,?_,?_,?_,?_,?_,?_,?_,?_,trivial⟩<;>first|rfl|(simp only [bh];done)|(congr 3;omega)|(congr 4;omega)|(simp only [bj];rfl)) rfl
  have hc8':=of_decide_eq_false hc8
  refine aw ?_
  refine ad aa 2 rfl ?_
  refine af ?_
  refine aj rfl (fun hc10=>?_) (fun hc10=>?_)
  ·
   have hc10':=of_decide_eq_true hc10
   refine aw ?_
   refine ad aa 4 rfl ?_
   obtain ⟨l24,e24,hr4⟩:∃ (l24:List bI) (e24:Int),cH b.aq 0 b0.aN (e1 - e2) 0=(l24,e24):=⟨_,_,rfl⟩
   refine aQ 19 [8,18,17,0,9,10,11,12,14,15,16,7,5] (cq (bb [8,13]) (bb [8,18]) (ms:=((dw.set 2 (some (.s 1 0 6 b.aq.length))).set 19 (some (cI 0)))) (ms':=((dw.set 2 (some (.s 1 0 6 l24.length))).set 19 (some (cI e24)))) (fun x hx=>iK x hx b.aq 0 b0.aN (e1 - e2) 0 (by first|omega|(simp;done)|(simp;omega)) l24 e24 hr4) nk rfl rfl ⟨⟨_,rfl,.inl ⟨rfl,rfl⟩⟩,⟨_,rfl,.inr (.c (.d _))⟩,⟨_,rfl,.inr (.c (.d _))⟩,⟨_,rfl,.inr (.c (.d _))⟩,trivial⟩ rfl rfl rfl rfl rfl rfl rfl ⟨rfl,trivial⟩ rfl rfl rfl rfl rfl rfl rfl rfl rfl rfl rfl rfl rfl) rfl ?_
   refine cf ?_
   refine bl ?_
   refine then_ok ?_
   have hX:dS b b0 x1 d=(l24,b.due,b.book,b.s0,b.s1,e24):=by
     unfold dS;(try simp only [hr1,hr2,hr4]);(repeat' split)<;>first|rfl|omega|(exfalso;omega)|(simp_all;done)|(simp_all;omega)
   rw [hX] at hj;clear hX;simp only [Prod.mk.injEq] at hj;obtain ⟨rfl,rfl,rfl,rfl,rfl,rfl⟩:=hj
   exact aH.bS (fun k=>if k=13 then 18 else k) (by refine ⟨?_,?_,?_,?_,?_,trivial⟩<;>first|rfl|(simp only [bh];done)|(congr 3;omega)|(congr 4;omega)|(simp only [bj];rfl)) (by refine ⟨?_,?_,?_,?_,?_,?_,?_,?_,?_,?_,?_,?_,trivial⟩<;>first|rfl|(simp only [bh];done)|(congr 3;omega)|(congr 4;omega)|(simp only [bj];rfl)) rfl
  have hc10':=of_decide_eq_false hc10
  refine ag ?_
  refine ae aa 2 rfl ?_
  refine aj rfl (fun hc11=>?_) (fun hc11=>?_)
  ·
   have hc11':=of_decide_eq_true hc11
   refine aP ?_
   refine aj rfl (fun _=>?_) (fun hno=>absurd (hc11.symm.trans hno) (by decide))
   refine ag ?_
   obtain ⟨l25,e25,hr5⟩:∃ (l25:List bI) (e25:Int),cH b.aq 0 b0.aN (e1 - e2) (0 - d.sum)=(l25,e25):=⟨_,_,rfl⟩
   refine dd [0,1,4,6,8,9,11,10] [17,0,8,9,10,11,12,13,14,15,16,7,5] mixed rfl rfl ?_
   refine bP (kn:=[]) aa 8 rfl trivial ?_
   refine bU (n':=18) [129] [] rfl rfl (.inl ⟨(ah.plain rfl),aE.cast (qS rfl rfl (aL (by first|omega|(simp;done)|(simp;omega)))) rfl⟩) rfl ?_
   refine bU (n':=19) [122,124,125,130] [13,8] rfl rfl (.inl ⟨(ah.plain rfl),aE.cast (cq (bb [8,13]) (bb [8,18]) (ms:=((dw.set 2 (some (.s 1 0 6 b.aq.length))).set 19 (some (cI 0)))) (ms':=((dw.set 2 (some (.s 1 0 6 l25.length))).set 19 (some (cI e25)))) (fun x hx=>iK x hx b.aq 0 b0.aN (e1 - e2) (0 - d.sum) (by first|omega|(simp;done)|(simp;omega)) l25 e25 hr5) nk rfl rfl ⟨⟨_,rfl,.inl ⟨rfl,rfl⟩⟩,⟨_,rfl,.inr (.c (.d _))⟩,⟨_,rfl,.inr (.c (.d _))⟩,⟨_,rfl,.inr (.c (.d _))⟩,trivial⟩ rfl rfl rfl rfl rfl rfl rfl ⟨rfl,trivial⟩ rfl rfl rfl rfl rfl rfl rfl rfl rfl rfl rfl rfl rfl) rfl⟩) rfl ?_
   refine dJ [0,1,4,6,8,11,10] [18,8,17,0,9,10,11,12,14,15,16,7,5] rfl rfl (by kernel_rfl) ?_
   refine then_ok ?_
   refine aF aa 6 rfl ?_
   obtain ⟨l26,e26,hr6⟩:∃ (l26:List Entry) (e26:Int),dV b.book e25 (10+b0.aN) 1 d.sum=(l26,e26):=⟨_,_,rfl⟩
   refine aQ 19 [8,18,17,0,9,10,11,12,14,15,16,7,5] (cq (bb [8]) (bb [8]) (ms:=((dw.set 18 (some (de b.book))).set 19 (some (cI e25)))) (ms':=((dw.set 18 (some (de l26))).set 19 (some (cI e26)))) (fun x hx=>iY x hx b.book e25 (10+b0.aN) 1 d.sum l26 e26 hr6) me rfl rfl ⟨⟨_,rfl,.inl ⟨rfl,rfl⟩⟩,⟨_,rfl,.inr (.c (.d _))⟩,⟨_,rfl,.inr (.c (.d _))⟩,⟨_,rfl,.inr (.c (.d _))⟩,trivial⟩ rfl rfl rfl rfl rfl rfl rfl trivial rfl rfl rfl rfl rfl rfl rfl rfl rfl rfl rfl rfl rfl) rfl ?_
   refine af ?_
   refine ae aa 2 rfl ?_
   refine aw ?_
   refine ad aa 2 rfl ?_
   obtain ⟨s27,e27,hr7⟩:∃ (s27:bY) (e27:Int),eF b.s0 e26 (⟨0,1,d.n,d.sum⟩:bq)=(s27,e27):=⟨_,_,rfl⟩
   refine aQ 19 [8,18,17,0,9,10,11,12,14,15,16,7,5] (cq (bb [8]) (bb [8]) (ms:=(((dw.set 5 (some (cI b.s0.bz))).set 6 (some (cw b.s0.kept))).set 19 (some (cI e26)))) (ms':=(((dw.set 5 (some (cI s27.bz))).set 6 (some (cw s27.kept))).set 19 (some (cI e27)))) (fun x hx=>rQ x hx b.s0 e26 (⟨0,1,d.n,d.sum⟩:bq) (by assumption) s27 e27 hr7) xX rfl rfl ⟨⟨_,rfl,.inl ⟨rfl,rfl⟩⟩,⟨_,rfl,.inr (.c (.d _))⟩,⟨_,rfl,.inr (.g ⟨.d _,.d _,.d _,.d _,trivial⟩)⟩,trivial⟩ rfl rfl rfl rfl rfl rfl rfl trivial rfl rfl rfl rfl rfl rfl rfl rfl rfl rfl rfl rfl rfl) rfl ?_
   refine cf ?_
   refine bl ?_
   refine then_ok ?_
   have hX:dS b b0 x1 d=(l25,b.due,l26,s27,b.s1,e27):=by
     unfold dS;(try simp only [hr1,hr2,hr5,hr6,hr7]);(repeat' split)<;>first|rfl|omega|(exfalso;omega)|(simp_all;done)|(simp_all;omega)
   rw [hX] at hj;clear hX;simp only [Prod.mk.injEq] at hj;obtain ⟨rfl,rfl,rfl,rfl,rfl,rfl⟩:=hj
   exact aH.bS (fun k=>if k=13 then 18 else k) (by refine ⟨?_,?_,?_,?_,?_,trivial⟩<;>first|rfl|(simp only [bh];done)|(congr 3;omega)|(congr 4;omega)|(simp only [bj];rfl)) (by refine ⟨?_,?_,?_,?_,?_,?_,?_,?_,?_,?_,?_,?_,trivial⟩<;>first|rfl|(simp only [bh];done)|(congr 3;omega)|(congr 4;omega)|(simp only [bj];rfl)) rfl
  have hc11':=of_decide_eq_false hc11
  refine aw ?_
  refine ad aa 2 rfl ?_
  refine af ?_
  refine aj rfl (fun hc13=>?_) (fun hc13=>?_)
  ·
   have hc13':=of_decide_eq_true hc13
   refine ag ?_
   obtain ⟨l28,e28,hr8⟩:∃ (l28:List bI) (e28:Int),cH b.aq 0 b0.aN (e1 - e2) (0 - d.sum)=(l28,e28):=⟨_,_,rfl⟩
   refine dd [0,1,4,6,8,9,11,10] [17,0,8,9,10,11,12,13,14,15,16,7,5] mixed rfl rfl ?_
   refine bP (kn:=[]) aa 8 rfl trivial ?_
   refine bU (n':=18) [129] [] rfl rfl (.inl ⟨(ah.plain rfl),aE.cast (qS rfl rfl (aL (by first|omega|(simp;done)|(simp;omega)))) rfl⟩) rfl ?_
   refine bU (n':=19) [122,124,125,130] [13,8] rfl rfl (.inl ⟨(ah.plain rfl),aE.cast (cq (bb [8,13]) (bb [8,18]) (ms:=((dw.set 2 (some (.s 1 0 6 b.aq.length))).set 19 (some (cI 0)))) (ms':=((dw.set 2 (some (.s 1 0 6 l28.length))).set 19 (some (cI e28)))) (fun x hx=>iK x hx b.aq 0 b0.aN (e1 - e2) (0 - d.sum) (by first|omega|(simp;done)|(simp;omega)) l28 e28 hr8) nk rfl rfl ⟨⟨_,rfl,.inl ⟨rfl,rfl⟩⟩,⟨_,rfl,.inr (.c (.d _))⟩,⟨_,rfl,.inr (.c (.d _))⟩,⟨_,rfl,.inr (.c (.d _))⟩,trivial⟩ rfl rfl rfl rfl rfl rfl rfl ⟨rfl,trivial⟩ rfl rfl rfl rfl rfl rfl rfl rfl rfl rfl rfl rfl rfl) rfl⟩) rfl ?_
   refine dJ [0,1,4,6,8,11,10] [18,8,17,0,9,10,11,12,14,15,16,7,5] rfl rfl (by kernel_rfl) ?_
   refine then_ok ?_
   refine aF aa 6 rfl ?_
   obtain ⟨l29,e29,hr9⟩:∃ (l29:List Entry) (e29:Int),dV b.book e28 (10+b0.aN) 1 d.sum=(l29,e29):=⟨_,_,rfl⟩
   refine aQ 19 [8,18,17,0,9,10,11,12,14,15,16,7,5] (cq (bb [8]) (bb [8]) (ms:=((dw.set 18 (some (de b.book))).set 19 (some (cI e28)))) (ms':=((dw.set 18 (some (de l29))).set 19 (some (cI e29)))) (fun x hx=>iY x hx b.book e28 (10+b0.aN) 1 d.sum l29 e29 hr9) me rfl rfl ⟨⟨_,rfl,.inl ⟨rfl,rfl⟩⟩,⟨_,rfl,.inr (.c (.d _))⟩,⟨_,rfl,.inr (.c (.d _))⟩,⟨_,rfl,.inr (.c (.d _))⟩,trivial⟩ rfl rfl rfl rfl rfl rfl rfl trivial rfl rfl rfl rfl rfl rfl rfl rfl rfl rfl rfl rfl rfl) rfl ?_
   refine af ?_
   refine ae aa 2 rfl ?_
   refine aw ?_
   refine ad aa 2 rfl ?_
   obtain ⟨s210,e210,hr10⟩:∃ (s210:bY) (e210:Int),eF b.s0 e29 (⟨0,1,d.n,d.sum⟩:bq)=(s210,e210):=⟨_,_,rfl⟩
   refine aQ 19 [8,18,17,0,9,10,11,12,14,15,16,7,5] (cq (bb [8]) (bb [8]) (ms:=(((dw.set 5 (some (cI b.s0.bz))).set 6 (some (cw b.s0.kept))).set 19 (some (cI e29)))) (ms':=(((dw.set 5 (some (cI s210.bz))).set 6 (some (cw s210.kept))).set 19 (some (cI e210)))) (fun x hx=>rQ x hx b.s0 e29 (⟨0,1,d.n,d.sum⟩:bq) (by assumption) s210 e210 hr10) xX rfl rfl ⟨⟨_,rfl,.inl ⟨rfl,rfl⟩⟩,⟨_,rfl,.inr (.c (.d _))⟩,⟨_,rfl,.inr (.g ⟨.d _,.d _,.d _,.d _,trivial⟩)⟩,trivial⟩ rfl rfl rfl rfl rfl rfl rfl trivial rfl rfl rfl rfl rfl rfl rfl rfl rfl rfl rfl rfl rfl) rfl ?_
   refine cf ?_
   refine bl ?_
   refine then_ok ?_
   have hX:dS b b0 x1 d=(l28,b.due,l29,s210,b.s1,e210):=by
     unfold dS;(try simp only [hr1,hr2,hr8,hr9,hr10]);(repeat' split)<;>first|rfl|omega|(exfalso;omega)|(simp_all;done)|(simp_all;omega)
   rw [hX] at hj;clear hX;simp only [Prod.mk.injEq] at hj;obtain ⟨rfl,rfl,rfl,rfl,rfl,rfl⟩:=hj
   exact aH.bS (fun k=>if k=13 then 18 else k) (by refine ⟨?_,?_,?_,?_,?_,trivial⟩<;>first|rfl|(simp only [bh];done)|(congr 3;omega)|(congr 4;omega)|(simp only [bj];rfl)) (by refine ⟨?_,?_,?_,?_,?_,?_,?_,?_,?_,?_,?_,?_,trivial⟩<;>first|rfl|(simp only [bh];done)|(congr 3;omega)|(congr 4;omega)|(simp only [bj];rfl)) rfl
  have hc13':=of_decide_eq_false hc13
  refine ae aa 2 rfl ?_
  refine aj rfl (fun hc14=>?_) (fun hc14=>?_)
  ·
   have hc14':=of_decide_eq_true hc14
   refine ag ?_
   obtain ⟨x2,hx2⟩:=cb (xs:=b.due) (i:=Int.toNat (b0.aD)) (by first|omega|(simp;done)|(simp;omega))
   refine aW [0,1,4,6,8,11] [17,0,8,9,10,11,12,13,14,15,16,7,5] mixed rfl rfl ?_
   refine au (kn:=[]) aa 7 rfl trivial ?_
   refine aM (n':=18) [149,151] [14] rfl rfl (.inl ⟨(ah.plain rfl),aE.cast (bw (i:=Int.toNat (b0.aD)) rfl rfl rfl Try.underlying30 fF (by first|omega|(simp;done)|(simp;omega)) (by first|omega|(simp;done)|(simp;omega))) rfl⟩) rfl ?_
   refine aM (n':=18) [152] [14] rfl rfl (.inl ⟨(ah.plain rfl),aE.cast (eH rfl rfl rfl Try.underlying3 rfl (bf hx2) rfl) rfl⟩) rfl ?_
   refine au (kn:=[]) aa 5 rfl trivial ?_
   refine aM (n':=18) [149,151] [14] rfl rfl (.inl ⟨(ah.plain rfl),aE.cast (bw (i:=Int.toNat (b0.aD)) rfl rfl rfl Try.underlying30 fF (by first|omega|(simp;done)|(simp;omega)) (by first|omega|(simp;done)|(simp;omega))) rfl⟩) rfl ?_
   refine br [17,0,8,9,10,11,12,13,14,15,16,7,5] rfl rfl rfl rfl (by kernel_rfl) ?_
   refine fZ [17,0,8,9,10,11,12,13,14,15,16,7,5] (dM (ds:=[(dI (IntKind.i64.wrap (x2 - d.sum)))]) rfl rfl rfl rfl rfl fF rfl (Nat.le_of_ble_eq_true rfl) (bf hx2) rfl (eK (x':=(IntKind.i64.wrap (x2 - d.sum))) rfl)) rfl ?_
   refine af ?_
   refine fw (k:=8) (q:=3) (c':=(.s 14 0 1 (((b.due).set (Int.toNat (b0.aD)) (IntKind.i64.wrap (x2 - d.sum))).length))) rfl rfl (by first|rfl|(simp;done)|(congr 1;omega)) rfl ?_
   refine ag ?_
   obtain ⟨l211,e211,hr11⟩:∃ (l211:List Entry) (e211:Int),dV b.book 0 (50+b0.aD) 1 d.sum=(l211,e211):=⟨_,_,rfl⟩
   refine dd [0,1,4,6,8,11] [17,0,8,9,10,11,12,13,14,15,16,7,5] mixed rfl rfl ?_
   refine bP (kn:=[]) aa 3 rfl trivial ?_
   refine bU (n':=18) [162] [] rfl rfl (.inl ⟨(ah.plain rfl),aE.cast (aK rfl rfl rfl (aL (by first|omega|(simp;done)|(simp;omega)))) rfl⟩) rfl ?_
   refine bP (kn:=[]) aa 4 rfl trivial ?_
   refine bU (n':=18) [160,163,167] [8] rfl rfl (.inl ⟨(ah.plain rfl),aE.cast (cq (bb [8]) (bb [8]) (ms:=((dw.set 18 (some (de b.book))).set 19 (some (cI 0)))) (ms':=((dw.set 18 (some (de l211))).set 19 (some (cI e211)))) (fun x hx=>iY x hx b.book 0 (50+b0.aD) 1 d.sum l211 e211 hr11) me rfl rfl ⟨⟨_,rfl,.inl ⟨rfl,rfl⟩⟩,⟨_,rfl,.inr (.c (.d _))⟩,⟨_,rfl,.inr (.c (.d _))⟩,⟨_,rfl,.inr (.c (.d _))⟩,trivial⟩ rfl rfl rfl rfl rfl rfl rfl trivial rfl rfl rfl rfl rfl rfl rfl rfl rfl rfl rfl rfl rfl) rfl⟩) rfl ?_
   refine dJ [0,1,4,6,8,11] [8,17,0,9,10,11,12,13,14,15,16,7,5] rfl rfl (by kernel_rfl) ?_
   refine then_ok ?_
   refine ae aa 2 rfl ?_
   refine aw ?_
   refine ad aa 2 rfl ?_
   obtain ⟨s212,e212,hr12⟩:∃ (s212:bY) (e212:Int),eF b.s1 e211 (⟨0,2,d.n,d.sum⟩:bq)=(s212,e212):=⟨_,_,rfl⟩
   refine aQ 18 [8,17,0,9,10,11,12,13,14,15,16,7,5] (cq (bb [8]) (bb [8]) (ms:=(((dw.set 7 (some (cI b.s1.bz))).set 8 (some (cw b.s1.kept))).set 19 (some (cI e211)))) (ms':=(((dw.set 7 (some (cI s212.bz))).set 8 (some (cw s212.kept))).set 19 (some (cI e212)))) (fun x hx=>CL x hx b.s1 e211 (⟨0,2,d.n,d.sum⟩:bq) (by assumption) s212 e212 hr12) xX rfl rfl ⟨⟨_,rfl,.inl ⟨rfl,rfl⟩⟩,⟨_,rfl,.inr (.c (.d _))⟩,⟨_,rfl,.inr (.g ⟨.d _,.d _,.d _,.d _,trivial⟩)⟩,trivial⟩ rfl rfl rfl rfl rfl rfl rfl trivial rfl rfl rfl rfl rfl rfl rfl rfl rfl rfl rfl rfl rfl) rfl ?_
   refine cf ?_
   refine bl ?_
   refine then_ok ?_
   have hX:dS b b0 x1 d=(b.aq,(b.due).set (Int.toNat (b0.aD)) (IntKind.i64.wrap (x2 - d.sum)),l211,b.s0,s212,e212):=by
     unfold dS;simp only [List.getD_eq_getElem?_getD,hx2,Option.getD_some];(try simp only [hr1,hr2,hr11,hr12,hx2]);(repeat' split)<;>first|rfl|omega|(exfalso;omega)|(simp_all;done)|(simp_all;omega)
   rw [hX] at hj;clear hX;simp only [Prod.mk.injEq] at hj;obtain ⟨rfl,rfl,rfl,rfl,rfl,rfl⟩:=hj
   exact aH.bS id (by refine ⟨?_,?_,?_,?_,?_,trivial⟩<;>first|rfl|(simp only [bh];done)|(congr 3;omega)|(congr 4;omega)|(simp only [bj];rfl)) (by refine ⟨?_,?_,?_,?_,?_,?_,?_,?_,?_,?_,?_,?_,trivial⟩<;>first|rfl|(simp only [bh];done)|(congr 3;omega)|(congr 4;omega)|(simp only [bj];rfl)) rfl
  have hc14':=of_decide_eq_false hc14
  refine ae aa 2 rfl ?_
  refine aj rfl (fun hc15=>?_) (fun hc15=>?_)
  ·
   have hc15':=of_decide_eq_true hc15
   refine ag ?_
   obtain ⟨l213,e213,hr13⟩:∃ (l213:List bI) (e213:Int),cH b.aq 0 b0.aN 0 d.sum=(l213,e213):=⟨_,_,rfl⟩
   refine dd [0,1,4,6,8,10] [0,8,9,10,11,12,13,14,15,16,7,5] mixed rfl rfl ?_
   refine bP (kn:=[]) aa 7 rfl trivial ?_
   refine bU (n':=19) [175,177,181] [13,8] rfl rfl (.inl ⟨(ah.plain rfl),aE.cast (cq (bb [8,13]) (bb [8,18]) (ms:=((dw.set 2 (some (.s 1 0 6 b.aq.length))).set 19 (some (cI 0)))) (ms':=((dw.set 2 (some (.s 1 0 6 l213.length))).set 19 (some (cI e213)))) (fun x hx=>iK x hx b.aq 0 b0.aN 0 d.sum (by first|omega|(simp;done)|(simp;omega)) l213 e213 hr13) nk rfl rfl ⟨⟨_,rfl,.inl ⟨rfl,rfl⟩⟩,⟨_,rfl,.inr (.c (.d _))⟩,⟨_,rfl,.inr (.c (.d _))⟩,⟨_,rfl,.inr (.c (.d _))⟩,trivial⟩ rfl rfl rfl rfl rfl rfl rfl ⟨rfl,trivial⟩ rfl rfl rfl rfl rfl rfl rfl rfl rfl rfl rfl rfl rfl) rfl⟩) rfl ?_
   refine dJ [0,1,4,6,8,10] [18,8,0,9,10,11,12,14,15,16,7,5] rfl rfl (by kernel_rfl) ?_
   refine then_ok ?_
   refine aw ?_
   refine ad aa 6 rfl ?_
   obtain ⟨l214,e214,hr14⟩:∃ (l214:List Entry) (e214:Int),dV b.book e213 2 (10+b0.aN) d.sum=(l214,e214):=⟨_,_,rfl⟩
   refine aQ 19 [8,18,0,9,10,11,12,14,15,16,7,5] (cq (bb [8]) (bb [8]) (ms:=((dw.set 18 (some (de b.book))).set 19 (some (cI e213)))) (ms':=((dw.set 18 (some (de l214))).set 19 (some (cI e214)))) (fun x hx=>iY x hx b.book e213 2 (10+b0.aN) d.sum l214 e214 hr14) me rfl rfl ⟨⟨_,rfl,.inl ⟨rfl,rfl⟩⟩,⟨_,rfl,.inr (.c (.d _))⟩,⟨_,rfl,.inr (.c (.d _))⟩,⟨_,rfl,.inr (.c (.d _))⟩,trivial⟩ rfl rfl rfl rfl rfl rfl rfl trivial rfl rfl rfl rfl rfl rfl rfl rfl rfl rfl rfl rfl rfl) rfl ?_
   refine cf ?_
   refine bl ?_
   refine then_ok ?_
   have hX:dS b b0 x1 d=(l213,b.due,l214,b.s0,b.s1,e214):=by
     unfold dS;(try simp only [hr1,hr2,hr13,hr14]);(repeat' split)<;>first|rfl|omega|(exfalso;omega)|(simp_all;done)|(simp_all;omega)
   rw [hX] at hj;clear hX;simp only [Prod.mk.injEq] at hj;obtain ⟨rfl,rfl,rfl,rfl,rfl,rfl⟩:=hj
   exact aH.bS (fun k=>if k=13 then 18 else k) (by refine ⟨?_,?_,?_,?_,?_,trivial⟩<;>first|rfl|(simp only [bh];done)|(congr 3;omega)|(congr 4;omega)|(simp only [bj];rfl)) (by refine ⟨?_,?_,?_,?_,?_,?_,?_,?_,?_,?_,?_,?_,trivial⟩<;>first|rfl|(simp only [bh];done)|(congr 3;omega)|(congr 4;omega)|(simp only [bj];rfl)) rfl
  have hc15':=of_decide_eq_false hc15
  refine ae aa 2 rfl ?_
  refine aj rfl (fun hc16=>?_) (fun hc16=>?_)
  ·
   have hc16':=of_decide_eq_true hc16
   refine ae aa 2 rfl ?_
   refine aw ?_
   refine ad aa 2 rfl ?_
   obtain ⟨s215,e215,hr15⟩:∃ (s215:bY) (e215:Int),eF b.s0 0 (⟨0,3,d.n,d.sum⟩:bq)=(s215,e215):=⟨_,_,rfl⟩
   refine aQ 18 [8,17,0,9,10,11,12,13,14,15,16,7,5] (cq (bb [8]) (bb [8]) (ms:=(((dw.set 5 (some (cI b.s0.bz))).set 6 (some (cw b.s0.kept))).set 19 (some (cI 0)))) (ms':=(((dw.set 5 (some (cI s215.bz))).set 6 (some (cw s215.kept))).set 19 (some (cI e215)))) (fun x hx=>rQ x hx b.s0 0 (⟨0,3,d.n,d.sum⟩:bq) (by assumption) s215 e215 hr15) xX rfl rfl ⟨⟨_,rfl,.inl ⟨rfl,rfl⟩⟩,⟨_,rfl,.inr (.c (.d _))⟩,⟨_,rfl,.inr (.g ⟨.d _,.d _,.d _,.d _,trivial⟩)⟩,trivial⟩ rfl rfl rfl rfl rfl rfl rfl trivial rfl rfl rfl rfl rfl rfl rfl rfl rfl rfl rfl rfl rfl) rfl ?_
   refine cf ?_
   refine bl ?_
   refine then_ok ?_
   have hX:dS b b0 x1 d=(b.aq,b.due,b.book,s215,b.s1,e215):=by
     unfold dS;(try simp only [hr1,hr2,hr15]);(repeat' split)<;>first|rfl|omega|(exfalso;omega)|(simp_all;done)|(simp_all;omega)
   rw [hX] at hj;clear hX;simp only [Prod.mk.injEq] at hj;obtain ⟨rfl,rfl,rfl,rfl,rfl,rfl⟩:=hj
   exact aH.bS id (by refine ⟨?_,?_,?_,?_,?_,trivial⟩<;>first|rfl|(simp only [bh];done)|(congr 3;omega)|(congr 4;omega)|(simp only [bj];rfl)) (by refine ⟨?_,?_,?_,?_,?_,?_,?_,?_,?_,?_,?_,?_,trivial⟩<;>first|rfl|(simp only [bh];done)|(congr 3;omega)|(congr 4;omega)|(simp only [bj];rfl)) rfl
  have hc16':=of_decide_eq_false hc16
  refine ae aa 2 rfl ?_
  refine aj rfl (fun hc17=>?_) (fun hc17=>?_)
  ·
   have hc17':=of_decide_eq_true hc17
   refine ag ?_
   obtain ⟨l216,e216,hr16⟩:∃ (l216:List bI) (e216:Int),cH b.aq 0 b0.aN 0 (0 - d.sum)=(l216,e216):=⟨_,_,rfl⟩
   refine dd [0,1,4,6,8,10] [0,8,9,10,11,12,13,14,15,16,7,5] mixed rfl rfl ?_
   refine bP (kn:=[]) aa 7 rfl trivial ?_
   refine bU (n':=18) [204] [] rfl rfl (.inl ⟨(ah.plain rfl),aE.cast (qS rfl rfl (aL (by first|omega|(simp;done)|(simp;omega)))) rfl⟩) rfl ?_
   refine bU (n':=19) [198,200,205] [13,8] rfl rfl (.inl ⟨(ah.plain rfl),aE.cast (cq (bb [8,13]) (bb [8,18]) (ms:=((dw.set 2 (some (.s 1 0 6 b.aq.length))).set 19 (some (cI 0)))) (ms':=((dw.set 2 (some (.s 1 0 6 l216.length))).set 19 (some (cI e216)))) (fun x hx=>iK x hx b.aq 0 b0.aN 0 (0 - d.sum) (by first|omega|(simp;done)|(simp;omega)) l216 e216 hr16) nk rfl rfl ⟨⟨_,rfl,.inl ⟨rfl,rfl⟩⟩,⟨_,rfl,.inr (.c (.d _))⟩,⟨_,rfl,.inr (.c (.d _))⟩,⟨_,rfl,.inr (.c (.d _))⟩,trivial⟩ rfl rfl rfl rfl rfl rfl rfl ⟨rfl,trivial⟩ rfl rfl rfl rfl rfl rfl rfl rfl rfl rfl rfl rfl rfl) rfl⟩) rfl ?_
   refine dJ [0,1,4,6,8,10] [18,8,0,9,10,11,12,14,15,16,7,5] rfl rfl (by kernel_rfl) ?_
   refine then_ok ?_
   refine aw ?_
   refine ad aa 6 rfl ?_
   obtain ⟨l217,e217,hr17⟩:∃ (l217:List Entry) (e217:Int),dV b.book e216 (10+b0.aN) 2 d.sum=(l217,e217):=⟨_,_,rfl⟩
   refine aQ 19 [8,18,0,9,10,11,12,14,15,16,7,5] (cq (bb [8]) (bb [8]) (ms:=((dw.set 18 (some (de b.book))).set 19 (some (cI e216)))) (ms':=((dw.set 18 (some (de l217))).set 19 (some (cI e217)))) (fun x hx=>iY x hx b.book e216 (10+b0.aN) 2 d.sum l217 e217 hr17) me rfl rfl ⟨⟨_,rfl,.inl ⟨rfl,rfl⟩⟩,⟨_,rfl,.inr (.c (.d _))⟩,⟨_,rfl,.inr (.c (.d _))⟩,⟨_,rfl,.inr (.c (.d _))⟩,trivial⟩ rfl rfl rfl rfl rfl rfl rfl trivial rfl rfl rfl rfl rfl rfl rfl rfl rfl rfl rfl rfl rfl) rfl ?_
   refine cf ?_
   refine bl ?_
   refine then_ok ?_
   have hX:dS b b0 x1 d=(l216,b.due,l217,b.s0,b.s1,e217):=by
     unfold dS;(try simp only [hr1,hr2,hr16,hr17]);(repeat' split)<;>first|rfl|omega|(exfalso;omega)|(simp_all;done)|(simp_all;omega)
   rw [hX] at hj;clear hX;simp only [Prod.mk.injEq] at hj;obtain ⟨rfl,rfl,rfl,rfl,rfl,rfl⟩:=hj
   exact aH.bS (fun k=>if k=13 then 18 else k) (by refine ⟨?_,?_,?_,?_,?_,trivial⟩<;>first|rfl|(simp only [bh];done)|(congr 3;omega)|(congr 4;omega)|(simp only [bj];rfl)) (by refine ⟨?_,?_,?_,?_,?_,?_,?_,?_,?_,?_,?_,?_,trivial⟩<;>first|rfl|(simp only [bh];done)|(congr 3;omega)|(congr 4;omega)|(simp only [bj];rfl)) rfl
  have hc17':=of_decide_eq_false hc17
  refine cG ?_
  refine bl ?_
  refine then_ok ?_
  have hX:dS b b0 x1 d=(b.aq,b.due,b.book,b.s0,b.s1,0):=by
    unfold dS;(try simp only [hr1,hr2]);(repeat' split)<;>first|rfl|omega|(exfalso;omega)|(simp_all;done)|(simp_all;omega)
  rw [hX] at hj;clear hX;simp only [Prod.mk.injEq] at hj;obtain ⟨rfl,rfl,rfl,rfl,rfl,rfl⟩:=hj
  exact aH.bS id (by refine ⟨?_,?_,?_,?_,?_,trivial⟩<;>first|rfl|(simp only [bh];done)|(congr 3;omega)|(congr 4;omega)|(simp only [bj];rfl)) (by refine ⟨?_,?_,?_,?_,?_,?_,?_,?_,?_,?_,?_,?_,trivial⟩<;>first|rfl|(simp only [bh];done)|(congr 3;omega)|(congr 4;omega)|(simp only [bj];rfl)) rfl
 refine ag ?_
 obtain ⟨l218,e218,hr18⟩:∃ (l218:List al) (e218:Int),iI b.aR je (⟨b0.aD,d.n,d.move,d.sum⟩:al)=(l218,e218):=⟨_,_,rfl⟩
 refine dd [0,1,4,6,8] [0,8,9,10,11,12,13,14,15,16,7,5] mixed rfl rfl ?_
 refine bP (kn:=[]) aa 16 rfl trivial ?_
 refine bU (n':=18) [214,229] [16,8] rfl rfl (.inl ⟨(ah.plain rfl),aE.cast (cq (bb [8,16]) (bb [8,17]) (ms:=((dw.set 16 (some (.s 1 0 4 b.aR.length))).set 19 (some (cI je)))) (ms':=((dw.set 16 (some (.s 1 0 4 l218.length))).set 19 (some (cI e218)))) (fun x hx=>Ew x hx b.aR je (⟨b0.aD,d.n,d.move,d.sum⟩:al) (by first|omega|(simp;done)|(simp;omega)) l218 e218 hr18) Gn rfl rfl ⟨⟨_,rfl,.inl ⟨rfl,rfl⟩⟩,⟨_,rfl,.inr (.g ⟨.d _,.d _,.d _,.d _,trivial⟩)⟩,trivial⟩ rfl rfl rfl rfl rfl rfl rfl ⟨rfl,trivial⟩ rfl rfl rfl rfl rfl rfl rfl rfl rfl rfl rfl rfl rfl) rfl⟩) rfl ?_
 refine dJ [0,1,4,6,8] [17,8,0,9,10,11,12,13,14,15,7,5] rfl rfl (by kernel_rfl) ?_
 refine then_ok ?_
 refine ag ?_
 refine aW [0,1,4,6,8] [17,8,0,9,10,11,12,13,14,15,7,5] mixed rfl rfl ?_
 refine au (kn:=[]) aa 10 rfl trivial ?_
 refine aM (n':=18) [235,239] [15] rfl rfl (.inl ⟨(ah.plain rfl),aE.cast (bw (i:=Int.toNat (d.n)) rfl rfl rfl Try.underlying31 kG (by first|omega|(simp;done)|(simp;omega)) (by first|omega|(simp;done)|(simp;omega))) rfl⟩) rfl ?_
 refine br [17,8,0,9,10,11,12,13,14,15,7,5] rfl rfl rfl rfl (by kernel_rfl) ?_
 refine fZ [17,8,0,9,10,11,12,13,14,15,7,5] (dM (ds:=[(dI b0.aN),(dI b0.aD),(dI b0.sum),(dI b0.captured),(dI b0.bx),(dI b0.bn),(dI b0.cZ),(dB b0.shut)]) rfl rfl rfl rfl rfl kG rfl (Nat.le_of_ble_eq_true rfl) (bf hx1) rfl (eK (x':=b0) rfl)) rfl ?_
 refine af ?_
 rcases (show e218=0\/¬e218=0 from by omega) with hs18|hs18
 ·
  refine fw (k:=8) (q:=4) (c':=(.s 15 0 8 (((b.ax).set (Int.toNat (d.n)) b0).length))) rfl rfl (by first|rfl|(simp;done)|(congr 1;omega)) rfl ?_
  refine aF aa 2 rfl ?_
  refine aQ 22 [0,18,19,20,21,7,5] (cK (bb [0,8,9,10,11,12,13,14,15,17]) (bb [0,18,19,20,21]) (fi (x 17) (x 19) b (⟨b.time,b.down,jcards,jdue,(b.ax).set (Int.toNat (d.n)) b0,js0,js1,b.n0,b.n1,b.w0,b.w1,b.ba,l218,jbook⟩:Bk) e218 (by first|assumption|omega)) fC rfl rfl ⟨⟨_,rfl,.inl ⟨rfl,rfl⟩⟩,⟨_,rfl,.inl ⟨rfl,rfl⟩⟩,trivial⟩ ⟨rfl,rfl,rfl,rfl,rfl,rfl,rfl,rfl,rfl,rfl,trivial⟩ rfl rfl rfl rfl rfl rfl trivial ⟨⟨trivial,trivial,trivial,trivial,trivial,trivial,trivial,trivial,trivial,trivial,trivial,trivial,trivial,trivial,trivial,trivial,trivial,trivial,trivial,trivial,trivial⟩,(fun _ _ _ _=>trivial),(fun _ _ _ _=>trivial),(fun _ _ _ _=>trivial),(fun _ _ _ _=>trivial),trivial⟩ rfl rfl rfl rfl) rfl ?_
  refine ad aa 2 rfl ?_
  refine af ?_
  refine ay ?_
  have hX:dA b d=((⟨b.time,b.down,jcards,jdue,(b.ax).set (Int.toNat (d.n)) b0,js0,js1,b.n0,b.n1,b.w0,b.w1,b.ba,l218,jbook⟩:Bk),(⟨e218,0⟩:Answer)):=by
    unfold dA;simp only [hdn,Bool.false_eq_true,if_false];rw [if_neg (by omega),hx1];dsimp only;simp only [hr0,hj0];unfold oS dt;simp only [hr18];(repeat' split)<;>first|rfl|omega|(exfalso;omega)|(simp_all;done)|(simp_all;omega)
  rw [hX] at hr;clear hX
  simp only [Prod.mk.injEq] at hr;obtain ⟨rfl,rfl⟩:=hr
  refine an aa [0,18,19,20,21,5] 5 rfl rfl rfl rfl rfl rfl ?_ ?_
  all_goals first|rfl|(simp [az,aX,bc];done)|(simp [az,aX,bc];omega)
 refine fw (k:=8) (q:=4) (c':=(.s 15 0 8 (((b.ax).set (Int.toNat (d.n)) b0).length))) rfl rfl (by first|rfl|(simp;done)|(congr 1;omega)) rfl ?_
 refine aF aa 2 rfl ?_
 refine aQ 22 [0,18,19,20,21,7,5] (cK (bb [0,8,9,10,11,12,13,14,15,17]) (bb [0,18,19,20,21]) (fS (x 17) (x 19) b (⟨b.time,b.down,jcards,jdue,(b.ax).set (Int.toNat (d.n)) b0,js0,js1,b.n0,b.n1,b.w0,b.w1,b.ba,l218,jbook⟩:Bk) e218 (by first|assumption|omega)) fC rfl rfl ⟨⟨_,rfl,.inl ⟨rfl,rfl⟩⟩,⟨_,rfl,.inl ⟨rfl,rfl⟩⟩,trivial⟩ ⟨rfl,rfl,rfl,rfl,rfl,rfl,rfl,rfl,rfl,rfl,trivial⟩ rfl rfl rfl rfl rfl rfl trivial ⟨⟨trivial,trivial,trivial,trivial,trivial,trivial,trivial,trivial,trivial,trivial,trivial,trivial,trivial,trivial,trivial,trivial,trivial,trivial,trivial,trivial,trivial⟩,(fun _ _ _ _=>trivial),(fun _ _ _ _=>trivial),(fun _ _ _ _=>trivial),(fun _ _ _ _=>trivial),trivial⟩ rfl rfl rfl rfl) rfl ?_
 refine ad aa 2 rfl ?_
 refine af ?_
 refine ay ?_
 have hX:dA b d=(b,(⟨e218,0⟩:Answer)):=by
   unfold dA;simp only [hdn,Bool.false_eq_true,if_false];rw [if_neg (by omega),hx1];dsimp only;simp only [hr0,hj0];unfold oS dt;simp only [hr18];(repeat' split)<;>first|rfl|omega|(exfalso;omega)|(simp_all;done)|(simp_all;omega)
 rw [hX] at hr;clear hX
 simp only [Prod.mk.injEq] at hr;obtain ⟨rfl,rfl⟩:=hr
 refine an aa [0,18,19,20,21,5] 5 rfl rfl rfl rfl rfl rfl ?_ ?_
 all_goals first|rfl|(simp [az,aX,bc];done)|(simp [az,aX,bc];omega)
theorem zP (x:Nat->Value) (hx:∀ i,(x i).oneCell'=true) (b:Bk) (d:bB) (ok:ct b) (hdn:b.down=true) (b2:Bk) (a2:Answer) (hr:dA b d=(b2,a2)):cJ Try.prog 64 [(.c (.p 0 0 0 0)),(.c (.q (df d) 0))] [(0,(.box 98 (aX b 1 2 3 4 (.d (.v (x 17))) (.d (.v (x 19)))))),(1,(dO b.aq)),(2,(dF b.due)),(3,(dR b.ax)),(4,(cP b.aR))] [0] (.v (.g [cI a2.err,cI a2.aZ])) [(0,(.box 98 (aX b2 1 2 3 4 (.d (.v (x 17))) (.d (.v (x 19)))))),(1,(dO b2.aq)),(2,(dF b2.due)),(3,(dR b2.ax)),(4,(cP b2.aR))]:=by
 refine cJ.mk 246 [(0,(aC (.p 0 0 0 0))),(1,(aC (.q (df d) 0)))] 5 Try.func64 rfl rfl rfl rfl rfl rfl rfl rfl rfl ?_
 intro W0 F0 T0 pg
 obtain ⟨okt,okc,okd,oka,oky,okw0,okw1,okp,okv,okk0,okk1,okg,okl0,okl1,okp0,okp1,okn0,okn1,okq⟩:=id ok
 refine ae aa 1 rfl ?_
 refine ag ?_
 refine ae aa 5 rfl ?_
 refine aj rfl (fun _=>?_) (fun hno=>absurd (hdn.symm.trans hno) (by decide))
 refine ae aa 2 rfl ?_
 refine ay ?_
 refine ar ?_
 have hX:dA b d=(b,(⟨12,0⟩:Answer)):=by
   unfold dA;rw [if_pos hdn]
 rw [hX] at hr;clear hX
 simp only [Prod.mk.injEq] at hr;obtain ⟨rfl,rfl⟩:=hr
 refine an aa [0,1,2,3,4,5] 5 rfl rfl rfl rfl rfl rfl ?_ ?_
 all_goals first|rfl|(simp [az,aX,bc];done)|(simp [az,aX,bc];omega)
theorem BC (x:Nat->Value) (hx:∀ i,(x i).oneCell'=true) (b:Bk) (d:bB) (ok:ct b) (b2:Bk) (a2:Answer) (hr:dA b d=(b2,a2)):cJ Try.prog 64 [(.c (.p 0 0 0 0)),(.c (.q (df d) 0))] [(0,(.box 98 (aX b 1 2 3 4 (.d (.v (x 17))) (.d (.v (x 19)))))),(1,(dO b.aq)),(2,(dF b.due)),(3,(dR b.ax)),(4,(cP b.aR))] [0] (.v (.g [cI a2.err,cI a2.aZ])) [(0,(.box 98 (aX b2 1 2 3 4 (.d (.v (x 17))) (.d (.v (x 19)))))),(1,(dO b2.aq)),(2,(dF b2.due)),(3,(dR b2.ax)),(4,(cP b2.aR))]:=by
  cases hdn:b.down
  ·exact zO x hx b d ok hdn b2 a2 hr
  ·exact zP x hx b d ok hdn b2 a2 hr
theorem fX {α:Type} {l:List α} {n:Nat} {x y:α} (h:y∈l.set n x):y∈l\/y=x:=List.mem_or_eq_of_mem_set h
theorem jw {l:List bI} {e k x y:Int} (h:∀ c∈l,cV c=0):∀ c∈(cH l e k x y).1,cV c=0:=by
 unfold cH
 split
 ·exact h
 ·rename_i c hc
  split
  ·rename_i h0
   intro z hz
   rcases fX hz with hz|rfl
   ·exact h z hz
   ·have he:(eb c x y).2=0:=by unfold dz at h0;split at h0<;>omega
    rcases pP (show eb c x y=((eb c x y).1,(eb c x y).2) from rfl) with ⟨h1,_⟩|h1
    ·exact absurd he h1
    ·exact h1.2.2.2.2.2.2.2
  ·exact h
theorem uG {time:Int} {n m:Nat}:∀ (l:List bH) (i:Nat) (aq:List bI) (ax:List bH) (e:Int),(∀ a∈l,bK a=0/\0<=a.aN/\a.aN < n/\0<=a.aD/\a.aD < m)->
  (∀ a∈ax,bK a=0/\0<=a.aN/\a.aN < n/\0<=a.aD/\a.aD < m)->(∀ c∈aq,cV c=0)->
  (∀ c∈(fI time l i aq ax e).1,cV c=0)/\(fI time l i aq ax e).1.length=aq.length/\(fI time l i aq ax e).2.1.length=ax.length/\
  (∀ a∈(fI time l i aq ax e).2.1,bK a=0/\0<=a.aN/\a.aN < n/\0<=a.aD/\a.aD < m)
 |[],_,_,_,_,_,h2,h3=>⟨h3,rfl,rfl,h2⟩
 |a::l,i,aq,ax,e,h1,h2,h3=>by
  have ha:=h1 a List.mem_cons_self
  obtain ⟨r1,r2,r3,r4⟩:=uG l (i+1) (cH aq e a.aN (bN (eg a time) - bN a) 0).1 (ax.set i (eg a time)) (cH aq e a.aN (bN (eg a time) - bN a) 0).2
   (fun x hx=>h1 x (List.mem_cons_of_mem _ hx)) (fun x hx=>by
    rcases fX hx with hx|rfl
    ·exact h2 x hx
    ·exact ⟨wQ ha.1,ha.2⟩) (jw h3)
  refine ⟨r1,r2.trans (fg _ _ _ _ _),r3.trans (List.length_set ..),r4⟩
theorem ct.late {b:Bk} (h:ct b):ct (gQ b):=by
 unfold gQ
 split
 ·obtain ⟨r1,r2,r3,r4⟩:=uG (time:=b.time) (n:=b.aq.length) (m:=b.due.length) b.ax 0 b.aq b.ax 0 h.perm h.perm h.right
  exact ⟨h.time,by rw [r2];exact h.aq,h.due,by rw [r3];exact h.ax,h.aR,h.w0,h.w1,by dsimp only;rw [r2];exact r4,by dsimp only;rw [r2];exact h.jr,by dsimp only;rw [r3];exact h.k0,by dsimp only;rw [r3];exact h.k1,r1,h.l0,h.l1,by dsimp only;rw [r3];exact h.p0,by dsimp only;rw [r3];exact h.p1,h.n0,h.n1,h.calm⟩
 ·exact h
theorem ct.dt {b c:Bk} {e:Int} (h:ct b) (hc:e=0->ct c):ct (dt b c e).1:=by
 unfold Dev.dt;split
 ·exact hc (by assumption)
 ·exact h
theorem fJ {e x:Int} (h:dz e x=0):e=0/\x=0:=by unfold dz at h;split at h<;>omega
theorem jD {l:List Entry} {e s d n:Int} (h:(dV l e s d n).2=0):e=0/\(jE l s d n).2=0/\(dV l e s d n).1=(jE l s d n).1:=by
 unfold dV at h ⊢
 split at h
 ·rename_i h1;rw [if_pos h1];have:=fJ h1;exact ⟨this.1,this.2,rfl⟩
 ·rename_i h1;exact absurd h h1
theorem ct.zI {b:Bk} (h:ct b) {cs:List bI} {bk:List Entry} (h1:∀ c∈cs,cV c=0) (h2:cs.length=b.aq.length):ct {b with aq:=cs,book:=bk}:=
 ⟨h.time,by rw [h2];exact h.aq,h.due,h.ax,h.aR,h.w0,h.w1,by dsimp only;rw [h2];exact h.perm,by dsimp only;rw [h2];exact h.jr,h.k0,h.k1,h1,h.l0,h.l1,h.p0,h.p1,h.n0,h.n1,h.calm⟩
theorem ct.load {b:Bk} (h:ct b) (d:bB):ct (fr b d).1:=by
 unfold fr
 split
 ·exact h
 split
 ·exact h
 ·exact h.dt fun _=>h.zI (jw h.right) (fg _ _ _ _ _)
theorem ct.CH {b:Bk} (h:ct b) {due:List Int} {bk:List Entry} (h2:due.length=b.due.length):ct {b with due:=due,book:=bk}:=
 ⟨h.time,h.aq,by rw [h2];exact h.due,h.ax,h.aR,h.w0,h.w1,by dsimp only;rw [h2];exact h.perm,by dsimp only;rw [h2];exact h.jr,h.k0,h.k1,h.right,h.l0,h.l1,h.p0,h.p1,h.n0,h.n1,h.calm⟩
theorem ct.ux {b:Bk} (h:ct b) (d:bB):ct (gk b d).1:=by
 unfold gk
 split
 ·exact h
 split
 ·exact h
 ·exact h.dt fun _=>h.CH (List.length_set ..)
theorem ct.cD {b:Bk} (h:ct b) (d:bB):ct (eQ b d).1:=by
 unfold eQ
 split
 ·exact h
 ·have h1:ct {b with time:=b.time+d.sum}:=by have:=h.time;exact h.tick (by omega) (by omega)
  dsimp only
  split
  ·exact h1
  ·exact h1.late
theorem sE {l:List cp} {ks:List bq} {n:Int} {p:cp} (h:p∈lK l ks n):p∈l\/(∃ t∈ks,p=⟨t,-1⟩)\/p=⟨⟨0,0,0,0⟩,n⟩:=by
 unfold lK at h
 simp only [List.mem_append,List.mem_map,List.mem_singleton] at h
 rcases h with (h|⟨t,ht,rfl⟩)|h
 ·exact .inl h
 ·exact .inr (.inl ⟨t,ht,rfl⟩)
 ·exact .inr (.inr h)
structure xg (b:Bk) (n:Nat) (w:List cp):Prop where
 len:w.length<=60
 own:∀ p∈w,p.seen < 0->eX p.ch.number/\0<=p.ch.aZ/\p.ch.aZ < n
theorem ct.ways {b:Bk} (h:ct b) {v0 v1:List cp} (h0:xg b b.ax.length v0) (h1:xg b b.ax.length v1):ct {b with w0:=v0,w1:=v1}:=
 ⟨h.time,h.aq,h.due,h.ax,h.aR,h0.len,h1.len,h.perm,h.jr,h.k0,h.k1,h.right,h.l0,h.l1,h0.own,h1.own,h.n0,h.n1,h.calm⟩
theorem ue {b:Bk} {w:List cp} {ks:List bq} {n:Int} (hn:0<=n) (h:xg b b.ax.length w) (hk:∀ t∈ks,eX t.number/\0<=t.aZ/\t.aZ < b.ax.length):xg b b.ax.length (ja w ks n).1:=by
 unfold ja
 split
 ·exact h
 ·refine ⟨by dsimp only;omega,fun p hp hs=>?_⟩
  rcases sE hp with hp|⟨t,ht,rfl⟩|rfl
  ·exact h.own p hp hs
  ·exact hk t ht
  ·simp at hs;omega
theorem ct.send {b:Bk} (h:ct b) (d:bB):ct {b with w0:=(ew b.s0 b.s1 b.n0 b.n1 b.w0 b.w1 d).1,w1:=(ew b.s0 b.s1 b.n0 b.n1 b.w0 b.w1 d).2.1}:=by
 have h0:xg b b.ax.length b.w0:=⟨h.w0,h.p0⟩
 have h1:xg b b.ax.length b.w1:=⟨h.w1,h.p1⟩
 unfold ew
 split
 ·exact h.ways h0 (ue h.n0 h1 h.k0)
 split
 ·exact h.ways (ue h.n1 h0 h.k1) h1
 ·exact h.ways h0 h1
theorem uf {s:bY} {e:Int} {t:bq} {n:Nat} (h:∀ t∈s.kept,eX t.number/\0<=t.aZ/\t.aZ < n) (hl:s.kept.length<=40) (ht:0<=t.aZ/\t.aZ < n):
  (∀ u∈(eF s e t).1.kept,eX u.number/\0<=u.aZ/\u.aZ < n)/\(eF s e t).1.kept.length<=40:=by
 unfold eF
 split
 ·rename_i h0
  have he:=(fJ h0).2
  unfold gj at he
  split at he
  ·rename_i h1;exact absurd he h1
  split at he
  ·rename_i h1;exact absurd he h1
  ·rename_i h1 h2
   have hp:(gj s t).1=ll s t:=by unfold gj;rw [if_neg h1,if_neg h2]
   have hw:(cO (ll s t)).err=0:=by omega
   have hr:=um hw
   dsimp only
   rw [hp]
   refine ⟨fun x hx=>?_,hr.1⟩
   rcases List.mem_append.1 hx with hx|hx
   ·exact h x hx
   ·obtain rfl:=List.mem_singleton.1 hx
    exact ⟨by have:=hr.2.1;have:=hr.2.2.1;constructor<;>simp only [ll,List.length_append] at *<;>omega,ht⟩
 ·exact ⟨h,hl⟩
theorem yY {l:List al} {e:Int} {r:al} (h:l.length<=100):(iI l e r).1.length<=100:=by
 unfold iI
 split
 ·exact h
 ·rw [List.length_append,List.length_singleton];omega
theorem xF {l:List al} {e:Int} {r:al} (h:(iI l e r).2=0):e=0/\l.length≠100/\(iI l e r).1=l++[r]:=by
 unfold iI at h ⊢
 split at h
 ·have:=(fJ h).2;omega
 ·rename_i h1;rw [if_neg h1];exact ⟨h,h1,rfl⟩
structure nC (n:Nat) (s:bY):Prop where
 own:∀ t∈s.kept,eX t.number/\0<=t.aZ/\t.aZ < n
 len:s.kept.length<=40
theorem ct.sO {b:Bk} (h:ct b):nC b.ax.length b.s0:=⟨h.k0,h.l0⟩
theorem ct.sN {b:Bk} (h:ct b):nC b.ax.length b.s1:=⟨h.k1,h.l1⟩
theorem nC.send {n:Nat} {s:bY} {e:Int} {t:bq} (h:nC n s) (ht:0<=t.aZ/\t.aZ < n):nC n (eF s e t).1:=⟨(uf h.own h.len ht).1,(uf h.own h.len ht).2⟩
theorem Bs {b:Bk} (h:ct b) (a cF:bH) (d:bB) (hn:0<=d.n/\d.n < b.ax.length):
  (∀ c∈(dS b a cF d).1,cV c=0)/\(dS b a cF d).1.length=b.aq.length/\(dS b a cF d).2.1.length=b.due.length/\
  nC b.ax.length (dS b a cF d).2.2.2.1/\nC b.ax.length (dS b a cF d).2.2.2.2.1:=by
 unfold dS
 have hc:∀ e k x y,(∀ c∈(cH b.aq e k x y).1,cV c=0)/\(cH b.aq e k x y).1.length=b.aq.length:=fun e k x y=>⟨jw h.right,fg _ _ _ _ _⟩
 split
 ·exact ⟨(hc ..).1,(hc ..).2,rfl,h.sO,h.sN⟩
 split
 ·exact ⟨(hc ..).1,(hc ..).2,rfl,h.sO.send hn,h.sN⟩
 split
 ·exact ⟨h.right,rfl,List.length_set ..,h.sO,h.sN.send hn⟩
 split
 ·exact ⟨(hc ..).1,(hc ..).2,rfl,h.sO,h.sN⟩
 split
 ·exact ⟨h.right,rfl,rfl,h.sO.send hn,h.sN⟩
 split
 ·exact ⟨(hc ..).1,(hc ..).2,rfl,h.sO,h.sN⟩
 ·exact ⟨h.right,rfl,rfl,h.sO,h.sN⟩
theorem ct.lx {b:Bk} (h:ct b) (d:bB):ct (dA b d).1:=by
 unfold dA
 split
 ·exact h
 split
 ·exact h
 rename_i hd hn
 have hn:0<=d.n/\d.n < b.ax.length:=by omega
 split
 ·exact h
 rename_i cF ho
 split
 ·exact h
 rename_i hm
 split
 ·exact h
 have hm:cu cF d.move d.sum=((cu cF d.move d.sum).1,0):=Prod.ext rfl (by dsimp only;omega)
 obtain ⟨m1,m2,m3,m4,_⟩:=mb hm
 obtain ⟨r1,r2,r3,r4,r5⟩:=Bs h (cu cF d.move d.sum).1 cF d hn
 have hp:=h.perm cF (List.mem_of_getElem? ho)
 unfold oS
 refine h.dt fun _=>⟨h.time,by rw [r2];exact h.aq,by rw [r3];exact h.due,by rw [List.length_set];exact h.ax,yY h.aR,h.w0,h.w1,fun a ha=>?_,by dsimp only;rw [r2,r3];exact h.jr,by dsimp only;rw [List.length_set];exact r4.own,by dsimp only;rw [List.length_set];exact r5.own,r1,r4.len,r5.len,by dsimp only;rw [List.length_set];exact h.p0,by dsimp only;rw [List.length_set];exact h.p1,h.n0,h.n1,h.calm⟩
 dsimp only
 rw [r2,r3]
 rcases fX ha with ha|rfl
 ·exact h.perm a ha
 ·exact ⟨m2,by rw [m3,m4];exact hp.2⟩
theorem nT {aN aD n time:Int} (h:(dm aN aD n time).2=0):bK (dm aN aD n time).1=0/\(dm aN aD n time).1=⟨aN,aD,n,0,0,0,time+100,false⟩/\¬(n < 1\/n > 1000000\/time < 0\/time > 1000000\/aN < 0\/aN > 7\/aD < 0\/aD > 7):=by
 unfold dm at h ⊢
 split at h
 ·cases h
 ·rename_i h1;rw [if_neg h1];exact ⟨qE (by dsimp only;omega),rfl,h1⟩
theorem AU {s:cA} {a:cg} (h:(cr s a).2=0):(cr s a).1.aT=s.aT++[a]:=by
 unfold cr at h ⊢
 split at h
 ·rename_i h1;exact absurd h h1
 split at h
 ·cases h
 split at h
 ·cases h
 split at h
 ·cases h
 ·rename_i h1 h2 h3 h4;rw [if_neg h1,if_neg h2,if_neg h3,if_neg h4]
theorem qW {e:Int} (h:gD e=0):e=0:=by unfold gD at h;split at h<;>omega
theorem ct.asks {b:Bk} (h:ct b) (d:bB):ct (dD b d).1:=by
 unfold dD
 split
 ·exact h
 rename_i hn
 have hlen:∀ a∈b.ba.aT++[(⟨d.n,d.aD,d.sum,b.time⟩:cg)],0<=a.aN/\a.aN < b.aq.length/\0<=a.aD/\a.aD < b.due.length:=fun a ha=>by
  rcases List.mem_append.1 ha with ha|ha
  ·exact h.jr a ha
  ·obtain rfl:=List.mem_singleton.1 ha;dsimp only;omega
 split
 ·split
  ·exact h
  split
  ·exact h
  rename_i h1 h2
  have he:=qW (show gD (cr b.ba ⟨d.n,d.aD,d.sum,b.time⟩).2=0 by omega)
  have hg:=AU he
  exact ⟨h.time,h.aq,h.due,by dsimp only;omega,h.aR,h.w0,h.w1,h.perm,by dsimp only;rw [hg];exact hlen,h.k0,h.k1,h.right,h.l0,h.l1,h.p0,h.p1,h.n0,h.n1,fun hf=>by dsimp only at hf;simp_all⟩
 split
 ·exact h
 split
 ·exact h
 split
 ·exact h
 rename_i h1 h2 h3 c hc
 split
 ·exact h
 rename_i h4
 obtain ⟨w1,w2,w3⟩:=nT (show (dm d.n d.aD d.sum b.time).2=0 by omega)
 have hcr:cV (dQ c d.sum b.time).1=0:=by
  rcases ql (show dQ c d.sum b.time=((dQ c d.sum b.time).1,(dQ c d.sum b.time).2) from rfl) with ⟨h5,_⟩|⟨h5,h6,h7,h8,h9,h10,h11,l,h12,h13⟩
  ·exact absurd h5 (by omega)
  ·rw [h13];have hr:=iV h6;exact oH (by dsimp only;omega) hr.2.2.2.2.1 (zW h12)
 have hq:=h.calm (by cases hd:b.down with|true=>exact absurd hd (by assumption)|false=>rfl)
 have hl:b.ax.length+1<=30:=by have:=h.ax;rw [hq] at this;simp only [List.length_nil] at this;omega
 have hk:∀ {n:Int},n < (b.ax.length:Int)->n < ((b.ax++[(dm d.n d.aD d.sum b.time).1]).length:Int):=fun hn=>by rw [List.length_append,List.length_singleton];omega
 refine ⟨h.time,by rw [List.length_set];exact h.aq,h.due,by dsimp only;rw [hq,List.length_append,List.length_singleton];exact hl,h.aR,h.w0,h.w1,fun a ha=>?_,by dsimp only;rw [List.length_set];exact h.jr,
  fun t ht=>⟨(h.k0 t ht).1,(h.k0 t ht).2.1,hk (h.k0 t ht).2.2⟩,fun t ht=>⟨(h.k1 t ht).1,(h.k1 t ht).2.1,hk (h.k1 t ht).2.2⟩,fun x hx=>?_,h.l0,h.l1,
  fun p hp hs=>⟨(h.p0 p hp hs).1,(h.p0 p hp hs).2.1,hk (h.p0 p hp hs).2.2⟩,fun p hp hs=>⟨(h.p1 p hp hs).1,(h.p1 p hp hs).2.1,hk (h.p1 p hp hs).2.2⟩,h.n0,h.n1,h.calm⟩
 ·dsimp only at ha ⊢
  rw [List.length_set]
  rcases List.mem_append.1 ha with ha|ha
  ·exact h.perm a ha
  ·obtain rfl:=List.mem_singleton.1 ha
   exact ⟨w1,by rw [w2];dsimp only;omega⟩
 ·rcases fX hx with hx|rfl
  ·exact h.right x hx
  ·exact hcr
theorem sM {α:Type} {p:α->Bool} {l:List α} {x:α} (h:x∈dK p l):x∈l:=(List.mem_filter.1 h).1
theorem nC.back {n:Nat} {s:bY} (h:nC n s) {seen:Int} (hb:(dZ s seen).2=0):nC n (dZ s seen).1:=by
 rcases oV (show dZ s seen=((dZ s seen).1,(dZ s seen).2) from rfl) with ⟨h1,_⟩|⟨_,_,_,_,h2⟩
 ·exact absurd hb h1
 ·rw [h2];exact ⟨fun t ht=>h.own t (sM ht),Nat.le_trans (List.length_filter_le ..) h.len⟩
theorem tS {ax:List bH} {due:List Int} {aq:List bI} {book:List Entry} {e:Int} {t:bq} (h:∀ c∈aq,cV c=0):
  (eE ax due aq book e t).1.length=due.length/\(∀ c∈(eE ax due aq book e t).2.1,cV c=0)/\(eE ax due aq book e t).2.1.length=aq.length:=by
 unfold eE
 split
 ·exact ⟨rfl,h,rfl⟩
 split
 ·exact ⟨List.length_set ..,h,rfl⟩
 split
 ·exact ⟨rfl,jw h,fg _ _ _ _ _⟩
 split
 ·exact ⟨List.length_set ..,h,rfl⟩
 ·exact ⟨rfl,h,rfl⟩
theorem mG {n:Int} {t:bq} (h:0<=n):0<=(hP n t).1:=by unfold hP;split<;>(dsimp only;omega)
theorem vd {α:Type} {l:List α} {n:Nat} {x:α} (h:x∈l.drop n):x∈l:=List.mem_of_mem_drop h
theorem ct.bJ {b:Bk} (h:ct b) {cs:List bI} {due:List Int} {bk:List Entry} (h1:∀ c∈cs,cV c=0) (h2:cs.length=b.aq.length) (h3:due.length=b.due.length):ct {b with aq:=cs,due:=due,book:=bk}:=
 ⟨h.time,by rw [h2];exact h.aq,by rw [h3];exact h.due,h.ax,h.aR,h.w0,h.w1,by dsimp only;rw [h2,h3];exact h.perm,by dsimp only;rw [h2,h3];exact h.jr,h.k0,h.k1,h1,h.l0,h.l1,h.p0,h.p1,h.n0,h.n1,h.calm⟩
theorem ct.xk {b:Bk} (h:ct b):ct {b with w0:=b.w0.drop 1}:=
 ⟨h.time,h.aq,h.due,h.ax,h.aR,by dsimp only;rw [List.length_drop];have:=h.w0;omega,h.w1,h.perm,h.jr,h.k0,h.k1,h.right,h.l0,h.l1,fun p hp=>h.p0 p (vd hp),h.p1,h.n0,h.n1,h.calm⟩
theorem ct.xj {b:Bk} (h:ct b):ct {b with w1:=b.w1.drop 1}:=
 ⟨h.time,h.aq,h.due,h.ax,h.aR,h.w0,by dsimp only;rw [List.length_drop];have:=h.w1;omega,h.perm,h.jr,h.k0,h.k1,h.right,h.l0,h.l1,h.p0,fun p hp=>h.p1 p (vd hp),h.n0,h.n1,h.calm⟩
theorem ct.ET {b:Bk} (h:ct b) {s:bY} (hs:nC b.ax.length s):ct {b with s0:=s}:=
 ⟨h.time,h.aq,h.due,h.ax,h.aR,h.w0,h.w1,h.perm,h.jr,hs.own,h.k1,h.right,hs.len,h.l1,h.p0,h.p1,h.n0,h.n1,h.calm⟩
theorem ct.ES {b:Bk} (h:ct b) {s:bY} (hs:nC b.ax.length s):ct {b with s1:=s}:=
 ⟨h.time,h.aq,h.due,h.ax,h.aR,h.w0,h.w1,h.perm,h.jr,h.k0,hs.own,h.right,h.l0,hs.len,h.p0,h.p1,h.n0,h.n1,h.calm⟩
theorem ct.BV {b:Bk} (h:ct b) {n:Int} (hn:0<=n):ct {b with n0:=n}:=
 ⟨h.time,h.aq,h.due,h.ax,h.aR,h.w0,h.w1,h.perm,h.jr,h.k0,h.k1,h.right,h.l0,h.l1,h.p0,h.p1,hn,h.n1,h.calm⟩
theorem ct.BU {b:Bk} (h:ct b) {n:Int} (hn:0<=n):ct {b with n1:=n}:=
 ⟨h.time,h.aq,h.due,h.ax,h.aR,h.w0,h.w1,h.perm,h.jr,h.k0,h.k1,h.right,h.l0,h.l1,h.p0,h.p1,h.n0,hn,h.calm⟩
theorem ct.BH {b:Bk} (h:ct b) (d:bB):ct (fE b d).1:=by
 unfold fE
 split
 ·exact h
 split
 ·exact h.xk
 split
 ·split
  ·rename_i hb;exact h.xk.ET (h.sO.back hb)
  ·exact h
 split
 ·obtain ⟨r1,r2,r3⟩:=tS (ax:=b.ax) (due:=b.due) (book:=b.book) (e:=0) (t:=(by assumption:cp).ch) h.right
  exact h.dt fun _=>(h.xk.BV (mG h.n0)).bJ r2 r3 r1
 ·exact h.xk.BV (mG h.n0)
theorem ct.BG {b:Bk} (h:ct b) (d:bB):ct (fD b d).1:=by
 unfold fD
 split
 ·exact h
 split
 ·exact h.xj
 split
 ·split
  ·rename_i hb;exact h.xj.ES (h.sN.back hb)
  ·exact h
 split
 ·obtain ⟨r1,r2,r3⟩:=tS (ax:=b.ax) (due:=b.due) (book:=b.book) (e:=0) (t:=(by assumption:cp).ch) h.right
  exact h.dt fun _=>(h.xj.BU (mG h.n1)).bJ r2 r3 r1
 ·exact h.xj.BU (mG h.n1)
theorem ct.ly {b:Bk} (h:ct b) (d:bB):ct (cv b d).1:=by
 unfold cv
 split
 ·exact h.BH d
 split
 ·exact h.BG d
 ·exact h
theorem oe {c:bI} {n:Int} (h:(eN c n).2=0):cV (eN c n).1=0/\(eN c n).1=⟨c.bJ,c.held+n,c.bV,c.cT⟩/\cV c=0/\1<=n/\n<=1000000:=by
 unfold eN at h ⊢
 split at h
 ·rename_i h1;exact absurd h h1
 split at h
 ·cases h
 ·rename_i h1 h2
  rw [if_neg h1,if_neg h2]
  have hw:cV c=0:=by omega
  have hr:=iV hw
  exact ⟨oH (by dsimp only;omega) hr.2.2.2.2.1 hr.2.2.2.2.2,rfl,hw,by omega,by omega⟩
theorem yA {n m:Nat}:∀ (l:List cg) (cs:List bI) (xs:List bH),(∀ a∈l,0<=a.aN/\a.aN < n/\0<=a.aD/\a.aD < m)->cs.length=n->
  (∀ a∈xs,bK a=0/\0<=a.aN/\a.aN < n/\0<=a.aD/\a.aD < m)->(∀ c∈cs,cV c=0)->
  (∀ c∈(ga l cs xs).1,cV c=0)/\(ga l cs xs).1.length=n/\(∀ a∈(ga l cs xs).2.1,bK a=0/\0<=a.aN/\a.aN < n/\0<=a.aD/\a.aD < m)/\xs.length<=(ga l cs xs).2.1.length/\(ga l cs xs).2.1.length<=xs.length+l.length
 |[],cs,xs,_,h2,h3,h4=>⟨h4,h2,h3,Nat.le_refl _,Nat.le_refl _⟩
 |x::l,cs,xs,h1,h2,h3,h4=>by
  unfold ga
  split
  ·exact ⟨h4,h2,h3,Nat.le_refl _,by dsimp only;omega⟩
  rename_i e1
  split
  ·exact ⟨h4,h2,h3,Nat.le_refl _,by dsimp only;omega⟩
  rename_i c hc
  split
  ·exact ⟨h4,h2,h3,Nat.le_refl _,by dsimp only;omega⟩
  rename_i e2
  have hx:=h1 x List.mem_cons_self
  obtain ⟨w1,w2,w3⟩:=nT (show (dm x.aN x.aD x.sum x.time).2=0 by omega)
  obtain ⟨f1,_⟩:=oe (show (eN c x.sum).2=0 by omega)
  obtain ⟨r1,r2,r3,r4,r5⟩:=yA l (cs.set x.aN.toNat (eN c x.sum).1) (xs++[(dm x.aN x.aD x.sum x.time).1]) (fun a ha=>h1 a (List.mem_cons_of_mem _ ha)) ((List.length_set ..).trans h2)
   (fun a ha=>by
    rcases List.mem_append.1 ha with ha|ha
    ·exact h3 a ha
    ·obtain rfl:=List.mem_singleton.1 ha;exact ⟨w1,by rw [w2];exact hx⟩)
   (fun z hz=>by
    rcases fX hz with hz|rfl
    ·exact h4 z hz
    ·exact f1)
  rw [List.length_append,List.length_singleton] at r4 r5
  exact ⟨r1,r2,r3,by omega,by rw [List.length_cons];omega⟩
theorem qj {s:cA} (h:(db s).2.2=0):bW s=0/\(db s).1=⟨s.cap,List.replicate s.used.length 0,[]⟩/\(db s).2.1=s.aT:=by
 unfold db at h ⊢
 split at h
 ·rename_i h1;exact absurd h h1
 ·rename_i h1;rw [if_neg h1];exact ⟨by omega,rfl,rfl⟩
theorem ct.Ah {b:Bk} (h:ct b) (h1:(db b.ba).2.2=0):ct {b with aq:=(ga (db b.ba).2.1 b.aq b.ax).1,ax:=(ga (db b.ba).2.1 b.aq b.ax).2.1,ba:=(db b.ba).1,down:=false}:=by
 obtain ⟨_,c1,c2⟩:=qj h1
 rw [c1,c2]
 obtain ⟨r1,r2,r3,r4,r5⟩:=yA b.ba.aT b.aq b.ax h.jr rfl h.perm h.right
 have hk:∀ {n:Int},n < (b.ax.length:Int)->n < ((ga b.ba.aT b.aq b.ax).2.1.length:Int):=fun hn=>by omega
 exact ⟨h.time,by rw [r2];exact h.aq,h.due,by have:=h.ax;simp only [List.length_nil];omega,h.aR,h.w0,h.w1,by dsimp only;rw [r2];exact r3,fun a ha=>by simp at ha,
  fun t ht=>⟨(h.k0 t ht).1,(h.k0 t ht).2.1,hk (h.k0 t ht).2.2⟩,fun t ht=>⟨(h.k1 t ht).1,(h.k1 t ht).2.1,hk (h.k1 t ht).2.2⟩,r1,h.l0,h.l1,
  fun p hp hs=>⟨(h.p0 p hp hs).1,(h.p0 p hp hs).2.1,hk (h.p0 p hp hs).2.2⟩,fun p hp hs=>⟨(h.p1 p hp hs).1,(h.p1 p hp hs).2.1,hk (h.p1 p hp hs).2.2⟩,h.n0,h.n1,fun _=>rfl⟩
theorem Ak {l:List cg} {q:Nat} {x:cg} {cs:List bI} {xs:List bH} {a:bH} {e1 e2:Int} (h:l[q]?=some x) (hn:dm x.aN x.aD x.sum x.time=(a,e1)) (hf:dz 0 e1=e2) (he:¬e2=0):ga (l.drop q) cs xs=(cs,xs,e2):=by
 rw [pL h,hn]
 have:e1=e2:=by unfold dz at hf;rw [if_pos rfl] at hf;exact hf
 subst this
 rw [if_pos he]
theorem Aj {l:List cg} {q:Nat} {x:cg} {cs:List bI} {xs:List bH} {a:bH} {c k:bI} {e1 e3 e4:Int} (h:l[q]?=some x) (hn:dm x.aN x.aD x.sum x.time=(a,e1)) (hf1:dz 0 e1=0) (hc:cs[x.aN.toNat]?=some c)
  (hF:eN c x.sum=(k,e3)) (hf:dz 0 e3=e4) (he:¬e4=0):ga (l.drop q) cs xs=(cs,xs,e4):=by
 rw [pL h,hn,hc]
 have h1:e1=0:=(fJ hf1).2
 have:e3=e4:=by unfold dz at hf;rw [if_pos rfl] at hf;exact hf
 subst this h1
 dsimp only
 rw [if_neg (by simp),hF,if_pos he]
theorem Ai {l:List cg} {q:Nat} {x:cg} {cs:List bI} {xs:List bH} {a:bH} {c k:bI} {e1 e3:Int} (h:l[q]?=some x) (hn:dm x.aN x.aD x.sum x.time=(a,e1)) (hf1:dz 0 e1=0) (hc:cs[x.aN.toNat]?=some c)
  (hF:eN c x.sum=(k,e3)) (hf:dz 0 e3=0):ga (l.drop q) cs xs=ga (l.drop (q+1)) (cs.set x.aN.toNat k) (xs++[a]):=by
 rw [pL h,hn,hc]
 have h1:e1=0:=(fJ hf1).2
 have h3:e3=0:=(fJ hf).2
 subst h3 h1
 dsimp only
 rw [if_neg (by simp),hF,if_neg (by simp)]
theorem Cl {l:List cg} {q:Nat} {cs:List bI} {xs:List bH} (h:¬q < l.length):ga (l.drop q) cs xs=(cs,xs,0):=by
 rw [List.drop_of_length_le (by omega)];rfl
theorem yB {b:Bk} {s:cA} {l:List cg} {cs:List bI} {xs:List bH} {e:Int} (hd:b.down=true) (h:db b.ba=(s,l,0)) (hL:ga l b.aq b.ax=(cs,xs,e)) (he:¬e=0):iv b=(b,⟨e,0⟩):=by
 unfold iv
 rw [if_neg (by rw [hd];simp),h]
 dsimp only
 rw [if_neg (by simp),hL]
 dsimp only
 rw [if_pos he]
theorem CX {b:Bk} {s:cA} {l:List cg} {cs:List bI} {xs:List bH} (hd:b.down=true) (h:db b.ba=(s,l,0)) (hL:ga l b.aq b.ax=(cs,xs,0)):
  iv b=(gQ {b with aq:=cs,ax:=xs,ba:=s,down:=false},⟨0,0⟩):=by
 unfold iv
 rw [if_neg (by rw [hd];simp),h]
 dsimp only
 rw [if_neg (by simp),hL]
 dsimp only
 rw [if_neg (by simp)]
theorem ct.EO {b:Bk} (hb:ct b) {s:cA} {l:List cg} {cs:List bI} {xs:List bH} (h:db b.ba=(s,l,0)) (hL:ga l b.aq b.ax=(cs,xs,0)):
  ct {b with aq:=cs,ax:=xs,ba:=s,down:=false}:=by
 have:=hb.Ah (by rw [h])
 rw [h] at this;dsimp only at this;rw [hL] at this;exact this
theorem ct.CU {b:Bk} (h:ct b):ct (iv b).1:=by
 unfold iv
 split
 ·exact h
 split
 ·exact h
 split
 ·exact h
 ·exact (h.Ah (by omega)).late
theorem ct.pQ {b:Bk} (h:ct b) {t:List al} (ht:t.length<=100):ct {b with aR:=t}:=
 ⟨h.time,h.aq,h.due,h.ax,ht,h.w0,h.w1,h.perm,h.jr,h.k0,h.k1,h.right,h.l0,h.l1,h.p0,h.p1,h.n0,h.n1,h.calm⟩
theorem lL {t:List al} {y:List (List Int)} (h:t.length<=100):(gC t y).1.length<=100/\(gC t y).2.1.length<=y.length+1:=by
 unfold gC
 split
 ·exact ⟨h,Nat.le_succ _⟩
 ·exact ⟨by simp,by simp⟩
theorem ct.Br {b:Bk} (h:ct b) (y:List (List Int)) (d:bB):ct (ff b y d).1/\(ff b y d).2.1.length<=y.length+1:=by
 unfold ff
 split
 ·exact ⟨h.load d,Nat.le_succ _⟩
 split
 ·exact ⟨h.asks d,Nat.le_succ _⟩
 split
 ·exact ⟨h.lx d,Nat.le_succ _⟩
 split
 ·exact ⟨h.cD d,Nat.le_succ _⟩
 split
 ·exact ⟨h.send d,Nat.le_succ _⟩
 split
 ·exact ⟨h.ly d,Nat.le_succ _⟩
 split
 ·split
  ·exact ⟨h,Nat.le_succ _⟩
  ·exact ⟨⟨h.time,h.aq,h.due,h.ax,h.aR,h.w0,h.w1,h.perm,h.jr,h.k0,h.k1,h.right,h.l0,h.l1,h.p0,h.p1,h.n0,h.n1,fun h=>by cases h⟩,Nat.le_succ _⟩
 split
 ·exact ⟨h.CU,Nat.le_succ _⟩
 split
 ·exact ⟨h.pQ (lL h.aR).1,(lL (y:=y) h.aR).2⟩
 split
 ·exact ⟨h.ux d,Nat.le_succ _⟩
 ·exact ⟨h,Nat.le_succ _⟩
theorem ct.once {b:Bk} (h:ct b) (y:List (List Int)) (told:List (Int×Answer)) (cl:Nat) (d:bB):ct (eG b y told cl d).1/\(eG b y told cl d).2.1.length<=y.length+1:=by
 unfold eG
 split
 ·exact ⟨h,Nat.le_succ _⟩
 ·exact h.Br y d
theorem sF:∀ {l:List ey} {i:Int},(nR l i).err=0->∀ p∈l,fq p=0
 |p::l,i,h,x,hx=>by
  unfold nR at h
  split at h
  ·rename_i h1;exact absurd h h1
  ·rename_i h1
   rcases List.mem_cons.1 hx with rfl|hx
   ·omega
   ·exact sF h x hx
theorem kD {s:Setup} (h:(eu s).err=0):s.cX.length<=8/\0<=s.gn/\s.gn<=8/\0<=s.cap/\s.cap<=1000000/\∀ p∈s.cX,fq p=0:=by
 unfold eu at h
 split at h
 ·cases h
 split at h
 ·cases h
 ·exact ⟨by omega,by omega,by omega,by omega,by omega,sF h⟩
theorem ct.start {s:Setup} (h:(eu s).err=0):ct (gS s):=by
 obtain ⟨h1,h2,h3,h4,h5,h6⟩:=kD h
 have hn:dC s.cap s.cX.length=({cap:=s.cap,used:=List.replicate s.cX.length 0,aT:=[]},0):=pq h1 ⟨h4,h5⟩
 unfold gS
 rw [hn]
 refine ⟨by dsimp only;omega,by simpa using h1,by simp;omega,by simp,by simp,by simp,by simp,by simp,by simp,by simp,by simp,fun c hc=>?_,by simp,by simp,by simp,by simp,by simp,by simp,fun _=>rfl⟩
 obtain ⟨p,hp,rfl⟩:=List.mem_map.1 hc
 exact oH (c:=⟨0,0,p,[]⟩) (by dsimp only;omega) (h6 p hp) (rr.2 ⟨by simp,by simp,by simp⟩)
end Go.Proofs.Ytegepioggeggaaa.Dev
