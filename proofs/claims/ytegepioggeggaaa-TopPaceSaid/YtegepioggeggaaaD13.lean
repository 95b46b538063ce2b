/- A part of the proof: Bank8, Bank9, PlOk. No condition. -/
import Derived.Test.YtegepioggeggaaaD11
set_option linter.unusedVariables false
set_option linter.unusedSimpArgs false
set_option maxHeartbeats 8000000
set_option maxRecDepth 100000
namespace Go.Proofs.Ytegepioggeggaaa.Dev
open Go.RowKit

theorem Eb (x:Nat->Value) (hx:∀ i,(x i).oneCell'=true) (b:Bk) (d:aV) (ok:cj b) (hdn:b.down=false) (b2:Bk) (a2:Answer) (hr:du b d=(b2,a2)):cA Try.prog 63 [(.c (.p 0 0 0 0)),(.c (.q (cP d) 0))] [(0,(.box 98 (aU b 1 2 3 4 (.d (.v (x 17))) (.d (.v (x 19)))))),(1,(dK b.ao)),(2,(dC b.due)),(3,(dS b.aq)),(4,(cK b.aS))] [0] (.v (.g [cI a2.err,cI a2.ba])) [(0,(.box 98 (aU b2 1 2 3 4 (.d (.v (x 17))) (.d (.v (x 19)))))),(1,(dK b2.ao)),(2,(dC b2.due)),(3,(dS b2.aq)),(4,(cK b2.aS))]:=by
 refine cA.mk 214 [(0,(aC (.p 0 0 0 0))),(1,(aC (.q (cP d) 0)))] 5 Try.func63 rfl rfl rfl rfl rfl rfl rfl rfl rfl ?_
 intro W0 F0 T0 pg
 obtain ⟨okt,okc,okd,oka,oky,okw0,okw1,okp,okv,okk0,okk1,okg,okl0,okl1,okp0,okp1,okn0,okn1,okq⟩:=id ok
 refine ad aa 1 rfl ?_
 refine af ?_
 refine af ?_
 rcases Bool.eq_false_or_eq_true (decide (d.n < 0)) with hb1|hb1
 ·
  have hb1':=of_decide_eq_true hb1
  refine bc [0,1,4] [5,0,1,2,3,4] mixed rfl rfl ?_
  refine aA (kn:=[(14,true)]) aa 38 rfl ⟨hb1,trivial⟩ ?_
  refine bC [5,0,1,2,3,4] rfl rfl rfl rfl (by kernel_rfl) ?_
  refine ae ?_
  refine ag rfl (fun _=>?_) (fun hno=>by cases hno)
  refine ad aa 2 rfl ?_
  refine ax ?_
  refine an ?_
  have hX:du b d=(b,(⟨6,0⟩:Answer)):=by
    unfold du;(try simp only [hdn,Bool.false_eq_true,if_false]);(repeat' split)<;>first|rfl|omega|(exfalso;omega)|(simp_all;done)|(simp_all;omega)
  rw [hX] at hr;clear hX
  simp only [Prod.mk.injEq] at hr;obtain ⟨rfl,rfl⟩:=hr
  refine al aa [0,1,2,3,4,5] 5 rfl rfl rfl rfl rfl rfl ?_ ?_
  all_goals first|rfl|(simp [ar,aU,bb];done)|(simp [ar,aU,bb];omega)
 have hb1':=of_decide_eq_false hb1
 rcases Bool.eq_false_or_eq_true (decide (d.n>=(↑b.ao.length:Int))) with hb3|hb3
 ·
  have hb3':=of_decide_eq_true hb3
  refine bc [0,1,4] [5,0,1,2,3,4] mixed rfl rfl ?_
  refine aA (kn:=[(14,false)]) aa 15 rfl ⟨hb1,trivial⟩ ?_
  refine aT (n':=6) [24,15] [1] rfl rfl (.inl ⟨(ah.yes rfl rfl rfl),aJ.cast (dm rfl rfl rfl rfl rfl Try.underlying29) rfl⟩) rfl ?_
  refine aA (kn:=[(26,true)]) aa 22 rfl ⟨hb3,trivial⟩ ?_
  refine bC [5,0,1,2,3,4] rfl rfl rfl rfl (by kernel_rfl) ?_
  refine ae ?_
  refine ag rfl (fun _=>?_) (fun hno=>by cases hno)
  refine ad aa 2 rfl ?_
  refine ax ?_
  refine an ?_
  have hX:du b d=(b,(⟨6,0⟩:Answer)):=by
    unfold du;(try simp only [hdn,Bool.false_eq_true,if_false]);(repeat' split)<;>first|rfl|omega|(exfalso;omega)|(simp_all;done)|(simp_all;omega)
  rw [hX] at hr;clear hX
  simp only [Prod.mk.injEq] at hr;obtain ⟨rfl,rfl⟩:=hr
  refine al aa [0,1,2,3,4,5] 5 rfl rfl rfl rfl rfl rfl ?_ ?_
  all_goals first|rfl|(simp [ar,aU,bb];done)|(simp [ar,aU,bb];omega)
 have hb3':=of_decide_eq_false hb3
 rcases Bool.eq_false_or_eq_true (decide (d.az < 0)) with hb5|hb5
 ·
  have hb5':=of_decide_eq_true hb5
  refine bc [0,1,4] [5,0,1,2,3,4] mixed rfl rfl ?_
  refine aA (kn:=[(14,false)]) aa 15 rfl ⟨hb1,trivial⟩ ?_
  refine aT (n':=6) [24,15] [1] rfl rfl (.inl ⟨(ah.yes rfl rfl rfl),aJ.cast (dm rfl rfl rfl rfl rfl Try.underlying29) rfl⟩) rfl ?_
  refine aA (kn:=[(26,false),(33,true)]) aa 22 rfl ⟨hb3,hb5,trivial⟩ ?_
  refine bC [5,0,1,2,3,4] rfl rfl rfl rfl (by kernel_rfl) ?_
  refine ae ?_
  refine ag rfl (fun _=>?_) (fun hno=>by cases hno)
  refine ad aa 2 rfl ?_
  refine ax ?_
  refine an ?_
  have hX:du b d=(b,(⟨6,0⟩:Answer)):=by
    unfold du;(try simp only [hdn,Bool.false_eq_true,if_false]);(repeat' split)<;>first|rfl|omega|(exfalso;omega)|(simp_all;done)|(simp_all;omega)
  rw [hX] at hr;clear hX
  simp only [Prod.mk.injEq] at hr;obtain ⟨rfl,rfl⟩:=hr
  refine al aa [0,1,2,3,4,5] 5 rfl rfl rfl rfl rfl rfl ?_ ?_
  all_goals first|rfl|(simp [ar,aU,bb];done)|(simp [ar,aU,bb];omega)
 have hb5':=of_decide_eq_false hb5
 refine bc [0,1,4] [5,0,1,2,3,4] mixed rfl rfl ?_
 refine aA (kn:=[(14,false)]) aa 15 rfl ⟨hb1,trivial⟩ ?_
 refine aT (n':=6) [24,15] [1] rfl rfl (.inl ⟨(ah.yes rfl rfl rfl),aJ.cast (dm rfl rfl rfl rfl rfl Try.underlying29) rfl⟩) rfl ?_
 refine aA (kn:=[(26,false),(33,false)]) aa 19 rfl ⟨hb3,hb5,trivial⟩ ?_
 refine aT (n':=6) [44,35] [2] rfl rfl (.inl ⟨(ah.yes rfl rfl rfl),aJ.cast (dm rfl rfl rfl rfl rfl Try.underlying30) rfl⟩) rfl ?_
 refine aA (kn:=[]) aa 2 rfl trivial ?_
 refine bC [5,0,1,2,3,4] rfl rfl rfl rfl (by kernel_rfl) ?_
 refine ae ?_
 refine ag rfl (fun hc7=>?_) (fun hc7=>?_)
 ·
  have hc7':=of_decide_eq_true hc7
  refine ad aa 2 rfl ?_
  refine ax ?_
  refine an ?_
  have hX:du b d=(b,(⟨6,0⟩:Answer)):=by
    unfold du;(try simp only [hdn,Bool.false_eq_true,if_false]);(repeat' split)<;>first|rfl|omega|(exfalso;omega)|(simp_all;done)|(simp_all;omega)
  rw [hX] at hr;clear hX
  simp only [Prod.mk.injEq] at hr;obtain ⟨rfl,rfl⟩:=hr
  refine al aa [0,1,2,3,4,5] 5 rfl rfl rfl rfl rfl rfl ?_ ?_
  all_goals first|rfl|(simp [ar,aU,bb];done)|(simp [ar,aU,bb];omega)
 have hc7':=of_decide_eq_false hc7
 refine aP ?_
 refine af ?_
 refine ad aa 5 rfl ?_
 refine ag rfl (fun hno=>absurd (hdn.symm.trans hno) (by decide)) (fun _=>?_)
 refine aP ?_
 refine af ?_
 obtain ⟨b0,e0,hr0⟩:∃ (b0:bB) (e0:Int),cV d.n d.az d.sum b.time=(b0,e0):=⟨_,_,rfl⟩
 refine cZ [0,1,4] [5,0,1,2,3,4] mixed rfl rfl ?_
 refine bQ (kn:=[]) aa 17 rfl trivial ?_
 refine bU (n':=6) [123,127,131,136] [] rfl rfl (.inl ⟨(ah.plain rfl),aJ.cast (bP 6 (rp d.n d.az d.sum b.time b0 e0 hr0) DH rfl rfl ⟨⟨_,rfl,.c (.d _)⟩,⟨_,rfl,.c (.d _)⟩,⟨_,rfl,.c (.d _)⟩,⟨_,rfl,.c (.d _)⟩,trivial⟩ ⟨⟨trivial,trivial,trivial,trivial,trivial,trivial,trivial,trivial,trivial⟩,trivial,trivial⟩ trivial rfl rfl rfl rfl) rfl⟩) rfl ?_
 refine bQ (n':=7) (kn:=[]) aa 6 rfl trivial ?_
 refine dL [0,1,4,7,8] [6,5,0,1,2,3,4] rfl rfl (by kernel_rfl) ?_
 refine then_ok ?_
 refine af ?_
 refine cp 150 ((decide (e0=0)) && (decide ((↑b.aq.length:Int)=30))) ?_ ?_
 ·
  refine aw ?_
  refine ab aa 3 rfl ?_
  refine bw (t:=142) rfl (fun hb9=>?_) (fun hb9=>?_)
  ·
   have hb9':=of_decide_eq_true hb9
   refine ab aa 5 rfl ?_
   refine dD (ah.yes rfl rfl rfl) (dm rfl rfl rfl rfl rfl Try.underlying31) rfl rfl ?_
   refine ab aa 2 rfl ?_
   refine ae ?_
   exact aD.bA 12 rfl rfl (by first|(simp [hb9];done)|(simp_all;done)|(exfalso;simp_all;done)|(simp_all;omega)) rfl
  have hb9':=of_decide_eq_false hb9
  refine ab aa 8 rfl ?_
  refine ae ?_
  exact aD.bA 12 rfl rfl (by first|(simp [hb9];done)|(simp_all;done)|(exfalso;simp_all;done)|(simp_all;omega)) rfl
 refine ag rfl (fun hc10=>?_) (fun hc10=>?_)
 ·
  have hc10':=hc10;try simp only [bl,bJ] at hc10'
  refine aw ?_
  refine ab aa 1 rfl ?_
  refine ae ?_
  refine af ?_
  refine aE aa 1 rfl ?_
  refine ay (aK rfl rfl rfl (show _=some (Value.bool true) from rfl)) rfl ?_
  refine ae ?_
  refine ag rfl (fun _=>?_) (fun hno=>by cases hno)
  refine ad aa 3 rfl ?_
  refine ax ?_
  refine an ?_
  have hX:du b d=(b,(⟨5,0⟩:Answer)):=by
    unfold du;(try simp only [hdn,Bool.false_eq_true,if_false,hr0]);(repeat' split)<;>first|rfl|omega|(exfalso;omega)|(simp_all;done)|(simp_all;omega)
  rw [hX] at hr;clear hX
  simp only [Prod.mk.injEq] at hr;obtain ⟨rfl,rfl⟩:=hr
  refine al aa [0,1,2,3,4,5] 5 rfl rfl rfl rfl rfl rfl ?_ ?_
  all_goals first|rfl|(simp [ar,aU,bb];done)|(simp [ar,aU,bb];omega)
 have hc10':=hc10;try simp only [bl,bJ] at hc10'
 refine aP ?_
 refine af ?_
 refine ad aa 2 rfl ?_
 refine ag rfl (fun hc12=>?_) (fun hc12=>?_)
 ·
  have hc12':=of_decide_eq_true hc12
  refine ad aa 3 rfl ?_
  refine ax ?_
  refine an ?_
  have hX:du b d=(b,(⟨e0,0⟩:Answer)):=by
    unfold du;(try simp only [hdn,Bool.false_eq_true,if_false,hr0]);(repeat' split)<;>first|rfl|omega|(exfalso;omega)|(simp_all;done)|(simp_all;omega)
  rw [hX] at hr;clear hX
  simp only [Prod.mk.injEq] at hr;obtain ⟨rfl,rfl⟩:=hr
  refine al aa [0,1,2,3,4,5] 5 rfl rfl rfl rfl rfl rfl ?_ ?_
  all_goals first|rfl|(simp [ar,aU,bb];done)|(simp [ar,aU,bb];omega)
 have hc12':=of_decide_eq_false hc12
 refine aP ?_
 refine af ?_
 obtain ⟨x1,hx1⟩:=cq (xs:=b.ao) (i:=Int.toNat (d.n)) (by first|omega|(simp;done)|(simp;omega))
 obtain ⟨xr1,e1,hr1⟩:∃ (xr1:bD) (e1:Int),dx x1 d.sum b.time=(xr1,e1):=⟨_,_,rfl⟩
 refine cZ [0,1,4,7] [6,5,0,1,2,3,4] mixed rfl rfl ?_
 refine bQ (kn:=[]) aa 9 rfl trivial ?_
 refine bU (n':=7) [160,164] [1] rfl rfl (.inl ⟨(ah.plain rfl),aJ.cast (br (i:=Int.toNat (d.n)) rfl rfl rfl Try.underlying29 iH (by first|omega|(simp;done)|(simp;omega)) (by first|omega|(simp;done)|(simp;omega))) rfl⟩) rfl ?_
 refine bU (n':=7) [165] [1] rfl rfl (.inl ⟨(ah.plain rfl),aJ.cast (dc rfl rfl rfl Try.underlying61 rfl iH (bu hx1) rfl) rfl⟩) rfl ?_
 refine bQ (kn:=[]) aa 9 rfl trivial ?_
 refine bU (n':=7) [166,170,175] [] rfl rfl (.inl ⟨(ah.plain rfl),aJ.cast (bP 7 (Fn.frozen (av':=(.t [(.g [(cI xr1.bx),(cI xr1.held),(cI xr1.bZ.aO),(cI xr1.bZ.count),(cI xr1.bZ.sum),(fj xr1.cM)]),(.c (cI e1))])) (vo x1 d.sum b.time xr1 e1 hr1) ⟨⟨.inl ⟨_,rfl,rfl⟩,.inl ⟨_,rfl,rfl⟩,.inl ⟨_,rfl,rfl⟩,.inl ⟨_,rfl,rfl⟩,.inl ⟨_,rfl,rfl⟩,.inr ⟨_,_,_,_,_,rfl,rfl,rfl,by simp⟩,trivial⟩,.inl ⟨_,rfl,rfl⟩,trivial⟩) FL rfl rfl ⟨⟨_,rfl,.g ⟨.d _,.d _,.d _,.d _,.d _,.d _,trivial⟩⟩,⟨_,rfl,.c (.d _)⟩,⟨_,rfl,.c (.d _)⟩,trivial⟩ ⟨⟨trivial,trivial,trivial,trivial,trivial,trivial,trivial⟩,trivial,trivial⟩ trivial rfl rfl rfl rfl) rfl⟩) rfl ?_
 refine bQ (n':=8) (kn:=[]) aa 6 rfl trivial ?_
 refine dL [0,1,4,7,9,8] [7,6,5,0,1,2,3,4] rfl rfl (by kernel_rfl) ?_
 refine then_ok ?_
 refine af ?_
 refine ad aa 2 rfl ?_
 refine ag rfl (fun hc13=>?_) (fun hc13=>?_)
 ·
  have hc13':=of_decide_eq_true hc13
  refine ad aa 3 rfl ?_
  refine ax ?_
  refine an ?_
  have hX:du b d=(b,(⟨e1,0⟩:Answer)):=by
    unfold du;(try simp only [hdn,Bool.false_eq_true,if_false,hr0,hr1,hx1]);(repeat' split)<;>first|rfl|omega|(exfalso;omega)|(simp_all;done)|(simp_all;omega)
  rw [hX] at hr;clear hX
  simp only [Prod.mk.injEq] at hr;obtain ⟨rfl,rfl⟩:=hr
  refine al aa [0,1,2,3,4,5] 5 rfl rfl rfl rfl rfl rfl ?_ ?_
  all_goals first|rfl|(simp [ar,aU,bb];done)|(simp [ar,aU,bb];omega)
 have hc13':=of_decide_eq_false hc13
 refine aP ?_
 refine af ?_
 refine bc [0,1,4,7,9] [7,6,5,0,1,2,3,4] mixed rfl rfl ?_
 refine aA (kn:=[]) aa 10 rfl trivial ?_
 refine aT (n':=8) [187,191] [1] rfl rfl (.inl ⟨(ah.plain rfl),aJ.cast (br (i:=Int.toNat (d.n)) rfl rfl rfl Try.underlying29 iH (by first|omega|(simp;done)|(simp;omega)) (by first|omega|(simp;done)|(simp;omega))) rfl⟩) rfl ?_
 refine bC [7,6,5,0,1,2,3,4] rfl rfl rfl rfl (by kernel_rfl) ?_
 refine fV [7,6,5,0,1,2,3,4] (dH (ds:=[(dI xr1.bx),(dI xr1.held),(dI xr1.bZ.aO),(dI xr1.bZ.count),(dI xr1.bZ.sum),(DS xr1.cM)]) rfl rfl rfl rfl rfl iH rfl (Nat.le_of_ble_eq_true rfl) (bu hx1) rfl (eG (x':=xr1) rfl)) rfl ?_
 refine ae ?_
 refine fq (k:=0) (q:=2) (c':=(.s 1 0 6 (((b.ao).set (Int.toNat (d.n)) xr1).length))) rfl rfl (by first|rfl|(simp;done)|(congr 1;omega)) rfl ?_
 refine af ?_
 refine bc [0,4,7] [6,5,0,1,2,3,4] mixed rfl rfl ?_
 refine aA (kn:=[]) aa 7 rfl trivial ?_
 refine aT (n':=9) [200] [] rfl rfl (.inl ⟨(ah.plain rfl),aJ.cast (dv (ys:=[(0,(.g [(cI b0.aL),(cI b0.az),(cI b0.sum),(cI b0.captured),(cI b0.bz),(cI b0.bm),(cI b0.cQ),(cB b0.shut)]))]) (rows:=([b0]).map ix) 8 rF rfl (by decide) ⟨⟨rfl,rfl⟩,trivial⟩ rfl rfl rfl rfl) rfl⟩) rfl ?_
 refine aT (n':=10) [199,201] [8,3] rfl rfl (.inl ⟨(ah.plain rfl),aJ.cast (dd (m:=1) (N:=b.aq.length+1) (k2:=9) (ys:=([b0]).map ix) rF rfl rfl rfl rfl rfl rfl (by first|omega|(simp;done)|(simp;omega)) rfl (.s rfl (by first|omega|(simp;done)|(simp;omega))) (by first|omega|(simp;done)|(simp;omega)) (by first|omega|(simp;done)|(simp;omega)) eP (by decide) (by first|omega|(simp;done)|(simp;omega)) (by first|omega|(simp;done)|(simp;omega))) rfl⟩) rfl ?_
 refine aA (kn:=[]) aa 3 rfl trivial ?_
 refine bC [9,6,5,0,1,2,4] rfl rfl rfl rfl (by kernel_rfl) ?_
 refine ab aa 1 rfl ?_
 refine ae ?_
 refine fq (k:=0) (q:=4) (c':=(.s 9 0 8 ((b.aq++([b0])).length))) rfl rfl (by first|rfl|(simp;done)|(congr 1;omega)) rfl ?_
 refine aE aa 5 rfl ?_
 refine ay (dm rfl rfl rfl rfl rfl Try.underlying31) rfl ?_
 refine ay (aK rfl rfl rfl (aH (by first|omega|(simp;done)|(simp;omega)))) rfl ?_
 refine ab aa 2 rfl ?_
 refine ae ?_
 refine ax ?_
 have hX:du b d=((⟨b.time,b.down,(b.ao).set (Int.toNat (d.n)) xr1,b.due,b.aq++([b0]),b.s0,b.s1,b.n0,b.n1,b.w0,b.w1,b.bF,b.aS,b.book⟩:Bk),(⟨0,(↑((b.aq++([b0])).length):Int) - 1⟩:Answer)):=by
   unfold du;(try simp only [hdn,Bool.false_eq_true,if_false,hr0,hr1,hx1]);(repeat' split)<;>first|rfl|omega|(exfalso;omega)|(simp_all;done)|(simp_all;omega)
 rw [hX] at hr;clear hX
 simp only [Prod.mk.injEq] at hr;obtain ⟨rfl,rfl⟩:=hr
 refine al aa [0,1,2,9,4,5] 5 rfl rfl rfl rfl rfl rfl ?_ ?_
 all_goals first|rfl|(simp [ar,aU,bb];done)|(simp [ar,aU,bb];omega)
theorem Ec (x:Nat->Value) (hx:∀ i,(x i).oneCell'=true) (b:Bk) (d:aV) (ok:cj b) (hdn:b.down=true) (b2:Bk) (a2:Answer) (hr:du b d=(b2,a2)):cA Try.prog 63 [(.c (.p 0 0 0 0)),(.c (.q (cP d) 0))] [(0,(.box 98 (aU b 1 2 3 4 (.d (.v (x 17))) (.d (.v (x 19)))))),(1,(dK b.ao)),(2,(dC b.due)),(3,(dS b.aq)),(4,(cK b.aS))] [0] (.v (.g [cI a2.err,cI a2.ba])) [(0,(.box 98 (aU b2 1 2 3 4 (.d (.v (x 17))) (.d (.v (x 19)))))),(1,(dK b2.ao)),(2,(dC b2.due)),(3,(dS b2.aq)),(4,(cK b2.aS))]:=by
 refine cA.mk 214 [(0,(aC (.p 0 0 0 0))),(1,(aC (.q (cP d) 0)))] 5 Try.func63 rfl rfl rfl rfl rfl rfl rfl rfl rfl ?_
 intro W0 F0 T0 pg
 obtain ⟨okt,okc,okd,oka,oky,okw0,okw1,okp,okv,okk0,okk1,okg,okl0,okl1,okp0,okp1,okn0,okn1,okq⟩:=id ok
 refine ad aa 1 rfl ?_
 refine af ?_
 refine af ?_
 rcases Bool.eq_false_or_eq_true (decide (d.n < 0)) with hb1|hb1
 ·
  have hb1':=of_decide_eq_true hb1
  refine bc [0,1,4] [5,0,1,2,3,4] mixed rfl rfl ?_
  refine aA (kn:=[(14,true)]) aa 38 rfl ⟨hb1,trivial⟩ ?_
  refine bC [5,0,1,2,3,4] rfl rfl rfl rfl (by kernel_rfl) ?_
  refine ae ?_
  refine ag rfl (fun _=>?_) (fun hno=>by cases hno)
  refine ad aa 2 rfl ?_
  refine ax ?_
  refine an ?_
  have hX:du b d=(b,(⟨6,0⟩:Answer)):=by
    unfold du gr;(try simp only [hdn,if_true]);(repeat' split)<;>first|rfl|omega|(exfalso;omega)|(simp_all;done)|(simp_all;omega)
  rw [hX] at hr;clear hX
  simp only [Prod.mk.injEq] at hr;obtain ⟨rfl,rfl⟩:=hr
  refine al aa [0,1,2,3,4,5] 5 rfl rfl rfl rfl rfl rfl ?_ ?_
  all_goals first|rfl|(simp [ar,aU,bb];done)|(simp [ar,aU,bb];omega)
 have hb1':=of_decide_eq_false hb1
 rcases Bool.eq_false_or_eq_true (decide (d.n>=(↑b.ao.length:Int))) with hb3|hb3
 ·
  have hb3':=of_decide_eq_true hb3
  refine bc [0,1,4] [5,0,1,2,3,4] mixed rfl rfl ?_
  refine aA (kn:=[(14,false)]) aa 15 rfl ⟨hb1,trivial⟩ ?_
  refine aT (n':=6) [24,15] [1] rfl rfl (.inl ⟨(ah.yes rfl rfl rfl),aJ.cast (dm rfl rfl rfl rfl rfl Try.underlying29) rfl⟩) rfl ?_
  refine aA (kn:=[(26,true)]) aa 22 rfl ⟨hb3,trivial⟩ ?_
  refine bC [5,0,1,2,3,4] rfl rfl rfl rfl (by kernel_rfl) ?_
  refine ae ?_
  refine ag rfl (fun _=>?_) (fun hno=>by cases hno)
  refine ad aa 2 rfl ?_
  refine ax ?_
  refine an ?_
  have hX:du b d=(b,(⟨6,0⟩:Answer)):=by
    unfold du gr;(try simp only [hdn,if_true]);(repeat' split)<;>first|rfl|omega|(exfalso;omega)|(simp_all;done)|(simp_all;omega)
  rw [hX] at hr;clear hX
  simp only [Prod.mk.injEq] at hr;obtain ⟨rfl,rfl⟩:=hr
  refine al aa [0,1,2,3,4,5] 5 rfl rfl rfl rfl rfl rfl ?_ ?_
  all_goals first|rfl|(simp [ar,aU,bb];done)|(simp [ar,aU,bb];omega)
 have hb3':=of_decide_eq_false hb3
 rcases Bool.eq_false_or_eq_true (decide (d.az < 0)) with hb5|hb5
 ·
  have hb5':=of_decide_eq_true hb5
  refine bc [0,1,4] [5,0,1,2,3,4] mixed rfl rfl ?_
  refine aA (kn:=[(14,false)]) aa 15 rfl ⟨hb1,trivial⟩ ?_
  refine aT (n':=6) [24,15] [1] rfl rfl (.inl ⟨(ah.yes rfl rfl rfl),aJ.cast (dm rfl rfl rfl rfl rfl Try.underlying29) rfl⟩) rfl ?_
  refine aA (kn:=[(26,false),(33,true)]) aa 22 rfl ⟨hb3,hb5,trivial⟩ ?_
  refine bC [5,0,1,2,3,4] rfl rfl rfl rfl (by kernel_rfl) ?_
  refine ae ?_
  refine ag rfl (fun _=>?_) (fun hno=>by cases hno)
  refine ad aa 2 rfl ?_
  refine ax ?_
  refine an ?_
  have hX:du b d=(b,(⟨6,0⟩:Answer)):=by
    unfold du gr;(try simp only [hdn,if_true]);(repeat' split)<;>first|rfl|omega|(exfalso;omega)|(simp_all;done)|(simp_all;omega)
  rw [hX] at hr;clear hX
  simp only [Prod.mk.injEq] at hr;obtain ⟨rfl,rfl⟩:=hr
  refine al aa [0,1,2,3,4,5] 5 rfl rfl rfl rfl rfl rfl ?_ ?_
  all_goals first|rfl|(simp [ar,aU,bb];done)|(simp [ar,aU,bb];omega)
 have hb5':=of_decide_eq_false hb5
 refine bc [0,1,4] [5,0,1,2,3,4] mixed rfl rfl ?_
 refine aA (kn:=[(14,false)]) aa 15 rfl ⟨hb1,trivial⟩ ?_
 refine aT (n':=6) [24,15] [1] rfl rfl (.inl ⟨(ah.yes rfl rfl rfl),aJ.cast (dm rfl rfl rfl rfl rfl Try.underlying29) rfl⟩) rfl ?_
 refine aA (kn:=[(26,false),(33,false)]) aa 19 rfl ⟨hb3,hb5,trivial⟩ ?_
 refine aT (n':=6) [44,35] [2] rfl rfl (.inl ⟨(ah.yes rfl rfl rfl),aJ.cast (dm rfl rfl rfl rfl rfl Try.underlying30) rfl⟩) rfl ?_
 refine aA (kn:=[]) aa 2 rfl trivial ?_
 refine bC [5,0,1,2,3,4] rfl rfl rfl rfl (by kernel_rfl) ?_
 refine ae ?_
 refine ag rfl (fun hc7=>?_) (fun hc7=>?_)
 ·
  have hc7':=of_decide_eq_true hc7
  refine ad aa 2 rfl ?_
  refine ax ?_
  refine an ?_
  have hX:du b d=(b,(⟨6,0⟩:Answer)):=by
    unfold du gr;(try simp only [hdn,if_true]);(repeat' split)<;>first|rfl|omega|(exfalso;omega)|(simp_all;done)|(simp_all;omega)
  rw [hX] at hr;clear hX
  simp only [Prod.mk.injEq] at hr;obtain ⟨rfl,rfl⟩:=hr
  refine al aa [0,1,2,3,4,5] 5 rfl rfl rfl rfl rfl rfl ?_ ?_
  all_goals first|rfl|(simp [ar,aU,bb];done)|(simp [ar,aU,bb];omega)
 have hc7':=of_decide_eq_false hc7
 refine aP ?_
 refine af ?_
 refine ad aa 5 rfl ?_
 refine ag rfl (fun _=>?_) (fun hno=>absurd (hdn.symm.trans hno) (by decide))
 refine af ?_
 obtain ⟨xr0,e0,hr0⟩:∃ (xr0:cv) (e0:Int),cg b.bF (⟨d.n,d.az,d.sum,b.time⟩:ca)=(xr0,e0):=⟨_,_,rfl⟩
 have hgl:=tD b.bF ((⟨d.n,d.az,d.sum,b.time⟩:ca))
 rw [hr0] at hgl;dsimp only at hgl
 refine cZ [0,1,4] [5,0,1,2,3,4] mixed rfl rfl ?_
 refine bQ (kn:=[]) aa 23 rfl trivial ?_
 refine bU (n':=6) [59,77] [] rfl rfl (.inl ⟨(ah.plain rfl),aJ.cast (bP 6 (Fn.frozen (av':=(.t [(.g [(cI xr0.cap),(gn xr0.used),(gI xr0.aY)]),(.c (cI e0))])) (vi b.bF (⟨d.n,d.az,d.sum,b.time⟩:ca) xr0 e0 hr0) ⟨⟨.inl ⟨_,rfl,rfl⟩,.inr ⟨_,_,_,_,_,rfl,rfl,rfl,by simp⟩,.inr ⟨_,_,_,_,_,rfl,rfl,rfl,by simp⟩,trivial⟩,.inl ⟨_,rfl,rfl⟩,trivial⟩) FM rfl rfl ⟨⟨_,rfl,.g ⟨.d _,.d _,.d _,trivial⟩⟩,⟨_,rfl,.g ⟨.d _,.d _,.d _,.d _,trivial⟩⟩,trivial⟩ ⟨⟨trivial,trivial,trivial,trivial⟩,trivial,trivial⟩ trivial rfl rfl rfl rfl) rfl⟩) rfl ?_
 refine bQ (n':=7) (kn:=[]) aa 6 rfl trivial ?_
 refine dL [0,1,4,5,6] [6,5,0,1,2,3,4] rfl rfl (by kernel_rfl) ?_
 refine then_ok ?_
 refine af ?_
 refine ad aa 2 rfl ?_
 refine ag rfl (fun hc9=>?_) (fun hc9=>?_)
 ·
  have hc9':=of_decide_eq_true hc9
  refine aw ?_
  refine ab aa 1 rfl ?_
  refine ae ?_
  refine af ?_
  refine af ?_
  refine bc [0,1,4,5,6] [6,5,0,1,2,3,4] mixed rfl rfl ?_
  refine aA (kn:=[(84,false)]) aa 15 rfl ⟨rfl,trivial⟩ ?_
  refine bC [6,5,0,1,2,3,4] rfl rfl rfl rfl (by kernel_rfl) ?_
  refine ae ?_
  refine ag rfl (fun hno=>by cases hno) (fun _=>?_)
  refine aP ?_
  refine af ?_
  refine aE aa 1 rfl ?_
  refine ay (aK rfl rfl rfl (show _=some (Value.bool true) from rfl)) rfl ?_
  refine ae ?_
  refine ag rfl (fun _=>?_) (fun hno=>by cases hno)
  refine ad aa 3 rfl ?_
  refine ax ?_
  refine an ?_
  refine an ?_
  have hX:du b d=(b,(⟨12,0⟩:Answer)):=by
    unfold du gr;(try simp only [hdn,if_true,hr0]);(repeat' split)<;>first|rfl|omega|(exfalso;omega)|(simp_all;done)|(simp_all;omega)
  rw [hX] at hr;clear hX
  simp only [Prod.mk.injEq] at hr;obtain ⟨rfl,rfl⟩:=hr
  refine al aa [0,1,2,3,4,5] 5 rfl rfl rfl rfl rfl rfl ?_ ?_
  all_goals first|rfl|(simp [ar,aU,bb];done)|(simp [ar,aU,bb];omega)
 have hc9':=of_decide_eq_false hc9
 refine aP ?_
 refine af ?_
 refine af ?_
 rcases Bool.eq_false_or_eq_true (decide (e0=0)) with hb12|hb12
 ·
  have hb12':=of_decide_eq_true hb12
  refine bc [0,1,4,5,6] [6,5,0,1,2,3,4] mixed rfl rfl ?_
  refine aA (kn:=[(84,true)]) aa 8 rfl ⟨hb12,trivial⟩ ?_
  refine aT (n':=7) [90,85] [3] rfl rfl (.inl ⟨(ah.yes rfl rfl rfl),aJ.cast (dm rfl rfl rfl rfl rfl Try.underlying31) rfl⟩) rfl ?_
  refine aA (kn:=[]) aa 2 rfl trivial ?_
  refine aT (n':=7) [93,85] [] rfl rfl (.inl ⟨(ah.yes rfl rfl rfl),aJ.cast (cY rfl rfl rfl rfl rfl Try.underlying39) rfl⟩) rfl ?_
  refine aT (n':=7) [91,94,85] [] rfl rfl (.inl ⟨(ah.yes rfl rfl rfl),aJ.cast (aK rfl rfl rfl (aH (by first|omega|(simp;done)|(simp;omega)))) rfl⟩) rfl ?_
  refine aA (kn:=[]) aa 2 rfl trivial ?_
  refine bC [6,5,0,1,2,3,4] rfl rfl rfl rfl (by kernel_rfl) ?_
  refine ae ?_
  refine ag rfl (fun hc13=>?_) (fun hc13=>?_)
  ·
   have hc13':=of_decide_eq_true hc13
   refine aw ?_
   refine ab aa 1 rfl ?_
   refine ae ?_
   refine af ?_
   refine aE aa 1 rfl ?_
   refine ay (aK rfl rfl rfl (show _=some (Value.bool true) from rfl)) rfl ?_
   refine ae ?_
   refine ag rfl (fun _=>?_) (fun hno=>by cases hno)
   refine ad aa 3 rfl ?_
   refine ax ?_
   refine an ?_
   refine an ?_
   have hX:du b d=(b,(⟨5,0⟩:Answer)):=by
     unfold du gr;(try simp only [hdn,if_true,hr0]);(repeat' split)<;>first|rfl|omega|(exfalso;omega)|(simp_all;done)|(simp_all;omega)
   rw [hX] at hr;clear hX
   simp only [Prod.mk.injEq] at hr;obtain ⟨rfl,rfl⟩:=hr
   refine al aa [0,1,2,3,4,5] 5 rfl rfl rfl rfl rfl rfl ?_ ?_
   all_goals first|rfl|(simp [ar,aU,bb];done)|(simp [ar,aU,bb];omega)
  have hc13':=of_decide_eq_false hc13
  refine aP ?_
  refine af ?_
  refine ad aa 2 rfl ?_
  refine ag rfl (fun hc15=>?_) (fun hc15=>?_)
  ·
   have hc15':=of_decide_eq_true hc15
   refine ad aa 3 rfl ?_
   refine ax ?_
   refine an ?_
   refine an ?_
   have hX:du b d=(b,(⟨e0,0⟩:Answer)):=by
     unfold du gr;(try simp only [hdn,if_true,hr0]);(repeat' split)<;>first|rfl|omega|(exfalso;omega)|(simp_all;done)|(simp_all;omega)
   rw [hX] at hr;clear hX
   simp only [Prod.mk.injEq] at hr;obtain ⟨rfl,rfl⟩:=hr
   refine al aa [0,1,2,3,4,5] 5 rfl rfl rfl rfl rfl rfl ?_ ?_
   all_goals first|rfl|(simp [ar,aU,bb];done)|(simp [ar,aU,bb];omega)
  have hc15':=of_decide_eq_false hc15
  refine aP ?_
  refine ad aa 6 rfl ?_
  refine af ?_
  refine bc [0,1,4,5] [6,5,0,1,2,3,4] mixed rfl rfl ?_
  refine aA (kn:=[]) aa 5 rfl trivial ?_
  refine aT (n':=7) [111] [3] rfl rfl (.inl ⟨(ah.plain rfl),aJ.cast (dm rfl rfl rfl rfl rfl Try.underlying31) rfl⟩) rfl ?_
  refine aA (kn:=[]) aa 2 rfl trivial ?_
  refine aT (n':=7) [114] [] rfl rfl (.inl ⟨(ah.plain rfl),aJ.cast (cY rfl rfl rfl rfl rfl Try.underlying39) rfl⟩) rfl ?_
  refine aT (n':=7) [112,115] [] rfl rfl (.inl ⟨(ah.plain rfl),aJ.cast (aK rfl rfl rfl (aH (by first|omega|(simp;done)|(simp;omega)))) rfl⟩) rfl ?_
  refine aT (n':=7) [116] [] rfl rfl (.inl ⟨(ah.plain rfl),aJ.cast (aK rfl rfl rfl (aH (by first|omega|(simp;done)|(simp;omega)))) rfl⟩) rfl ?_
  refine aA (kn:=[]) aa 1 rfl trivial ?_
  refine bC [6,5,0,1,2,3,4] rfl rfl rfl rfl (by kernel_rfl) ?_
  refine ab aa 1 rfl ?_
  refine ae ?_
  refine ax ?_
  refine an ?_
  have hX:du b d=((⟨b.time,b.down,b.ao,b.due,b.aq,b.s0,b.s1,b.n0,b.n1,b.w0,b.w1,xr0,b.aS,b.book⟩:Bk),(⟨0,((↑b.aq.length:Int)+(↑xr0.aY.length:Int)) - 1⟩:Answer)):=by
    unfold du gr;(try simp only [hdn,if_true,hr0]);(repeat' split)<;>first|rfl|omega|(exfalso;omega)|(simp_all;done)|(simp_all;omega)
  rw [hX] at hr;clear hX
  simp only [Prod.mk.injEq] at hr;obtain ⟨rfl,rfl⟩:=hr
  refine al aa [0,1,2,3,4,5] 5 rfl rfl rfl rfl rfl rfl ?_ ?_
  all_goals first|rfl|(simp [ar,aU,bb];done)|(simp [ar,aU,bb];omega)
 have hb12':=of_decide_eq_false hb12
 refine bc [0,1,4,5,6] [6,5,0,1,2,3,4] mixed rfl rfl ?_
 refine aA (kn:=[(84,false)]) aa 15 rfl ⟨hb12,trivial⟩ ?_
 refine bC [6,5,0,1,2,3,4] rfl rfl rfl rfl (by kernel_rfl) ?_
 refine ae ?_
 refine ag rfl (fun hno=>by cases hno) (fun _=>?_)
 refine aP ?_
 refine af ?_
 refine ad aa 2 rfl ?_
 refine ag rfl (fun hc17=>?_) (fun hc17=>?_)
 ·
  have hc17':=of_decide_eq_true hc17
  refine ad aa 3 rfl ?_
  refine ax ?_
  refine an ?_
  refine an ?_
  have hX:du b d=(b,(⟨e0,0⟩:Answer)):=by
    unfold du gr;(try simp only [hdn,if_true,hr0]);(repeat' split)<;>first|rfl|omega|(exfalso;omega)|(simp_all;done)|(simp_all;omega)
  rw [hX] at hr;clear hX
  simp only [Prod.mk.injEq] at hr;obtain ⟨rfl,rfl⟩:=hr
  refine al aa [0,1,2,3,4,5] 5 rfl rfl rfl rfl rfl rfl ?_ ?_
  all_goals first|rfl|(simp [ar,aU,bb];done)|(simp [ar,aU,bb];omega)
 have hc17':=of_decide_eq_false hc17
 refine aP ?_
 refine ad aa 6 rfl ?_
 refine af ?_
 refine bc [0,1,4,5] [6,5,0,1,2,3,4] mixed rfl rfl ?_
 refine aA (kn:=[]) aa 5 rfl trivial ?_
 refine aT (n':=7) [111] [3] rfl rfl (.inl ⟨(ah.plain rfl),aJ.cast (dm rfl rfl rfl rfl rfl Try.underlying31) rfl⟩) rfl ?_
 refine aA (kn:=[]) aa 2 rfl trivial ?_
 refine aT (n':=7) [114] [] rfl rfl (.inl ⟨(ah.plain rfl),aJ.cast (cY rfl rfl rfl rfl rfl Try.underlying39) rfl⟩) rfl ?_
 refine aT (n':=7) [112,115] [] rfl rfl (.inl ⟨(ah.plain rfl),aJ.cast (aK rfl rfl rfl (aH (by first|omega|(simp;done)|(simp;omega)))) rfl⟩) rfl ?_
 refine aT (n':=7) [116] [] rfl rfl (.inl ⟨(ah.plain rfl),aJ.cast (aK rfl rfl rfl (aH (by first|omega|(simp;done)|(simp;omega)))) rfl⟩) rfl ?_
 refine aA (kn:=[]) aa 1 rfl trivial ?_
 refine bC [6,5,0,1,2,3,4] rfl rfl rfl rfl (by kernel_rfl) ?_
 refine ab aa 1 rfl ?_
 refine ae ?_
 refine ax ?_
 refine an ?_
 have hX:du b d=((⟨b.time,b.down,b.ao,b.due,b.aq,b.s0,b.s1,b.n0,b.n1,b.w0,b.w1,xr0,b.aS,b.book⟩:Bk),(⟨0,((↑b.aq.length:Int)+(↑xr0.aY.length:Int)) - 1⟩:Answer)):=by
   unfold du gr;(try simp only [hdn,if_true,hr0]);(repeat' split)<;>first|rfl|omega|(exfalso;omega)|(simp_all;done)|(simp_all;omega)
 rw [hX] at hr;clear hX
 simp only [Prod.mk.injEq] at hr;obtain ⟨rfl,rfl⟩:=hr
 refine al aa [0,1,2,3,4,5] 5 rfl rfl rfl rfl rfl rfl ?_ ?_
 all_goals first|rfl|(simp [ar,aU,bb];done)|(simp [ar,aU,bb];omega)
theorem EZ (x:Nat->Value) (hx:∀ i,(x i).oneCell'=true) (b:Bk) (d:aV) (ok:cj b) (b2:Bk) (a2:Answer) (hr:du b d=(b2,a2)):cA Try.prog 63 [(.c (.p 0 0 0 0)),(.c (.q (cP d) 0))] [(0,(.box 98 (aU b 1 2 3 4 (.d (.v (x 17))) (.d (.v (x 19)))))),(1,(dK b.ao)),(2,(dC b.due)),(3,(dS b.aq)),(4,(cK b.aS))] [0] (.v (.g [cI a2.err,cI a2.ba])) [(0,(.box 98 (aU b2 1 2 3 4 (.d (.v (x 17))) (.d (.v (x 19)))))),(1,(dK b2.ao)),(2,(dC b2.due)),(3,(dS b2.aq)),(4,(cK b2.aS))]:=by
  cases hdn:b.down
  ·exact Eb x hx b d ok hdn b2 a2 hr
  ·exact Ec x hx b d ok hdn b2 a2 hr

theorem zA (x:Nat->Value) (hx:∀ i,(x i).oneCell'=true) (b:Bk) (d:aV) (ok:cj b) (hdn:b.down=false) (b2:Bk) (a2:Answer) (hr:dN b d=(b2,a2)):cA Try.prog 64 [(.c (.p 0 0 0 0)),(.c (.q (cP d) 0))] [(0,(.box 98 (aU b 1 2 3 4 (.d (.v (x 17))) (.d (.v (x 19)))))),(1,(dK b.ao)),(2,(dC b.due)),(3,(dS b.aq)),(4,(cK b.aS))] [0] (.v (.g [cI a2.err,cI a2.ba])) [(0,(.box 98 (aU b2 1 2 3 4 (.d (.v (x 17))) (.d (.v (x 19)))))),(1,(dK b2.ao)),(2,(dC b2.due)),(3,(dS b2.aq)),(4,(cK b2.aS))]:=by
 refine cA.mk 246 [(0,(aC (.p 0 0 0 0))),(1,(aC (.q (cP d) 0)))] 5 Try.func64 rfl rfl rfl rfl rfl rfl rfl rfl rfl ?_
 intro W0 F0 T0 pg
 obtain ⟨okt,okc,okd,oka,oky,okw0,okw1,okp,okv,okk0,okk1,okg,okl0,okl1,okp0,okp1,okn0,okn1,okq⟩:=id ok
 refine ad aa 1 rfl ?_
 refine af ?_
 refine ad aa 5 rfl ?_
 refine ag rfl (fun hno=>absurd (hdn.symm.trans hno) (by decide)) (fun _=>?_)
 refine aP ?_
 refine af ?_
 refine af ?_
 rcases Bool.eq_false_or_eq_true (decide (d.n < 0)) with hb2|hb2
 ·
  have hb2':=of_decide_eq_true hb2
  refine bc [0,1,4] [5,0,1,2,3,4] mixed rfl rfl ?_
  refine aA (kn:=[(22,true)]) aa 18 rfl ⟨hb2,trivial⟩ ?_
  refine bC [5,0,1,2,3,4] rfl rfl rfl rfl (by kernel_rfl) ?_
  refine ae ?_
  refine ag rfl (fun _=>?_) (fun hno=>by cases hno)
  refine ad aa 2 rfl ?_
  refine ax ?_
  refine an ?_
  have hX:dN b d=(b,(⟨6,0⟩:Answer)):=by
    unfold dN;simp only [hdn,Bool.false_eq_true,if_false];(repeat' split)<;>first|rfl|omega|(exfalso;omega)|(simp_all;done)|(simp_all;omega)
  rw [hX] at hr;clear hX
  simp only [Prod.mk.injEq] at hr;obtain ⟨rfl,rfl⟩:=hr
  refine al aa [0,1,2,3,4,5] 5 rfl rfl rfl rfl rfl rfl ?_ ?_
  all_goals first|rfl|(simp [ar,aU,bb];done)|(simp [ar,aU,bb];omega)
 have hb2':=of_decide_eq_false hb2
 refine bc [0,1,4] [5,0,1,2,3,4] mixed rfl rfl ?_
 refine aA (kn:=[(22,false)]) aa 15 rfl ⟨hb2,trivial⟩ ?_
 refine aT (n':=6) [32,23] [3] rfl rfl (.inl ⟨(ah.yes rfl rfl rfl),aJ.cast (dm rfl rfl rfl rfl rfl Try.underlying31) rfl⟩) rfl ?_
 refine aA (kn:=[]) aa 2 rfl trivial ?_
 refine bC [5,0,1,2,3,4] rfl rfl rfl rfl (by kernel_rfl) ?_
 refine ae ?_
 refine ag rfl (fun hc4=>?_) (fun hc4=>?_)
 ·
  have hc4':=of_decide_eq_true hc4
  refine ad aa 2 rfl ?_
  refine ax ?_
  refine an ?_
  have hX:dN b d=(b,(⟨6,0⟩:Answer)):=by
    unfold dN;simp only [hdn,Bool.false_eq_true,if_false];(repeat' split)<;>first|rfl|omega|(exfalso;omega)|(simp_all;done)|(simp_all;omega)
  rw [hX] at hr;clear hX
  simp only [Prod.mk.injEq] at hr;obtain ⟨rfl,rfl⟩:=hr
  refine al aa [0,1,2,3,4,5] 5 rfl rfl rfl rfl rfl rfl ?_ ?_
  all_goals first|rfl|(simp [ar,aU,bb];done)|(simp [ar,aU,bb];omega)
 have hc4':=of_decide_eq_false hc4
 refine aP ?_
 refine af ?_
 obtain ⟨x1,hx1⟩:=cq (xs:=b.aq) (i:=Int.toNat (d.n)) (by first|omega|(simp;done)|(simp;omega))
 refine bc [0,1,4] [5,0,1,2,3,4] mixed rfl rfl ?_
 refine aA (kn:=[]) aa 9 rfl trivial ?_
 refine aT (n':=6) [41,45] [3] rfl rfl (.inl ⟨(ah.plain rfl),aJ.cast (br (i:=Int.toNat (d.n)) rfl rfl rfl Try.underlying31 lU (by first|omega|(simp;done)|(simp;omega)) (by first|omega|(simp;done)|(simp;omega))) rfl⟩) rfl ?_
 refine aT (n':=6) [46] [3] rfl rfl (.inl ⟨(ah.plain rfl),aJ.cast (dc rfl rfl rfl Try.underlying67 rfl lU (bu hx1) rfl) rfl⟩) rfl ?_
 refine aA (n':=7) (kn:=[]) aa 1 rfl trivial ?_
 refine bC [6,5,0,1,2,3,4] rfl rfl rfl rfl (by kernel_rfl) ?_
 refine ab aa 1 rfl ?_
 refine ae ?_
 refine af ?_
 obtain ⟨b0,e0,hr0⟩:∃ (b0:bB) (e0:Int),ck x1 d.move d.sum=(b0,e0):=⟨_,_,rfl⟩
 refine cZ [0,1,4,5] [6,5,0,1,2,3,4] mixed rfl rfl ?_
 refine bQ (kn:=[]) aa 9 rfl trivial ?_
 refine bU (n':=7) [49,53,57] [] rfl rfl (.inl ⟨(ah.plain rfl),aJ.cast (bP 7 (vX x1 d.move d.sum b0 e0 hr0) FK rfl rfl ⟨⟨_,rfl,.g ⟨.d _,.d _,.d _,.d _,.d _,.d _,.d _,.d _,trivial⟩⟩,⟨_,rfl,.c (.d _)⟩,⟨_,rfl,.c (.d _)⟩,trivial⟩ ⟨⟨trivial,trivial,trivial,trivial,trivial,trivial,trivial,trivial,trivial⟩,trivial,trivial⟩ trivial rfl rfl rfl rfl) rfl⟩) rfl ?_
 refine bQ (n':=8) (kn:=[]) aa 6 rfl trivial ?_
 refine dL [0,1,4,5,6,7] [7,6,5,0,1,2,3,4] rfl rfl (by kernel_rfl) ?_
 refine then_ok ?_
 refine af ?_
 refine ad aa 2 rfl ?_
 refine ag rfl (fun hc5=>?_) (fun hc5=>?_)
 ·
  have hc5':=of_decide_eq_true hc5
  refine ad aa 3 rfl ?_
  refine ax ?_
  refine an ?_
  have hX:dN b d=(b,(⟨e0,0⟩:Answer)):=by
    unfold dN;simp only [hdn,Bool.false_eq_true,if_false];rw [if_neg (by omega),hx1];dsimp only;simp only [hr0];(repeat' split)<;>first|rfl|omega|(exfalso;omega)|(simp_all;done)|(simp_all;omega)
  rw [hX] at hr;clear hX
  simp only [Prod.mk.injEq] at hr;obtain ⟨rfl,rfl⟩:=hr
  refine al aa [0,1,2,3,4,5] 5 rfl rfl rfl rfl rfl rfl ?_ ?_
  all_goals first|rfl|(simp [ar,aU,bb];done)|(simp [ar,aU,bb];omega)
 have hc5':=of_decide_eq_false hc5
 refine aP ?_
 obtain ⟨mw1,mw2,mc,ms,mk1,mk2,mn1,mn2⟩:=me (show ck x1 d.move d.sum=(b0,0) by rw [hr0];congr 1;omega)
 have hoP:=okp x1 (List.mem_of_getElem? hx1)
 have hI0:∀ t∈b.s0.kept,fz t.number:=fun t ht=>(okk0 t ht).1
 have hI1:∀ t∈b.s1.kept,fz t.number:=fun t ht=>(okk1 t ht).1
 refine aE aa 1 rfl ?_
 refine aM 17 [0,8,9,10,11,12,13,14,15,16,7,6,5] (cE id (aX [0,8,9,10,11,12,13,14,15,16]) (jS (x 17) (x 19) b (by first|omega|(simp;done)|(simp;omega)) (by first|omega|(simp;done)|(simp;omega)) (by first|omega|(simp;done)|(simp;omega)) (by first|omega|(simp;done)|(simp;omega))) qi rfl rfl ⟨⟨_,rfl,.inl ⟨rfl,rfl⟩⟩,trivial⟩ ⟨rfl,rfl,rfl,rfl,rfl,trivial⟩ rfl rfl rfl rfl rfl rfl trivial ⟨⟨trivial,trivial,trivial,trivial,trivial,trivial,trivial,trivial,trivial,trivial,trivial,trivial,trivial,trivial,trivial,trivial,trivial,trivial,trivial,trivial,trivial⟩,⟨trivial,trivial,trivial,trivial,trivial,trivial,trivial,trivial,trivial,trivial,trivial,trivial,trivial,trivial,trivial,trivial,trivial,trivial,trivial,trivial,trivial⟩,(fun _ _ _ _=>trivial),(fun _ _ _ _=>trivial),(fun _ _ _ _=>trivial),(fun _ _ _ _=>trivial),(fun _ _ _ _=>trivial),(fun _ _ _ _=>trivial),(fun _ _ _ _=>trivial),(fun _ _ _ _=>trivial),trivial⟩ rfl rfl rfl rfl) rfl ?_
 refine ab aa 1 rfl ?_
 refine ae ?_
 refine af ?_
 obtain ⟨e1,hr1⟩:∃ (e1:Int),bK b0=e1:=⟨_,rfl⟩
 have hhb1:=om (show bG b0=0 by assumption)
 rw [hr1] at hhb1
 obtain ⟨e2,hr2⟩:∃ (e2:Int),bK x1=e2:=⟨_,rfl⟩
 have hhb2:=om (show bG x1=0 by assumption)
 rw [hr2] at hhb2
 refine bc [0,1,4,5,6,8] [0,8,9,10,11,12,13,14,15,16,7,6,5] mixed rfl rfl ?_
 refine aA (kn:=[]) aa 1 rfl trivial ?_
 refine aT (n':=17) [67] [] rfl rfl (.inl ⟨(ah.plain rfl),aJ.cast (bP 17 (jZ b0 (by first|assumption|omega|rfl|decide) e1 hr1) xP rfl rfl ⟨⟨_,rfl,.g ⟨.d _,.d _,.d _,.d _,.d _,.d _,.d _,.d _,trivial⟩⟩,trivial⟩ trivial trivial rfl rfl rfl rfl) rfl⟩) rfl ?_
 refine aA (kn:=[]) aa 1 rfl trivial ?_
 refine aT (n':=17) [69] [] rfl rfl (.inl ⟨(ah.plain rfl),aJ.cast (bP 17 (jZ x1 (by first|assumption|omega|rfl|decide) e2 hr2) xP rfl rfl ⟨⟨_,rfl,.g ⟨.d _,.d _,.d _,.d _,.d _,.d _,.d _,.d _,trivial⟩⟩,trivial⟩ trivial trivial rfl rfl rfl rfl) rfl⟩) rfl ?_
 refine aT (n':=17) [68,70] [] rfl rfl (.inl ⟨(ah.plain rfl),aJ.cast (aK rfl rfl rfl (aH (by first|omega|(simp;done)|(simp;omega)))) rfl⟩) rfl ?_
 refine aA (kn:=[]) aa 1 rfl trivial ?_
 refine bC [0,8,9,10,11,12,13,14,15,16,7,6,5] rfl rfl rfl rfl (by kernel_rfl) ?_
 refine ae ?_
 refine af ?_
 refine vD (J:=⟨[(0,(aC (.p 0 0 0 0))),(1,(aC (.q (cP d) 0))),(4,(aC (.p 5 0 0 0))),(6,(aC (.p 7 0 0 0))),(8,(aC (.p 8 0 0 0))),(9,(aI (e1 - e2))),(93,(aB (decide (d.move=1/\d.sum > km b.ao b0.aL))))],[(0,(.box 98 (aU b 9 10 11 12 (.d (.v (x 17))) (.d (.v (x 19)))))),(8,(.box 147 (aU b 13 14 15 16 (.d (.v (x 17))) (cI 0)))),(9,(dK b.ao)),(10,(dC b.due)),(11,(dS b.aq)),(12,(cK b.aS)),(13,(dK b.ao)),(14,(dC b.due)),(15,(dS b.aq)),(16,(cK b.aS)),(7,(.box 67 [(cI b0.aL),(cI b0.az),(cI b0.sum),(cI b0.captured),(cI b0.bz),(cI b0.bm),(cI b0.cQ),(cB b0.shut)])),(5,(.box 65 [(cI 0),(cI 0)]))],17⟩) ?_ ?_
 ·
  rcases Bool.eq_false_or_eq_true (decide (d.move=1)) with hb6|hb6
  ·
   have hb6':=of_decide_eq_true hb6
   obtain ⟨x2,hx2⟩:=cq (xs:=b.ao) (i:=Int.toNat (b0.aL)) (by first|omega|(simp;done)|(simp;omega))
   have hx2g:=zT (okg x2 (List.mem_of_getElem? hx2))
   refine bc [0,1,4,6,8,9] [0,8,9,10,11,12,13,14,15,16,7,5] mixed rfl rfl ?_
   refine aA (kn:=[(76,true)]) aa 17 rfl ⟨hb6,trivial⟩ ?_
   refine aT (n':=17) [86,88,77] [13] rfl rfl (.inl ⟨(ah.yes rfl rfl rfl),aJ.cast (br (i:=Int.toNat (b0.aL)) rfl rfl rfl Try.underlying29 iH (by first|omega|(simp;done)|(simp;omega)) (by first|omega|(simp;done)|(simp;omega))) rfl⟩) rfl ?_
   refine aT (n':=17) [89,77] [13] rfl rfl (.inl ⟨(ah.yes rfl rfl rfl),aJ.cast (dc rfl rfl rfl Try.underlying61 rfl iH (bu hx2) rfl) rfl⟩) rfl ?_
   refine aT (n':=17) [90,77] [] rfl rfl (.inl ⟨(ah.yes rfl rfl rfl),aJ.cast (bP 17 (pD x2 (by first|assumption|omega|(constructor<;>decide)|(have hz:=gq (by first|assumption|omega);omega))) DQ rfl rfl ⟨⟨_,rfl,.g ⟨.d _,.d _,.d _,.d _,.d _,.d _,trivial⟩⟩,trivial⟩ trivial trivial rfl rfl rfl rfl) rfl⟩) rfl ?_
   refine aA (kn:=[]) aa 2 rfl trivial ?_
   refine bC [0,8,9,10,11,12,13,14,15,16,7,5] rfl rfl rfl rfl (by kernel_rfl) ?_
   refine ae ?_
   rw [show (decide (d.move=1/\d.sum > km b.ao b0.aL))=(decide (d.sum > (x2.bx - x2.held))) by (unfold km;rw [hx2];dsimp only;first|(simp_all;done)|(simp_all;omega))]
   exact aD.bY id (⟨rfl,rfl,rfl,rfl,rfl,rfl,rfl,trivial⟩) (⟨rfl,rfl,rfl,rfl,rfl,rfl,rfl,rfl,rfl,rfl,rfl,rfl,trivial⟩) rfl
  have hb6':=of_decide_eq_false hb6
  refine bc [0,1,4,6,8,9] [0,8,9,10,11,12,13,14,15,16,7,5] mixed rfl rfl ?_
  refine aA (kn:=[(76,false)]) aa 22 rfl ⟨hb6,trivial⟩ ?_
  refine bC [0,8,9,10,11,12,13,14,15,16,7,5] rfl rfl rfl rfl (by kernel_rfl) ?_
  refine ae ?_
  rw [show (decide (d.move=1/\d.sum > km b.ao b0.aL))=(false) by (unfold km;first|(simp_all;done)|(simp_all;omega))]
  exact aD.bY id (⟨rfl,rfl,rfl,rfl,rfl,rfl,rfl,trivial⟩) (⟨rfl,rfl,rfl,rfl,rfl,rfl,rfl,rfl,rfl,rfl,rfl,rfl,trivial⟩) rfl
 refine ag rfl (fun hc7=>?_) (fun hc7=>?_)
 ·
  have hc7':=of_decide_eq_true hc7
  refine ad aa 2 rfl ?_
  refine ax ?_
  refine an ?_
  have hX:dN b d=(b,(⟨10,0⟩:Answer)):=by
    unfold dN;simp only [hdn,Bool.false_eq_true,if_false];rw [if_neg (by omega),hx1];dsimp only;simp only [hr0];(repeat' split)<;>first|rfl|omega|(exfalso;omega)|(simp_all;done)|(simp_all;omega)
  rw [hX] at hr;clear hX
  simp only [Prod.mk.injEq] at hr;obtain ⟨rfl,rfl⟩:=hr
  refine al aa [0,9,10,11,12,5] 5 rfl rfl rfl rfl rfl rfl ?_ ?_
  all_goals first|rfl|(simp [ar,aU,bb];done)|(simp [ar,aU,bb];omega)
 have hc7':=of_decide_eq_false hc7
 refine aP ?_
 refine af ?_
 refine bc [0,1,4,6,8,9] [0,8,9,10,11,12,13,14,15,16,7,5] mixed rfl rfl ?_
 refine aA (kn:=[]) aa 2 rfl trivial ?_
 refine aT (n':=17) [96] [] rfl rfl (.inl ⟨(ah.plain rfl),aJ.cast (aK rfl rfl rfl (aH (by first|omega|(simp;done)|(simp;omega)))) rfl⟩) rfl ?_
 refine aA (n':=18) (kn:=[]) aa 11 rfl trivial ?_
 refine bC [17,0,8,9,10,11,12,13,14,15,16,7,5] rfl rfl rfl rfl (by kernel_rfl) ?_
 refine ab aa 1 rfl ?_
 refine ae ?_
 obtain ⟨jcards,jdue,jbook,js0,js1,je,hj⟩:∃ (jcards:List bD) (jdue:List Int) (jbook:List Entry) (js0:bV) (js1:bV) (je:Int),dT b b0 x1 d=(jcards,jdue,jbook,js0,js1,je):=⟨_,_,_,_,_,_,rfl⟩
 have hj0:=hj
 refine vD (J:=⟨[(0,(aC (.p 0 0 0 0))),(1,(aC (.q (cP d) 0))),(4,(aC (.p 5 0 0 0))),(6,(aC (.p 7 0 0 0))),(8,(aC (.p 8 0 0 0)))],[(0,(.box 98 (aU b 9 10 11 12 (.d (.v (x 17))) (.d (.v (x 19)))))),(8,(.box 147 ((((((((aU b 13 14 15 16 (.d (.v (x 17))) (cI je)).set 2 (.s 13 0 6 jcards.length)).set 3 (.s 14 0 1 jdue.length)).set 5 (cI js0.bW)).set 6 (de js0.kept)).set 7 (cI js1.bW)).set 8 (de js1.kept)).set 18 (dP jbook)))),(9,(dK b.ao)),(10,(dC b.due)),(11,(dS b.aq)),(12,(cK b.aS)),(13,(dK jcards)),(14,(dC jdue)),(15,(dS b.aq)),(16,(cK b.aS)),(7,(.box 67 [(cI b0.aL),(cI b0.az),(cI b0.sum),(cI b0.captured),(cI b0.bz),(cI b0.bm),(cI b0.cQ),(cB b0.shut)])),(5,(.box 65 [(cI 0),(cI 0)]))],17⟩) ?_ ?_
 ·
  refine ad aa 4 rfl ?_
  refine aW ?_
  refine af ?_
  refine ad aa 2 rfl ?_
  refine ag rfl (fun hc8=>?_) (fun hc8=>?_)
  ·
   have hc8':=of_decide_eq_true hc8
   refine aP ?_
   refine ag rfl (fun _=>?_) (fun hno=>absurd (hc8.symm.trans hno) (by decide))
   refine aw ?_
   refine ab aa 4 rfl ?_
   obtain ⟨l23,e23,hr3⟩:∃ (l23:List bD) (e23:Int),cz b.ao 0 b0.aL (e1 - e2) 0=(l23,e23):=⟨_,_,rfl⟩
   refine aM 19 [8,18,17,0,9,10,11,12,14,15,16,7,5] (cf (aX [8,13]) (aX [8,18]) (ms:=((dq.set 2 (some (.s 1 0 6 b.ao.length))).set 19 (some (cI 0)))) (ms':=((dq.set 2 (some (.s 1 0 6 l23.length))).set 19 (some (cI e23)))) (fun x hx=>iC x hx b.ao 0 b0.aL (e1 - e2) 0 (by first|omega|(simp;done)|(simp;omega)) l23 e23 hr3) nn rfl rfl ⟨⟨_,rfl,.inl ⟨rfl,rfl⟩⟩,⟨_,rfl,.inr (.c (.d _))⟩,⟨_,rfl,.inr (.c (.d _))⟩,⟨_,rfl,.inr (.c (.d _))⟩,trivial⟩ rfl rfl rfl rfl rfl rfl rfl ⟨rfl,trivial⟩ rfl rfl rfl rfl rfl rfl rfl rfl rfl rfl rfl rfl rfl) rfl ?_
   refine bX ?_
   refine bn ?_
   refine then_ok ?_
   have hX:dT b b0 x1 d=(l23,b.due,b.book,b.s0,b.s1,e23):=by
     unfold dT;(try simp only [hr1,hr2,hr3]);(repeat' split)<;>first|rfl|omega|(exfalso;omega)|(simp_all;done)|(simp_all;omega)
   rw [hX] at hj;clear hX;simp only [Prod.mk.injEq] at hj;obtain ⟨rfl,rfl,rfl,rfl,rfl,rfl⟩:=hj
   exact aD.bY (fun k=>if k=13 then 18 else k) (by refine ⟨?_,?_,?_,?_,?_,trivial⟩<;>first|rfl|(simp only [bo];done)|(congr 3;omega)|(congr 4;omega)|(simp only [bp];rfl)) (by refine ⟨?_,?_,?_,?_,?_,?_,?_,?_,?_,?_,?_,?_,trivial⟩<;>first|rfl|(simp only [bo];done)|(congr 3;omega)|(congr 4;omega)|(simp only [bp];rfl)) rfl
  have hc8':=of_decide_eq_false hc8
  refine aw ?_
  refine ab aa 2 rfl ?_
  refine ae ?_
  refine ag rfl (fun hc10=>?_) (fun hc10=>?_)
  ·
   have hc10':=of_decide_eq_true hc10
   refine aw ?_
   refine ab aa 4 rfl ?_
   obtain ⟨l24,e24,hr4⟩:∃ (l24:List bD) (e24:Int),cz b.ao 0 b0.aL (e1 - e2) 0=(l24,e24):=⟨_,_,rfl⟩
   refine aM 19 [8,18,17,0,9,10,11,12,14,15,16,7,5] (cf (aX [8,13]) (aX [8,18]) (ms:=((dq.set 2 (some (.s 1 0 6 b.ao.length))).set 19 (some (cI 0)))) (ms':=((dq.set 2 (some (.s 1 0 6 l24.length))).set 19 (some (cI e24)))) (fun x hx=>iC x hx b.ao 0 b0.aL (e1 - e2) 0 (by first|omega|(simp;done)|(simp;omega)) l24 e24 hr4) nn rfl rfl ⟨⟨_,rfl,.inl ⟨rfl,rfl⟩⟩,⟨_,rfl,.inr (.c (.d _))⟩,⟨_,rfl,.inr (.c (.d _))⟩,⟨_,rfl,.inr (.c (.d _))⟩,trivial⟩ rfl rfl rfl rfl rfl rfl rfl ⟨rfl,trivial⟩ rfl rfl rfl rfl rfl rfl rfl rfl rfl rfl rfl rfl rfl) rfl ?_
   refine bX ?_
   refine bn ?_
   refine then_ok ?_
   have hX:dT b b0 x1 d=(l24,b.due,b.book,b.s0,b.s1,e24):=by
     unfold dT;(try simp only [hr1,hr2,hr4]);(repeat' split)<;>first|rfl|omega|(exfalso;omega)|(simp_all;done)|(simp_all;omega)
   rw [hX] at hj;clear hX;simp only [Prod.mk.injEq] at hj;obtain ⟨rfl,rfl,rfl,rfl,rfl,rfl⟩:=hj
   exact aD.bY (fun k=>if k=13 then 18 else k) (by refine ⟨?_,?_,?_,?_,?_,trivial⟩<;>first|rfl|(simp only [bo];done)|(congr 3;omega)|(congr 4;omega)|(simp only [bp];rfl)) (by refine ⟨?_,?_,?_,?_,?_,?_,?_,?_,?_,?_,?_,?_,trivial⟩<;>first|rfl|(simp only [bo];done)|(congr 3;omega)|(congr 4;omega)|(simp only [bp];rfl)) rfl
  have hc10':=of_decide_eq_false hc10
  refine af ?_
  refine ad aa 2 rfl ?_
  refine ag rfl (fun hc11=>?_) (fun hc11=>?_)
  ·
   have hc11':=of_decide_eq_true hc11
   refine aP ?_
   refine ag rfl (fun _=>?_) (fun hno=>absurd (hc11.symm.trans hno) (by decide))
   refine af ?_
   obtain ⟨l25,e25,hr5⟩:∃ (l25:List bD) (e25:Int),cz b.ao 0 b0.aL (e1 - e2) (0 - d.sum)=(l25,e25):=⟨_,_,rfl⟩
   refine cZ [0,1,4,6,8,9,11,10] [17,0,8,9,10,11,12,13,14,15,16,7,5] mixed rfl rfl ?_
   refine bQ (kn:=[]) aa 8 rfl trivial ?_
   refine bU (n':=18) [129] [] rfl rfl (.inl ⟨(ah.plain rfl),aJ.cast (ra rfl rfl (aH (by first|omega|(simp;done)|(simp;omega)))) rfl⟩) rfl ?_
   refine bU (n':=19) [122,124,125,130] [13,8] rfl rfl (.inl ⟨(ah.plain rfl),aJ.cast (cf (aX [8,13]) (aX [8,18]) (ms:=((dq.set 2 (some (.s 1 0 6 b.ao.length))).set 19 (some (cI 0)))) (ms':=((dq.set 2 (some (.s 1 0 6 l25.length))).set 19 (some (cI e25)))) (fun x hx=>iC x hx b.ao 0 b0.aL (e1 - e2) (0 - d.sum) (by first|omega|(simp;done)|(simp;omega)) l25 e25 hr5) nn rfl rfl ⟨⟨_,rfl,.inl ⟨rfl,rfl⟩⟩,⟨_,rfl,.inr (.c (.d _))⟩,⟨_,rfl,.inr (.c (.d _))⟩,⟨_,rfl,.inr (.c (.d _))⟩,trivial⟩ rfl rfl rfl rfl rfl rfl rfl ⟨rfl,trivial⟩ rfl rfl rfl rfl rfl rfl rfl rfl rfl rfl rfl rfl rfl) rfl⟩) rfl ?_
   refine dL [0,1,4,6,8,11,10] [18,8,17,0,9,10,11,12,14,15,16,7,5] rfl rfl (by kernel_rfl) ?_
   refine then_ok ?_
   refine aE aa 6 rfl ?_
   obtain ⟨l26,e26,hr6⟩:∃ (l26:List Entry) (e26:Int),dM b.book e25 (10+b0.aL) 1 d.sum=(l26,e26):=⟨_,_,rfl⟩
   refine aM 19 [8,18,17,0,9,10,11,12,14,15,16,7,5] (cf (aX [8]) (aX [8]) (ms:=((dq.set 18 (some (dP b.book))).set 19 (some (cI e25)))) (ms':=((dq.set 18 (some (dP l26))).set 19 (some (cI e26)))) (fun x hx=>iR x hx b.book e25 (10+b0.aL) 1 d.sum l26 e26 hr6) mf rfl rfl ⟨⟨_,rfl,.inl ⟨rfl,rfl⟩⟩,⟨_,rfl,.inr (.c (.d _))⟩,⟨_,rfl,.inr (.c (.d _))⟩,⟨_,rfl,.inr (.c (.d _))⟩,trivial⟩ rfl rfl rfl rfl rfl rfl rfl trivial rfl rfl rfl rfl rfl rfl rfl rfl rfl rfl rfl rfl rfl) rfl ?_
   refine ae ?_
   refine ad aa 2 rfl ?_
   refine aw ?_
   refine ab aa 2 rfl ?_
   obtain ⟨s27,e27,hr7⟩:∃ (s27:bV) (e27:Int),eA b.s0 e26 (⟨0,1,d.n,d.sum⟩:bj)=(s27,e27):=⟨_,_,rfl⟩
   refine aM 19 [8,18,17,0,9,10,11,12,14,15,16,7,5] (cf (aX [8]) (aX [8]) (ms:=(((dq.set 5 (some (cI b.s0.bW))).set 6 (some (de b.s0.kept))).set 19 (some (cI e26)))) (ms':=(((dq.set 5 (some (cI s27.bW))).set 6 (some (de s27.kept))).set 19 (some (cI e27)))) (fun x hx=>sa x hx b.s0 e26 (⟨0,1,d.n,d.sum⟩:bj) (by assumption) s27 e27 hr7) xM rfl rfl ⟨⟨_,rfl,.inl ⟨rfl,rfl⟩⟩,⟨_,rfl,.inr (.c (.d _))⟩,⟨_,rfl,.inr (.g ⟨.d _,.d _,.d _,.d _,trivial⟩)⟩,trivial⟩ rfl rfl rfl rfl rfl rfl rfl trivial rfl rfl rfl rfl rfl rfl rfl rfl rfl rfl rfl rfl rfl) rfl ?_
   refine bX ?_
   refine bn ?_
   refine then_ok ?_
   have hX:dT b b0 x1 d=(l25,b.due,l26,s27,b.s1,e27):=by
     unfold dT;(try simp only [hr1,hr2,hr5,hr6,hr7]);(repeat' split)<;>first|rfl|omega|(exfalso;omega)|(simp_all;done)|(simp_all;omega)
   rw [hX] at hj;clear hX;simp only [Prod.mk.injEq] at hj;obtain ⟨rfl,rfl,rfl,rfl,rfl,rfl⟩:=hj
   exact aD.bY (fun k=>if k=13 then 18 else k) (by refine ⟨?_,?_,?_,?_,?_,trivial⟩<;>first|rfl|(simp only [bo];done)|(congr 3;omega)|(congr 4;omega)|(simp only [bp];rfl)) (by refine ⟨?_,?_,?_,?_,?_,?_,?_,?_,?_,?_,?_,?_,trivial⟩<;>first|rfl|(simp only [bo];done)|(congr 3;omega)|(congr 4;omega)|(simp only [bp];rfl)) rfl
  have hc11':=of_decide_eq_false hc11
  refine aw ?_
  refine ab aa 2 rfl ?_
  refine ae ?_
  refine ag rfl (fun hc13=>?_) (fun hc13=>?_)
  ·
   have hc13':=of_decide_eq_true hc13
   refine af ?_
   obtain ⟨l28,e28,hr8⟩:∃ (l28:List bD) (e28:Int),cz b.ao 0 b0.aL (e1 - e2) (0 - d.sum)=(l28,e28):=⟨_,_,rfl⟩
   refine cZ [0,1,4,6,8,9,11,10] [17,0,8,9,10,11,12,13,14,15,16,7,5] mixed rfl rfl ?_
   refine bQ (kn:=[]) aa 8 rfl trivial ?_
   refine bU (n':=18) [129] [] rfl rfl (.inl ⟨(ah.plain rfl),aJ.cast (ra rfl rfl (aH (by first|omega|(simp;done)|(simp;omega)))) rfl⟩) rfl ?_
   refine bU (n':=19) [122,124,125,130] [13,8] rfl rfl (.inl ⟨(ah.plain rfl),aJ.cast (cf (aX [8,13]) (aX [8,18]) (ms:=((dq.set 2 (some (.s 1 0 6 b.ao.length))).set 19 (some (cI 0)))) (ms':=((dq.set 2 (some (.s 1 0 6 l28.length))).set 19 (some (cI e28)))) (fun x hx=>iC x hx b.ao 0 b0.aL (e1 - e2) (0 - d.sum) (by first|omega|(simp;done)|(simp;omega)) l28 e28 hr8) nn rfl rfl ⟨⟨_,rfl,.inl ⟨rfl,rfl⟩⟩,⟨_,rfl,.inr (.c (.d _))⟩,⟨_,rfl,.inr (.c (.d _))⟩,⟨_,rfl,.inr (.c (.d _))⟩,trivial⟩ rfl rfl rfl rfl rfl rfl rfl ⟨rfl,trivial⟩ rfl rfl rfl rfl rfl rfl rfl rfl rfl rfl rfl rfl rfl) rfl⟩) rfl ?_
   refine dL [0,1,4,6,8,11,10] [18,8,17,0,9,10,11,12,14,15,16,7,5] rfl rfl (by kernel_rfl) ?_
   refine then_ok ?_
   refine aE aa 6 rfl ?_
   obtain ⟨l29,e29,hr9⟩:∃ (l29:List Entry) (e29:Int),dM b.book e28 (10+b0.aL) 1 d.sum=(l29,e29):=⟨_,_,rfl⟩
   refine aM 19 [8,18,17,0,9,10,11,12,14,15,16,7,5] (cf (aX [8]) (aX [8]) (ms:=((dq.set 18 (some (dP b.book))).set 19 (some (cI e28)))) (ms':=((dq.set 18 (some (dP l29))).set 19 (some (cI e29)))) (fun x hx=>iR x hx b.book e28 (10+b0.aL) 1 d.sum l29 e29 hr9) mf rfl rfl ⟨⟨_,rfl,.inl ⟨rfl,rfl⟩⟩,⟨_,rfl,.inr (.c (.d _))⟩,⟨_,rfl,.inr (.c (.d _))⟩,⟨_,rfl,.inr (.c (.d _))⟩,trivial⟩ rfl rfl rfl rfl rfl rfl rfl trivial rfl rfl rfl rfl rfl rfl rfl rfl rfl rfl rfl rfl rfl) rfl ?_
   refine ae ?_
   refine ad aa 2 rfl ?_
   refine aw ?_
   refine ab aa 2 rfl ?_
   obtain ⟨s210,e210,hr10⟩:∃ (s210:bV) (e210:Int),eA b.s0 e29 (⟨0,1,d.n,d.sum⟩:bj)=(s210,e210):=⟨_,_,rfl⟩
   refine aM 19 [8,18,17,0,9,10,11,12,14,15,16,7,5] (cf (aX [8]) (aX [8]) (ms:=(((dq.set 5 (some (cI b.s0.bW))).set 6 (some (de b.s0.kept))).set 19 (some (cI e29)))) (ms':=(((dq.set 5 (some (cI s210.bW))).set 6 (some (de s210.kept))).set 19 (some (cI e210)))) (fun x hx=>sa x hx b.s0 e29 (⟨0,1,d.n,d.sum⟩:bj) (by assumption) s210 e210 hr10) xM rfl rfl ⟨⟨_,rfl,.inl ⟨rfl,rfl⟩⟩,⟨_,rfl,.inr (.c (.d _))⟩,⟨_,rfl,.inr (.g ⟨.d _,.d _,.d _,.d _,trivial⟩)⟩,trivial⟩ rfl rfl rfl rfl rfl rfl rfl trivial rfl rfl rfl rfl rfl rfl rfl rfl rfl rfl rfl rfl rfl) rfl ?_
   refine bX ?_
   refine bn ?_
   refine then_ok ?_
   have hX:dT b b0 x1 d=(l28,b.due,l29,s210,b.s1,e210):=by
     unfold dT;(try simp only [hr1,hr2,hr8,hr9,hr10]);(repeat' split)<;>first|rfl|omega|(exfalso;omega)|(simp_all;done)|(simp_all;omega)
   rw [hX] at hj;clear hX;simp only [Prod.mk.injEq] at hj;obtain ⟨rfl,rfl,rfl,rfl,rfl,rfl⟩:=hj
   exact aD.bY (fun k=>if k=13 then 18 else k) (by refine ⟨?_,?_,?_,?_,?_,trivial⟩<;>first|rfl|(simp only [bo];done)|(congr 3;omega)|(congr 4;omega)|(simp only [bp];rfl)) (by refine ⟨?_,?_,?_,?_,?_,?_,?_,?_,?_,?_,?_,?_,trivial⟩<;>first|rfl|(simp only [bo];done)|(congr 3;omega)|(congr 4;omega)|(simp only [bp];rfl)) rfl
  have hc13':=of_decide_eq_false hc13
  refine ad aa 2 rfl ?_
  refine ag rfl (fun hc14=>?_) (fun hc14=>?_)
  ·
   have hc14':=of_decide_eq_true hc14
   refine af ?_
   obtain ⟨x2,hx2⟩:=cq (xs:=b.due) (i:=Int.toNat (b0.az)) (by first|omega|(simp;done)|(simp;omega))
   refine bc [0,1,4,6,8,11] [17,0,8,9,10,11,12,13,14,15,16,7,5] mixed rfl rfl ?_
   refine aA (kn:=[]) aa 7 rfl trivial ?_
   refine aT (n':=18) [149,151] [14] rfl rfl (.inl ⟨(ah.plain rfl),aJ.cast (br (i:=Int.toNat (b0.az)) rfl rfl rfl Try.underlying30 fX (by first|omega|(simp;done)|(simp;omega)) (by first|omega|(simp;done)|(simp;omega))) rfl⟩) rfl ?_
   refine aT (n':=18) [152] [14] rfl rfl (.inl ⟨(ah.plain rfl),aJ.cast (eB rfl rfl rfl Try.underlying3 rfl (bu hx2) rfl) rfl⟩) rfl ?_
   refine aA (kn:=[]) aa 5 rfl trivial ?_
   refine aT (n':=18) [149,151] [14] rfl rfl (.inl ⟨(ah.plain rfl),aJ.cast (br (i:=Int.toNat (b0.az)) rfl rfl rfl Try.underlying30 fX (by first|omega|(simp;done)|(simp;omega)) (by first|omega|(simp;done)|(simp;omega))) rfl⟩) rfl ?_
   refine bC [17,0,8,9,10,11,12,13,14,15,16,7,5] rfl rfl rfl rfl (by kernel_rfl) ?_
   refine fV [17,0,8,9,10,11,12,13,14,15,16,7,5] (dH (ds:=[(dI (IntKind.i64.wrap (x2 - d.sum)))]) rfl rfl rfl rfl rfl fX rfl (Nat.le_of_ble_eq_true rfl) (bu hx2) rfl (eG (x':=(IntKind.i64.wrap (x2 - d.sum))) rfl)) rfl ?_
   refine ae ?_
   refine fq (k:=8) (q:=3) (c':=(.s 14 0 1 (((b.due).set (Int.toNat (b0.az)) (IntKind.i64.wrap (x2 - d.sum))).length))) rfl rfl (by first|rfl|(simp;done)|(congr 1;omega)) rfl ?_
   refine af ?_
   obtain ⟨l211,e211,hr11⟩:∃ (l211:List Entry) (e211:Int),dM b.book 0 (50+b0.az) 1 d.sum=(l211,e211):=⟨_,_,rfl⟩
   refine cZ [0,1,4,6,8,11] [17,0,8,9,10,11,12,13,14,15,16,7,5] mixed rfl rfl ?_
   refine bQ (kn:=[]) aa 3 rfl trivial ?_
   refine bU (n':=18) [162] [] rfl rfl (.inl ⟨(ah.plain rfl),aJ.cast (aK rfl rfl rfl (aH (by first|omega|(simp;done)|(simp;omega)))) rfl⟩) rfl ?_
   refine bQ (kn:=[]) aa 4 rfl trivial ?_
   refine bU (n':=18) [160,163,167] [8] rfl rfl (.inl ⟨(ah.plain rfl),aJ.cast (cf (aX [8]) (aX [8]) (ms:=((dq.set 18 (some (dP b.book))).set 19 (some (cI 0)))) (ms':=((dq.set 18 (some (dP l211))).set 19 (some (cI e211)))) (fun x hx=>iR x hx b.book 0 (50+b0.az) 1 d.sum l211 e211 hr11) mf rfl rfl ⟨⟨_,rfl,.inl ⟨rfl,rfl⟩⟩,⟨_,rfl,.inr (.c (.d _))⟩,⟨_,rfl,.inr (.c (.d _))⟩,⟨_,rfl,.inr (.c (.d _))⟩,trivial⟩ rfl rfl rfl rfl rfl rfl rfl trivial rfl rfl rfl rfl rfl rfl rfl rfl rfl rfl rfl rfl rfl) rfl⟩) rfl ?_
   refine dL [0,1,4,6,8,11] [8,17,0,9,10,11,12,13,14,15,16,7,5] rfl rfl (by kernel_rfl) ?_
   refine then_ok ?_
   refine ad aa 2 rfl ?_
   refine aw ?_
   refine ab aa 2 rfl ?_
   obtain ⟨s212,e212,hr12⟩:∃ (s212:bV) (e212:Int),eA b.s1 e211 (⟨0,2,d.n,d.sum⟩:bj)=(s212,e212):=⟨_,_,rfl⟩
   refine aM 18 [8,17,0,9,10,11,12,13,14,15,16,7,5] (cf (aX [8]) (aX [8]) (ms:=(((dq.set 7 (some (cI b.s1.bW))).set 8 (some (de b.s1.kept))).set 19 (some (cI e211)))) (ms':=(((dq.set 7 (some (cI s212.bW))).set 8 (some (de s212.kept))).set 19 (some (cI e212)))) (fun x hx=>Cx x hx b.s1 e211 (⟨0,2,d.n,d.sum⟩:bj) (by assumption) s212 e212 hr12) xM rfl rfl ⟨⟨_,rfl,.inl ⟨rfl,rfl⟩⟩,⟨_,rfl,.inr (.c (.d _))⟩,⟨_,rfl,.inr (.g ⟨.d _,.d _,.d _,.d _,trivial⟩)⟩,trivial⟩ rfl rfl rfl rfl rfl rfl rfl trivial rfl rfl rfl rfl rfl rfl rfl rfl rfl rfl rfl rfl rfl) rfl ?_
   refine bX ?_
   refine bn ?_
   refine then_ok ?_
   have hX:dT b b0 x1 d=(b.ao,(b.due).set (Int.toNat (b0.az)) (IntKind.i64.wrap (x2 - d.sum)),l211,b.s0,s212,e212):=by
     unfold dT;simp only [List.getD_eq_getElem?_getD,hx2,Option.getD_some];(try simp only [hr1,hr2,hr11,hr12,hx2]);(repeat' split)<;>first|rfl|omega|(exfalso;omega)|(simp_all;done)|(simp_all;omega)
   rw [hX] at hj;clear hX;simp only [Prod.mk.injEq] at hj;obtain ⟨rfl,rfl,rfl,rfl,rfl,rfl⟩:=hj
   exact aD.bY id (by refine ⟨?_,?_,?_,?_,?_,trivial⟩<;>first|rfl|(simp only [bo];done)|(congr 3;omega)|(congr 4;omega)|(simp only [bp];rfl)) (by refine ⟨?_,?_,?_,?_,?_,?_,?_,?_,?_,?_,?_,?_,trivial⟩<;>first|rfl|(simp only [bo];done)|(congr 3;omega)|(congr 4;omega)|(simp only [bp];rfl)) rfl
  have hc14':=of_decide_eq_false hc14
  refine ad aa 2 rfl ?_
  refine ag rfl (fun hc15=>?_) (fun hc15=>?_)
  ·
   have hc15':=of_decide_eq_true hc15
   refine af ?_
   obtain ⟨l213,e213,hr13⟩:∃ (l213:List bD) (e213:Int),cz b.ao 0 b0.aL 0 d.sum=(l213,e213):=⟨_,_,rfl⟩
   refine cZ [0,1,4,6,8,10] [0,8,9,10,11,12,13,14,15,16,7,5] mixed rfl rfl ?_
   refine bQ (kn:=[]) aa 7 rfl trivial ?_
   refine bU (n':=19) [175,177,181] [13,8] rfl rfl (.inl ⟨(ah.plain rfl),aJ.cast (cf (aX [8,13]) (aX [8,18]) (ms:=((dq.set 2 (some (.s 1 0 6 b.ao.length))).set 19 (some (cI 0)))) (ms':=((dq.set 2 (some (.s 1 0 6 l213.length))).set 19 (some (cI e213)))) (fun x hx=>iC x hx b.ao 0 b0.aL 0 d.sum (by first|omega|(simp;done)|(simp;omega)) l213 e213 hr13) nn rfl rfl ⟨⟨_,rfl,.inl ⟨rfl,rfl⟩⟩,⟨_,rfl,.inr (.c (.d _))⟩,⟨_,rfl,.inr (.c (.d _))⟩,⟨_,rfl,.inr (.c (.d _))⟩,trivial⟩ rfl rfl rfl rfl rfl rfl rfl ⟨rfl,trivial⟩ rfl rfl rfl rfl rfl rfl rfl rfl rfl rfl rfl rfl rfl) rfl⟩) rfl ?_
   refine dL [0,1,4,6,8,10] [18,8,0,9,10,11,12,14,15,16,7,5] rfl rfl (by kernel_rfl) ?_
   refine then_ok ?_
   refine aw ?_
   refine ab aa 6 rfl ?_
   obtain ⟨l214,e214,hr14⟩:∃ (l214:List Entry) (e214:Int),dM b.book e213 2 (10+b0.aL) d.sum=(l214,e214):=⟨_,_,rfl⟩
   refine aM 19 [8,18,0,9,10,11,12,14,15,16,7,5] (cf (aX [8]) (aX [8]) (ms:=((dq.set 18 (some (dP b.book))).set 19 (some (cI e213)))) (ms':=((dq.set 18 (some (dP l214))).set 19 (some (cI e214)))) (fun x hx=>iR x hx b.book e213 2 (10+b0.aL) d.sum l214 e214 hr14) mf rfl rfl ⟨⟨_,rfl,.inl ⟨rfl,rfl⟩⟩,⟨_,rfl,.inr (.c (.d _))⟩,⟨_,rfl,.inr (.c (.d _))⟩,⟨_,rfl,.inr (.c (.d _))⟩,trivial⟩ rfl rfl rfl rfl rfl rfl rfl trivial rfl rfl rfl rfl rfl rfl rfl rfl rfl rfl rfl rfl rfl) rfl ?_
   refine bX ?_
   refine bn ?_
   refine then_ok ?_
   have hX:dT b b0 x1 d=(l213,b.due,l214,b.s0,b.s1,e214):=by
     unfold dT;(try simp only [hr1,hr2,hr13,hr14]);(repeat' split)<;>first|rfl|omega|(exfalso;omega)|(simp_all;done)|(simp_all;omega)
   rw [hX] at hj;clear hX;simp only [Prod.mk.injEq] at hj;obtain ⟨rfl,rfl,rfl,rfl,rfl,rfl⟩:=hj
   exact aD.bY (fun k=>if k=13 then 18 else k) (by refine ⟨?_,?_,?_,?_,?_,trivial⟩<;>first|rfl|(simp only [bo];done)|(congr 3;omega)|(congr 4;omega)|(simp only [bp];rfl)) (by refine ⟨?_,?_,?_,?_,?_,?_,?_,?_,?_,?_,?_,?_,trivial⟩<;>first|rfl|(simp only [bo];done)|(congr 3;omega)|(congr 4;omega)|(simp only [bp];rfl)) rfl
  have hc15':=of_decide_eq_false hc15
  refine ad aa 2 rfl ?_
  refine ag rfl (fun hc16=>?_) (fun hc16=>?_)
  ·
   have hc16':=of_decide_eq_true hc16
   refine ad aa 2 rfl ?_
   refine aw ?_
   refine ab aa 2 rfl ?_
   obtain ⟨s215,e215,hr15⟩:∃ (s215:bV) (e215:Int),eA b.s0 0 (⟨0,3,d.n,d.sum⟩:bj)=(s215,e215):=⟨_,_,rfl⟩
   refine aM 18 [8,17,0,9,10,11,12,13,14,15,16,7,5] (cf (aX [8]) (aX [8]) (ms:=(((dq.set 5 (some (cI b.s0.bW))).set 6 (some (de b.s0.kept))).set 19 (some (cI 0)))) (ms':=(((dq.set 5 (some (cI s215.bW))).set 6 (some (de s215.kept))).set 19 (some (cI e215)))) (fun x hx=>sa x hx b.s0 0 (⟨0,3,d.n,d.sum⟩:bj) (by assumption) s215 e215 hr15) xM rfl rfl ⟨⟨_,rfl,.inl ⟨rfl,rfl⟩⟩,⟨_,rfl,.inr (.c (.d _))⟩,⟨_,rfl,.inr (.g ⟨.d _,.d _,.d _,.d _,trivial⟩)⟩,trivial⟩ rfl rfl rfl rfl rfl rfl rfl trivial rfl rfl rfl rfl rfl rfl rfl rfl rfl rfl rfl rfl rfl) rfl ?_
   refine bX ?_
   refine bn ?_
   refine then_ok ?_
   have hX:dT b b0 x1 d=(b.ao,b.due,b.book,s215,b.s1,e215):=by
     unfold dT;(try simp only [hr1,hr2,hr15]);(repeat' split)<;>first|rfl|omega|(exfalso;omega)|(simp_all;done)|(simp_all;omega)
   rw [hX] at hj;clear hX;simp only [Prod.mk.injEq] at hj;obtain ⟨rfl,rfl,rfl,rfl,rfl,rfl⟩:=hj
   exact aD.bY id (by refine ⟨?_,?_,?_,?_,?_,trivial⟩<;>first|rfl|(simp only [bo];done)|(congr 3;omega)|(congr 4;omega)|(simp only [bp];rfl)) (by refine ⟨?_,?_,?_,?_,?_,?_,?_,?_,?_,?_,?_,?_,trivial⟩<;>first|rfl|(simp only [bo];done)|(congr 3;omega)|(congr 4;omega)|(simp only [bp];rfl)) rfl
  have hc16':=of_decide_eq_false hc16
  refine ad aa 2 rfl ?_
  refine ag rfl (fun hc17=>?_) (fun hc17=>?_)
  ·
   have hc17':=of_decide_eq_true hc17
   refine af ?_
   obtain ⟨l216,e216,hr16⟩:∃ (l216:List bD) (e216:Int),cz b.ao 0 b0.aL 0 (0 - d.sum)=(l216,e216):=⟨_,_,rfl⟩
   refine cZ [0,1,4,6,8,10] [0,8,9,10,11,12,13,14,15,16,7,5] mixed rfl rfl ?_
   refine bQ (kn:=[]) aa 7 rfl trivial ?_
   refine bU (n':=18) [204] [] rfl rfl (.inl ⟨(ah.plain rfl),aJ.cast (ra rfl rfl (aH (by first|omega|(simp;done)|(simp;omega)))) rfl⟩) rfl ?_
   refine bU (n':=19) [198,200,205] [13,8] rfl rfl (.inl ⟨(ah.plain rfl),aJ.cast (cf (aX [8,13]) (aX [8,18]) (ms:=((dq.set 2 (some (.s 1 0 6 b.ao.length))).set 19 (some (cI 0)))) (ms':=((dq.set 2 (some (.s 1 0 6 l216.length))).set 19 (some (cI e216)))) (fun x hx=>iC x hx b.ao 0 b0.aL 0 (0 - d.sum) (by first|omega|(simp;done)|(simp;omega)) l216 e216 hr16) nn rfl rfl ⟨⟨_,rfl,.inl ⟨rfl,rfl⟩⟩,⟨_,rfl,.inr (.c (.d _))⟩,⟨_,rfl,.inr (.c (.d _))⟩,⟨_,rfl,.inr (.c (.d _))⟩,trivial⟩ rfl rfl rfl rfl rfl rfl rfl ⟨rfl,trivial⟩ rfl rfl rfl rfl rfl rfl rfl rfl rfl rfl rfl rfl rfl) rfl⟩) rfl ?_
   refine dL [0,1,4,6,8,10] [18,8,0,9,10,11,12,14,15,16,7,5] rfl rfl (by kernel_rfl) ?_
   refine then_ok ?_
   refine aw ?_
   refine ab aa 6 rfl ?_
   obtain ⟨l217,e217,hr17⟩:∃ (l217:List Entry) (e217:Int),dM b.book e216 (10+b0.aL) 2 d.sum=(l217,e217):=⟨_,_,rfl⟩
   refine aM 19 [8,18,0,9,10,11,12,14,15,16,7,5] (cf (aX [8]) (aX [8]) (ms:=((dq.set 18 (some (dP b.book))).set 19 (some (cI e216)))) (ms':=((dq.set 18 (some (dP l217))).set 19 (some (cI e217)))) (fun x hx=>iR x hx b.book e216 (10+b0.aL) 2 d.sum l217 e217 hr17) mf rfl rfl ⟨⟨_,rfl,.inl ⟨rfl,rfl⟩⟩,⟨_,rfl,.inr (.c (.d _))⟩,⟨_,rfl,.inr (.c (.d _))⟩,⟨_,rfl,.inr (.c (.d _))⟩,trivial⟩ rfl rfl rfl rfl rfl rfl rfl trivial rfl rfl rfl rfl rfl rfl rfl rfl rfl rfl rfl rfl rfl) rfl ?_
   refine bX ?_
   refine bn ?_
   refine then_ok ?_
   have hX:dT b b0 x1 d=(l216,b.due,l217,b.s0,b.s1,e217):=by
     unfold dT;(try simp only [hr1,hr2,hr16,hr17]);(repeat' split)<;>first|rfl|omega|(exfalso;omega)|(simp_all;done)|(simp_all;omega)
   rw [hX] at hj;clear hX;simp only [Prod.mk.injEq] at hj;obtain ⟨rfl,rfl,rfl,rfl,rfl,rfl⟩:=hj
   exact aD.bY (fun k=>if k=13 then 18 else k) (by refine ⟨?_,?_,?_,?_,?_,trivial⟩<;>first|rfl|(simp only [bo];done)|(congr 3;omega)|(congr 4;omega)|(simp only [bp];rfl)) (by refine ⟨?_,?_,?_,?_,?_,?_,?_,?_,?_,?_,?_,?_,trivial⟩<;>first|rfl|(simp only [bo];done)|(congr 3;omega)|(congr 4;omega)|(simp only [bp];rfl)) rfl
  have hc17':=of_decide_eq_false hc17
  refine cW ?_
  refine bn ?_
  refine then_ok ?_
  have hX:dT b b0 x1 d=(b.ao,b.due,b.book,b.s0,b.s1,0):=by
    unfold dT;(try simp only [hr1,hr2]);(repeat' split)<;>first|rfl|omega|(exfalso;omega)|(simp_all;done)|(simp_all;omega)
  rw [hX] at hj;clear hX;simp only [Prod.mk.injEq] at hj;obtain ⟨rfl,rfl,rfl,rfl,rfl,rfl⟩:=hj
  exact aD.bY id (by refine ⟨?_,?_,?_,?_,?_,trivial⟩<;>first|rfl|(simp only [bo];done)|(congr 3;omega)|(congr 4;omega)|(simp only [bp];rfl)) (by refine ⟨?_,?_,?_,?_,?_,?_,?_,?_,?_,?_,?_,?_,trivial⟩<;>first|rfl|(simp only [bo];done)|(congr 3;omega)|(congr 4;omega)|(simp only [bp];rfl)) rfl
 refine af ?_
 obtain ⟨l218,e218,hr18⟩:∃ (l218:List ak) (e218:Int),iz b.aS je (⟨b0.az,d.n,d.move,d.sum⟩:ak)=(l218,e218):=⟨_,_,rfl⟩
 refine cZ [0,1,4,6,8] [0,8,9,10,11,12,13,14,15,16,7,5] mixed rfl rfl ?_
 refine bQ (kn:=[]) aa 16 rfl trivial ?_
 refine bU (n':=18) [214,229] [16,8] rfl rfl (.inl ⟨(ah.plain rfl),aJ.cast (cf (aX [8,16]) (aX [8,17]) (ms:=((dq.set 16 (some (.s 1 0 4 b.aS.length))).set 19 (some (cI je)))) (ms':=((dq.set 16 (some (.s 1 0 4 l218.length))).set 19 (some (cI e218)))) (fun x hx=>DY x hx b.aS je (⟨b0.az,d.n,d.move,d.sum⟩:ak) (by first|omega|(simp;done)|(simp;omega)) l218 e218 hr18) FJ rfl rfl ⟨⟨_,rfl,.inl ⟨rfl,rfl⟩⟩,⟨_,rfl,.inr (.g ⟨.d _,.d _,.d _,.d _,trivial⟩)⟩,trivial⟩ rfl rfl rfl rfl rfl rfl rfl ⟨rfl,trivial⟩ rfl rfl rfl rfl rfl rfl rfl rfl rfl rfl rfl rfl rfl) rfl⟩) rfl ?_
 refine dL [0,1,4,6,8] [17,8,0,9,10,11,12,13,14,15,7,5] rfl rfl (by kernel_rfl) ?_
 refine then_ok ?_
 refine af ?_
 refine bc [0,1,4,6,8] [17,8,0,9,10,11,12,13,14,15,7,5] mixed rfl rfl ?_
 refine aA (kn:=[]) aa 10 rfl trivial ?_
 refine aT (n':=18) [235,239] [15] rfl rfl (.inl ⟨(ah.plain rfl),aJ.cast (br (i:=Int.toNat (d.n)) rfl rfl rfl Try.underlying31 lU (by first|omega|(simp;done)|(simp;omega)) (by first|omega|(simp;done)|(simp;omega))) rfl⟩) rfl ?_
 refine bC [17,8,0,9,10,11,12,13,14,15,7,5] rfl rfl rfl rfl (by kernel_rfl) ?_
 refine fV [17,8,0,9,10,11,12,13,14,15,7,5] (dH (ds:=[(dI b0.aL),(dI b0.az),(dI b0.sum),(dI b0.captured),(dI b0.bz),(dI b0.bm),(dI b0.cQ),(dB b0.shut)]) rfl rfl rfl rfl rfl lU rfl (Nat.le_of_ble_eq_true rfl) (bu hx1) rfl (eG (x':=b0) rfl)) rfl ?_
 refine ae ?_
 rcases (show e218=0\/¬e218=0 from by omega) with hs18|hs18
 ·
  refine fq (k:=8) (q:=4) (c':=(.s 15 0 8 (((b.aq).set (Int.toNat (d.n)) b0).length))) rfl rfl (by first|rfl|(simp;done)|(congr 1;omega)) rfl ?_
  refine aE aa 2 rfl ?_
  refine aM 22 [0,18,19,20,21,7,5] (cE (aX [0,8,9,10,11,12,13,14,15,17]) (aX [0,18,19,20,21]) (fb (x 17) (x 19) b (⟨b.time,b.down,jcards,jdue,(b.aq).set (Int.toNat (d.n)) b0,js0,js1,b.n0,b.n1,b.w0,b.w1,b.bF,l218,jbook⟩:Bk) e218 (by first|assumption|omega)) fx rfl rfl ⟨⟨_,rfl,.inl ⟨rfl,rfl⟩⟩,⟨_,rfl,.inl ⟨rfl,rfl⟩⟩,trivial⟩ ⟨rfl,rfl,rfl,rfl,rfl,rfl,rfl,rfl,rfl,rfl,trivial⟩ rfl rfl rfl rfl rfl rfl trivial ⟨⟨trivial,trivial,trivial,trivial,trivial,trivial,trivial,trivial,trivial,trivial,trivial,trivial,trivial,trivial,trivial,trivial,trivial,trivial,trivial,trivial,trivial⟩,(fun _ _ _ _=>trivial),(fun _ _ _ _=>trivial),(fun _ _ _ _=>trivial),(fun _ _ _ _=>trivial),trivial⟩ rfl rfl rfl rfl) rfl ?_
  refine ab aa 2 rfl ?_
  refine ae ?_
  refine ax ?_
  have hX:dN b d=((⟨b.time,b.down,jcards,jdue,(b.aq).set (Int.toNat (d.n)) b0,js0,js1,b.n0,b.n1,b.w0,b.w1,b.bF,l218,jbook⟩:Bk),(⟨e218,0⟩:Answer)):=by
    unfold dN;simp only [hdn,Bool.false_eq_true,if_false];rw [if_neg (by omega),hx1];dsimp only;simp only [hr0,hj0];unfold oX dt;simp only [hr18];(repeat' split)<;>first|rfl|omega|(exfalso;omega)|(simp_all;done)|(simp_all;omega)
  rw [hX] at hr;clear hX
  simp only [Prod.mk.injEq] at hr;obtain ⟨rfl,rfl⟩:=hr
  refine al aa [0,18,19,20,21,5] 5 rfl rfl rfl rfl rfl rfl ?_ ?_
  all_goals first|rfl|(simp [ar,aU,bb];done)|(simp [ar,aU,bb];omega)
 refine fq (k:=8) (q:=4) (c':=(.s 15 0 8 (((b.aq).set (Int.toNat (d.n)) b0).length))) rfl rfl (by first|rfl|(simp;done)|(congr 1;omega)) rfl ?_
 refine aE aa 2 rfl ?_
 refine aM 22 [0,18,19,20,21,7,5] (cE (aX [0,8,9,10,11,12,13,14,15,17]) (aX [0,18,19,20,21]) (fN (x 17) (x 19) b (⟨b.time,b.down,jcards,jdue,(b.aq).set (Int.toNat (d.n)) b0,js0,js1,b.n0,b.n1,b.w0,b.w1,b.bF,l218,jbook⟩:Bk) e218 (by first|assumption|omega)) fx rfl rfl ⟨⟨_,rfl,.inl ⟨rfl,rfl⟩⟩,⟨_,rfl,.inl ⟨rfl,rfl⟩⟩,trivial⟩ ⟨rfl,rfl,rfl,rfl,rfl,rfl,rfl,rfl,rfl,rfl,trivial⟩ rfl rfl rfl rfl rfl rfl trivial ⟨⟨trivial,trivial,trivial,trivial,trivial,trivial,trivial,trivial,trivial,trivial,trivial,trivial,trivial,trivial,trivial,trivial,trivial,trivial,trivial,trivial,trivial⟩,(fun _ _ _ _=>trivial),(fun _ _ _ _=>trivial),(fun _ _ _ _=>trivial),(fun _ _ _ _=>trivial),trivial⟩ rfl rfl rfl rfl) rfl ?_
 refine ab aa 2 rfl ?_
 refine ae ?_
 refine ax ?_
 have hX:dN b d=(b,(⟨e218,0⟩:Answer)):=by
   unfold dN;simp only [hdn,Bool.false_eq_true,if_false];rw [if_neg (by omega),hx1];dsimp only;simp only [hr0,hj0];unfold oX dt;simp only [hr18];(repeat' split)<;>first|rfl|omega|(exfalso;omega)|(simp_all;done)|(simp_all;omega)
 rw [hX] at hr;clear hX
 simp only [Prod.mk.injEq] at hr;obtain ⟨rfl,rfl⟩:=hr
 refine al aa [0,18,19,20,21,5] 5 rfl rfl rfl rfl rfl rfl ?_ ?_
 all_goals first|rfl|(simp [ar,aU,bb];done)|(simp [ar,aU,bb];omega)
theorem zB (x:Nat->Value) (hx:∀ i,(x i).oneCell'=true) (b:Bk) (d:aV) (ok:cj b) (hdn:b.down=true) (b2:Bk) (a2:Answer) (hr:dN b d=(b2,a2)):cA Try.prog 64 [(.c (.p 0 0 0 0)),(.c (.q (cP d) 0))] [(0,(.box 98 (aU b 1 2 3 4 (.d (.v (x 17))) (.d (.v (x 19)))))),(1,(dK b.ao)),(2,(dC b.due)),(3,(dS b.aq)),(4,(cK b.aS))] [0] (.v (.g [cI a2.err,cI a2.ba])) [(0,(.box 98 (aU b2 1 2 3 4 (.d (.v (x 17))) (.d (.v (x 19)))))),(1,(dK b2.ao)),(2,(dC b2.due)),(3,(dS b2.aq)),(4,(cK b2.aS))]:=by
 refine cA.mk 246 [(0,(aC (.p 0 0 0 0))),(1,(aC (.q (cP d) 0)))] 5 Try.func64 rfl rfl rfl rfl rfl rfl rfl rfl rfl ?_
 intro W0 F0 T0 pg
 obtain ⟨okt,okc,okd,oka,oky,okw0,okw1,okp,okv,okk0,okk1,okg,okl0,okl1,okp0,okp1,okn0,okn1,okq⟩:=id ok
 refine ad aa 1 rfl ?_
 refine af ?_
 refine ad aa 5 rfl ?_
 refine ag rfl (fun _=>?_) (fun hno=>absurd (hdn.symm.trans hno) (by decide))
 refine ad aa 2 rfl ?_
 refine ax ?_
 refine an ?_
 have hX:dN b d=(b,(⟨12,0⟩:Answer)):=by
   unfold dN;rw [if_pos hdn]
 rw [hX] at hr;clear hX
 simp only [Prod.mk.injEq] at hr;obtain ⟨rfl,rfl⟩:=hr
 refine al aa [0,1,2,3,4,5] 5 rfl rfl rfl rfl rfl rfl ?_ ?_
 all_goals first|rfl|(simp [ar,aU,bb];done)|(simp [ar,aU,bb];omega)
theorem Bj (x:Nat->Value) (hx:∀ i,(x i).oneCell'=true) (b:Bk) (d:aV) (ok:cj b) (b2:Bk) (a2:Answer) (hr:dN b d=(b2,a2)):cA Try.prog 64 [(.c (.p 0 0 0 0)),(.c (.q (cP d) 0))] [(0,(.box 98 (aU b 1 2 3 4 (.d (.v (x 17))) (.d (.v (x 19)))))),(1,(dK b.ao)),(2,(dC b.due)),(3,(dS b.aq)),(4,(cK b.aS))] [0] (.v (.g [cI a2.err,cI a2.ba])) [(0,(.box 98 (aU b2 1 2 3 4 (.d (.v (x 17))) (.d (.v (x 19)))))),(1,(dK b2.ao)),(2,(dC b2.due)),(3,(dS b2.aq)),(4,(cK b2.aS))]:=by
  cases hdn:b.down
  ·exact zA x hx b d ok hdn b2 a2 hr
  ·exact zB x hx b d ok hdn b2 a2 hr
theorem fT {α:Type} {l:List α} {n:Nat} {x y:α} (h:y∈l.set n x):y∈l\/y=x:=List.mem_or_eq_of_mem_set h
theorem jn {l:List bD} {e k x y:Int} (h:∀ c∈l,ct c=0):∀ c∈(cz l e k x y).1,ct c=0:=by
 unfold cz
 split
 ·exact h
 ·rename_i c hc
  split
  ·rename_i h0
   intro z hz
   rcases fT hz with hz|rfl
   ·exact h z hz
   ·have he:(dQ c x y).2=0:=by unfold dw at h0;split at h0<;>omega
    rcases pR (show dQ c x y=((dQ c x y).1,(dQ c x y).2) from rfl) with ⟨h1,_⟩|h1
    ·exact absurd he h1
    ·exact h1.2.2.2.2.2.2.2
  ·exact h
theorem uH {time:Int} {n m:Nat}:∀ (l:List bB) (i:Nat) (ao:List bD) (aq:List bB) (e:Int),(∀ a∈l,bG a=0/\0<=a.aL/\a.aL < n/\0<=a.az/\a.az < m)->
  (∀ a∈aq,bG a=0/\0<=a.aL/\a.aL < n/\0<=a.az/\a.az < m)->(∀ c∈ao,ct c=0)->
  (∀ c∈(fk time l i ao aq e).1,ct c=0)/\(fk time l i ao aq e).1.length=ao.length/\(fk time l i ao aq e).2.1.length=aq.length/\
  (∀ a∈(fk time l i ao aq e).2.1,bG a=0/\0<=a.aL/\a.aL < n/\0<=a.az/\a.az < m)
 |[],_,_,_,_,_,h2,h3=>⟨h3,rfl,rfl,h2⟩
 |a::l,i,ao,aq,e,h1,h2,h3=>by
  have ha:=h1 a List.mem_cons_self
  obtain ⟨r1,r2,r3,r4⟩:=uH l (i+1) (cz ao e a.aL (bK (dU a time) - bK a) 0).1 (aq.set i (dU a time)) (cz ao e a.aL (bK (dU a time) - bK a) 0).2
   (fun x hx=>h1 x (List.mem_cons_of_mem _ hx)) (fun x hx=>by
    rcases fT hx with hx|rfl
    ·exact h2 x hx
    ·exact ⟨wI ha.1,ha.2⟩) (jn h3)
  refine ⟨r1,r2.trans (fa _ _ _ _ _),r3.trans (List.length_set ..),r4⟩
theorem cj.late {b:Bk} (h:cj b):cj (gk b):=by
 unfold gk
 split
 ·obtain ⟨r1,r2,r3,r4⟩:=uH (time:=b.time) (n:=b.ao.length) (m:=b.due.length) b.aq 0 b.ao b.aq 0 h.perm h.perm h.right
  exact ⟨h.time,by rw [r2];exact h.ao,h.due,by rw [r3];exact h.aq,h.aS,h.w0,h.w1,by dsimp only;rw [r2];exact r4,by dsimp only;rw [r2];exact h.ji,by dsimp only;rw [r3];exact h.k0,by dsimp only;rw [r3];exact h.k1,r1,h.l0,h.l1,by dsimp only;rw [r3];exact h.p0,by dsimp only;rw [r3];exact h.p1,h.n0,h.n1,h.calm⟩
 ·exact h
theorem cj.dt {b c:Bk} {e:Int} (h:cj b) (hc:e=0->cj c):cj (dt b c e).1:=by
 unfold Dev.dt;split
 ·exact hc (by assumption)
 ·exact h
theorem fB {e x:Int} (h:dw e x=0):e=0/\x=0:=by unfold dw at h;split at h<;>omega
theorem ju {l:List Entry} {e s d n:Int} (h:(dM l e s d n).2=0):e=0/\(iA l s d n).2=0/\(dM l e s d n).1=(iA l s d n).1:=by
 unfold dM at h ⊢
 split at h
 ·rename_i h1;rw [if_pos h1];have:=fB h1;exact ⟨this.1,this.2,rfl⟩
 ·rename_i h1;exact absurd h h1
theorem cj.zt {b:Bk} (h:cj b) {cs:List bD} {bk:List Entry} (h1:∀ c∈cs,ct c=0) (h2:cs.length=b.ao.length):cj {b with ao:=cs,book:=bk}:=
 ⟨h.time,by rw [h2];exact h.ao,h.due,h.aq,h.aS,h.w0,h.w1,by dsimp only;rw [h2];exact h.perm,by dsimp only;rw [h2];exact h.ji,h.k0,h.k1,h1,h.l0,h.l1,h.p0,h.p1,h.n0,h.n1,h.calm⟩
theorem cj.load {b:Bk} (h:cj b) (d:aV):cj (ft b d).1:=by
 unfold ft
 split
 ·exact h
 split
 ·exact h
 ·exact h.dt fun _=>h.zt (jn h.right) (fa _ _ _ _ _)
theorem cj.Cs {b:Bk} (h:cj b) {due:List Int} {bk:List Entry} (h2:due.length=b.due.length):cj {b with due:=due,book:=bk}:=
 ⟨h.time,h.ao,by rw [h2];exact h.due,h.aq,h.aS,h.w0,h.w1,by dsimp only;rw [h2];exact h.perm,by dsimp only;rw [h2];exact h.ji,h.k0,h.k1,h.right,h.l0,h.l1,h.p0,h.p1,h.n0,h.n1,h.calm⟩
theorem cj.uz {b:Bk} (h:cj b) (d:aV):cj (gL b d).1:=by
 unfold gL
 split
 ·exact h
 split
 ·exact h
 ·exact h.dt fun _=>h.Cs (List.length_set ..)
theorem cj.aO {b:Bk} (h:cj b) (d:aV):cj (eT b d).1:=by
 unfold eT
 split
 ·exact h
 ·have h1:cj {b with time:=b.time+d.sum}:=by have:=h.time;exact h.tick (by omega) (by omega)
  dsimp only
  split
  ·exact h1
  ·exact h1.late
theorem sL {l:List cc} {ks:List bj} {n:Int} {p:cc} (h:p∈lD l ks n):p∈l\/(∃ t∈ks,p=⟨t,-1⟩)\/p=⟨⟨0,0,0,0⟩,n⟩:=by
 unfold lD at h
 simp only [List.mem_append,List.mem_map,List.mem_singleton] at h
 rcases h with (h|⟨t,ht,rfl⟩)|h
 ·exact .inl h
 ·exact .inr (.inl ⟨t,ht,rfl⟩)
 ·exact .inr (.inr h)
structure wY (b:Bk) (n:Nat) (w:List cc):Prop where
 len:w.length<=60
 own:∀ p∈w,p.seen < 0->fz p.cu.number/\0<=p.cu.ba/\p.cu.ba < n
theorem cj.ways {b:Bk} (h:cj b) {v0 v1:List cc} (h0:wY b b.aq.length v0) (h1:wY b b.aq.length v1):cj {b with w0:=v0,w1:=v1}:=
 ⟨h.time,h.ao,h.due,h.aq,h.aS,h0.len,h1.len,h.perm,h.ji,h.k0,h.k1,h.right,h.l0,h.l1,h0.own,h1.own,h.n0,h.n1,h.calm⟩
theorem ui {b:Bk} {w:List cc} {ks:List bj} {n:Int} (hn:0<=n) (h:wY b b.aq.length w) (hk:∀ t∈ks,fz t.number/\0<=t.ba/\t.ba < b.aq.length):wY b b.aq.length (jo w ks n).1:=by
 unfold jo
 split
 ·exact h
 ·refine ⟨by dsimp only;omega,fun p hp hs=>?_⟩
  rcases sL hp with hp|⟨t,ht,rfl⟩|rfl
  ·exact h.own p hp hs
  ·exact hk t ht
  ·simp at hs;omega
theorem cj.send {b:Bk} (h:cj b) (d:aV):cj {b with w0:=(eK b.s0 b.s1 b.n0 b.n1 b.w0 b.w1 d).1,w1:=(eK b.s0 b.s1 b.n0 b.n1 b.w0 b.w1 d).2.1}:=by
 have h0:wY b b.aq.length b.w0:=⟨h.w0,h.p0⟩
 have h1:wY b b.aq.length b.w1:=⟨h.w1,h.p1⟩
 unfold eK
 split
 ·exact h.ways h0 (ui h.n0 h1 h.k0)
 split
 ·exact h.ways (ui h.n1 h0 h.k1) h1
 ·exact h.ways h0 h1
theorem uj {s:bV} {e:Int} {t:bj} {n:Nat} (h:∀ t∈s.kept,fz t.number/\0<=t.ba/\t.ba < n) (hl:s.kept.length<=40) (ht:0<=t.ba/\t.ba < n):
  (∀ u∈(eA s e t).1.kept,fz u.number/\0<=u.ba/\u.ba < n)/\(eA s e t).1.kept.length<=40:=by
 unfold eA
 split
 ·rename_i h0
  have he:=(fB h0).2
  unfold gf at he
  split at he
  ·rename_i h1;exact absurd he h1
  split at he
  ·rename_i h1;exact absurd he h1
  ·rename_i h1 h2
   have hp:(gf s t).1=la s t:=by unfold gf;rw [if_neg h1,if_neg h2]
   have hw:(cJ (la s t)).err=0:=by omega
   have hr:=ur hw
   dsimp only
   rw [hp]
   refine ⟨fun x hx=>?_,hr.1⟩
   rcases List.mem_append.1 hx with hx|hx
   ·exact h x hx
   ·obtain rfl:=List.mem_singleton.1 hx
    exact ⟨by have:=hr.2.1;have:=hr.2.2.1;constructor<;>simp only [la,List.length_append] at *<;>omega,ht⟩
 ·exact ⟨h,hl⟩
theorem yL {l:List ak} {e:Int} {r:ak} (h:l.length<=100):(iz l e r).1.length<=100:=by
 unfold iz
 split
 ·exact h
 ·rw [List.length_append,List.length_singleton];omega
theorem xr {l:List ak} {e:Int} {r:ak} (h:(iz l e r).2=0):e=0/\l.length≠100/\(iz l e r).1=l++[r]:=by
 unfold iz at h ⊢
 split at h
 ·have:=(fB h).2;omega
 ·rename_i h1;rw [if_neg h1];exact ⟨h,h1,rfl⟩
structure nI (n:Nat) (s:bV):Prop where
 own:∀ t∈s.kept,fz t.number/\0<=t.ba/\t.ba < n
 len:s.kept.length<=40
theorem cj.sV {b:Bk} (h:cj b):nI b.aq.length b.s0:=⟨h.k0,h.l0⟩
theorem cj.sU {b:Bk} (h:cj b):nI b.aq.length b.s1:=⟨h.k1,h.l1⟩
theorem nI.send {n:Nat} {s:bV} {e:Int} {t:bj} (h:nI n s) (ht:0<=t.ba/\t.ba < n):nI n (eA s e t).1:=⟨(uj h.own h.len ht).1,(uj h.own h.len ht).2⟩
theorem Ba {b:Bk} (h:cj b) (a cx:bB) (d:aV) (hn:0<=d.n/\d.n < b.aq.length):
  (∀ c∈(dT b a cx d).1,ct c=0)/\(dT b a cx d).1.length=b.ao.length/\(dT b a cx d).2.1.length=b.due.length/\
  nI b.aq.length (dT b a cx d).2.2.2.1/\nI b.aq.length (dT b a cx d).2.2.2.2.1:=by
 unfold dT
 have hc:∀ e k x y,(∀ c∈(cz b.ao e k x y).1,ct c=0)/\(cz b.ao e k x y).1.length=b.ao.length:=fun e k x y=>⟨jn h.right,fa _ _ _ _ _⟩
 split
 ·exact ⟨(hc ..).1,(hc ..).2,rfl,h.sV,h.sU⟩
 split
 ·exact ⟨(hc ..).1,(hc ..).2,rfl,h.sV.send hn,h.sU⟩
 split
 ·exact ⟨h.right,rfl,List.length_set ..,h.sV,h.sU.send hn⟩
 split
 ·exact ⟨(hc ..).1,(hc ..).2,rfl,h.sV,h.sU⟩
 split
 ·exact ⟨h.right,rfl,rfl,h.sV.send hn,h.sU⟩
 split
 ·exact ⟨(hc ..).1,(hc ..).2,rfl,h.sV,h.sU⟩
 ·exact ⟨h.right,rfl,rfl,h.sV,h.sU⟩
theorem cj.ll {b:Bk} (h:cj b) (d:aV):cj (dN b d).1:=by
 unfold dN
 split
 ·exact h
 split
 ·exact h
 rename_i hd hn
 have hn:0<=d.n/\d.n < b.aq.length:=by omega
 split
 ·exact h
 rename_i cx ho
 split
 ·exact h
 rename_i hm
 split
 ·exact h
 have hm:ck cx d.move d.sum=((ck cx d.move d.sum).1,0):=Prod.ext rfl (by dsimp only;omega)
 obtain ⟨m1,m2,m3,m4,_⟩:=me hm
 obtain ⟨r1,r2,r3,r4,r5⟩:=Ba h (ck cx d.move d.sum).1 cx d hn
 have hp:=h.perm cx (List.mem_of_getElem? ho)
 unfold oX
 refine h.dt fun _=>⟨h.time,by rw [r2];exact h.ao,by rw [r3];exact h.due,by rw [List.length_set];exact h.aq,yL h.aS,h.w0,h.w1,fun a ha=>?_,by dsimp only;rw [r2,r3];exact h.ji,by dsimp only;rw [List.length_set];exact r4.own,by dsimp only;rw [List.length_set];exact r5.own,r1,r4.len,r5.len,by dsimp only;rw [List.length_set];exact h.p0,by dsimp only;rw [List.length_set];exact h.p1,h.n0,h.n1,h.calm⟩
 dsimp only
 rw [r2,r3]
 rcases fT ha with ha|rfl
 ·exact h.perm a ha
 ·exact ⟨m2,by rw [m3,m4];exact hp.2⟩
theorem oa {aL az n time:Int} (h:(cV aL az n time).2=0):bG (cV aL az n time).1=0/\(cV aL az n time).1=⟨aL,az,n,0,0,0,time+100,false⟩/\¬(n < 1\/n > 1000000\/time < 0\/time > 1000000\/aL < 0\/aL > 7\/az < 0\/az > 7):=by
 unfold cV at h ⊢
 split at h
 ·cases h
 ·rename_i h1;rw [if_neg h1];exact ⟨qJ (by dsimp only;omega),rfl,h1⟩
theorem Ax {s:cv} {a:ca} (h:(cg s a).2=0):(cg s a).1.aY=s.aY++[a]:=by
 unfold cg at h ⊢
 split at h
 ·rename_i h1;exact absurd h h1
 split at h
 ·cases h
 split at h
 ·cases h
 split at h
 ·cases h
 ·rename_i h1 h2 h3 h4;rw [if_neg h1,if_neg h2,if_neg h3,if_neg h4]
theorem rf {e:Int} (h:gr e=0):e=0:=by unfold gr at h;split at h<;>omega
theorem cj.asks {b:Bk} (h:cj b) (d:aV):cj (du b d).1:=by
 unfold du
 split
 ·exact h
 rename_i hn
 have hlen:∀ a∈b.bF.aY++[(⟨d.n,d.az,d.sum,b.time⟩:ca)],0<=a.aL/\a.aL < b.ao.length/\0<=a.az/\a.az < b.due.length:=fun a ha=>by
  rcases List.mem_append.1 ha with ha|ha
  ·exact h.ji a ha
  ·obtain rfl:=List.mem_singleton.1 ha;dsimp only;omega
 split
 ·split
  ·exact h
  split
  ·exact h
  rename_i h1 h2
  have he:=rf (show gr (cg b.bF ⟨d.n,d.az,d.sum,b.time⟩).2=0 by omega)
  have hg:=Ax he
  exact ⟨h.time,h.ao,h.due,by dsimp only;omega,h.aS,h.w0,h.w1,h.perm,by dsimp only;rw [hg];exact hlen,h.k0,h.k1,h.right,h.l0,h.l1,h.p0,h.p1,h.n0,h.n1,fun hf=>by dsimp only at hf;simp_all⟩
 split
 ·exact h
 split
 ·exact h
 split
 ·exact h
 rename_i h1 h2 h3 c hc
 split
 ·exact h
 rename_i h4
 obtain ⟨w1,w2,w3⟩:=oa (show (cV d.n d.az d.sum b.time).2=0 by omega)
 have hcr:ct (dx c d.sum b.time).1=0:=by
  rcases qo (show dx c d.sum b.time=((dx c d.sum b.time).1,(dx c d.sum b.time).2) from rfl) with ⟨h5,_⟩|⟨h5,h6,h7,h8,h9,h10,h11,l,h12,h13⟩
  ·exact absurd h5 (by omega)
  ·rw [h13];have hr:=gq h6;exact kQ (by dsimp only;omega) hr.2.2.2.2.1 (zL h12)
 have hq:=h.calm (by cases hd:b.down with|true=>exact absurd hd (by assumption)|false=>rfl)
 have hl:b.aq.length+1<=30:=by have:=h.aq;rw [hq] at this;simp only [List.length_nil] at this;omega
 have hk:∀ {n:Int},n < (b.aq.length:Int)->n < ((b.aq++[(cV d.n d.az d.sum b.time).1]).length:Int):=fun hn=>by rw [List.length_append,List.length_singleton];omega
 refine ⟨h.time,by rw [List.length_set];exact h.ao,h.due,by dsimp only;rw [hq,List.length_append,List.length_singleton];exact hl,h.aS,h.w0,h.w1,fun a ha=>?_,by dsimp only;rw [List.length_set];exact h.ji,
  fun t ht=>⟨(h.k0 t ht).1,(h.k0 t ht).2.1,hk (h.k0 t ht).2.2⟩,fun t ht=>⟨(h.k1 t ht).1,(h.k1 t ht).2.1,hk (h.k1 t ht).2.2⟩,fun x hx=>?_,h.l0,h.l1,
  fun p hp hs=>⟨(h.p0 p hp hs).1,(h.p0 p hp hs).2.1,hk (h.p0 p hp hs).2.2⟩,fun p hp hs=>⟨(h.p1 p hp hs).1,(h.p1 p hp hs).2.1,hk (h.p1 p hp hs).2.2⟩,h.n0,h.n1,h.calm⟩
 ·dsimp only at ha ⊢
  rw [List.length_set]
  rcases List.mem_append.1 ha with ha|ha
  ·exact h.perm a ha
  ·obtain rfl:=List.mem_singleton.1 ha
   exact ⟨w1,by rw [w2];dsimp only;omega⟩
 ·rcases fT hx with hx|rfl
  ·exact h.right x hx
  ·exact hcr
theorem sT {α:Type} {p:α->Bool} {l:List α} {x:α} (h:x∈dz p l):x∈l:=(List.mem_filter.1 h).1
theorem nI.back {n:Nat} {s:bV} (h:nI n s) {seen:Int} (hb:(dW s seen).2=0):nI n (dW s seen).1:=by
 rcases oZ (show dW s seen=((dW s seen).1,(dW s seen).2) from rfl) with ⟨h1,_⟩|⟨_,_,_,_,h2⟩
 ·exact absurd hb h1
 ·rw [h2];exact ⟨fun t ht=>h.own t (sT ht),Nat.le_trans (List.length_filter_le ..) h.len⟩
theorem tX {aq:List bB} {due:List Int} {ao:List bD} {book:List Entry} {e:Int} {t:bj} (h:∀ c∈ao,ct c=0):
  (ez aq due ao book e t).1.length=due.length/\(∀ c∈(ez aq due ao book e t).2.1,ct c=0)/\(ez aq due ao book e t).2.1.length=ao.length:=by
 unfold ez
 split
 ·exact ⟨rfl,h,rfl⟩
 split
 ·exact ⟨List.length_set ..,h,rfl⟩
 split
 ·exact ⟨rfl,jn h,fa _ _ _ _ _⟩
 split
 ·exact ⟨List.length_set ..,h,rfl⟩
 ·exact ⟨rfl,h,rfl⟩
theorem mJ {n:Int} {t:bj} (h:0<=n):0<=(gV n t).1:=by unfold gV;split<;>(dsimp only;omega)
theorem vd {α:Type} {l:List α} {n:Nat} {x:α} (h:x∈l.drop n):x∈l:=List.mem_of_mem_drop h
theorem cj.bx {b:Bk} (h:cj b) {cs:List bD} {due:List Int} {bk:List Entry} (h1:∀ c∈cs,ct c=0) (h2:cs.length=b.ao.length) (h3:due.length=b.due.length):cj {b with ao:=cs,due:=due,book:=bk}:=
 ⟨h.time,by rw [h2];exact h.ao,by rw [h3];exact h.due,h.aq,h.aS,h.w0,h.w1,by dsimp only;rw [h2,h3];exact h.perm,by dsimp only;rw [h2,h3];exact h.ji,h.k0,h.k1,h1,h.l0,h.l1,h.p0,h.p1,h.n0,h.n1,h.calm⟩
theorem cj.xb {b:Bk} (h:cj b):cj {b with w0:=b.w0.drop 1}:=
 ⟨h.time,h.ao,h.due,h.aq,h.aS,by dsimp only;rw [List.length_drop];have:=h.w0;omega,h.w1,h.perm,h.ji,h.k0,h.k1,h.right,h.l0,h.l1,fun p hp=>h.p0 p (vd hp),h.p1,h.n0,h.n1,h.calm⟩
theorem cj.xa {b:Bk} (h:cj b):cj {b with w1:=b.w1.drop 1}:=
 ⟨h.time,h.ao,h.due,h.aq,h.aS,h.w0,by dsimp only;rw [List.length_drop];have:=h.w1;omega,h.perm,h.ji,h.k0,h.k1,h.right,h.l0,h.l1,h.p0,fun p hp=>h.p1 p (vd hp),h.n0,h.n1,h.calm⟩
theorem cj.Es {b:Bk} (h:cj b) {s:bV} (hs:nI b.aq.length s):cj {b with s0:=s}:=
 ⟨h.time,h.ao,h.due,h.aq,h.aS,h.w0,h.w1,h.perm,h.ji,hs.own,h.k1,h.right,hs.len,h.l1,h.p0,h.p1,h.n0,h.n1,h.calm⟩
theorem cj.Er {b:Bk} (h:cj b) {s:bV} (hs:nI b.aq.length s):cj {b with s1:=s}:=
 ⟨h.time,h.ao,h.due,h.aq,h.aS,h.w0,h.w1,h.perm,h.ji,h.k0,hs.own,h.right,h.l0,hs.len,h.p0,h.p1,h.n0,h.n1,h.calm⟩
theorem cj.BE {b:Bk} (h:cj b) {n:Int} (hn:0<=n):cj {b with n0:=n}:=
 ⟨h.time,h.ao,h.due,h.aq,h.aS,h.w0,h.w1,h.perm,h.ji,h.k0,h.k1,h.right,h.l0,h.l1,h.p0,h.p1,hn,h.n1,h.calm⟩
theorem cj.BD {b:Bk} (h:cj b) {n:Int} (hn:0<=n):cj {b with n1:=n}:=
 ⟨h.time,h.ao,h.due,h.aq,h.aS,h.w0,h.w1,h.perm,h.ji,h.k0,h.k1,h.right,h.l0,h.l1,h.p0,h.p1,h.n0,hn,h.calm⟩
theorem cj.Bq {b:Bk} (h:cj b) (d:aV):cj (fJ b d).1:=by
 unfold fJ
 split
 ·exact h
 split
 ·exact h.xb
 split
 ·split
  ·rename_i hb;exact h.xb.Es (h.sV.back hb)
  ·exact h
 split
 ·obtain ⟨r1,r2,r3⟩:=tX (aq:=b.aq) (due:=b.due) (book:=b.book) (e:=0) (t:=(by assumption:cc).cu) h.right
  exact h.dt fun _=>(h.xb.BE (mJ h.n0)).bx r2 r3 r1
 ·exact h.xb.BE (mJ h.n0)
theorem cj.Bp {b:Bk} (h:cj b) (d:aV):cj (fI b d).1:=by
 unfold fI
 split
 ·exact h
 split
 ·exact h.xa
 split
 ·split
  ·rename_i hb;exact h.xa.Er (h.sU.back hb)
  ·exact h
 split
 ·obtain ⟨r1,r2,r3⟩:=tX (aq:=b.aq) (due:=b.due) (book:=b.book) (e:=0) (t:=(by assumption:cc).cu) h.right
  exact h.dt fun _=>(h.xa.BD (mJ h.n1)).bx r2 r3 r1
 ·exact h.xa.BD (mJ h.n1)
theorem cj.ln {b:Bk} (h:cj b) (d:aV):cj (cr b d).1:=by
 unfold cr
 split
 ·exact h.Bq d
 split
 ·exact h.Bp d
 ·exact h
theorem ot {c:bD} {n:Int} (h:(eJ c n).2=0):ct (eJ c n).1=0/\(eJ c n).1=⟨c.bx,c.held+n,c.bZ,c.cM⟩/\ct c=0/\1<=n/\n<=1000000:=by
 unfold eJ at h ⊢
 split at h
 ·rename_i h1;exact absurd h h1
 split at h
 ·cases h
 ·rename_i h1 h2
  rw [if_neg h1,if_neg h2]
  have hw:ct c=0:=by omega
  have hr:=gq hw
  exact ⟨kQ (by dsimp only;omega) hr.2.2.2.2.1 hr.2.2.2.2.2,rfl,hw,by omega,by omega⟩
theorem yo {n m:Nat}:∀ (l:List ca) (cs:List bD) (xs:List bB),(∀ a∈l,0<=a.aL/\a.aL < n/\0<=a.az/\a.az < m)->cs.length=n->
  (∀ a∈xs,bG a=0/\0<=a.aL/\a.aL < n/\0<=a.az/\a.az < m)->(∀ c∈cs,ct c=0)->
  (∀ c∈(fW l cs xs).1,ct c=0)/\(fW l cs xs).1.length=n/\(∀ a∈(fW l cs xs).2.1,bG a=0/\0<=a.aL/\a.aL < n/\0<=a.az/\a.az < m)/\xs.length<=(fW l cs xs).2.1.length/\(fW l cs xs).2.1.length<=xs.length+l.length
 |[],cs,xs,_,h2,h3,h4=>⟨h4,h2,h3,Nat.le_refl _,Nat.le_refl _⟩
 |x::l,cs,xs,h1,h2,h3,h4=>by
  unfold fW
  split
  ·exact ⟨h4,h2,h3,Nat.le_refl _,by dsimp only;omega⟩
  rename_i e1
  split
  ·exact ⟨h4,h2,h3,Nat.le_refl _,by dsimp only;omega⟩
  rename_i c hc
  split
  ·exact ⟨h4,h2,h3,Nat.le_refl _,by dsimp only;omega⟩
  rename_i e2
  have hx:=h1 x List.mem_cons_self
  obtain ⟨w1,w2,w3⟩:=oa (show (cV x.aL x.az x.sum x.time).2=0 by omega)
  obtain ⟨f1,_⟩:=ot (show (eJ c x.sum).2=0 by omega)
  obtain ⟨r1,r2,r3,r4,r5⟩:=yo l (cs.set x.aL.toNat (eJ c x.sum).1) (xs++[(cV x.aL x.az x.sum x.time).1]) (fun a ha=>h1 a (List.mem_cons_of_mem _ ha)) ((List.length_set ..).trans h2)
   (fun a ha=>by
    rcases List.mem_append.1 ha with ha|ha
    ·exact h3 a ha
    ·obtain rfl:=List.mem_singleton.1 ha;exact ⟨w1,by rw [w2];exact hx⟩)
   (fun z hz=>by
    rcases fT hz with hz|rfl
    ·exact h4 z hz
    ·exact f1)
  rw [List.length_append,List.length_singleton] at r4 r5
  exact ⟨r1,r2,r3,by omega,by rw [List.length_cons];omega⟩
theorem qm {s:cv} (h:(cU s).2.2=0):bT s=0/\(cU s).1=⟨s.cap,List.replicate s.used.length 0,[]⟩/\(cU s).2.1=s.aY:=by
 unfold cU at h ⊢
 split at h
 ·rename_i h1;exact absurd h h1
 ·rename_i h1;rw [if_neg h1];exact ⟨by omega,rfl,rfl⟩
theorem cj.zV {b:Bk} (h:cj b) (h1:(cU b.bF).2.2=0):cj {b with ao:=(fW (cU b.bF).2.1 b.ao b.aq).1,aq:=(fW (cU b.bF).2.1 b.ao b.aq).2.1,bF:=(cU b.bF).1,down:=false}:=by
 obtain ⟨_,c1,c2⟩:=qm h1
 rw [c1,c2]
 obtain ⟨r1,r2,r3,r4,r5⟩:=yo b.bF.aY b.ao b.aq h.ji rfl h.perm h.right
 have hk:∀ {n:Int},n < (b.aq.length:Int)->n < ((fW b.bF.aY b.ao b.aq).2.1.length:Int):=fun hn=>by omega
 exact ⟨h.time,by rw [r2];exact h.ao,h.due,by have:=h.aq;simp only [List.length_nil];omega,h.aS,h.w0,h.w1,by dsimp only;rw [r2];exact r3,fun a ha=>by simp at ha,
  fun t ht=>⟨(h.k0 t ht).1,(h.k0 t ht).2.1,hk (h.k0 t ht).2.2⟩,fun t ht=>⟨(h.k1 t ht).1,(h.k1 t ht).2.1,hk (h.k1 t ht).2.2⟩,r1,h.l0,h.l1,
  fun p hp hs=>⟨(h.p0 p hp hs).1,(h.p0 p hp hs).2.1,hk (h.p0 p hp hs).2.2⟩,fun p hp hs=>⟨(h.p1 p hp hs).1,(h.p1 p hp hs).2.1,hk (h.p1 p hp hs).2.2⟩,h.n0,h.n1,fun _=>rfl⟩
theorem zY {l:List ca} {q:Nat} {x:ca} {cs:List bD} {xs:List bB} {a:bB} {e1 e2:Int} (h:l[q]?=some x) (hn:cV x.aL x.az x.sum x.time=(a,e1)) (hf:dw 0 e1=e2) (he:¬e2=0):fW (l.drop q) cs xs=(cs,xs,e2):=by
 rw [pP h,hn]
 have:e1=e2:=by unfold dw at hf;rw [if_pos rfl] at hf;exact hf
 subst this
 rw [if_pos he]
theorem zX {l:List ca} {q:Nat} {x:ca} {cs:List bD} {xs:List bB} {a:bB} {c k:bD} {e1 e3 e4:Int} (h:l[q]?=some x) (hn:cV x.aL x.az x.sum x.time=(a,e1)) (hf1:dw 0 e1=0) (hc:cs[x.aL.toNat]?=some c)
  (hF:eJ c x.sum=(k,e3)) (hf:dw 0 e3=e4) (he:¬e4=0):fW (l.drop q) cs xs=(cs,xs,e4):=by
 rw [pP h,hn,hc]
 have h1:e1=0:=(fB hf1).2
 have:e3=e4:=by unfold dw at hf;rw [if_pos rfl] at hf;exact hf
 subst this h1
 dsimp only
 rw [if_neg (by simp),hF,if_pos he]
theorem zW {l:List ca} {q:Nat} {x:ca} {cs:List bD} {xs:List bB} {a:bB} {c k:bD} {e1 e3:Int} (h:l[q]?=some x) (hn:cV x.aL x.az x.sum x.time=(a,e1)) (hf1:dw 0 e1=0) (hc:cs[x.aL.toNat]?=some c)
  (hF:eJ c x.sum=(k,e3)) (hf:dw 0 e3=0):fW (l.drop q) cs xs=fW (l.drop (q+1)) (cs.set x.aL.toNat k) (xs++[a]):=by
 rw [pP h,hn,hc]
 have h1:e1=0:=(fB hf1).2
 have h3:e3=0:=(fB hf).2
 subst h3 h1
 dsimp only
 rw [if_neg (by simp),hF,if_neg (by simp)]
theorem BW {l:List ca} {q:Nat} {cs:List bD} {xs:List bB} (h:¬q < l.length):fW (l.drop q) cs xs=(cs,xs,0):=by
 rw [List.drop_of_length_le (by omega)];rfl
theorem yp {b:Bk} {s:cv} {l:List ca} {cs:List bD} {xs:List bB} {e:Int} (hd:b.down=true) (h:cU b.bF=(s,l,0)) (hL:fW l b.ao b.aq=(cs,xs,e)) (he:¬e=0):iK b=(b,⟨e,0⟩):=by
 unfold iK
 rw [if_neg (by rw [hd];simp),h]
 dsimp only
 rw [if_neg (by simp),hL]
 dsimp only
 rw [if_pos he]
theorem CJ {b:Bk} {s:cv} {l:List ca} {cs:List bD} {xs:List bB} (hd:b.down=true) (h:cU b.bF=(s,l,0)) (hL:fW l b.ao b.aq=(cs,xs,0)):
  iK b=(gk {b with ao:=cs,aq:=xs,bF:=s,down:=false},⟨0,0⟩):=by
 unfold iK
 rw [if_neg (by rw [hd];simp),h]
 dsimp only
 rw [if_neg (by simp),hL]
 dsimp only
 rw [if_neg (by simp)]
theorem cj.En {b:Bk} (hb:cj b) {s:cv} {l:List ca} {cs:List bD} {xs:List bB} (h:cU b.bF=(s,l,0)) (hL:fW l b.ao b.aq=(cs,xs,0)):
  cj {b with ao:=cs,aq:=xs,bF:=s,down:=false}:=by
 have:=hb.zV (by rw [h])
 rw [h] at this;dsimp only at this;rw [hL] at this;exact this
theorem cj.CI {b:Bk} (h:cj b):cj (iK b).1:=by
 unfold iK
 split
 ·exact h
 split
 ·exact h
 split
 ·exact h
 ·exact (h.zV (by omega)).late
theorem cj.pS {b:Bk} (h:cj b) {t:List ak} (ht:t.length<=100):cj {b with aS:=t}:=
 ⟨h.time,h.ao,h.due,h.aq,ht,h.w0,h.w1,h.perm,h.ji,h.k0,h.k1,h.right,h.l0,h.l1,h.p0,h.p1,h.n0,h.n1,h.calm⟩
theorem lE {t:List ak} {y:List (List Int)} (h:t.length<=100):(iy t y).1.length<=100/\(iy t y).2.1.length<=y.length+1:=by
 unfold iy
 split
 ·exact ⟨h,Nat.le_succ _⟩
 ·exact ⟨by simp,by simp⟩
theorem cj.AY {b:Bk} (h:cj b) (y:List (List Int)) (d:aV):cj (dR b y d).1/\(dR b y d).2.1.length<=y.length+1:=by
 unfold dR
 split
 ·exact ⟨h.load d,Nat.le_succ _⟩
 split
 ·exact ⟨h.asks d,Nat.le_succ _⟩
 split
 ·exact ⟨h.ll d,Nat.le_succ _⟩
 split
 ·exact ⟨h.aO d,Nat.le_succ _⟩
 split
 ·exact ⟨h.send d,Nat.le_succ _⟩
 split
 ·exact ⟨h.ln d,Nat.le_succ _⟩
 split
 ·split
  ·exact ⟨h,Nat.le_succ _⟩
  ·exact ⟨⟨h.time,h.ao,h.due,h.aq,h.aS,h.w0,h.w1,h.perm,h.ji,h.k0,h.k1,h.right,h.l0,h.l1,h.p0,h.p1,h.n0,h.n1,fun h=>by cases h⟩,Nat.le_succ _⟩
 split
 ·exact ⟨h.CI,Nat.le_succ _⟩
 split
 ·exact ⟨h.pS (lE h.aS).1,(lE (y:=y) h.aS).2⟩
 split
 ·exact ⟨h.uz d,Nat.le_succ _⟩
 ·exact ⟨h,Nat.le_succ _⟩
theorem cj.once {b:Bk} (h:cj b) (y:List (List Int)) (told:List (Int×Answer)) (cl:Nat) (d:aV):cj (fA b y told cl d).1/\(fA b y told cl d).2.1.length<=y.length+1:=by
 unfold fA
 split
 ·exact ⟨h,Nat.le_succ _⟩
 ·exact h.AY y d
theorem sM:∀ {l:List dg} {i:Int},(mZ l i).err=0->∀ p∈l,eY p=0
 |p::l,i,h,x,hx=>by
  unfold mZ at h
  split at h
  ·rename_i h1;exact absurd h h1
  ·rename_i h1
   rcases List.mem_cons.1 hx with rfl|hx
   ·omega
   ·exact sM h x hx
theorem kp {s:Setup} (h:(ea s).err=0):s.da.length<=8/\0<=s.ib/\s.ib<=8/\0<=s.cap/\s.cap<=1000000/\∀ p∈s.da,eY p=0:=by
 unfold ea at h
 split at h
 ·cases h
 split at h
 ·cases h
 ·exact ⟨by omega,by omega,by omega,by omega,by omega,sM h⟩
theorem cj.start {s:Setup} (h:(ea s).err=0):cj (fC s):=by
 obtain ⟨h1,h2,h3,h4,h5,h6⟩:=kp h
 have hn:dy s.cap s.da.length=({cap:=s.cap,used:=List.replicate s.da.length 0,aY:=[]},0):=px h1 ⟨h4,h5⟩
 unfold fC
 rw [hn]
 refine ⟨by dsimp only;omega,by simpa using h1,by simp;omega,by simp,by simp,by simp,by simp,by simp,by simp,by simp,by simp,fun c hc=>?_,by simp,by simp,by simp,by simp,by simp,by simp,fun _=>rfl⟩
 obtain ⟨p,hp,rfl⟩:=List.mem_map.1 hc
 exact kQ (c:=⟨0,0,p,[]⟩) (by dsimp only;omega) (h6 p hp) (mm.2 ⟨by simp,by simp,by simp⟩)
end Go.Proofs.Ytegepioggeggaaa.Dev
