/- A part of the proof: Bank8, Bank9, PlOk. No condition. -/
import Derived.Test.YtegepioggeggaaaD11
set_option linter.unusedVariables false
set_option linter.unusedSimpArgs false
set_option maxHeartbeats 8000000
set_option maxRecDepth 100000
namespace Go.Proofs.Ytegepioggeggaaa.Dev
open Go.RowKit

theorem Ef (x:Nat->Value) (hx:∀ i,(x i).oneCell'=true) (b:Bk) (d:aZ) (ok:cj b) (hdn:b.down=false) (b2:Bk) (a2:Answer) (hr:du b d=(b2,a2)):cz Try.prog 63 [(.c (.p 0 0 0 0)),(.c (.q (cS d) 0))] [(0,(.box 98 (aR b 1 2 3 4 (.d (.v (x 17))) (.d (.v (x 19)))))),(1,(dJ b.ao)),(2,(dx b.due)),(3,(dR b.au)),(4,(cF b.aQ))] [0] (.v (.g [cI a2.err,cI a2.ba])) [(0,(.box 98 (aR b2 1 2 3 4 (.d (.v (x 17))) (.d (.v (x 19)))))),(1,(dJ b2.ao)),(2,(dx b2.due)),(3,(dR b2.au)),(4,(cF b2.aQ))]:=by
 refine cz.mk 214 [(0,(aC (.p 0 0 0 0))),(1,(aC (.q (cS d) 0)))] 5 Try.func63 rfl rfl rfl rfl rfl rfl rfl rfl rfl ?_
 intro W0 F0 T0 pg
 obtain ⟨okt,okc,okd,oka,oky,okw0,okw1,okp,okv,okk0,okk1,okg,okl0,okl1,okp0,okp1,okn0,okn1,okq⟩:=id ok
 refine ad aa 1 rfl ?_
 refine af ?_
 refine af ?_
 rcases Bool.eq_false_or_eq_true (decide (d.n < 0)) with hb1|hb1
 ·
  have hb1':=of_decide_eq_true hb1
  refine bb [0,1,4] [5,0,1,2,3,4] mixed rfl rfl ?_
  refine aA (kn:=[(14,true)]) aa 38 rfl ⟨hb1,trivial⟩ ?_
  refine bx [5,0,1,2,3,4] rfl rfl rfl rfl (by kernel_rfl) ?_
  refine ae ?_
  refine ag rfl (fun _=>?_) (fun hno=>by cases hno)
  refine ad aa 2 rfl ?_
  refine aq ?_
  refine an ?_
  have hX:du b d=(b,(⟨6,0⟩:Answer)):=by
    unfold du;(try simp only [hdn,Bool.false_eq_true,if_false]);(repeat' split)<;>first|rfl|omega|(exfalso;omega)|(simp_all;done)|(simp_all;omega)
  rw [hX] at hr;clear hX
  simp only [Prod.mk.injEq] at hr;obtain ⟨rfl,rfl⟩:=hr
  refine aj aa [0,1,2,3,4,5] 5 rfl rfl rfl rfl rfl rfl ?_ ?_
  all_goals first|rfl|(simp [ar,aR,aX];done)|(simp [ar,aR,aX];omega)
 have hb1':=of_decide_eq_false hb1
 rcases Bool.eq_false_or_eq_true (decide (d.n>=(↑b.ao.length:Int))) with hb3|hb3
 ·
  have hb3':=of_decide_eq_true hb3
  refine bb [0,1,4] [5,0,1,2,3,4] mixed rfl rfl ?_
  refine aA (kn:=[(14,false)]) aa 15 rfl ⟨hb1,trivial⟩ ?_
  refine aS (n':=6) [24,15] [1] rfl rfl (.inl ⟨(ah.yes rfl rfl rfl),aH.cast (dk rfl rfl rfl rfl rfl Try.underlying29) rfl⟩) rfl ?_
  refine aA (kn:=[(26,true)]) aa 22 rfl ⟨hb3,trivial⟩ ?_
  refine bx [5,0,1,2,3,4] rfl rfl rfl rfl (by kernel_rfl) ?_
  refine ae ?_
  refine ag rfl (fun _=>?_) (fun hno=>by cases hno)
  refine ad aa 2 rfl ?_
  refine aq ?_
  refine an ?_
  have hX:du b d=(b,(⟨6,0⟩:Answer)):=by
    unfold du;(try simp only [hdn,Bool.false_eq_true,if_false]);(repeat' split)<;>first|rfl|omega|(exfalso;omega)|(simp_all;done)|(simp_all;omega)
  rw [hX] at hr;clear hX
  simp only [Prod.mk.injEq] at hr;obtain ⟨rfl,rfl⟩:=hr
  refine aj aa [0,1,2,3,4,5] 5 rfl rfl rfl rfl rfl rfl ?_ ?_
  all_goals first|rfl|(simp [ar,aR,aX];done)|(simp [ar,aR,aX];omega)
 have hb3':=of_decide_eq_false hb3
 rcases Bool.eq_false_or_eq_true (decide (d.ay < 0)) with hb5|hb5
 ·
  have hb5':=of_decide_eq_true hb5
  refine bb [0,1,4] [5,0,1,2,3,4] mixed rfl rfl ?_
  refine aA (kn:=[(14,false)]) aa 15 rfl ⟨hb1,trivial⟩ ?_
  refine aS (n':=6) [24,15] [1] rfl rfl (.inl ⟨(ah.yes rfl rfl rfl),aH.cast (dk rfl rfl rfl rfl rfl Try.underlying29) rfl⟩) rfl ?_
  refine aA (kn:=[(26,false),(33,true)]) aa 22 rfl ⟨hb3,hb5,trivial⟩ ?_
  refine bx [5,0,1,2,3,4] rfl rfl rfl rfl (by kernel_rfl) ?_
  refine ae ?_
  refine ag rfl (fun _=>?_) (fun hno=>by cases hno)
  refine ad aa 2 rfl ?_
  refine aq ?_
  refine an ?_
  have hX:du b d=(b,(⟨6,0⟩:Answer)):=by
    unfold du;(try simp only [hdn,Bool.false_eq_true,if_false]);(repeat' split)<;>first|rfl|omega|(exfalso;omega)|(simp_all;done)|(simp_all;omega)
  rw [hX] at hr;clear hX
  simp only [Prod.mk.injEq] at hr;obtain ⟨rfl,rfl⟩:=hr
  refine aj aa [0,1,2,3,4,5] 5 rfl rfl rfl rfl rfl rfl ?_ ?_
  all_goals first|rfl|(simp [ar,aR,aX];done)|(simp [ar,aR,aX];omega)
 have hb5':=of_decide_eq_false hb5
 refine bb [0,1,4] [5,0,1,2,3,4] mixed rfl rfl ?_
 refine aA (kn:=[(14,false)]) aa 15 rfl ⟨hb1,trivial⟩ ?_
 refine aS (n':=6) [24,15] [1] rfl rfl (.inl ⟨(ah.yes rfl rfl rfl),aH.cast (dk rfl rfl rfl rfl rfl Try.underlying29) rfl⟩) rfl ?_
 refine aA (kn:=[(26,false),(33,false)]) aa 19 rfl ⟨hb3,hb5,trivial⟩ ?_
 refine aS (n':=6) [44,35] [2] rfl rfl (.inl ⟨(ah.yes rfl rfl rfl),aH.cast (dk rfl rfl rfl rfl rfl Try.underlying30) rfl⟩) rfl ?_
 refine aA (kn:=[]) aa 2 rfl trivial ?_
 refine bx [5,0,1,2,3,4] rfl rfl rfl rfl (by kernel_rfl) ?_
 refine ae ?_
 refine ag rfl (fun hc7=>?_) (fun hc7=>?_)
 ·
  have hc7':=of_decide_eq_true hc7
  refine ad aa 2 rfl ?_
  refine aq ?_
  refine an ?_
  have hX:du b d=(b,(⟨6,0⟩:Answer)):=by
    unfold du;(try simp only [hdn,Bool.false_eq_true,if_false]);(repeat' split)<;>first|rfl|omega|(exfalso;omega)|(simp_all;done)|(simp_all;omega)
  rw [hX] at hr;clear hX
  simp only [Prod.mk.injEq] at hr;obtain ⟨rfl,rfl⟩:=hr
  refine aj aa [0,1,2,3,4,5] 5 rfl rfl rfl rfl rfl rfl ?_ ?_
  all_goals first|rfl|(simp [ar,aR,aX];done)|(simp [ar,aR,aX];omega)
 have hc7':=of_decide_eq_false hc7
 refine aN ?_
 refine af ?_
 refine ad aa 5 rfl ?_
 refine ag rfl (fun hno=>absurd (hdn.symm.trans hno) (by decide)) (fun _=>?_)
 refine aN ?_
 refine af ?_
 obtain ⟨b0,e0,hr0⟩:∃ (b0:bz) (e0:Int),cZ d.n d.ay d.sum b.time=(b0,e0):=⟨_,_,rfl⟩
 refine cX [0,1,4] [5,0,1,2,3,4] mixed rfl rfl ?_
 refine bQ (kn:=[]) aa 17 rfl trivial ?_
 refine bT (n':=6) [123,127,131,136] [] rfl rfl (.inl ⟨(ah.plain rfl),aH.cast (bI 6 (rv d.n d.ay d.sum b.time b0 e0 hr0) DK rfl rfl ⟨⟨_,rfl,.c (.d _)⟩,⟨_,rfl,.c (.d _)⟩,⟨_,rfl,.c (.d _)⟩,⟨_,rfl,.c (.d _)⟩,trivial⟩ ⟨⟨trivial,trivial,trivial,trivial,trivial,trivial,trivial,trivial,trivial⟩,trivial,trivial⟩ trivial rfl rfl rfl rfl) rfl⟩) rfl ?_
 refine bQ (n':=7) (kn:=[]) aa 6 rfl trivial ?_
 refine dK [0,1,4,7,8] [6,5,0,1,2,3,4] rfl rfl (by kernel_rfl) ?_
 refine then_ok ?_
 refine af ?_
 refine cm 150 ((decide (e0=0)) && (decide ((↑b.au.length:Int)=30))) ?_ ?_
 ·
  refine aw ?_
  refine ab aa 3 rfl ?_
  refine bj (t:=142) rfl (fun hb9=>?_) (fun hb9=>?_)
  ·
   have hb9':=of_decide_eq_true hb9
   refine ab aa 5 rfl ?_
   refine cJ (ah.yes rfl rfl rfl) (dk rfl rfl rfl rfl rfl Try.underlying31) rfl rfl ?_
   refine ab aa 2 rfl ?_
   refine ae ?_
   exact aD.bB 12 rfl rfl (by first|(simp [hb9];done)|(simp_all;done)|(exfalso;simp_all;done)|(simp_all;omega)) rfl
  have hb9':=of_decide_eq_false hb9
  refine ab aa 8 rfl ?_
  refine ae ?_
  exact aD.bB 12 rfl rfl (by first|(simp [hb9];done)|(simp_all;done)|(exfalso;simp_all;done)|(simp_all;omega)) rfl
 refine ag rfl (fun hc10=>?_) (fun hc10=>?_)
 ·
  have hc10':=hc10;try simp only [bd,bF] at hc10'
  refine aw ?_
  refine ab aa 1 rfl ?_
  refine ae ?_
  refine af ?_
  refine az aa 1 rfl ?_
  refine ax (aJ rfl rfl rfl (show _=some (Value.bool true) from rfl)) rfl ?_
  refine ae ?_
  refine ag rfl (fun _=>?_) (fun hno=>by cases hno)
  refine ad aa 3 rfl ?_
  refine aq ?_
  refine an ?_
  have hX:du b d=(b,(⟨5,0⟩:Answer)):=by
    unfold du;(try simp only [hdn,Bool.false_eq_true,if_false,hr0]);(repeat' split)<;>first|rfl|omega|(exfalso;omega)|(simp_all;done)|(simp_all;omega)
  rw [hX] at hr;clear hX
  simp only [Prod.mk.injEq] at hr;obtain ⟨rfl,rfl⟩:=hr
  refine aj aa [0,1,2,3,4,5] 5 rfl rfl rfl rfl rfl rfl ?_ ?_
  all_goals first|rfl|(simp [ar,aR,aX];done)|(simp [ar,aR,aX];omega)
 have hc10':=hc10;try simp only [bd,bF] at hc10'
 refine aN ?_
 refine af ?_
 refine ad aa 2 rfl ?_
 refine ag rfl (fun hc12=>?_) (fun hc12=>?_)
 ·
  have hc12':=of_decide_eq_true hc12
  refine ad aa 3 rfl ?_
  refine aq ?_
  refine an ?_
  have hX:du b d=(b,(⟨e0,0⟩:Answer)):=by
    unfold du;(try simp only [hdn,Bool.false_eq_true,if_false,hr0]);(repeat' split)<;>first|rfl|omega|(exfalso;omega)|(simp_all;done)|(simp_all;omega)
  rw [hX] at hr;clear hX
  simp only [Prod.mk.injEq] at hr;obtain ⟨rfl,rfl⟩:=hr
  refine aj aa [0,1,2,3,4,5] 5 rfl rfl rfl rfl rfl rfl ?_ ?_
  all_goals first|rfl|(simp [ar,aR,aX];done)|(simp [ar,aR,aX];omega)
 have hc12':=of_decide_eq_false hc12
 refine aN ?_
 refine af ?_
 obtain ⟨x1,hx1⟩:=bY (xs:=b.ao) (i:=Int.toNat (d.n)) (by first|omega|(simp;done)|(simp;omega))
 obtain ⟨xr1,e1,hr1⟩:∃ (xr1:bC) (e1:Int),dQ x1 d.sum b.time=(xr1,e1):=⟨_,_,rfl⟩
 refine cX [0,1,4,7] [6,5,0,1,2,3,4] mixed rfl rfl ?_
 refine bQ (kn:=[]) aa 9 rfl trivial ?_
 refine bT (n':=7) [160,164] [1] rfl rfl (.inl ⟨(ah.plain rfl),aH.cast (bo (i:=Int.toNat (d.n)) rfl rfl rfl Try.underlying29 ft (by first|omega|(simp;done)|(simp;omega)) (by first|omega|(simp;done)|(simp;omega))) rfl⟩) rfl ?_
 refine bT (n':=7) [165] [1] rfl rfl (.inl ⟨(ah.plain rfl),aH.cast (db rfl rfl rfl Try.underlying61 rfl ft (bf hx1) rfl) rfl⟩) rfl ?_
 refine bQ (kn:=[]) aa 9 rfl trivial ?_
 refine bT (n':=7) [166,170,175] [] rfl rfl (.inl ⟨(ah.plain rfl),aH.cast (bI 7 (Fn.frozen (av':=(.t [(.g [(cI xr1.bu),(cI xr1.held),(cI xr1.ca.cH),(cI xr1.ca.count),(cI xr1.ca.sum),(fj xr1.cL)]),(.c (cI e1))])) (vq x1 d.sum b.time xr1 e1 hr1) ⟨⟨.inl ⟨_,rfl,rfl⟩,.inl ⟨_,rfl,rfl⟩,.inl ⟨_,rfl,rfl⟩,.inl ⟨_,rfl,rfl⟩,.inl ⟨_,rfl,rfl⟩,.inr ⟨_,_,_,_,_,rfl,rfl,rfl,by simp⟩,trivial⟩,.inl ⟨_,rfl,rfl⟩,trivial⟩) FR rfl rfl ⟨⟨_,rfl,.g ⟨.d _,.d _,.d _,.d _,.d _,.d _,trivial⟩⟩,⟨_,rfl,.c (.d _)⟩,⟨_,rfl,.c (.d _)⟩,trivial⟩ ⟨⟨trivial,trivial,trivial,trivial,trivial,trivial,trivial⟩,trivial,trivial⟩ trivial rfl rfl rfl rfl) rfl⟩) rfl ?_
 refine bQ (n':=8) (kn:=[]) aa 6 rfl trivial ?_
 refine dK [0,1,4,7,9,8] [7,6,5,0,1,2,3,4] rfl rfl (by kernel_rfl) ?_
 refine then_ok ?_
 refine af ?_
 refine ad aa 2 rfl ?_
 refine ag rfl (fun hc13=>?_) (fun hc13=>?_)
 ·
  have hc13':=of_decide_eq_true hc13
  refine ad aa 3 rfl ?_
  refine aq ?_
  refine an ?_
  have hX:du b d=(b,(⟨e1,0⟩:Answer)):=by
    unfold du;(try simp only [hdn,Bool.false_eq_true,if_false,hr0,hr1,hx1]);(repeat' split)<;>first|rfl|omega|(exfalso;omega)|(simp_all;done)|(simp_all;omega)
  rw [hX] at hr;clear hX
  simp only [Prod.mk.injEq] at hr;obtain ⟨rfl,rfl⟩:=hr
  refine aj aa [0,1,2,3,4,5] 5 rfl rfl rfl rfl rfl rfl ?_ ?_
  all_goals first|rfl|(simp [ar,aR,aX];done)|(simp [ar,aR,aX];omega)
 have hc13':=of_decide_eq_false hc13
 refine aN ?_
 refine af ?_
 refine bb [0,1,4,7,9] [7,6,5,0,1,2,3,4] mixed rfl rfl ?_
 refine aA (kn:=[]) aa 10 rfl trivial ?_
 refine aS (n':=8) [187,191] [1] rfl rfl (.inl ⟨(ah.plain rfl),aH.cast (bo (i:=Int.toNat (d.n)) rfl rfl rfl Try.underlying29 ft (by first|omega|(simp;done)|(simp;omega)) (by first|omega|(simp;done)|(simp;omega))) rfl⟩) rfl ?_
 refine bx [7,6,5,0,1,2,3,4] rfl rfl rfl rfl (by kernel_rfl) ?_
 refine gb [7,6,5,0,1,2,3,4] (dG (ds:=[(dI xr1.bu),(dI xr1.held),(dI xr1.ca.cH),(dI xr1.ca.count),(dI xr1.ca.sum),(DV xr1.cL)]) rfl rfl rfl rfl rfl ft rfl (Nat.le_of_ble_eq_true rfl) (bf hx1) rfl (eG (x':=xr1) rfl)) rfl ?_
 refine ae ?_
 refine fr (k:=0) (q:=2) (c':=(.s 1 0 6 (((b.ao).set (Int.toNat (d.n)) xr1).length))) rfl rfl (by first|rfl|(simp;done)|(congr 1;omega)) rfl ?_
 refine af ?_
 refine bb [0,4,7] [6,5,0,1,2,3,4] mixed rfl rfl ?_
 refine aA (kn:=[]) aa 7 rfl trivial ?_
 refine aS (n':=9) [200] [] rfl rfl (.inl ⟨(ah.plain rfl),aH.cast (dD (ys:=[(0,(.g [(cI b0.aK),(cI b0.ay),(cI b0.sum),(cI b0.captured),(cI b0.bw),(cI b0.bm),(cI b0.cP),(cB b0.shut)]))]) (rows:=([b0]).map iA) 8 rL rfl (by decide) ⟨⟨rfl,rfl⟩,trivial⟩ rfl rfl rfl rfl) rfl⟩) rfl ?_
 refine aS (n':=10) [199,201] [8,3] rfl rfl (.inl ⟨(ah.plain rfl),aH.cast (dh (m:=1) (N:=b.au.length+1) (k2:=9) (ys:=([b0]).map iA) rL rfl rfl rfl rfl rfl rfl (by first|omega|(simp;done)|(simp;omega)) rfl (.s rfl (by first|omega|(simp;done)|(simp;omega))) (by first|omega|(simp;done)|(simp;omega)) (by first|omega|(simp;done)|(simp;omega)) fb (by decide) (by first|omega|(simp;done)|(simp;omega)) (by first|omega|(simp;done)|(simp;omega))) rfl⟩) rfl ?_
 refine aA (kn:=[]) aa 3 rfl trivial ?_
 refine bx [9,6,5,0,1,2,4] rfl rfl rfl rfl (by kernel_rfl) ?_
 refine ab aa 1 rfl ?_
 refine ae ?_
 refine fr (k:=0) (q:=4) (c':=(.s 9 0 8 ((b.au++([b0])).length))) rfl rfl (by first|rfl|(simp;done)|(congr 1;omega)) rfl ?_
 refine az aa 5 rfl ?_
 refine ax (dk rfl rfl rfl rfl rfl Try.underlying31) rfl ?_
 refine ax (aJ rfl rfl rfl (aE (by first|omega|(simp;done)|(simp;omega)))) rfl ?_
 refine ab aa 2 rfl ?_
 refine ae ?_
 refine aq ?_
 have hX:du b d=((⟨b.time,b.down,(b.ao).set (Int.toNat (d.n)) xr1,b.due,b.au++([b0]),b.s0,b.s1,b.n0,b.n1,b.w0,b.w1,b.bE,b.aQ,b.book⟩:Bk),(⟨0,(↑((b.au++([b0])).length):Int) - 1⟩:Answer)):=by
   unfold du;(try simp only [hdn,Bool.false_eq_true,if_false,hr0,hr1,hx1]);(repeat' split)<;>first|rfl|omega|(exfalso;omega)|(simp_all;done)|(simp_all;omega)
 rw [hX] at hr;clear hX
 simp only [Prod.mk.injEq] at hr;obtain ⟨rfl,rfl⟩:=hr
 refine aj aa [0,1,2,9,4,5] 5 rfl rfl rfl rfl rfl rfl ?_ ?_
 all_goals first|rfl|(simp [ar,aR,aX];done)|(simp [ar,aR,aX];omega)
theorem Eg (x:Nat->Value) (hx:∀ i,(x i).oneCell'=true) (b:Bk) (d:aZ) (ok:cj b) (hdn:b.down=true) (b2:Bk) (a2:Answer) (hr:du b d=(b2,a2)):cz Try.prog 63 [(.c (.p 0 0 0 0)),(.c (.q (cS d) 0))] [(0,(.box 98 (aR b 1 2 3 4 (.d (.v (x 17))) (.d (.v (x 19)))))),(1,(dJ b.ao)),(2,(dx b.due)),(3,(dR b.au)),(4,(cF b.aQ))] [0] (.v (.g [cI a2.err,cI a2.ba])) [(0,(.box 98 (aR b2 1 2 3 4 (.d (.v (x 17))) (.d (.v (x 19)))))),(1,(dJ b2.ao)),(2,(dx b2.due)),(3,(dR b2.au)),(4,(cF b2.aQ))]:=by
 refine cz.mk 214 [(0,(aC (.p 0 0 0 0))),(1,(aC (.q (cS d) 0)))] 5 Try.func63 rfl rfl rfl rfl rfl rfl rfl rfl rfl ?_
 intro W0 F0 T0 pg
 obtain ⟨okt,okc,okd,oka,oky,okw0,okw1,okp,okv,okk0,okk1,okg,okl0,okl1,okp0,okp1,okn0,okn1,okq⟩:=id ok
 refine ad aa 1 rfl ?_
 refine af ?_
 refine af ?_
 rcases Bool.eq_false_or_eq_true (decide (d.n < 0)) with hb1|hb1
 ·
  have hb1':=of_decide_eq_true hb1
  refine bb [0,1,4] [5,0,1,2,3,4] mixed rfl rfl ?_
  refine aA (kn:=[(14,true)]) aa 38 rfl ⟨hb1,trivial⟩ ?_
  refine bx [5,0,1,2,3,4] rfl rfl rfl rfl (by kernel_rfl) ?_
  refine ae ?_
  refine ag rfl (fun _=>?_) (fun hno=>by cases hno)
  refine ad aa 2 rfl ?_
  refine aq ?_
  refine an ?_
  have hX:du b d=(b,(⟨6,0⟩:Answer)):=by
    unfold du fL;(try simp only [hdn,if_true]);(repeat' split)<;>first|rfl|omega|(exfalso;omega)|(simp_all;done)|(simp_all;omega)
  rw [hX] at hr;clear hX
  simp only [Prod.mk.injEq] at hr;obtain ⟨rfl,rfl⟩:=hr
  refine aj aa [0,1,2,3,4,5] 5 rfl rfl rfl rfl rfl rfl ?_ ?_
  all_goals first|rfl|(simp [ar,aR,aX];done)|(simp [ar,aR,aX];omega)
 have hb1':=of_decide_eq_false hb1
 rcases Bool.eq_false_or_eq_true (decide (d.n>=(↑b.ao.length:Int))) with hb3|hb3
 ·
  have hb3':=of_decide_eq_true hb3
  refine bb [0,1,4] [5,0,1,2,3,4] mixed rfl rfl ?_
  refine aA (kn:=[(14,false)]) aa 15 rfl ⟨hb1,trivial⟩ ?_
  refine aS (n':=6) [24,15] [1] rfl rfl (.inl ⟨(ah.yes rfl rfl rfl),aH.cast (dk rfl rfl rfl rfl rfl Try.underlying29) rfl⟩) rfl ?_
  refine aA (kn:=[(26,true)]) aa 22 rfl ⟨hb3,trivial⟩ ?_
  refine bx [5,0,1,2,3,4] rfl rfl rfl rfl (by kernel_rfl) ?_
  refine ae ?_
  refine ag rfl (fun _=>?_) (fun hno=>by cases hno)
  refine ad aa 2 rfl ?_
  refine aq ?_
  refine an ?_
  have hX:du b d=(b,(⟨6,0⟩:Answer)):=by
    unfold du fL;(try simp only [hdn,if_true]);(repeat' split)<;>first|rfl|omega|(exfalso;omega)|(simp_all;done)|(simp_all;omega)
  rw [hX] at hr;clear hX
  simp only [Prod.mk.injEq] at hr;obtain ⟨rfl,rfl⟩:=hr
  refine aj aa [0,1,2,3,4,5] 5 rfl rfl rfl rfl rfl rfl ?_ ?_
  all_goals first|rfl|(simp [ar,aR,aX];done)|(simp [ar,aR,aX];omega)
 have hb3':=of_decide_eq_false hb3
 rcases Bool.eq_false_or_eq_true (decide (d.ay < 0)) with hb5|hb5
 ·
  have hb5':=of_decide_eq_true hb5
  refine bb [0,1,4] [5,0,1,2,3,4] mixed rfl rfl ?_
  refine aA (kn:=[(14,false)]) aa 15 rfl ⟨hb1,trivial⟩ ?_
  refine aS (n':=6) [24,15] [1] rfl rfl (.inl ⟨(ah.yes rfl rfl rfl),aH.cast (dk rfl rfl rfl rfl rfl Try.underlying29) rfl⟩) rfl ?_
  refine aA (kn:=[(26,false),(33,true)]) aa 22 rfl ⟨hb3,hb5,trivial⟩ ?_
  refine bx [5,0,1,2,3,4] rfl rfl rfl rfl (by kernel_rfl) ?_
  refine ae ?_
  refine ag rfl (fun _=>?_) (fun hno=>by cases hno)
  refine ad aa 2 rfl ?_
  refine aq ?_
  refine an ?_
  have hX:du b d=(b,(⟨6,0⟩:Answer)):=by
    unfold du fL;(try simp only [hdn,if_true]);(repeat' split)<;>first|rfl|omega|(exfalso;omega)|(simp_all;done)|(simp_all;omega)
  rw [hX] at hr;clear hX
  simp only [Prod.mk.injEq] at hr;obtain ⟨rfl,rfl⟩:=hr
  refine aj aa [0,1,2,3,4,5] 5 rfl rfl rfl rfl rfl rfl ?_ ?_
  all_goals first|rfl|(simp [ar,aR,aX];done)|(simp [ar,aR,aX];omega)
 have hb5':=of_decide_eq_false hb5
 refine bb [0,1,4] [5,0,1,2,3,4] mixed rfl rfl ?_
 refine aA (kn:=[(14,false)]) aa 15 rfl ⟨hb1,trivial⟩ ?_
 refine aS (n':=6) [24,15] [1] rfl rfl (.inl ⟨(ah.yes rfl rfl rfl),aH.cast (dk rfl rfl rfl rfl rfl Try.underlying29) rfl⟩) rfl ?_
 refine aA (kn:=[(26,false),(33,false)]) aa 19 rfl ⟨hb3,hb5,trivial⟩ ?_
 refine aS (n':=6) [44,35] [2] rfl rfl (.inl ⟨(ah.yes rfl rfl rfl),aH.cast (dk rfl rfl rfl rfl rfl Try.underlying30) rfl⟩) rfl ?_
 refine aA (kn:=[]) aa 2 rfl trivial ?_
 refine bx [5,0,1,2,3,4] rfl rfl rfl rfl (by kernel_rfl) ?_
 refine ae ?_
 refine ag rfl (fun hc7=>?_) (fun hc7=>?_)
 ·
  have hc7':=of_decide_eq_true hc7
  refine ad aa 2 rfl ?_
  refine aq ?_
  refine an ?_
  have hX:du b d=(b,(⟨6,0⟩:Answer)):=by
    unfold du fL;(try simp only [hdn,if_true]);(repeat' split)<;>first|rfl|omega|(exfalso;omega)|(simp_all;done)|(simp_all;omega)
  rw [hX] at hr;clear hX
  simp only [Prod.mk.injEq] at hr;obtain ⟨rfl,rfl⟩:=hr
  refine aj aa [0,1,2,3,4,5] 5 rfl rfl rfl rfl rfl rfl ?_ ?_
  all_goals first|rfl|(simp [ar,aR,aX];done)|(simp [ar,aR,aX];omega)
 have hc7':=of_decide_eq_false hc7
 refine aN ?_
 refine af ?_
 refine ad aa 5 rfl ?_
 refine ag rfl (fun _=>?_) (fun hno=>absurd (hdn.symm.trans hno) (by decide))
 refine af ?_
 obtain ⟨xr0,e0,hr0⟩:∃ (xr0:cr) (e0:Int),bW b.bE (⟨d.n,d.ay,d.sum,b.time⟩:bS)=(xr0,e0):=⟨_,_,rfl⟩
 have hgl:=tF b.bE ((⟨d.n,d.ay,d.sum,b.time⟩:bS))
 rw [hr0] at hgl;dsimp only at hgl
 refine cX [0,1,4] [5,0,1,2,3,4] mixed rfl rfl ?_
 refine bQ (kn:=[]) aa 23 rfl trivial ?_
 refine bT (n':=6) [59,77] [] rfl rfl (.inl ⟨(ah.plain rfl),aH.cast (bI 6 (Fn.frozen (av':=(.t [(.g [(cI xr0.cap),(fF xr0.used),(gH xr0.aU)]),(.c (cI e0))])) (vj b.bE (⟨d.n,d.ay,d.sum,b.time⟩:bS) xr0 e0 hr0) ⟨⟨.inl ⟨_,rfl,rfl⟩,.inr ⟨_,_,_,_,_,rfl,rfl,rfl,by simp⟩,.inr ⟨_,_,_,_,_,rfl,rfl,rfl,by simp⟩,trivial⟩,.inl ⟨_,rfl,rfl⟩,trivial⟩) FT rfl rfl ⟨⟨_,rfl,.g ⟨.d _,.d _,.d _,trivial⟩⟩,⟨_,rfl,.g ⟨.d _,.d _,.d _,.d _,trivial⟩⟩,trivial⟩ ⟨⟨trivial,trivial,trivial,trivial⟩,trivial,trivial⟩ trivial rfl rfl rfl rfl) rfl⟩) rfl ?_
 refine bQ (n':=7) (kn:=[]) aa 6 rfl trivial ?_
 refine dK [0,1,4,5,6] [6,5,0,1,2,3,4] rfl rfl (by kernel_rfl) ?_
 refine then_ok ?_
 refine af ?_
 refine ad aa 2 rfl ?_
 refine ag rfl (fun hc9=>?_) (fun hc9=>?_)
 ·
  have hc9':=of_decide_eq_true hc9
  refine aw ?_
  refine ab aa 1 rfl ?_
  refine ae ?_
  refine af ?_
  refine af ?_
  refine bb [0,1,4,5,6] [6,5,0,1,2,3,4] mixed rfl rfl ?_
  refine aA (kn:=[(84,false)]) aa 15 rfl ⟨rfl,trivial⟩ ?_
  refine bx [6,5,0,1,2,3,4] rfl rfl rfl rfl (by kernel_rfl) ?_
  refine ae ?_
  refine ag rfl (fun hno=>by cases hno) (fun _=>?_)
  refine aN ?_
  refine af ?_
  refine az aa 1 rfl ?_
  refine ax (aJ rfl rfl rfl (show _=some (Value.bool true) from rfl)) rfl ?_
  refine ae ?_
  refine ag rfl (fun _=>?_) (fun hno=>by cases hno)
  refine ad aa 3 rfl ?_
  refine aq ?_
  refine an ?_
  refine an ?_
  have hX:du b d=(b,(⟨12,0⟩:Answer)):=by
    unfold du fL;(try simp only [hdn,if_true,hr0]);(repeat' split)<;>first|rfl|omega|(exfalso;omega)|(simp_all;done)|(simp_all;omega)
  rw [hX] at hr;clear hX
  simp only [Prod.mk.injEq] at hr;obtain ⟨rfl,rfl⟩:=hr
  refine aj aa [0,1,2,3,4,5] 5 rfl rfl rfl rfl rfl rfl ?_ ?_
  all_goals first|rfl|(simp [ar,aR,aX];done)|(simp [ar,aR,aX];omega)
 have hc9':=of_decide_eq_false hc9
 refine aN ?_
 refine af ?_
 refine af ?_
 rcases Bool.eq_false_or_eq_true (decide (e0=0)) with hb12|hb12
 ·
  have hb12':=of_decide_eq_true hb12
  refine bb [0,1,4,5,6] [6,5,0,1,2,3,4] mixed rfl rfl ?_
  refine aA (kn:=[(84,true)]) aa 8 rfl ⟨hb12,trivial⟩ ?_
  refine aS (n':=7) [90,85] [3] rfl rfl (.inl ⟨(ah.yes rfl rfl rfl),aH.cast (dk rfl rfl rfl rfl rfl Try.underlying31) rfl⟩) rfl ?_
  refine aA (kn:=[]) aa 2 rfl trivial ?_
  refine aS (n':=7) [93,85] [] rfl rfl (.inl ⟨(ah.yes rfl rfl rfl),aH.cast (cT rfl rfl rfl rfl rfl Try.underlying39) rfl⟩) rfl ?_
  refine aS (n':=7) [91,94,85] [] rfl rfl (.inl ⟨(ah.yes rfl rfl rfl),aH.cast (aJ rfl rfl rfl (aE (by first|omega|(simp;done)|(simp;omega)))) rfl⟩) rfl ?_
  refine aA (kn:=[]) aa 2 rfl trivial ?_
  refine bx [6,5,0,1,2,3,4] rfl rfl rfl rfl (by kernel_rfl) ?_
  refine ae ?_
  refine ag rfl (fun hc13=>?_) (fun hc13=>?_)
  ·
   have hc13':=of_decide_eq_true hc13
   refine aw ?_
   refine ab aa 1 rfl ?_
   refine ae ?_
   refine af ?_
   refine az aa 1 rfl ?_
   refine ax (aJ rfl rfl rfl (show _=some (Value.bool true) from rfl)) rfl ?_
   refine ae ?_
   refine ag rfl (fun _=>?_) (fun hno=>by cases hno)
   refine ad aa 3 rfl ?_
   refine aq ?_
   refine an ?_
   refine an ?_
   have hX:du b d=(b,(⟨5,0⟩:Answer)):=by
     unfold du fL;(try simp only [hdn,if_true,hr0]);(repeat' split)<;>first|rfl|omega|(exfalso;omega)|(simp_all;done)|(simp_all;omega)
   rw [hX] at hr;clear hX
   simp only [Prod.mk.injEq] at hr;obtain ⟨rfl,rfl⟩:=hr
   refine aj aa [0,1,2,3,4,5] 5 rfl rfl rfl rfl rfl rfl ?_ ?_
   all_goals first|rfl|(simp [ar,aR,aX];done)|(simp [ar,aR,aX];omega)
  have hc13':=of_decide_eq_false hc13
  refine aN ?_
  refine af ?_
  refine ad aa 2 rfl ?_
  refine ag rfl (fun hc15=>?_) (fun hc15=>?_)
  ·
   have hc15':=of_decide_eq_true hc15
   refine ad aa 3 rfl ?_
   refine aq ?_
   refine an ?_
   refine an ?_
   have hX:du b d=(b,(⟨e0,0⟩:Answer)):=by
     unfold du fL;(try simp only [hdn,if_true,hr0]);(repeat' split)<;>first|rfl|omega|(exfalso;omega)|(simp_all;done)|(simp_all;omega)
   rw [hX] at hr;clear hX
   simp only [Prod.mk.injEq] at hr;obtain ⟨rfl,rfl⟩:=hr
   refine aj aa [0,1,2,3,4,5] 5 rfl rfl rfl rfl rfl rfl ?_ ?_
   all_goals first|rfl|(simp [ar,aR,aX];done)|(simp [ar,aR,aX];omega)
  have hc15':=of_decide_eq_false hc15
  refine aN ?_
  refine ad aa 6 rfl ?_
  refine af ?_
  refine bb [0,1,4,5] [6,5,0,1,2,3,4] mixed rfl rfl ?_
  refine aA (kn:=[]) aa 5 rfl trivial ?_
  refine aS (n':=7) [111] [3] rfl rfl (.inl ⟨(ah.plain rfl),aH.cast (dk rfl rfl rfl rfl rfl Try.underlying31) rfl⟩) rfl ?_
  refine aA (kn:=[]) aa 2 rfl trivial ?_
  refine aS (n':=7) [114] [] rfl rfl (.inl ⟨(ah.plain rfl),aH.cast (cT rfl rfl rfl rfl rfl Try.underlying39) rfl⟩) rfl ?_
  refine aS (n':=7) [112,115] [] rfl rfl (.inl ⟨(ah.plain rfl),aH.cast (aJ rfl rfl rfl (aE (by first|omega|(simp;done)|(simp;omega)))) rfl⟩) rfl ?_
  refine aS (n':=7) [116] [] rfl rfl (.inl ⟨(ah.plain rfl),aH.cast (aJ rfl rfl rfl (aE (by first|omega|(simp;done)|(simp;omega)))) rfl⟩) rfl ?_
  refine aA (kn:=[]) aa 1 rfl trivial ?_
  refine bx [6,5,0,1,2,3,4] rfl rfl rfl rfl (by kernel_rfl) ?_
  refine ab aa 1 rfl ?_
  refine ae ?_
  refine aq ?_
  refine an ?_
  have hX:du b d=((⟨b.time,b.down,b.ao,b.due,b.au,b.s0,b.s1,b.n0,b.n1,b.w0,b.w1,xr0,b.aQ,b.book⟩:Bk),(⟨0,((↑b.au.length:Int)+(↑xr0.aU.length:Int)) - 1⟩:Answer)):=by
    unfold du fL;(try simp only [hdn,if_true,hr0]);(repeat' split)<;>first|rfl|omega|(exfalso;omega)|(simp_all;done)|(simp_all;omega)
  rw [hX] at hr;clear hX
  simp only [Prod.mk.injEq] at hr;obtain ⟨rfl,rfl⟩:=hr
  refine aj aa [0,1,2,3,4,5] 5 rfl rfl rfl rfl rfl rfl ?_ ?_
  all_goals first|rfl|(simp [ar,aR,aX];done)|(simp [ar,aR,aX];omega)
 have hb12':=of_decide_eq_false hb12
 refine bb [0,1,4,5,6] [6,5,0,1,2,3,4] mixed rfl rfl ?_
 refine aA (kn:=[(84,false)]) aa 15 rfl ⟨hb12,trivial⟩ ?_
 refine bx [6,5,0,1,2,3,4] rfl rfl rfl rfl (by kernel_rfl) ?_
 refine ae ?_
 refine ag rfl (fun hno=>by cases hno) (fun _=>?_)
 refine aN ?_
 refine af ?_
 refine ad aa 2 rfl ?_
 refine ag rfl (fun hc17=>?_) (fun hc17=>?_)
 ·
  have hc17':=of_decide_eq_true hc17
  refine ad aa 3 rfl ?_
  refine aq ?_
  refine an ?_
  refine an ?_
  have hX:du b d=(b,(⟨e0,0⟩:Answer)):=by
    unfold du fL;(try simp only [hdn,if_true,hr0]);(repeat' split)<;>first|rfl|omega|(exfalso;omega)|(simp_all;done)|(simp_all;omega)
  rw [hX] at hr;clear hX
  simp only [Prod.mk.injEq] at hr;obtain ⟨rfl,rfl⟩:=hr
  refine aj aa [0,1,2,3,4,5] 5 rfl rfl rfl rfl rfl rfl ?_ ?_
  all_goals first|rfl|(simp [ar,aR,aX];done)|(simp [ar,aR,aX];omega)
 have hc17':=of_decide_eq_false hc17
 refine aN ?_
 refine ad aa 6 rfl ?_
 refine af ?_
 refine bb [0,1,4,5] [6,5,0,1,2,3,4] mixed rfl rfl ?_
 refine aA (kn:=[]) aa 5 rfl trivial ?_
 refine aS (n':=7) [111] [3] rfl rfl (.inl ⟨(ah.plain rfl),aH.cast (dk rfl rfl rfl rfl rfl Try.underlying31) rfl⟩) rfl ?_
 refine aA (kn:=[]) aa 2 rfl trivial ?_
 refine aS (n':=7) [114] [] rfl rfl (.inl ⟨(ah.plain rfl),aH.cast (cT rfl rfl rfl rfl rfl Try.underlying39) rfl⟩) rfl ?_
 refine aS (n':=7) [112,115] [] rfl rfl (.inl ⟨(ah.plain rfl),aH.cast (aJ rfl rfl rfl (aE (by first|omega|(simp;done)|(simp;omega)))) rfl⟩) rfl ?_
 refine aS (n':=7) [116] [] rfl rfl (.inl ⟨(ah.plain rfl),aH.cast (aJ rfl rfl rfl (aE (by first|omega|(simp;done)|(simp;omega)))) rfl⟩) rfl ?_
 refine aA (kn:=[]) aa 1 rfl trivial ?_
 refine bx [6,5,0,1,2,3,4] rfl rfl rfl rfl (by kernel_rfl) ?_
 refine ab aa 1 rfl ?_
 refine ae ?_
 refine aq ?_
 refine an ?_
 have hX:du b d=((⟨b.time,b.down,b.ao,b.due,b.au,b.s0,b.s1,b.n0,b.n1,b.w0,b.w1,xr0,b.aQ,b.book⟩:Bk),(⟨0,((↑b.au.length:Int)+(↑xr0.aU.length:Int)) - 1⟩:Answer)):=by
   unfold du fL;(try simp only [hdn,if_true,hr0]);(repeat' split)<;>first|rfl|omega|(exfalso;omega)|(simp_all;done)|(simp_all;omega)
 rw [hX] at hr;clear hX
 simp only [Prod.mk.injEq] at hr;obtain ⟨rfl,rfl⟩:=hr
 refine aj aa [0,1,2,3,4,5] 5 rfl rfl rfl rfl rfl rfl ?_ ?_
 all_goals first|rfl|(simp [ar,aR,aX];done)|(simp [ar,aR,aX];omega)
theorem Ff (x:Nat->Value) (hx:∀ i,(x i).oneCell'=true) (b:Bk) (d:aZ) (ok:cj b) (b2:Bk) (a2:Answer) (hr:du b d=(b2,a2)):cz Try.prog 63 [(.c (.p 0 0 0 0)),(.c (.q (cS d) 0))] [(0,(.box 98 (aR b 1 2 3 4 (.d (.v (x 17))) (.d (.v (x 19)))))),(1,(dJ b.ao)),(2,(dx b.due)),(3,(dR b.au)),(4,(cF b.aQ))] [0] (.v (.g [cI a2.err,cI a2.ba])) [(0,(.box 98 (aR b2 1 2 3 4 (.d (.v (x 17))) (.d (.v (x 19)))))),(1,(dJ b2.ao)),(2,(dx b2.due)),(3,(dR b2.au)),(4,(cF b2.aQ))]:=by
  cases hdn:b.down
  ·exact Ef x hx b d ok hdn b2 a2 hr
  ·exact Eg x hx b d ok hdn b2 a2 hr

theorem zE (x:Nat->Value) (hx:∀ i,(x i).oneCell'=true) (b:Bk) (d:aZ) (ok:cj b) (hdn:b.down=false) (b2:Bk) (a2:Answer) (hr:dM b d=(b2,a2)):cz Try.prog 64 [(.c (.p 0 0 0 0)),(.c (.q (cS d) 0))] [(0,(.box 98 (aR b 1 2 3 4 (.d (.v (x 17))) (.d (.v (x 19)))))),(1,(dJ b.ao)),(2,(dx b.due)),(3,(dR b.au)),(4,(cF b.aQ))] [0] (.v (.g [cI a2.err,cI a2.ba])) [(0,(.box 98 (aR b2 1 2 3 4 (.d (.v (x 17))) (.d (.v (x 19)))))),(1,(dJ b2.ao)),(2,(dx b2.due)),(3,(dR b2.au)),(4,(cF b2.aQ))]:=by
 refine cz.mk 246 [(0,(aC (.p 0 0 0 0))),(1,(aC (.q (cS d) 0)))] 5 Try.func64 rfl rfl rfl rfl rfl rfl rfl rfl rfl ?_
 intro W0 F0 T0 pg
 obtain ⟨okt,okc,okd,oka,oky,okw0,okw1,okp,okv,okk0,okk1,okg,okl0,okl1,okp0,okp1,okn0,okn1,okq⟩:=id ok
 refine ad aa 1 rfl ?_
 refine af ?_
 refine ad aa 5 rfl ?_
 refine ag rfl (fun hno=>absurd (hdn.symm.trans hno) (by decide)) (fun _=>?_)
 refine aN ?_
 refine af ?_
 refine af ?_
 rcases Bool.eq_false_or_eq_true (decide (d.n < 0)) with hb2|hb2
 ·
  have hb2':=of_decide_eq_true hb2
  refine bb [0,1,4] [5,0,1,2,3,4] mixed rfl rfl ?_
  refine aA (kn:=[(22,true)]) aa 18 rfl ⟨hb2,trivial⟩ ?_
  refine bx [5,0,1,2,3,4] rfl rfl rfl rfl (by kernel_rfl) ?_
  refine ae ?_
  refine ag rfl (fun _=>?_) (fun hno=>by cases hno)
  refine ad aa 2 rfl ?_
  refine aq ?_
  refine an ?_
  have hX:dM b d=(b,(⟨6,0⟩:Answer)):=by
    unfold dM;simp only [hdn,Bool.false_eq_true,if_false];(repeat' split)<;>first|rfl|omega|(exfalso;omega)|(simp_all;done)|(simp_all;omega)
  rw [hX] at hr;clear hX
  simp only [Prod.mk.injEq] at hr;obtain ⟨rfl,rfl⟩:=hr
  refine aj aa [0,1,2,3,4,5] 5 rfl rfl rfl rfl rfl rfl ?_ ?_
  all_goals first|rfl|(simp [ar,aR,aX];done)|(simp [ar,aR,aX];omega)
 have hb2':=of_decide_eq_false hb2
 refine bb [0,1,4] [5,0,1,2,3,4] mixed rfl rfl ?_
 refine aA (kn:=[(22,false)]) aa 15 rfl ⟨hb2,trivial⟩ ?_
 refine aS (n':=6) [32,23] [3] rfl rfl (.inl ⟨(ah.yes rfl rfl rfl),aH.cast (dk rfl rfl rfl rfl rfl Try.underlying31) rfl⟩) rfl ?_
 refine aA (kn:=[]) aa 2 rfl trivial ?_
 refine bx [5,0,1,2,3,4] rfl rfl rfl rfl (by kernel_rfl) ?_
 refine ae ?_
 refine ag rfl (fun hc4=>?_) (fun hc4=>?_)
 ·
  have hc4':=of_decide_eq_true hc4
  refine ad aa 2 rfl ?_
  refine aq ?_
  refine an ?_
  have hX:dM b d=(b,(⟨6,0⟩:Answer)):=by
    unfold dM;simp only [hdn,Bool.false_eq_true,if_false];(repeat' split)<;>first|rfl|omega|(exfalso;omega)|(simp_all;done)|(simp_all;omega)
  rw [hX] at hr;clear hX
  simp only [Prod.mk.injEq] at hr;obtain ⟨rfl,rfl⟩:=hr
  refine aj aa [0,1,2,3,4,5] 5 rfl rfl rfl rfl rfl rfl ?_ ?_
  all_goals first|rfl|(simp [ar,aR,aX];done)|(simp [ar,aR,aX];omega)
 have hc4':=of_decide_eq_false hc4
 refine aN ?_
 refine af ?_
 obtain ⟨x1,hx1⟩:=bY (xs:=b.au) (i:=Int.toNat (d.n)) (by first|omega|(simp;done)|(simp;omega))
 refine bb [0,1,4] [5,0,1,2,3,4] mixed rfl rfl ?_
 refine aA (kn:=[]) aa 9 rfl trivial ?_
 refine aS (n':=6) [41,45] [3] rfl rfl (.inl ⟨(ah.plain rfl),aH.cast (bo (i:=Int.toNat (d.n)) rfl rfl rfl Try.underlying31 lZ (by first|omega|(simp;done)|(simp;omega)) (by first|omega|(simp;done)|(simp;omega))) rfl⟩) rfl ?_
 refine aS (n':=6) [46] [3] rfl rfl (.inl ⟨(ah.plain rfl),aH.cast (db rfl rfl rfl Try.underlying67 rfl lZ (bf hx1) rfl) rfl⟩) rfl ?_
 refine aA (n':=7) (kn:=[]) aa 1 rfl trivial ?_
 refine bx [6,5,0,1,2,3,4] rfl rfl rfl rfl (by kernel_rfl) ?_
 refine ab aa 1 rfl ?_
 refine ae ?_
 refine af ?_
 obtain ⟨b0,e0,hr0⟩:∃ (b0:bz) (e0:Int),ck x1 d.move d.sum=(b0,e0):=⟨_,_,rfl⟩
 refine cX [0,1,4,5] [6,5,0,1,2,3,4] mixed rfl rfl ?_
 refine bQ (kn:=[]) aa 9 rfl trivial ?_
 refine bT (n':=7) [49,53,57] [] rfl rfl (.inl ⟨(ah.plain rfl),aH.cast (bI 7 (vZ x1 d.move d.sum b0 e0 hr0) FQ rfl rfl ⟨⟨_,rfl,.g ⟨.d _,.d _,.d _,.d _,.d _,.d _,.d _,.d _,trivial⟩⟩,⟨_,rfl,.c (.d _)⟩,⟨_,rfl,.c (.d _)⟩,trivial⟩ ⟨⟨trivial,trivial,trivial,trivial,trivial,trivial,trivial,trivial,trivial⟩,trivial,trivial⟩ trivial rfl rfl rfl rfl) rfl⟩) rfl ?_
 refine bQ (n':=8) (kn:=[]) aa 6 rfl trivial ?_
 refine dK [0,1,4,5,6,7] [7,6,5,0,1,2,3,4] rfl rfl (by kernel_rfl) ?_
 refine then_ok ?_
 refine af ?_
 refine ad aa 2 rfl ?_
 refine ag rfl (fun hc5=>?_) (fun hc5=>?_)
 ·
  have hc5':=of_decide_eq_true hc5
  refine ad aa 3 rfl ?_
  refine aq ?_
  refine an ?_
  have hX:dM b d=(b,(⟨e0,0⟩:Answer)):=by
    unfold dM;simp only [hdn,Bool.false_eq_true,if_false];rw [if_neg (by omega),hx1];dsimp only;simp only [hr0];(repeat' split)<;>first|rfl|omega|(exfalso;omega)|(simp_all;done)|(simp_all;omega)
  rw [hX] at hr;clear hX
  simp only [Prod.mk.injEq] at hr;obtain ⟨rfl,rfl⟩:=hr
  refine aj aa [0,1,2,3,4,5] 5 rfl rfl rfl rfl rfl rfl ?_ ?_
  all_goals first|rfl|(simp [ar,aR,aX];done)|(simp [ar,aR,aX];omega)
 have hc5':=of_decide_eq_false hc5
 refine aN ?_
 obtain ⟨mw1,mw2,mc,ms,mk1,mk2,mn1,mn2⟩:=mm (show ck x1 d.move d.sum=(b0,0) by rw [hr0];congr 1;omega)
 have hoP:=okp x1 (List.mem_of_getElem? hx1)
 have hI0:∀ t∈b.s0.kept,fy t.number:=fun t ht=>(okk0 t ht).1
 have hI1:∀ t∈b.s1.kept,fy t.number:=fun t ht=>(okk1 t ht).1
 refine az aa 1 rfl ?_
 refine aL 17 [0,8,9,10,11,12,13,14,15,16,7,6,5] (cA id (aY [0,8,9,10,11,12,13,14,15,16]) (jU (x 17) (x 19) b (by first|omega|(simp;done)|(simp;omega)) (by first|omega|(simp;done)|(simp;omega)) (by first|omega|(simp;done)|(simp;omega)) (by first|omega|(simp;done)|(simp;omega))) qn rfl rfl ⟨⟨_,rfl,.inl ⟨rfl,rfl⟩⟩,trivial⟩ ⟨rfl,rfl,rfl,rfl,rfl,trivial⟩ rfl rfl rfl rfl rfl rfl trivial ⟨⟨trivial,trivial,trivial,trivial,trivial,trivial,trivial,trivial,trivial,trivial,trivial,trivial,trivial,trivial,trivial,trivial,trivial,trivial,trivial,trivial,trivial⟩,⟨trivial,trivial,trivial,trivial,trivial,trivial,trivial,trivial,trivial,trivial,trivial,trivial,trivial,trivial,trivial,trivial,trivial,trivial,trivial,trivial,trivial⟩,(fun _ _ _ _=>trivial),(fun _ _ _ _=>trivial),(fun _ _ _ _=>trivial),(fun _ _ _ _=>trivial),(fun _ _ _ _=>trivial),(fun _ _ _ _=>trivial),(fun _ _ _ _=>trivial),(fun _ _ _ _=>trivial),trivial⟩ rfl rfl rfl rfl) rfl ?_
 refine ab aa 1 rfl ?_
 refine ae ?_
 refine af ?_
 obtain ⟨e1,hr1⟩:∃ (e1:Int),bJ b0=e1:=⟨_,rfl⟩
 have hhb1:=oC (show bG b0=0 by assumption)
 rw [hr1] at hhb1
 obtain ⟨e2,hr2⟩:∃ (e2:Int),bJ x1=e2:=⟨_,rfl⟩
 have hhb2:=oC (show bG x1=0 by assumption)
 rw [hr2] at hhb2
 refine bb [0,1,4,5,6,8] [0,8,9,10,11,12,13,14,15,16,7,6,5] mixed rfl rfl ?_
 refine aA (kn:=[]) aa 1 rfl trivial ?_
 refine aS (n':=17) [67] [] rfl rfl (.inl ⟨(ah.plain rfl),aH.cast (bI 17 (kb b0 (by first|assumption|omega|rfl|decide) e1 hr1) xS rfl rfl ⟨⟨_,rfl,.g ⟨.d _,.d _,.d _,.d _,.d _,.d _,.d _,.d _,trivial⟩⟩,trivial⟩ trivial trivial rfl rfl rfl rfl) rfl⟩) rfl ?_
 refine aA (kn:=[]) aa 1 rfl trivial ?_
 refine aS (n':=17) [69] [] rfl rfl (.inl ⟨(ah.plain rfl),aH.cast (bI 17 (kb x1 (by first|assumption|omega|rfl|decide) e2 hr2) xS rfl rfl ⟨⟨_,rfl,.g ⟨.d _,.d _,.d _,.d _,.d _,.d _,.d _,.d _,trivial⟩⟩,trivial⟩ trivial trivial rfl rfl rfl rfl) rfl⟩) rfl ?_
 refine aS (n':=17) [68,70] [] rfl rfl (.inl ⟨(ah.plain rfl),aH.cast (aJ rfl rfl rfl (aE (by first|omega|(simp;done)|(simp;omega)))) rfl⟩) rfl ?_
 refine aA (kn:=[]) aa 1 rfl trivial ?_
 refine bx [0,8,9,10,11,12,13,14,15,16,7,6,5] rfl rfl rfl rfl (by kernel_rfl) ?_
 refine ae ?_
 refine af ?_
 refine vF (J:=⟨[(0,(aC (.p 0 0 0 0))),(1,(aC (.q (cS d) 0))),(4,(aC (.p 5 0 0 0))),(6,(aC (.p 7 0 0 0))),(8,(aC (.p 8 0 0 0))),(9,(aI (e1 - e2))),(93,(aB (decide (d.move=1/\d.sum > ku b.ao b0.aK))))],[(0,(.box 98 (aR b 9 10 11 12 (.d (.v (x 17))) (.d (.v (x 19)))))),(8,(.box 147 (aR b 13 14 15 16 (.d (.v (x 17))) (cI 0)))),(9,(dJ b.ao)),(10,(dx b.due)),(11,(dR b.au)),(12,(cF b.aQ)),(13,(dJ b.ao)),(14,(dx b.due)),(15,(dR b.au)),(16,(cF b.aQ)),(7,(.box 67 [(cI b0.aK),(cI b0.ay),(cI b0.sum),(cI b0.captured),(cI b0.bw),(cI b0.bm),(cI b0.cP),(cB b0.shut)])),(5,(.box 65 [(cI 0),(cI 0)]))],17⟩) ?_ ?_
 ·
  rcases Bool.eq_false_or_eq_true (decide (d.move=1)) with hb6|hb6
  ·
   have hb6':=of_decide_eq_true hb6
   obtain ⟨x2,hx2⟩:=bY (xs:=b.ao) (i:=Int.toNat (b0.aK)) (by first|omega|(simp;done)|(simp;omega))
   have hx2g:=zW (okg x2 (List.mem_of_getElem? hx2))
   refine bb [0,1,4,6,8,9] [0,8,9,10,11,12,13,14,15,16,7,5] mixed rfl rfl ?_
   refine aA (kn:=[(76,true)]) aa 17 rfl ⟨hb6,trivial⟩ ?_
   refine aS (n':=17) [86,88,77] [13] rfl rfl (.inl ⟨(ah.yes rfl rfl rfl),aH.cast (bo (i:=Int.toNat (b0.aK)) rfl rfl rfl Try.underlying29 ft (by first|omega|(simp;done)|(simp;omega)) (by first|omega|(simp;done)|(simp;omega))) rfl⟩) rfl ?_
   refine aS (n':=17) [89,77] [13] rfl rfl (.inl ⟨(ah.yes rfl rfl rfl),aH.cast (db rfl rfl rfl Try.underlying61 rfl ft (bf hx2) rfl) rfl⟩) rfl ?_
   refine aS (n':=17) [90,77] [] rfl rfl (.inl ⟨(ah.yes rfl rfl rfl),aH.cast (bI 17 (fk x2 (by first|assumption|omega|(constructor<;>decide)|(have hz:=eU (by first|assumption|omega);omega))) mo rfl rfl ⟨⟨_,rfl,.g ⟨.d _,.d _,.d _,.d _,.d _,.d _,trivial⟩⟩,trivial⟩ trivial trivial rfl rfl rfl rfl) rfl⟩) rfl ?_
   refine aA (kn:=[]) aa 2 rfl trivial ?_
   refine bx [0,8,9,10,11,12,13,14,15,16,7,5] rfl rfl rfl rfl (by kernel_rfl) ?_
   refine ae ?_
   rw [show (decide (d.move=1/\d.sum > ku b.ao b0.aK))=(decide (d.sum > (x2.bu - x2.held))) by (unfold ku;rw [hx2];dsimp only;first|(simp_all;done)|(simp_all;omega))]
   exact aD.bZ id (⟨rfl,rfl,rfl,rfl,rfl,rfl,rfl,trivial⟩) (⟨rfl,rfl,rfl,rfl,rfl,rfl,rfl,rfl,rfl,rfl,rfl,rfl,trivial⟩) rfl
  have hb6':=of_decide_eq_false hb6
  refine bb [0,1,4,6,8,9] [0,8,9,10,11,12,13,14,15,16,7,5] mixed rfl rfl ?_
  refine aA (kn:=[(76,false)]) aa 22 rfl ⟨hb6,trivial⟩ ?_
  refine bx [0,8,9,10,11,12,13,14,15,16,7,5] rfl rfl rfl rfl (by kernel_rfl) ?_
  refine ae ?_
  rw [show (decide (d.move=1/\d.sum > ku b.ao b0.aK))=(false) by (unfold ku;first|(simp_all;done)|(simp_all;omega))]
  exact aD.bZ id (⟨rfl,rfl,rfl,rfl,rfl,rfl,rfl,trivial⟩) (⟨rfl,rfl,rfl,rfl,rfl,rfl,rfl,rfl,rfl,rfl,rfl,rfl,trivial⟩) rfl
 refine ag rfl (fun hc7=>?_) (fun hc7=>?_)
 ·
  have hc7':=of_decide_eq_true hc7
  refine ad aa 2 rfl ?_
  refine aq ?_
  refine an ?_
  have hX:dM b d=(b,(⟨10,0⟩:Answer)):=by
    unfold dM;simp only [hdn,Bool.false_eq_true,if_false];rw [if_neg (by omega),hx1];dsimp only;simp only [hr0];(repeat' split)<;>first|rfl|omega|(exfalso;omega)|(simp_all;done)|(simp_all;omega)
  rw [hX] at hr;clear hX
  simp only [Prod.mk.injEq] at hr;obtain ⟨rfl,rfl⟩:=hr
  refine aj aa [0,9,10,11,12,5] 5 rfl rfl rfl rfl rfl rfl ?_ ?_
  all_goals first|rfl|(simp [ar,aR,aX];done)|(simp [ar,aR,aX];omega)
 have hc7':=of_decide_eq_false hc7
 refine aN ?_
 refine af ?_
 refine bb [0,1,4,6,8,9] [0,8,9,10,11,12,13,14,15,16,7,5] mixed rfl rfl ?_
 refine aA (kn:=[]) aa 2 rfl trivial ?_
 refine aS (n':=17) [96] [] rfl rfl (.inl ⟨(ah.plain rfl),aH.cast (aJ rfl rfl rfl (aE (by first|omega|(simp;done)|(simp;omega)))) rfl⟩) rfl ?_
 refine aA (n':=18) (kn:=[]) aa 11 rfl trivial ?_
 refine bx [17,0,8,9,10,11,12,13,14,15,16,7,5] rfl rfl rfl rfl (by kernel_rfl) ?_
 refine ab aa 1 rfl ?_
 refine ae ?_
 obtain ⟨jcards,jdue,jbook,js0,js1,je,hj⟩:∃ (jcards:List bC) (jdue:List Int) (jbook:List Entry) (js0:bU) (js1:bU) (je:Int),dS b b0 x1 d=(jcards,jdue,jbook,js0,js1,je):=⟨_,_,_,_,_,_,rfl⟩
 have hj0:=hj
 refine vF (J:=⟨[(0,(aC (.p 0 0 0 0))),(1,(aC (.q (cS d) 0))),(4,(aC (.p 5 0 0 0))),(6,(aC (.p 7 0 0 0))),(8,(aC (.p 8 0 0 0)))],[(0,(.box 98 (aR b 9 10 11 12 (.d (.v (x 17))) (.d (.v (x 19)))))),(8,(.box 147 ((((((((aR b 13 14 15 16 (.d (.v (x 17))) (cI je)).set 2 (.s 13 0 6 jcards.length)).set 3 (.s 14 0 1 jdue.length)).set 5 (cI js0.bV)).set 6 (dd js0.kept)).set 7 (cI js1.bV)).set 8 (dd js1.kept)).set 18 (dO jbook)))),(9,(dJ b.ao)),(10,(dx b.due)),(11,(dR b.au)),(12,(cF b.aQ)),(13,(dJ jcards)),(14,(dx jdue)),(15,(dR b.au)),(16,(cF b.aQ)),(7,(.box 67 [(cI b0.aK),(cI b0.ay),(cI b0.sum),(cI b0.captured),(cI b0.bw),(cI b0.bm),(cI b0.cP),(cB b0.shut)])),(5,(.box 65 [(cI 0),(cI 0)]))],17⟩) ?_ ?_
 ·
  refine ad aa 4 rfl ?_
  refine aV ?_
  refine af ?_
  refine ad aa 2 rfl ?_
  refine ag rfl (fun hc8=>?_) (fun hc8=>?_)
  ·
   have hc8':=of_decide_eq_true hc8
   refine aN ?_
   refine ag rfl (fun _=>?_) (fun hno=>absurd (hc8.symm.trans hno) (by decide))
   refine aw ?_
   refine ab aa 4 rfl ?_
   obtain ⟨l23,e23,hr3⟩:∃ (l23:List bC) (e23:Int),cw b.ao 0 b0.aK (e1 - e2) 0=(l23,e23):=⟨_,_,rfl⟩
   refine aL 19 [8,18,17,0,9,10,11,12,14,15,16,7,5] (cg (aY [8,13]) (aY [8,18]) (ms:=((dp.set 2 (some (.s 1 0 6 b.ao.length))).set 19 (some (cI 0)))) (ms':=((dp.set 2 (some (.s 1 0 6 l23.length))).set 19 (some (cI e23)))) (fun x hx=>iF x hx b.ao 0 b0.aK (e1 - e2) 0 (by first|omega|(simp;done)|(simp;omega)) l23 e23 hr3) nv rfl rfl ⟨⟨_,rfl,.inl ⟨rfl,rfl⟩⟩,⟨_,rfl,.inr (.c (.d _))⟩,⟨_,rfl,.inr (.c (.d _))⟩,⟨_,rfl,.inr (.c (.d _))⟩,trivial⟩ rfl rfl rfl rfl rfl rfl rfl ⟨rfl,trivial⟩ rfl rfl rfl rfl rfl rfl rfl rfl rfl rfl rfl rfl rfl) rfl ?_
   refine bX ?_
   refine bn ?_
   refine then_ok ?_
   have hX:dS b b0 x1 d=(l23,b.due,b.book,b.s0,b.s1,e23):=by
     unfold dS;(try simp only [hr1,hr2,hr3]);(repeat' split)<;>first|rfl|omega|(exfalso;omega)|(simp_all;done)|(simp_all;omega)
   rw [hX] at hj;clear hX;simp only [Prod.mk.injEq] at hj;obtain ⟨rfl,rfl,rfl,rfl,rfl,rfl⟩:=hj
   exact aD.bZ (fun k=>if k=13 then 18 else k) (by refine ⟨?_,?_,?_,?_,?_,trivial⟩<;>first|rfl|(simp only [bq];done)|(congr 3;omega)|(congr 4;omega)|(simp only [br];rfl)) (by refine ⟨?_,?_,?_,?_,?_,?_,?_,?_,?_,?_,?_,?_,trivial⟩<;>first|rfl|(simp only [bq];done)|(congr 3;omega)|(congr 4;omega)|(simp only [br];rfl)) rfl
  have hc8':=of_decide_eq_false hc8
  refine aw ?_
  refine ab aa 2 rfl ?_
  refine ae ?_
  refine ag rfl (fun hc10=>?_) (fun hc10=>?_)
  ·
   have hc10':=of_decide_eq_true hc10
   refine aw ?_
   refine ab aa 4 rfl ?_
   obtain ⟨l24,e24,hr4⟩:∃ (l24:List bC) (e24:Int),cw b.ao 0 b0.aK (e1 - e2) 0=(l24,e24):=⟨_,_,rfl⟩
   refine aL 19 [8,18,17,0,9,10,11,12,14,15,16,7,5] (cg (aY [8,13]) (aY [8,18]) (ms:=((dp.set 2 (some (.s 1 0 6 b.ao.length))).set 19 (some (cI 0)))) (ms':=((dp.set 2 (some (.s 1 0 6 l24.length))).set 19 (some (cI e24)))) (fun x hx=>iF x hx b.ao 0 b0.aK (e1 - e2) 0 (by first|omega|(simp;done)|(simp;omega)) l24 e24 hr4) nv rfl rfl ⟨⟨_,rfl,.inl ⟨rfl,rfl⟩⟩,⟨_,rfl,.inr (.c (.d _))⟩,⟨_,rfl,.inr (.c (.d _))⟩,⟨_,rfl,.inr (.c (.d _))⟩,trivial⟩ rfl rfl rfl rfl rfl rfl rfl ⟨rfl,trivial⟩ rfl rfl rfl rfl rfl rfl rfl rfl rfl rfl rfl rfl rfl) rfl ?_
   refine bX ?_
   refine bn ?_
   refine then_ok ?_
   have hX:dS b b0 x1 d=(l24,b.due,b.book,b.s0,b.s1,e24):=by
     unfold dS;(try simp only [hr1,hr2,hr4]);(repeat' split)<;>first|rfl|omega|(exfalso;omega)|(simp_all;done)|(simp_all;omega)
   rw [hX] at hj;clear hX;simp only [Prod.mk.injEq] at hj;obtain ⟨rfl,rfl,rfl,rfl,rfl,rfl⟩:=hj
   exact aD.bZ (fun k=>if k=13 then 18 else k) (by refine ⟨?_,?_,?_,?_,?_,trivial⟩<;>first|rfl|(simp only [bq];done)|(congr 3;omega)|(congr 4;omega)|(simp only [br];rfl)) (by refine ⟨?_,?_,?_,?_,?_,?_,?_,?_,?_,?_,?_,?_,trivial⟩<;>first|rfl|(simp only [bq];done)|(congr 3;omega)|(congr 4;omega)|(simp only [br];rfl)) rfl
  have hc10':=of_decide_eq_false hc10
  refine af ?_
  refine ad aa 2 rfl ?_
  refine ag rfl (fun hc11=>?_) (fun hc11=>?_)
  ·
   have hc11':=of_decide_eq_true hc11
   refine aN ?_
   refine ag rfl (fun _=>?_) (fun hno=>absurd (hc11.symm.trans hno) (by decide))
   refine af ?_
   obtain ⟨l25,e25,hr5⟩:∃ (l25:List bC) (e25:Int),cw b.ao 0 b0.aK (e1 - e2) (0 - d.sum)=(l25,e25):=⟨_,_,rfl⟩
   refine cX [0,1,4,6,8,9,11,10] [17,0,8,9,10,11,12,13,14,15,16,7,5] mixed rfl rfl ?_
   refine bQ (kn:=[]) aa 8 rfl trivial ?_
   refine bT (n':=18) [129] [] rfl rfl (.inl ⟨(ah.plain rfl),aH.cast (kr rfl rfl (aE (by first|omega|(simp;done)|(simp;omega)))) rfl⟩) rfl ?_
   refine bT (n':=19) [122,124,125,130] [13,8] rfl rfl (.inl ⟨(ah.plain rfl),aH.cast (cg (aY [8,13]) (aY [8,18]) (ms:=((dp.set 2 (some (.s 1 0 6 b.ao.length))).set 19 (some (cI 0)))) (ms':=((dp.set 2 (some (.s 1 0 6 l25.length))).set 19 (some (cI e25)))) (fun x hx=>iF x hx b.ao 0 b0.aK (e1 - e2) (0 - d.sum) (by first|omega|(simp;done)|(simp;omega)) l25 e25 hr5) nv rfl rfl ⟨⟨_,rfl,.inl ⟨rfl,rfl⟩⟩,⟨_,rfl,.inr (.c (.d _))⟩,⟨_,rfl,.inr (.c (.d _))⟩,⟨_,rfl,.inr (.c (.d _))⟩,trivial⟩ rfl rfl rfl rfl rfl rfl rfl ⟨rfl,trivial⟩ rfl rfl rfl rfl rfl rfl rfl rfl rfl rfl rfl rfl rfl) rfl⟩) rfl ?_
   refine dK [0,1,4,6,8,11,10] [18,8,17,0,9,10,11,12,14,15,16,7,5] rfl rfl (by kernel_rfl) ?_
   refine then_ok ?_
   refine az aa 6 rfl ?_
   obtain ⟨l26,e26,hr6⟩:∃ (l26:List Entry) (e26:Int),dL b.book e25 (10+b0.aK) 1 d.sum=(l26,e26):=⟨_,_,rfl⟩
   refine aL 19 [8,18,17,0,9,10,11,12,14,15,16,7,5] (cg (aY [8]) (aY [8]) (ms:=((dp.set 18 (some (dO b.book))).set 19 (some (cI e25)))) (ms':=((dp.set 18 (some (dO l26))).set 19 (some (cI e26)))) (fun x hx=>iS x hx b.book e25 (10+b0.aK) 1 d.sum l26 e26 hr6) mn rfl rfl ⟨⟨_,rfl,.inl ⟨rfl,rfl⟩⟩,⟨_,rfl,.inr (.c (.d _))⟩,⟨_,rfl,.inr (.c (.d _))⟩,⟨_,rfl,.inr (.c (.d _))⟩,trivial⟩ rfl rfl rfl rfl rfl rfl rfl trivial rfl rfl rfl rfl rfl rfl rfl rfl rfl rfl rfl rfl rfl) rfl ?_
   refine ae ?_
   refine ad aa 2 rfl ?_
   refine aw ?_
   refine ab aa 2 rfl ?_
   obtain ⟨s27,e27,hr7⟩:∃ (s27:bU) (e27:Int),eC b.s0 e26 (⟨0,1,d.n,d.sum⟩:bl)=(s27,e27):=⟨_,_,rfl⟩
   refine aL 19 [8,18,17,0,9,10,11,12,14,15,16,7,5] (cg (aY [8]) (aY [8]) (ms:=(((dp.set 5 (some (cI b.s0.bV))).set 6 (some (dd b.s0.kept))).set 19 (some (cI e26)))) (ms':=(((dp.set 5 (some (cI s27.bV))).set 6 (some (dd s27.kept))).set 19 (some (cI e27)))) (fun x hx=>si x hx b.s0 e26 (⟨0,1,d.n,d.sum⟩:bl) (by assumption) s27 e27 hr7) xP rfl rfl ⟨⟨_,rfl,.inl ⟨rfl,rfl⟩⟩,⟨_,rfl,.inr (.c (.d _))⟩,⟨_,rfl,.inr (.g ⟨.d _,.d _,.d _,.d _,trivial⟩)⟩,trivial⟩ rfl rfl rfl rfl rfl rfl rfl trivial rfl rfl rfl rfl rfl rfl rfl rfl rfl rfl rfl rfl rfl) rfl ?_
   refine bX ?_
   refine bn ?_
   refine then_ok ?_
   have hX:dS b b0 x1 d=(l25,b.due,l26,s27,b.s1,e27):=by
     unfold dS;(try simp only [hr1,hr2,hr5,hr6,hr7]);(repeat' split)<;>first|rfl|omega|(exfalso;omega)|(simp_all;done)|(simp_all;omega)
   rw [hX] at hj;clear hX;simp only [Prod.mk.injEq] at hj;obtain ⟨rfl,rfl,rfl,rfl,rfl,rfl⟩:=hj
   exact aD.bZ (fun k=>if k=13 then 18 else k) (by refine ⟨?_,?_,?_,?_,?_,trivial⟩<;>first|rfl|(simp only [bq];done)|(congr 3;omega)|(congr 4;omega)|(simp only [br];rfl)) (by refine ⟨?_,?_,?_,?_,?_,?_,?_,?_,?_,?_,?_,?_,trivial⟩<;>first|rfl|(simp only [bq];done)|(congr 3;omega)|(congr 4;omega)|(simp only [br];rfl)) rfl
  have hc11':=of_decide_eq_false hc11
  refine aw ?_
  refine ab aa 2 rfl ?_
  refine ae ?_
  refine ag rfl (fun hc13=>?_) (fun hc13=>?_)
  ·
   have hc13':=of_decide_eq_true hc13
   refine af ?_
   obtain ⟨l28,e28,hr8⟩:∃ (l28:List bC) (e28:Int),cw b.ao 0 b0.aK (e1 - e2) (0 - d.sum)=(l28,e28):=⟨_,_,rfl⟩
   refine cX [0,1,4,6,8,9,11,10] [17,0,8,9,10,11,12,13,14,15,16,7,5] mixed rfl rfl ?_
   refine bQ (kn:=[]) aa 8 rfl trivial ?_
   refine bT (n':=18) [129] [] rfl rfl (.inl ⟨(ah.plain rfl),aH.cast (kr rfl rfl (aE (by first|omega|(simp;done)|(simp;omega)))) rfl⟩) rfl ?_
   refine bT (n':=19) [122,124,125,130] [13,8] rfl rfl (.inl ⟨(ah.plain rfl),aH.cast (cg (aY [8,13]) (aY [8,18]) (ms:=((dp.set 2 (some (.s 1 0 6 b.ao.length))).set 19 (some (cI 0)))) (ms':=((dp.set 2 (some (.s 1 0 6 l28.length))).set 19 (some (cI e28)))) (fun x hx=>iF x hx b.ao 0 b0.aK (e1 - e2) (0 - d.sum) (by first|omega|(simp;done)|(simp;omega)) l28 e28 hr8) nv rfl rfl ⟨⟨_,rfl,.inl ⟨rfl,rfl⟩⟩,⟨_,rfl,.inr (.c (.d _))⟩,⟨_,rfl,.inr (.c (.d _))⟩,⟨_,rfl,.inr (.c (.d _))⟩,trivial⟩ rfl rfl rfl rfl rfl rfl rfl ⟨rfl,trivial⟩ rfl rfl rfl rfl rfl rfl rfl rfl rfl rfl rfl rfl rfl) rfl⟩) rfl ?_
   refine dK [0,1,4,6,8,11,10] [18,8,17,0,9,10,11,12,14,15,16,7,5] rfl rfl (by kernel_rfl) ?_
   refine then_ok ?_
   refine az aa 6 rfl ?_
   obtain ⟨l29,e29,hr9⟩:∃ (l29:List Entry) (e29:Int),dL b.book e28 (10+b0.aK) 1 d.sum=(l29,e29):=⟨_,_,rfl⟩
   refine aL 19 [8,18,17,0,9,10,11,12,14,15,16,7,5] (cg (aY [8]) (aY [8]) (ms:=((dp.set 18 (some (dO b.book))).set 19 (some (cI e28)))) (ms':=((dp.set 18 (some (dO l29))).set 19 (some (cI e29)))) (fun x hx=>iS x hx b.book e28 (10+b0.aK) 1 d.sum l29 e29 hr9) mn rfl rfl ⟨⟨_,rfl,.inl ⟨rfl,rfl⟩⟩,⟨_,rfl,.inr (.c (.d _))⟩,⟨_,rfl,.inr (.c (.d _))⟩,⟨_,rfl,.inr (.c (.d _))⟩,trivial⟩ rfl rfl rfl rfl rfl rfl rfl trivial rfl rfl rfl rfl rfl rfl rfl rfl rfl rfl rfl rfl rfl) rfl ?_
   refine ae ?_
   refine ad aa 2 rfl ?_
   refine aw ?_
   refine ab aa 2 rfl ?_
   obtain ⟨s210,e210,hr10⟩:∃ (s210:bU) (e210:Int),eC b.s0 e29 (⟨0,1,d.n,d.sum⟩:bl)=(s210,e210):=⟨_,_,rfl⟩
   refine aL 19 [8,18,17,0,9,10,11,12,14,15,16,7,5] (cg (aY [8]) (aY [8]) (ms:=(((dp.set 5 (some (cI b.s0.bV))).set 6 (some (dd b.s0.kept))).set 19 (some (cI e29)))) (ms':=(((dp.set 5 (some (cI s210.bV))).set 6 (some (dd s210.kept))).set 19 (some (cI e210)))) (fun x hx=>si x hx b.s0 e29 (⟨0,1,d.n,d.sum⟩:bl) (by assumption) s210 e210 hr10) xP rfl rfl ⟨⟨_,rfl,.inl ⟨rfl,rfl⟩⟩,⟨_,rfl,.inr (.c (.d _))⟩,⟨_,rfl,.inr (.g ⟨.d _,.d _,.d _,.d _,trivial⟩)⟩,trivial⟩ rfl rfl rfl rfl rfl rfl rfl trivial rfl rfl rfl rfl rfl rfl rfl rfl rfl rfl rfl rfl rfl) rfl ?_
   refine bX ?_
   refine bn ?_
   refine then_ok ?_
   have hX:dS b b0 x1 d=(l28,b.due,l29,s210,b.s1,e210):=by
     unfold dS;(try simp only [hr1,hr2,hr8,hr9,hr10]);(repeat' split)<;>first|rfl|omega|(exfalso;omega)|(simp_all;done)|(simp_all;omega)
   rw [hX] at hj;clear hX;simp only [Prod.mk.injEq] at hj;obtain ⟨rfl,rfl,rfl,rfl,rfl,rfl⟩:=hj
   exact aD.bZ (fun k=>if k=13 then 18 else k) (by refine ⟨?_,?_,?_,?_,?_,trivial⟩<;>first|rfl|(simp only [bq];done)|(congr 3;omega)|(congr 4;omega)|(simp only [br];rfl)) (by refine ⟨?_,?_,?_,?_,?_,?_,?_,?_,?_,?_,?_,?_,trivial⟩<;>first|rfl|(simp only [bq];done)|(congr 3;omega)|(congr 4;omega)|(simp only [br];rfl)) rfl
  have hc13':=of_decide_eq_false hc13
  refine ad aa 2 rfl ?_
  refine ag rfl (fun hc14=>?_) (fun hc14=>?_)
  ·
   have hc14':=of_decide_eq_true hc14
   refine af ?_
   obtain ⟨x2,hx2⟩:=bY (xs:=b.due) (i:=Int.toNat (b0.ay)) (by first|omega|(simp;done)|(simp;omega))
   refine bb [0,1,4,6,8,11] [17,0,8,9,10,11,12,13,14,15,16,7,5] mixed rfl rfl ?_
   refine aA (kn:=[]) aa 7 rfl trivial ?_
   refine aS (n':=18) [149,151] [14] rfl rfl (.inl ⟨(ah.plain rfl),aH.cast (bo (i:=Int.toNat (b0.ay)) rfl rfl rfl Try.underlying30 fT (by first|omega|(simp;done)|(simp;omega)) (by first|omega|(simp;done)|(simp;omega))) rfl⟩) rfl ?_
   refine aS (n':=18) [152] [14] rfl rfl (.inl ⟨(ah.plain rfl),aH.cast (eD rfl rfl rfl Try.underlying3 rfl (bf hx2) rfl) rfl⟩) rfl ?_
   refine aA (kn:=[]) aa 5 rfl trivial ?_
   refine aS (n':=18) [149,151] [14] rfl rfl (.inl ⟨(ah.plain rfl),aH.cast (bo (i:=Int.toNat (b0.ay)) rfl rfl rfl Try.underlying30 fT (by first|omega|(simp;done)|(simp;omega)) (by first|omega|(simp;done)|(simp;omega))) rfl⟩) rfl ?_
   refine bx [17,0,8,9,10,11,12,13,14,15,16,7,5] rfl rfl rfl rfl (by kernel_rfl) ?_
   refine gb [17,0,8,9,10,11,12,13,14,15,16,7,5] (dG (ds:=[(dI (IntKind.i64.wrap (x2 - d.sum)))]) rfl rfl rfl rfl rfl fT rfl (Nat.le_of_ble_eq_true rfl) (bf hx2) rfl (eG (x':=(IntKind.i64.wrap (x2 - d.sum))) rfl)) rfl ?_
   refine ae ?_
   refine fr (k:=8) (q:=3) (c':=(.s 14 0 1 (((b.due).set (Int.toNat (b0.ay)) (IntKind.i64.wrap (x2 - d.sum))).length))) rfl rfl (by first|rfl|(simp;done)|(congr 1;omega)) rfl ?_
   refine af ?_
   obtain ⟨l211,e211,hr11⟩:∃ (l211:List Entry) (e211:Int),dL b.book 0 (50+b0.ay) 1 d.sum=(l211,e211):=⟨_,_,rfl⟩
   refine cX [0,1,4,6,8,11] [17,0,8,9,10,11,12,13,14,15,16,7,5] mixed rfl rfl ?_
   refine bQ (kn:=[]) aa 3 rfl trivial ?_
   refine bT (n':=18) [162] [] rfl rfl (.inl ⟨(ah.plain rfl),aH.cast (aJ rfl rfl rfl (aE (by first|omega|(simp;done)|(simp;omega)))) rfl⟩) rfl ?_
   refine bQ (kn:=[]) aa 4 rfl trivial ?_
   refine bT (n':=18) [160,163,167] [8] rfl rfl (.inl ⟨(ah.plain rfl),aH.cast (cg (aY [8]) (aY [8]) (ms:=((dp.set 18 (some (dO b.book))).set 19 (some (cI 0)))) (ms':=((dp.set 18 (some (dO l211))).set 19 (some (cI e211)))) (fun x hx=>iS x hx b.book 0 (50+b0.ay) 1 d.sum l211 e211 hr11) mn rfl rfl ⟨⟨_,rfl,.inl ⟨rfl,rfl⟩⟩,⟨_,rfl,.inr (.c (.d _))⟩,⟨_,rfl,.inr (.c (.d _))⟩,⟨_,rfl,.inr (.c (.d _))⟩,trivial⟩ rfl rfl rfl rfl rfl rfl rfl trivial rfl rfl rfl rfl rfl rfl rfl rfl rfl rfl rfl rfl rfl) rfl⟩) rfl ?_
   refine dK [0,1,4,6,8,11] [8,17,0,9,10,11,12,13,14,15,16,7,5] rfl rfl (by kernel_rfl) ?_
   refine then_ok ?_
   refine ad aa 2 rfl ?_
   refine aw ?_
   refine ab aa 2 rfl ?_
   obtain ⟨s212,e212,hr12⟩:∃ (s212:bU) (e212:Int),eC b.s1 e211 (⟨0,2,d.n,d.sum⟩:bl)=(s212,e212):=⟨_,_,rfl⟩
   refine aL 18 [8,17,0,9,10,11,12,13,14,15,16,7,5] (cg (aY [8]) (aY [8]) (ms:=(((dp.set 7 (some (cI b.s1.bV))).set 8 (some (dd b.s1.kept))).set 19 (some (cI e211)))) (ms':=(((dp.set 7 (some (cI s212.bV))).set 8 (some (dd s212.kept))).set 19 (some (cI e212)))) (fun x hx=>CB x hx b.s1 e211 (⟨0,2,d.n,d.sum⟩:bl) (by assumption) s212 e212 hr12) xP rfl rfl ⟨⟨_,rfl,.inl ⟨rfl,rfl⟩⟩,⟨_,rfl,.inr (.c (.d _))⟩,⟨_,rfl,.inr (.g ⟨.d _,.d _,.d _,.d _,trivial⟩)⟩,trivial⟩ rfl rfl rfl rfl rfl rfl rfl trivial rfl rfl rfl rfl rfl rfl rfl rfl rfl rfl rfl rfl rfl) rfl ?_
   refine bX ?_
   refine bn ?_
   refine then_ok ?_
   have hX:dS b b0 x1 d=(b.ao,(b.due).set (Int.toNat (b0.ay)) (IntKind.i64.wrap (x2 - d.sum)),l211,b.s0,s212,e212):=by
     unfold dS;simp only [List.getD_eq_getElem?_getD,hx2,Option.getD_some];(try simp only [hr1,hr2,hr11,hr12,hx2]);(repeat' split)<;>first|rfl|omega|(exfalso;omega)|(simp_all;done)|(simp_all;omega)
   rw [hX] at hj;clear hX;simp only [Prod.mk.injEq] at hj;obtain ⟨rfl,rfl,rfl,rfl,rfl,rfl⟩:=hj
   exact aD.bZ id (by refine ⟨?_,?_,?_,?_,?_,trivial⟩<;>first|rfl|(simp only [bq];done)|(congr 3;omega)|(congr 4;omega)|(simp only [br];rfl)) (by refine ⟨?_,?_,?_,?_,?_,?_,?_,?_,?_,?_,?_,?_,trivial⟩<;>first|rfl|(simp only [bq];done)|(congr 3;omega)|(congr 4;omega)|(simp only [br];rfl)) rfl
  have hc14':=of_decide_eq_false hc14
  refine ad aa 2 rfl ?_
  refine ag rfl (fun hc15=>?_) (fun hc15=>?_)
  ·
   have hc15':=of_decide_eq_true hc15
   refine af ?_
   obtain ⟨l213,e213,hr13⟩:∃ (l213:List bC) (e213:Int),cw b.ao 0 b0.aK 0 d.sum=(l213,e213):=⟨_,_,rfl⟩
   refine cX [0,1,4,6,8,10] [0,8,9,10,11,12,13,14,15,16,7,5] mixed rfl rfl ?_
   refine bQ (kn:=[]) aa 7 rfl trivial ?_
   refine bT (n':=19) [175,177,181] [13,8] rfl rfl (.inl ⟨(ah.plain rfl),aH.cast (cg (aY [8,13]) (aY [8,18]) (ms:=((dp.set 2 (some (.s 1 0 6 b.ao.length))).set 19 (some (cI 0)))) (ms':=((dp.set 2 (some (.s 1 0 6 l213.length))).set 19 (some (cI e213)))) (fun x hx=>iF x hx b.ao 0 b0.aK 0 d.sum (by first|omega|(simp;done)|(simp;omega)) l213 e213 hr13) nv rfl rfl ⟨⟨_,rfl,.inl ⟨rfl,rfl⟩⟩,⟨_,rfl,.inr (.c (.d _))⟩,⟨_,rfl,.inr (.c (.d _))⟩,⟨_,rfl,.inr (.c (.d _))⟩,trivial⟩ rfl rfl rfl rfl rfl rfl rfl ⟨rfl,trivial⟩ rfl rfl rfl rfl rfl rfl rfl rfl rfl rfl rfl rfl rfl) rfl⟩) rfl ?_
   refine dK [0,1,4,6,8,10] [18,8,0,9,10,11,12,14,15,16,7,5] rfl rfl (by kernel_rfl) ?_
   refine then_ok ?_
   refine aw ?_
   refine ab aa 6 rfl ?_
   obtain ⟨l214,e214,hr14⟩:∃ (l214:List Entry) (e214:Int),dL b.book e213 2 (10+b0.aK) d.sum=(l214,e214):=⟨_,_,rfl⟩
   refine aL 19 [8,18,0,9,10,11,12,14,15,16,7,5] (cg (aY [8]) (aY [8]) (ms:=((dp.set 18 (some (dO b.book))).set 19 (some (cI e213)))) (ms':=((dp.set 18 (some (dO l214))).set 19 (some (cI e214)))) (fun x hx=>iS x hx b.book e213 2 (10+b0.aK) d.sum l214 e214 hr14) mn rfl rfl ⟨⟨_,rfl,.inl ⟨rfl,rfl⟩⟩,⟨_,rfl,.inr (.c (.d _))⟩,⟨_,rfl,.inr (.c (.d _))⟩,⟨_,rfl,.inr (.c (.d _))⟩,trivial⟩ rfl rfl rfl rfl rfl rfl rfl trivial rfl rfl rfl rfl rfl rfl rfl rfl rfl rfl rfl rfl rfl) rfl ?_
   refine bX ?_
   refine bn ?_
   refine then_ok ?_
   have hX:dS b b0 x1 d=(l213,b.due,l214,b.s0,b.s1,e214):=by
     unfold dS;(try simp only [hr1,hr2,hr13,hr14]);(repeat' split)<;>first|rfl|omega|(exfalso;omega)|(simp_all;done)|(simp_all;omega)
   rw [hX] at hj;clear hX;simp only [Prod.mk.injEq] at hj;obtain ⟨rfl,rfl,rfl,rfl,rfl,rfl⟩:=hj
   exact aD.bZ (fun k=>if k=13 then 18 else k) (by refine ⟨?_,?_,?_,?_,?_,trivial⟩<;>first|rfl|(simp only [bq];done)|(congr 3;omega)|(congr 4;omega)|(simp only [br];rfl)) (by refine ⟨?_,?_,?_,?_,?_,?_,?_,?_,?_,?_,?_,?_,trivial⟩<;>first|rfl|(simp only [bq];done)|(congr 3;omega)|(congr 4;omega)|(simp only [br];rfl)) rfl
  have hc15':=of_decide_eq_false hc15
  refine ad aa 2 rfl ?_
  refine ag rfl (fun hc16=>?_) (fun hc16=>?_)
  ·
   have hc16':=of_decide_eq_true hc16
   refine ad aa 2 rfl ?_
   refine aw ?_
   refine ab aa 2 rfl ?_
   obtain ⟨s215,e215,hr15⟩:∃ (s215:bU) (e215:Int),eC b.s0 0 (⟨0,3,d.n,d.sum⟩:bl)=(s215,e215):=⟨_,_,rfl⟩
   refine aL 18 [8,17,0,9,10,11,12,13,14,15,16,7,5] (cg (aY [8]) (aY [8]) (ms:=(((dp.set 5 (some (cI b.s0.bV))).set 6 (some (dd b.s0.kept))).set 19 (some (cI 0)))) (ms':=(((dp.set 5 (some (cI s215.bV))).set 6 (some (dd s215.kept))).set 19 (some (cI e215)))) (fun x hx=>si x hx b.s0 0 (⟨0,3,d.n,d.sum⟩:bl) (by assumption) s215 e215 hr15) xP rfl rfl ⟨⟨_,rfl,.inl ⟨rfl,rfl⟩⟩,⟨_,rfl,.inr (.c (.d _))⟩,⟨_,rfl,.inr (.g ⟨.d _,.d _,.d _,.d _,trivial⟩)⟩,trivial⟩ rfl rfl rfl rfl rfl rfl rfl trivial rfl rfl rfl rfl rfl rfl rfl rfl rfl rfl rfl rfl rfl) rfl ?_
   refine bX ?_
   refine bn ?_
   refine then_ok ?_
   have hX:dS b b0 x1 d=(b.ao,b.due,b.book,s215,b.s1,e215):=by
     unfold dS;(try simp only [hr1,hr2,hr15]);(repeat' split)<;>first|rfl|omega|(exfalso;omega)|(simp_all;done)|(simp_all;omega)
   rw [hX] at hj;clear hX;simp only [Prod.mk.injEq] at hj;obtain ⟨rfl,rfl,rfl,rfl,rfl,rfl⟩:=hj
   exact aD.bZ id (by refine ⟨?_,?_,?_,?_,?_,trivial⟩<;>first|rfl|(simp only [bq];done)|(congr 3;omega)|(congr 4;omega)|(simp only [br];rfl)) (by refine ⟨?_,?_,?_,?_,?_,?_,?_,?_,?_,?_,?_,?_,trivial⟩<;>first|rfl|(simp only [bq];done)|(congr 3;omega)|(congr 4;omega)|(simp only [br];rfl)) rfl
  have hc16':=of_decide_eq_false hc16
  refine ad aa 2 rfl ?_
  refine ag rfl (fun hc17=>?_) (fun hc17=>?_)
  ·
   have hc17':=of_decide_eq_true hc17
   refine af ?_
   obtain ⟨l216,e216,hr16⟩:∃ (l216:List bC) (e216:Int),cw b.ao 0 b0.aK 0 (0 - d.sum)=(l216,e216):=⟨_,_,rfl⟩
   refine cX [0,1,4,6,8,10] [0,8,9,10,11,12,13,14,15,16,7,5] mixed rfl rfl ?_
   refine bQ (kn:=[]) aa 7 rfl trivial ?_
   refine bT (n':=18) [204] [] rfl rfl (.inl ⟨(ah.plain rfl),aH.cast (kr rfl rfl (aE (by first|omega|(simp;done)|(simp;omega)))) rfl⟩) rfl ?_
   refine bT (n':=19) [198,200,205] [13,8] rfl rfl (.inl ⟨(ah.plain rfl),aH.cast (cg (aY [8,13]) (aY [8,18]) (ms:=((dp.set 2 (some (.s 1 0 6 b.ao.length))).set 19 (some (cI 0)))) (ms':=((dp.set 2 (some (.s 1 0 6 l216.length))).set 19 (some (cI e216)))) (fun x hx=>iF x hx b.ao 0 b0.aK 0 (0 - d.sum) (by first|omega|(simp;done)|(simp;omega)) l216 e216 hr16) nv rfl rfl ⟨⟨_,rfl,.inl ⟨rfl,rfl⟩⟩,⟨_,rfl,.inr (.c (.d _))⟩,⟨_,rfl,.inr (.c (.d _))⟩,⟨_,rfl,.inr (.c (.d _))⟩,trivial⟩ rfl rfl rfl rfl rfl rfl rfl ⟨rfl,trivial⟩ rfl rfl rfl rfl rfl rfl rfl rfl rfl rfl rfl rfl rfl) rfl⟩) rfl ?_
   refine dK [0,1,4,6,8,10] [18,8,0,9,10,11,12,14,15,16,7,5] rfl rfl (by kernel_rfl) ?_
   refine then_ok ?_
   refine aw ?_
   refine ab aa 6 rfl ?_
   obtain ⟨l217,e217,hr17⟩:∃ (l217:List Entry) (e217:Int),dL b.book e216 (10+b0.aK) 2 d.sum=(l217,e217):=⟨_,_,rfl⟩
   refine aL 19 [8,18,0,9,10,11,12,14,15,16,7,5] (cg (aY [8]) (aY [8]) (ms:=((dp.set 18 (some (dO b.book))).set 19 (some (cI e216)))) (ms':=((dp.set 18 (some (dO l217))).set 19 (some (cI e217)))) (fun x hx=>iS x hx b.book e216 (10+b0.aK) 2 d.sum l217 e217 hr17) mn rfl rfl ⟨⟨_,rfl,.inl ⟨rfl,rfl⟩⟩,⟨_,rfl,.inr (.c (.d _))⟩,⟨_,rfl,.inr (.c (.d _))⟩,⟨_,rfl,.inr (.c (.d _))⟩,trivial⟩ rfl rfl rfl rfl rfl rfl rfl trivial rfl rfl rfl rfl rfl rfl rfl rfl rfl rfl rfl rfl rfl) rfl ?_
   refine bX ?_
   refine bn ?_
   refine then_ok ?_
   have hX:dS b b0 x1 d=(l216,b.due,l217,b.s0,b.s1,e217):=by
     unfold dS;(try simp only [hr1,hr2,hr16,hr17]);(repeat' split)<;>first|rfl|omega|(exfalso;omega)|(simp_all;done)|(simp_all;omega)
   rw [hX] at hj;clear hX;simp only [Prod.mk.injEq] at hj;obtain ⟨rfl,rfl,rfl,rfl,rfl,rfl⟩:=hj
   exact aD.bZ (fun k=>if k=13 then 18 else k) (by refine ⟨?_,?_,?_,?_,?_,trivial⟩<;>first|rfl|(simp only [bq];done)|(congr 3;omega)|(congr 4;omega)|(simp only [br];rfl)) (by refine ⟨?_,?_,?_,?_,?_,?_,?_,?_,?_,?_,?_,?_,trivial⟩<;>first|rfl|(simp only [bq];done)|(congr 3;omega)|(congr 4;omega)|(simp only [br];rfl)) rfl
  have hc17':=of_decide_eq_false hc17
  refine cW ?_
  refine bn ?_
  refine then_ok ?_
  have hX:dS b b0 x1 d=(b.ao,b.due,b.book,b.s0,b.s1,0):=by
    unfold dS;(try simp only [hr1,hr2]);(repeat' split)<;>first|rfl|omega|(exfalso;omega)|(simp_all;done)|(simp_all;omega)
  rw [hX] at hj;clear hX;simp only [Prod.mk.injEq] at hj;obtain ⟨rfl,rfl,rfl,rfl,rfl,rfl⟩:=hj
  exact aD.bZ id (by refine ⟨?_,?_,?_,?_,?_,trivial⟩<;>first|rfl|(simp only [bq];done)|(congr 3;omega)|(congr 4;omega)|(simp only [br];rfl)) (by refine ⟨?_,?_,?_,?_,?_,?_,?_,?_,?_,?_,?_,?_,trivial⟩<;>first|rfl|(simp only [bq];done)|(congr 3;omega)|(congr 4;omega)|(simp only [br];rfl)) rfl
 refine af ?_
 obtain ⟨l218,e218,hr18⟩:∃ (l218:List al) (e218:Int),iC b.aQ je (⟨b0.ay,d.n,d.move,d.sum⟩:al)=(l218,e218):=⟨_,_,rfl⟩
 refine cX [0,1,4,6,8] [0,8,9,10,11,12,13,14,15,16,7,5] mixed rfl rfl ?_
 refine bQ (kn:=[]) aa 16 rfl trivial ?_
 refine bT (n':=18) [214,229] [16,8] rfl rfl (.inl ⟨(ah.plain rfl),aH.cast (cg (aY [8,16]) (aY [8,17]) (ms:=((dp.set 16 (some (.s 1 0 4 b.aQ.length))).set 19 (some (cI je)))) (ms':=((dp.set 16 (some (.s 1 0 4 l218.length))).set 19 (some (cI e218)))) (fun x hx=>Ec x hx b.aQ je (⟨b0.ay,d.n,d.move,d.sum⟩:al) (by first|omega|(simp;done)|(simp;omega)) l218 e218 hr18) FP rfl rfl ⟨⟨_,rfl,.inl ⟨rfl,rfl⟩⟩,⟨_,rfl,.inr (.g ⟨.d _,.d _,.d _,.d _,trivial⟩)⟩,trivial⟩ rfl rfl rfl rfl rfl rfl rfl ⟨rfl,trivial⟩ rfl rfl rfl rfl rfl rfl rfl rfl rfl rfl rfl rfl rfl) rfl⟩) rfl ?_
 refine dK [0,1,4,6,8] [17,8,0,9,10,11,12,13,14,15,7,5] rfl rfl (by kernel_rfl) ?_
 refine then_ok ?_
 refine af ?_
 refine bb [0,1,4,6,8] [17,8,0,9,10,11,12,13,14,15,7,5] mixed rfl rfl ?_
 refine aA (kn:=[]) aa 10 rfl trivial ?_
 refine aS (n':=18) [235,239] [15] rfl rfl (.inl ⟨(ah.plain rfl),aH.cast (bo (i:=Int.toNat (d.n)) rfl rfl rfl Try.underlying31 lZ (by first|omega|(simp;done)|(simp;omega)) (by first|omega|(simp;done)|(simp;omega))) rfl⟩) rfl ?_
 refine bx [17,8,0,9,10,11,12,13,14,15,7,5] rfl rfl rfl rfl (by kernel_rfl) ?_
 refine gb [17,8,0,9,10,11,12,13,14,15,7,5] (dG (ds:=[(dI b0.aK),(dI b0.ay),(dI b0.sum),(dI b0.captured),(dI b0.bw),(dI b0.bm),(dI b0.cP),(dB b0.shut)]) rfl rfl rfl rfl rfl lZ rfl (Nat.le_of_ble_eq_true rfl) (bf hx1) rfl (eG (x':=b0) rfl)) rfl ?_
 refine ae ?_
 rcases (show e218=0\/¬e218=0 from by omega) with hs18|hs18
 ·
  refine fr (k:=8) (q:=4) (c':=(.s 15 0 8 (((b.au).set (Int.toNat (d.n)) b0).length))) rfl rfl (by first|rfl|(simp;done)|(congr 1;omega)) rfl ?_
  refine az aa 2 rfl ?_
  refine aL 22 [0,18,19,20,21,7,5] (cA (aY [0,8,9,10,11,12,13,14,15,17]) (aY [0,18,19,20,21]) (eX (x 17) (x 19) b (⟨b.time,b.down,jcards,jdue,(b.au).set (Int.toNat (d.n)) b0,js0,js1,b.n0,b.n1,b.w0,b.w1,b.bE,l218,jbook⟩:Bk) e218 (by first|assumption|omega)) fz rfl rfl ⟨⟨_,rfl,.inl ⟨rfl,rfl⟩⟩,⟨_,rfl,.inl ⟨rfl,rfl⟩⟩,trivial⟩ ⟨rfl,rfl,rfl,rfl,rfl,rfl,rfl,rfl,rfl,rfl,trivial⟩ rfl rfl rfl rfl rfl rfl trivial ⟨⟨trivial,trivial,trivial,trivial,trivial,trivial,trivial,trivial,trivial,trivial,trivial,trivial,trivial,trivial,trivial,trivial,trivial,trivial,trivial,trivial,trivial⟩,(fun _ _ _ _=>trivial),(fun _ _ _ _=>trivial),(fun _ _ _ _=>trivial),(fun _ _ _ _=>trivial),trivial⟩ rfl rfl rfl rfl) rfl ?_
  refine ab aa 2 rfl ?_
  refine ae ?_
  refine aq ?_
  have hX:dM b d=((⟨b.time,b.down,jcards,jdue,(b.au).set (Int.toNat (d.n)) b0,js0,js1,b.n0,b.n1,b.w0,b.w1,b.bE,l218,jbook⟩:Bk),(⟨e218,0⟩:Answer)):=by
    unfold dM;simp only [hdn,Bool.false_eq_true,if_false];rw [if_neg (by omega),hx1];dsimp only;simp only [hr0,hj0];unfold pf dt;simp only [hr18];(repeat' split)<;>first|rfl|omega|(exfalso;omega)|(simp_all;done)|(simp_all;omega)
  rw [hX] at hr;clear hX
  simp only [Prod.mk.injEq] at hr;obtain ⟨rfl,rfl⟩:=hr
  refine aj aa [0,18,19,20,21,5] 5 rfl rfl rfl rfl rfl rfl ?_ ?_
  all_goals first|rfl|(simp [ar,aR,aX];done)|(simp [ar,aR,aX];omega)
 refine fr (k:=8) (q:=4) (c':=(.s 15 0 8 (((b.au).set (Int.toNat (d.n)) b0).length))) rfl rfl (by first|rfl|(simp;done)|(congr 1;omega)) rfl ?_
 refine az aa 2 rfl ?_
 refine aL 22 [0,18,19,20,21,7,5] (cA (aY [0,8,9,10,11,12,13,14,15,17]) (aY [0,18,19,20,21]) (fR (x 17) (x 19) b (⟨b.time,b.down,jcards,jdue,(b.au).set (Int.toNat (d.n)) b0,js0,js1,b.n0,b.n1,b.w0,b.w1,b.bE,l218,jbook⟩:Bk) e218 (by first|assumption|omega)) fz rfl rfl ⟨⟨_,rfl,.inl ⟨rfl,rfl⟩⟩,⟨_,rfl,.inl ⟨rfl,rfl⟩⟩,trivial⟩ ⟨rfl,rfl,rfl,rfl,rfl,rfl,rfl,rfl,rfl,rfl,trivial⟩ rfl rfl rfl rfl rfl rfl trivial ⟨⟨trivial,trivial,trivial,trivial,trivial,trivial,trivial,trivial,trivial,trivial,trivial,trivial,trivial,trivial,trivial,trivial,trivial,trivial,trivial,trivial,trivial⟩,(fun _ _ _ _=>trivial),(fun _ _ _ _=>trivial),(fun _ _ _ _=>trivial),(fun _ _ _ _=>trivial),trivial⟩ rfl rfl rfl rfl) rfl ?_
 refine ab aa 2 rfl ?_
 refine ae ?_
 refine aq ?_
 have hX:dM b d=(b,(⟨e218,0⟩:Answer)):=by
   unfold dM;simp only [hdn,Bool.false_eq_true,if_false];rw [if_neg (by omega),hx1];dsimp only;simp only [hr0,hj0];unfold pf dt;simp only [hr18];(repeat' split)<;>first|rfl|omega|(exfalso;omega)|(simp_all;done)|(simp_all;omega)
 rw [hX] at hr;clear hX
 simp only [Prod.mk.injEq] at hr;obtain ⟨rfl,rfl⟩:=hr
 refine aj aa [0,18,19,20,21,5] 5 rfl rfl rfl rfl rfl rfl ?_ ?_
 all_goals first|rfl|(simp [ar,aR,aX];done)|(simp [ar,aR,aX];omega)
theorem zF (x:Nat->Value) (hx:∀ i,(x i).oneCell'=true) (b:Bk) (d:aZ) (ok:cj b) (hdn:b.down=true) (b2:Bk) (a2:Answer) (hr:dM b d=(b2,a2)):cz Try.prog 64 [(.c (.p 0 0 0 0)),(.c (.q (cS d) 0))] [(0,(.box 98 (aR b 1 2 3 4 (.d (.v (x 17))) (.d (.v (x 19)))))),(1,(dJ b.ao)),(2,(dx b.due)),(3,(dR b.au)),(4,(cF b.aQ))] [0] (.v (.g [cI a2.err,cI a2.ba])) [(0,(.box 98 (aR b2 1 2 3 4 (.d (.v (x 17))) (.d (.v (x 19)))))),(1,(dJ b2.ao)),(2,(dx b2.due)),(3,(dR b2.au)),(4,(cF b2.aQ))]:=by
 refine cz.mk 246 [(0,(aC (.p 0 0 0 0))),(1,(aC (.q (cS d) 0)))] 5 Try.func64 rfl rfl rfl rfl rfl rfl rfl rfl rfl ?_
 intro W0 F0 T0 pg
 obtain ⟨okt,okc,okd,oka,oky,okw0,okw1,okp,okv,okk0,okk1,okg,okl0,okl1,okp0,okp1,okn0,okn1,okq⟩:=id ok
 refine ad aa 1 rfl ?_
 refine af ?_
 refine ad aa 5 rfl ?_
 refine ag rfl (fun _=>?_) (fun hno=>absurd (hdn.symm.trans hno) (by decide))
 refine ad aa 2 rfl ?_
 refine aq ?_
 refine an ?_
 have hX:dM b d=(b,(⟨12,0⟩:Answer)):=by
   unfold dM;rw [if_pos hdn]
 rw [hX] at hr;clear hX
 simp only [Prod.mk.injEq] at hr;obtain ⟨rfl,rfl⟩:=hr
 refine aj aa [0,1,2,3,4,5] 5 rfl rfl rfl rfl rfl rfl ?_ ?_
 all_goals first|rfl|(simp [ar,aR,aX];done)|(simp [ar,aR,aX];omega)
theorem Bp (x:Nat->Value) (hx:∀ i,(x i).oneCell'=true) (b:Bk) (d:aZ) (ok:cj b) (b2:Bk) (a2:Answer) (hr:dM b d=(b2,a2)):cz Try.prog 64 [(.c (.p 0 0 0 0)),(.c (.q (cS d) 0))] [(0,(.box 98 (aR b 1 2 3 4 (.d (.v (x 17))) (.d (.v (x 19)))))),(1,(dJ b.ao)),(2,(dx b.due)),(3,(dR b.au)),(4,(cF b.aQ))] [0] (.v (.g [cI a2.err,cI a2.ba])) [(0,(.box 98 (aR b2 1 2 3 4 (.d (.v (x 17))) (.d (.v (x 19)))))),(1,(dJ b2.ao)),(2,(dx b2.due)),(3,(dR b2.au)),(4,(cF b2.aQ))]:=by
  cases hdn:b.down
  ·exact zE x hx b d ok hdn b2 a2 hr
  ·exact zF x hx b d ok hdn b2 a2 hr
theorem fY {α:Type} {l:List α} {n:Nat} {x y:α} (h:y∈l.set n x):y∈l\/y=x:=List.mem_or_eq_of_mem_set h
theorem jn {l:List bC} {e k x y:Int} (h:∀ c∈l,cv c=0):∀ c∈(cw l e k x y).1,cv c=0:=by
 unfold cw
 split
 ·exact h
 ·rename_i c hc
  split
  ·rename_i h0
   intro z hz
   rcases fY hz with hz|rfl
   ·exact h z hz
   ·have he:(dP c x y).2=0:=by unfold dv at h0;split at h0<;>omega
    rcases pW (show dP c x y=((dP c x y).1,(dP c x y).2) from rfl) with ⟨h1,_⟩|h1
    ·exact absurd he h1
    ·exact h1.2.2.2.2.2.2.2
  ·exact h
theorem uI {time:Int} {n m:Nat}:∀ (l:List bz) (i:Nat) (ao:List bC) (au:List bz) (e:Int),(∀ a∈l,bG a=0/\0<=a.aK/\a.aK < n/\0<=a.ay/\a.ay < m)->
  (∀ a∈au,bG a=0/\0<=a.aK/\a.aK < n/\0<=a.ay/\a.ay < m)->(∀ c∈ao,cv c=0)->
  (∀ c∈(fm time l i ao au e).1,cv c=0)/\(fm time l i ao au e).1.length=ao.length/\(fm time l i ao au e).2.1.length=au.length/\
  (∀ a∈(fm time l i ao au e).2.1,bG a=0/\0<=a.aK/\a.aK < n/\0<=a.ay/\a.ay < m)
 |[],_,_,_,_,_,h2,h3=>⟨h3,rfl,rfl,h2⟩
 |a::l,i,ao,au,e,h1,h2,h3=>by
  have ha:=h1 a List.mem_cons_self
  obtain ⟨r1,r2,r3,r4⟩:=uI l (i+1) (cw ao e a.aK (bJ (dT a time) - bJ a) 0).1 (au.set i (dT a time)) (cw ao e a.aK (bJ (dT a time) - bJ a) 0).2
   (fun x hx=>h1 x (List.mem_cons_of_mem _ hx)) (fun x hx=>by
    rcases fY hx with hx|rfl
    ·exact h2 x hx
    ·exact ⟨wK ha.1,ha.2⟩) (jn h3)
  refine ⟨r1,r2.trans (eW _ _ _ _ _),r3.trans (List.length_set ..),r4⟩
theorem cj.late {b:Bk} (h:cj b):cj (gn b):=by
 unfold gn
 split
 ·obtain ⟨r1,r2,r3,r4⟩:=uI (time:=b.time) (n:=b.ao.length) (m:=b.due.length) b.au 0 b.ao b.au 0 h.perm h.perm h.right
  exact ⟨h.time,by rw [r2];exact h.ao,h.due,by rw [r3];exact h.au,h.aQ,h.w0,h.w1,by dsimp only;rw [r2];exact r4,by dsimp only;rw [r2];exact h.jh,by dsimp only;rw [r3];exact h.k0,by dsimp only;rw [r3];exact h.k1,r1,h.l0,h.l1,by dsimp only;rw [r3];exact h.p0,by dsimp only;rw [r3];exact h.p1,h.n0,h.n1,h.calm⟩
 ·exact h
theorem cj.dt {b c:Bk} {e:Int} (h:cj b) (hc:e=0->cj c):cj (dt b c e).1:=by
 unfold Dev.dt;split
 ·exact hc (by assumption)
 ·exact h
theorem fE {e x:Int} (h:dv e x=0):e=0/\x=0:=by unfold dv at h;split at h<;>omega
theorem jv {l:List Entry} {e s d n:Int} (h:(dL l e s d n).2=0):e=0/\(iD l s d n).2=0/\(dL l e s d n).1=(iD l s d n).1:=by
 unfold dL at h ⊢
 split at h
 ·rename_i h1;rw [if_pos h1];have:=fE h1;exact ⟨this.1,this.2,rfl⟩
 ·rename_i h1;exact absurd h h1
theorem cj.zv {b:Bk} (h:cj b) {cs:List bC} {bk:List Entry} (h1:∀ c∈cs,cv c=0) (h2:cs.length=b.ao.length):cj {b with ao:=cs,book:=bk}:=
 ⟨h.time,by rw [h2];exact h.ao,h.due,h.au,h.aQ,h.w0,h.w1,by dsimp only;rw [h2];exact h.perm,by dsimp only;rw [h2];exact h.jh,h.k0,h.k1,h1,h.l0,h.l1,h.p0,h.p1,h.n0,h.n1,h.calm⟩
theorem cj.load {b:Bk} (h:cj b) (d:aZ):cj (fx b d).1:=by
 unfold fx
 split
 ·exact h
 split
 ·exact h
 ·exact h.dt fun _=>h.zv (jn h.right) (eW _ _ _ _ _)
theorem cj.Cv {b:Bk} (h:cj b) {due:List Int} {bk:List Entry} (h2:due.length=b.due.length):cj {b with due:=due,book:=bk}:=
 ⟨h.time,h.ao,by rw [h2];exact h.due,h.au,h.aQ,h.w0,h.w1,by dsimp only;rw [h2];exact h.perm,by dsimp only;rw [h2];exact h.jh,h.k0,h.k1,h.right,h.l0,h.l1,h.p0,h.p1,h.n0,h.n1,h.calm⟩
theorem cj.uA {b:Bk} (h:cj b) (d:aZ):cj (gL b d).1:=by
 unfold gL
 split
 ·exact h
 split
 ·exact h
 ·exact h.dt fun _=>h.Cv (List.length_set ..)
theorem cj.cH {b:Bk} (h:cj b) (d:aZ):cj (fe b d).1:=by
 unfold fe
 split
 ·exact h
 ·have h1:cj {b with time:=b.time+d.sum}:=by have:=h.time;exact h.tick (by omega) (by omega)
  dsimp only
  split
  ·exact h1
  ·exact h1.late
theorem sP {l:List cc} {ks:List bl} {n:Int} {p:cc} (h:p∈lH l ks n):p∈l\/(∃ t∈ks,p=⟨t,-1⟩)\/p=⟨⟨0,0,0,0⟩,n⟩:=by
 unfold lH at h
 simp only [List.mem_append,List.mem_map,List.mem_singleton] at h
 rcases h with (h|⟨t,ht,rfl⟩)|h
 ·exact .inl h
 ·exact .inr (.inl ⟨t,ht,rfl⟩)
 ·exact .inr (.inr h)
structure xc (b:Bk) (n:Nat) (w:List cc):Prop where
 len:w.length<=60
 own:∀ p∈w,p.seen < 0->fy p.ct.number/\0<=p.ct.ba/\p.ct.ba < n
theorem cj.ways {b:Bk} (h:cj b) {v0 v1:List cc} (h0:xc b b.au.length v0) (h1:xc b b.au.length v1):cj {b with w0:=v0,w1:=v1}:=
 ⟨h.time,h.ao,h.due,h.au,h.aQ,h0.len,h1.len,h.perm,h.jh,h.k0,h.k1,h.right,h.l0,h.l1,h0.own,h1.own,h.n0,h.n1,h.calm⟩
theorem uj {b:Bk} {w:List cc} {ks:List bl} {n:Int} (hn:0<=n) (h:xc b b.au.length w) (hk:∀ t∈ks,fy t.number/\0<=t.ba/\t.ba < b.au.length):xc b b.au.length (jo w ks n).1:=by
 unfold jo
 split
 ·exact h
 ·refine ⟨by dsimp only;omega,fun p hp hs=>?_⟩
  rcases sP hp with hp|⟨t,ht,rfl⟩|rfl
  ·exact h.own p hp hs
  ·exact hk t ht
  ·simp at hs;omega
theorem cj.send {b:Bk} (h:cj b) (d:aZ):cj {b with w0:=(eJ b.s0 b.s1 b.n0 b.n1 b.w0 b.w1 d).1,w1:=(eJ b.s0 b.s1 b.n0 b.n1 b.w0 b.w1 d).2.1}:=by
 have h0:xc b b.au.length b.w0:=⟨h.w0,h.p0⟩
 have h1:xc b b.au.length b.w1:=⟨h.w1,h.p1⟩
 unfold eJ
 split
 ·exact h.ways h0 (uj h.n0 h1 h.k0)
 split
 ·exact h.ways (uj h.n1 h0 h.k1) h1
 ·exact h.ways h0 h1
theorem uk {s:bU} {e:Int} {t:bl} {n:Nat} (h:∀ t∈s.kept,fy t.number/\0<=t.ba/\t.ba < n) (hl:s.kept.length<=40) (ht:0<=t.ba/\t.ba < n):
  (∀ u∈(eC s e t).1.kept,fy u.number/\0<=u.ba/\u.ba < n)/\(eC s e t).1.kept.length<=40:=by
 unfold eC
 split
 ·rename_i h0
  have he:=(fE h0).2
  unfold gl at he
  split at he
  ·rename_i h1;exact absurd he h1
  split at he
  ·rename_i h1;exact absurd he h1
  ·rename_i h1 h2
   have hp:(gl s t).1=lf s t:=by unfold gl;rw [if_neg h1,if_neg h2]
   have hw:(cE (lf s t)).err=0:=by omega
   have hr:=uu hw
   dsimp only
   rw [hp]
   refine ⟨fun x hx=>?_,hr.1⟩
   rcases List.mem_append.1 hx with hx|hx
   ·exact h x hx
   ·obtain rfl:=List.mem_singleton.1 hx
    exact ⟨by have:=hr.2.1;have:=hr.2.2.1;constructor<;>simp only [lf,List.length_append] at *<;>omega,ht⟩
 ·exact ⟨h,hl⟩
theorem yM {l:List al} {e:Int} {r:al} (h:l.length<=100):(iC l e r).1.length<=100:=by
 unfold iC
 split
 ·exact h
 ·rw [List.length_append,List.length_singleton];omega
theorem xx {l:List al} {e:Int} {r:al} (h:(iC l e r).2=0):e=0/\l.length≠100/\(iC l e r).1=l++[r]:=by
 unfold iC at h ⊢
 split at h
 ·have:=(fE h).2;omega
 ·rename_i h1;rw [if_neg h1];exact ⟨h,h1,rfl⟩
structure nR (n:Nat) (s:bU):Prop where
 own:∀ t∈s.kept,fy t.number/\0<=t.ba/\t.ba < n
 len:s.kept.length<=40
theorem cj.sY {b:Bk} (h:cj b):nR b.au.length b.s0:=⟨h.k0,h.l0⟩
theorem cj.sX {b:Bk} (h:cj b):nR b.au.length b.s1:=⟨h.k1,h.l1⟩
theorem nR.send {n:Nat} {s:bU} {e:Int} {t:bl} (h:nR n s) (ht:0<=t.ba/\t.ba < n):nR n (eC s e t).1:=⟨(uk h.own h.len ht).1,(uk h.own h.len ht).2⟩
theorem Bg {b:Bk} (h:cj b) (a cx:bz) (d:aZ) (hn:0<=d.n/\d.n < b.au.length):
  (∀ c∈(dS b a cx d).1,cv c=0)/\(dS b a cx d).1.length=b.ao.length/\(dS b a cx d).2.1.length=b.due.length/\
  nR b.au.length (dS b a cx d).2.2.2.1/\nR b.au.length (dS b a cx d).2.2.2.2.1:=by
 unfold dS
 have hc:∀ e k x y,(∀ c∈(cw b.ao e k x y).1,cv c=0)/\(cw b.ao e k x y).1.length=b.ao.length:=fun e k x y=>⟨jn h.right,eW _ _ _ _ _⟩
 split
 ·exact ⟨(hc ..).1,(hc ..).2,rfl,h.sY,h.sX⟩
 split
 ·exact ⟨(hc ..).1,(hc ..).2,rfl,h.sY.send hn,h.sX⟩
 split
 ·exact ⟨h.right,rfl,List.length_set ..,h.sY,h.sX.send hn⟩
 split
 ·exact ⟨(hc ..).1,(hc ..).2,rfl,h.sY,h.sX⟩
 split
 ·exact ⟨h.right,rfl,rfl,h.sY.send hn,h.sX⟩
 split
 ·exact ⟨(hc ..).1,(hc ..).2,rfl,h.sY,h.sX⟩
 ·exact ⟨h.right,rfl,rfl,h.sY,h.sX⟩
theorem cj.lp {b:Bk} (h:cj b) (d:aZ):cj (dM b d).1:=by
 unfold dM
 split
 ·exact h
 split
 ·exact h
 rename_i hd hn
 have hn:0<=d.n/\d.n < b.au.length:=by omega
 split
 ·exact h
 rename_i cx ho
 split
 ·exact h
 rename_i hm
 split
 ·exact h
 have hm:ck cx d.move d.sum=((ck cx d.move d.sum).1,0):=Prod.ext rfl (by dsimp only;omega)
 obtain ⟨m1,m2,m3,m4,_⟩:=mm hm
 obtain ⟨r1,r2,r3,r4,r5⟩:=Bg h (ck cx d.move d.sum).1 cx d hn
 have hp:=h.perm cx (List.mem_of_getElem? ho)
 unfold pf
 refine h.dt fun _=>⟨h.time,by rw [r2];exact h.ao,by rw [r3];exact h.due,by rw [List.length_set];exact h.au,yM h.aQ,h.w0,h.w1,fun a ha=>?_,by dsimp only;rw [r2,r3];exact h.jh,by dsimp only;rw [List.length_set];exact r4.own,by dsimp only;rw [List.length_set];exact r5.own,r1,r4.len,r5.len,by dsimp only;rw [List.length_set];exact h.p0,by dsimp only;rw [List.length_set];exact h.p1,h.n0,h.n1,h.calm⟩
 dsimp only
 rw [r2,r3]
 rcases fY ha with ha|rfl
 ·exact h.perm a ha
 ·exact ⟨m2,by rw [m3,m4];exact hp.2⟩
theorem ox {aK ay n time:Int} (h:(cZ aK ay n time).2=0):bG (cZ aK ay n time).1=0/\(cZ aK ay n time).1=⟨aK,ay,n,0,0,0,time+100,false⟩/\¬(n < 1\/n > 1000000\/time < 0\/time > 1000000\/aK < 0\/aK > 7\/ay < 0\/ay > 7):=by
 unfold cZ at h ⊢
 split at h
 ·cases h
 ·rename_i h1;rw [if_neg h1];exact ⟨qO (by dsimp only;omega),rfl,h1⟩
theorem Az {s:cr} {a:bS} (h:(bW s a).2=0):(bW s a).1.aU=s.aU++[a]:=by
 unfold bW at h ⊢
 split at h
 ·rename_i h1;exact absurd h h1
 split at h
 ·cases h
 split at h
 ·cases h
 split at h
 ·cases h
 ·rename_i h1 h2 h3 h4;rw [if_neg h1,if_neg h2,if_neg h3,if_neg h4]
theorem rn {e:Int} (h:fL e=0):e=0:=by unfold fL at h;split at h<;>omega
theorem cj.asks {b:Bk} (h:cj b) (d:aZ):cj (du b d).1:=by
 unfold du
 split
 ·exact h
 rename_i hn
 have hlen:∀ a∈b.bE.aU++[(⟨d.n,d.ay,d.sum,b.time⟩:bS)],0<=a.aK/\a.aK < b.ao.length/\0<=a.ay/\a.ay < b.due.length:=fun a ha=>by
  rcases List.mem_append.1 ha with ha|ha
  ·exact h.jh a ha
  ·obtain rfl:=List.mem_singleton.1 ha;dsimp only;omega
 split
 ·split
  ·exact h
  split
  ·exact h
  rename_i h1 h2
  have he:=rn (show fL (bW b.bE ⟨d.n,d.ay,d.sum,b.time⟩).2=0 by omega)
  have hg:=Az he
  exact ⟨h.time,h.ao,h.due,by dsimp only;omega,h.aQ,h.w0,h.w1,h.perm,by dsimp only;rw [hg];exact hlen,h.k0,h.k1,h.right,h.l0,h.l1,h.p0,h.p1,h.n0,h.n1,fun hf=>by dsimp only at hf;simp_all⟩
 split
 ·exact h
 split
 ·exact h
 split
 ·exact h
 rename_i h1 h2 h3 c hc
 split
 ·exact h
 rename_i h4
 obtain ⟨w1,w2,w3⟩:=ox (show (cZ d.n d.ay d.sum b.time).2=0 by omega)
 have hcr:cv (dQ c d.sum b.time).1=0:=by
  rcases qv (show dQ c d.sum b.time=((dQ c d.sum b.time).1,(dQ c d.sum b.time).2) from rfl) with ⟨h5,_⟩|⟨h5,h6,h7,h8,h9,h10,h11,l,h12,h13⟩
  ·exact absurd h5 (by omega)
  ·rw [h13];have hr:=eU h6;exact oX (by dsimp only;omega) hr.2.2.2.2.1 (zP h12)
 have hq:=h.calm (by cases hd:b.down with|true=>exact absurd hd (by assumption)|false=>rfl)
 have hl:b.au.length+1<=30:=by have:=h.au;rw [hq] at this;simp only [List.length_nil] at this;omega
 have hk:∀ {n:Int},n < (b.au.length:Int)->n < ((b.au++[(cZ d.n d.ay d.sum b.time).1]).length:Int):=fun hn=>by rw [List.length_append,List.length_singleton];omega
 refine ⟨h.time,by rw [List.length_set];exact h.ao,h.due,by dsimp only;rw [hq,List.length_append,List.length_singleton];exact hl,h.aQ,h.w0,h.w1,fun a ha=>?_,by dsimp only;rw [List.length_set];exact h.jh,
  fun t ht=>⟨(h.k0 t ht).1,(h.k0 t ht).2.1,hk (h.k0 t ht).2.2⟩,fun t ht=>⟨(h.k1 t ht).1,(h.k1 t ht).2.1,hk (h.k1 t ht).2.2⟩,fun x hx=>?_,h.l0,h.l1,
  fun p hp hs=>⟨(h.p0 p hp hs).1,(h.p0 p hp hs).2.1,hk (h.p0 p hp hs).2.2⟩,fun p hp hs=>⟨(h.p1 p hp hs).1,(h.p1 p hp hs).2.1,hk (h.p1 p hp hs).2.2⟩,h.n0,h.n1,h.calm⟩
 ·dsimp only at ha ⊢
  rw [List.length_set]
  rcases List.mem_append.1 ha with ha|ha
  ·exact h.perm a ha
  ·obtain rfl:=List.mem_singleton.1 ha
   exact ⟨w1,by rw [w2];dsimp only;omega⟩
 ·rcases fY hx with hx|rfl
  ·exact h.right x hx
  ·exact hcr
theorem sW {α:Type} {p:α->Bool} {l:List α} {x:α} (h:x∈dE p l):x∈l:=(List.mem_filter.1 h).1
theorem nR.back {n:Nat} {s:bU} (h:nR n s) {seen:Int} (hb:(dX s seen).2=0):nR n (dX s seen).1:=by
 rcases pk (show dX s seen=((dX s seen).1,(dX s seen).2) from rfl) with ⟨h1,_⟩|⟨_,_,_,_,h2⟩
 ·exact absurd hb h1
 ·rw [h2];exact ⟨fun t ht=>h.own t (sW ht),Nat.le_trans (List.length_filter_le ..) h.len⟩
theorem tZ {au:List bz} {due:List Int} {ao:List bC} {book:List Entry} {e:Int} {t:bl} (h:∀ c∈ao,cv c=0):
  (eB au due ao book e t).1.length=due.length/\(∀ c∈(eB au due ao book e t).2.1,cv c=0)/\(eB au due ao book e t).2.1.length=ao.length:=by
 unfold eB
 split
 ·exact ⟨rfl,h,rfl⟩
 split
 ·exact ⟨List.length_set ..,h,rfl⟩
 split
 ·exact ⟨rfl,jn h,eW _ _ _ _ _⟩
 split
 ·exact ⟨List.length_set ..,h,rfl⟩
 ·exact ⟨rfl,h,rfl⟩
theorem mR {n:Int} {t:bl} (h:0<=n):0<=(gT n t).1:=by unfold gT;split<;>(dsimp only;omega)
theorem ve {α:Type} {l:List α} {n:Nat} {x:α} (h:x∈l.drop n):x∈l:=List.mem_of_mem_drop h
theorem cj.bu {b:Bk} (h:cj b) {cs:List bC} {due:List Int} {bk:List Entry} (h1:∀ c∈cs,cv c=0) (h2:cs.length=b.ao.length) (h3:due.length=b.due.length):cj {b with ao:=cs,due:=due,book:=bk}:=
 ⟨h.time,by rw [h2];exact h.ao,by rw [h3];exact h.due,h.au,h.aQ,h.w0,h.w1,by dsimp only;rw [h2,h3];exact h.perm,by dsimp only;rw [h2,h3];exact h.jh,h.k0,h.k1,h1,h.l0,h.l1,h.p0,h.p1,h.n0,h.n1,h.calm⟩
theorem cj.xg {b:Bk} (h:cj b):cj {b with w0:=b.w0.drop 1}:=
 ⟨h.time,h.ao,h.due,h.au,h.aQ,by dsimp only;rw [List.length_drop];have:=h.w0;omega,h.w1,h.perm,h.jh,h.k0,h.k1,h.right,h.l0,h.l1,fun p hp=>h.p0 p (ve hp),h.p1,h.n0,h.n1,h.calm⟩
theorem cj.xf {b:Bk} (h:cj b):cj {b with w1:=b.w1.drop 1}:=
 ⟨h.time,h.ao,h.due,h.au,h.aQ,h.w0,by dsimp only;rw [List.length_drop];have:=h.w1;omega,h.perm,h.jh,h.k0,h.k1,h.right,h.l0,h.l1,h.p0,fun p hp=>h.p1 p (ve hp),h.n0,h.n1,h.calm⟩
theorem cj.Ex {b:Bk} (h:cj b) {s:bU} (hs:nR b.au.length s):cj {b with s0:=s}:=
 ⟨h.time,h.ao,h.due,h.au,h.aQ,h.w0,h.w1,h.perm,h.jh,hs.own,h.k1,h.right,hs.len,h.l1,h.p0,h.p1,h.n0,h.n1,h.calm⟩
theorem cj.Ew {b:Bk} (h:cj b) {s:bU} (hs:nR b.au.length s):cj {b with s1:=s}:=
 ⟨h.time,h.ao,h.due,h.au,h.aQ,h.w0,h.w1,h.perm,h.jh,h.k0,hs.own,h.right,h.l0,hs.len,h.p0,h.p1,h.n0,h.n1,h.calm⟩
theorem cj.BI {b:Bk} (h:cj b) {n:Int} (hn:0<=n):cj {b with n0:=n}:=
 ⟨h.time,h.ao,h.due,h.au,h.aQ,h.w0,h.w1,h.perm,h.jh,h.k0,h.k1,h.right,h.l0,h.l1,h.p0,h.p1,hn,h.n1,h.calm⟩
theorem cj.BH {b:Bk} (h:cj b) {n:Int} (hn:0<=n):cj {b with n1:=n}:=
 ⟨h.time,h.ao,h.due,h.au,h.aQ,h.w0,h.w1,h.perm,h.jh,h.k0,h.k1,h.right,h.l0,h.l1,h.p0,h.p1,h.n0,hn,h.calm⟩
theorem cj.Bu {b:Bk} (h:cj b) (d:aZ):cj (fN b d).1:=by
 unfold fN
 split
 ·exact h
 split
 ·exact h.xg
 split
 ·split
  ·rename_i hb;exact h.xg.Ex (h.sY.back hb)
  ·exact h
 split
 ·obtain ⟨r1,r2,r3⟩:=tZ (au:=b.au) (due:=b.due) (book:=b.book) (e:=0) (t:=(by assumption:cc).ct) h.right
  exact h.dt fun _=>(h.xg.BI (mR h.n0)).bu r2 r3 r1
 ·exact h.xg.BI (mR h.n0)
theorem cj.Bt {b:Bk} (h:cj b) (d:aZ):cj (fM b d).1:=by
 unfold fM
 split
 ·exact h
 split
 ·exact h.xf
 split
 ·split
  ·rename_i hb;exact h.xf.Ew (h.sX.back hb)
  ·exact h
 split
 ·obtain ⟨r1,r2,r3⟩:=tZ (au:=b.au) (due:=b.due) (book:=b.book) (e:=0) (t:=(by assumption:cc).ct) h.right
  exact h.dt fun _=>(h.xf.BH (mR h.n1)).bu r2 r3 r1
 ·exact h.xf.BH (mR h.n1)
theorem cj.lq {b:Bk} (h:cj b) (d:aZ):cj (cq b d).1:=by
 unfold cq
 split
 ·exact h.Bu d
 split
 ·exact h.Bt d
 ·exact h
theorem oF {c:bC} {n:Int} (h:(eu c n).2=0):cv (eu c n).1=0/\(eu c n).1=⟨c.bu,c.held+n,c.ca,c.cL⟩/\cv c=0/\1<=n/\n<=1000000:=by
 unfold eu at h ⊢
 split at h
 ·rename_i h1;exact absurd h h1
 split at h
 ·cases h
 ·rename_i h1 h2
  rw [if_neg h1,if_neg h2]
  have hw:cv c=0:=by omega
  have hr:=eU hw
  exact ⟨oX (by dsimp only;omega) hr.2.2.2.2.1 hr.2.2.2.2.2,rfl,hw,by omega,by omega⟩
theorem yn {n m:Nat}:∀ (l:List bS) (cs:List bC) (xs:List bz),(∀ a∈l,0<=a.aK/\a.aK < n/\0<=a.ay/\a.ay < m)->cs.length=n->
  (∀ a∈xs,bG a=0/\0<=a.aK/\a.aK < n/\0<=a.ay/\a.ay < m)->(∀ c∈cs,cv c=0)->
  (∀ c∈(fA l cs xs).1,cv c=0)/\(fA l cs xs).1.length=n/\(∀ a∈(fA l cs xs).2.1,bG a=0/\0<=a.aK/\a.aK < n/\0<=a.ay/\a.ay < m)/\xs.length<=(fA l cs xs).2.1.length/\(fA l cs xs).2.1.length<=xs.length+l.length
 |[],cs,xs,_,h2,h3,h4=>⟨h4,h2,h3,Nat.le_refl _,Nat.le_refl _⟩
 |x::l,cs,xs,h1,h2,h3,h4=>by
  unfold fA
  split
  ·exact ⟨h4,h2,h3,Nat.le_refl _,by dsimp only;omega⟩
  rename_i e1
  split
  ·exact ⟨h4,h2,h3,Nat.le_refl _,by dsimp only;omega⟩
  rename_i c hc
  split
  ·exact ⟨h4,h2,h3,Nat.le_refl _,by dsimp only;omega⟩
  rename_i e2
  have hx:=h1 x List.mem_cons_self
  obtain ⟨w1,w2,w3⟩:=ox (show (cZ x.aK x.ay x.sum x.time).2=0 by omega)
  obtain ⟨f1,_⟩:=oF (show (eu c x.sum).2=0 by omega)
  obtain ⟨r1,r2,r3,r4,r5⟩:=yn l (cs.set x.aK.toNat (eu c x.sum).1) (xs++[(cZ x.aK x.ay x.sum x.time).1]) (fun a ha=>h1 a (List.mem_cons_of_mem _ ha)) ((List.length_set ..).trans h2)
   (fun a ha=>by
    rcases List.mem_append.1 ha with ha|ha
    ·exact h3 a ha
    ·obtain rfl:=List.mem_singleton.1 ha;exact ⟨w1,by rw [w2];exact hx⟩)
   (fun z hz=>by
    rcases fY hz with hz|rfl
    ·exact h4 z hz
    ·exact f1)
  rw [List.length_append,List.length_singleton] at r4 r5
  exact ⟨r1,r2,r3,by omega,by rw [List.length_cons];omega⟩
theorem qt {s:cr} (h:(cM s).2.2=0):bO s=0/\(cM s).1=⟨s.cap,List.replicate s.used.length 0,[]⟩/\(cM s).2.1=s.aU:=by
 unfold cM at h ⊢
 split at h
 ·rename_i h1;exact absurd h h1
 ·rename_i h1;rw [if_neg h1];exact ⟨by omega,rfl,rfl⟩
theorem cj.zY {b:Bk} (h:cj b) (h1:(cM b.bE).2.2=0):cj {b with ao:=(fA (cM b.bE).2.1 b.ao b.au).1,au:=(fA (cM b.bE).2.1 b.ao b.au).2.1,bE:=(cM b.bE).1,down:=false}:=by
 obtain ⟨_,c1,c2⟩:=qt h1
 rw [c1,c2]
 obtain ⟨r1,r2,r3,r4,r5⟩:=yn b.bE.aU b.ao b.au h.jh rfl h.perm h.right
 have hk:∀ {n:Int},n < (b.au.length:Int)->n < ((fA b.bE.aU b.ao b.au).2.1.length:Int):=fun hn=>by omega
 exact ⟨h.time,by rw [r2];exact h.ao,h.due,by have:=h.au;simp only [List.length_nil];omega,h.aQ,h.w0,h.w1,by dsimp only;rw [r2];exact r3,fun a ha=>by simp at ha,
  fun t ht=>⟨(h.k0 t ht).1,(h.k0 t ht).2.1,hk (h.k0 t ht).2.2⟩,fun t ht=>⟨(h.k1 t ht).1,(h.k1 t ht).2.1,hk (h.k1 t ht).2.2⟩,r1,h.l0,h.l1,
  fun p hp hs=>⟨(h.p0 p hp hs).1,(h.p0 p hp hs).2.1,hk (h.p0 p hp hs).2.2⟩,fun p hp hs=>⟨(h.p1 p hp hs).1,(h.p1 p hp hs).2.1,hk (h.p1 p hp hs).2.2⟩,h.n0,h.n1,fun _=>rfl⟩
theorem Ab {l:List bS} {q:Nat} {x:bS} {cs:List bC} {xs:List bz} {a:bz} {e1 e2:Int} (h:l[q]?=some x) (hn:cZ x.aK x.ay x.sum x.time=(a,e1)) (hf:dv 0 e1=e2) (he:¬e2=0):fA (l.drop q) cs xs=(cs,xs,e2):=by
 rw [pT h,hn]
 have:e1=e2:=by unfold dv at hf;rw [if_pos rfl] at hf;exact hf
 subst this
 rw [if_pos he]
theorem Aa {l:List bS} {q:Nat} {x:bS} {cs:List bC} {xs:List bz} {a:bz} {c k:bC} {e1 e3 e4:Int} (h:l[q]?=some x) (hn:cZ x.aK x.ay x.sum x.time=(a,e1)) (hf1:dv 0 e1=0) (hc:cs[x.aK.toNat]?=some c)
  (hF:eu c x.sum=(k,e3)) (hf:dv 0 e3=e4) (he:¬e4=0):fA (l.drop q) cs xs=(cs,xs,e4):=by
 rw [pT h,hn,hc]
 have h1:e1=0:=(fE hf1).2
 have:e3=e4:=by unfold dv at hf;rw [if_pos rfl] at hf;exact hf
 subst this h1
 dsimp only
 rw [if_neg (by simp),hF,if_pos he]
theorem zZ {l:List bS} {q:Nat} {x:bS} {cs:List bC} {xs:List bz} {a:bz} {c k:bC} {e1 e3:Int} (h:l[q]?=some x) (hn:cZ x.aK x.ay x.sum x.time=(a,e1)) (hf1:dv 0 e1=0) (hc:cs[x.aK.toNat]?=some c)
  (hF:eu c x.sum=(k,e3)) (hf:dv 0 e3=0):fA (l.drop q) cs xs=fA (l.drop (q+1)) (cs.set x.aK.toNat k) (xs++[a]):=by
 rw [pT h,hn,hc]
 have h1:e1=0:=(fE hf1).2
 have h3:e3=0:=(fE hf).2
 subst h3 h1
 dsimp only
 rw [if_neg (by simp),hF,if_neg (by simp)]
theorem Ca {l:List bS} {q:Nat} {cs:List bC} {xs:List bz} (h:¬q < l.length):fA (l.drop q) cs xs=(cs,xs,0):=by
 rw [List.drop_of_length_le (by omega)];rfl
theorem yo {b:Bk} {s:cr} {l:List bS} {cs:List bC} {xs:List bz} {e:Int} (hd:b.down=true) (h:cM b.bE=(s,l,0)) (hL:fA l b.ao b.au=(cs,xs,e)) (he:¬e=0):ig b=(b,⟨e,0⟩):=by
 unfold ig
 rw [if_neg (by rw [hd];simp),h]
 dsimp only
 rw [if_neg (by simp),hL]
 dsimp only
 rw [if_pos he]
theorem CN {b:Bk} {s:cr} {l:List bS} {cs:List bC} {xs:List bz} (hd:b.down=true) (h:cM b.bE=(s,l,0)) (hL:fA l b.ao b.au=(cs,xs,0)):
  ig b=(gn {b with ao:=cs,au:=xs,bE:=s,down:=false},⟨0,0⟩):=by
 unfold ig
 rw [if_neg (by rw [hd];simp),h]
 dsimp only
 rw [if_neg (by simp),hL]
 dsimp only
 rw [if_neg (by simp)]
theorem cj.Et {b:Bk} (hb:cj b) {s:cr} {l:List bS} {cs:List bC} {xs:List bz} (h:cM b.bE=(s,l,0)) (hL:fA l b.ao b.au=(cs,xs,0)):
  cj {b with ao:=cs,au:=xs,bE:=s,down:=false}:=by
 have:=hb.zY (by rw [h])
 rw [h] at this;dsimp only at this;rw [hL] at this;exact this
theorem cj.CM {b:Bk} (h:cj b):cj (ig b).1:=by
 unfold ig
 split
 ·exact h
 split
 ·exact h
 split
 ·exact h
 ·exact (h.zY (by omega)).late
theorem cj.pX {b:Bk} (h:cj b) {t:List al} (ht:t.length<=100):cj {b with aQ:=t}:=
 ⟨h.time,h.ao,h.due,h.au,ht,h.w0,h.w1,h.perm,h.jh,h.k0,h.k1,h.right,h.l0,h.l1,h.p0,h.p1,h.n0,h.n1,h.calm⟩
theorem lI {t:List al} {y:List (List Int)} (h:t.length<=100):(iB t y).1.length<=100/\(iB t y).2.1.length<=y.length+1:=by
 unfold iB
 split
 ·exact ⟨h,Nat.le_succ _⟩
 ·exact ⟨by simp,by simp⟩
theorem cj.Bb {b:Bk} (h:cj b) (y:List (List Int)) (d:aZ):cj (dU b y d).1/\(dU b y d).2.1.length<=y.length+1:=by
 unfold dU
 split
 ·exact ⟨h.load d,Nat.le_succ _⟩
 split
 ·exact ⟨h.asks d,Nat.le_succ _⟩
 split
 ·exact ⟨h.lp d,Nat.le_succ _⟩
 split
 ·exact ⟨h.cH d,Nat.le_succ _⟩
 split
 ·exact ⟨h.send d,Nat.le_succ _⟩
 split
 ·exact ⟨h.lq d,Nat.le_succ _⟩
 split
 ·split
  ·exact ⟨h,Nat.le_succ _⟩
  ·exact ⟨⟨h.time,h.ao,h.due,h.au,h.aQ,h.w0,h.w1,h.perm,h.jh,h.k0,h.k1,h.right,h.l0,h.l1,h.p0,h.p1,h.n0,h.n1,fun h=>by cases h⟩,Nat.le_succ _⟩
 split
 ·exact ⟨h.CM,Nat.le_succ _⟩
 split
 ·exact ⟨h.pX (lI h.aQ).1,(lI (y:=y) h.aQ).2⟩
 split
 ·exact ⟨h.uA d,Nat.le_succ _⟩
 ·exact ⟨h,Nat.le_succ _⟩
theorem cj.once {b:Bk} (h:cj b) (y:List (List Int)) (told:List (Int×Answer)) (cl:Nat) (d:aZ):cj (fC b y told cl d).1/\(fC b y told cl d).2.1.length<=y.length+1:=by
 unfold fC
 split
 ·exact ⟨h,Nat.le_succ _⟩
 ·exact h.Bb y d
theorem sQ:∀ {l:List di} {i:Int},(ou l i).err=0->∀ p∈l,fl p=0
 |p::l,i,h,x,hx=>by
  unfold ou at h
  split at h
  ·rename_i h1;exact absurd h h1
  ·rename_i h1
   rcases List.mem_cons.1 hx with rfl|hx
   ·omega
   ·exact sQ h x hx
theorem kx {s:Setup} (h:(eo s).err=0):s.cY.length<=8/\0<=s.ib/\s.ib<=8/\0<=s.cap/\s.cap<=1000000/\∀ p∈s.cY,fl p=0:=by
 unfold eo at h
 split at h
 ·cases h
 split at h
 ·cases h
 ·exact ⟨by omega,by omega,by omega,by omega,by omega,sQ h⟩
theorem cj.start {s:Setup} (h:(eo s).err=0):cj (hJ s):=by
 obtain ⟨h1,h2,h3,h4,h5,h6⟩:=kx h
 have hn:dq s.cap s.cY.length=({cap:=s.cap,used:=List.replicate s.cY.length 0,aU:=[]},0):=pE h1 ⟨h4,h5⟩
 unfold hJ
 rw [hn]
 refine ⟨by dsimp only;omega,by simpa using h1,by simp;omega,by simp,by simp,by simp,by simp,by simp,by simp,by simp,by simp,fun c hc=>?_,by simp,by simp,by simp,by simp,by simp,by simp,fun _=>rfl⟩
 obtain ⟨p,hp,rfl⟩:=List.mem_map.1 hc
 exact oX (c:=⟨0,0,p,[]⟩) (by dsimp only;omega) (h6 p hp) (rK.2 ⟨by simp,by simp,by simp⟩)
end Go.Proofs.Ytegepioggeggaaa.Dev
