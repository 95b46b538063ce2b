/- A part of the proof: Bank8, Bank9, PlOk. No condition. -/
import Derived.Test.YtegepioggeggaaaD11
set_option linter.unusedVariables false
set_option linter.unusedSimpArgs false
set_option maxHeartbeats 8000000
set_option maxRecDepth 100000
namespace Go.Proofs.Ytegepioggeggaaa.Dev
open Go.RowKit

theorem HR (x:Nat->Value) (hx:∀ i,(x i).oneCell'=true) (b:Bk) (d:aV) (ok:ct b) (hdn:b.down=false) (b2:Bk) (a2:Answer) (hr:du b d=(b2,a2)):cL Try.prog 63 [(.c (.p 0 0 0 0)),(.c (.q (cX d) 0))] [(0,(.box 98 (aZ b 1 2 3 4 (.d (.v (x 17))) (.d (.v (x 19)))))),(1,(ek b.ag)),(2,(dS b.due)),(3,(ep b.aj)),(4,(cU b.aQ))] [0] (.v (.g [cI a2.err,cI a2.ba])) [(0,(.box 98 (aZ b2 1 2 3 4 (.d (.v (x 17))) (.d (.v (x 19)))))),(1,(ek b2.ag)),(2,(dS b2.due)),(3,(ep b2.aj)),(4,(cU b2.aQ))]:=by
 refine cL.mk 214 [(0,(aC (.p 0 0 0 0))),(1,(aC (.q (cX d) 0)))] 5 Try.func63 rfl rfl rfl rfl rfl rfl rfl rfl rfl ?_
 intro W0 F0 T0 pg
 obtain ⟨okt,okc,okd,oka,oky,okw0,okw1,okp,okv,okk0,okk1,okg,okl0,okl1,okp0,okp1,okn0,okn1,okq⟩:=id ok
 refine ae aa 1 rfl ?_
 refine ah ?_
 refine ah ?_
 rcases Bool.eq_false_or_eq_true (decide (d.n < 0)) with hb1|hb1
 ·
  have hb1':=of_decide_eq_true hb1
  refine bd [0,1,4] [5,0,1,2,3,4] mixed rfl rfl ?_
  refine aF (kn:=[(14,true)]) aa 38 rfl ⟨hb1,trivial⟩ ?_
  refine bF [5,0,1,2,3,4] rfl rfl rfl rfl (by kernel_rfl) ?_
  refine af ?_
  refine an rfl (fun _=>?_) (fun hno=>by cases hno)
  refine ae aa 2 rfl ?_
  refine aA ?_
  refine ax ?_
  have hX:du b d=(b,(⟨6,0⟩:Answer)):=by
    unfold du;(try simp only [hdn,Bool.false_eq_true,if_false]);(repeat' split)<;>first|rfl|omega|(exfalso;omega)|(simp_all;done)|(simp_all;omega)
  rw [hX] at hr;clear hX
  simp only [Prod.mk.injEq] at hr;obtain ⟨rfl,rfl⟩:=hr
  refine aw aa [0,1,2,3,4,5] 5 rfl rfl rfl rfl rfl rfl ?_ ?_
  all_goals first|rfl|(simp [aD,aZ,bg];done)|(simp [aD,aZ,bg];omega)
 have hb1':=of_decide_eq_false hb1
 rcases Bool.eq_false_or_eq_true (decide (d.n>=(↑b.ag.length:Int))) with hb3|hb3
 ·
  have hb3':=of_decide_eq_true hb3
  refine bd [0,1,4] [5,0,1,2,3,4] mixed rfl rfl ?_
  refine aF (kn:=[(14,false)]) aa 15 rfl ⟨hb1,trivial⟩ ?_
  refine aX (n':=6) [24,15] [1] rfl rfl (.inl ⟨(aq.yes rfl rfl rfl),aM.cast (dH rfl rfl rfl rfl rfl Try.underlying29) rfl⟩) rfl ?_
  refine aF (kn:=[(26,true)]) aa 22 rfl ⟨hb3,trivial⟩ ?_
  refine bF [5,0,1,2,3,4] rfl rfl rfl rfl (by kernel_rfl) ?_
  refine af ?_
  refine an rfl (fun _=>?_) (fun hno=>by cases hno)
  refine ae aa 2 rfl ?_
  refine aA ?_
  refine ax ?_
  have hX:du b d=(b,(⟨6,0⟩:Answer)):=by
    unfold du;(try simp only [hdn,Bool.false_eq_true,if_false]);(repeat' split)<;>first|rfl|omega|(exfalso;omega)|(simp_all;done)|(simp_all;omega)
  rw [hX] at hr;clear hX
  simp only [Prod.mk.injEq] at hr;obtain ⟨rfl,rfl⟩:=hr
  refine aw aa [0,1,2,3,4,5] 5 rfl rfl rfl rfl rfl rfl ?_ ?_
  all_goals first|rfl|(simp [aD,aZ,bg];done)|(simp [aD,aZ,bg];omega)
 have hb3':=of_decide_eq_false hb3
 rcases Bool.eq_false_or_eq_true (decide (d.az < 0)) with hb5|hb5
 ·
  have hb5':=of_decide_eq_true hb5
  refine bd [0,1,4] [5,0,1,2,3,4] mixed rfl rfl ?_
  refine aF (kn:=[(14,false)]) aa 15 rfl ⟨hb1,trivial⟩ ?_
  refine aX (n':=6) [24,15] [1] rfl rfl (.inl ⟨(aq.yes rfl rfl rfl),aM.cast (dH rfl rfl rfl rfl rfl Try.underlying29) rfl⟩) rfl ?_
  refine aF (kn:=[(26,false),(33,true)]) aa 22 rfl ⟨hb3,hb5,trivial⟩ ?_
  refine bF [5,0,1,2,3,4] rfl rfl rfl rfl (by kernel_rfl) ?_
  refine af ?_
  refine an rfl (fun _=>?_) (fun hno=>by cases hno)
  refine ae aa 2 rfl ?_
  refine aA ?_
  refine ax ?_
  have hX:du b d=(b,(⟨6,0⟩:Answer)):=by
    unfold du;(try simp only [hdn,Bool.false_eq_true,if_false]);(repeat' split)<;>first|rfl|omega|(exfalso;omega)|(simp_all;done)|(simp_all;omega)
  rw [hX] at hr;clear hX
  simp only [Prod.mk.injEq] at hr;obtain ⟨rfl,rfl⟩:=hr
  refine aw aa [0,1,2,3,4,5] 5 rfl rfl rfl rfl rfl rfl ?_ ?_
  all_goals first|rfl|(simp [aD,aZ,bg];done)|(simp [aD,aZ,bg];omega)
 have hb5':=of_decide_eq_false hb5
 refine bd [0,1,4] [5,0,1,2,3,4] mixed rfl rfl ?_
 refine aF (kn:=[(14,false)]) aa 15 rfl ⟨hb1,trivial⟩ ?_
 refine aX (n':=6) [24,15] [1] rfl rfl (.inl ⟨(aq.yes rfl rfl rfl),aM.cast (dH rfl rfl rfl rfl rfl Try.underlying29) rfl⟩) rfl ?_
 refine aF (kn:=[(26,false),(33,false)]) aa 19 rfl ⟨hb3,hb5,trivial⟩ ?_
 refine aX (n':=6) [44,35] [2] rfl rfl (.inl ⟨(aq.yes rfl rfl rfl),aM.cast (dH rfl rfl rfl rfl rfl Try.underlying30) rfl⟩) rfl ?_
 refine aF (kn:=[]) aa 2 rfl trivial ?_
 refine bF [5,0,1,2,3,4] rfl rfl rfl rfl (by kernel_rfl) ?_
 refine af ?_
 refine an rfl (fun hc7=>?_) (fun hc7=>?_)
 ·
  have hc7':=of_decide_eq_true hc7
  refine ae aa 2 rfl ?_
  refine aA ?_
  refine ax ?_
  have hX:du b d=(b,(⟨6,0⟩:Answer)):=by
    unfold du;(try simp only [hdn,Bool.false_eq_true,if_false]);(repeat' split)<;>first|rfl|omega|(exfalso;omega)|(simp_all;done)|(simp_all;omega)
  rw [hX] at hr;clear hX
  simp only [Prod.mk.injEq] at hr;obtain ⟨rfl,rfl⟩:=hr
  refine aw aa [0,1,2,3,4,5] 5 rfl rfl rfl rfl rfl rfl ?_ ?_
  all_goals first|rfl|(simp [aD,aZ,bg];done)|(simp [aD,aZ,bg];omega)
 have hc7':=of_decide_eq_false hc7
 refine aU ?_
 refine ah ?_
 refine ae aa 5 rfl ?_
 refine an rfl (fun hno=>absurd (hdn.symm.trans hno) (by decide)) (fun _=>?_)
 refine aU ?_
 refine ah ?_
 obtain ⟨b0,e0,hr0⟩:∃ (b0:bl) (e0:Int),dp d.n d.az d.sum b.time=(b0,e0):=⟨_,_,rfl⟩
 refine dr [0,1,4] [5,0,1,2,3,4] mixed rfl rfl ?_
 refine bU (kn:=[]) aa 17 rfl trivial ?_
 refine ca (n':=6) [123,127,131,136] [] rfl rfl (.inl ⟨(aq.plain rfl),aM.cast (ch 6 (tz d.n d.az d.sum b.time b0 e0 hr0) Hv rfl rfl ⟨⟨_,rfl,.c (.d _)⟩,⟨_,rfl,.c (.d _)⟩,⟨_,rfl,.c (.d _)⟩,⟨_,rfl,.c (.d _)⟩,trivial⟩ ⟨⟨trivial,trivial,trivial,trivial,trivial,trivial,trivial,trivial,trivial⟩,trivial,trivial⟩ trivial rfl rfl rfl rfl) rfl⟩) rfl ?_
 refine bU (n':=7) (kn:=[]) aa 6 rfl trivial ?_
 refine ef [0,1,4,7,8] [6,5,0,1,2,3,4] rfl rfl (by kernel_rfl) ?_
 refine then_ok ?_
 refine ah ?_
 refine cA 150 ((decide (e0=0)) && (decide ((↑b.aj.length:Int)=30))) ?_ ?_
 ·
  refine ay ?_
  refine ad aa 3 rfl ?_
  refine bH (t:=142) rfl (fun hb9=>?_) (fun hb9=>?_)
  ·
   have hb9':=of_decide_eq_true hb9
   refine ad aa 5 rfl ?_
   refine dG (aq.yes rfl rfl rfl) (dH rfl rfl rfl rfl rfl Try.underlying31) rfl rfl ?_
   refine ad aa 2 rfl ?_
   refine af ?_
   exact aJ.bK 12 rfl rfl (by first|(simp [hb9];done)|(simp_all;done)|(exfalso;simp_all;done)|(simp_all;omega)) rfl
  have hb9':=of_decide_eq_false hb9
  refine ad aa 8 rfl ?_
  refine af ?_
  exact aJ.bK 12 rfl rfl (by first|(simp [hb9];done)|(simp_all;done)|(exfalso;simp_all;done)|(simp_all;omega)) rfl
 refine an rfl (fun hc10=>?_) (fun hc10=>?_)
 ·
  have hc10':=hc10;try simp only [bA,bW] at hc10'
  refine ay ?_
  refine ad aa 1 rfl ?_
  refine af ?_
  refine ah ?_
  refine aH aa 1 rfl ?_
  refine aE (aN rfl rfl rfl (show _=some (Value.bool true) from rfl)) rfl ?_
  refine af ?_
  refine an rfl (fun _=>?_) (fun hno=>by cases hno)
  refine ae aa 3 rfl ?_
  refine aA ?_
  refine ax ?_
  have hX:du b d=(b,(⟨5,0⟩:Answer)):=by
    unfold du;(try simp only [hdn,Bool.false_eq_true,if_false,hr0]);(repeat' split)<;>first|rfl|omega|(exfalso;omega)|(simp_all;done)|(simp_all;omega)
  rw [hX] at hr;clear hX
  simp only [Prod.mk.injEq] at hr;obtain ⟨rfl,rfl⟩:=hr
  refine aw aa [0,1,2,3,4,5] 5 rfl rfl rfl rfl rfl rfl ?_ ?_
  all_goals first|rfl|(simp [aD,aZ,bg];done)|(simp [aD,aZ,bg];omega)
 have hc10':=hc10;try simp only [bA,bW] at hc10'
 refine aU ?_
 refine ah ?_
 refine ae aa 2 rfl ?_
 refine an rfl (fun hc12=>?_) (fun hc12=>?_)
 ·
  have hc12':=of_decide_eq_true hc12
  refine ae aa 3 rfl ?_
  refine aA ?_
  refine ax ?_
  have hX:du b d=(b,(⟨e0,0⟩:Answer)):=by
    unfold du;(try simp only [hdn,Bool.false_eq_true,if_false,hr0]);(repeat' split)<;>first|rfl|omega|(exfalso;omega)|(simp_all;done)|(simp_all;omega)
  rw [hX] at hr;clear hX
  simp only [Prod.mk.injEq] at hr;obtain ⟨rfl,rfl⟩:=hr
  refine aw aa [0,1,2,3,4,5] 5 rfl rfl rfl rfl rfl rfl ?_ ?_
  all_goals first|rfl|(simp [aD,aZ,bg];done)|(simp [aD,aZ,bg];omega)
 have hc12':=of_decide_eq_false hc12
 refine aU ?_
 refine ah ?_
 obtain ⟨x1,hx1⟩:=cr (xs:=b.ag) (i:=Int.toNat (d.n)) (by first|omega|(simp;done)|(simp;omega))
 obtain ⟨xr1,e1,hr1⟩:∃ (xr1:bD) (e1:Int),dE x1 d.sum b.time=(xr1,e1):=⟨_,_,rfl⟩
 refine dr [0,1,4,7] [6,5,0,1,2,3,4] mixed rfl rfl ?_
 refine bU (kn:=[]) aa 9 rfl trivial ?_
 refine ca (n':=7) [160,164] [1] rfl rfl (.inl ⟨(aq.plain rfl),aM.cast (br (i:=Int.toNat (d.n)) rfl rfl rfl Try.underlying29 jx (by first|omega|(simp;done)|(simp;omega)) (by first|omega|(simp;done)|(simp;omega))) rfl⟩) rfl ?_
 refine ca (n':=7) [165] [1] rfl rfl (.inl ⟨(aq.plain rfl),aM.cast (dy rfl rfl rfl Try.underlying61 rfl jx (bz hx1) rfl) rfl⟩) rfl ?_
 refine bU (kn:=[]) aa 9 rfl trivial ?_
 refine ca (n':=7) [166,170,175] [] rfl rfl (.inl ⟨(aq.plain rfl),aM.cast (ch 7 (Fn.frozen (av':=(.t [(.g [(cI xr1.bB),(cI xr1.held),(cI xr1.cv.cM),(cI xr1.cv.count),(cI xr1.cv.sum),(fU xr1.de)]),(.c (cI e1))])) (xx x1 d.sum b.time xr1 e1 hr1) ⟨⟨.inl ⟨_,rfl,rfl⟩,.inl ⟨_,rfl,rfl⟩,.inl ⟨_,rfl,rfl⟩,.inl ⟨_,rfl,rfl⟩,.inl ⟨_,rfl,rfl⟩,.inr ⟨_,_,_,_,_,rfl,rfl,rfl,by simp⟩,trivial⟩,.inl ⟨_,rfl,rfl⟩,trivial⟩) JJ rfl rfl ⟨⟨_,rfl,.g ⟨.d _,.d _,.d _,.d _,.d _,.d _,trivial⟩⟩,⟨_,rfl,.c (.d _)⟩,⟨_,rfl,.c (.d _)⟩,trivial⟩ ⟨⟨trivial,trivial,trivial,trivial,trivial,trivial,trivial⟩,trivial,trivial⟩ trivial rfl rfl rfl rfl) rfl⟩) rfl ?_
 refine bU (n':=8) (kn:=[]) aa 6 rfl trivial ?_
 refine ef [0,1,4,7,9,8] [7,6,5,0,1,2,3,4] rfl rfl (by kernel_rfl) ?_
 refine then_ok ?_
 refine ah ?_
 refine ae aa 2 rfl ?_
 refine an rfl (fun hc13=>?_) (fun hc13=>?_)
 ·
  have hc13':=of_decide_eq_true hc13
  refine ae aa 3 rfl ?_
  refine aA ?_
  refine ax ?_
  have hX:du b d=(b,(⟨e1,0⟩:Answer)):=by
    unfold du;(try simp only [hdn,Bool.false_eq_true,if_false,hr0,hr1,hx1]);(repeat' split)<;>first|rfl|omega|(exfalso;omega)|(simp_all;done)|(simp_all;omega)
  rw [hX] at hr;clear hX
  simp only [Prod.mk.injEq] at hr;obtain ⟨rfl,rfl⟩:=hr
  refine aw aa [0,1,2,3,4,5] 5 rfl rfl rfl rfl rfl rfl ?_ ?_
  all_goals first|rfl|(simp [aD,aZ,bg];done)|(simp [aD,aZ,bg];omega)
 have hc13':=of_decide_eq_false hc13
 refine aU ?_
 refine ah ?_
 refine bd [0,1,4,7,9] [7,6,5,0,1,2,3,4] mixed rfl rfl ?_
 refine aF (kn:=[]) aa 10 rfl trivial ?_
 refine aX (n':=8) [187,191] [1] rfl rfl (.inl ⟨(aq.plain rfl),aM.cast (br (i:=Int.toNat (d.n)) rfl rfl rfl Try.underlying29 jx (by first|omega|(simp;done)|(simp;omega)) (by first|omega|(simp;done)|(simp;omega))) rfl⟩) rfl ?_
 refine bF [7,6,5,0,1,2,3,4] rfl rfl rfl rfl (by kernel_rfl) ?_
 refine gj [7,6,5,0,1,2,3,4] (dW (ds:=[(dI xr1.bB),(dI xr1.held),(dI xr1.cv.cM),(dI xr1.cv.count),(dI xr1.cv.sum),(HI xr1.de)]) rfl rfl rfl rfl rfl jx rfl (Nat.le_of_ble_eq_true rfl) (bz hx1) rfl (eU (x':=xr1) rfl)) rfl ?_
 refine af ?_
 refine ga (k:=0) (q:=2) (c':=(.s 1 0 6 (((b.ag).set (Int.toNat (d.n)) xr1).length))) rfl rfl (by first|rfl|(simp;done)|(congr 1;omega)) rfl ?_
 refine ah ?_
 refine bd [0,4,7] [6,5,0,1,2,3,4] mixed rfl rfl ?_
 refine aF (kn:=[]) aa 7 rfl trivial ?_
 refine aX (n':=9) [200] [] rfl rfl (.inl ⟨(aq.plain rfl),aM.cast (ec (ys:=[(0,(.g [(cI b0.aO),(cI b0.az),(cI b0.sum),(cI b0.captured),(cI b0.bC),(cI b0.bj),(cI b0.dq),(cB b0.shut)]))]) (rows:=([b0]).map jm) 8 tN rfl (by decide) ⟨⟨rfl,rfl⟩,trivial⟩ rfl rfl rfl rfl) rfl⟩) rfl ?_
 refine aX (n':=10) [199,201] [8,3] rfl rfl (.inl ⟨(aq.plain rfl),aM.cast (dA (m:=1) (N:=b.aj.length+1) (k2:=9) (ys:=([b0]).map jm) tN rfl rfl rfl rfl rfl rfl (by first|omega|(simp;done)|(simp;omega)) rfl (.s rfl (by first|omega|(simp;done)|(simp;omega))) (by first|omega|(simp;done)|(simp;omega)) (by first|omega|(simp;done)|(simp;omega)) fK (by decide) (by first|omega|(simp;done)|(simp;omega)) (by first|omega|(simp;done)|(simp;omega))) rfl⟩) rfl ?_
 refine aF (kn:=[]) aa 3 rfl trivial ?_
 refine bF [9,6,5,0,1,2,4] rfl rfl rfl rfl (by kernel_rfl) ?_
 refine ad aa 1 rfl ?_
 refine af ?_
 refine ga (k:=0) (q:=4) (c':=(.s 9 0 8 ((b.aj++([b0])).length))) rfl rfl (by first|rfl|(simp;done)|(congr 1;omega)) rfl ?_
 refine aH aa 5 rfl ?_
 refine aE (dH rfl rfl rfl rfl rfl Try.underlying31) rfl ?_
 refine aE (aN rfl rfl rfl (aK (by first|omega|(simp;done)|(simp;omega)))) rfl ?_
 refine ad aa 2 rfl ?_
 refine af ?_
 refine aA ?_
 have hX:du b d=((⟨b.time,b.down,(b.ag).set (Int.toNat (d.n)) xr1,b.due,b.aj++([b0]),b.s0,b.s1,b.n0,b.n1,b.w0,b.w1,b.bx,b.aQ,b.book⟩:Bk),(⟨0,(↑((b.aj++([b0])).length):Int) - 1⟩:Answer)):=by
   unfold du;(try simp only [hdn,Bool.false_eq_true,if_false,hr0,hr1,hx1]);(repeat' split)<;>first|rfl|omega|(exfalso;omega)|(simp_all;done)|(simp_all;omega)
 rw [hX] at hr;clear hX
 simp only [Prod.mk.injEq] at hr;obtain ⟨rfl,rfl⟩:=hr
 refine aw aa [0,1,2,9,4,5] 5 rfl rfl rfl rfl rfl rfl ?_ ?_
 all_goals first|rfl|(simp [aD,aZ,bg];done)|(simp [aD,aZ,bg];omega)
theorem HS (x:Nat->Value) (hx:∀ i,(x i).oneCell'=true) (b:Bk) (d:aV) (ok:ct b) (hdn:b.down=true) (b2:Bk) (a2:Answer) (hr:du b d=(b2,a2)):cL Try.prog 63 [(.c (.p 0 0 0 0)),(.c (.q (cX d) 0))] [(0,(.box 98 (aZ b 1 2 3 4 (.d (.v (x 17))) (.d (.v (x 19)))))),(1,(ek b.ag)),(2,(dS b.due)),(3,(ep b.aj)),(4,(cU b.aQ))] [0] (.v (.g [cI a2.err,cI a2.ba])) [(0,(.box 98 (aZ b2 1 2 3 4 (.d (.v (x 17))) (.d (.v (x 19)))))),(1,(ek b2.ag)),(2,(dS b2.due)),(3,(ep b2.aj)),(4,(cU b2.aQ))]:=by
 refine cL.mk 214 [(0,(aC (.p 0 0 0 0))),(1,(aC (.q (cX d) 0)))] 5 Try.func63 rfl rfl rfl rfl rfl rfl rfl rfl rfl ?_
 intro W0 F0 T0 pg
 obtain ⟨okt,okc,okd,oka,oky,okw0,okw1,okp,okv,okk0,okk1,okg,okl0,okl1,okp0,okp1,okn0,okn1,okq⟩:=id ok
 refine ae aa 1 rfl ?_
 refine ah ?_
 refine ah ?_
 rcases Bool.eq_false_or_eq_true (decide (d.n < 0)) with hb1|hb1
 ·
  have hb1':=of_decide_eq_true hb1
  refine bd [0,1,4] [5,0,1,2,3,4] mixed rfl rfl ?_
  refine aF (kn:=[(14,true)]) aa 38 rfl ⟨hb1,trivial⟩ ?_
  refine bF [5,0,1,2,3,4] rfl rfl rfl rfl (by kernel_rfl) ?_
  refine af ?_
  refine an rfl (fun _=>?_) (fun hno=>by cases hno)
  refine ae aa 2 rfl ?_
  refine aA ?_
  refine ax ?_
  have hX:du b d=(b,(⟨6,0⟩:Answer)):=by
    unfold du ib;(try simp only [hdn,if_true]);(repeat' split)<;>first|rfl|omega|(exfalso;omega)|(simp_all;done)|(simp_all;omega)
  rw [hX] at hr;clear hX
  simp only [Prod.mk.injEq] at hr;obtain ⟨rfl,rfl⟩:=hr
  refine aw aa [0,1,2,3,4,5] 5 rfl rfl rfl rfl rfl rfl ?_ ?_
  all_goals first|rfl|(simp [aD,aZ,bg];done)|(simp [aD,aZ,bg];omega)
 have hb1':=of_decide_eq_false hb1
 rcases Bool.eq_false_or_eq_true (decide (d.n>=(↑b.ag.length:Int))) with hb3|hb3
 ·
  have hb3':=of_decide_eq_true hb3
  refine bd [0,1,4] [5,0,1,2,3,4] mixed rfl rfl ?_
  refine aF (kn:=[(14,false)]) aa 15 rfl ⟨hb1,trivial⟩ ?_
  refine aX (n':=6) [24,15] [1] rfl rfl (.inl ⟨(aq.yes rfl rfl rfl),aM.cast (dH rfl rfl rfl rfl rfl Try.underlying29) rfl⟩) rfl ?_
  refine aF (kn:=[(26,true)]) aa 22 rfl ⟨hb3,trivial⟩ ?_
  refine bF [5,0,1,2,3,4] rfl rfl rfl rfl (by kernel_rfl) ?_
  refine af ?_
  refine an rfl (fun _=>?_) (fun hno=>by cases hno)
  refine ae aa 2 rfl ?_
  refine aA ?_
  refine ax ?_
  have hX:du b d=(b,(⟨6,0⟩:Answer)):=by
    unfold du ib;(try simp only [hdn,if_true]);(repeat' split)<;>first|rfl|omega|(exfalso;omega)|(simp_all;done)|(simp_all;omega)
  rw [hX] at hr;clear hX
  simp only [Prod.mk.injEq] at hr;obtain ⟨rfl,rfl⟩:=hr
  refine aw aa [0,1,2,3,4,5] 5 rfl rfl rfl rfl rfl rfl ?_ ?_
  all_goals first|rfl|(simp [aD,aZ,bg];done)|(simp [aD,aZ,bg];omega)
 have hb3':=of_decide_eq_false hb3
 rcases Bool.eq_false_or_eq_true (decide (d.az < 0)) with hb5|hb5
 ·
  have hb5':=of_decide_eq_true hb5
  refine bd [0,1,4] [5,0,1,2,3,4] mixed rfl rfl ?_
  refine aF (kn:=[(14,false)]) aa 15 rfl ⟨hb1,trivial⟩ ?_
  refine aX (n':=6) [24,15] [1] rfl rfl (.inl ⟨(aq.yes rfl rfl rfl),aM.cast (dH rfl rfl rfl rfl rfl Try.underlying29) rfl⟩) rfl ?_
  refine aF (kn:=[(26,false),(33,true)]) aa 22 rfl ⟨hb3,hb5,trivial⟩ ?_
  refine bF [5,0,1,2,3,4] rfl rfl rfl rfl (by kernel_rfl) ?_
  refine af ?_
  refine an rfl (fun _=>?_) (fun hno=>by cases hno)
  refine ae aa 2 rfl ?_
  refine aA ?_
  refine ax ?_
  have hX:du b d=(b,(⟨6,0⟩:Answer)):=by
    unfold du ib;(try simp only [hdn,if_true]);(repeat' split)<;>first|rfl|omega|(exfalso;omega)|(simp_all;done)|(simp_all;omega)
  rw [hX] at hr;clear hX
  simp only [Prod.mk.injEq] at hr;obtain ⟨rfl,rfl⟩:=hr
  refine aw aa [0,1,2,3,4,5] 5 rfl rfl rfl rfl rfl rfl ?_ ?_
  all_goals first|rfl|(simp [aD,aZ,bg];done)|(simp [aD,aZ,bg];omega)
 have hb5':=of_decide_eq_false hb5
 refine bd [0,1,4] [5,0,1,2,3,4] mixed rfl rfl ?_
 refine aF (kn:=[(14,false)]) aa 15 rfl ⟨hb1,trivial⟩ ?_
 refine aX (n':=6) [24,15] [1] rfl rfl (.inl ⟨(aq.yes rfl rfl rfl),aM.cast (dH rfl rfl rfl rfl rfl Try.underlying29) rfl⟩) rfl ?_
 refine aF (kn:=[(26,false),(33,false)]) aa 19 rfl ⟨hb3,hb5,trivial⟩ ?_
 refine aX (n':=6) [44,35] [2] rfl rfl (.inl ⟨(aq.yes rfl rfl rfl),aM.cast (dH rfl rfl rfl rfl rfl Try.underlying30) rfl⟩) rfl ?_
 refine aF (kn:=[]) aa 2 rfl trivial ?_
 refine bF [5,0,1,2,3,4] rfl rfl rfl rfl (by kernel_rfl) ?_
 refine af ?_
 refine an rfl (fun hc7=>?_) (fun hc7=>?_)
 ·
  have hc7':=of_decide_eq_true hc7
  refine ae aa 2 rfl ?_
  refine aA ?_
  refine ax ?_
  have hX:du b d=(b,(⟨6,0⟩:Answer)):=by
    unfold du ib;(try simp only [hdn,if_true]);(repeat' split)<;>first|rfl|omega|(exfalso;omega)|(simp_all;done)|(simp_all;omega)
  rw [hX] at hr;clear hX
  simp only [Prod.mk.injEq] at hr;obtain ⟨rfl,rfl⟩:=hr
  refine aw aa [0,1,2,3,4,5] 5 rfl rfl rfl rfl rfl rfl ?_ ?_
  all_goals first|rfl|(simp [aD,aZ,bg];done)|(simp [aD,aZ,bg];omega)
 have hc7':=of_decide_eq_false hc7
 refine aU ?_
 refine ah ?_
 refine ae aa 5 rfl ?_
 refine an rfl (fun _=>?_) (fun hno=>absurd (hdn.symm.trans hno) (by decide))
 refine ah ?_
 obtain ⟨xr0,e0,hr0⟩:∃ (xr0:cG) (e0:Int),cx b.bx (⟨d.n,d.az,d.sum,b.time⟩:cg)=(xr0,e0):=⟨_,_,rfl⟩
 have hgl:=vE b.bx ((⟨d.n,d.az,d.sum,b.time⟩:cg))
 rw [hr0] at hgl;dsimp only at hgl
 refine dr [0,1,4] [5,0,1,2,3,4] mixed rfl rfl ?_
 refine bU (kn:=[]) aa 23 rfl trivial ?_
 refine ca (n':=6) [59,77] [] rfl rfl (.inl ⟨(aq.plain rfl),aM.cast (ch 6 (Fn.frozen (av':=(.t [(.g [(cI xr0.cap),(fN xr0.used),(gK xr0.bb)]),(.c (cI e0))])) (xq b.bx (⟨d.n,d.az,d.sum,b.time⟩:cg) xr0 e0 hr0) ⟨⟨.inl ⟨_,rfl,rfl⟩,.inr ⟨_,_,_,_,_,rfl,rfl,rfl,by simp⟩,.inr ⟨_,_,_,_,_,rfl,rfl,rfl,by simp⟩,trivial⟩,.inl ⟨_,rfl,rfl⟩,trivial⟩) JK rfl rfl ⟨⟨_,rfl,.g ⟨.d _,.d _,.d _,trivial⟩⟩,⟨_,rfl,.g ⟨.d _,.d _,.d _,.d _,trivial⟩⟩,trivial⟩ ⟨⟨trivial,trivial,trivial,trivial⟩,trivial,trivial⟩ trivial rfl rfl rfl rfl) rfl⟩) rfl ?_
 refine bU (n':=7) (kn:=[]) aa 6 rfl trivial ?_
 refine ef [0,1,4,5,6] [6,5,0,1,2,3,4] rfl rfl (by kernel_rfl) ?_
 refine then_ok ?_
 refine ah ?_
 refine ae aa 2 rfl ?_
 refine an rfl (fun hc9=>?_) (fun hc9=>?_)
 ·
  have hc9':=of_decide_eq_true hc9
  refine ay ?_
  refine ad aa 1 rfl ?_
  refine af ?_
  refine ah ?_
  refine ah ?_
  refine bd [0,1,4,5,6] [6,5,0,1,2,3,4] mixed rfl rfl ?_
  refine aF (kn:=[(84,false)]) aa 15 rfl ⟨rfl,trivial⟩ ?_
  refine bF [6,5,0,1,2,3,4] rfl rfl rfl rfl (by kernel_rfl) ?_
  refine af ?_
  refine an rfl (fun hno=>by cases hno) (fun _=>?_)
  refine aU ?_
  refine ah ?_
  refine aH aa 1 rfl ?_
  refine aE (aN rfl rfl rfl (show _=some (Value.bool true) from rfl)) rfl ?_
  refine af ?_
  refine an rfl (fun _=>?_) (fun hno=>by cases hno)
  refine ae aa 3 rfl ?_
  refine aA ?_
  refine ax ?_
  refine ax ?_
  have hX:du b d=(b,(⟨12,0⟩:Answer)):=by
    unfold du ib;(try simp only [hdn,if_true,hr0]);(repeat' split)<;>first|rfl|omega|(exfalso;omega)|(simp_all;done)|(simp_all;omega)
  rw [hX] at hr;clear hX
  simp only [Prod.mk.injEq] at hr;obtain ⟨rfl,rfl⟩:=hr
  refine aw aa [0,1,2,3,4,5] 5 rfl rfl rfl rfl rfl rfl ?_ ?_
  all_goals first|rfl|(simp [aD,aZ,bg];done)|(simp [aD,aZ,bg];omega)
 have hc9':=of_decide_eq_false hc9
 refine aU ?_
 refine ah ?_
 refine ah ?_
 rcases Bool.eq_false_or_eq_true (decide (e0=0)) with hb12|hb12
 ·
  have hb12':=of_decide_eq_true hb12
  refine bd [0,1,4,5,6] [6,5,0,1,2,3,4] mixed rfl rfl ?_
  refine aF (kn:=[(84,true)]) aa 8 rfl ⟨hb12,trivial⟩ ?_
  refine aX (n':=7) [90,85] [3] rfl rfl (.inl ⟨(aq.yes rfl rfl rfl),aM.cast (dH rfl rfl rfl rfl rfl Try.underlying31) rfl⟩) rfl ?_
  refine aF (kn:=[]) aa 2 rfl trivial ?_
  refine aX (n':=7) [93,85] [] rfl rfl (.inl ⟨(aq.yes rfl rfl rfl),aM.cast (cJ rfl rfl rfl rfl rfl Try.underlying39) rfl⟩) rfl ?_
  refine aX (n':=7) [91,94,85] [] rfl rfl (.inl ⟨(aq.yes rfl rfl rfl),aM.cast (aN rfl rfl rfl (aK (by first|omega|(simp;done)|(simp;omega)))) rfl⟩) rfl ?_
  refine aF (kn:=[]) aa 2 rfl trivial ?_
  refine bF [6,5,0,1,2,3,4] rfl rfl rfl rfl (by kernel_rfl) ?_
  refine af ?_
  refine an rfl (fun hc13=>?_) (fun hc13=>?_)
  ·
   have hc13':=of_decide_eq_true hc13
   refine ay ?_
   refine ad aa 1 rfl ?_
   refine af ?_
   refine ah ?_
   refine aH aa 1 rfl ?_
   refine aE (aN rfl rfl rfl (show _=some (Value.bool true) from rfl)) rfl ?_
   refine af ?_
   refine an rfl (fun _=>?_) (fun hno=>by cases hno)
   refine ae aa 3 rfl ?_
   refine aA ?_
   refine ax ?_
   refine ax ?_
   have hX:du b d=(b,(⟨5,0⟩:Answer)):=by
     unfold du ib;(try simp only [hdn,if_true,hr0]);(repeat' split)<;>first|rfl|omega|(exfalso;omega)|(simp_all;done)|(simp_all;omega)
   rw [hX] at hr;clear hX
   simp only [Prod.mk.injEq] at hr;obtain ⟨rfl,rfl⟩:=hr
   refine aw aa [0,1,2,3,4,5] 5 rfl rfl rfl rfl rfl rfl ?_ ?_
   all_goals first|rfl|(simp [aD,aZ,bg];done)|(simp [aD,aZ,bg];omega)
  have hc13':=of_decide_eq_false hc13
  refine aU ?_
  refine ah ?_
  refine ae aa 2 rfl ?_
  refine an rfl (fun hc15=>?_) (fun hc15=>?_)
  ·
   have hc15':=of_decide_eq_true hc15
   refine ae aa 3 rfl ?_
   refine aA ?_
   refine ax ?_
   refine ax ?_
   have hX:du b d=(b,(⟨e0,0⟩:Answer)):=by
     unfold du ib;(try simp only [hdn,if_true,hr0]);(repeat' split)<;>first|rfl|omega|(exfalso;omega)|(simp_all;done)|(simp_all;omega)
   rw [hX] at hr;clear hX
   simp only [Prod.mk.injEq] at hr;obtain ⟨rfl,rfl⟩:=hr
   refine aw aa [0,1,2,3,4,5] 5 rfl rfl rfl rfl rfl rfl ?_ ?_
   all_goals first|rfl|(simp [aD,aZ,bg];done)|(simp [aD,aZ,bg];omega)
  have hc15':=of_decide_eq_false hc15
  refine aU ?_
  refine ae aa 6 rfl ?_
  refine ah ?_
  refine bd [0,1,4,5] [6,5,0,1,2,3,4] mixed rfl rfl ?_
  refine aF (kn:=[]) aa 5 rfl trivial ?_
  refine aX (n':=7) [111] [3] rfl rfl (.inl ⟨(aq.plain rfl),aM.cast (dH rfl rfl rfl rfl rfl Try.underlying31) rfl⟩) rfl ?_
  refine aF (kn:=[]) aa 2 rfl trivial ?_
  refine aX (n':=7) [114] [] rfl rfl (.inl ⟨(aq.plain rfl),aM.cast (cJ rfl rfl rfl rfl rfl Try.underlying39) rfl⟩) rfl ?_
  refine aX (n':=7) [112,115] [] rfl rfl (.inl ⟨(aq.plain rfl),aM.cast (aN rfl rfl rfl (aK (by first|omega|(simp;done)|(simp;omega)))) rfl⟩) rfl ?_
  refine aX (n':=7) [116] [] rfl rfl (.inl ⟨(aq.plain rfl),aM.cast (aN rfl rfl rfl (aK (by first|omega|(simp;done)|(simp;omega)))) rfl⟩) rfl ?_
  refine aF (kn:=[]) aa 1 rfl trivial ?_
  refine bF [6,5,0,1,2,3,4] rfl rfl rfl rfl (by kernel_rfl) ?_
  refine ad aa 1 rfl ?_
  refine af ?_
  refine aA ?_
  refine ax ?_
  have hX:du b d=((⟨b.time,b.down,b.ag,b.due,b.aj,b.s0,b.s1,b.n0,b.n1,b.w0,b.w1,xr0,b.aQ,b.book⟩:Bk),(⟨0,((↑b.aj.length:Int)+(↑xr0.bb.length:Int)) - 1⟩:Answer)):=by
    unfold du ib;(try simp only [hdn,if_true,hr0]);(repeat' split)<;>first|rfl|omega|(exfalso;omega)|(simp_all;done)|(simp_all;omega)
  rw [hX] at hr;clear hX
  simp only [Prod.mk.injEq] at hr;obtain ⟨rfl,rfl⟩:=hr
  refine aw aa [0,1,2,3,4,5] 5 rfl rfl rfl rfl rfl rfl ?_ ?_
  all_goals first|rfl|(simp [aD,aZ,bg];done)|(simp [aD,aZ,bg];omega)
 have hb12':=of_decide_eq_false hb12
 refine bd [0,1,4,5,6] [6,5,0,1,2,3,4] mixed rfl rfl ?_
 refine aF (kn:=[(84,false)]) aa 15 rfl ⟨hb12,trivial⟩ ?_
 refine bF [6,5,0,1,2,3,4] rfl rfl rfl rfl (by kernel_rfl) ?_
 refine af ?_
 refine an rfl (fun hno=>by cases hno) (fun _=>?_)
 refine aU ?_
 refine ah ?_
 refine ae aa 2 rfl ?_
 refine an rfl (fun hc17=>?_) (fun hc17=>?_)
 ·
  have hc17':=of_decide_eq_true hc17
  refine ae aa 3 rfl ?_
  refine aA ?_
  refine ax ?_
  refine ax ?_
  have hX:du b d=(b,(⟨e0,0⟩:Answer)):=by
    unfold du ib;(try simp only [hdn,if_true,hr0]);(repeat' split)<;>first|rfl|omega|(exfalso;omega)|(simp_all;done)|(simp_all;omega)
  rw [hX] at hr;clear hX
  simp only [Prod.mk.injEq] at hr;obtain ⟨rfl,rfl⟩:=hr
  refine aw aa [0,1,2,3,4,5] 5 rfl rfl rfl rfl rfl rfl ?_ ?_
  all_goals first|rfl|(simp [aD,aZ,bg];done)|(simp [aD,aZ,bg];omega)
 have hc17':=of_decide_eq_false hc17
 refine aU ?_
 refine ae aa 6 rfl ?_
 refine ah ?_
 refine bd [0,1,4,5] [6,5,0,1,2,3,4] mixed rfl rfl ?_
 refine aF (kn:=[]) aa 5 rfl trivial ?_
 refine aX (n':=7) [111] [3] rfl rfl (.inl ⟨(aq.plain rfl),aM.cast (dH rfl rfl rfl rfl rfl Try.underlying31) rfl⟩) rfl ?_
 refine aF (kn:=[]) aa 2 rfl trivial ?_
 refine aX (n':=7) [114] [] rfl rfl (.inl ⟨(aq.plain rfl),aM.cast (cJ rfl rfl rfl rfl rfl Try.underlying39) rfl⟩) rfl ?_
 refine aX (n':=7) [112,115] [] rfl rfl (.inl ⟨(aq.plain rfl),aM.cast (aN rfl rfl rfl (aK (by first|omega|(simp;done)|(simp;omega)))) rfl⟩) rfl ?_
 refine aX (n':=7) [116] [] rfl rfl (.inl ⟨(aq.plain rfl),aM.cast (aN rfl rfl rfl (aK (by first|omega|(simp;done)|(simp;omega)))) rfl⟩) rfl ?_
 refine aF (kn:=[]) aa 1 rfl trivial ?_
 refine bF [6,5,0,1,2,3,4] rfl rfl rfl rfl (by kernel_rfl) ?_
 refine ad aa 1 rfl ?_
 refine af ?_
 refine aA ?_
 refine ax ?_
 have hX:du b d=((⟨b.time,b.down,b.ag,b.due,b.aj,b.s0,b.s1,b.n0,b.n1,b.w0,b.w1,xr0,b.aQ,b.book⟩:Bk),(⟨0,((↑b.aj.length:Int)+(↑xr0.bb.length:Int)) - 1⟩:Answer)):=by
   unfold du ib;(try simp only [hdn,if_true,hr0]);(repeat' split)<;>first|rfl|omega|(exfalso;omega)|(simp_all;done)|(simp_all;omega)
 rw [hX] at hr;clear hX
 simp only [Prod.mk.injEq] at hr;obtain ⟨rfl,rfl⟩:=hr
 refine aw aa [0,1,2,3,4,5] 5 rfl rfl rfl rfl rfl rfl ?_ ?_
 all_goals first|rfl|(simp [aD,aZ,bg];done)|(simp [aD,aZ,bg];omega)
theorem Ja (x:Nat->Value) (hx:∀ i,(x i).oneCell'=true) (b:Bk) (d:aV) (ok:ct b) (b2:Bk) (a2:Answer) (hr:du b d=(b2,a2)):cL Try.prog 63 [(.c (.p 0 0 0 0)),(.c (.q (cX d) 0))] [(0,(.box 98 (aZ b 1 2 3 4 (.d (.v (x 17))) (.d (.v (x 19)))))),(1,(ek b.ag)),(2,(dS b.due)),(3,(ep b.aj)),(4,(cU b.aQ))] [0] (.v (.g [cI a2.err,cI a2.ba])) [(0,(.box 98 (aZ b2 1 2 3 4 (.d (.v (x 17))) (.d (.v (x 19)))))),(1,(ek b2.ag)),(2,(dS b2.due)),(3,(ep b2.aj)),(4,(cU b2.aQ))]:=by
  cases hdn:b.down
  ·exact HR x hx b d ok hdn b2 a2 hr
  ·exact HS x hx b d ok hdn b2 a2 hr

theorem CO (x:Nat->Value) (hx:∀ i,(x i).oneCell'=true) (b:Bk) (d:aV) (ok:ct b) (hdn:b.down=false) (b2:Bk) (a2:Answer) (hr:cT b d=(b2,a2)):cL Try.prog 64 [(.c (.p 0 0 0 0)),(.c (.q (cX d) 0))] [(0,(.box 98 (aZ b 1 2 3 4 (.d (.v (x 17))) (.d (.v (x 19)))))),(1,(ek b.ag)),(2,(dS b.due)),(3,(ep b.aj)),(4,(cU b.aQ))] [0] (.v (.g [cI a2.err,cI a2.ba])) [(0,(.box 98 (aZ b2 1 2 3 4 (.d (.v (x 17))) (.d (.v (x 19)))))),(1,(ek b2.ag)),(2,(dS b2.due)),(3,(ep b2.aj)),(4,(cU b2.aQ))]:=by
 refine cL.mk 246 [(0,(aC (.p 0 0 0 0))),(1,(aC (.q (cX d) 0)))] 5 Try.func64 rfl rfl rfl rfl rfl rfl rfl rfl rfl ?_
 intro W0 F0 T0 pg
 obtain ⟨okt,okc,okd,oka,oky,okw0,okw1,okp,okv,okk0,okk1,okg,okl0,okl1,okp0,okp1,okn0,okn1,okq⟩:=id ok
 refine ae aa 1 rfl ?_
 refine ah ?_
 refine ae aa 5 rfl ?_
 refine an rfl (fun hno=>absurd (hdn.symm.trans hno) (by decide)) (fun _=>?_)
 refine aU ?_
 refine ah ?_
 refine ah ?_
 rcases Bool.eq_false_or_eq_true (decide (d.n < 0)) with hb2|hb2
 ·
  have hb2':=of_decide_eq_true hb2
  refine bd [0,1,4] [5,0,1,2,3,4] mixed rfl rfl ?_
  refine aF (kn:=[(22,true)]) aa 18 rfl ⟨hb2,trivial⟩ ?_
  refine bF [5,0,1,2,3,4] rfl rfl rfl rfl (by kernel_rfl) ?_
  refine af ?_
  refine an rfl (fun _=>?_) (fun hno=>by cases hno)
  refine ae aa 2 rfl ?_
  refine aA ?_
  refine ax ?_
  have hX:cT b d=(b,(⟨6,0⟩:Answer)):=by
    unfold cT;simp only [hdn,Bool.false_eq_true,if_false];(repeat' split)<;>first|rfl|omega|(exfalso;omega)|(simp_all;done)|(simp_all;omega)
  rw [hX] at hr;clear hX
  simp only [Prod.mk.injEq] at hr;obtain ⟨rfl,rfl⟩:=hr
  refine aw aa [0,1,2,3,4,5] 5 rfl rfl rfl rfl rfl rfl ?_ ?_
  all_goals first|rfl|(simp [aD,aZ,bg];done)|(simp [aD,aZ,bg];omega)
 have hb2':=of_decide_eq_false hb2
 refine bd [0,1,4] [5,0,1,2,3,4] mixed rfl rfl ?_
 refine aF (kn:=[(22,false)]) aa 15 rfl ⟨hb2,trivial⟩ ?_
 refine aX (n':=6) [32,23] [3] rfl rfl (.inl ⟨(aq.yes rfl rfl rfl),aM.cast (dH rfl rfl rfl rfl rfl Try.underlying31) rfl⟩) rfl ?_
 refine aF (kn:=[]) aa 2 rfl trivial ?_
 refine bF [5,0,1,2,3,4] rfl rfl rfl rfl (by kernel_rfl) ?_
 refine af ?_
 refine an rfl (fun hc4=>?_) (fun hc4=>?_)
 ·
  have hc4':=of_decide_eq_true hc4
  refine ae aa 2 rfl ?_
  refine aA ?_
  refine ax ?_
  have hX:cT b d=(b,(⟨6,0⟩:Answer)):=by
    unfold cT;simp only [hdn,Bool.false_eq_true,if_false];(repeat' split)<;>first|rfl|omega|(exfalso;omega)|(simp_all;done)|(simp_all;omega)
  rw [hX] at hr;clear hX
  simp only [Prod.mk.injEq] at hr;obtain ⟨rfl,rfl⟩:=hr
  refine aw aa [0,1,2,3,4,5] 5 rfl rfl rfl rfl rfl rfl ?_ ?_
  all_goals first|rfl|(simp [aD,aZ,bg];done)|(simp [aD,aZ,bg];omega)
 have hc4':=of_decide_eq_false hc4
 refine aU ?_
 refine ah ?_
 obtain ⟨x1,hx1⟩:=cr (xs:=b.aj) (i:=Int.toNat (d.n)) (by first|omega|(simp;done)|(simp;omega))
 refine bd [0,1,4] [5,0,1,2,3,4] mixed rfl rfl ?_
 refine aF (kn:=[]) aa 9 rfl trivial ?_
 refine aX (n':=6) [41,45] [3] rfl rfl (.inl ⟨(aq.plain rfl),aM.cast (br (i:=Int.toNat (d.n)) rfl rfl rfl Try.underlying31 mq (by first|omega|(simp;done)|(simp;omega)) (by first|omega|(simp;done)|(simp;omega))) rfl⟩) rfl ?_
 refine aX (n':=6) [46] [3] rfl rfl (.inl ⟨(aq.plain rfl),aM.cast (dy rfl rfl rfl Try.underlying67 rfl mq (bz hx1) rfl) rfl⟩) rfl ?_
 refine aF (n':=7) (kn:=[]) aa 1 rfl trivial ?_
 refine bF [6,5,0,1,2,3,4] rfl rfl rfl rfl (by kernel_rfl) ?_
 refine ad aa 1 rfl ?_
 refine af ?_
 refine ah ?_
 obtain ⟨b0,e0,hr0⟩:∃ (b0:bl) (e0:Int),bX x1 d.move d.sum=(b0,e0):=⟨_,_,rfl⟩
 refine dr [0,1,4,5] [6,5,0,1,2,3,4] mixed rfl rfl ?_
 refine bU (kn:=[]) aa 9 rfl trivial ?_
 refine ca (n':=7) [49,53,57] [] rfl rfl (.inl ⟨(aq.plain rfl),aM.cast (ch 7 (yq x1 d.move d.sum b0 e0 hr0) JI rfl rfl ⟨⟨_,rfl,.g ⟨.d _,.d _,.d _,.d _,.d _,.d _,.d _,.d _,trivial⟩⟩,⟨_,rfl,.c (.d _)⟩,⟨_,rfl,.c (.d _)⟩,trivial⟩ ⟨⟨trivial,trivial,trivial,trivial,trivial,trivial,trivial,trivial,trivial⟩,trivial,trivial⟩ trivial rfl rfl rfl rfl) rfl⟩) rfl ?_
 refine bU (n':=8) (kn:=[]) aa 6 rfl trivial ?_
 refine ef [0,1,4,5,6,7] [7,6,5,0,1,2,3,4] rfl rfl (by kernel_rfl) ?_
 refine then_ok ?_
 refine ah ?_
 refine ae aa 2 rfl ?_
 refine an rfl (fun hc5=>?_) (fun hc5=>?_)
 ·
  have hc5':=of_decide_eq_true hc5
  refine ae aa 3 rfl ?_
  refine aA ?_
  refine ax ?_
  have hX:cT b d=(b,(⟨e0,0⟩:Answer)):=by
    unfold cT;simp only [hdn,Bool.false_eq_true,if_false];rw [if_neg (by omega),hx1];dsimp only;simp only [hr0];(repeat' split)<;>first|rfl|omega|(exfalso;omega)|(simp_all;done)|(simp_all;omega)
  rw [hX] at hr;clear hX
  simp only [Prod.mk.injEq] at hr;obtain ⟨rfl,rfl⟩:=hr
  refine aw aa [0,1,2,3,4,5] 5 rfl rfl rfl rfl rfl rfl ?_ ?_
  all_goals first|rfl|(simp [aD,aZ,bg];done)|(simp [aD,aZ,bg];omega)
 have hc5':=of_decide_eq_false hc5
 refine aU ?_
 obtain ⟨mw1,mw2,mc,ms,mk1,mk2,mn1,mn2⟩:=ik (show bX x1 d.move d.sum=(b0,0) by rw [hr0];congr 1;omega)
 have hoP:=okp x1 (List.mem_of_getElem? hx1)
 have hI0:∀ t∈b.s0.kept,fA t.number:=fun t ht=>(okk0 t ht).1
 have hI1:∀ t∈b.s1.kept,fA t.number:=fun t ht=>(okk1 t ht).1
 refine aH aa 1 rfl ?_
 refine aP 17 [0,8,9,10,11,12,13,14,15,16,7,6,5] (cO id (bc [0,8,9,10,11,12,13,14,15,16]) (kW (x 17) (x 19) b (by first|omega|(simp;done)|(simp;omega)) (by first|omega|(simp;done)|(simp;omega)) (by first|omega|(simp;done)|(simp;omega)) (by first|omega|(simp;done)|(simp;omega))) sg rfl rfl ⟨⟨_,rfl,.inl ⟨rfl,rfl⟩⟩,trivial⟩ ⟨rfl,rfl,rfl,rfl,rfl,trivial⟩ rfl rfl rfl rfl rfl rfl trivial ⟨⟨trivial,trivial,trivial,trivial,trivial,trivial,trivial,trivial,trivial,trivial,trivial,trivial,trivial,trivial,trivial,trivial,trivial,trivial,trivial,trivial,trivial⟩,⟨trivial,trivial,trivial,trivial,trivial,trivial,trivial,trivial,trivial,trivial,trivial,trivial,trivial,trivial,trivial,trivial,trivial,trivial,trivial,trivial,trivial⟩,(fun _ _ _ _=>trivial),(fun _ _ _ _=>trivial),(fun _ _ _ _=>trivial),(fun _ _ _ _=>trivial),(fun _ _ _ _=>trivial),(fun _ _ _ _=>trivial),(fun _ _ _ _=>trivial),(fun _ _ _ _=>trivial),trivial⟩ rfl rfl rfl rfl) rfl ?_
 refine ad aa 1 rfl ?_
 refine af ?_
 refine ah ?_
 obtain ⟨e1,hr1⟩:∃ (e1:Int),bQ b0=e1:=⟨_,rfl⟩
 have hhb1:=pU (show bL b0=0 by assumption)
 rw [hr1] at hhb1
 obtain ⟨e2,hr2⟩:∃ (e2:Int),bQ x1=e2:=⟨_,rfl⟩
 have hhb2:=pU (show bL x1=0 by assumption)
 rw [hr2] at hhb2
 refine bd [0,1,4,5,6,8] [0,8,9,10,11,12,13,14,15,16,7,6,5] mixed rfl rfl ?_
 refine aF (kn:=[]) aa 1 rfl trivial ?_
 refine aX (n':=17) [67] [] rfl rfl (.inl ⟨(aq.plain rfl),aM.cast (ch 17 (lg b0 (by first|assumption|omega|rfl|decide) e1 hr1) Aw rfl rfl ⟨⟨_,rfl,.g ⟨.d _,.d _,.d _,.d _,.d _,.d _,.d _,.d _,trivial⟩⟩,trivial⟩ trivial trivial rfl rfl rfl rfl) rfl⟩) rfl ?_
 refine aF (kn:=[]) aa 1 rfl trivial ?_
 refine aX (n':=17) [69] [] rfl rfl (.inl ⟨(aq.plain rfl),aM.cast (ch 17 (lg x1 (by first|assumption|omega|rfl|decide) e2 hr2) Aw rfl rfl ⟨⟨_,rfl,.g ⟨.d _,.d _,.d _,.d _,.d _,.d _,.d _,.d _,trivial⟩⟩,trivial⟩ trivial trivial rfl rfl rfl rfl) rfl⟩) rfl ?_
 refine aX (n':=17) [68,70] [] rfl rfl (.inl ⟨(aq.plain rfl),aM.cast (aN rfl rfl rfl (aK (by first|omega|(simp;done)|(simp;omega)))) rfl⟩) rfl ?_
 refine aF (kn:=[]) aa 1 rfl trivial ?_
 refine bF [0,8,9,10,11,12,13,14,15,16,7,6,5] rfl rfl rfl rfl (by kernel_rfl) ?_
 refine af ?_
 refine ah ?_
 refine xR (J:=⟨[(0,(aC (.p 0 0 0 0))),(1,(aC (.q (cX d) 0))),(4,(aC (.p 5 0 0 0))),(6,(aC (.p 7 0 0 0))),(8,(aC (.p 8 0 0 0))),(9,(aI (e1 - e2))),(93,(aB (decide (d.move=1/\d.sum > lB b.ag b0.aO))))],[(0,(.box 98 (aZ b 9 10 11 12 (.d (.v (x 17))) (.d (.v (x 19)))))),(8,(.box 147 (aZ b 13 14 15 16 (.d (.v (x 17))) (cI 0)))),(9,(ek b.ag)),(10,(dS b.due)),(11,(ep b.aj)),(12,(cU b.aQ)),(13,(ek b.ag)),(14,(dS b.due)),(15,(ep b.aj)),(16,(cU b.aQ)),(7,(.box 67 [(cI b0.aO),(cI b0.az),(cI b0.sum),(cI b0.captured),(cI b0.bC),(cI b0.bj),(cI b0.dq),(cB b0.shut)])),(5,(.box 65 [(cI 0),(cI 0)]))],17⟩) ?_ ?_
 ·
  rcases Bool.eq_false_or_eq_true (decide (d.move=1)) with hb6|hb6
  ·
   have hb6':=of_decide_eq_true hb6
   obtain ⟨x2,hx2⟩:=cr (xs:=b.ag) (i:=Int.toNat (b0.aO)) (by first|omega|(simp;done)|(simp;omega))
   have hx2g:=Dm (okg x2 (List.mem_of_getElem? hx2))
   refine bd [0,1,4,6,8,9] [0,8,9,10,11,12,13,14,15,16,7,5] mixed rfl rfl ?_
   refine aF (kn:=[(76,true)]) aa 17 rfl ⟨hb6,trivial⟩ ?_
   refine aX (n':=17) [86,88,77] [13] rfl rfl (.inl ⟨(aq.yes rfl rfl rfl),aM.cast (br (i:=Int.toNat (b0.aO)) rfl rfl rfl Try.underlying29 jx (by first|omega|(simp;done)|(simp;omega)) (by first|omega|(simp;done)|(simp;omega))) rfl⟩) rfl ?_
   refine aX (n':=17) [89,77] [13] rfl rfl (.inl ⟨(aq.yes rfl rfl rfl),aM.cast (dy rfl rfl rfl Try.underlying61 rfl jx (bz hx2) rfl) rfl⟩) rfl ?_
   refine aX (n':=17) [90,77] [] rfl rfl (.inl ⟨(aq.yes rfl rfl rfl),aM.cast (ch 17 (rl x2 (by first|assumption|omega|(constructor<;>decide)|(have hz:=iy (by first|assumption|omega);omega))) HE rfl rfl ⟨⟨_,rfl,.g ⟨.d _,.d _,.d _,.d _,.d _,.d _,trivial⟩⟩,trivial⟩ trivial trivial rfl rfl rfl rfl) rfl⟩) rfl ?_
   refine aF (kn:=[]) aa 2 rfl trivial ?_
   refine bF [0,8,9,10,11,12,13,14,15,16,7,5] rfl rfl rfl rfl (by kernel_rfl) ?_
   refine af ?_
   rw [show (decide (d.move=1/\d.sum > lB b.ag b0.aO))=(decide (d.sum > (x2.bB - x2.held))) by (unfold lB;rw [hx2];dsimp only;first|(simp_all;done)|(simp_all;omega))]
   exact aJ.cc id (⟨rfl,rfl,rfl,rfl,rfl,rfl,rfl,trivial⟩) (⟨rfl,rfl,rfl,rfl,rfl,rfl,rfl,rfl,rfl,rfl,rfl,rfl,trivial⟩) rfl
  have hb6':=of_decide_eq_false hb6
  refine bd [0,1,4,6,8,9] [0,8,9,10,11,12,13,14,15,16,7,5] mixed rfl rfl ?_
  refine aF (kn:=[(76,false)]) aa 22 rfl ⟨hb6,trivial⟩ ?_
  refine bF [0,8,9,10,11,12,13,14,15,16,7,5] rfl rfl rfl rfl (by kernel_rfl) ?_
  refine af ?_
  rw [show (decide (d.move=1/\d.sum > lB b.ag b0.aO))=(false) by (unfold lB;first|(simp_all;done)|(simp_all;omega))]
  exact aJ.cc id (⟨rfl,rfl,rfl,rfl,rfl,rfl,rfl,trivial⟩) (⟨rfl,rfl,rfl,rfl,rfl,rfl,rfl,rfl,rfl,rfl,rfl,rfl,trivial⟩) rfl
 refine an rfl (fun hc7=>?_) (fun hc7=>?_)
 ·
  have hc7':=of_decide_eq_true hc7
  refine ae aa 2 rfl ?_
  refine aA ?_
  refine ax ?_
  have hX:cT b d=(b,(⟨10,0⟩:Answer)):=by
    unfold cT;simp only [hdn,Bool.false_eq_true,if_false];rw [if_neg (by omega),hx1];dsimp only;simp only [hr0];(repeat' split)<;>first|rfl|omega|(exfalso;omega)|(simp_all;done)|(simp_all;omega)
  rw [hX] at hr;clear hX
  simp only [Prod.mk.injEq] at hr;obtain ⟨rfl,rfl⟩:=hr
  refine aw aa [0,9,10,11,12,5] 5 rfl rfl rfl rfl rfl rfl ?_ ?_
  all_goals first|rfl|(simp [aD,aZ,bg];done)|(simp [aD,aZ,bg];omega)
 have hc7':=of_decide_eq_false hc7
 refine aU ?_
 refine ah ?_
 refine bd [0,1,4,6,8,9] [0,8,9,10,11,12,13,14,15,16,7,5] mixed rfl rfl ?_
 refine aF (kn:=[]) aa 2 rfl trivial ?_
 refine aX (n':=17) [96] [] rfl rfl (.inl ⟨(aq.plain rfl),aM.cast (aN rfl rfl rfl (aK (by first|omega|(simp;done)|(simp;omega)))) rfl⟩) rfl ?_
 refine aF (n':=18) (kn:=[]) aa 11 rfl trivial ?_
 refine bF [17,0,8,9,10,11,12,13,14,15,16,7,5] rfl rfl rfl rfl (by kernel_rfl) ?_
 refine ad aa 1 rfl ?_
 refine af ?_
 obtain ⟨jcards,jdue,jbook,js0,js1,je,hj⟩:∃ (jcards:List bD) (jdue:List Int) (jbook:List Entry) (js0:bO) (js1:bO) (je:Int),dn b b0 x1 d=(jcards,jdue,jbook,js0,js1,je):=⟨_,_,_,_,_,_,rfl⟩
 have hj0:=hj
 refine xR (J:=⟨[(0,(aC (.p 0 0 0 0))),(1,(aC (.q (cX d) 0))),(4,(aC (.p 5 0 0 0))),(6,(aC (.p 7 0 0 0))),(8,(aC (.p 8 0 0 0)))],[(0,(.box 98 (aZ b 9 10 11 12 (.d (.v (x 17))) (.d (.v (x 19)))))),(8,(.box 147 ((((((((aZ b 13 14 15 16 (.d (.v (x 17))) (cI je)).set 2 (.s 13 0 6 jcards.length)).set 3 (.s 14 0 1 jdue.length)).set 5 (cI js0.bG)).set 6 (dh js0.kept)).set 7 (cI js1.bG)).set 8 (dh js1.kept)).set 18 (dR jbook)))),(9,(ek b.ag)),(10,(dS b.due)),(11,(ep b.aj)),(12,(cU b.aQ)),(13,(ek jcards)),(14,(dS jdue)),(15,(ep b.aj)),(16,(cU b.aQ)),(7,(.box 67 [(cI b0.aO),(cI b0.az),(cI b0.sum),(cI b0.captured),(cI b0.bC),(cI b0.bj),(cI b0.dq),(cB b0.shut)])),(5,(.box 65 [(cI 0),(cI 0)]))],17⟩) ?_ ?_
 ·
  refine ae aa 4 rfl ?_
  refine aY ?_
  refine ah ?_
  refine ae aa 2 rfl ?_
  refine an rfl (fun hc8=>?_) (fun hc8=>?_)
  ·
   have hc8':=of_decide_eq_true hc8
   refine aU ?_
   refine an rfl (fun _=>?_) (fun hno=>absurd (hc8.symm.trans hno) (by decide))
   refine ay ?_
   refine ad aa 4 rfl ?_
   obtain ⟨l23,e23,hr3⟩:∃ (l23:List bD) (e23:Int),cE b.ag 0 b0.aO (e1 - e2) 0=(l23,e23):=⟨_,_,rfl⟩
   refine aP 19 [8,18,17,0,9,10,11,12,14,15,16,7,5] (cw (bc [8,13]) (bc [8,18]) (ms:=((dO.set 2 (some (.s 1 0 6 b.ag.length))).set 19 (some (cI 0)))) (ms':=((dO.set 2 (some (.s 1 0 6 l23.length))).set 19 (some (cI e23)))) (fun x hx=>jr x hx b.ag 0 b0.aO (e1 - e2) 0 (by first|omega|(simp;done)|(simp;omega)) l23 e23 hr3) oN rfl rfl ⟨⟨_,rfl,.inl ⟨rfl,rfl⟩⟩,⟨_,rfl,.inr (.c (.d _))⟩,⟨_,rfl,.inr (.c (.d _))⟩,⟨_,rfl,.inr (.c (.d _))⟩,trivial⟩ rfl rfl rfl rfl rfl rfl rfl ⟨rfl,trivial⟩ rfl rfl rfl rfl rfl rfl rfl rfl rfl rfl rfl rfl rfl) rfl ?_
   refine cf ?_
   refine bq ?_
   refine then_ok ?_
   have hX:dn b b0 x1 d=(l23,b.due,b.book,b.s0,b.s1,e23):=by
     unfold dn;(try simp only [hr1,hr2,hr3]);(repeat' split)<;>first|rfl|omega|(exfalso;omega)|(simp_all;done)|(simp_all;omega)
   rw [hX] at hj;clear hX;simp only [Prod.mk.injEq] at hj;obtain ⟨rfl,rfl,rfl,rfl,rfl,rfl⟩:=hj
   exact aJ.cc (fun k=>if k=13 then 18 else k) (by refine ⟨?_,?_,?_,?_,?_,trivial⟩<;>first|rfl|(simp only [bn];done)|(congr 3;omega)|(congr 4;omega)|(simp only [bo];rfl)) (by refine ⟨?_,?_,?_,?_,?_,?_,?_,?_,?_,?_,?_,?_,trivial⟩<;>first|rfl|(simp only [bn];done)|(congr 3;omega)|(congr 4;omega)|(simp only [bo];rfl)) rfl
  have hc8':=of_decide_eq_false hc8
  refine ay ?_
  refine ad aa 2 rfl ?_
  refine af ?_
  refine an rfl (fun hc10=>?_) (fun hc10=>?_)
  ·
   have hc10':=of_decide_eq_true hc10
   refine ay ?_
   refine ad aa 4 rfl ?_
   obtain ⟨l24,e24,hr4⟩:∃ (l24:List bD) (e24:Int),cE b.ag 0 b0.aO (e1 - e2) 0=(l24,e24):=⟨_,_,rfl⟩
   refine aP 19 [8,18,17,0,9,10,11,12,14,15,16,7,5] (cw (bc [8,13]) (bc [8,18]) (ms:=((dO.set 2 (some (.s 1 0 6 b.ag.length))).set 19 (some (cI 0)))) (ms':=((dO.set 2 (some (.s 1 0 6 l24.length))).set 19 (some (cI e24)))) (fun x hx=>jr x hx b.ag 0 b0.aO (e1 - e2) 0 (by first|omega|(simp;done)|(simp;omega)) l24 e24 hr4) oN rfl rfl ⟨⟨_,rfl,.inl ⟨rfl,rfl⟩⟩,⟨_,rfl,.inr (.c (.d _))⟩,⟨_,rfl,.inr (.c (.d _))⟩,⟨_,rfl,.inr (.c (.d _))⟩,trivial⟩ rfl rfl rfl rfl rfl rfl rfl ⟨rfl,trivial⟩ rfl rfl rfl rfl rfl rfl rfl rfl rfl rfl rfl rfl rfl) rfl ?_
   refine cf ?_
   refine bq ?_
   refine then_ok ?_
   have hX:dn b b0 x1 d=(l24,b.due,b.book,b.s0,b.s1,e24):=by
     unfold dn;(try simp only [hr1,hr2,hr4]);(repeat' split)<;>first|rfl|omega|(exfalso;omega)|(simp_all;done)|(simp_all;omega)
   rw [hX] at hj;clear hX;simp only [Prod.mk.injEq] at hj;obtain ⟨rfl,rfl,rfl,rfl,rfl,rfl⟩:=hj
   exact aJ.cc (fun k=>if k=13 then 18 else k) (by refine ⟨?_,?_,?_,?_,?_,trivial⟩<;>first|rfl|(simp only [bn];done)|(congr 3;omega)|(congr 4;omega)|(simp only [bo];rfl)) (by refine ⟨?_,?_,?_,?_,?_,?_,?_,?_,?_,?_,?_,?_,trivial⟩<;>first|rfl|(simp only [bn];done)|(congr 3;omega)|(congr 4;omega)|(simp only [bo];rfl)) rfl
  have hc10':=of_decide_eq_false hc10
  refine ah ?_
  refine ae aa 2 rfl ?_
  refine an rfl (fun hc11=>?_) (fun hc11=>?_)
  ·
   have hc11':=of_decide_eq_true hc11
   refine aU ?_
   refine an rfl (fun _=>?_) (fun hno=>absurd (hc11.symm.trans hno) (by decide))
   refine ah ?_
   obtain ⟨l25,e25,hr5⟩:∃ (l25:List bD) (e25:Int),cE b.ag 0 b0.aO (e1 - e2) (0 - d.sum)=(l25,e25):=⟨_,_,rfl⟩
   refine dr [0,1,4,6,8,9,11,10] [17,0,8,9,10,11,12,13,14,15,16,7,5] mixed rfl rfl ?_
   refine bU (kn:=[]) aa 8 rfl trivial ?_
   refine ca (n':=18) [129] [] rfl rfl (.inl ⟨(aq.plain rfl),aM.cast (tm rfl rfl (aK (by first|omega|(simp;done)|(simp;omega)))) rfl⟩) rfl ?_
   refine ca (n':=19) [122,124,125,130] [13,8] rfl rfl (.inl ⟨(aq.plain rfl),aM.cast (cw (bc [8,13]) (bc [8,18]) (ms:=((dO.set 2 (some (.s 1 0 6 b.ag.length))).set 19 (some (cI 0)))) (ms':=((dO.set 2 (some (.s 1 0 6 l25.length))).set 19 (some (cI e25)))) (fun x hx=>jr x hx b.ag 0 b0.aO (e1 - e2) (0 - d.sum) (by first|omega|(simp;done)|(simp;omega)) l25 e25 hr5) oN rfl rfl ⟨⟨_,rfl,.inl ⟨rfl,rfl⟩⟩,⟨_,rfl,.inr (.c (.d _))⟩,⟨_,rfl,.inr (.c (.d _))⟩,⟨_,rfl,.inr (.c (.d _))⟩,trivial⟩ rfl rfl rfl rfl rfl rfl rfl ⟨rfl,trivial⟩ rfl rfl rfl rfl rfl rfl rfl rfl rfl rfl rfl rfl rfl) rfl⟩) rfl ?_
   refine ef [0,1,4,6,8,11,10] [18,8,17,0,9,10,11,12,14,15,16,7,5] rfl rfl (by kernel_rfl) ?_
   refine then_ok ?_
   refine aH aa 6 rfl ?_
   obtain ⟨l26,e26,hr6⟩:∃ (l26:List Entry) (e26:Int),dL b.book e25 (10+b0.aO) 1 d.sum=(l26,e26):=⟨_,_,rfl⟩
   refine aP 19 [8,18,17,0,9,10,11,12,14,15,16,7,5] (cw (bc [8]) (bc [8]) (ms:=((dO.set 18 (some (dR b.book))).set 19 (some (cI e25)))) (ms':=((dO.set 18 (some (dR l26))).set 19 (some (cI e26)))) (fun x hx=>jF x hx b.book e25 (10+b0.aO) 1 d.sum l26 e26 hr6) nz rfl rfl ⟨⟨_,rfl,.inl ⟨rfl,rfl⟩⟩,⟨_,rfl,.inr (.c (.d _))⟩,⟨_,rfl,.inr (.c (.d _))⟩,⟨_,rfl,.inr (.c (.d _))⟩,trivial⟩ rfl rfl rfl rfl rfl rfl rfl trivial rfl rfl rfl rfl rfl rfl rfl rfl rfl rfl rfl rfl rfl) rfl ?_
   refine af ?_
   refine ae aa 2 rfl ?_
   refine ay ?_
   refine ad aa 2 rfl ?_
   obtain ⟨s27,e27,hr7⟩:∃ (s27:bO) (e27:Int),fb b.s0 e26 (⟨0,1,d.n,d.sum⟩:aS)=(s27,e27):=⟨_,_,rfl⟩
   refine aP 19 [8,18,17,0,9,10,11,12,14,15,16,7,5] (cw (bc [8]) (bc [8]) (ms:=(((dO.set 5 (some (cI b.s0.bG))).set 6 (some (dh b.s0.kept))).set 19 (some (cI e26)))) (ms':=(((dO.set 5 (some (cI s27.bG))).set 6 (some (dh s27.kept))).set 19 (some (cI e27)))) (fun x hx=>uh x hx b.s0 e26 (⟨0,1,d.n,d.sum⟩:aS) (by assumption) s27 e27 hr7) At rfl rfl ⟨⟨_,rfl,.inl ⟨rfl,rfl⟩⟩,⟨_,rfl,.inr (.c (.d _))⟩,⟨_,rfl,.inr (.g ⟨.d _,.d _,.d _,.d _,trivial⟩)⟩,trivial⟩ rfl rfl rfl rfl rfl rfl rfl trivial rfl rfl rfl rfl rfl rfl rfl rfl rfl rfl rfl rfl rfl) rfl ?_
   refine cf ?_
   refine bq ?_
   refine then_ok ?_
   have hX:dn b b0 x1 d=(l25,b.due,l26,s27,b.s1,e27):=by
     unfold dn;(try simp only [hr1,hr2,hr5,hr6,hr7]);(repeat' split)<;>first|rfl|omega|(exfalso;omega)|(simp_all;done)|(simp_all;omega)
   rw [hX] at hj;clear hX;simp only [Prod.mk.injEq] at hj;obtain ⟨rfl,rfl,rfl,rfl,rfl,rfl⟩:=hj
   exact aJ.cc (fun k=>if k=13 then 18 else k) (by refine ⟨?_,?_,?_,?_,?_,trivial⟩<;>first|rfl|(simp only [bn];done)|(congr 3;omega)|(congr 4;omega)|(simp only [bo];rfl)) (by refine ⟨?_,?_,?_,?_,?_,?_,?_,?_,?_,?_,?_,?_,trivial⟩<;>first|rfl|(simp only [bn];done)|(congr 3;omega)|(congr 4;omega)|(simp only [bo];rfl)) rfl
  have hc11':=of_decide_eq_false hc11
  refine ay ?_
  refine ad aa 2 rfl ?_
  refine af ?_
  refine an rfl (fun hc13=>?_) (fun hc13=>?_)
  ·
   have hc13':=of_decide_eq_true hc13
   refine ah ?_
   obtain ⟨l28,e28,hr8⟩:∃ (l28:List bD) (e28:Int),cE b.ag 0 b0.aO (e1 - e2) (0 - d.sum)=(l28,e28):=⟨_,_,rfl⟩
   refine dr [0,1,4,6,8,9,11,10] [17,0,8,9,10,11,12,13,14,15,16,7,5] mixed rfl rfl ?_
   refine bU (kn:=[]) aa 8 rfl trivial ?_
   refine ca (n':=18) [129] [] rfl rfl (.inl ⟨(aq.plain rfl),aM.cast (tm rfl rfl (aK (by first|omega|(simp;done)|(simp;omega)))) rfl⟩) rfl ?_
   refine ca (n':=19) [122,124,125,130] [13,8] rfl rfl (.inl ⟨(aq.plain rfl),aM.cast (cw (bc [8,13]) (bc [8,18]) (ms:=((dO.set 2 (some (.s 1 0 6 b.ag.length))).set 19 (some (cI 0)))) (ms':=((dO.set 2 (some (.s 1 0 6 l28.length))).set 19 (some (cI e28)))) (fun x hx=>jr x hx b.ag 0 b0.aO (e1 - e2) (0 - d.sum) (by first|omega|(simp;done)|(simp;omega)) l28 e28 hr8) oN rfl rfl ⟨⟨_,rfl,.inl ⟨rfl,rfl⟩⟩,⟨_,rfl,.inr (.c (.d _))⟩,⟨_,rfl,.inr (.c (.d _))⟩,⟨_,rfl,.inr (.c (.d _))⟩,trivial⟩ rfl rfl rfl rfl rfl rfl rfl ⟨rfl,trivial⟩ rfl rfl rfl rfl rfl rfl rfl rfl rfl rfl rfl rfl rfl) rfl⟩) rfl ?_
   refine ef [0,1,4,6,8,11,10] [18,8,17,0,9,10,11,12,14,15,16,7,5] rfl rfl (by kernel_rfl) ?_
   refine then_ok ?_
   refine aH aa 6 rfl ?_
   obtain ⟨l29,e29,hr9⟩:∃ (l29:List Entry) (e29:Int),dL b.book e28 (10+b0.aO) 1 d.sum=(l29,e29):=⟨_,_,rfl⟩
   refine aP 19 [8,18,17,0,9,10,11,12,14,15,16,7,5] (cw (bc [8]) (bc [8]) (ms:=((dO.set 18 (some (dR b.book))).set 19 (some (cI e28)))) (ms':=((dO.set 18 (some (dR l29))).set 19 (some (cI e29)))) (fun x hx=>jF x hx b.book e28 (10+b0.aO) 1 d.sum l29 e29 hr9) nz rfl rfl ⟨⟨_,rfl,.inl ⟨rfl,rfl⟩⟩,⟨_,rfl,.inr (.c (.d _))⟩,⟨_,rfl,.inr (.c (.d _))⟩,⟨_,rfl,.inr (.c (.d _))⟩,trivial⟩ rfl rfl rfl rfl rfl rfl rfl trivial rfl rfl rfl rfl rfl rfl rfl rfl rfl rfl rfl rfl rfl) rfl ?_
   refine af ?_
   refine ae aa 2 rfl ?_
   refine ay ?_
   refine ad aa 2 rfl ?_
   obtain ⟨s210,e210,hr10⟩:∃ (s210:bO) (e210:Int),fb b.s0 e29 (⟨0,1,d.n,d.sum⟩:aS)=(s210,e210):=⟨_,_,rfl⟩
   refine aP 19 [8,18,17,0,9,10,11,12,14,15,16,7,5] (cw (bc [8]) (bc [8]) (ms:=(((dO.set 5 (some (cI b.s0.bG))).set 6 (some (dh b.s0.kept))).set 19 (some (cI e29)))) (ms':=(((dO.set 5 (some (cI s210.bG))).set 6 (some (dh s210.kept))).set 19 (some (cI e210)))) (fun x hx=>uh x hx b.s0 e29 (⟨0,1,d.n,d.sum⟩:aS) (by assumption) s210 e210 hr10) At rfl rfl ⟨⟨_,rfl,.inl ⟨rfl,rfl⟩⟩,⟨_,rfl,.inr (.c (.d _))⟩,⟨_,rfl,.inr (.g ⟨.d _,.d _,.d _,.d _,trivial⟩)⟩,trivial⟩ rfl rfl rfl rfl rfl rfl rfl trivial rfl rfl rfl rfl rfl rfl rfl rfl rfl rfl rfl rfl rfl) rfl ?_
   refine cf ?_
   refine bq ?_
   refine then_ok ?_
   have hX:dn b b0 x1 d=(l28,b.due,l29,s210,b.s1,e210):=by
     unfold dn;(try simp only [hr1,hr2,hr8,hr9,hr10]);(repeat' split)<;>first|rfl|omega|(exfalso;omega)|(simp_all;done)|(simp_all;omega)
   rw [hX] at hj;clear hX;simp only [Prod.mk.injEq] at hj;obtain ⟨rfl,rfl,rfl,rfl,rfl,rfl⟩:=hj
   exact aJ.cc (fun k=>if k=13 then 18 else k) (by refine ⟨?_,?_,?_,?_,?_,trivial⟩<;>first|rfl|(simp only [bn];done)|(congr 3;omega)|(congr 4;omega)|(simp only [bo];rfl)) (by refine ⟨?_,?_,?_,?_,?_,?_,?_,?_,?_,?_,?_,?_,trivial⟩<;>first|rfl|(simp only [bn];done)|(congr 3;omega)|(congr 4;omega)|(simp only [bo];rfl)) rfl
  have hc13':=of_decide_eq_false hc13
  refine ae aa 2 rfl ?_
  refine an rfl (fun hc14=>?_) (fun hc14=>?_)
  ·
   have hc14':=of_decide_eq_true hc14
   refine ah ?_
   obtain ⟨x2,hx2⟩:=cr (xs:=b.due) (i:=Int.toNat (b0.az)) (by first|omega|(simp;done)|(simp;omega))
   refine bd [0,1,4,6,8,11] [17,0,8,9,10,11,12,13,14,15,16,7,5] mixed rfl rfl ?_
   refine aF (kn:=[]) aa 7 rfl trivial ?_
   refine aX (n':=18) [149,151] [14] rfl rfl (.inl ⟨(aq.plain rfl),aM.cast (br (i:=Int.toNat (b0.az)) rfl rfl rfl Try.underlying30 fO (by first|omega|(simp;done)|(simp;omega)) (by first|omega|(simp;done)|(simp;omega))) rfl⟩) rfl ?_
   refine aX (n':=18) [152] [14] rfl rfl (.inl ⟨(aq.plain rfl),aM.cast (eJ rfl rfl rfl Try.underlying3 rfl (bz hx2) rfl) rfl⟩) rfl ?_
   refine aF (kn:=[]) aa 5 rfl trivial ?_
   refine aX (n':=18) [149,151] [14] rfl rfl (.inl ⟨(aq.plain rfl),aM.cast (br (i:=Int.toNat (b0.az)) rfl rfl rfl Try.underlying30 fO (by first|omega|(simp;done)|(simp;omega)) (by first|omega|(simp;done)|(simp;omega))) rfl⟩) rfl ?_
   refine bF [17,0,8,9,10,11,12,13,14,15,16,7,5] rfl rfl rfl rfl (by kernel_rfl) ?_
   refine gj [17,0,8,9,10,11,12,13,14,15,16,7,5] (dW (ds:=[(dI (IntKind.i64.wrap (x2 - d.sum)))]) rfl rfl rfl rfl rfl fO rfl (Nat.le_of_ble_eq_true rfl) (bz hx2) rfl (eU (x':=(IntKind.i64.wrap (x2 - d.sum))) rfl)) rfl ?_
   refine af ?_
   refine ga (k:=8) (q:=3) (c':=(.s 14 0 1 (((b.due).set (Int.toNat (b0.az)) (IntKind.i64.wrap (x2 - d.sum))).length))) rfl rfl (by first|rfl|(simp;done)|(congr 1;omega)) rfl ?_
   refine ah ?_
   obtain ⟨l211,e211,hr11⟩:∃ (l211:List Entry) (e211:Int),dL b.book 0 (50+b0.az) 1 d.sum=(l211,e211):=⟨_,_,rfl⟩
   refine dr [0,1,4,6,8,11] [17,0,8,9,10,11,12,13,14,15,16,7,5] mixed rfl rfl ?_
   refine bU (kn:=[]) aa 3 rfl trivial ?_
   refine ca (n':=18) [162] [] rfl rfl (.inl ⟨(aq.plain rfl),aM.cast (aN rfl rfl rfl (aK (by first|omega|(simp;done)|(simp;omega)))) rfl⟩) rfl ?_
   refine bU (kn:=[]) aa 4 rfl trivial ?_
   refine ca (n':=18) [160,163,167] [8] rfl rfl (.inl ⟨(aq.plain rfl),aM.cast (cw (bc [8]) (bc [8]) (ms:=((dO.set 18 (some (dR b.book))).set 19 (some (cI 0)))) (ms':=((dO.set 18 (some (dR l211))).set 19 (some (cI e211)))) (fun x hx=>jF x hx b.book 0 (50+b0.az) 1 d.sum l211 e211 hr11) nz rfl rfl ⟨⟨_,rfl,.inl ⟨rfl,rfl⟩⟩,⟨_,rfl,.inr (.c (.d _))⟩,⟨_,rfl,.inr (.c (.d _))⟩,⟨_,rfl,.inr (.c (.d _))⟩,trivial⟩ rfl rfl rfl rfl rfl rfl rfl trivial rfl rfl rfl rfl rfl rfl rfl rfl rfl rfl rfl rfl rfl) rfl⟩) rfl ?_
   refine ef [0,1,4,6,8,11] [8,17,0,9,10,11,12,13,14,15,16,7,5] rfl rfl (by kernel_rfl) ?_
   refine then_ok ?_
   refine ae aa 2 rfl ?_
   refine ay ?_
   refine ad aa 2 rfl ?_
   obtain ⟨s212,e212,hr12⟩:∃ (s212:bO) (e212:Int),fb b.s1 e211 (⟨0,2,d.n,d.sum⟩:aS)=(s212,e212):=⟨_,_,rfl⟩
   refine aP 18 [8,17,0,9,10,11,12,13,14,15,16,7,5] (cw (bc [8]) (bc [8]) (ms:=(((dO.set 7 (some (cI b.s1.bG))).set 8 (some (dh b.s1.kept))).set 19 (some (cI e211)))) (ms':=(((dO.set 7 (some (cI s212.bG))).set 8 (some (dh s212.kept))).set 19 (some (cI e212)))) (fun x hx=>Gk x hx b.s1 e211 (⟨0,2,d.n,d.sum⟩:aS) (by assumption) s212 e212 hr12) At rfl rfl ⟨⟨_,rfl,.inl ⟨rfl,rfl⟩⟩,⟨_,rfl,.inr (.c (.d _))⟩,⟨_,rfl,.inr (.g ⟨.d _,.d _,.d _,.d _,trivial⟩)⟩,trivial⟩ rfl rfl rfl rfl rfl rfl rfl trivial rfl rfl rfl rfl rfl rfl rfl rfl rfl rfl rfl rfl rfl) rfl ?_
   refine cf ?_
   refine bq ?_
   refine then_ok ?_
   have hX:dn b b0 x1 d=(b.ag,(b.due).set (Int.toNat (b0.az)) (IntKind.i64.wrap (x2 - d.sum)),l211,b.s0,s212,e212):=by
     unfold dn;simp only [List.getD_eq_getElem?_getD,hx2,Option.getD_some];(try simp only [hr1,hr2,hr11,hr12,hx2]);(repeat' split)<;>first|rfl|omega|(exfalso;omega)|(simp_all;done)|(simp_all;omega)
   rw [hX] at hj;clear hX;simp only [Prod.mk.injEq] at hj;obtain ⟨rfl,rfl,rfl,rfl,rfl,rfl⟩:=hj
   exact aJ.cc id (by refine ⟨?_,?_,?_,?_,?_,trivial⟩<;>first|rfl|(simp only [bn];done)|(congr 3;omega)|(congr 4;omega)|(simp only [bo];rfl)) (by refine ⟨?_,?_,?_,?_,?_,?_,?_,?_,?_,?_,?_,?_,trivial⟩<;>first|rfl|(simp only [bn];done)|(congr 3;omega)|(congr 4;omega)|(simp only [bo];rfl)) rfl
  have hc14':=of_decide_eq_false hc14
  refine ae aa 2 rfl ?_
  refine an rfl (fun hc15=>?_) (fun hc15=>?_)
  ·
   have hc15':=of_decide_eq_true hc15
   refine ah ?_
   obtain ⟨l213,e213,hr13⟩:∃ (l213:List bD) (e213:Int),cE b.ag 0 b0.aO 0 d.sum=(l213,e213):=⟨_,_,rfl⟩
   refine dr [0,1,4,6,8,10] [0,8,9,10,11,12,13,14,15,16,7,5] mixed rfl rfl ?_
   refine bU (kn:=[]) aa 7 rfl trivial ?_
   refine ca (n':=19) [175,177,181] [13,8] rfl rfl (.inl ⟨(aq.plain rfl),aM.cast (cw (bc [8,13]) (bc [8,18]) (ms:=((dO.set 2 (some (.s 1 0 6 b.ag.length))).set 19 (some (cI 0)))) (ms':=((dO.set 2 (some (.s 1 0 6 l213.length))).set 19 (some (cI e213)))) (fun x hx=>jr x hx b.ag 0 b0.aO 0 d.sum (by first|omega|(simp;done)|(simp;omega)) l213 e213 hr13) oN rfl rfl ⟨⟨_,rfl,.inl ⟨rfl,rfl⟩⟩,⟨_,rfl,.inr (.c (.d _))⟩,⟨_,rfl,.inr (.c (.d _))⟩,⟨_,rfl,.inr (.c (.d _))⟩,trivial⟩ rfl rfl rfl rfl rfl rfl rfl ⟨rfl,trivial⟩ rfl rfl rfl rfl rfl rfl rfl rfl rfl rfl rfl rfl rfl) rfl⟩) rfl ?_
   refine ef [0,1,4,6,8,10] [18,8,0,9,10,11,12,14,15,16,7,5] rfl rfl (by kernel_rfl) ?_
   refine then_ok ?_
   refine ay ?_
   refine ad aa 6 rfl ?_
   obtain ⟨l214,e214,hr14⟩:∃ (l214:List Entry) (e214:Int),dL b.book e213 2 (10+b0.aO) d.sum=(l214,e214):=⟨_,_,rfl⟩
   refine aP 19 [8,18,0,9,10,11,12,14,15,16,7,5] (cw (bc [8]) (bc [8]) (ms:=((dO.set 18 (some (dR b.book))).set 19 (some (cI e213)))) (ms':=((dO.set 18 (some (dR l214))).set 19 (some (cI e214)))) (fun x hx=>jF x hx b.book e213 2 (10+b0.aO) d.sum l214 e214 hr14) nz rfl rfl ⟨⟨_,rfl,.inl ⟨rfl,rfl⟩⟩,⟨_,rfl,.inr (.c (.d _))⟩,⟨_,rfl,.inr (.c (.d _))⟩,⟨_,rfl,.inr (.c (.d _))⟩,trivial⟩ rfl rfl rfl rfl rfl rfl rfl trivial rfl rfl rfl rfl rfl rfl rfl rfl rfl rfl rfl rfl rfl) rfl ?_
   refine cf ?_
   refine bq ?_
   refine then_ok ?_
   have hX:dn b b0 x1 d=(l213,b.due,l214,b.s0,b.s1,e214):=by
     unfold dn;(try simp only [hr1,hr2,hr13,hr14]);(repeat' split)<;>first|rfl|omega|(exfalso;omega)|(simp_all;done)|(simp_all;omega)
   rw [hX] at hj;clear hX;simp only [Prod.mk.injEq] at hj;obtain ⟨rfl,rfl,rfl,rfl,rfl,rfl⟩:=hj
   exact aJ.cc (fun k=>if k=13 then 18 else k) (by refine ⟨?_,?_,?_,?_,?_,trivial⟩<;>first|rfl|(simp only [bn];done)|(congr 3;omega)|(congr 4;omega)|(simp only [bo];rfl)) (by refine ⟨?_,?_,?_,?_,?_,?_,?_,?_,?_,?_,?_,?_,trivial⟩<;>first|rfl|(simp only [bn];done)|(congr 3;omega)|(congr 4;omega)|(simp only [bo];rfl)) rfl
  have hc15':=of_decide_eq_false hc15
  refine ae aa 2 rfl ?_
  refine an rfl (fun hc16=>?_) (fun hc16=>?_)
  ·
   have hc16':=of_decide_eq_true hc16
   refine ae aa 2 rfl ?_
   refine ay ?_
   refine ad aa 2 rfl ?_
   obtain ⟨s215,e215,hr15⟩:∃ (s215:bO) (e215:Int),fb b.s0 0 (⟨0,3,d.n,d.sum⟩:aS)=(s215,e215):=⟨_,_,rfl⟩
   refine aP 18 [8,17,0,9,10,11,12,13,14,15,16,7,5] (cw (bc [8]) (bc [8]) (ms:=(((dO.set 5 (some (cI b.s0.bG))).set 6 (some (dh b.s0.kept))).set 19 (some (cI 0)))) (ms':=(((dO.set 5 (some (cI s215.bG))).set 6 (some (dh s215.kept))).set 19 (some (cI e215)))) (fun x hx=>uh x hx b.s0 0 (⟨0,3,d.n,d.sum⟩:aS) (by assumption) s215 e215 hr15) At rfl rfl ⟨⟨_,rfl,.inl ⟨rfl,rfl⟩⟩,⟨_,rfl,.inr (.c (.d _))⟩,⟨_,rfl,.inr (.g ⟨.d _,.d _,.d _,.d _,trivial⟩)⟩,trivial⟩ rfl rfl rfl rfl rfl rfl rfl trivial rfl rfl rfl rfl rfl rfl rfl rfl rfl rfl rfl rfl rfl) rfl ?_
   refine cf ?_
   refine bq ?_
   refine then_ok ?_
   have hX:dn b b0 x1 d=(b.ag,b.due,b.book,s215,b.s1,e215):=by
     unfold dn;(try simp only [hr1,hr2,hr15]);(repeat' split)<;>first|rfl|omega|(exfalso;omega)|(simp_all;done)|(simp_all;omega)
   rw [hX] at hj;clear hX;simp only [Prod.mk.injEq] at hj;obtain ⟨rfl,rfl,rfl,rfl,rfl,rfl⟩:=hj
   exact aJ.cc id (by refine ⟨?_,?_,?_,?_,?_,trivial⟩<;>first|rfl|(simp only [bn];done)|(congr 3;omega)|(congr 4;omega)|(simp only [bo];rfl)) (by refine ⟨?_,?_,?_,?_,?_,?_,?_,?_,?_,?_,?_,?_,trivial⟩<;>first|rfl|(simp only [bn];done)|(congr 3;omega)|(congr 4;omega)|(simp only [bo];rfl)) rfl
  have hc16':=of_decide_eq_false hc16
  refine ae aa 2 rfl ?_
  refine an rfl (fun hc17=>?_) (fun hc17=>?_)
  ·
   have hc17':=of_decide_eq_true hc17
   refine ah ?_
   obtain ⟨l216,e216,hr16⟩:∃ (l216:List bD) (e216:Int),cE b.ag 0 b0.aO 0 (0 - d.sum)=(l216,e216):=⟨_,_,rfl⟩
   refine dr [0,1,4,6,8,10] [0,8,9,10,11,12,13,14,15,16,7,5] mixed rfl rfl ?_
   refine bU (kn:=[]) aa 7 rfl trivial ?_
   refine ca (n':=18) [204] [] rfl rfl (.inl ⟨(aq.plain rfl),aM.cast (tm rfl rfl (aK (by first|omega|(simp;done)|(simp;omega)))) rfl⟩) rfl ?_
   refine ca (n':=19) [198,200,205] [13,8] rfl rfl (.inl ⟨(aq.plain rfl),aM.cast (cw (bc [8,13]) (bc [8,18]) (ms:=((dO.set 2 (some (.s 1 0 6 b.ag.length))).set 19 (some (cI 0)))) (ms':=((dO.set 2 (some (.s 1 0 6 l216.length))).set 19 (some (cI e216)))) (fun x hx=>jr x hx b.ag 0 b0.aO 0 (0 - d.sum) (by first|omega|(simp;done)|(simp;omega)) l216 e216 hr16) oN rfl rfl ⟨⟨_,rfl,.inl ⟨rfl,rfl⟩⟩,⟨_,rfl,.inr (.c (.d _))⟩,⟨_,rfl,.inr (.c (.d _))⟩,⟨_,rfl,.inr (.c (.d _))⟩,trivial⟩ rfl rfl rfl rfl rfl rfl rfl ⟨rfl,trivial⟩ rfl rfl rfl rfl rfl rfl rfl rfl rfl rfl rfl rfl rfl) rfl⟩) rfl ?_
   refine ef [0,1,4,6,8,10] [18,8,0,9,10,11,12,14,15,16,7,5] rfl rfl (by kernel_rfl) ?_
   refine then_ok ?_
   refine ay ?_
   refine ad aa 6 rfl ?_
   obtain ⟨l217,e217,hr17⟩:∃ (l217:List Entry) (e217:Int),dL b.book e216 (10+b0.aO) 2 d.sum=(l217,e217):=⟨_,_,rfl⟩
   refine aP 19 [8,18,0,9,10,11,12,14,15,16,7,5] (cw (bc [8]) (bc [8]) (ms:=((dO.set 18 (some (dR b.book))).set 19 (some (cI e216)))) (ms':=((dO.set 18 (some (dR l217))).set 19 (some (cI e217)))) (fun x hx=>jF x hx b.book e216 (10+b0.aO) 2 d.sum l217 e217 hr17) nz rfl rfl ⟨⟨_,rfl,.inl ⟨rfl,rfl⟩⟩,⟨_,rfl,.inr (.c (.d _))⟩,⟨_,rfl,.inr (.c (.d _))⟩,⟨_,rfl,.inr (.c (.d _))⟩,trivial⟩ rfl rfl rfl rfl rfl rfl rfl trivial rfl rfl rfl rfl rfl rfl rfl rfl rfl rfl rfl rfl rfl) rfl ?_
   refine cf ?_
   refine bq ?_
   refine then_ok ?_
   have hX:dn b b0 x1 d=(l216,b.due,l217,b.s0,b.s1,e217):=by
     unfold dn;(try simp only [hr1,hr2,hr16,hr17]);(repeat' split)<;>first|rfl|omega|(exfalso;omega)|(simp_all;done)|(simp_all;omega)
   rw [hX] at hj;clear hX;simp only [Prod.mk.injEq] at hj;obtain ⟨rfl,rfl,rfl,rfl,rfl,rfl⟩:=hj
   exact aJ.cc (fun k=>if k=13 then 18 else k) (by refine ⟨?_,?_,?_,?_,?_,trivial⟩<;>first|rfl|(simp only [bn];done)|(congr 3;omega)|(congr 4;omega)|(simp only [bo];rfl)) (by refine ⟨?_,?_,?_,?_,?_,?_,?_,?_,?_,?_,?_,?_,trivial⟩<;>first|rfl|(simp only [bn];done)|(congr 3;omega)|(congr 4;omega)|(simp only [bo];rfl)) rfl
  have hc17':=of_decide_eq_false hc17
  refine dg ?_
  refine bq ?_
  refine then_ok ?_
  have hX:dn b b0 x1 d=(b.ag,b.due,b.book,b.s0,b.s1,0):=by
    unfold dn;(try simp only [hr1,hr2]);(repeat' split)<;>first|rfl|omega|(exfalso;omega)|(simp_all;done)|(simp_all;omega)
  rw [hX] at hj;clear hX;simp only [Prod.mk.injEq] at hj;obtain ⟨rfl,rfl,rfl,rfl,rfl,rfl⟩:=hj
  exact aJ.cc id (by refine ⟨?_,?_,?_,?_,?_,trivial⟩<;>first|rfl|(simp only [bn];done)|(congr 3;omega)|(congr 4;omega)|(simp only [bo];rfl)) (by refine ⟨?_,?_,?_,?_,?_,?_,?_,?_,?_,?_,?_,?_,trivial⟩<;>first|rfl|(simp only [bn];done)|(congr 3;omega)|(congr 4;omega)|(simp only [bo];rfl)) rfl
 refine ah ?_
 obtain ⟨l218,e218,hr18⟩:∃ (l218:List au) (e218:Int),jn b.aQ je (⟨b0.az,d.n,d.move,d.sum⟩:au)=(l218,e218):=⟨_,_,rfl⟩
 refine dr [0,1,4,6,8] [0,8,9,10,11,12,13,14,15,16,7,5] mixed rfl rfl ?_
 refine bU (kn:=[]) aa 16 rfl trivial ?_
 refine ca (n':=18) [214,229] [16,8] rfl rfl (.inl ⟨(aq.plain rfl),aM.cast (cw (bc [8,16]) (bc [8,17]) (ms:=((dO.set 16 (some (.s 1 0 4 b.aQ.length))).set 19 (some (cI je)))) (ms':=((dO.set 16 (some (.s 1 0 4 l218.length))).set 19 (some (cI e218)))) (fun x hx=>HP x hx b.aQ je (⟨b0.az,d.n,d.move,d.sum⟩:au) (by first|omega|(simp;done)|(simp;omega)) l218 e218 hr18) JH rfl rfl ⟨⟨_,rfl,.inl ⟨rfl,rfl⟩⟩,⟨_,rfl,.inr (.g ⟨.d _,.d _,.d _,.d _,trivial⟩)⟩,trivial⟩ rfl rfl rfl rfl rfl rfl rfl ⟨rfl,trivial⟩ rfl rfl rfl rfl rfl rfl rfl rfl rfl rfl rfl rfl rfl) rfl⟩) rfl ?_
 refine ef [0,1,4,6,8] [17,8,0,9,10,11,12,13,14,15,7,5] rfl rfl (by kernel_rfl) ?_
 refine then_ok ?_
 refine ah ?_
 refine bd [0,1,4,6,8] [17,8,0,9,10,11,12,13,14,15,7,5] mixed rfl rfl ?_
 refine aF (kn:=[]) aa 10 rfl trivial ?_
 refine aX (n':=18) [235,239] [15] rfl rfl (.inl ⟨(aq.plain rfl),aM.cast (br (i:=Int.toNat (d.n)) rfl rfl rfl Try.underlying31 mq (by first|omega|(simp;done)|(simp;omega)) (by first|omega|(simp;done)|(simp;omega))) rfl⟩) rfl ?_
 refine bF [17,8,0,9,10,11,12,13,14,15,7,5] rfl rfl rfl rfl (by kernel_rfl) ?_
 refine gj [17,8,0,9,10,11,12,13,14,15,7,5] (dW (ds:=[(dI b0.aO),(dI b0.az),(dI b0.sum),(dI b0.captured),(dI b0.bC),(dI b0.bj),(dI b0.dq),(dB b0.shut)]) rfl rfl rfl rfl rfl mq rfl (Nat.le_of_ble_eq_true rfl) (bz hx1) rfl (eU (x':=b0) rfl)) rfl ?_
 refine af ?_
 rcases (show e218=0\/¬e218=0 from by omega) with hs18|hs18
 ·
  refine ga (k:=8) (q:=4) (c':=(.s 15 0 8 (((b.aj).set (Int.toNat (d.n)) b0).length))) rfl rfl (by first|rfl|(simp;done)|(congr 1;omega)) rfl ?_
  refine aH aa 2 rfl ?_
  refine aP 22 [0,18,19,20,21,7,5] (cO (bc [0,8,9,10,11,12,13,14,15,17]) (bc [0,18,19,20,21]) (fM (x 17) (x 19) b (⟨b.time,b.down,jcards,jdue,(b.aj).set (Int.toNat (d.n)) b0,js0,js1,b.n0,b.n1,b.w0,b.w1,b.bx,l218,jbook⟩:Bk) e218 (by first|assumption|omega)) gm rfl rfl ⟨⟨_,rfl,.inl ⟨rfl,rfl⟩⟩,⟨_,rfl,.inl ⟨rfl,rfl⟩⟩,trivial⟩ ⟨rfl,rfl,rfl,rfl,rfl,rfl,rfl,rfl,rfl,rfl,trivial⟩ rfl rfl rfl rfl rfl rfl trivial ⟨⟨trivial,trivial,trivial,trivial,trivial,trivial,trivial,trivial,trivial,trivial,trivial,trivial,trivial,trivial,trivial,trivial,trivial,trivial,trivial,trivial,trivial⟩,(fun _ _ _ _=>trivial),(fun _ _ _ _=>trivial),(fun _ _ _ _=>trivial),(fun _ _ _ _=>trivial),trivial⟩ rfl rfl rfl rfl) rfl ?_
  refine ad aa 2 rfl ?_
  refine af ?_
  refine aA ?_
  have hX:cT b d=((⟨b.time,b.down,jcards,jdue,(b.aj).set (Int.toNat (d.n)) b0,js0,js1,b.n0,b.n1,b.w0,b.w1,b.bx,l218,jbook⟩:Bk),(⟨e218,0⟩:Answer)):=by
    unfold cT;simp only [hdn,Bool.false_eq_true,if_false];rw [if_neg (by omega),hx1];dsimp only;simp only [hr0,hj0];unfold kx cQ;simp only [hr18];(repeat' split)<;>first|rfl|omega|(exfalso;omega)|(simp_all;done)|(simp_all;omega)
  rw [hX] at hr;clear hX
  simp only [Prod.mk.injEq] at hr;obtain ⟨rfl,rfl⟩:=hr
  refine aw aa [0,18,19,20,21,5] 5 rfl rfl rfl rfl rfl rfl ?_ ?_
  all_goals first|rfl|(simp [aD,aZ,bg];done)|(simp [aD,aZ,bg];omega)
 refine ga (k:=8) (q:=4) (c':=(.s 15 0 8 (((b.aj).set (Int.toNat (d.n)) b0).length))) rfl rfl (by first|rfl|(simp;done)|(congr 1;omega)) rfl ?_
 refine aH aa 2 rfl ?_
 refine aP 22 [0,18,19,20,21,7,5] (cO (bc [0,8,9,10,11,12,13,14,15,17]) (bc [0,18,19,20,21]) (gI (x 17) (x 19) b (⟨b.time,b.down,jcards,jdue,(b.aj).set (Int.toNat (d.n)) b0,js0,js1,b.n0,b.n1,b.w0,b.w1,b.bx,l218,jbook⟩:Bk) e218 (by first|assumption|omega)) gm rfl rfl ⟨⟨_,rfl,.inl ⟨rfl,rfl⟩⟩,⟨_,rfl,.inl ⟨rfl,rfl⟩⟩,trivial⟩ ⟨rfl,rfl,rfl,rfl,rfl,rfl,rfl,rfl,rfl,rfl,trivial⟩ rfl rfl rfl rfl rfl rfl trivial ⟨⟨trivial,trivial,trivial,trivial,trivial,trivial,trivial,trivial,trivial,trivial,trivial,trivial,trivial,trivial,trivial,trivial,trivial,trivial,trivial,trivial,trivial⟩,(fun _ _ _ _=>trivial),(fun _ _ _ _=>trivial),(fun _ _ _ _=>trivial),(fun _ _ _ _=>trivial),trivial⟩ rfl rfl rfl rfl) rfl ?_
 refine ad aa 2 rfl ?_
 refine af ?_
 refine aA ?_
 have hX:cT b d=(b,(⟨e218,0⟩:Answer)):=by
   unfold cT;simp only [hdn,Bool.false_eq_true,if_false];rw [if_neg (by omega),hx1];dsimp only;simp only [hr0,hj0];unfold kx cQ;simp only [hr18];(repeat' split)<;>first|rfl|omega|(exfalso;omega)|(simp_all;done)|(simp_all;omega)
 rw [hX] at hr;clear hX
 simp only [Prod.mk.injEq] at hr;obtain ⟨rfl,rfl⟩:=hr
 refine aw aa [0,18,19,20,21,5] 5 rfl rfl rfl rfl rfl rfl ?_ ?_
 all_goals first|rfl|(simp [aD,aZ,bg];done)|(simp [aD,aZ,bg];omega)
theorem CP (x:Nat->Value) (hx:∀ i,(x i).oneCell'=true) (b:Bk) (d:aV) (ok:ct b) (hdn:b.down=true) (b2:Bk) (a2:Answer) (hr:cT b d=(b2,a2)):cL Try.prog 64 [(.c (.p 0 0 0 0)),(.c (.q (cX d) 0))] [(0,(.box 98 (aZ b 1 2 3 4 (.d (.v (x 17))) (.d (.v (x 19)))))),(1,(ek b.ag)),(2,(dS b.due)),(3,(ep b.aj)),(4,(cU b.aQ))] [0] (.v (.g [cI a2.err,cI a2.ba])) [(0,(.box 98 (aZ b2 1 2 3 4 (.d (.v (x 17))) (.d (.v (x 19)))))),(1,(ek b2.ag)),(2,(dS b2.due)),(3,(ep b2.aj)),(4,(cU b2.aQ))]:=by
 refine cL.mk 246 [(0,(aC (.p 0 0 0 0))),(1,(aC (.q (cX d) 0)))] 5 Try.func64 rfl rfl rfl rfl rfl rfl rfl rfl rfl ?_
 intro W0 F0 T0 pg
 obtain ⟨okt,okc,okd,oka,oky,okw0,okw1,okp,okv,okk0,okk1,okg,okl0,okl1,okp0,okp1,okn0,okn1,okq⟩:=id ok
 refine ae aa 1 rfl ?_
 refine ah ?_
 refine ae aa 5 rfl ?_
 refine an rfl (fun _=>?_) (fun hno=>absurd (hdn.symm.trans hno) (by decide))
 refine ae aa 2 rfl ?_
 refine aA ?_
 refine ax ?_
 have hX:cT b d=(b,(⟨12,0⟩:Answer)):=by
   unfold cT;rw [if_pos hdn]
 rw [hX] at hr;clear hX
 simp only [Prod.mk.injEq] at hr;obtain ⟨rfl,rfl⟩:=hr
 refine aw aa [0,1,2,3,4,5] 5 rfl rfl rfl rfl rfl rfl ?_ ?_
 all_goals first|rfl|(simp [aD,aZ,bg];done)|(simp [aD,aZ,bg];omega)
theorem EL (x:Nat->Value) (hx:∀ i,(x i).oneCell'=true) (b:Bk) (d:aV) (ok:ct b) (b2:Bk) (a2:Answer) (hr:cT b d=(b2,a2)):cL Try.prog 64 [(.c (.p 0 0 0 0)),(.c (.q (cX d) 0))] [(0,(.box 98 (aZ b 1 2 3 4 (.d (.v (x 17))) (.d (.v (x 19)))))),(1,(ek b.ag)),(2,(dS b.due)),(3,(ep b.aj)),(4,(cU b.aQ))] [0] (.v (.g [cI a2.err,cI a2.ba])) [(0,(.box 98 (aZ b2 1 2 3 4 (.d (.v (x 17))) (.d (.v (x 19)))))),(1,(ek b2.ag)),(2,(dS b2.due)),(3,(ep b2.aj)),(4,(cU b2.aQ))]:=by
  cases hdn:b.down
  ·exact CO x hx b d ok hdn b2 a2 hr
  ·exact CP x hx b d ok hdn b2 a2 hr
theorem fL {α:Type} {l:List α} {n:Nat} {x y:α} (h:y∈l.set n x):y∈l\/y=x:=List.mem_or_eq_of_mem_set h
theorem kd {l:List bD} {e k x y:Int} (h:∀ c∈l,cH c=0):∀ c∈(cE l e k x y).1,cH c=0:=by
 unfold cE
 split
 ·exact h
 ·rename_i c hc
  split
  ·rename_i h0
   intro z hz
   rcases fL hz with hz|rfl
   ·exact h z hz
   ·have he:(eo c x y).2=0:=by unfold dN at h0;split at h0<;>omega
    rcases rJ (show eo c x y=((eo c x y).1,(eo c x y).2) from rfl) with ⟨h1,_⟩|h1
    ·exact absurd he h1
    ·exact h1.2.2.2.2.2.2.2
  ·exact h
theorem wO {time:Int} {n m:Nat}:∀ (l:List bl) (i:Nat) (ag:List bD) (aj:List bl) (e:Int),(∀ a∈l,bL a=0/\0<=a.aO/\a.aO < n/\0<=a.az/\a.az < m)->
  (∀ a∈aj,bL a=0/\0<=a.aO/\a.aO < n/\0<=a.az/\a.az < m)->(∀ c∈ag,cH c=0)->
  (∀ c∈(eL time l i ag aj e).1,cH c=0)/\(eL time l i ag aj e).1.length=ag.length/\(eL time l i ag aj e).2.1.length=aj.length/\
  (∀ a∈(eL time l i ag aj e).2.1,bL a=0/\0<=a.aO/\a.aO < n/\0<=a.az/\a.az < m)
 |[],_,_,_,_,_,h2,h3=>⟨h3,rfl,rfl,h2⟩
 |a::l,i,ag,aj,e,h1,h2,h3=>by
  have ha:=h1 a List.mem_cons_self
  obtain ⟨r1,r2,r3,r4⟩:=wO l (i+1) (cE ag e a.aO (bQ (ei a time) - bQ a) 0).1 (aj.set i (ei a time)) (cE ag e a.aO (bQ (ei a time) - bQ a) 0).2
   (fun x hx=>h1 x (List.mem_cons_of_mem _ hx)) (fun x hx=>by
    rcases fL hx with hx|rfl
    ·exact h2 x hx
    ·exact ⟨zc ha.1,ha.2⟩) (kd h3)
  refine ⟨r1,r2.trans (fq _ _ _ _ _),r3.trans (List.length_set ..),r4⟩
theorem ct.late {b:Bk} (h:ct b):ct (fj b):=by
 unfold fj
 split
 ·obtain ⟨r1,r2,r3,r4⟩:=wO (time:=b.time) (n:=b.ag.length) (m:=b.due.length) b.aj 0 b.ag b.aj 0 h.perm h.perm h.right
  exact ⟨h.time,by rw [r2];exact h.ag,h.due,by rw [r3];exact h.aj,h.aQ,h.w0,h.w1,by dsimp only;rw [r2];exact r4,by dsimp only;rw [r2];exact h.jI,by dsimp only;rw [r3];exact h.k0,by dsimp only;rw [r3];exact h.k1,r1,h.l0,h.l1,by dsimp only;rw [r3];exact h.p0,by dsimp only;rw [r3];exact h.p1,h.n0,h.n1,h.calm⟩
 ·exact h
theorem ct.cQ {b c:Bk} {e:Int} (h:ct b) (hc:e=0->ct c):ct (cQ b c e).1:=by
 unfold Dev.cQ;split
 ·exact hc (by assumption)
 ·exact h
theorem gu {e x:Int} (h:dN e x=0):e=0/\x=0:=by unfold dN at h;split at h<;>omega
theorem jo {l:List Entry} {e s d n:Int} (h:(dL l e s d n).2=0):e=0/\(iK l s d n).2=0/\(dL l e s d n).1=(iK l s d n).1:=by
 unfold dL at h ⊢
 split at h
 ·rename_i h1;rw [if_pos h1];have:=gu h1;exact ⟨this.1,this.2,rfl⟩
 ·rename_i h1;exact absurd h h1
theorem ct.CI {b:Bk} (h:ct b) {cs:List bD} {bk:List Entry} (h1:∀ c∈cs,cH c=0) (h2:cs.length=b.ag.length):ct {b with ag:=cs,book:=bk}:=
 ⟨h.time,by rw [h2];exact h.ag,h.due,h.aj,h.aQ,h.w0,h.w1,by dsimp only;rw [h2];exact h.perm,by dsimp only;rw [h2];exact h.jI,h.k0,h.k1,h1,h.l0,h.l1,h.p0,h.p1,h.n0,h.n1,h.calm⟩
theorem ct.load {b:Bk} (h:ct b) (d:aV):ct (ey b d).1:=by
 unfold ey
 split
 ·exact h
 split
 ·exact h
 ·exact h.cQ fun _=>h.CI (kd h.right) (fq _ _ _ _ _)
theorem ct.Ge {b:Bk} (h:ct b) {due:List Int} {bk:List Entry} (h2:due.length=b.due.length):ct {b with due:=due,book:=bk}:=
 ⟨h.time,h.ag,by rw [h2];exact h.due,h.aj,h.aQ,h.w0,h.w1,by dsimp only;rw [h2];exact h.perm,by dsimp only;rw [h2];exact h.jI,h.k0,h.k1,h.right,h.l0,h.l1,h.p0,h.p1,h.n0,h.n1,h.calm⟩
theorem ct.qV {b:Bk} (h:ct b) (d:aV):ct (eH b d).1:=by
 unfold eH
 split
 ·exact h
 split
 ·exact h
 ·exact h.cQ fun _=>h.Ge (List.length_set ..)
theorem ct.cM {b:Bk} (h:ct b) (d:aV):ct (ea b d).1:=by
 unfold ea
 split
 ·exact h
 ·have h1:ct {b with time:=b.time+d.sum}:=by have:=h.time;exact h.tick (by omega) (by omega)
  dsimp only
  split
  ·exact h1
  ·exact h1.late
theorem uO {l:List bS} {ks:List aS} {n:Int} {p:bS} (h:p∈gr l ks n):p∈l\/(∃ t∈ks,p=⟨t,-1⟩)\/p=⟨⟨0,0,0,0⟩,n⟩:=by
 unfold gr at h
 simp only [List.mem_append,List.mem_map,List.mem_singleton] at h
 rcases h with (h|⟨t,ht,rfl⟩)|h
 ·exact .inl h
 ·exact .inr (.inl ⟨t,ht,rfl⟩)
 ·exact .inr (.inr h)
structure zv (b:Bk) (n:Nat) (w:List bS):Prop where
 len:w.length<=60
 own:∀ p∈w,p.seen < 0->fA p.bY.number/\0<=p.bY.ba/\p.bY.ba < n
theorem ct.ways {b:Bk} (h:ct b) {v0 v1:List bS} (h0:zv b b.aj.length v0) (h1:zv b b.aj.length v1):ct {b with w0:=v0,w1:=v1}:=
 ⟨h.time,h.ag,h.due,h.aj,h.aQ,h0.len,h1.len,h.perm,h.jI,h.k0,h.k1,h.right,h.l0,h.l1,h0.own,h1.own,h.n0,h.n1,h.calm⟩
theorem wk {b:Bk} {w:List bS} {ks:List aS} {n:Int} (hn:0<=n) (h:zv b b.aj.length w) (hk:∀ t∈ks,fA t.number/\0<=t.ba/\t.ba < b.aj.length):zv b b.aj.length (gZ w ks n).1:=by
 unfold gZ
 split
 ·exact h
 ·refine ⟨by dsimp only;omega,fun p hp hs=>?_⟩
  rcases uO hp with hp|⟨t,ht,rfl⟩|rfl
  ·exact h.own p hp hs
  ·exact hk t ht
  ·simp at hs;omega
theorem ct.send {b:Bk} (h:ct b) (d:aV):ct {b with w0:=(dQ b.s0 b.s1 b.n0 b.n1 b.w0 b.w1 d).1,w1:=(dQ b.s0 b.s1 b.n0 b.n1 b.w0 b.w1 d).2.1}:=by
 have h0:zv b b.aj.length b.w0:=⟨h.w0,h.p0⟩
 have h1:zv b b.aj.length b.w1:=⟨h.w1,h.p1⟩
 unfold dQ
 split
 ·exact h.ways h0 (wk h.n0 h1 h.k0)
 split
 ·exact h.ways (wk h.n1 h0 h.k1) h1
 ·exact h.ways h0 h1
theorem wm {s:bO} {e:Int} {t:aS} {n:Nat} (h:∀ t∈s.kept,fA t.number/\0<=t.ba/\t.ba < n) (hl:s.kept.length<=40) (ht:0<=t.ba/\t.ba < n):
  (∀ u∈(fb s e t).1.kept,fA u.number/\0<=u.ba/\u.ba < n)/\(fb s e t).1.kept.length<=40:=by
 unfold fb
 split
 ·rename_i h0
  have he:=(gu h0).2
  unfold gX at he
  split at he
  ·rename_i h1;exact absurd he h1
  split at he
  ·rename_i h1;exact absurd he h1
  ·rename_i h1 h2
   have hp:(gX s t).1=gO s t:=by unfold gX;rw [if_neg h1,if_neg h2]
   have hw:(cF (gO s t)).err=0:=by omega
   have hr:=ia hw
   dsimp only
   rw [hp]
   refine ⟨fun x hx=>?_,hr.1⟩
   rcases List.mem_append.1 hx with hx|hx
   ·exact h x hx
   ·obtain rfl:=List.mem_singleton.1 hx
    exact ⟨by have:=hr.2.1;have:=hr.2.2.1;constructor<;>simp only [gO,List.length_append] at *<;>omega,ht⟩
 ·exact ⟨h,hl⟩
theorem BP {l:List au} {e:Int} {r:au} (h:l.length<=100):(jn l e r).1.length<=100:=by
 unfold jn
 split
 ·exact h
 ·rw [List.length_append,List.length_singleton];omega
theorem kj {l:List au} {e:Int} {r:au} (h:(jn l e r).2=0):e=0/\l.length≠100/\(jn l e r).1=l++[r]:=by
 unfold jn at h ⊢
 split at h
 ·have:=(gu h).2;omega
 ·rename_i h1;rw [if_neg h1];exact ⟨h,h1,rfl⟩
structure pn (n:Nat) (s:bO):Prop where
 own:∀ t∈s.kept,fA t.number/\0<=t.ba/\t.ba < n
 len:s.kept.length<=40
theorem ct.va {b:Bk} (h:ct b):pn b.aj.length b.s0:=⟨h.k0,h.l0⟩
theorem ct.kC {b:Bk} (h:ct b):pn b.aj.length b.s1:=⟨h.k1,h.l1⟩
theorem pn.send {n:Nat} {s:bO} {e:Int} {t:aS} (h:pn n s) (ht:0<=t.ba/\t.ba < n):pn n (fb s e t).1:=⟨(wm h.own h.len ht).1,(wm h.own h.len ht).2⟩
theorem EB {b:Bk} (h:ct b) (a cj:bl) (d:aV) (hn:0<=d.n/\d.n < b.aj.length):
  (∀ c∈(dn b a cj d).1,cH c=0)/\(dn b a cj d).1.length=b.ag.length/\(dn b a cj d).2.1.length=b.due.length/\
  pn b.aj.length (dn b a cj d).2.2.2.1/\pn b.aj.length (dn b a cj d).2.2.2.2.1:=by
 unfold dn
 have hc:∀ e k x y,(∀ c∈(cE b.ag e k x y).1,cH c=0)/\(cE b.ag e k x y).1.length=b.ag.length:=fun e k x y=>⟨kd h.right,fq _ _ _ _ _⟩
 split
 ·exact ⟨(hc ..).1,(hc ..).2,rfl,h.va,h.kC⟩
 split
 ·exact ⟨(hc ..).1,(hc ..).2,rfl,h.va.send hn,h.kC⟩
 split
 ·exact ⟨h.right,rfl,List.length_set ..,h.va,h.kC.send hn⟩
 split
 ·exact ⟨(hc ..).1,(hc ..).2,rfl,h.va,h.kC⟩
 split
 ·exact ⟨h.right,rfl,rfl,h.va.send hn,h.kC⟩
 split
 ·exact ⟨(hc ..).1,(hc ..).2,rfl,h.va,h.kC⟩
 ·exact ⟨h.right,rfl,rfl,h.va,h.kC⟩
theorem ct.jG {b:Bk} (h:ct b) (d:aV):ct (cT b d).1:=by
 unfold cT
 split
 ·exact h
 split
 ·exact h
 rename_i hd hn
 have hn:0<=d.n/\d.n < b.aj.length:=by omega
 split
 ·exact h
 rename_i cj ho
 split
 ·exact h
 rename_i hm
 split
 ·exact h
 have hm:bX cj d.move d.sum=((bX cj d.move d.sum).1,0):=Prod.ext rfl (by dsimp only;omega)
 obtain ⟨m1,m2,m3,m4,_⟩:=ik hm
 obtain ⟨r1,r2,r3,r4,r5⟩:=EB h (bX cj d.move d.sum).1 cj d hn
 have hp:=h.perm cj (List.mem_of_getElem? ho)
 unfold kx
 refine h.cQ fun _=>⟨h.time,by rw [r2];exact h.ag,by rw [r3];exact h.due,by rw [List.length_set];exact h.aj,BP h.aQ,h.w0,h.w1,fun a ha=>?_,by dsimp only;rw [r2,r3];exact h.jI,by dsimp only;rw [List.length_set];exact r4.own,by dsimp only;rw [List.length_set];exact r5.own,r1,r4.len,r5.len,by dsimp only;rw [List.length_set];exact h.p0,by dsimp only;rw [List.length_set];exact h.p1,h.n0,h.n1,h.calm⟩
 dsimp only
 rw [r2,r3]
 rcases fL ha with ha|rfl
 ·exact h.perm a ha
 ·exact ⟨m2,by rw [m3,m4];exact hp.2⟩
theorem km {aO az n time:Int} (h:(dp aO az n time).2=0):bL (dp aO az n time).1=0/\(dp aO az n time).1=⟨aO,az,n,0,0,0,time+100,false⟩/\¬(n < 1\/n > 1000000\/time < 0\/time > 1000000\/aO < 0\/aO > 7\/az < 0\/az > 7):=by
 unfold dp at h ⊢
 split at h
 ·cases h
 ·rename_i h1;rw [if_neg h1];exact ⟨sT (by dsimp only;omega),rfl,h1⟩
theorem Ef {s:cG} {a:cg} (h:(cx s a).2=0):(cx s a).1.bb=s.bb++[a]:=by
 unfold cx at h ⊢
 split at h
 ·rename_i h1;exact absurd h h1
 split at h
 ·cases h
 split at h
 ·cases h
 split at h
 ·cases h
 ·rename_i h1 h2 h3 h4;rw [if_neg h1,if_neg h2,if_neg h3,if_neg h4]
theorem tu {e:Int} (h:ib e=0):e=0:=by unfold ib at h;split at h<;>omega
theorem ct.asks {b:Bk} (h:ct b) (d:aV):ct (du b d).1:=by
 unfold du
 split
 ·exact h
 rename_i hn
 have hlen:∀ a∈b.bx.bb++[(⟨d.n,d.az,d.sum,b.time⟩:cg)],0<=a.aO/\a.aO < b.ag.length/\0<=a.az/\a.az < b.due.length:=fun a ha=>by
  rcases List.mem_append.1 ha with ha|ha
  ·exact h.jI a ha
  ·obtain rfl:=List.mem_singleton.1 ha;dsimp only;omega
 split
 ·split
  ·exact h
  split
  ·exact h
  rename_i h1 h2
  have he:=tu (show ib (cx b.bx ⟨d.n,d.az,d.sum,b.time⟩).2=0 by omega)
  have hg:=Ef he
  exact ⟨h.time,h.ag,h.due,by dsimp only;omega,h.aQ,h.w0,h.w1,h.perm,by dsimp only;rw [hg];exact hlen,h.k0,h.k1,h.right,h.l0,h.l1,h.p0,h.p1,h.n0,h.n1,fun hf=>by dsimp only at hf;simp_all⟩
 split
 ·exact h
 split
 ·exact h
 split
 ·exact h
 rename_i h1 h2 h3 c hc
 split
 ·exact h
 rename_i h4
 obtain ⟨w1,w2,w3⟩:=km (show (dp d.n d.az d.sum b.time).2=0 by omega)
 have hcr:cH (dE c d.sum b.time).1=0:=by
  rcases oU (show dE c d.sum b.time=((dE c d.sum b.time).1,(dE c d.sum b.time).2) from rfl) with ⟨h5,_⟩|⟨h5,h6,h7,h8,h9,h10,h11,l,h12,h13⟩
  ·exact absurd h5 (by omega)
  ·rw [h13];have hr:=iy h6;exact nH (by dsimp only;omega) hr.2.2.2.2.1 (vA h12)
 have hq:=h.calm (by cases hd:b.down with|true=>exact absurd hd (by assumption)|false=>rfl)
 have hl:b.aj.length+1<=30:=by have:=h.aj;rw [hq] at this;simp only [List.length_nil] at this;omega
 have hk:∀ {n:Int},n < (b.aj.length:Int)->n < ((b.aj++[(dp d.n d.az d.sum b.time).1]).length:Int):=fun hn=>by rw [List.length_append,List.length_singleton];omega
 refine ⟨h.time,by rw [List.length_set];exact h.ag,h.due,by dsimp only;rw [hq,List.length_append,List.length_singleton];exact hl,h.aQ,h.w0,h.w1,fun a ha=>?_,by dsimp only;rw [List.length_set];exact h.jI,
  fun t ht=>⟨(h.k0 t ht).1,(h.k0 t ht).2.1,hk (h.k0 t ht).2.2⟩,fun t ht=>⟨(h.k1 t ht).1,(h.k1 t ht).2.1,hk (h.k1 t ht).2.2⟩,fun x hx=>?_,h.l0,h.l1,
  fun p hp hs=>⟨(h.p0 p hp hs).1,(h.p0 p hp hs).2.1,hk (h.p0 p hp hs).2.2⟩,fun p hp hs=>⟨(h.p1 p hp hs).1,(h.p1 p hp hs).2.1,hk (h.p1 p hp hs).2.2⟩,h.n0,h.n1,h.calm⟩
 ·dsimp only at ha ⊢
  rw [List.length_set]
  rcases List.mem_append.1 ha with ha|ha
  ·exact h.perm a ha
  ·obtain rfl:=List.mem_singleton.1 ha
   exact ⟨w1,by rw [w2];dsimp only;omega⟩
 ·rcases fL hx with hx|rfl
  ·exact h.right x hx
  ·exact hcr
theorem uZ {α:Type} {p:α->Bool} {l:List α} {x:α} (h:x∈dj p l):x∈l:=(List.mem_filter.1 h).1
theorem pn.back {n:Nat} {s:bO} (h:pn n s) {seen:Int} (hb:(eg s seen).2=0):pn n (eg s seen).1:=by
 rcases qG (show eg s seen=((eg s seen).1,(eg s seen).2) from rfl) with ⟨h1,_⟩|⟨_,_,_,_,h2⟩
 ·exact absurd hb h1
 ·rw [h2];exact ⟨fun t ht=>h.own t (uZ ht),Nat.le_trans (List.length_filter_le ..) h.len⟩
theorem od {aj:List bl} {due:List Int} {ag:List bD} {book:List Entry} {e:Int} {t:aS} (h:∀ c∈ag,cH c=0):
  (dv aj due ag book e t).1.length=due.length/\(∀ c∈(dv aj due ag book e t).2.1,cH c=0)/\(dv aj due ag book e t).2.1.length=ag.length:=by
 unfold dv
 split
 ·exact ⟨rfl,h,rfl⟩
 split
 ·exact ⟨List.length_set ..,h,rfl⟩
 split
 ·exact ⟨rfl,kd h,fq _ _ _ _ _⟩
 split
 ·exact ⟨List.length_set ..,h,rfl⟩
 ·exact ⟨rfl,h,rfl⟩
theorem oc {n:Int} {t:aS} (h:0<=n):0<=(fg n t).1:=by unfold fg;split<;>(dsimp only;omega)
theorem xl {α:Type} {l:List α} {n:Nat} {x:α} (h:x∈l.drop n):x∈l:=List.mem_of_mem_drop h
theorem ct.bB {b:Bk} (h:ct b) {cs:List bD} {due:List Int} {bk:List Entry} (h1:∀ c∈cs,cH c=0) (h2:cs.length=b.ag.length) (h3:due.length=b.due.length):ct {b with ag:=cs,due:=due,book:=bk}:=
 ⟨h.time,by rw [h2];exact h.ag,by rw [h3];exact h.due,h.aj,h.aQ,h.w0,h.w1,by dsimp only;rw [h2,h3];exact h.perm,by dsimp only;rw [h2,h3];exact h.jI,h.k0,h.k1,h1,h.l0,h.l1,h.p0,h.p1,h.n0,h.n1,h.calm⟩
theorem ct.zy {b:Bk} (h:ct b):ct {b with w0:=b.w0.drop 1}:=
 ⟨h.time,h.ag,h.due,h.aj,h.aQ,by dsimp only;rw [List.length_drop];have:=h.w0;omega,h.w1,h.perm,h.jI,h.k0,h.k1,h.right,h.l0,h.l1,fun p hp=>h.p0 p (xl hp),h.p1,h.n0,h.n1,h.calm⟩
theorem ct.zx {b:Bk} (h:ct b):ct {b with w1:=b.w1.drop 1}:=
 ⟨h.time,h.ag,h.due,h.aj,h.aQ,h.w0,by dsimp only;rw [List.length_drop];have:=h.w1;omega,h.perm,h.jI,h.k0,h.k1,h.right,h.l0,h.l1,h.p0,fun p hp=>h.p1 p (xl hp),h.n0,h.n1,h.calm⟩
theorem ct.Io {b:Bk} (h:ct b) {s:bO} (hs:pn b.aj.length s):ct {b with s0:=s}:=
 ⟨h.time,h.ag,h.due,h.aj,h.aQ,h.w0,h.w1,h.perm,h.jI,hs.own,h.k1,h.right,hs.len,h.l1,h.p0,h.p1,h.n0,h.n1,h.calm⟩
theorem ct.Im {b:Bk} (h:ct b) {s:bO} (hs:pn b.aj.length s):ct {b with s1:=s}:=
 ⟨h.time,h.ag,h.due,h.aj,h.aQ,h.w0,h.w1,h.perm,h.jI,h.k0,hs.own,h.right,h.l0,hs.len,h.p0,h.p1,h.n0,h.n1,h.calm⟩
theorem ct.Fl {b:Bk} (h:ct b) {n:Int} (hn:0<=n):ct {b with n0:=n}:=
 ⟨h.time,h.ag,h.due,h.aj,h.aQ,h.w0,h.w1,h.perm,h.jI,h.k0,h.k1,h.right,h.l0,h.l1,h.p0,h.p1,hn,h.n1,h.calm⟩
theorem ct.Fk {b:Bk} (h:ct b) {n:Int} (hn:0<=n):ct {b with n1:=n}:=
 ⟨h.time,h.ag,h.due,h.aj,h.aQ,h.w0,h.w1,h.perm,h.jI,h.k0,h.k1,h.right,h.l0,h.l1,h.p0,h.p1,h.n0,hn,h.calm⟩
theorem ct.ET {b:Bk} (h:ct b) (d:aV):ct (ew b d).1:=by
 unfold ew
 split
 ·exact h
 split
 ·exact h.zy
 split
 ·split
  ·rename_i hb;exact h.zy.Io (h.va.back hb)
  ·exact h
 split
 ·obtain ⟨r1,r2,r3⟩:=od (aj:=b.aj) (due:=b.due) (book:=b.book) (e:=0) (t:=(by assumption:bS).bY) h.right
  exact h.cQ fun _=>(h.zy.Fl (oc h.n0)).bB r2 r3 r1
 ·exact h.zy.Fl (oc h.n0)
theorem ct.ES {b:Bk} (h:ct b) (d:aV):ct (eu b d).1:=by
 unfold eu
 split
 ·exact h
 split
 ·exact h.zx
 split
 ·split
  ·rename_i hb;exact h.zx.Im (h.kC.back hb)
  ·exact h
 split
 ·obtain ⟨r1,r2,r3⟩:=od (aj:=b.aj) (due:=b.due) (book:=b.book) (e:=0) (t:=(by assumption:bS).bY) h.right
  exact h.cQ fun _=>(h.zx.Fk (oc h.n1)).bB r2 r3 r1
 ·exact h.zx.Fk (oc h.n1)
theorem ct.jH {b:Bk} (h:ct b) (d:aV):ct (bE b d).1:=by
 unfold bE
 split
 ·exact h.ET d
 split
 ·exact h.ES d
 ·exact h
theorem kr {c:bD} {n:Int} (h:(eW c n).2=0):cH (eW c n).1=0/\(eW c n).1=⟨c.bB,c.held+n,c.cv,c.de⟩/\cH c=0/\1<=n/\n<=1000000:=by
 unfold eW at h ⊢
 split at h
 ·rename_i h1;exact absurd h h1
 split at h
 ·cases h
 ·rename_i h1 h2
  rw [if_neg h1,if_neg h2]
  have hw:cH c=0:=by omega
  have hr:=iy hw
  exact ⟨nH (by dsimp only;omega) hr.2.2.2.2.1 hr.2.2.2.2.2,rfl,hw,by omega,by omega⟩
theorem Bj {n m:Nat}:∀ (l:List cg) (cs:List bD) (xs:List bl),(∀ a∈l,0<=a.aO/\a.aO < n/\0<=a.az/\a.az < m)->cs.length=n->
  (∀ a∈xs,bL a=0/\0<=a.aO/\a.aO < n/\0<=a.az/\a.az < m)->(∀ c∈cs,cH c=0)->
  (∀ c∈(fe l cs xs).1,cH c=0)/\(fe l cs xs).1.length=n/\(∀ a∈(fe l cs xs).2.1,bL a=0/\0<=a.aO/\a.aO < n/\0<=a.az/\a.az < m)/\xs.length<=(fe l cs xs).2.1.length/\(fe l cs xs).2.1.length<=xs.length+l.length
 |[],cs,xs,_,h2,h3,h4=>⟨h4,h2,h3,Nat.le_refl _,Nat.le_refl _⟩
 |x::l,cs,xs,h1,h2,h3,h4=>by
  unfold fe
  split
  ·exact ⟨h4,h2,h3,Nat.le_refl _,by dsimp only;omega⟩
  rename_i e1
  split
  ·exact ⟨h4,h2,h3,Nat.le_refl _,by dsimp only;omega⟩
  rename_i c hc
  split
  ·exact ⟨h4,h2,h3,Nat.le_refl _,by dsimp only;omega⟩
  rename_i e2
  have hx:=h1 x List.mem_cons_self
  obtain ⟨w1,w2,w3⟩:=km (show (dp x.aO x.az x.sum x.time).2=0 by omega)
  obtain ⟨f1,_⟩:=kr (show (eW c x.sum).2=0 by omega)
  obtain ⟨r1,r2,r3,r4,r5⟩:=Bj l (cs.set x.aO.toNat (eW c x.sum).1) (xs++[(dp x.aO x.az x.sum x.time).1]) (fun a ha=>h1 a (List.mem_cons_of_mem _ ha)) ((List.length_set ..).trans h2)
   (fun a ha=>by
    rcases List.mem_append.1 ha with ha|ha
    ·exact h3 a ha
    ·obtain rfl:=List.mem_singleton.1 ha;exact ⟨w1,by rw [w2];exact hx⟩)
   (fun z hz=>by
    rcases fL hz with hz|rfl
    ·exact h4 z hz
    ·exact f1)
  rw [List.length_append,List.length_singleton] at r4 r5
  exact ⟨r1,r2,r3,by omega,by rw [List.length_cons];omega⟩
theorem oQ {s:cG} (h:(cC s).2.2=0):cb s=0/\(cC s).1=⟨s.cap,List.replicate s.used.length 0,[]⟩/\(cC s).2.1=s.bb:=by
 unfold cC at h ⊢
 split at h
 ·rename_i h1;exact absurd h h1
 ·rename_i h1;rw [if_neg h1];exact ⟨by omega,rfl,rfl⟩
theorem ct.vV {b:Bk} (h:ct b) (h1:(cC b.bx).2.2=0):ct {b with ag:=(fe (cC b.bx).2.1 b.ag b.aj).1,aj:=(fe (cC b.bx).2.1 b.ag b.aj).2.1,bx:=(cC b.bx).1,down:=false}:=by
 obtain ⟨_,c1,c2⟩:=oQ h1
 rw [c1,c2]
 obtain ⟨r1,r2,r3,r4,r5⟩:=Bj b.bx.bb b.ag b.aj h.jI rfl h.perm h.right
 have hk:∀ {n:Int},n < (b.aj.length:Int)->n < ((fe b.bx.bb b.ag b.aj).2.1.length:Int):=fun hn=>by omega
 exact ⟨h.time,by rw [r2];exact h.ag,h.due,by have:=h.aj;simp only [List.length_nil];omega,h.aQ,h.w0,h.w1,by dsimp only;rw [r2];exact r3,fun a ha=>by simp at ha,
  fun t ht=>⟨(h.k0 t ht).1,(h.k0 t ht).2.1,hk (h.k0 t ht).2.2⟩,fun t ht=>⟨(h.k1 t ht).1,(h.k1 t ht).2.1,hk (h.k1 t ht).2.2⟩,r1,h.l0,h.l1,
  fun p hp hs=>⟨(h.p0 p hp hs).1,(h.p0 p hp hs).2.1,hk (h.p0 p hp hs).2.2⟩,fun p hp hs=>⟨(h.p1 p hp hs).1,(h.p1 p hp hs).2.1,hk (h.p1 p hp hs).2.2⟩,h.n0,h.n1,fun _=>rfl⟩
theorem Dr {l:List cg} {q:Nat} {x:cg} {cs:List bD} {xs:List bl} {a:bl} {e1 e2:Int} (h:l[q]?=some x) (hn:dp x.aO x.az x.sum x.time=(a,e1)) (hf:dN 0 e1=e2) (he:¬e2=0):fe (l.drop q) cs xs=(cs,xs,e2):=by
 rw [rF h,hn]
 have:e1=e2:=by unfold dN at hf;rw [if_pos rfl] at hf;exact hf
 subst this
 rw [if_pos he]
theorem Dq {l:List cg} {q:Nat} {x:cg} {cs:List bD} {xs:List bl} {a:bl} {c k:bD} {e1 e3 e4:Int} (h:l[q]?=some x) (hn:dp x.aO x.az x.sum x.time=(a,e1)) (hf1:dN 0 e1=0) (hc:cs[x.aO.toNat]?=some c)
  (hF:eW c x.sum=(k,e3)) (hf:dN 0 e3=e4) (he:¬e4=0):fe (l.drop q) cs xs=(cs,xs,e4):=by
 rw [rF h,hn,hc]
 have h1:e1=0:=(gu hf1).2
 have:e3=e4:=by unfold dN at hf;rw [if_pos rfl] at hf;exact hf
 subst this h1
 dsimp only
 rw [if_neg (by simp),hF,if_pos he]
theorem Dp {l:List cg} {q:Nat} {x:cg} {cs:List bD} {xs:List bl} {a:bl} {c k:bD} {e1 e3:Int} (h:l[q]?=some x) (hn:dp x.aO x.az x.sum x.time=(a,e1)) (hf1:dN 0 e1=0) (hc:cs[x.aO.toNat]?=some c)
  (hF:eW c x.sum=(k,e3)) (hf:dN 0 e3=0):fe (l.drop q) cs xs=fe (l.drop (q+1)) (cs.set x.aO.toNat k) (xs++[a]):=by
 rw [rF h,hn,hc]
 have h1:e1=0:=(gu hf1).2
 have h3:e3=0:=(gu hf).2
 subst h3 h1
 dsimp only
 rw [if_neg (by simp),hF,if_neg (by simp)]
theorem FD {l:List cg} {q:Nat} {cs:List bD} {xs:List bl} (h:¬q < l.length):fe (l.drop q) cs xs=(cs,xs,0):=by
 rw [List.drop_of_length_le (by omega)];rfl
theorem Bl {b:Bk} {s:cG} {l:List cg} {cs:List bD} {xs:List bl} {e:Int} (hd:b.down=true) (h:cC b.bx=(s,l,0)) (hL:fe l b.ag b.aj=(cs,xs,e)) (he:¬e=0):gn b=(b,⟨e,0⟩):=by
 unfold gn
 rw [if_neg (by rw [hd];simp),h]
 dsimp only
 rw [if_neg (by simp),hL]
 dsimp only
 rw [if_pos he]
theorem Gw {b:Bk} {s:cG} {l:List cg} {cs:List bD} {xs:List bl} (hd:b.down=true) (h:cC b.bx=(s,l,0)) (hL:fe l b.ag b.aj=(cs,xs,0)):
  gn b=(fj {b with ag:=cs,aj:=xs,bx:=s,down:=false},⟨0,0⟩):=by
 unfold gn
 rw [if_neg (by rw [hd];simp),h]
 dsimp only
 rw [if_neg (by simp),hL]
 dsimp only
 rw [if_neg (by simp)]
theorem ct.Ij {b:Bk} (hb:ct b) {s:cG} {l:List cg} {cs:List bD} {xs:List bl} (h:cC b.bx=(s,l,0)) (hL:fe l b.ag b.aj=(cs,xs,0)):
  ct {b with ag:=cs,aj:=xs,bx:=s,down:=false}:=by
 have:=hb.vV (by rw [h])
 rw [h] at this;dsimp only at this;rw [hL] at this;exact this
theorem ct.Bh {b:Bk} (h:ct b):ct (gn b).1:=by
 unfold gn
 split
 ·exact h
 split
 ·exact h
 split
 ·exact h
 ·exact (h.vV (by omega)).late
theorem ct.rK {b:Bk} (h:ct b) {t:List au} (ht:t.length<=100):ct {b with aQ:=t}:=
 ⟨h.time,h.ag,h.due,h.aj,ht,h.w0,h.w1,h.perm,h.jI,h.k0,h.k1,h.right,h.l0,h.l1,h.p0,h.p1,h.n0,h.n1,h.calm⟩
theorem mS {t:List au} {y:List (List Int)} (h:t.length<=100):(fS t y).1.length<=100/\(fS t y).2.1.length<=y.length+1:=by
 unfold fS
 split
 ·exact ⟨h,Nat.le_succ _⟩
 ·exact ⟨by simp,by simp⟩
theorem ct.ky {b:Bk} (h:ct b) (y:List (List Int)) (d:aV):ct (cq b y d).1/\(cq b y d).2.1.length<=y.length+1:=by
 unfold cq
 split
 ·exact ⟨h.load d,Nat.le_succ _⟩
 split
 ·exact ⟨h.asks d,Nat.le_succ _⟩
 split
 ·exact ⟨h.jG d,Nat.le_succ _⟩
 split
 ·exact ⟨h.cM d,Nat.le_succ _⟩
 split
 ·exact ⟨h.send d,Nat.le_succ _⟩
 split
 ·exact ⟨h.jH d,Nat.le_succ _⟩
 split
 ·split
  ·exact ⟨h,Nat.le_succ _⟩
  ·exact ⟨⟨h.time,h.ag,h.due,h.aj,h.aQ,h.w0,h.w1,h.perm,h.jI,h.k0,h.k1,h.right,h.l0,h.l1,h.p0,h.p1,h.n0,h.n1,fun h=>by cases h⟩,Nat.le_succ _⟩
 split
 ·exact ⟨h.Bh,Nat.le_succ _⟩
 split
 ·exact ⟨h.rK (mS h.aQ).1,(mS (y:=y) h.aQ).2⟩
 split
 ·exact ⟨h.qV d,Nat.le_succ _⟩
 ·exact ⟨h,Nat.le_succ _⟩
theorem ct.once {b:Bk} (h:ct b) (y:List (List Int)) (told:List (Int×Answer)) (cl:Nat) (d:aV):ct (da b y told cl d).1/\(da b y told cl d).2.1.length<=y.length+1:=by
 unfold da
 split
 ·exact ⟨h,Nat.le_succ _⟩
 ·exact h.ky y d
theorem uP:∀ {l:List eP} {i:Int},(pL l i).err=0->∀ p∈l,fI p=0
 |p::l,i,h,x,hx=>by
  unfold pL at h
  split at h
  ·rename_i h1;exact absurd h h1
  ·rename_i h1
   rcases List.mem_cons.1 hx with rfl|hx
   ·omega
   ·exact uP h x hx
theorem lE {s:Setup} (h:(dZ s).err=0):s.cK.length<=8/\0<=s.eY/\s.eY<=8/\0<=s.cap/\s.cap<=1000000/\∀ p∈s.cK,fI p=0:=by
 unfold dZ at h
 split at h
 ·cases h
 split at h
 ·cases h
 ·exact ⟨by omega,by omega,by omega,by omega,by omega,uP h⟩
theorem ct.start {s:Setup} (h:(dZ s).err=0):ct (dk s):=by
 obtain ⟨h1,h2,h3,h4,h5,h6⟩:=lE h
 have hn:dV s.cap s.cK.length=({cap:=s.cap,used:=List.replicate s.cK.length 0,bb:=[]},0):=qX h1 ⟨h4,h5⟩
 unfold dk
 rw [hn]
 refine ⟨by dsimp only;omega,by simpa using h1,by simp;omega,by simp,by simp,by simp,by simp,by simp,by simp,by simp,by simp,fun c hc=>?_,by simp,by simp,by simp,by simp,by simp,by simp,fun _=>rfl⟩
 obtain ⟨p,hp,rfl⟩:=List.mem_map.1 hc
 exact nH (c:=⟨0,0,p,[]⟩) (by dsimp only;omega) (h6 p hp) (tM.2 ⟨by simp,by simp,by simp⟩)
end Go.Proofs.Ytegepioggeggaaa.Dev
