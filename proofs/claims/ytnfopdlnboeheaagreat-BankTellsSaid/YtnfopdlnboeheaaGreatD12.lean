/- A part of the proof: Bank9, PlOk, BankUp, Bank12, Bank13, Play0, Play1, Sh36. No condition. -/
import Derived.Test.YtnfopdlnboeheaaGreatD11
set_option linter.unusedVariables false
set_option linter.unusedSimpArgs false
set_option maxHeartbeats 8000000
set_option maxRecDepth 100000
namespace Go.Proofs.YtnfopdlnboeheaaGreat.Dev
open Go.RowKit

theorem Eh (x:Nat->Value) (hx:∀ i,(x i).oneCell'=true) (b:Bk) (d:bW) (ok:cH b) (hdn:b.down=false) (b2:Bk) (a2:Answer) (hr:eX b d=(b2,a2)):cS Tryz.prog 34 [(.c (.p 0 0 0 0)),(.c (.q (ek d) 0))] [(0,(.box 58 (cf b 1 2 3 4 (.d (.v (x 17))) (.d (.v (x 19)))))),(1,(dS b.ak)),(2,(dR b.due)),(3,(ec b.an)),(4,(cX b.aM))] [0] (.v (.g [cI a2.err,cI a2.ba])) [(0,(.box 58 (cf b2 1 2 3 4 (.d (.v (x 17))) (.d (.v (x 19)))))),(1,(dS b2.ak)),(2,(dR b2.due)),(3,(ec b2.an)),(4,(cX b2.aM))]:=by
 refine cS.mk 246 [(0,(aC (.p 0 0 0 0))),(1,(aC (.q (ek d) 0)))] 5 Tryz.func34 rfl rfl rfl rfl rfl rfl rfl rfl rfl ?_
 intro W0 F0 T0 pg
 obtain ⟨okt,okc,okd,oka,oky,okw0,okw1,okp,okv,okk0,okk1,okg,okl0,okl1,okp0,okp1,okn0,okn1,okq⟩:=id ok
 refine ag 1 rfl (af (ag 5 rfl (ax rfl (fun hno=>absurd (hdn.symm.trans hno) cm) (fun _=>?_))))
 refine aD (af (af ?_))
 rcases Bool.eq_false_or_eq_true (decide (d.n < 0)) with hb2|hb2
 ·
  have hb2':=of_decide_eq_true hb2
  refine bg [0,1,4] [5,0,1,2,3,4] rfl (bC (kn:=[(22,true)]) bn 18 rfl ⟨hb2,trivial⟩ (bf [5,0,1,2,3,4] rfl (ae (ax rfl (fun _=>?_) (fun hno=>by cases hno)))))
  refine ag 2 rfl (al (aj ?_))
  have hX:eX b d=(b,(⟨6,0⟩:Answer)):=by
    unfold eX;simp only [hdn,Bool.false_eq_true,if_false];exact sx
  cases hX.symm.trans hr;clear hX
  exact bb [0,1,2,3,4,5] 5 rfl
 have hb2':=of_decide_eq_false hb2
 refine bg [0,1,4] [5,0,1,2,3,4] rfl (bC (kn:=[(22,false)]) bn 15 rfl ⟨hb2,trivial⟩ (cG (n':=6) [32,23] [3] rfl rfl (.inl ⟨(aR.yes rfl rfl rfl),dn rfl rfl rfl rfl rfl hG⟩) rfl (aF 2 rfl (bf [5,0,1,2,3,4] rfl (ae (aO rfl (fun hc4'=>?_) (fun hc4'=>?_)))))))
 ·
  refine ag 2 rfl (al (aj ?_))
  have hX:eX b d=(b,(⟨6,0⟩:Answer)):=by
    unfold eX;simp only [hdn,Bool.false_eq_true,if_false];exact sx
  cases hX.symm.trans hr;clear hX
  exact bb [0,1,2,3,4,5] 5 rfl
 refine aD (af ?_)
 obtain ⟨x1,hx1⟩:=bO (xs:=b.an) (i:=Int.toNat (d.n)) aa
 refine bg [0,1,4] [5,0,1,2,3,4] rfl (aF 9 rfl (bh 6 [41,45] [3] rfl (cU (i:=Int.toNat (d.n)) rfl rfl rfl hG ji) (bM 6 [46] [3] rfl (dk rfl rfl rfl tI rfl ji (aV hx1) rfl) rfl (bC (n':=7) (kn:=[]) bn 1 rfl trivial (bf [6,5,0,1,2,3,4] rfl (ad 1 rfl (ae (af ?_))))))))
 obtain ⟨b0,e0,hr0⟩:∃ (b0:bG) (e0:Int),bV x1 d.move d.sum=(b0,e0):=⟨_,_,rfl⟩
 refine eJ [0,1,4,5] [6,5,0,1,2,3,4] rfl (cV 9 rfl (de 7 [49,53,57] [] rfl (cA 7 (Aw x1 d.move d.sum b0 e0 hr0) Ll rfl) rfl (gJ (n':=8) (kn:=[]) bn 6 rfl trivial (eb [0,1,4,5,6,7] [7,6,5,0,1,2,3,4] rfl rfl aJ (then_ok (af (ag 2 rfl (aO rfl (fun hc5'=>?_) (fun hc5'=>?_)))))))))
 ·
  refine ag 3 rfl (al (aj ?_))
  have hX:eX b d=(b,(⟨e0,0⟩:Answer)):=by
    unfold eX;simp only [hdn,Bool.false_eq_true,if_false];rw [if_neg aa,hx1];dsimp only;simp only [hr0];exact sx
  cases hX.symm.trans hr;clear hX
  exact bb [0,1,2,3,4,5] 5 rfl
 refine aD ?_
 obtain ⟨mw1,mw2,mc,ms,mk1,mk2,mn1,mn2⟩:=lQ (show bV x1 d.move d.sum=(b0,0) by rw [hr0];congr 1;omega)
 have hoP:=okp x1 (List.mem_of_getElem? hx1)
 have hI0:∀ t∈b.s0.kept,fb t.number:=fun t ht=>(okk0 t ht).1
 have hI1:∀ t∈b.s1.kept,fb t.number:=fun t ht=>(okk1 t ht).1
 refine aw 1 rfl (ay 17 [0,8,9,10,11,12,13,14,15,16,7,6,5] (fm id (bp [0,8,9,10,11,12,13,14,15,16]) (nu (x 17) (x 19) b aa aa aa aa) uk rfl) rfl (ad 1 rfl (ae (af ?_))))
 obtain ⟨e1,hr1⟩:∃ (e1:Int),bE b0=e1:=⟨_,rfl⟩
 have hhb1:=kB (show bI b0=0 by assumption)
 rw [hr1] at hhb1
 obtain ⟨e2,hr2⟩:∃ (e2:Int),bE x1=e2:=⟨_,rfl⟩
 have hhb2:=kB (show bI x1=0 by assumption)
 rw [hr2] at hhb2
 refine bg [0,1,4,5,6,8] [0,8,9,10,11,12,13,14,15,16,7,6,5] rfl (aF 1 rfl (bM 17 [67] [] rfl (cA 17 (nH b0 (by first|assumption|omega|rfl|decide) e1 hr1) Cs rfl) rfl (aF 1 rfl (bM 17 [69] [] rfl (cA 17 (nH x1 (by first|assumption|omega|rfl|decide) e2 hr2) Cs rfl) rfl (bh 17 [68,70] [] rfl (bm rfl rfl rfl (bH aa)) (aF 1 rfl (bf [0,8,9,10,11,12,13,14,15,16,7,6,5] rfl (ae (af (qu (J:=⟨[(0,(aC (.p 0 0 0 0))),(1,(aC (.q (ek d) 0))),(4,(aC (.p 5 0 0 0))),(6,(aC (.p 7 0 0 0))),(8,(aC (.p 8 0 0 0))),(9,(aI (e1 - e2))),(93,(aB (decide (d.move=1/\d.sum > jE b.ak b0.aA))))],[(0,(.box 58 (cf b 9 10 11 12 (.d (.v (x 17))) (.d (.v (x 19)))))),(8,(.box 130 (cf b 13 14 15 16 (.d (.v (x 17))) (cI 0)))),(9,(dS b.ak)),(10,(dR b.due)),(11,(ec b.an)),(12,(cX b.aM)),(13,(dS b.ak)),(14,(dR b.due)),(15,(ec b.an)),(16,(cX b.aM)),(7,(.box 81 [(cI b0.aA),(cI b0.au),(cI b0.sum),(cI b0.captured),(cI b0.bd),(cI b0.aX),(cI b0.da),(cB b0.shut)])),(5,(.box 53 [(cI 0),(cI 0)]))],17⟩) ?_ ?_))))))))))
 ·
  rcases Bool.eq_false_or_eq_true (decide (d.move=1)) with hb6|hb6
  ·
   have hb6':=of_decide_eq_true hb6
   obtain ⟨x2,hx2⟩:=bO (xs:=b.ak) (i:=Int.toNat (b0.aA)) aa
   have hx2g:=xU (okg x2 (List.mem_of_getElem? hx2))
   refine bg [0,1,4,6,8,9] [0,8,9,10,11,12,13,14,15,16,7,5] rfl (bC (kn:=[(76,true)]) bn 17 rfl ⟨hb6,trivial⟩ (cG (n':=17) [86,88,77] [13] rfl rfl (.inl ⟨(aR.yes rfl rfl rfl),cU (i:=Int.toNat (b0.aA)) rfl rfl rfl gy gX⟩) rfl (cG (n':=17) [89,77] [13] rfl rfl (.inl ⟨(aR.yes rfl rfl rfl),dk rfl rfl rfl rB rfl gX (aV hx2) rfl⟩) rfl (cG (n':=17) [90,77] [] rfl rfl (.inl ⟨(aR.yes rfl rfl rfl),cA 17 (tu x2 (by first|assumption|omega|(constructor<;>decide)|(have hz:=jB hJ;omega))) IK rfl⟩) rfl (aF 2 rfl (bf [0,8,9,10,11,12,13,14,15,16,7,5] rfl (ae ?_)))))))
   rw [show (decide (d.move=1/\d.sum > jE b.ak b0.aA))=(decide (d.sum > (x2.bB - x2.held))) by (unfold jE;rw [hx2];dsimp only;first|(simp_all;done)|(simp_all;omega))]
   exact aq.rz id
  have hb6':=of_decide_eq_false hb6
  refine bg [0,1,4,6,8,9] [0,8,9,10,11,12,13,14,15,16,7,5] rfl (bC (kn:=[(76,false)]) bn 22 rfl ⟨hb6,trivial⟩ (bf [0,8,9,10,11,12,13,14,15,16,7,5] rfl (ae ?_)))
  rw [show (decide (d.move=1/\d.sum > jE b.ak b0.aA))=(false) by (unfold jE;first|(simp_all;done)|(simp_all;omega))]
  exact aq.rz id
 refine aO rfl (fun hc7'=>?_) (fun hc7'=>?_)
 ·
  refine ag 2 rfl (al (aj ?_))
  have hX:eX b d=(b,(⟨10,0⟩:Answer)):=by
    unfold eX;simp only [hdn,Bool.false_eq_true,if_false];rw [if_neg aa,hx1];dsimp only;simp only [hr0];exact sx
  cases hX.symm.trans hr;clear hX
  exact bb [0,9,10,11,12,5] 5 rfl
 refine aD (af (bg [0,1,4,6,8,9] [0,8,9,10,11,12,13,14,15,16,7,5] rfl (aF 2 rfl (bh 17 [96] [] rfl (bm rfl rfl rfl (bH aa)) (bC (n':=18) (kn:=[]) bn 11 rfl trivial (bf [17,0,8,9,10,11,12,13,14,15,16,7,5] rfl (ad 1 rfl (ae ?_))))))))
 obtain ⟨jcards,jdue,jbook,js0,js1,je,hj⟩:∃ (jcards:List bF) (jdue:List Int) (jbook:List Entry) (js0:bK) (js1:bK) (je:Int),eS b b0 x1 d=(jcards,jdue,jbook,js0,js1,je):=⟨_,_,_,_,_,_,rfl⟩
 have hj0:=hj
 refine qu (J:=⟨[(0,(aC (.p 0 0 0 0))),(1,(aC (.q (ek d) 0))),(4,(aC (.p 5 0 0 0))),(6,(aC (.p 7 0 0 0))),(8,(aC (.p 8 0 0 0)))],[(0,(.box 58 (cf b 9 10 11 12 (.d (.v (x 17))) (.d (.v (x 19)))))),(8,(.box 130 ((((((((cf b 13 14 15 16 (.d (.v (x 17))) (cI je)).set 2 (.s 13 0 6 jcards.length)).set 3 (.s 14 0 1 jdue.length)).set 5 (cI js0.bj)).set 6 (bX js0.kept)).set 7 (cI js1.bj)).set 8 (bX js1.kept)).set 18 (cE jbook)))),(9,(dS b.ak)),(10,(dR b.due)),(11,(ec b.an)),(12,(cX b.aM)),(13,(dS jcards)),(14,(dR jdue)),(15,(ec b.an)),(16,(cX b.aM)),(7,(.box 81 [(cI b0.aA),(cI b0.au),(cI b0.sum),(cI b0.captured),(cI b0.bd),(cI b0.aX),(cI b0.da),(cB b0.shut)])),(5,(.box 53 [(cI 0),(cI 0)]))],17⟩) ?_ ?_
 ·
  refine ag 4 rfl (aL (af (ag 2 rfl (ax rfl (fun hc8=>?_) (fun hc8=>?_)))))
  ·
   have hc8':=of_decide_eq_true hc8
   refine aD (ax rfl (fun _=>?_) (fun hno=>absurd (hc8.symm.trans hno) cm))
   refine ah (ad 4 rfl ?_)
   obtain ⟨l23,e23,hr3⟩:∃ (l23:List bF) (e23:Int),cP b.ak 0 b0.aA (e1 - e2) 0=(l23,e23):=⟨_,_,rfl⟩
   refine ay 19 [8,18,17,0,9,10,11,12,14,15,16,7,5] (cz (bp [8,13]) (bp [8,18]) (ms:=((bY.set 2 (some (.s 1 0 6 b.ak.length))).set 19 (some (cI 0)))) (ms':=((bY.set 2 (some (.s 1 0 6 l23.length))).set 19 (some (cI e23)))) (fun x hx=>lx x hx b.ak 0 b0.aA (e1 - e2) 0 aa l23 e23 hr3) qZ rfl) rfl (bq (aN (then_ok ?_)))
   have hX:eS b b0 x1 d=(l23,b.due,b.book,b.s0,b.s1,e23):=by
     unfold eS;(try simp only [hr1,hr2,hr3]);exact sx
   rw [hX] at hj;clear hX;simp only [Prod.mk.injEq] at hj;obtain ⟨rfl,rfl,rfl,rfl,rfl,rfl⟩:=hj
   exact aq.rz (fun k=>if k=13 then 18 else k)
  have hc8':=of_decide_eq_false hc8
  refine ah (ad 2 rfl (ae (aO rfl (fun hc10'=>?_) (fun hc10'=>?_))))
  ·
   refine ah (ad 4 rfl ?_)
   obtain ⟨l24,e24,hr4⟩:∃ (l24:List bF) (e24:Int),cP b.ak 0 b0.aA (e1 - e2) 0=(l24,e24):=⟨_,_,rfl⟩
   refine ay 19 [8,18,17,0,9,10,11,12,14,15,16,7,5] (cz (bp [8,13]) (bp [8,18]) (ms:=((bY.set 2 (some (.s 1 0 6 b.ak.length))).set 19 (some (cI 0)))) (ms':=((bY.set 2 (some (.s 1 0 6 l24.length))).set 19 (some (cI e24)))) (fun x hx=>lx x hx b.ak 0 b0.aA (e1 - e2) 0 aa l24 e24 hr4) qZ rfl) rfl (bq (aN (then_ok ?_)))
   have hX:eS b b0 x1 d=(l24,b.due,b.book,b.s0,b.s1,e24):=by
     unfold eS;(try simp only [hr1,hr2,hr4]);exact sx
   rw [hX] at hj;clear hX;simp only [Prod.mk.injEq] at hj;obtain ⟨rfl,rfl,rfl,rfl,rfl,rfl⟩:=hj
   exact aq.rz (fun k=>if k=13 then 18 else k)
  refine af (ag 2 rfl (ax rfl (fun hc11=>?_) (fun hc11=>?_)))
  ·
   have hc11':=of_decide_eq_true hc11
   refine aD (ax rfl (fun _=>?_) (fun hno=>absurd (hc11.symm.trans hno) cm))
   refine af ?_
   obtain ⟨l25,e25,hr5⟩:∃ (l25:List bF) (e25:Int),cP b.ak 0 b0.aA (e1 - e2) (0 - d.sum)=(l25,e25):=⟨_,_,rfl⟩
   refine eJ [0,1,4,6,8,9,11,10] [17,0,8,9,10,11,12,13,14,15,16,7,5] rfl (cV 8 rfl (dZ 18 [129] [] rfl (nN rfl rfl (bH aa)) (de 19 [122,124,125,130] [13,8] rfl (cz (bp [8,13]) (bp [8,18]) (ms:=((bY.set 2 (some (.s 1 0 6 b.ak.length))).set 19 (some (cI 0)))) (ms':=((bY.set 2 (some (.s 1 0 6 l25.length))).set 19 (some (cI e25)))) (fun x hx=>lx x hx b.ak 0 b0.aA (e1 - e2) (0 - d.sum) aa l25 e25 hr5) qZ rfl) rfl (eb [0,1,4,6,8,11,10] [18,8,17,0,9,10,11,12,14,15,16,7,5] rfl rfl aJ (then_ok (aw 6 rfl ?_))))))
   obtain ⟨l26,e26,hr6⟩:∃ (l26:List Entry) (e26:Int),dp b.book e25 (10+b0.aA) 1 d.sum=(l26,e26):=⟨_,_,rfl⟩
   refine ay 19 [8,18,17,0,9,10,11,12,14,15,16,7,5] (cz (bp [8]) (bp [8]) (ms:=((bY.set 18 (some (cE b.book))).set 19 (some (cI e25)))) (ms':=((bY.set 18 (some (cE l26))).set 19 (some (cI e26)))) (fun x hx=>lS x hx b.book e25 (10+b0.aA) 1 d.sum l26 e26 hr6) pX rfl) rfl (ae (ag 2 rfl (ah (ad 2 rfl ?_))))
   obtain ⟨s27,e27,hr7⟩:∃ (s27:bK) (e27:Int),ej b.s0 e26 (⟨0,1,d.n,d.sum⟩:aZ)=(s27,e27):=⟨_,_,rfl⟩
   refine ay 19 [8,18,17,0,9,10,11,12,14,15,16,7,5] (cz (bp [8]) (bp [8]) (ms:=(((bY.set 5 (some (cI b.s0.bj))).set 6 (some (bX b.s0.kept))).set 19 (some (cI e26)))) (ms':=(((bY.set 5 (some (cI s27.bj))).set 6 (some (bX s27.kept))).set 19 (some (cI e27)))) (fun x hx=>wa x hx b.s0 e26 (⟨0,1,d.n,d.sum⟩:aZ) dr s27 e27 hr7) Cq rfl) rfl (bq (aN (then_ok ?_)))
   have hX:eS b b0 x1 d=(l25,b.due,l26,s27,b.s1,e27):=by
     unfold eS;(try simp only [hr1,hr2,hr5,hr6,hr7]);exact sx
   rw [hX] at hj;clear hX;simp only [Prod.mk.injEq] at hj;obtain ⟨rfl,rfl,rfl,rfl,rfl,rfl⟩:=hj
   exact aq.rz (fun k=>if k=13 then 18 else k)
  have hc11':=of_decide_eq_false hc11
  refine ah (ad 2 rfl (ae (aO rfl (fun hc13'=>?_) (fun hc13'=>?_))))
  ·
   refine af ?_
   obtain ⟨l28,e28,hr8⟩:∃ (l28:List bF) (e28:Int),cP b.ak 0 b0.aA (e1 - e2) (0 - d.sum)=(l28,e28):=⟨_,_,rfl⟩
   refine eJ [0,1,4,6,8,9,11,10] [17,0,8,9,10,11,12,13,14,15,16,7,5] rfl (cV 8 rfl (dZ 18 [129] [] rfl (nN rfl rfl (bH aa)) (de 19 [122,124,125,130] [13,8] rfl (cz (bp [8,13]) (bp [8,18]) (ms:=((bY.set 2 (some (.s 1 0 6 b.ak.length))).set 19 (some (cI 0)))) (ms':=((bY.set 2 (some (.s 1 0 6 l28.length))).set 19 (some (cI e28)))) (fun x hx=>lx x hx b.ak 0 b0.aA (e1 - e2) (0 - d.sum) aa l28 e28 hr8) qZ rfl) rfl (eb [0,1,4,6,8,11,10] [18,8,17,0,9,10,11,12,14,15,16,7,5] rfl rfl aJ (then_ok (aw 6 rfl ?_))))))
   obtain ⟨l29,e29,hr9⟩:∃ (l29:List Entry) (e29:Int),dp b.book e28 (10+b0.aA) 1 d.sum=(l29,e29):=⟨_,_,rfl⟩
   refine ay 19 [8,18,17,0,9,10,11,12,14,15,16,7,5] (cz (bp [8]) (bp [8]) (ms:=((bY.set 18 (some (cE b.book))).set 19 (some (cI e28)))) (ms':=((bY.set 18 (some (cE l29))).set 19 (some (cI e29)))) (fun x hx=>lS x hx b.book e28 (10+b0.aA) 1 d.sum l29 e29 hr9) pX rfl) rfl (ae (ag 2 rfl (ah (ad 2 rfl ?_))))
   obtain ⟨s210,e210,hr10⟩:∃ (s210:bK) (e210:Int),ej b.s0 e29 (⟨0,1,d.n,d.sum⟩:aZ)=(s210,e210):=⟨_,_,rfl⟩
   refine ay 19 [8,18,17,0,9,10,11,12,14,15,16,7,5] (cz (bp [8]) (bp [8]) (ms:=(((bY.set 5 (some (cI b.s0.bj))).set 6 (some (bX b.s0.kept))).set 19 (some (cI e29)))) (ms':=(((bY.set 5 (some (cI s210.bj))).set 6 (some (bX s210.kept))).set 19 (some (cI e210)))) (fun x hx=>wa x hx b.s0 e29 (⟨0,1,d.n,d.sum⟩:aZ) dr s210 e210 hr10) Cq rfl) rfl (bq (aN (then_ok ?_)))
   have hX:eS b b0 x1 d=(l28,b.due,l29,s210,b.s1,e210):=by
     unfold eS;(try simp only [hr1,hr2,hr8,hr9,hr10]);exact sx
   rw [hX] at hj;clear hX;simp only [Prod.mk.injEq] at hj;obtain ⟨rfl,rfl,rfl,rfl,rfl,rfl⟩:=hj
   exact aq.rz (fun k=>if k=13 then 18 else k)
  refine ag 2 rfl (aO rfl (fun hc14'=>?_) (fun hc14'=>?_))
  ·
   refine af ?_
   obtain ⟨x2,hx2⟩:=bO (xs:=b.due) (i:=Int.toNat (b0.au)) aa
   refine bg [0,1,4,6,8,11] [17,0,8,9,10,11,12,13,14,15,16,7,5] rfl (aF 7 rfl (bh 18 [149,151] [14] rfl (cU (i:=Int.toNat (b0.au)) rfl rfl rfl ed eu) (bM 18 [152] [14] rfl (dY rfl rfl rfl eA rfl (aV hx2) rfl) rfl (aF 5 rfl (bh 18 [149,151] [14] rfl (cU (i:=Int.toNat (b0.au)) rfl rfl rfl ed eu) (bf [17,0,8,9,10,11,12,13,14,15,16,7,5] rfl (eP [17,0,8,9,10,11,12,13,14,15,16,7,5] (dK (ds:=[(dI (IntKind.i64.wrap (x2 - d.sum)))]) rfl rfl rfl rfl rfl eu rfl (Nat.le_of_ble_eq_true rfl) (aV hx2) rfl (eE (x':=(IntKind.i64.wrap (x2 - d.sum))) rfl)) rfl (ae (dW (k:=8) (q:=3) (c':=(.s 14 0 1 (((b.due).set (Int.toNat (b0.au)) (IntKind.i64.wrap (x2 - d.sum))).length))) rfl rfl jN rfl (af ?_))))))))))
   obtain ⟨l211,e211,hr11⟩:∃ (l211:List Entry) (e211:Int),dp b.book 0 (50+b0.au) 1 d.sum=(l211,e211):=⟨_,_,rfl⟩
   refine eJ [0,1,4,6,8,11] [17,0,8,9,10,11,12,13,14,15,16,7,5] rfl (cV 3 rfl (dZ 18 [162] [] rfl (bm rfl rfl rfl (bH aa)) (cV 4 rfl (de 18 [160,163,167] [8] rfl (cz (bp [8]) (bp [8]) (ms:=((bY.set 18 (some (cE b.book))).set 19 (some (cI 0)))) (ms':=((bY.set 18 (some (cE l211))).set 19 (some (cI e211)))) (fun x hx=>lS x hx b.book 0 (50+b0.au) 1 d.sum l211 e211 hr11) pX rfl) rfl (eb [0,1,4,6,8,11] [8,17,0,9,10,11,12,13,14,15,16,7,5] rfl rfl aJ (then_ok (ag 2 rfl (ah (ad 2 rfl ?_)))))))))
   obtain ⟨s212,e212,hr12⟩:∃ (s212:bK) (e212:Int),ej b.s1 e211 (⟨0,2,d.n,d.sum⟩:aZ)=(s212,e212):=⟨_,_,rfl⟩
   refine ay 18 [8,17,0,9,10,11,12,13,14,15,16,7,5] (cz (bp [8]) (bp [8]) (ms:=(((bY.set 7 (some (cI b.s1.bj))).set 8 (some (bX b.s1.kept))).set 19 (some (cI e211)))) (ms':=(((bY.set 7 (some (cI s212.bj))).set 8 (some (bX s212.kept))).set 19 (some (cI e212)))) (fun x hx=>Hx x hx b.s1 e211 (⟨0,2,d.n,d.sum⟩:aZ) dr s212 e212 hr12) Cq rfl) rfl (bq (aN (then_ok ?_)))
   have hX:eS b b0 x1 d=(b.ak,(b.due).set (Int.toNat (b0.au)) (IntKind.i64.wrap (x2 - d.sum)),l211,b.s0,s212,e212):=by
     unfold eS;simp only [List.getD_eq_getElem?_getD,hx2,Option.getD_some];(try simp only [hr1,hr2,hr11,hr12,hx2]);exact sx
   rw [hX] at hj;clear hX;simp only [Prod.mk.injEq] at hj;obtain ⟨rfl,rfl,rfl,rfl,rfl,rfl⟩:=hj
   exact aq.rz id
  refine ag 2 rfl (aO rfl (fun hc15'=>?_) (fun hc15'=>?_))
  ·
   refine af ?_
   obtain ⟨l213,e213,hr13⟩:∃ (l213:List bF) (e213:Int),cP b.ak 0 b0.aA 0 d.sum=(l213,e213):=⟨_,_,rfl⟩
   refine eJ [0,1,4,6,8,10] [0,8,9,10,11,12,13,14,15,16,7,5] rfl (cV 7 rfl (de 19 [175,177,181] [13,8] rfl (cz (bp [8,13]) (bp [8,18]) (ms:=((bY.set 2 (some (.s 1 0 6 b.ak.length))).set 19 (some (cI 0)))) (ms':=((bY.set 2 (some (.s 1 0 6 l213.length))).set 19 (some (cI e213)))) (fun x hx=>lx x hx b.ak 0 b0.aA 0 d.sum aa l213 e213 hr13) qZ rfl) rfl (eb [0,1,4,6,8,10] [18,8,0,9,10,11,12,14,15,16,7,5] rfl rfl aJ (then_ok (ah (ad 6 rfl ?_))))))
   obtain ⟨l214,e214,hr14⟩:∃ (l214:List Entry) (e214:Int),dp b.book e213 2 (10+b0.aA) d.sum=(l214,e214):=⟨_,_,rfl⟩
   refine ay 19 [8,18,0,9,10,11,12,14,15,16,7,5] (cz (bp [8]) (bp [8]) (ms:=((bY.set 18 (some (cE b.book))).set 19 (some (cI e213)))) (ms':=((bY.set 18 (some (cE l214))).set 19 (some (cI e214)))) (fun x hx=>lS x hx b.book e213 2 (10+b0.aA) d.sum l214 e214 hr14) pX rfl) rfl (bq (aN (then_ok ?_)))
   have hX:eS b b0 x1 d=(l213,b.due,l214,b.s0,b.s1,e214):=by
     unfold eS;(try simp only [hr1,hr2,hr13,hr14]);exact sx
   rw [hX] at hj;clear hX;simp only [Prod.mk.injEq] at hj;obtain ⟨rfl,rfl,rfl,rfl,rfl,rfl⟩:=hj
   exact aq.rz (fun k=>if k=13 then 18 else k)
  refine ag 2 rfl (aO rfl (fun hc16'=>?_) (fun hc16'=>?_))
  ·
   refine ag 2 rfl (ah (ad 2 rfl ?_))
   obtain ⟨s215,e215,hr15⟩:∃ (s215:bK) (e215:Int),ej b.s0 0 (⟨0,3,d.n,d.sum⟩:aZ)=(s215,e215):=⟨_,_,rfl⟩
   refine ay 18 [8,17,0,9,10,11,12,13,14,15,16,7,5] (cz (bp [8]) (bp [8]) (ms:=(((bY.set 5 (some (cI b.s0.bj))).set 6 (some (bX b.s0.kept))).set 19 (some (cI 0)))) (ms':=(((bY.set 5 (some (cI s215.bj))).set 6 (some (bX s215.kept))).set 19 (some (cI e215)))) (fun x hx=>wa x hx b.s0 0 (⟨0,3,d.n,d.sum⟩:aZ) dr s215 e215 hr15) Cq rfl) rfl (bq (aN (then_ok ?_)))
   have hX:eS b b0 x1 d=(b.ak,b.due,b.book,s215,b.s1,e215):=by
     unfold eS;(try simp only [hr1,hr2,hr15]);exact sx
   rw [hX] at hj;clear hX;simp only [Prod.mk.injEq] at hj;obtain ⟨rfl,rfl,rfl,rfl,rfl,rfl⟩:=hj
   exact aq.rz id
  refine ag 2 rfl (aO rfl (fun hc17'=>?_) (fun hc17'=>?_))
  ·
   refine af ?_
   obtain ⟨l216,e216,hr16⟩:∃ (l216:List bF) (e216:Int),cP b.ak 0 b0.aA 0 (0 - d.sum)=(l216,e216):=⟨_,_,rfl⟩
   refine eJ [0,1,4,6,8,10] [0,8,9,10,11,12,13,14,15,16,7,5] rfl (cV 7 rfl (dZ 18 [204] [] rfl (nN rfl rfl (bH aa)) (de 19 [198,200,205] [13,8] rfl (cz (bp [8,13]) (bp [8,18]) (ms:=((bY.set 2 (some (.s 1 0 6 b.ak.length))).set 19 (some (cI 0)))) (ms':=((bY.set 2 (some (.s 1 0 6 l216.length))).set 19 (some (cI e216)))) (fun x hx=>lx x hx b.ak 0 b0.aA 0 (0 - d.sum) aa l216 e216 hr16) qZ rfl) rfl (eb [0,1,4,6,8,10] [18,8,0,9,10,11,12,14,15,16,7,5] rfl rfl aJ (then_ok (ah (ad 6 rfl ?_)))))))
   obtain ⟨l217,e217,hr17⟩:∃ (l217:List Entry) (e217:Int),dp b.book e216 (10+b0.aA) 2 d.sum=(l217,e217):=⟨_,_,rfl⟩
   refine ay 19 [8,18,0,9,10,11,12,14,15,16,7,5] (cz (bp [8]) (bp [8]) (ms:=((bY.set 18 (some (cE b.book))).set 19 (some (cI e216)))) (ms':=((bY.set 18 (some (cE l217))).set 19 (some (cI e217)))) (fun x hx=>lS x hx b.book e216 (10+b0.aA) 2 d.sum l217 e217 hr17) pX rfl) rfl (bq (aN (then_ok ?_)))
   have hX:eS b b0 x1 d=(l216,b.due,l217,b.s0,b.s1,e217):=by
     unfold eS;(try simp only [hr1,hr2,hr16,hr17]);exact sx
   rw [hX] at hj;clear hX;simp only [Prod.mk.injEq] at hj;obtain ⟨rfl,rfl,rfl,rfl,rfl,rfl⟩:=hj
   exact aq.rz (fun k=>if k=13 then 18 else k)
  refine cv (aN (then_ok ?_))
  have hX:eS b b0 x1 d=(b.ak,b.due,b.book,b.s0,b.s1,0):=by
    unfold eS;(try simp only [hr1,hr2]);exact sx
  rw [hX] at hj;clear hX;simp only [Prod.mk.injEq] at hj;obtain ⟨rfl,rfl,rfl,rfl,rfl,rfl⟩:=hj
  exact aq.rz id
 refine af ?_
 obtain ⟨l218,e218,hr18⟩:∃ (l218:List ar) (e218:Int),kP b.aM je (⟨b0.au,d.n,d.move,d.sum⟩:ar)=(l218,e218):=⟨_,_,rfl⟩
 refine eJ [0,1,4,6,8] [0,8,9,10,11,12,13,14,15,16,7,5] rfl (cV 16 rfl (de 18 [214,229] [16,8] rfl (cz (bp [8,16]) (bp [8,17]) (ms:=((bY.set 16 (some (.s 1 0 4 b.aM.length))).set 19 (some (cI je)))) (ms':=((bY.set 16 (some (.s 1 0 4 l218.length))).set 19 (some (cI e218)))) (fun x hx=>Jl x hx b.aM je (⟨b0.au,d.n,d.move,d.sum⟩:ar) aa l218 e218 hr18) Lk rfl) rfl (eb [0,1,4,6,8] [17,8,0,9,10,11,12,13,14,15,7,5] rfl rfl aJ (then_ok (af (bg [0,1,4,6,8] [17,8,0,9,10,11,12,13,14,15,7,5] rfl (aF 10 rfl (bh 18 [235,239] [15] rfl (cU (i:=Int.toNat (d.n)) rfl rfl rfl hG ji) (bf [17,8,0,9,10,11,12,13,14,15,7,5] rfl (eP [17,8,0,9,10,11,12,13,14,15,7,5] (dK (ds:=[(dI b0.aA),(dI b0.au),(dI b0.sum),(dI b0.captured),(dI b0.bd),(dI b0.aX),(dI b0.da),(dB b0.shut)]) rfl rfl rfl rfl rfl ji rfl (Nat.le_of_ble_eq_true rfl) (aV hx1) rfl (eE (x':=b0) rfl)) rfl (ae ?_)))))))))))
 rcases (show e218=0\/¬e218=0 from aa) with hs18|hs18
 ·
  refine dW (k:=8) (q:=4) (c':=(.s 15 0 8 (((b.an).set (Int.toNat (d.n)) b0).length))) rfl rfl jN rfl (aw 2 rfl (ay 22 [0,18,19,20,21,7,5] (fm (bp [0,8,9,10,11,12,13,14,15,17]) (bp [0,18,19,20,21]) (gQ (x 17) (x 19) b (⟨b.time,b.down,jcards,jdue,(b.an).set (Int.toNat (d.n)) b0,js0,js1,b.n0,b.n1,b.w0,b.w1,b.aQ,l218,jbook⟩:Bk) e218 hJ) iD rfl) rfl (ad 2 rfl (ae (al ?_)))))
  have hX:eX b d=((⟨b.time,b.down,jcards,jdue,(b.an).set (Int.toNat (d.n)) b0,js0,js1,b.n0,b.n1,b.w0,b.w1,b.aQ,l218,jbook⟩:Bk),(⟨e218,0⟩:Answer)):=by
    unfold eX;simp only [hdn,Bool.false_eq_true,if_false];rw [if_neg aa,hx1];dsimp only;simp only [hr0,hj0];unfold pI eH;simp only [hr18];exact sx
  cases hX.symm.trans hr;clear hX
  exact bb [0,18,19,20,21,5] 5 rfl
 refine dW (k:=8) (q:=4) (c':=(.s 15 0 8 (((b.an).set (Int.toNat (d.n)) b0).length))) rfl rfl jN rfl (aw 2 rfl (ay 22 [0,18,19,20,21,7,5] (fm (bp [0,8,9,10,11,12,13,14,15,17]) (bp [0,18,19,20,21]) (jd (x 17) (x 19) b (⟨b.time,b.down,jcards,jdue,(b.an).set (Int.toNat (d.n)) b0,js0,js1,b.n0,b.n1,b.w0,b.w1,b.aQ,l218,jbook⟩:Bk) e218 hJ) iD rfl) rfl (ad 2 rfl (ae (al ?_)))))
 have hX:eX b d=(b,(⟨e218,0⟩:Answer)):=by
   unfold eX;simp only [hdn,Bool.false_eq_true,if_false];rw [if_neg aa,hx1];dsimp only;simp only [hr0,hj0];unfold pI eH;simp only [hr18];exact sx
 cases hX.symm.trans hr;clear hX
 exact bb [0,18,19,20,21,5] 5 rfl
theorem Ei (x:Nat->Value) (hx:∀ i,(x i).oneCell'=true) (b:Bk) (d:bW) (ok:cH b) (hdn:b.down=true) (b2:Bk) (a2:Answer) (hr:eX b d=(b2,a2)):cS Tryz.prog 34 [(.c (.p 0 0 0 0)),(.c (.q (ek d) 0))] [(0,(.box 58 (cf b 1 2 3 4 (.d (.v (x 17))) (.d (.v (x 19)))))),(1,(dS b.ak)),(2,(dR b.due)),(3,(ec b.an)),(4,(cX b.aM))] [0] (.v (.g [cI a2.err,cI a2.ba])) [(0,(.box 58 (cf b2 1 2 3 4 (.d (.v (x 17))) (.d (.v (x 19)))))),(1,(dS b2.ak)),(2,(dR b2.due)),(3,(ec b2.an)),(4,(cX b2.aM))]:=by
 refine cS.mk 246 [(0,(aC (.p 0 0 0 0))),(1,(aC (.q (ek d) 0)))] 5 Tryz.func34 rfl rfl rfl rfl rfl rfl rfl rfl rfl ?_
 intro W0 F0 T0 pg
 obtain ⟨okt,okc,okd,oka,oky,okw0,okw1,okp,okv,okk0,okk1,okg,okl0,okl1,okp0,okp1,okn0,okn1,okq⟩:=id ok
 refine ag 1 rfl (af (ag 5 rfl (ax rfl (fun _=>?_) (fun hno=>absurd (hdn.symm.trans hno) cm))))
 refine ag 2 rfl (al (aj ?_))
 have hX:eX b d=(b,(⟨12,0⟩:Answer)):=by
   unfold eX;rw [if_pos hdn]
 cases hX.symm.trans hr;clear hX
 exact bb [0,1,2,3,4,5] 5 rfl
theorem FT (x:Nat->Value) (hx:∀ i,(x i).oneCell'=true) (b:Bk) (d:bW) (ok:cH b) (b2:Bk) (a2:Answer) (hr:eX b d=(b2,a2)):cS Tryz.prog 34 [(.c (.p 0 0 0 0)),(.c (.q (ek d) 0))] [(0,(.box 58 (cf b 1 2 3 4 (.d (.v (x 17))) (.d (.v (x 19)))))),(1,(dS b.ak)),(2,(dR b.due)),(3,(ec b.an)),(4,(cX b.aM))] [0] (.v (.g [cI a2.err,cI a2.ba])) [(0,(.box 58 (cf b2 1 2 3 4 (.d (.v (x 17))) (.d (.v (x 19)))))),(1,(dS b2.ak)),(2,(dR b2.due)),(3,(ec b2.an)),(4,(cX b2.aM))]:=by
  cases hdn:b.down
  ·exact Eh x hx b d ok hdn b2 a2 hr
  ·exact Ei x hx b d ok hdn b2 a2 hr
theorem iJ {α:Type} {l:List α} {n:Nat} {x y:α} (h:y∈l.set n x):y∈l\/y=x:=List.mem_or_eq_of_mem_set h
theorem kV {l:List bF} {e k x y:Int} (h:∀ c∈l,df c=0):∀ c∈(cP l e k x y).1,df c=0:=by
 unfold cP
 split
 ·exact h
 ·rename_i c hc
  split
  ·rename_i h0
   intro z hz
   rcases iJ hz with hz|rfl
   ·exact h z hz
   ·have he:(eg c x y).2=0:=by unfold cp at h0;split at h0<;>omega
    rcases tN (show eg c x y=((eg c x y).1,(eg c x y).2) from rfl) with ⟨h1,_⟩|h1
    ·exact absurd he h1
    ·exact h1.2.2.2.2.2.2.2
  ·exact h
theorem yF {time:Int} {n m:Nat}:∀ (l:List bG) (i:Nat) (ak:List bF) (an:List bG) (e:Int),(∀ a∈l,bI a=0/\0<=a.aA/\a.aA < n/\0<=a.au/\a.au < m)->
  (∀ a∈an,bI a=0/\0<=a.aA/\a.aA < n/\0<=a.au/\a.au < m)->(∀ c∈ak,df c=0)->
  (∀ c∈(fU time l i ak an e).1,df c=0)/\(fU time l i ak an e).1.length=ak.length/\(fU time l i ak an e).2.1.length=an.length/\
  (∀ a∈(fU time l i ak an e).2.1,bI a=0/\0<=a.aA/\a.aA < n/\0<=a.au/\a.au < m)
 |[],_,_,_,_,_,h2,h3=>⟨h3,rfl,rfl,h2⟩
 |a::l,i,ak,an,e,h1,h2,h3=>by
  have ha:=h1 a List.mem_cons_self
  obtain ⟨r1,r2,r3,r4⟩:=yF l (i+1) (cP ak e a.aA (bE (dF a time) - bE a) 0).1 (an.set i (dF a time)) (cP ak e a.aA (bE (dF a time) - bE a) 0).2
   (fun x hx=>h1 x (List.mem_cons_of_mem _ hx)) (fun x hx=>by
    rcases iJ hx with hx|rfl
    ·exact h2 x hx
    ·exact ⟨qg ha.1,ha.2⟩) (kV h3)
  refine ⟨r1,r2.trans (fT _ _ _ _ _),r3.trans (List.length_set ..),r4⟩
theorem cH.late {b:Bk} (h:cH b):cH (jG b):=by
 unfold jG
 split
 ·obtain ⟨r1,r2,r3,r4⟩:=yF (time:=b.time) (n:=b.ak.length) (m:=b.due.length) b.an 0 b.ak b.an 0 h.perm h.perm h.right
  exact ⟨h.time,by rw [r2];exact h.ak,h.due,by rw [r3];exact h.an,h.aM,h.w0,h.w1,by dsimp only;rw [r2];exact r4,by dsimp only;rw [r2];exact h.ku,by dsimp only;rw [r3];exact h.k0,by dsimp only;rw [r3];exact h.k1,r1,h.l0,h.l1,by dsimp only;rw [r3];exact h.p0,by dsimp only;rw [r3];exact h.p1,h.n0,h.n1,h.calm⟩
 ·exact h
theorem cH.eH {b c:Bk} {e:Int} (h:cH b) (hc:e=0->cH c):cH (eH b c e).1:=by
 unfold Dev.eH;split
 ·exact hc dr
 ·exact h
theorem iM {e x:Int} (h:cp e x=0):e=0/\x=0:=by unfold cp at h;split at h<;>omega
theorem mM {l:List Entry} {e s d n:Int} (h:(dp l e s d n).2=0):e=0/\(jQ l s d n).2=0/\(dp l e s d n).1=(jQ l s d n).1:=by
 unfold dp at h ⊢
 split at h
 ·rename_i h1;rw [if_pos h1];have:=iM h1;exact ⟨this.1,this.2,rfl⟩
 ·rename_i h1;exact absurd h h1
theorem cH.Ea {b:Bk} (h:cH b) {cs:List bF} {bk:List Entry} (h1:∀ c∈cs,df c=0) (h2:cs.length=b.ak.length):cH {b with ak:=cs,book:=bk}:=
 ⟨h.time,by rw [h2];exact h.ak,h.due,h.an,h.aM,h.w0,h.w1,by dsimp only;rw [h2];exact h.perm,by dsimp only;rw [h2];exact h.ku,h.k0,h.k1,h1,h.l0,h.l1,h.p0,h.p1,h.n0,h.n1,h.calm⟩
theorem cH.load {b:Bk} (h:cH b) (d:bW):cH (iK b d).1:=by
 unfold iK
 split
 ·exact h
 split
 ·exact h
 ·exact h.eH fun _=>h.Ea (kV h.right) (fT _ _ _ _ _)
theorem cH.Hk {b:Bk} (h:cH b) {due:List Int} {bk:List Entry} (h2:due.length=b.due.length):cH {b with due:=due,book:=bk}:=
 ⟨h.time,h.ak,by rw [h2];exact h.due,h.an,h.aM,h.w0,h.w1,by dsimp only;rw [h2];exact h.perm,by dsimp only;rw [h2];exact h.ku,h.k0,h.k1,h.right,h.l0,h.l1,h.p0,h.p1,h.n0,h.n1,h.calm⟩
theorem cH.yv {b:Bk} (h:cH b) (d:bW):cH (jT b d).1:=by
 unfold jT
 split
 ·exact h
 split
 ·exact h
 ·exact h.eH fun _=>h.Hk (List.length_set ..)
theorem cH.cw {b:Bk} (h:cH b) (d:bW):cH (gN b d).1:=by
 unfold gN
 split
 ·exact h
 ·have h1:cH {b with time:=b.time+d.sum}:=by have:=h.time;exact h.tick aa aa
  dsimp only
  split
  ·exact h1
  ·exact h1.late
theorem wM {l:List bL} {ks:List aZ} {n:Int} {p:bL} (h:p∈ka l ks n):p∈l\/(∃ t∈ks,p=⟨t,-1⟩)\/p=⟨⟨0,0,0,0⟩,n⟩:=by
 unfold ka at h
 simp only [List.mem_append,List.mem_map,List.mem_singleton] at h
 rcases h with (h|⟨t,ht,rfl⟩)|h
 ·exact .inl h
 ·exact .inr (.inl ⟨t,ht,rfl⟩)
 ·exact .inr (.inr h)
structure BC (b:Bk) (n:Nat) (w:List bL):Prop where
 len:w.length<=60
 own:∀ p∈w,p.seen < 0->fb p.bD.number/\0<=p.bD.ba/\p.bD.ba < n
theorem cH.ways {b:Bk} (h:cH b) {v0 v1:List bL} (h0:BC b b.an.length v0) (h1:BC b b.an.length v1):cH {b with w0:=v0,w1:=v1}:=
 ⟨h.time,h.ak,h.due,h.an,h.aM,h0.len,h1.len,h.perm,h.ku,h.k0,h.k1,h.right,h.l0,h.l1,h0.own,h1.own,h.n0,h.n1,h.calm⟩
theorem yh {b:Bk} {w:List bL} {ks:List aZ} {n:Int} (hn:0<=n) (h:BC b b.an.length w) (hk:∀ t∈ks,fb t.number/\0<=t.ba/\t.ba < b.an.length):BC b b.an.length (lW w ks n).1:=by
 unfold lW
 split
 ·exact h
 ·refine ⟨by dsimp only;omega,fun p hp hs=>?_⟩
  rcases wM hp with hp|⟨t,ht,rfl⟩|rfl
  ·exact h.own p hp hs
  ·exact hk t ht
  ·simp at hs;omega
theorem cH.send {b:Bk} (h:cH b) (d:bW):cH {b with w0:=(fY b.s0 b.s1 b.n0 b.n1 b.w0 b.w1 d).1,w1:=(fY b.s0 b.s1 b.n0 b.n1 b.w0 b.w1 d).2.1}:=by
 have h0:BC b b.an.length b.w0:=⟨h.w0,h.p0⟩
 have h1:BC b b.an.length b.w1:=⟨h.w1,h.p1⟩
 unfold fY
 split
 ·exact h.ways h0 (yh h.n0 h1 h.k0)
 split
 ·exact h.ways (yh h.n1 h0 h.k1) h1
 ·exact h.ways h0 h1
theorem yi {s:bK} {e:Int} {t:aZ} {n:Nat} (h:∀ t∈s.kept,fb t.number/\0<=t.ba/\t.ba < n) (hl:s.kept.length<=40) (ht:0<=t.ba/\t.ba < n):
  (∀ u∈(ej s e t).1.kept,fb u.number/\0<=u.ba/\u.ba < n)/\(ej s e t).1.kept.length<=40:=by
 unfold ej
 split
 ·rename_i h0
  have he:=(iM h0).2
  unfold gL at he
  split at he
  ·rename_i h1;exact absurd he h1
  split at he
  ·rename_i h1;exact absurd he h1
  ·rename_i h1 h2
   have hp:(gL s t).1=nh s t:=by unfold gL;rw [if_neg h1,if_neg h2]
   have hw:(cK (nh s t)).err=0:=aa
   have hr:=yo hw
   dsimp only
   rw [hp]
   refine ⟨fun x hx=>?_,hr.1⟩
   rcases List.mem_append.1 hx with hx|hx
   ·exact h x hx
   ·obtain rfl:=List.mem_singleton.1 hx
    exact ⟨by have:=hr.2.1;have:=hr.2.2.1;constructor<;>simp only [nh,List.length_append] at *<;>omega,ht⟩
 ·exact ⟨h,hl⟩
theorem Ds {l:List ar} {e:Int} {r:ar} (h:l.length<=100):(kP l e r).1.length<=100:=by
 unfold kP
 split
 ·exact h
 ·rw [List.length_append,List.length_singleton];omega
theorem Ca {l:List ar} {e:Int} {r:ar} (h:(kP l e r).2=0):e=0/\l.length≠100/\(kP l e r).1=l++[r]:=by
 unfold kP at h ⊢
 split at h
 ·have:=(iM h).2;omega
 ·rename_i h1;rw [if_neg h1];exact ⟨h,h1,rfl⟩
structure ru (n:Nat) (s:bK):Prop where
 own:∀ t∈s.kept,fb t.number/\0<=t.ba/\t.ba < n
 len:s.kept.length<=40
theorem cH.wU {b:Bk} (h:cH b):ru b.an.length b.s0:=⟨h.k0,h.l0⟩
theorem cH.wT {b:Bk} (h:cH b):ru b.an.length b.s1:=⟨h.k1,h.l1⟩
theorem ru.send {n:Nat} {s:bK} {e:Int} {t:aZ} (h:ru n s) (ht:0<=t.ba/\t.ba < n):ru n (ej s e t).1:=⟨(yi h.own h.len ht).1,(yi h.own h.len ht).2⟩
theorem FJ {b:Bk} (h:cH b) (a cu:bG) (d:bW) (hn:0<=d.n/\d.n < b.an.length):
  (∀ c∈(eS b a cu d).1,df c=0)/\(eS b a cu d).1.length=b.ak.length/\(eS b a cu d).2.1.length=b.due.length/\
  ru b.an.length (eS b a cu d).2.2.2.1/\ru b.an.length (eS b a cu d).2.2.2.2.1:=by
 unfold eS
 have hc:∀ e k x y,(∀ c∈(cP b.ak e k x y).1,df c=0)/\(cP b.ak e k x y).1.length=b.ak.length:=fun e k x y=>⟨kV h.right,fT _ _ _ _ _⟩
 split
 ·exact ⟨(hc ..).1,(hc ..).2,rfl,h.wU,h.wT⟩
 split
 ·exact ⟨(hc ..).1,(hc ..).2,rfl,h.wU.send hn,h.wT⟩
 split
 ·exact ⟨h.right,rfl,List.length_set ..,h.wU,h.wT.send hn⟩
 split
 ·exact ⟨(hc ..).1,(hc ..).2,rfl,h.wU,h.wT⟩
 split
 ·exact ⟨h.right,rfl,rfl,h.wU.send hn,h.wT⟩
 split
 ·exact ⟨(hc ..).1,(hc ..).2,rfl,h.wU,h.wT⟩
 ·exact ⟨h.right,rfl,rfl,h.wU,h.wT⟩
theorem cH.ph {b:Bk} (h:cH b) (d:bW):cH (eX b d).1:=by
 unfold eX
 split
 ·exact h
 split
 ·exact h
 rename_i hd hn
 have hn:0<=d.n/\d.n < b.an.length:=aa
 split
 ·exact h
 rename_i cu ho
 split
 ·exact h
 rename_i hm
 split
 ·exact h
 have hm:bV cu d.move d.sum=((bV cu d.move d.sum).1,0):=Prod.ext rfl (by dsimp only;omega)
 obtain ⟨m1,m2,m3,m4,_⟩:=lQ hm
 obtain ⟨r1,r2,r3,r4,r5⟩:=FJ h (bV cu d.move d.sum).1 cu d hn
 have hp:=h.perm cu (List.mem_of_getElem? ho)
 unfold pI
 refine h.eH fun _=>⟨h.time,by rw [r2];exact h.ak,by rw [r3];exact h.due,by rw [List.length_set];exact h.an,Ds h.aM,h.w0,h.w1,fun a ha=>?_,by dsimp only;rw [r2,r3];exact h.ku,by dsimp only;rw [List.length_set];exact r4.own,by dsimp only;rw [List.length_set];exact r5.own,r1,r4.len,r5.len,by dsimp only;rw [List.length_set];exact h.p0,by dsimp only;rw [List.length_set];exact h.p1,h.n0,h.n1,h.calm⟩
 dsimp only
 rw [r2,r3]
 rcases iJ ha with ha|rfl
 ·exact h.perm a ha
 ·exact ⟨m2,by rw [m3,m4];exact hp.2⟩
theorem rW {aA au n time:Int} (h:(dm aA au n time).2=0):bI (dm aA au n time).1=0/\(dm aA au n time).1=⟨aA,au,n,0,0,0,time+100,false⟩/\¬(n < 1\/n > 1000000\/time < 0\/time > 1000000\/aA < 0\/aA > 7\/au < 0\/au > 7):=by
 unfold dm at h ⊢
 split at h
 ·cases h
 ·rename_i h1;rw [if_neg h1];exact ⟨uP (by dsimp only;omega),rfl,h1⟩
theorem yO {s:cT} {a:ch} (h:(cC s a).2=0):(cC s a).1.aH=s.aH++[a]:=by
 unfold cC at h ⊢
 split at h
 ·rename_i h1;exact absurd h h1
 split at h
 ·cases h
 split at h
 ·cases h
 split at h
 ·cases h
 ·rename_i h1 h2 h3 h4;rw [if_neg h1,if_neg h2,if_neg h3,if_neg h4]
theorem vo {e:Int} (h:gO e=0):e=0:=by unfold gO at h;split at h<;>omega
theorem cH.asks {b:Bk} (h:cH b) (d:bW):cH (dw b d).1:=by
 unfold dw
 split
 ·exact h
 rename_i hn
 have hlen:∀ a∈b.aQ.aH++[(⟨d.n,d.au,d.sum,b.time⟩:ch)],0<=a.aA/\a.aA < b.ak.length/\0<=a.au/\a.au < b.due.length:=fun a ha=>by
  rcases List.mem_append.1 ha with ha|ha
  ·exact h.ku a ha
  ·obtain rfl:=List.mem_singleton.1 ha;dsimp only;omega
 split
 ·split
  ·exact h
  split
  ·exact h
  rename_i h1 h2
  have he:=vo (show gO (cC b.aQ ⟨d.n,d.au,d.sum,b.time⟩).2=0 by omega)
  have hg:=yO he
  exact ⟨h.time,h.ak,h.due,by dsimp only;omega,h.aM,h.w0,h.w1,h.perm,by dsimp only;rw [hg];exact hlen,h.k0,h.k1,h.right,h.l0,h.l1,h.p0,h.p1,h.n0,h.n1,fun hf=>by dsimp only at hf;simp_all⟩
 split
 ·exact h
 split
 ·exact h
 split
 ·exact h
 rename_i h1 h2 h3 c hc
 split
 ·exact h
 rename_i h4
 obtain ⟨w1,w2,w3⟩:=rW (show (dm d.n d.au d.sum b.time).2=0 by omega)
 have hcr:df (eh c d.sum b.time).1=0:=by
  rcases ux (show eh c d.sum b.time=((eh c d.sum b.time).1,(eh c d.sum b.time).2) from rfl) with ⟨h5,_⟩|⟨h5,h6,h7,h8,h9,h10,h11,l,h12,h13⟩
  ·exact absurd h5 aa
  ·rw [h13];have hr:=jB h6;exact oJ (by dsimp only;omega) hr.2.2.2.2.1 (Ep h12)
 have hq:=h.calm (by cases hd:b.down with|true=>exact absurd hd dr|false=>rfl)
 have hl:b.an.length+1<=30:=by have:=h.an;rw [hq] at this;simp only [List.length_nil] at this;omega
 have hk:∀ {n:Int},n < (b.an.length:Int)->n < ((b.an++[(dm d.n d.au d.sum b.time).1]).length:Int):=fun hn=>by rw [List.length_append,List.length_singleton];omega
 refine ⟨h.time,by rw [List.length_set];exact h.ak,h.due,by dsimp only;rw [hq,List.length_append,List.length_singleton];exact hl,h.aM,h.w0,h.w1,fun a ha=>?_,by dsimp only;rw [List.length_set];exact h.ku,
  fun t ht=>⟨(h.k0 t ht).1,(h.k0 t ht).2.1,hk (h.k0 t ht).2.2⟩,fun t ht=>⟨(h.k1 t ht).1,(h.k1 t ht).2.1,hk (h.k1 t ht).2.2⟩,fun x hx=>?_,h.l0,h.l1,
  fun p hp hs=>⟨(h.p0 p hp hs).1,(h.p0 p hp hs).2.1,hk (h.p0 p hp hs).2.2⟩,fun p hp hs=>⟨(h.p1 p hp hs).1,(h.p1 p hp hs).2.1,hk (h.p1 p hp hs).2.2⟩,h.n0,h.n1,h.calm⟩
 ·dsimp only at ha ⊢
  rw [List.length_set]
  rcases List.mem_append.1 ha with ha|ha
  ·exact h.perm a ha
  ·obtain rfl:=List.mem_singleton.1 ha
   exact ⟨w1,by rw [w2];dsimp only;omega⟩
 ·rcases iJ hx with hx|rfl
  ·exact h.right x hx
  ·exact hcr
theorem wS {α:Type} {p:α->Bool} {l:List α} {x:α} (h:x∈ez p l):x∈l:=(List.mem_filter.1 h).1
theorem ru.back {n:Nat} {s:bK} (h:ru n s) {seen:Int} (hb:(en s seen).2=0):ru n (en s seen).1:=by
 rcases sZ (show en s seen=((en s seen).1,(en s seen).2) from rfl) with ⟨h1,_⟩|⟨_,_,_,_,h2⟩
 ·exact absurd hb h1
 ·rw [h2];exact ⟨fun t ht=>h.own t (wS ht),Nat.le_trans (List.length_filter_le ..) h.len⟩
theorem xZ {an:List bG} {due:List Int} {ak:List bF} {book:List Entry} {e:Int} {t:aZ} (h:∀ c∈ak,df c=0):
  (eD an due ak book e t).1.length=due.length/\(∀ c∈(eD an due ak book e t).2.1,df c=0)/\(eD an due ak book e t).2.1.length=ak.length:=by
 unfold eD
 split
 ·exact ⟨rfl,h,rfl⟩
 split
 ·exact ⟨List.length_set ..,h,rfl⟩
 split
 ·exact ⟨rfl,kV h,fT _ _ _ _ _⟩
 split
 ·exact ⟨List.length_set ..,h,rfl⟩
 ·exact ⟨rfl,h,rfl⟩
theorem qB {n:Int} {t:aZ} (h:0<=n):0<=(jK n t).1:=by unfold jK;split<;>(dsimp only;omega)
theorem zk {α:Type} {l:List α} {n:Nat} {x:α} (h:x∈l.drop n):x∈l:=List.mem_of_mem_drop h
theorem cH.bB {b:Bk} (h:cH b) {cs:List bF} {due:List Int} {bk:List Entry} (h1:∀ c∈cs,df c=0) (h2:cs.length=b.ak.length) (h3:due.length=b.due.length):cH {b with ak:=cs,due:=due,book:=bk}:=
 ⟨h.time,by rw [h2];exact h.ak,by rw [h3];exact h.due,h.an,h.aM,h.w0,h.w1,by dsimp only;rw [h2,h3];exact h.perm,by dsimp only;rw [h2,h3];exact h.ku,h.k0,h.k1,h1,h.l0,h.l1,h.p0,h.p1,h.n0,h.n1,h.calm⟩
theorem cH.BG {b:Bk} (h:cH b):cH {b with w0:=b.w0.drop 1}:=
 ⟨h.time,h.ak,h.due,h.an,h.aM,by dsimp only;rw [List.length_drop];have:=h.w0;omega,h.w1,h.perm,h.ku,h.k0,h.k1,h.right,h.l0,h.l1,fun p hp=>h.p0 p (zk hp),h.p1,h.n0,h.n1,h.calm⟩
theorem cH.BF {b:Bk} (h:cH b):cH {b with w1:=b.w1.drop 1}:=
 ⟨h.time,h.ak,h.due,h.an,h.aM,h.w0,by dsimp only;rw [List.length_drop];have:=h.w1;omega,h.perm,h.ku,h.k0,h.k1,h.right,h.l0,h.l1,h.p0,fun p hp=>h.p1 p (zk hp),h.n0,h.n1,h.calm⟩
theorem cH.JH {b:Bk} (h:cH b) {s:bK} (hs:ru b.an.length s):cH {b with s0:=s}:=
 ⟨h.time,h.ak,h.due,h.an,h.aM,h.w0,h.w1,h.perm,h.ku,hs.own,h.k1,h.right,hs.len,h.l1,h.p0,h.p1,h.n0,h.n1,h.calm⟩
theorem cH.JG {b:Bk} (h:cH b) {s:bK} (hs:ru b.an.length s):cH {b with s1:=s}:=
 ⟨h.time,h.ak,h.due,h.an,h.aM,h.w0,h.w1,h.perm,h.ku,h.k0,hs.own,h.right,h.l0,hs.len,h.p0,h.p1,h.n0,h.n1,h.calm⟩
theorem cH.Gn {b:Bk} (h:cH b) {n:Int} (hn:0<=n):cH {b with n0:=n}:=
 ⟨h.time,h.ak,h.due,h.an,h.aM,h.w0,h.w1,h.perm,h.ku,h.k0,h.k1,h.right,h.l0,h.l1,h.p0,h.p1,hn,h.n1,h.calm⟩
theorem cH.Gm {b:Bk} (h:cH b) {n:Int} (hn:0<=n):cH {b with n1:=n}:=
 ⟨h.time,h.ak,h.due,h.an,h.aM,h.w0,h.w1,h.perm,h.ku,h.k0,h.k1,h.right,h.l0,h.l1,h.p0,h.p1,h.n0,hn,h.calm⟩
theorem cH.FX {b:Bk} (h:cH b) (d:bW):cH (iG b d).1:=by
 unfold iG
 split
 ·exact h
 split
 ·exact h.BG
 split
 ·split
  ·rename_i hb;exact h.BG.JH (h.wU.back hb)
  ·exact h
 split
 ·obtain ⟨r1,r2,r3⟩:=xZ (an:=b.an) (due:=b.due) (book:=b.book) (e:=0) (t:=(by assumption:bL).bD) h.right
  exact h.eH fun _=>(h.BG.Gn (qB h.n0)).bB r2 r3 r1
 ·exact h.BG.Gn (qB h.n0)
theorem cH.FW {b:Bk} (h:cH b) (d:bW):cH (iF b d).1:=by
 unfold iF
 split
 ·exact h
 split
 ·exact h.BF
 split
 ·split
  ·rename_i hb;exact h.BF.JG (h.wT.back hb)
  ·exact h
 split
 ·obtain ⟨r1,r2,r3⟩:=xZ (an:=b.an) (due:=b.due) (book:=b.book) (e:=0) (t:=(by assumption:bL).bD) h.right
  exact h.eH fun _=>(h.BF.Gm (qB h.n1)).bB r2 r3 r1
 ·exact h.BF.Gm (qB h.n1)
theorem cH.pk {b:Bk} (h:cH b) (d:bW):cH (db b d).1:=by
 unfold db
 split
 ·exact h.FX d
 split
 ·exact h.FW d
 ·exact h
theorem si {c:bF} {n:Int} (h:(eB c n).2=0):df (eB c n).1=0/\(eB c n).1=⟨c.bB,c.held+n,c.bJ,c.cO⟩/\df c=0/\1<=n/\n<=1000000:=by
 unfold eB at h ⊢
 split at h
 ·rename_i h1;exact absurd h h1
 split at h
 ·cases h
 ·rename_i h1 h2
  rw [if_neg h1,if_neg h2]
  have hw:df c=0:=aa
  have hr:=jB hw
  exact ⟨oJ (by dsimp only;omega) hr.2.2.2.2.1 hr.2.2.2.2.2,rfl,hw,aa,aa⟩
theorem CW {n m:Nat}:∀ (l:List ch) (cs:List bF) (xs:List bG),(∀ a∈l,0<=a.aA/\a.aA < n/\0<=a.au/\a.au < m)->cs.length=n->
  (∀ a∈xs,bI a=0/\0<=a.aA/\a.aA < n/\0<=a.au/\a.au < m)->(∀ c∈cs,df c=0)->
  (∀ c∈(gS l cs xs).1,df c=0)/\(gS l cs xs).1.length=n/\(∀ a∈(gS l cs xs).2.1,bI a=0/\0<=a.aA/\a.aA < n/\0<=a.au/\a.au < m)/\xs.length<=(gS l cs xs).2.1.length/\(gS l cs xs).2.1.length<=xs.length+l.length
 |[],cs,xs,_,h2,h3,h4=>⟨h4,h2,h3,Nat.le_refl _,Nat.le_refl _⟩
 |x::l,cs,xs,h1,h2,h3,h4=>by
  unfold gS
  split
  ·exact ⟨h4,h2,h3,Nat.le_refl _,by dsimp only;omega⟩
  rename_i e1
  split
  ·exact ⟨h4,h2,h3,Nat.le_refl _,by dsimp only;omega⟩
  rename_i c hc
  split
  ·exact ⟨h4,h2,h3,Nat.le_refl _,by dsimp only;omega⟩
  rename_i e2
  have hx:=h1 x List.mem_cons_self
  obtain ⟨w1,w2,w3⟩:=rW (show (dm x.aA x.au x.sum x.time).2=0 by omega)
  obtain ⟨f1,_⟩:=si (show (eB c x.sum).2=0 by omega)
  obtain ⟨r1,r2,r3,r4,r5⟩:=CW l (cs.set x.aA.toNat (eB c x.sum).1) (xs++[(dm x.aA x.au x.sum x.time).1]) (fun a ha=>h1 a (List.mem_cons_of_mem _ ha)) ((List.length_set ..).trans h2)
   (fun a ha=>by
    rcases List.mem_append.1 ha with ha|ha
    ·exact h3 a ha
    ·obtain rfl:=List.mem_singleton.1 ha;exact ⟨w1,by rw [w2];exact hx⟩)
   (fun z hz=>by
    rcases iJ hz with hz|rfl
    ·exact h4 z hz
    ·exact f1)
  rw [List.length_append,List.length_singleton] at r4 r5
  exact ⟨r1,r2,r3,aa,by rw [List.length_cons];omega⟩
theorem uq {s:cT} (h:(dN s).2.2=0):cj s=0/\(dN s).1=⟨s.cap,List.replicate s.used.length 0,[]⟩/\(dN s).2.1=s.aH:=by
 unfold dN at h ⊢
 split at h
 ·rename_i h1;exact absurd h h1
 ·rename_i h1;rw [if_neg h1];exact ⟨aa,rfl,rfl⟩
theorem cH.HG {b:Bk} (h:cH b) {s:cT} (hs:s.aH=[]):cH {b with ak:=(gS b.aQ.aH b.ak b.an).1,an:=(gS b.aQ.aH b.ak b.an).2.1,aQ:=s,down:=false}:=by
 obtain ⟨r1,r2,r3,r4,r5⟩:=CW b.aQ.aH b.ak b.an h.ku rfl h.perm h.right
 have hk:∀ {n:Int},n < (b.an.length:Int)->n < ((gS b.aQ.aH b.ak b.an).2.1.length:Int):=fun hn=>by omega
 exact ⟨h.time,by rw [r2];exact h.ak,h.due,by have:=h.an;simp only [hs,List.length_nil];omega,h.aM,h.w0,h.w1,by dsimp only;rw [r2];exact r3,fun a ha=>by simp [hs] at ha,
  fun t ht=>⟨(h.k0 t ht).1,(h.k0 t ht).2.1,hk (h.k0 t ht).2.2⟩,fun t ht=>⟨(h.k1 t ht).1,(h.k1 t ht).2.1,hk (h.k1 t ht).2.2⟩,r1,h.l0,h.l1,
  fun p hp hs=>⟨(h.p0 p hp hs).1,(h.p0 p hp hs).2.1,hk (h.p0 p hp hs).2.2⟩,fun p hp hs=>⟨(h.p1 p hp hs).1,(h.p1 p hp hs).2.1,hk (h.p1 p hp hs).2.2⟩,h.n0,h.n1,fun _=>hs⟩
theorem cH.EA {b:Bk} (h:cH b) (h1:(dN b.aQ).2.2=0):cH {b with ak:=(gS (dN b.aQ).2.1 b.ak b.an).1,an:=(gS (dN b.aQ).2.1 b.ak b.an).2.1,aQ:=(dN b.aQ).1,down:=false}:=by
 obtain ⟨_,c1,c2⟩:=uq h1
 rw [c1,c2]
 exact h.HG rfl
theorem EF {l:List ch} {q:Nat} {x:ch} {cs:List bF} {xs:List bG} {a:bG} {e1 e2:Int} (h:l[q]?=some x) (hn:dm x.aA x.au x.sum x.time=(a,e1)) (hf:cp 0 e1=e2) (he:¬e2=0):gS (l.drop q) cs xs=(cs,xs,e2):=by
 rw [tH h,hn]
 have:e1=e2:=by unfold cp at hf;rw [if_pos rfl] at hf;exact hf
 subst this
 rw [if_pos he]
theorem ED {l:List ch} {q:Nat} {x:ch} {cs:List bF} {xs:List bG} {a:bG} {c k:bF} {e1 e3 e4:Int} (h:l[q]?=some x) (hn:dm x.aA x.au x.sum x.time=(a,e1)) (hf1:cp 0 e1=0) (hc:cs[x.aA.toNat]?=some c)
  (hF:eB c x.sum=(k,e3)) (hf:cp 0 e3=e4) (he:¬e4=0):gS (l.drop q) cs xs=(cs,xs,e4):=by
 rw [tH h,hn,hc]
 have h1:e1=0:=(iM hf1).2
 have:e3=e4:=by unfold cp at hf;rw [if_pos rfl] at hf;exact hf
 subst this h1
 dsimp only
 rw [if_neg ca,hF,if_pos he]
theorem EC {l:List ch} {q:Nat} {x:ch} {cs:List bF} {xs:List bG} {a:bG} {c k:bF} {e1 e3:Int} (h:l[q]?=some x) (hn:dm x.aA x.au x.sum x.time=(a,e1)) (hf1:cp 0 e1=0) (hc:cs[x.aA.toNat]?=some c)
  (hF:eB c x.sum=(k,e3)) (hf:cp 0 e3=0):gS (l.drop q) cs xs=gS (l.drop (q+1)) (cs.set x.aA.toNat k) (xs++[a]):=by
 rw [tH h,hn,hc]
 have h1:e1=0:=(iM hf1).2
 have h3:e3=0:=(iM hf).2
 subst h3 h1
 dsimp only
 rw [if_neg ca,hF,if_neg ca]
theorem GM {l:List ch} {q:Nat} {cs:List bF} {xs:List bG} (h:¬q < l.length):gS (l.drop q) cs xs=(cs,xs,0):=by
 rw [List.drop_of_length_le aa];rfl
theorem CX {b:Bk} {s:cT} {l:List ch} {cs:List bF} {xs:List bG} {e:Int} (hd:b.down=true) (h:dN b.aQ=(s,l,0)) (hL:gS l b.ak b.an=(cs,xs,e)) (he:¬e=0):kK b=(b,⟨e,0⟩):=by
 unfold kK
 rw [if_neg (by rw [hd];simp),h]
 dsimp only
 rw [if_neg ca,hL]
 dsimp only
 rw [if_pos he]
theorem HI {b:Bk} {s:cT} {l:List ch} {cs:List bF} {xs:List bG} (hd:b.down=true) (h:dN b.aQ=(s,l,0)) (hL:gS l b.ak b.an=(cs,xs,0)):
  kK b=(jG {b with ak:=cs,an:=xs,aQ:=s,down:=false},⟨0,0⟩):=by
 unfold kK
 rw [if_neg (by rw [hd];simp),h]
 dsimp only
 rw [if_neg ca,hL]
 dsimp only
 rw [if_neg ca]
theorem cH.JC {b:Bk} (hb:cH b) {s:cT} {l:List ch} {cs:List bF} {xs:List bG} (h:dN b.aQ=(s,l,0)) (hL:gS l b.ak b.an=(cs,xs,0)):
  cH {b with ak:=cs,an:=xs,aQ:=s,down:=false}:=by
 have:=hb.EA (by rw [h])
 rw [h] at this;dsimp only at this;rw [hL] at this;exact this
theorem cH.HF {b:Bk} (h:cH b):cH (kK b).1:=by
 unfold kK
 split
 ·exact h
 split
 ·exact h
 split
 ·exact h
 ·exact (h.EA aa).late
theorem cH.tO {b:Bk} (h:cH b) {t:List ar} (ht:t.length<=100):cH {b with aM:=t}:=
 ⟨h.time,h.ak,h.due,h.an,ht,h.w0,h.w1,h.perm,h.ku,h.k0,h.k1,h.right,h.l0,h.l1,h.p0,h.p1,h.n0,h.n1,h.calm⟩
theorem pA {t:List ar} {y:List (List Int)} (h:t.length<=100):(kO t y).1.length<=100/\(kO t y).2.1.length<=y.length+1:=by
 unfold kO
 split
 ·exact ⟨h,Nat.le_succ _⟩
 ·exact ⟨ca,ca⟩
theorem cH.zo {b:Bk} (h:cH b) (y:List (List Int)) (d:bW):cH (fV b y d).1/\(fV b y d).2.1.length<=y.length+1:=by
 unfold fV
 split
 ·exact ⟨h.load d,Nat.le_succ _⟩
 split
 ·exact ⟨h.asks d,Nat.le_succ _⟩
 split
 ·exact ⟨h.ph d,Nat.le_succ _⟩
 split
 ·exact ⟨h.cw d,Nat.le_succ _⟩
 split
 ·exact ⟨h.send d,Nat.le_succ _⟩
 split
 ·exact ⟨h.pk d,Nat.le_succ _⟩
 split
 ·split
  ·exact ⟨h,Nat.le_succ _⟩
  ·exact ⟨⟨h.time,h.ak,h.due,h.an,h.aM,h.w0,h.w1,h.perm,h.ku,h.k0,h.k1,h.right,h.l0,h.l1,h.p0,h.p1,h.n0,h.n1,fun h=>by cases h⟩,Nat.le_succ _⟩
 split
 ·exact ⟨h.HF,Nat.le_succ _⟩
 split
 ·exact ⟨h.tO (pA h.aM).1,(pA (y:=y) h.aM).2⟩
 split
 ·exact ⟨h.yv d,Nat.le_succ _⟩
 ·exact ⟨h,Nat.le_succ _⟩
theorem cH.once {b:Bk} (h:cH b) (y:List (List Int)) (told:List (Int×Answer)) (cl:Nat) (d:bW):cH (hO b y told cl d).1/\(hO b y told cl d).2.1.length<=y.length+1:=by
 unfold hO
 split
 ·exact ⟨h,Nat.le_succ _⟩
 ·exact h.zo y d
theorem wN:∀ {l:List ff} {i:Int},(pU l i).err=0->∀ p∈l,gd p=0
 |p::l,i,h,x,hx=>by
  unfold pU at h
  split at h
  ·rename_i h1;exact absurd h h1
  ·rename_i h1
   rcases List.mem_cons.1 hx with rfl|hx
   ·omega
   ·exact wN h x hx
theorem lU {s:Setup} (h:(eC s).err=0):s.cF.length<=8/\0<=s.gp/\s.gp<=8/\0<=s.cap/\s.cap<=1000000/\∀ p∈s.cF,gd p=0:=by
 unfold eC at h
 split at h
 ·cases h
 split at h
 ·cases h
 ·exact ⟨aa,aa,aa,aa,aa,wN h⟩
theorem cH.start {s:Setup} (h:(eC s).err=0):cH (ke s):=by
 obtain ⟨h1,h2,h3,h4,h5,h6⟩:=lU h
 have hn:eL s.cap s.cF.length=({cap:=s.cap,used:=List.replicate s.cF.length 0,aH:=[]},0):=pV h1 ⟨h4,h5⟩
 unfold ke
 rw [hn]
 refine ⟨by dsimp only;omega,by simpa using h1,by simp;omega,ca,ca,ca,ca,ca,ca,ca,ca,fun c hc=>?_,ca,ca,ca,ca,ca,ca,fun _=>rfl⟩
 obtain ⟨p,hp,rfl⟩:=List.mem_map.1 hc
 exact oJ (c:=⟨0,0,p,[]⟩) (by dsimp only;omega) (h6 p hp) (vI.2 ⟨ca,ca,ca⟩)

theorem LR (x:Nat->Value) (hx:∀ i,(x i).oneCell'=true) (b:Bk) (ok:cH b) (b2:Bk) (a2:Answer) (hr:kK b=(b2,a2)):cS Tryz.prog 38 [(.c (.p 0 0 0 0))] [(0,(.box 58 (cf b 1 2 3 4 (.d (.v (x 17))) (.d (.v (x 19)))))),(1,(dS b.ak)),(2,(dR b.due)),(3,(ec b.an)),(4,(cX b.aM))] [0] (.v (.g [cI a2.err,cI a2.ba])) [(0,(.box 58 (cf b2 1 2 3 4 (.d (.v (x 17))) (.d (.v (x 19)))))),(1,(dS b2.ak)),(2,(dR b2.due)),(3,(ec b2.an)),(4,(cX b2.aM))]:=by
 refine cS.mk 116 [(0,(aC (.p 0 0 0 0)))] 5 Tryz.func38 rfl rfl rfl rfl rfl rfl rfl rfl rfl ?_
 intro W0 F0 T0 pg
 obtain ⟨okt,okc,okd,oka,oky,okw0,okw1,okp,okv,okk0,okk1,okg,okl0,okl1,okp0,okp1,okn0,okn1,okq⟩:=id ok
 refine ag 1 rfl (af (ag 6 rfl (ax rfl (fun hc1=>?_) (fun hc1=>?_))))
 ·
  have hc1':=hc1;try simp only [aT,bx] at hc1'
  refine ag 2 rfl (al (aj ?_))
  have hX:kK b=(b,(⟨8,0⟩:Answer)):=by
    unfold kK;rw [if_pos (by cases hd:b.down<;>simp_all)]
  cases hX.symm.trans hr;clear hX
  exact bb [0,1,2,3,4,5] 5 rfl
 have hc1':=hc1;try simp only [aT,bx] at hc1'
 refine aD (aw 5 rfl ?_)
 obtain ⟨xr0,l0,e0,hr0⟩:∃ (xr0:cT) (l0:List ch) (e0:Int),dN b.aQ=(xr0,l0,e0):=⟨_,_,_,rfl⟩
 refine ay 6 [5,0,1,2,3,4] (cA 6 (Fn.frozen (av':=(.t [(.g [(cI xr0.cap),(dt xr0.used),(eo xr0.aH)]),(.c (eo l0)),(.c (cI e0))])) (xE b.aQ xr0 l0 e0 hr0) ⟨⟨.inl ⟨_,rfl,rfl⟩,.inr ⟨_,_,_,_,_,rfl,rfl,rfl,ca⟩,.inr ⟨_,_,_,_,_,rfl,rfl,rfl,ca⟩,trivial⟩,.inr ⟨_,_,_,_,_,rfl,rfl,rfl,ca⟩,.inl ⟨_,rfl,rfl⟩,trivial⟩) Lj rfl) rfl (ad 8 rfl (ae (af (ag 2 rfl (aO rfl (fun hc2'=>?_) (fun hc2'=>?_))))))
 ·
  refine ag 3 rfl (al (aj ?_))
  have hX:kK b=(b,(⟨e0,0⟩:Answer)):=by
    unfold kK;rw [if_neg (by cases hd:b.down<;>simp_all),hr0];dsimp only;rw [if_pos aa]
  cases hX.symm.trans hr;clear hX
  exact bb [0,1,2,3,4,5] 5 rfl
 refine aD (aw 1 rfl (ay 16 [0,7,8,9,10,11,12,13,14,15,6,5] (fm id (bp [0,7,8,9,10,11,12,13,14,15]) (nu (x 17) (x 19) b aa aa aa aa) uk rfl) rfl (ad 1 rfl (ae (af ?_)))))
 obtain rfl:e0=0:=aa
 have hcl:l0=b.aQ.aH:=by have h:=(uq (s:=b.aQ) (by rw [hr0])).2.2;rw [hr0] at h;exact h
 refine aw 1 rfl (az (cD rfl rfl iY) rfl (ad 1 rfl (ae (aL (cb (β:=Nat×List bF×List bG) (fun (p:Nat×List bF×List bG)=>match p with|(q,cs,xs)=>⟨[(0,(aC (.p 0 0 0 0))),(2,(aC (.p 5 0 0 0))),(3,(aC (.p 6 0 0 0))),(6,(aC (.p 7 0 0 0))),(36,(aC (eo l0))),(37,(aI (↑l0.length:Int))),(38,(aI (↑q:Int)))],[(0,(.box 58 (cf b 8 9 10 11 (.d (.v (x 17))) (.d (.v (x 19)))))),(7,(.box 130 (((cf b 12 13 14 15 (.d (.v (x 17))) (cI 0)).set 2 (.s 12 0 6 cs.length)).set 4 (.s 14 0 8 xs.length)))),(8,(dS b.ak)),(9,(dR b.due)),(10,(ec b.an)),(11,(cX b.aM)),(12,(dS cs)),(13,(dR b.due)),(14,(ec xs)),(15,(cX b.aM)),(6,(.box 38 [(cI xr0.cap),(dt xr0.used),(eo xr0.aH)])),(5,(.box 53 [(cI 0),(cI 0)]))],16⟩) (fun (p:Nat×List bF×List bG)=>match p with|(q,cs,xs)=>q<=l0.length/\gS l0 b.ak b.an=gS (l0.drop q) cs xs/\cs.length=b.ak.length/\xs.length=b.an.length+q) (fun (p:Nat×List bF×List bG)=>match p with|(q,cs,xs)=>l0.length - q) (0,b.ak,b.an) ?_ ?_ ?_)))))
 ·exact ⟨aa,rfl,rfl,rfl⟩
 ·exact aq.rz id
 rintro ⟨q,cs,xs⟩ ⟨hi0_0,hi0_1,hi0_2,hi0_3⟩
 have hll:b.an.length+l0.length<=30:=by rw [hcl];exact oka
 refine ag 1 rfl (af (aO rfl (fun hc3'=>?_) (fun hc3'=>?_)))
 ·
  refine aD (af (aL (dq ?_)))
  obtain ⟨x1,hx1⟩:=bO (xs:=l0) (i:=q) aa
  have hx1A:=okv x1 (by rw [<-hcl];exact List.mem_of_getElem? hx1)
  refine az (dO (i:=q) rfl rfl rfl iY tL (aV hx1)) rfl (ad 3 rfl (ae (aw 8 rfl ?_)))
  obtain ⟨b1,e1,hr1⟩:∃ (b1:bG) (e1:Int),dm x1.aA x1.au x1.sum x1.time=(b1,e1):=⟨_,_,rfl⟩
  refine ay 17 [16,0,7,8,9,10,11,12,13,14,15,6,5] (cA 17 (vw x1.aA x1.au x1.sum x1.time b1 e1 hr1) IL rfl) rfl (ad 6 rfl (ae (af (aw 2 rfl ?_))))
  obtain ⟨e22,hr2⟩:∃ (e22:Int),cp 0 e1=e22:=⟨_,rfl⟩
  refine ay 18 [7,17,16,0,8,9,10,11,12,13,14,15,6,5] (cz (bp [7]) (bp [7]) (ms:=(bY.set 19 (some (cI 0)))) (ms':=(bY.set 19 (some (cI e22)))) (fun x hx=>mO x hx 0 e1 e22 hr2) qY rfl) rfl (ae (ax rfl (fun hc4=>?_) (fun hc4=>?_)))
  ·
   have hc4':=of_decide_eq_true hc4
   refine bR (aE (vB rfl (aE (aE (bw (then_ok (ag 11 rfl (af (aw 2 rfl (ay 22 [0,18,19,20,21,17,16,6,5] (fm (bp [0,7,8,9,10,11,12,13,14,15]) (bp [0,18,19,20,21]) (jd (x 17) (x 19) b (⟨b.time,false,cs,b.due,xs,b.s0,b.s1,b.n0,b.n1,b.w0,b.w1,xr0,b.aM,b.book⟩:Bk) e22 hJ) iD rfl) rfl (ad 1 rfl (ae (ag 2 rfl (ax rfl (fun _=>?_) (fun hno=>absurd (hc4.symm.trans hno) cm)))))))))))))))
   refine ag 3 rfl (al (aj ?_))
   have hX:kK b=(b,(⟨e22,0⟩:Answer)):=by
     exact CX (by cases hd:b.down<;>simp_all) hr0 (hi0_1.trans (EF hx1 hr1 hr2 aa)) aa
   cases hX.symm.trans hr;clear hX
   exact bb [0,18,19,20,21,5] 5 rfl
  have hc4':=of_decide_eq_false hc4
  refine aD ?_
  obtain rfl:e22=0:=aa
  refine af ?_
  obtain ⟨x2,hx2⟩:=bO (xs:=cs) (i:=Int.toNat (x1.aA)) aa
  obtain ⟨xr3,e3,hr3⟩:∃ (xr3:bF) (e3:Int),eB x2 x1.sum=(xr3,e3):=⟨_,_,rfl⟩
  refine eJ [0,2,3,6,36,37,38,8,9] [7,17,16,0,8,9,10,11,12,13,14,15,6,5] rfl (cV 7 rfl (dZ 18 [62,64] [12] rfl (cU (i:=Int.toNat (x1.aA)) rfl rfl rfl gy gX) (de 18 [65] [12] rfl (dk rfl rfl rfl rB rfl gX (aV hx2) rfl) rfl (cV 2 rfl (de 18 [66,68] [] rfl (cA 18 (Fn.frozen (av':=(.t [(.g [(cI xr3.bB),(cI xr3.held),(cI xr3.bJ.cw),(cI xr3.bJ.count),(cI xr3.bJ.sum),(eF xr3.cO)]),(.c (cI e3))])) (zB x2 x1.sum xr3 e3 hr3) ⟨⟨.inl ⟨_,rfl,rfl⟩,.inl ⟨_,rfl,rfl⟩,.inl ⟨_,rfl,rfl⟩,.inl ⟨_,rfl,rfl⟩,.inl ⟨_,rfl,rfl⟩,.inr ⟨_,_,_,_,_,rfl,rfl,rfl,ca⟩,trivial⟩,.inl ⟨_,rfl,rfl⟩,trivial⟩) Li rfl) rfl (gJ (n':=19) (kn:=[]) bn 6 rfl trivial (eb [0,2,3,6,36,37,38,8,9,11,10] [18,7,17,16,0,8,9,10,11,12,13,14,15,6,5] rfl rfl aJ (then_ok (af (aw 2 rfl ?_))))))))))
  obtain ⟨e24,hr4⟩:∃ (e24:Int),cp 0 e3=e24:=⟨_,rfl⟩
  refine ay 19 [7,18,17,16,0,8,9,10,11,12,13,14,15,6,5] (cz (bp [7]) (bp [7]) (ms:=(bY.set 19 (some (cI 0)))) (ms':=(bY.set 19 (some (cI e24)))) (fun x hx=>mO x hx 0 e3 e24 hr4) qY rfl) rfl (ae (ax rfl (fun hc6=>?_) (fun hc6=>?_)))
  ·
   have hc6':=of_decide_eq_true hc6
   refine bR (aE (vB rfl (aE (aE (bw (then_ok (ag 11 rfl (af (aw 2 rfl (ay 23 [0,19,20,21,22,18,17,16,6,5] (fm (bp [0,7,8,9,10,11,12,13,14,15]) (bp [0,19,20,21,22]) (jd (x 17) (x 19) b (⟨b.time,false,cs,b.due,xs,b.s0,b.s1,b.n0,b.n1,b.w0,b.w1,xr0,b.aM,b.book⟩:Bk) e24 hJ) iD rfl) rfl (ad 1 rfl (ae (ag 2 rfl (ax rfl (fun _=>?_) (fun hno=>absurd (hc6.symm.trans hno) cm)))))))))))))))
   refine ag 3 rfl (al (aj ?_))
   have hX:kK b=(b,(⟨e24,0⟩:Answer)):=by
     exact CX (by cases hd:b.down<;>simp_all) hr0 (hi0_1.trans (ED hx1 hr1 hr2 hx2 hr3 hr4 aa)) aa
   cases hX.symm.trans hr;clear hX
   exact bb [0,19,20,21,22,5] 5 rfl
  have hc6':=of_decide_eq_false hc6
  refine aD ?_
  obtain rfl:e24=0:=aa
  refine af (bg [0,2,3,6,36,37,38,8,9,11] [7,18,17,16,0,8,9,10,11,12,13,14,15,6,5] rfl (aF 8 rfl (bh 19 [79,81] [12] rfl (cU (i:=Int.toNat (x1.aA)) rfl rfl rfl gy gX) (bf [7,18,17,16,0,8,9,10,11,12,13,14,15,6,5] rfl (eP [7,18,17,16,0,8,9,10,11,12,13,14,15,6,5] (dK (ds:=[(dI xr3.bB),(dI xr3.held),(dI xr3.bJ.cw),(dI xr3.bJ.count),(dI xr3.bJ.sum),(Br xr3.cO)]) rfl rfl rfl rfl rfl gX rfl (Nat.le_of_ble_eq_true rfl) (aV hx2) rfl (eE (x':=xr3) rfl)) rfl (ae (dW (k:=7) (q:=2) (c':=(.s 12 0 6 (((cs).set (Int.toNat (x1.aA)) xr3).length))) rfl rfl jN rfl (bg [0,2,3,6,36,37,38,9] [7,17,0,8,9,10,11,12,13,14,15,6,5] rfl (aF 7 rfl (bM 20 [90] [] rfl (dM (ys:=[(0,(.g [(cI b1.aA),(cI b1.au),(cI b1.sum),(cI b1.captured),(cI b1.bd),(cI b1.aX),(cI b1.da),(cB b1.shut)]))]) (rows:=([b1]).map jm) 19 nY rfl) rfl (bM 21 [89,91] [19,14] rfl (dU (m:=1) (N:=xs.length+1) (k2:=20) (ys:=([b1]).map jm) nY rfl rfl rfl rfl dv) rfl (aF 3 rfl (bf [20,7,17,0,8,9,10,11,12,13,15,6,5] rfl (ad 1 rfl (bq (aN (then_ok (dW (k:=7) (q:=4) (c':=(.s 20 0 8 ((xs++([b1])).length))) rfl rfl jN rfl (ah (bl rfl rfl rfl rfl aa (ad 1 rfl (ae (⟨(q+1,(cs).set (Int.toNat (x1.aA)) xr3,xs++([b1])),⟨aa,by rw [hi0_1];exact EC hx1 hr1 hr2 hx2 hr3 hr4,by rw [List.length_set];omega,by rw [List.length_append,List.length_singleton];omega⟩,bT,aq.rz (fun k=>if k=14 then 20 else k)⟩)))))))))))))))))))))))
 refine bR (aE (aE (bw (then_ok (ag 11 rfl (af (aw 2 rfl (ay 20 [0,16,17,18,19,6,5] (fm (bp [0,7,8,9,10,11,12,13,14,15]) (bp [0,16,17,18,19]) (gQ (x 17) (x 19) b (⟨b.time,false,cs,b.due,xs,b.s0,b.s1,b.n0,b.n1,b.w0,b.w1,xr0,b.aM,b.book⟩:Bk) 0 hJ) iD rfl) rfl (ad 1 rfl (ae (aw 1 rfl (az (bm rfl rfl rfl (show _=some (Value.bool false) from rfl)) rfl (ae (ax rfl (fun hno=>by cases hno) (fun _=>?_)))))))))))))))
 refine aD ?_
 have hL:=hi0_1;rw [GM aa] at hL
 have okU:=ok.JC hr0 hL
 refine aw 1 rfl ?_
 obtain ⟨b25,hr5⟩:∃ (b25:Bk),jG (⟨b.time,false,cs,b.due,xs,b.s0,b.s1,b.n0,b.n1,b.w0,b.w1,xr0,b.aM,b.book⟩:Bk)=b25:=⟨_,rfl⟩
 refine ay 24 [0,20,21,22,23,6,5] (cz (bp [0,16,17,18,19]) (bp [0,20,21,22,23]) (ms:=[some (cI b.time),some (cB false),some (.s 1 0 6 cs.length),some (.s 2 0 1 b.due.length),some (.s 3 0 8 xs.length),some (cI b.s0.bj),some (bX b.s0.kept),some (cI b.s1.bj),some (bX b.s1.kept),some (cI b.n0),some (cI b.n1),some (dj b.w0),some (dj b.w1),some (cI xr0.cap),some (dt xr0.used),some (eo xr0.aH),some (.s 4 0 4 b.aM.length),none,some (cE b.book),none]) (ms':=(iW b25 1 2 3 4 none none)) (fun x hx=>Eg x hx (⟨b.time,false,cs,b.due,xs,b.s0,b.s1,b.n0,b.n1,b.w0,b.w1,xr0,b.aM,b.book⟩:Bk) (by first|assumption|exact cH.tick dr aa aa) b25 hr5) IJ rfl) rfl (ae (ag 2 rfl (al ?_)))
 have hX:kK b=(b25,(⟨0,0⟩:Answer)):=by
   rw [HI (by cases hd:b.down<;>simp_all) hr0 hL,hr5]
 cases hX.symm.trans hr;clear hX
 exact bb [0,20,21,22,23,5] 5 rfl

theorem LS (x:Nat->Value) (hx:∀ i,(x i).oneCell'=true) (b:Bk) (days:List (List Int)) (d:bW) (ok:cH b) (hy:days.length<=1000) (b2:Bk) (y2:List (List Int)) (a2:Answer) (hr:fV b days d=(b2,y2,a2)):cS Tryz.prog 20 [(.c (.p 0 0 0 0)),(.c (.q (ek d) 0))] [(0,(.box 58 (cf b 1 2 3 4 (.s 5 0 1 days.length) (.d (.v (x 19)))))),(1,(dS b.ak)),(2,(dR b.due)),(3,(ec b.an)),(4,(cX b.aM)),(5,(mY days))] [0] (.v (.g [cI a2.err,cI a2.ba])) [(0,(.box 58 (cf b2 1 2 3 4 (.s 5 0 1 y2.length) (.d (.v (x 19)))))),(1,(dS b2.ak)),(2,(dR b2.due)),(3,(ec b2.an)),(4,(cX b2.aM)),(5,(mY y2))]:=by
 refine cS.mk 67 [(0,(aC (.p 0 0 0 0))),(1,(aC (.q (ek d) 0)))] 6 Tryz.func20 rfl rfl rfl rfl rfl rfl rfl rfl rfl ?_
 intro W0 F0 T0 pg
 obtain ⟨okt,okc,okd,oka,oky,okw0,okw1,okp,okv,okk0,okk1,okg,okl0,okl1,okp0,okp1,okn0,okn1,okq⟩:=id ok
 refine ag 1 rfl (af (ag 4 rfl (aL (ag 2 rfl (aO rfl (fun hc1'=>?_) (fun hc1'=>?_))))))
 ·
  refine aw 2 rfl ?_
  obtain ⟨b20,a20,hr0⟩:∃ (b20:Bk) (a20:Answer),iK b d=(b20,a20):=⟨_,_,rfl⟩
  refine ay 11 [0,7,8,9,10,6,5] (cz id (bp [0,7,8,9,10]) (ms:=(iW b 1 2 3 4 none none)) (ms':=(iW b20 1 2 3 4 none none)) (fun x hx=>Jm x hx b d (by first|assumption|exact cH.tick dr aa aa) b20 a20 hr0) LD rfl) rfl (ad 1 rfl (ae (al (aY (aj ?_)))))
  have hX:fV b days d=(b20,days,a20):=by
    unfold fV;(repeat' (first|rw [if_pos aa]|rw [if_neg aa]|fail))<;>first|rfl|(simp only [hr0];done)|(simp only [hr0];rfl)|(simp_all;done)
  rw [hX] at hr;clear hX
  simp only [Prod.mk.injEq] at hr;obtain ⟨rfl,rfl,rfl⟩:=hr
  exact bb [0,7,8,9,10,5,6] 6 rfl
 refine ag 2 rfl (aO rfl (fun hc2'=>?_) (fun hc2'=>?_))
 ·
  refine aw 2 rfl ?_
  obtain ⟨b21,a21,hr1⟩:∃ (b21:Bk) (a21:Answer),dw b d=(b21,a21):=⟨_,_,rfl⟩
  refine ay 11 [0,7,8,9,10,6,5] (cz id (bp [0,7,8,9,10]) (ms:=(iW b 1 2 3 4 none none)) (ms':=(iW b21 1 2 3 4 none none)) (fun x hx=>Kx x hx b d (by first|assumption|exact cH.tick dr aa aa) b21 a21 hr1) LC rfl) rfl (ad 1 rfl (ae (al (aY (aj ?_)))))
  have hX:fV b days d=(b21,days,a21):=by
    unfold fV;(repeat' (first|rw [if_pos aa]|rw [if_neg aa]|fail))<;>first|rfl|(simp only [hr1];done)|(simp only [hr1];rfl)|(simp_all;done)
  rw [hX] at hr;clear hX
  simp only [Prod.mk.injEq] at hr;obtain ⟨rfl,rfl,rfl⟩:=hr
  exact bb [0,7,8,9,10,5,6] 6 rfl
 refine ag 2 rfl (aO rfl (fun hc3'=>?_) (fun hc3'=>?_))
 ·
  refine aw 2 rfl ?_
  obtain ⟨b22,a22,hr2⟩:∃ (b22:Bk) (a22:Answer),eX b d=(b22,a22):=⟨_,_,rfl⟩
  refine ay 11 [0,7,8,9,10,6,5] (cz id (bp [0,7,8,9,10]) (ms:=(iW b 1 2 3 4 none none)) (ms':=(iW b22 1 2 3 4 none none)) (fun x hx=>FT x hx b d (by first|assumption|exact cH.tick dr aa aa) b22 a22 hr2) LB rfl) rfl (ad 1 rfl (ae (al (aY (aj ?_)))))
  have hX:fV b days d=(b22,days,a22):=by
    unfold fV;(repeat' (first|rw [if_pos aa]|rw [if_neg aa]|fail))<;>first|rfl|(simp only [hr2];done)|(simp only [hr2];rfl)|(simp_all;done)
  rw [hX] at hr;clear hX
  simp only [Prod.mk.injEq] at hr;obtain ⟨rfl,rfl,rfl⟩:=hr
  exact bb [0,7,8,9,10,5,6] 6 rfl
 refine ag 2 rfl (aO rfl (fun hc4'=>?_) (fun hc4'=>?_))
 ·
  refine aw 2 rfl ?_
  obtain ⟨b23,a23,hr3⟩:∃ (b23:Bk) (a23:Answer),gN b d=(b23,a23):=⟨_,_,rfl⟩
  refine ay 11 [0,7,8,9,10,6,5] (cz id (bp [0,7,8,9,10]) (ms:=(iW b 1 2 3 4 none none)) (ms':=(iW b23 1 2 3 4 none none)) (fun x hx=>Jh x hx b d (by first|assumption|exact cH.tick dr aa aa) b23 a23 hr3) LA rfl) rfl (ad 1 rfl (ae (al (aY (aj ?_)))))
  have hX:fV b days d=(b23,days,a23):=by
    unfold fV;(repeat' (first|rw [if_pos aa]|rw [if_neg aa]|fail))<;>first|rfl|(simp only [hr3];done)|(simp only [hr3];rfl)|(simp_all;done)
  rw [hX] at hr;clear hX
  simp only [Prod.mk.injEq] at hr;obtain ⟨rfl,rfl,rfl⟩:=hr
  exact bb [0,7,8,9,10,5,6] 6 rfl
 refine ag 2 rfl (aO rfl (fun hc5'=>?_) (fun hc5'=>?_))
 ·
  refine aw 2 rfl ?_
  obtain ⟨v04,v14,a24,hr4⟩:∃ (v04:List bL) (v14:List bL) (a24:Answer),fY b.s0 b.s1 b.n0 b.n1 b.w0 b.w1 d=(v04,v14,a24):=⟨_,_,_,rfl⟩
  refine ay 7 [0,6,1,2,3,4,5] (cz id id (ms:=[none,none,none,none,none,some (cI b.s0.bj),some (bX b.s0.kept),some (cI b.s1.bj),some (bX b.s1.kept),some (cI b.n0),some (cI b.n1),some (dj b.w0),some (dj b.w1),none,none,none,none,none,none,none]) (ms':=[none,none,none,none,none,some (cI b.s0.bj),some (bX b.s0.kept),some (cI b.s1.bj),some (bX b.s1.kept),some (cI b.n0),some (cI b.n1),some (dj v04),some (dj v14),none,none,none,none,none,none,none]) (fun x hx=>Hy x hx b.s0 b.s1 b.n0 b.n1 b.w0 b.w1 d aa aa aa aa v04 v14 a24 hr4) Lz rfl) rfl (ad 1 rfl (ae (al (aY (aj ?_)))))
  have hX:fV b days d=((⟨b.time,b.down,b.ak,b.due,b.an,b.s0,b.s1,b.n0,b.n1,v04,v14,b.aQ,b.aM,b.book⟩:Bk),days,a24):=by
    unfold fV;(repeat' (first|rw [if_pos aa]|rw [if_neg aa]|fail))<;>first|rfl|(simp only [hr4];done)|(simp only [hr4];rfl)|(simp_all;done)
  rw [hX] at hr;clear hX
  simp only [Prod.mk.injEq] at hr;obtain ⟨rfl,rfl,rfl⟩:=hr
  exact bb [0,1,2,3,4,5,6] 6 rfl
 refine af (ag 2 rfl (ax rfl (fun hc6=>?_) (fun hc6=>?_)))
 ·
  have hc6':=of_decide_eq_true hc6
  refine aD (ax rfl (fun _=>?_) (fun hno=>absurd (hc6.symm.trans hno) cm))
  refine aw 2 rfl ?_
  obtain ⟨b25,a25,hr5⟩:∃ (b25:Bk) (a25:Answer),db b d=(b25,a25):=⟨_,_,rfl⟩
  refine ay 11 [0,7,8,9,10,6,5] (cz id (bp [0,7,8,9,10]) (ms:=(iW b 1 2 3 4 none none)) (ms':=(iW b25 1 2 3 4 none none)) (fun x hx=>zE x hx b d dr b25 a25 hr5) IQ rfl) rfl (ad 1 rfl (ae (al (aY (aj ?_)))))
  have hX:fV b days d=(b25,days,a25):=by
    unfold fV;(repeat' (first|rw [if_pos aa]|rw [if_neg aa]|fail))<;>first|rfl|(simp only [hr5];done)|(simp only [hr5];rfl)|(simp_all;done)
  rw [hX] at hr;clear hX
  simp only [Prod.mk.injEq] at hr;obtain ⟨rfl,rfl,rfl⟩:=hr
  exact bb [0,7,8,9,10,5,6] 6 rfl
 have hc6':=of_decide_eq_false hc6
 refine ah (ad 2 rfl (ae (aO rfl (fun hc8'=>?_) (fun hc8'=>?_))))
 ·
  refine aw 2 rfl ?_
  obtain ⟨b26,a26,hr6⟩:∃ (b26:Bk) (a26:Answer),db b d=(b26,a26):=⟨_,_,rfl⟩
  refine ay 11 [0,7,8,9,10,6,5] (cz id (bp [0,7,8,9,10]) (ms:=(iW b 1 2 3 4 none none)) (ms':=(iW b26 1 2 3 4 none none)) (fun x hx=>zE x hx b d dr b26 a26 hr6) IQ rfl) rfl (ad 1 rfl (ae (al (aY (aj ?_)))))
  have hX:fV b days d=(b26,days,a26):=by
    unfold fV;(repeat' (first|rw [if_pos aa]|rw [if_neg aa]|fail))<;>first|rfl|(simp only [hr6];done)|(simp only [hr6];rfl)|(simp_all;done)
  rw [hX] at hr;clear hX
  simp only [Prod.mk.injEq] at hr;obtain ⟨rfl,rfl,rfl⟩:=hr
  exact bb [0,7,8,9,10,5,6] 6 rfl
 refine ag 2 rfl (aO rfl (fun hc9'=>?_) (fun hc9'=>?_))
 ·
  refine af (ag 5 rfl (ax rfl (fun hc10=>?_) (fun hc10=>?_)))
  ·
   have hc10':=hc10;try simp only [aT,bx] at hc10'
   refine ag 2 rfl (al (aj (aY (aj ?_))))
   have hX:fV b days d=(b,days,(⟨8,0⟩:Answer)):=by
     unfold fV;exact dx
   rw [hX] at hr;clear hX
   simp only [Prod.mk.injEq] at hr;obtain ⟨rfl,rfl,rfl⟩:=hr
   exact bb [0,1,2,3,4,5,6] 6 rfl
  have hc10':=hc10;try simp only [aT,bx] at hc10'
  refine aD (ag 5 rfl (ag 2 rfl (al (aY (aj ?_)))))
  have hX:fV b days d=((⟨b.time,true,b.ak,b.due,b.an,b.s0,b.s1,b.n0,b.n1,b.w0,b.w1,b.aQ,b.aM,b.book⟩:Bk),days,(⟨0,0⟩:Answer)):=by
    unfold fV;exact dx
  rw [hX] at hr;clear hX
  simp only [Prod.mk.injEq] at hr;obtain ⟨rfl,rfl,rfl⟩:=hr
  exact bb [0,1,2,3,4,5,6] 6 rfl
 refine ag 2 rfl (aO rfl (fun hc11'=>?_) (fun hc11'=>?_))
 ·
  refine aw 1 rfl ?_
  obtain ⟨b27,a27,hr7⟩:∃ (b27:Bk) (a27:Answer),kK b=(b27,a27):=⟨_,_,rfl⟩
  refine ay 11 [0,7,8,9,10,6,5] (cz id (bp [0,7,8,9,10]) (ms:=(iW b 1 2 3 4 none none)) (ms':=(iW b27 1 2 3 4 none none)) (fun x hx=>LR x hx b (by first|assumption|exact cH.tick dr aa aa) b27 a27 hr7) Ly rfl) rfl (ad 1 rfl (ae (al (aY (aj ?_)))))
  have hX:fV b days d=(b27,days,a27):=by
    unfold fV;(repeat' (first|rw [if_pos aa]|rw [if_neg aa]|fail))<;>first|rfl|(simp only [hr7];done)|(simp only [hr7];rfl)|(simp_all;done)
  rw [hX] at hr;clear hX
  simp only [Prod.mk.injEq] at hr;obtain ⟨rfl,rfl,rfl⟩:=hr
  exact bb [0,7,8,9,10,5,6] 6 rfl
 refine ag 2 rfl (aO rfl (fun hc12'=>?_) (fun hc12'=>?_))
 ·
  refine aw 1 rfl ?_
  obtain ⟨today28,days28,a28,hr8⟩:∃ (today28:List ar) (days28:List (List Int)) (a28:Answer),kO b.aM days=(today28,days28,a28):=⟨_,_,_,rfl⟩
  refine ay 9 [0,7,8,6,1,2,3] (cz (bp [0,4,5]) (bp [0,7,8]) (ms:=((bY.set 16 (some (.s 1 0 4 b.aM.length))).set 17 (some (.s 2 0 1 days.length)))) (ms':=((bY.set 16 (some (.s 1 0 4 today28.length))).set 17 (some (.s 2 0 1 days28.length)))) (fun x hx=>Jj x hx b.aM days aa aa today28 days28 a28 hr8) Lx rfl) rfl (ad 1 rfl (ae (al (aY (aj ?_)))))
  have hX:fV b days d=((⟨b.time,b.down,b.ak,b.due,b.an,b.s0,b.s1,b.n0,b.n1,b.w0,b.w1,b.aQ,today28,b.book⟩:Bk),days28,a28):=by
    unfold fV;(repeat' (first|rw [if_pos aa]|rw [if_neg aa]|fail))<;>first|rfl|(simp only [hr8];done)|(simp only [hr8];rfl)|(simp_all;done)
  rw [hX] at hr;clear hX
  simp only [Prod.mk.injEq] at hr;obtain ⟨rfl,rfl,rfl⟩:=hr
  exact bb [0,1,2,3,7,8,6] 6 rfl
 refine ag 2 rfl (aO rfl (fun hc13'=>?_) (fun hc13'=>?_))
 ·
  refine aw 2 rfl ?_
  obtain ⟨b29,a29,hr9⟩:∃ (b29:Bk) (a29:Answer),jT b d=(b29,a29):=⟨_,_,rfl⟩
  refine ay 11 [0,7,8,9,10,6,5] (cz id (bp [0,7,8,9,10]) (ms:=(iW b 1 2 3 4 none none)) (ms':=(iW b29 1 2 3 4 none none)) (fun x hx=>Kw x hx b d (by first|assumption|exact cH.tick dr aa aa) b29 a29 hr9) Lw rfl) rfl (ad 1 rfl (ae (al (aY (aj ?_)))))
  have hX:fV b days d=(b29,days,a29):=by
    unfold fV;(repeat' (first|rw [if_pos aa]|rw [if_neg aa]|fail))<;>first|rfl|(simp only [hr9];done)|(simp only [hr9];rfl)|(simp_all;done)
  rw [hX] at hr;clear hX
  simp only [Prod.mk.injEq] at hr;obtain ⟨rfl,rfl,rfl⟩:=hr
  exact bb [0,7,8,9,10,5,6] 6 rfl
 refine cv (aN (then_ok (ag 2 rfl (al ?_))))
 have hX:fV b days d=(b,days,(⟨1,0⟩:Answer)):=by
   unfold fV;exact dx
 rw [hX] at hr;clear hX
 simp only [Prod.mk.injEq] at hr;obtain ⟨rfl,rfl,rfl⟩:=hr
 exact bb [0,1,2,3,4,5,6] 6 rfl

theorem Jk (x:Nat->Value) (hx:∀ i,(x i).oneCell'=true) (b:Bk) (days:List (List Int)) (told:List (Int×Answer)) (cl:Nat) (d:bW) (ok:cH b) (hy:days.length<=1000) (b2:Bk) (y2:List (List Int)) (t2:List (Int×Answer)) (c2:Nat) (a2:Answer) (hr:hO b days told cl d=(b2,y2,t2,c2,a2)):cS Tryz.prog 10 [(.c (.p 0 0 0 0)),(.c (.q (ek d) 0))] [(0,(.box 58 (cf b 1 2 3 4 (.s 5 0 1 days.length) (.m 6)))),(1,(dS b.ak)),(2,(dR b.due)),(3,(ec b.an)),(4,(cX b.aM)),(5,(mY days)),(6,(.map (tV told) cl))] [0] (.v (.g [cI a2.err,cI a2.ba])) [(0,(.box 58 (cf b2 1 2 3 4 (.s 5 0 1 y2.length) (.m 6)))),(1,(dS b2.ak)),(2,(dR b2.due)),(3,(ec b2.an)),(4,(cX b2.aM)),(5,(mY y2)),(6,(.map (tV t2) c2))]:=by
 refine cS.mk 42 [(0,(aC (.p 0 0 0 0))),(1,(aC (.q (ek d) 0)))] 7 Tryz.func10 rfl rfl rfl rfl rfl rfl rfl rfl rfl ?_
 intro W0 F0 T0 pg
 obtain ⟨okt,okc,okd,oka,oky,okw0,okw1,okp,okv,okk0,okk1,okg,okl0,okl1,okp0,okp1,okn0,okn1,okq⟩:=id ok
 refine ag 1 rfl (af (af (eJ [0,1,4] [7,0,1,2,3,4,5,6] rfl (cV 8 rfl (de 8 [12,16] [6] rfl (DU (ps:=told) Tryz.underlying56 eA KL rfl rfl rfl rfl) rfl (gJ (n':=9) (kn:=[]) bn 6 rfl trivial (eb [0,1,4,5,6] [8,7,0,1,2,3,4,5,6] rfl rfl aJ (then_ok (bQ 27 (((gf told d.id).isSome) && (decide (¬d.id=0))) ?_ ?_)))))))))
 ·
  refine ah (ad 2 rfl (iz (t:=21) rfl (fun hb1=>?_) (fun hb1=>?_)))
  ·
   have hb1':=hb1;try simp only [aT,bx] at hb1'
   exact ad 6 rfl (ae (aq.pz 9 rfl))
  have hb1':=hb1;try simp only [aT,bx] at hb1'
  exact ad 6 rfl (ae (aq.pz 9 rfl))
 refine ax rfl (fun hc2=>?_) (fun hc2=>?_)
 ·
  have hc2':=hc2;try simp only [aT,bx] at hc2'
  refine ag 2 rfl (al (aj ?_))
  have hX:hO b days told cl d=(b,days,told,cl,((gf told d.id).getD ⟨0,0⟩)):=by
    unfold hO;exact sx
  rw [hX] at hr;clear hX
  simp only [Prod.mk.injEq] at hr;obtain ⟨rfl,rfl,rfl,rfl,rfl⟩:=hr
  exact bb [0,1,2,3,4,5,6,7] 7 rfl
 have hc2':=hc2;try simp only [aT,bx] at hc2'
 refine aD (aw 2 rfl ?_)
 obtain ⟨b20,y20,a20,hr0⟩:∃ (b20:Bk) (y20:List (List Int)) (a20:Answer),fV b days d=(b20,y20,a20):=⟨_,_,_,rfl⟩
 refine ay 14 [0,9,10,11,12,13,8,7,6] (cz id (bp [0,9,10,11,12,13]) (ms:=(iW b 1 2 3 4 (some (.s 5 0 1 days.length)) none)) (ms':=(iW b20 1 2 3 4 (some (.s 5 0 1 y20.length)) none)) (fun x hx=>LS x hx b days d (by first|assumption|exact cH.tick dr aa aa) aa b20 y20 a20 hr0) LK rfl) rfl (ad 2 rfl (ae (af (bg [0,1,4,7] [14,0,9,10,11,12,13,7,6] rfl (aF 9 rfl (bf [14,0,9,10,11,12,13,7,6] rfl (eP [14,0,9,10,11,12,13,7,6] (DT Tryz.underlying56 eA rfl rfl rfl rfl rfl) rfl (ae (ag 2 rfl (al ?_))))))))))
 have hX:hO b days told cl d=(b20,y20,lC told d.id a20,if (gf told d.id).isSome then cl else cl+1,a20):=by
   unfold hO;simp only [hr0];exact sx
 rw [hX] at hr;clear hX
 simp only [Prod.mk.injEq] at hr;obtain ⟨rfl,rfl,rfl,rfl,rfl⟩:=hr
 exact bb [0,9,10,11,12,13,6,7] 7 rfl

theorem sD (s:Setup) (f:cM) (hr:eC s=f):Fn Tryz.prog 6 [(.g [(cR 3 ((s.cF).map gE)),(cI s.gp),(cI s.cap)])] (.v (.g [(cI f.err),(cI f.at_)])) []:=by
 refine Fn.mk' 47 [(0,(aG [(cR 3 ((s.cF).map gE)),(cI s.gp),(cI s.cap)]))] Tryz.func6 rfl rfl rfl rfl ?_
 intro W0 T0
 refine ck 0 0 rfl rfl (fun hlen0_0=>?_)
 refine ag 2 rfl (af (bQ 19 (((decide ((↑s.cF.length:Int) > 8))||(decide (s.gp < 0)))||(decide (s.gp > 8))) ?_ ?_))
 ·
  refine ah (ad 2 rfl (az (cD rfl rfl nd) rfl (ad 2 rfl (bz 10 rfl (fun hb1'=>?_) (fun hb1'=>?_)))))
  ·
   exact ad 9 rfl (ae (aq.pz 15 rfl))
  refine ad 5 rfl (bz 15 rfl (fun hb2'=>?_) (fun hb2'=>?_))
  ·
   exact ad 4 rfl (ae (aq.pz 16 rfl))
  exact ad 4 rfl (ae (aq.pz 16 rfl))
 refine ax rfl (fun hc3=>?_) (fun hc3=>?_)
 ·
  have hc3':=hc3;try simp only [aT,bx] at hc3'
  refine ag 2 rfl (al (aj ?_))
  have hX:eC s=(⟨5,0⟩:cM):=by
    unfold eC;rw [if_pos aa]
  rw [hX] at hr;clear hX
  subst hr
  exact bb [1] 0 rfl
 have hc3':=hc3;try simp only [aT,bx] at hc3'
 refine aD (af (bQ 28 ((decide (s.cap < 0))||(decide (s.cap > 1000000))) ?_ ?_))
 ·
  refine ah (ad 4 rfl (bz 24 rfl (fun hb4'=>?_) (fun hb4'=>?_)))
  ·
   exact ad 4 rfl (ae (aq.pz 9 rfl))
  exact ad 4 rfl (ae (aq.pz 9 rfl))
 refine ax rfl (fun hc5=>?_) (fun hc5=>?_)
 ·
  have hc5':=hc5;try simp only [aT,bx] at hc5'
  refine ag 2 rfl (al (aj ?_))
  have hX:eC s=(⟨3,0⟩:cM):=by
    unfold eC;rw [if_neg aa,if_pos aa]
  rw [hX] at hr;clear hX
  subst hr
  exact bb [1] 0 rfl
 have hc5':=hc5;try simp only [aT,bx] at hc5'
 refine aD (af (aw 2 rfl (az (cD rfl rfl nd) rfl (ad 1 rfl (ae (aL (cb (β:=Nat) (fun (q:Nat)=>⟨[(2,(aC (.p 1 0 0 0))),(31,(aC (cR 3 ((s.cF).map gE)))),(32,(aI (↑s.cF.length:Int))),(33,(aI (↑q:Int)))],[(1,(.box 47 [(cI 0),(cI 0)]))],2⟩) (fun (q:Nat)=>q<=s.cF.length/\pU s.cF 0=pU (s.cF.drop q) q) (fun (q:Nat)=>s.cF.length - q) 0 ?_ ?_ ?_)))))))
 ·exact ⟨aa,rfl⟩
 ·exact aq.rz id
 rintro q ⟨hi0_0,hi0_1⟩
 refine ag 1 rfl (af (aO rfl (fun hc6'=>?_) (fun hc6'=>?_)))
 ·
  refine aD (af (aL (aw 1 rfl ?_)))
  obtain ⟨x1,hx1⟩:=bO (xs:=s.cF) (i:=q) aa
  refine az (dO (i:=q) rfl rfl rfl nd BI (aV hx1)) rfl (ad 4 rfl (ae (aw 1 rfl ?_)))
  obtain ⟨e0,hr0⟩:∃ (e0:Int),gd x1=e0:=⟨_,rfl⟩
  refine ay 3 [2,1] (cA 3 (od x1 e0 hr0) FG rfl) rfl (ad 1 rfl (ae (ag 2 rfl (aO rfl (fun hc7'=>?_) (fun hc7'=>?_)))))
  ·
   refine ag 4 rfl (al (aY (aj (aj (aY (aj ?_))))))
   have hX:eC s=(⟨e0,(↑q:Int)⟩:cM):=by
     unfold eC;rw [if_neg aa,if_neg aa,hi0_1,py hx1,if_pos aa];simp_all
   rw [hX] at hr;clear hX
   subst hr
   exact bb [1] 0 rfl
  refine cv (aN (then_ok (ah (bl rfl rfl rfl rfl aa (ad 1 rfl (ae (⟨q+1,⟨aa,by rw [hi0_1,py hx1,if_neg aa]⟩,bT,aq.rz id⟩)))))))
 refine bR (aE (aE (bw (then_ok (ag 2 rfl (al ?_))))))
 have hX:eC s=(⟨0,0⟩:cM):=by
   unfold eC;rw [if_neg aa,if_neg aa,hi0_1,List.drop_of_length_le aa];rfl
 rw [hX] at hr;clear hX
 subst hr
 exact bb [1] 0 rfl

theorem Jq (s:Setup) (l:List bW) (b2:Bk) (y2:List (List Int)) (o2:List Answer) (f2:cM) (hr:jO s l=(b2,y2,o2,f2)):Fn Tryz.prog 4 [(.g [(cR 3 ((s.cF).map gE)),(cI s.gp),(cI s.cap)]),(.c (kR l))] (.t [(.g [(cI b2.time),(cB b2.down),(.s 0 0 6 b2.ak.length),(.s 1 0 1 b2.due.length),(.s 2 0 8 b2.an.length),(cI b2.s0.bj),(bX b2.s0.kept),(cI b2.s1.bj),(bX b2.s1.kept),(cI b2.n0),(cI b2.n1),(dj b2.w0),(dj b2.w1),(cI b2.aQ.cap),(dt b2.aQ.used),(eo b2.aQ.aH),(.s 3 0 4 b2.aM.length),(.s 4 0 1 y2.length),(cE b2.book)]),(.c (.s 5 0 2 o2.length)),(.g [(cI f2.err),(cI f2.at_)])]) [(0,(dS b2.ak)),(1,(dR b2.due)),(2,(ec b2.an)),(3,(cX b2.aM)),(4,(mY y2)),(5,(tC o2))]:=by
 refine Fn.mk' 89 [(0,(aG [(cR 3 ((s.cF).map gE)),(cI s.gp),(cI s.cap)])),(1,(aC (kR l)))] Tryz.func4 rfl rfl rfl rfl ?_
 intro W0 T0
 refine ck 0 0 rfl rfl (fun hlen0_0=>?_)
 refine dE 1 rfl (fun hlen1=>?_)
 refine ag 4 rfl (af (aw 1 rfl ?_))
 obtain ⟨f0,hr0⟩:∃ (f0:cM),eC s=f0:=⟨_,rfl⟩
 refine ay 3 [2,1,0] (cA 3 (sD s f0 hr0) KH rfl) rfl (ad 2 rfl (ae (ag 3 rfl (aO rfl (fun hc1'=>?_) (fun hc1'=>?_)))))
 ·
  refine af (eJ [1,2,4,6,7] [3,2,1,0] rfl (cV 5 rfl (eb [1,2,4,6,5] [2,1,0] rfl rfl aJ (then_ok (al (aj (cc 1 2 63 6 rfl rfl rfl (cc 1 3 3 1 rfl rfl rfl (cc 1 4 81 8 rfl rfl rfl (cZ 1 6 4 rfl rfl rfl (cZ 1 8 4 rfl rfl rfl (cZ 1 11 5 rfl rfl rfl (cZ 1 12 5 rfl rfl rfl (cZ 1 14 1 rfl rfl rfl (cZ 1 15 4 rfl rfl rfl (cc 1 16 103 4 rfl rfl rfl (cc 1 17 82 1 rfl rfl rfl (cZ 1 18 2 rfl rfl rfl (cW (aq.nil 5 53 2 cm rfl) ?_)))))))))))))))))))
  have hX:jO s l=((⟨0,false,([]:List bF),([]:List Int),([]:List bG),(⟨0,[]⟩:bK),(⟨0,[]⟩:bK),0,0,[],[],(⟨0,[],[]⟩:cT),([]:List ar),[]⟩:Bk),([]:List (List Int)),([]:List Answer),f0):=by
    unfold jO;rw [hr0,if_pos aa];rfl
  rw [hX] at hr;clear hX
  simp only [Prod.mk.injEq] at hr;obtain ⟨rfl,rfl,rfl,rfl⟩:=hr
  exact bb [4,5,6,7,8,9,1,2] 6 rfl
 refine aD (af (aw 1 rfl (az (cD rfl rfl qy) rfl (ad 1 rfl (ae (aO rfl (fun hc2'=>?_) (fun hc2'=>?_)))))))
 ·
  refine ag 5 rfl (al (aj (cc 1 2 63 6 rfl rfl rfl (cc 1 3 3 1 rfl rfl rfl (cc 1 4 81 8 rfl rfl rfl (cZ 1 6 4 rfl rfl rfl (cZ 1 8 4 rfl rfl rfl (cZ 1 11 5 rfl rfl rfl (cZ 1 12 5 rfl rfl rfl (cZ 1 14 1 rfl rfl rfl (cZ 1 15 4 rfl rfl rfl (cc 1 16 103 4 rfl rfl rfl (cc 1 17 82 1 rfl rfl rfl (cZ 1 18 2 rfl rfl rfl (cW (aq.nil 5 53 2 cm rfl) ?_)))))))))))))))
  have hX:jO s l=((⟨0,false,([]:List bF),([]:List Int),([]:List bG),(⟨0,[]⟩:bK),(⟨0,[]⟩:bK),0,0,[],[],(⟨0,[],[]⟩:cT),([]:List ar),[]⟩:Bk),([]:List (List Int)),([]:List Answer),(⟨5,0⟩:cM)):=by
    unfold jO;rw [hr0,if_neg aa,if_pos aa];rfl
  rw [hX] at hr;clear hX
  simp only [Prod.mk.injEq] at hr;obtain ⟨rfl,rfl,rfl,rfl⟩:=hr
  exact bb [4,5,6,7,8,9,1,2] 6 rfl
 refine aD (dq (ay 5 [4,3,2,1,0] (Cj 4 rfl) rfl (ad 3 rfl (ae (af ?_)))))
 obtain ⟨w1,w2,w3,w4,w5,w6⟩:=lU (s:=s) (by rw [hr0];omega)
 refine oO 5 2 63 6 rfl rfl rfl (oO 5 4 81 8 rfl rfl rfl (ig 5 6 4 rfl rfl rfl (ig 5 8 4 rfl rfl rfl (ig 5 11 5 rfl rfl rfl (ig 5 12 5 rfl rfl rfl (ig 5 14 1 rfl rfl rfl (ig 5 15 4 rfl rfl rfl (oO 5 16 103 4 rfl rfl rfl (oO 5 17 82 1 rfl rfl rfl (ig 5 18 2 rfl rfl rfl (aw 2 rfl (az (cD rfl rfl nd) rfl (ad 1 rfl (ae (aL (cb (β:=Nat×List bF) (fun (p:Nat×List bF)=>match p with|(q,m)=>⟨[(1,(aC (kR l))),(2,(aC (.p 0 0 0 0))),(4,(aC (.p 1 0 0 0))),(5,(aC cN)),(6,(aC (.p 2 0 0 0))),(8,(aC (.p 5 0 0 0))),(29,(aC (cR 3 ((s.cF).map gE)))),(30,(aI (↑s.cF.length:Int))),(31,(aI (↑q:Int)))],[(9,(mY ([]:List (List Int)))),(8,(cX ([]:List ar))),(7,(ec ([]:List bG))),(6,(dS m)),(5,(.box 58 [(cI 0),(cB false),(.s 6 0 6 m.length),cN,(.s 7 0 8 0),(cI 0),(bX ([]:List aZ)),(cI 0),(bX ([]:List aZ)),(cI 0),(cI 0),(dj ([]:List bL)),(dj ([]:List bL)),(cI 0),(dt ([]:List Int)),(eo ([]:List ch)),(.s 8 0 4 0),(.s 9 0 1 0),(cE ([]:List Entry)),(.m 4)])),(4,(.map (tV ([]:List (Int×Answer))) 0)),(2,(.box 47 [(cI 0),(cI 0)])),(1,(.box 43 [(cI 0),(cB false),cN,cN,cN,(cI 0),cN,(cI 0),cN,(cI 0),(cI 0),cN,cN,(cI 0),cN,cN,cN,cN,cN])),(0,(.box 24 [(cR 3 ((s.cF).map gE)),(cI s.gp),(cI s.cap)]))],10⟩) (fun (p:Nat×List bF)=>match p with|(q,m)=>q<=s.cF.length/\m=(s.cF.take q).map pJ/\m.length=q) (fun (p:Nat×List bF)=>match p with|(q,m)=>s.cF.length - q) (0,([]:List bF)) ?_ ?_ ?_))))))))))))))))
 ·exact ⟨aa,rfl,rfl⟩
 ·exact aq.rz id
 rintro ⟨q,m⟩ ⟨hi0_0,hi0_1,hi0_2⟩
 refine ag 1 rfl (af (aO rfl (fun hc3'=>?_) (fun hc3'=>?_)))
 ·
  refine aD (af (aL (dq ?_)))
  obtain ⟨x1,hx1⟩:=bO (xs:=s.cF) (i:=q) aa
  refine az (dO (i:=q) rfl rfl rfl nd BI (aV hx1)) rfl (ad 3 rfl (ae (bg [1,2,4,5,6,8,29,30,31,10] [10,9,8,7,6,5,4,2,1,0] rfl (aF 7 rfl (bM 11 [41] [] rfl (bU.EW (cs':=[(cI 0),(cI 0),(cI x1.cw),(cI x1.count),(cI x1.sum),(eF ([]:List dh))]) 5 2 (sX (ys:=[(2,(.g [(cI x1.cw),(cI x1.count),(cI x1.sum)]))]) rfl GI rfl ⟨⟨rfl,rfl⟩,trivial⟩ rfl rfl) rfl rfl) rfl (bM 12 [42] [] rfl (dM (ys:=[(0,(.g [(cI 0),(cI 0),(cI x1.cw),(cI x1.count),(cI x1.sum),(eF ([]:List dh))]))]) (rows:=([(⟨0,0,x1,([]:List dh)⟩:bF)]).map nD) 11 rK rfl) rfl (bM 13 [40,43] [11,6] rfl (dU (m:=1) (N:=m.length+1) (k2:=12) (ys:=([(⟨0,0,x1,([]:List dh)⟩:bF)]).map nD) rK rfl rfl rfl rfl dv) rfl (aF 3 rfl (bf [12,10,9,8,7,5,4,2,1,0] rfl (ad 1 rfl (bq (aN (then_ok (ah (bl rfl rfl rfl rfl aa (ad 1 rfl (ae (⟨(q+1,m++([(⟨0,0,x1,([]:List dh)⟩:bF)])),⟨aa,by rw [gh hx1,List.map_append,<-hi0_1];rfl,by rw [List.length_append,hi0_2];rfl⟩,bT,aq.rz (fun k=>if k=6 then 12 else k)⟩))))))))))))))))))
 refine bR (aE (aE (bw (then_ok (aw 3 rfl (ay 11 [10,9,8,7,6,5,4,2,1,0] (sV 10 lF uB rfl rfl rfl (n:=Int.toNat (s.gp)) aa aa aa aa) rfl (ad 4 rfl (ae (aw 5 rfl (az (cD rfl rfl nd) rfl ?_))))))))))
 have hr1:eL s.cap (↑s.cF.length:Int)=((eL s.cap (↑s.cF.length:Int)).1,(eL s.cap (↑s.cF.length:Int)).2):=rfl
 refine ay 11 [10,9,8,7,6,5,4,2,1,0] (cA 11 (Fn.frozen (av':=(.t [(.g [(cI (((eL s.cap (↑s.cF.length:Int)).1).cap)),(dt (((eL s.cap (↑s.cF.length:Int)).1).used)),(eo (((eL s.cap (↑s.cF.length:Int)).1).aH))]),(.c (cI ((eL s.cap (↑s.cF.length:Int)).2)))])) (Aj s.cap (↑s.cF.length:Int) ((eL s.cap (↑s.cF.length:Int)).1) ((eL s.cap (↑s.cF.length:Int)).2) hr1) ⟨⟨.inl ⟨_,rfl,rfl⟩,.inr ⟨_,_,_,_,_,rfl,rfl,rfl,ca⟩,.inr ⟨_,_,_,_,_,rfl,rfl,rfl,ca⟩,trivial⟩,.inl ⟨_,rfl,rfl⟩,trivial⟩) Me rfl) rfl (ad 7 rfl (ae (ag 1 rfl (af (aw 1 rfl (az (cD rfl rfl qy) rfl (ad 1 rfl (ae (aL (ie (aq.nil 11 53 2 cm rfl) ?_))))))))))
 have htk:m=s.cF.map pJ:=by rw [hi0_1,List.take_of_length_le aa]
 subst htk
 refine cb (β:=Nat×Bk×List (List Int)×List (Int×Answer)×Nat×List Answer) (fun (p:Nat×Bk×List (List Int)×List (Int×Answer)×Nat×List Answer)=>match p with|(u,b,days,told,cl,out)=>⟨[(1,(aC (kR l))),(2,(aC (.p 0 0 0 0))),(4,(aC (.p 1 0 0 0))),(5,(aC cN)),(6,(aC (.p 2 0 0 0))),(8,(aC (.p 5 0 0 0))),(29,(aC (cR 3 ((s.cF).map gE)))),(30,(aI (↑s.cF.length:Int))),(31,(aI (↑q:Int))),(11,(aC (.s 11 0 2 out.length))),(70,(aI (↑l.length:Int))),(71,(aI (↑u:Int)))],[(11,(tC out)),(10,(dR b.due)),(9,(mY days)),(8,(cX b.aM)),(7,(ec b.an)),(6,(dS b.ak)),(5,(.box 58 (cf b 6 10 7 8 (.s 9 0 1 days.length) (.m 4)))),(4,(.map (tV told) cl)),(2,(.box 47 [(cI 0),(cI 0)])),(1,(.box 43 [(cI 0),(cB false),cN,cN,cN,(cI 0),cN,(cI 0),cN,(cI 0),(cI 0),cN,cN,(cI 0),cN,cN,cN,cN,cN])),(0,(.box 24 [(cR 3 ((s.cF).map gE)),(cI s.gp),(cI s.cap)]))],12⟩) (fun (p:Nat×Bk×List (List Int)×List (Int×Answer)×Nat×List Answer)=>match p with|(u,b,days,told,cl,out)=>u<=l.length/\lY l (ke s) [] [] 0 []=lY (l.drop u) b days told cl out/\cH b/\days.length<=u/\out.length=u) (fun (p:Nat×Bk×List (List Int)×List (Int×Answer)×Nat×List Answer)=>match p with|(u,b,days,told,cl,out)=>l.length - u) (0,ke s,([]:List (List Int)),([]:List (Int×Answer)),0,([]:List Answer)) ?_ ?_ ?_
 ·exact ⟨aa,rfl,cH.start (by rw [hr0];omega),ca,rfl⟩
 ·exact aq.rx id (by refine ⟨?_,?_,?_,?_,?_,?_,?_,?_,?_,?_,?_,trivial⟩<;>first|rfl|(simp only [fQ];done)|(congr 3;omega)|(congr 4;omega)|(simp only [fR];rfl)|(simp only [cf,ke,List.length_replicate];rfl))
 rintro ⟨u,b,days,told,cl,out⟩ ⟨hi1_0,hi1_1,hi1_2,hi1_3,hi1_4⟩
 refine ag 1 rfl (af (aO rfl (fun hc4'=>?_) (fun hc4'=>?_)))
 ·
  refine aD (af (aL (ag 2 rfl (ah (ad 4 rfl ?_)))))
  obtain ⟨x1,hx1⟩:=bO (xs:=l) (i:=u) aa
  refine az (dO (i:=u) rfl rfl rfl qy EH (aV hx1)) rfl ?_
  obtain ⟨b22,y22,t22,c22,a22,hr2⟩:∃ (b22:Bk) (y22:List (List Int)) (t22:List (Int×Answer)) (c22:Nat) (a22:Answer),hO b days told cl x1=(b22,y22,t22,c22,a22):=⟨_,_,_,_,_,rfl⟩
  refine ay 18 [5,12,13,14,15,16,17,11,2,1,0] (cz (bp [5,6,10,7,8,9,4]) (bp [5,12,13,14,15,16,17]) (ms:=(iW b 1 2 3 4 (some (.s 5 0 1 days.length)) (some (.m 6)))) (ms':=(iW b22 1 2 3 4 (some (.s 5 0 1 y22.length)) (some (.m 6)))) (fun x hx=>Jk x hx b days told cl x1 (by first|assumption|exact cH.tick dr aa aa) aa b22 y22 t22 c22 a22 hr2) LQ rfl) rfl (ay 19 [18,5,12,13,14,15,16,17,11,2,1,0] (dM (ys:=[(0,(.g [(cI a22.err),(cI a22.ba)]))]) (rows:=([a22]).map ib) 18 nX rfl) rfl (ay 20 [19,18,5,12,13,14,15,16,17,2,1,0] (dU (m:=1) (N:=out.length+1) (k2:=19) (ys:=([a22]).map ib) nX rfl rfl rfl rfl dv) rfl (ad 1 rfl (bq (aN (then_ok (ah (bl rfl rfl rfl rfl aa (ad 1 rfl (ae (⟨(u+1,b22,y22,t22,c22,out++([a22])),⟨aa,by rw [hi1_1,ln hx1,hr2],(by have h:=cH.once hi1_2 days told cl x1;rw [hr2] at h;exact h.1),(by have h:=(cH.once hi1_2 days told cl x1).2;rw [hr2] at h;dsimp only at h;omega),by rw [List.length_append,hi1_4];rfl⟩,bT,aq.rz (fun k=>if k=11 then 19 else if k=4 then 17 else if k=9 then 16 else if k=8 then 15 else if k=7 then 14 else if k=10 then 13 else if k=6 then 12 else k)⟩)))))))))))
 refine bR (aE (aE (bw (then_ok (ag 9 rfl (al ?_))))))
 have hX:jO s l=(b,days,out,(⟨0,0⟩:cM)):=by
   unfold jO;rw [hr0,if_neg aa,if_neg aa,hi1_1,List.drop_of_length_le aa];rfl
 rw [hX] at hr;clear hX
 simp only [Prod.mk.injEq] at hr;obtain ⟨rfl,rfl,rfl,rfl⟩:=hr
 exact bb [6,10,7,8,9,11,1,2] 6 rfl
section
section
variable {P:Program} {W0:World} {F:Nat->Prop} {N:NT} {T0:Nat->Prop} {pin:List (Nat×cg)} {Q:Exit->aK->Prop} {st:aK}
theorem Ey {id:Nat} {l m r:List Oper} (hr:CN l m=some r) (h:AL P W0 F N T0 pin r.toArray Q r st):AC P W0 F N T0 pin Q (.region id (List.toArray (List.append l m)) false) st:=by
 have e:List.toArray (List.append l m)=r.toArray:=by rw [<-BA hr];rfl
 rw [e]
 exact ah h
end
end
end Go.Proofs.YtnfopdlnboeheaaGreat.Dev
