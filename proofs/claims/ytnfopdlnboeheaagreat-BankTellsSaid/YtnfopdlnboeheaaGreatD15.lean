/- A part of the proof: Ref6, Sh41, PlZ2, Ref7, Ref8, Ref9. No condition. -/
import Derived.Test.YtnfopdlnboeheaaGreatD14
set_option linter.unusedVariables false
set_option linter.unusedSimpArgs false
set_option maxHeartbeats 16000000
set_option maxRecDepth 100000
namespace Go.Proofs.YtnfopdlnboeheaaGreat.Dev
open Go.RowKit

theorem Hu (x:Nat->Value) (hx:∀ i,(x i).oneCell'=true) (b:Bk) (lost:Bool) (ok:cH b) (b2:Bk) (e2:Int) (hr:ei b 0 lost=(b2,e2)):cS Tryz.prog 27 [(.c (.p 0 0 0 0)),(.c (cI 0)),(.c (cB lost))] [(0,(.box 73 (cf b 1 2 3 4 (.d (.v (x 17))) (cI 0)))),(1,(dS b.ak)),(2,(dR b.due)),(3,(ec b.an)),(4,(cX b.aM))] [0] (.t []) [(0,(.box 73 (cf b2 1 2 3 4 (.d (.v (x 17))) (cI e2)))),(1,(dS b2.ak)),(2,(dR b2.due)),(3,(ec b2.an)),(4,(cX b2.aM))]:=by
 refine cS.mk 189 [(0,(aC (.p 0 0 0 0))),(1,(aI 0)),(2,(aB lost))] 5 Tryz.func27 rfl rfl rfl rfl rfl rfl rfl rfl rfl ?_
 intro W0 F0 T0 pg
 obtain ⟨okt,okc,okd,oka,oky,okw0,okw1,okp,okv,okk0,okk1,okg,okl0,okl1,okp0,okp1,okn0,okn1,okq⟩:=id ok
 refine ag 4 rfl (af (aw 1 rfl (az (bm rfl rfl rfl (show _=some (Value.bool false) from rfl)) rfl (ad 2 rfl (dg (aR.yes rfl rfl rfl) (bm rfl rfl rfl (show _=some (Value.bool false) from rfl)) rfl rfl (ad 6 rfl (dg (aR.yes rfl rfl rfl) (du (i:=0) rfl rfl rfl fJ fK) rfl rfl (ad 1 rfl (dg (aR.yes rfl rfl rfl) (cD rfl rfl ir) rfl rfl (ad 2 rfl (ae (aO rfl (fun hc1'=>?_) (fun hc1'=>?_)))))))))))))
 ·
  refine aw 1 rfl ?_
  have hr0:cp 0 6=6:=rfl
  refine ay 5 [0,1,2,3,4] (cz id id (ms:=(bY.set 19 (some (cI 0)))) (ms':=(bY.set 19 (some (cI 6)))) (fun x hx=>dV x hx 0 6 6 hr0) fr rfl) rfl (ae (al (aj ?_)))
  have hX:ei b 0 lost=(b,6):=by
    unfold ei;rw [if_pos rfl];unfold ma;rw [List.getElem?_eq_none aa]
  cases hX.symm.trans hr;clear hX
  exact bb [0,1,2,3,4] 5 rfl
 refine aD (aw 4 rfl (az (du (i:=0) rfl rfl rfl fJ fK) rfl (ad 1 rfl ?_)))
 obtain ⟨x1,hx1⟩:=bO (xs:=b.w0) (i:=0) aa
 refine az (dO (i:=0) rfl rfl rfl ir nV (aV hx1)) rfl (ad 3 rfl (ae (af (bg [0,1,2,6,7] [5,0,1,2,3,4] rfl (aF 6 rfl (bh 6 [46,44] [0] rfl (du (i:=0) rfl rfl rfl fJ fK) (aF 1 rfl (bh 6 [48] [] rfl (qU (l:=1) (h:=b.w0.length) (ys:=((b.w0).drop 1).map eG) rfl ir nV rfl (.inr ⟨_,rfl,rfl⟩) (.inl ⟨rfl,ca⟩) aa bT (by first|(simp;done)|(rw [List.map_drop];exact List.take_of_length_le ca))) (aF 2 rfl (bh 6 [51,42] [0] rfl (du (i:=0) rfl rfl rfl fJ fK) (bf [5,0,1,2,3,4] rfl (ad 1 rfl (ae (af (ag 1 rfl (ax rfl (fun hc2=>?_) (fun hc2=>?_)))))))))))))))))
 ·
  have hc2':=hc2;try simp only [aT,bx] at hc2'
  refine al (aj ?_)
  have hX:ei b 0 lost=((⟨b.time,b.down,b.ak,b.due,b.an,b.s0,b.s1,b.n0,b.n1,(b.w0).drop 1,b.w1,b.aQ,b.aM,b.book⟩:Bk),0):=by
    unfold ei;rw [if_pos rfl];unfold ma;rw [hx1];dsimp only;rw [if_pos hc2]
  cases hX.symm.trans hr;clear hX
  exact bb [0,1,2,3,4] 5 rfl
 have hc2':=hc2;try simp only [aT,bx] at hc2'
 refine aD (af ?_)
 have hpk:=okp0 x1 (List.mem_of_getElem? hx1)
 have hI0:∀ t∈b.s0.kept,fb t.number:=fun t ht=>(okk0 t ht).1
 have hI1:∀ t∈b.s1.kept,fb t.number:=fun t ht=>(okk1 t ht).1
 refine ag 3 rfl (aO rfl (fun hc3'=>?_) (fun hc3'=>?_))
 ·
  refine af ?_
  obtain ⟨xr1,e1,hr1⟩:∃ (xr1:bK) (e1:Int),en b.s0 x1.seen=(xr1,e1):=⟨_,_,rfl⟩
  refine eJ [0,1,6,7] [5,0,1,2,3,4] rfl (cV 4 rfl (dZ 6 [61,59] [0] rfl (du (i:=0) rfl rfl rfl jh jj) (cV 3 rfl (de 6 [63,65] [] rfl (cA 6 (Fn.frozen (av':=(.t [(.g [(cI xr1.bj),(bX xr1.kept)]),(.c (cI e1))])) (vt b.s0 x1.seen (by first|assumption|exact iU dr aa|exact ia dr dr|(simp [fb];done)) xr1 e1 hr1) ⟨⟨.inl ⟨_,rfl,rfl⟩,.inr ⟨_,_,_,_,_,rfl,rfl,rfl,ca⟩,trivial⟩,.inl ⟨_,rfl,rfl⟩,trivial⟩) IP rfl) rfl (gJ (n':=7) (kn:=[]) bn 6 rfl trivial (eb [0,1,6,7,8,9] [6,5,0,1,2,3,4] rfl rfl aJ (then_ok (af (aw 2 rfl ?_)))))))))
  have hr2:cp 0 e1=e1:=rfl
  refine ay 7 [0,6,5,1,2,3,4] (cz id id (ms:=(bY.set 19 (some (cI 0)))) (ms':=(bY.set 19 (some (cI e1)))) (fun x hx=>dV x hx 0 e1 e1 hr2) fr rfl) rfl (ad 1 rfl (ae (ax rfl (fun hc4=>?_) (fun hc4=>?_))))
  ·
   have hc4':=hc4;try simp only [aT,bx] at hc4'
   refine bg [0,1,6,7,8] [0,6,5,1,2,3,4] rfl (aF 5 rfl (bh 7 [77,74] [0] rfl (du (i:=0) rfl rfl rfl jh jj) (bf [0,6,5,1,2,3,4] rfl (ad 1 rfl (ae (al (aj ?_)))))))
   have hX:ei b 0 lost=((⟨b.time,b.down,b.ak,b.due,b.an,xr1,b.s1,b.n0,b.n1,(b.w0).drop 1,b.w1,b.aQ,b.aM,b.book⟩:Bk),e1):=by
     unfold ei;rw [if_pos rfl];unfold ma;rw [hx1];dsimp only;rw [if_neg (by simp [hc2])];rw [if_pos aa];simp only [hr1];exact sx
   cases hX.symm.trans hr;clear hX
   exact bb [0,1,2,3,4] 5 rfl
  have hc4':=hc4;try simp only [aT,bx] at hc4'
  refine aD (al (aj ?_))
  have hX:ei b 0 lost=((⟨b.time,b.down,b.ak,b.due,b.an,b.s0,b.s1,b.n0,b.n1,(b.w0).drop 1,b.w1,b.aQ,b.aM,b.book⟩:Bk),e1):=by
    unfold ei;rw [if_pos rfl];unfold ma;rw [hx1];dsimp only;rw [if_neg (by simp [hc2])];rw [if_pos aa];simp only [hr1];exact sx
  cases hX.symm.trans hr;clear hX
  exact bb [0,1,2,3,4] 5 rfl
 refine aD ?_
 have hpk2:=hpk aa
 refine ag 4 rfl (af (af ?_))
 rcases Bool.eq_false_or_eq_true (decide (¬x1.bD.number=(IntKind.i64.wrap (b.n0+1)))) with hb5|hb5
 ·
  have hb5':=of_decide_eq_true hb5
  refine bg [0,1,6,10] [6,0,1,2,3,4] rfl (aF 6 rfl (bh 7 [86,84] [0] rfl (du (i:=0) rfl rfl rfl kc eu) (bC (kn:=[(90,true)]) bn 12 rfl ⟨hb5,trivial⟩ (bf [6,0,1,2,3,4] rfl (ae (ax rfl (fun _=>?_) (fun hno=>by cases hno)))))))
  refine al (aj ?_)
  have hX:ei b 0 lost=((⟨b.time,b.down,b.ak,b.due,b.an,b.s0,b.s1,b.n0,b.n1,(b.w0).drop 1,b.w1,b.aQ,b.aM,b.book⟩:Bk),0):=by
    unfold ei;rw [if_pos rfl];unfold ma;rw [hx1];dsimp only;rw [if_neg (by simp [hc2])];rw [if_neg aa];rw [if_pos qd]
  cases hX.symm.trans hr;clear hX
  exact bb [0,1,2,3,4] 5 rfl
 have hb5':=of_decide_eq_false hb5
 refine bg [0,1,6,10] [6,0,1,2,3,4] rfl (aF 6 rfl (bh 7 [86,84] [0] rfl (du (i:=0) rfl rfl rfl kc eu) (bC (kn:=[(90,false)]) bn 8 rfl ⟨hb5,trivial⟩ (cG (n':=7) [95,93,91] [0] rfl rfl (.inl ⟨(aR.yes rfl rfl rfl),du (i:=0) rfl rfl rfl kc eu⟩) rfl (aF 3 rfl (bf [6,0,1,2,3,4] rfl (ae (aO rfl (fun hc7'=>?_) (fun hc7'=>?_)))))))))
 ·
  refine al (aj ?_)
  have hX:ei b 0 lost=((⟨b.time,b.down,b.ak,b.due,b.an,b.s0,b.s1,b.n0,b.n1,(b.w0).drop 1,b.w1,b.aQ,b.aM,b.book⟩:Bk),0):=by
    unfold ei;rw [if_pos rfl];unfold ma;rw [hx1];dsimp only;rw [if_neg (by simp [hc2])];rw [if_neg aa];rw [if_pos qd]
  cases hX.symm.trans hr;clear hX
  exact bb [0,1,2,3,4] 5 rfl
 refine aD (af (bg [0,1,6,10] [6,0,1,2,3,4] rfl (aF 4 rfl (bh 7 [103,101] [0] rfl (du (i:=0) rfl rfl rfl kc eu) (aF 1 rfl (bh 7 [105] [] rfl (bm rfl rfl rfl (bH aa)) (aF 2 rfl (bh 7 [108,101] [0] rfl (du (i:=0) rfl rfl rfl kc eu) (bf [6,0,1,2,3,4] rfl (ad 1 rfl (ae (af ?_))))))))))))
 obtain ⟨x2,hx2⟩:=bO (xs:=b.an) (i:=Int.toNat (x1.bD.ba)) aa
 refine bg [0,6,10] [6,0,1,2,3,4] rfl (aF 6 rfl (bh 7 [113,115] [3] rfl (cU (i:=Int.toNat (x1.bD.ba)) rfl rfl rfl hG ji) (bM 7 [116] [3] rfl (dk rfl rfl rfl tI rfl ji (aV hx2) rfl) rfl (bC (n':=8) (kn:=[]) bn 1 rfl trivial (bf [7,6,0,1,2,3,4] rfl (ad 1 rfl (ae ?_)))))))
 have hpA:=(okp x2 (List.mem_of_getElem? hx2)).2
 refine ag 2 rfl (aL (ag 2 rfl (aO rfl (fun hc8'=>?_) (fun hc8'=>?_))))
 ·
  refine af ?_
  obtain ⟨x3,hx3⟩:=bO (xs:=b.due) (i:=Int.toNat (x2.au)) aa
  refine bg [0,6,10,11] [7,6,0,1,2,3,4] rfl (aF 12 rfl (bh 8 [131,133] [2] rfl (cU (i:=Int.toNat (x2.au)) rfl rfl rfl ed eu) (bM 8 [134] [2] rfl (dY rfl rfl rfl eA rfl (aV hx3) rfl) rfl (aF 3 rfl (bh 8 [125,127] [2] rfl (cU (i:=Int.toNat (x2.au)) rfl rfl rfl ed eu) (bf [7,6,0,1,2,3,4] rfl (eP [7,6,0,1,2,3,4] (dK (ds:=[(dI (IntKind.i64.wrap (x3+x1.bD.sum)))]) rfl rfl rfl rfl rfl eu rfl (Nat.le_of_ble_eq_true rfl) (aV hx3) rfl (eE (x':=(IntKind.i64.wrap (x3+x1.bD.sum))) rfl)) rfl (ae (dW (k:=0) (q:=3) (c':=(.s 2 0 1 (((b.due).set (Int.toNat (x2.au)) (IntKind.i64.wrap (x3+x1.bD.sum))).length))) rfl rfl jN rfl (ah (ad 3 rfl (bl rfl rfl rfl rfl aa (ad 2 rfl ?_)))))))))))))
  obtain ⟨l23,e23,hr3⟩:∃ (l23:List Entry) (e23:Int),dp b.book 0 1 (50+x2.au) x1.bD.sum=(l23,e23):=⟨_,_,rfl⟩
  refine ay 8 [0,7,6,1,2,3,4] (cz id id (ms:=((bY.set 18 (some (cE b.book))).set 19 (some (cI 0)))) (ms':=((bY.set 18 (some (cE l23))).set 19 (some (cI e23)))) (fun x hx=>iE x hx b.book 0 1 (50+x2.au) x1.bD.sum l23 e23 hr3) nr rfl) rfl (bq (aN ?_))
  have hX:ei b 0 lost=((⟨b.time,b.down,b.ak,(b.due).set (Int.toNat (x2.au)) (IntKind.i64.wrap (x3+x1.bD.sum)),b.an,b.s0,b.s1,b.n0+1,b.n1,(b.w0).drop 1,b.w1,b.aQ,b.aM,l23⟩:Bk),e23):=by
    unfold ei;rw [if_pos rfl];unfold ma;rw [hx1];dsimp only;rw [if_neg (by simp [hc2])];rw [if_neg aa];rw [if_neg qd];unfold eD;rw [hx2];dsimp only;simp only [List.getD_eq_getElem?_getD,hx3,Option.getD_some];(try simp only [hr3]);exact sx
  cases hX.symm.trans hr;clear hX
  refine cJ bn [0,1,2,3,4] 5 rfl rfl rfl rfl rfl rfl ?_ ?_
  all_goals first|rfl|(simp [cq,cf,cL];done)|(simp [cq,cf,cL];omega)
 refine ag 2 rfl (aO rfl (fun hc9'=>?_) (fun hc9'=>?_))
 ·
  refine aw 5 rfl ?_
  obtain ⟨l24,e24,hr4⟩:∃ (l24:List bF) (e24:Int),cP b.ak 0 x2.aA 0 x1.bD.sum=(l24,e24):=⟨_,_,rfl⟩
  refine ay 9 [0,8,7,6,2,3,4] (cz id (bp [0,8]) (ms:=((bY.set 2 (some (.s 1 0 6 b.ak.length))).set 19 (some (cI 0)))) (ms':=((bY.set 2 (some (.s 1 0 6 l24.length))).set 19 (some (cI e24)))) (fun x hx=>ql x hx b.ak 0 x2.aA 0 x1.bD.sum aa l24 e24 hr4) zj rfl) rfl (ae (ah (ad 3 rfl (bl rfl rfl rfl rfl aa (ad 2 rfl ?_)))))
  obtain ⟨l25,e25,hr5⟩:∃ (l25:List Entry) (e25:Int),dp b.book e24 1 (10+x2.aA) x1.bD.sum=(l25,e25):=⟨_,_,rfl⟩
  refine ay 9 [0,8,7,6,2,3,4] (cz id id (ms:=((bY.set 18 (some (cE b.book))).set 19 (some (cI e24)))) (ms':=((bY.set 18 (some (cE l25))).set 19 (some (cI e25)))) (fun x hx=>iE x hx b.book e24 1 (10+x2.aA) x1.bD.sum l25 e25 hr5) nr rfl) rfl (bq (aN ?_))
  have hX:ei b 0 lost=((⟨b.time,b.down,l24,b.due,b.an,b.s0,b.s1,b.n0+1,b.n1,(b.w0).drop 1,b.w1,b.aQ,b.aM,l25⟩:Bk),e25):=by
    unfold ei;rw [if_pos rfl];unfold ma;rw [hx1];dsimp only;rw [if_neg (by simp [hc2])];rw [if_neg aa];rw [if_neg qd];unfold eD;rw [hx2];dsimp only;(try simp only [hr4,hr5]);exact sx
  cases hX.symm.trans hr;clear hX
  refine cJ bn [0,8,2,3,4] 5 rfl rfl rfl rfl rfl rfl ?_ ?_
  all_goals first|rfl|(simp [cq,cf,cL];done)|(simp [cq,cf,cL];omega)
 refine ag 2 rfl (aO rfl (fun hc10'=>?_) (fun hc10'=>?_))
 ·
  refine af ?_
  obtain ⟨x3,hx3⟩:=bO (xs:=b.due) (i:=Int.toNat (x2.au)) aa
  refine bg [0,6,10,11] [7,6,0,1,2,3,4] rfl (aF 12 rfl (bh 8 [173,175] [2] rfl (cU (i:=Int.toNat (x2.au)) rfl rfl rfl ed eu) (bM 8 [176] [2] rfl (dY rfl rfl rfl eA rfl (aV hx3) rfl) rfl (aF 3 rfl (bh 8 [167,169] [2] rfl (cU (i:=Int.toNat (x2.au)) rfl rfl rfl ed eu) (bf [7,6,0,1,2,3,4] rfl (eP [7,6,0,1,2,3,4] (dK (ds:=[(dI (IntKind.i64.wrap (x3 - x1.bD.sum)))]) rfl rfl rfl rfl rfl eu rfl (Nat.le_of_ble_eq_true rfl) (aV hx3) rfl (eE (x':=(IntKind.i64.wrap (x3 - x1.bD.sum))) rfl)) rfl (ae (dW (k:=0) (q:=3) (c':=(.s 2 0 1 (((b.due).set (Int.toNat (x2.au)) (IntKind.i64.wrap (x3 - x1.bD.sum))).length))) rfl rfl jN rfl (ah (ad 3 rfl (bl rfl rfl rfl rfl aa (ad 2 rfl ?_)))))))))))))
  obtain ⟨l26,e26,hr6⟩:∃ (l26:List Entry) (e26:Int),dp b.book 0 (50+x2.au) 2 x1.bD.sum=(l26,e26):=⟨_,_,rfl⟩
  refine ay 8 [0,7,6,1,2,3,4] (cz id id (ms:=((bY.set 18 (some (cE b.book))).set 19 (some (cI 0)))) (ms':=((bY.set 18 (some (cE l26))).set 19 (some (cI e26)))) (fun x hx=>iE x hx b.book 0 (50+x2.au) 2 x1.bD.sum l26 e26 hr6) nr rfl) rfl (bq (aN ?_))
  have hX:ei b 0 lost=((⟨b.time,b.down,b.ak,(b.due).set (Int.toNat (x2.au)) (IntKind.i64.wrap (x3 - x1.bD.sum)),b.an,b.s0,b.s1,b.n0+1,b.n1,(b.w0).drop 1,b.w1,b.aQ,b.aM,l26⟩:Bk),e26):=by
    unfold ei;rw [if_pos rfl];unfold ma;rw [hx1];dsimp only;rw [if_neg (by simp [hc2])];rw [if_neg aa];rw [if_neg qd];unfold eD;rw [hx2];dsimp only;simp only [List.getD_eq_getElem?_getD,hx3,Option.getD_some];(try simp only [hr6]);exact sx
  cases hX.symm.trans hr;clear hX
  refine cJ bn [0,1,2,3,4] 5 rfl rfl rfl rfl rfl rfl ?_ ?_
  all_goals first|rfl|(simp [cq,cf,cL];done)|(simp [cq,cf,cL];omega)
 refine cv (aN ?_)
 have hX:ei b 0 lost=((⟨b.time,b.down,b.ak,b.due,b.an,b.s0,b.s1,b.n0+1,b.n1,(b.w0).drop 1,b.w1,b.aQ,b.aM,b.book⟩:Bk),0):=by
   unfold ei;rw [if_pos rfl];unfold ma;rw [hx1];dsimp only;rw [if_neg (by simp [hc2])];rw [if_neg aa];rw [if_neg qd];unfold eD;rw [hx2];dsimp only;(try simp only []);exact sx
 cases hX.symm.trans hr;clear hX
 refine cJ bn [0,1,2,3,4] 5 rfl rfl rfl rfl rfl rfl ?_ ?_
 all_goals first|rfl|(simp [cq,cf,cL];done)|(simp [cq,cf,cL];omega)
theorem Ht (x:Nat->Value) (hx:∀ i,(x i).oneCell'=true) (b:Bk) (lost:Bool) (ok:cH b) (b2:Bk) (e2:Int) (hr:ei b 1 lost=(b2,e2)):cS Tryz.prog 27 [(.c (.p 0 0 0 0)),(.c (cI 1)),(.c (cB lost))] [(0,(.box 73 (cf b 1 2 3 4 (.d (.v (x 17))) (cI 0)))),(1,(dS b.ak)),(2,(dR b.due)),(3,(ec b.an)),(4,(cX b.aM))] [0] (.t []) [(0,(.box 73 (cf b2 1 2 3 4 (.d (.v (x 17))) (cI e2)))),(1,(dS b2.ak)),(2,(dR b2.due)),(3,(ec b2.an)),(4,(cX b2.aM))]:=by
 refine cS.mk 189 [(0,(aC (.p 0 0 0 0))),(1,(aI 1)),(2,(aB lost))] 5 Tryz.func27 rfl rfl rfl rfl rfl rfl rfl rfl rfl ?_
 intro W0 F0 T0 pg
 obtain ⟨okt,okc,okd,oka,oky,okw0,okw1,okp,okv,okk0,okk1,okg,okl0,okl1,okp0,okp1,okn0,okn1,okq⟩:=id ok
 refine ag 4 rfl (af (aw 1 rfl (az (bm rfl rfl rfl (show _=some (Value.bool false) from rfl)) rfl (ad 2 rfl (dg (aR.yes rfl rfl rfl) (bm rfl rfl rfl (show _=some (Value.bool false) from rfl)) rfl rfl (ad 6 rfl (dg (aR.yes rfl rfl rfl) (du (i:=1) rfl rfl rfl fJ fK) rfl rfl (ad 1 rfl (dg (aR.yes rfl rfl rfl) (cD rfl rfl ir) rfl rfl (ad 2 rfl (ae (aO rfl (fun hc1'=>?_) (fun hc1'=>?_)))))))))))))
 ·
  refine aw 1 rfl ?_
  have hr0:cp 0 6=6:=rfl
  refine ay 5 [0,1,2,3,4] (cz id id (ms:=(bY.set 19 (some (cI 0)))) (ms':=(bY.set 19 (some (cI 6)))) (fun x hx=>dV x hx 0 6 6 hr0) fr rfl) rfl (ae (al (aj ?_)))
  have hX:ei b 1 lost=(b,6):=by
    unfold ei;rw [if_neg cm,if_pos rfl];unfold lZ;rw [List.getElem?_eq_none aa]
  cases hX.symm.trans hr;clear hX
  exact bb [0,1,2,3,4] 5 rfl
 refine aD (aw 4 rfl (az (du (i:=1) rfl rfl rfl fJ fK) rfl (ad 1 rfl ?_)))
 obtain ⟨x1,hx1⟩:=bO (xs:=b.w1) (i:=0) aa
 refine az (dO (i:=0) rfl rfl rfl ir nV (aV hx1)) rfl (ad 3 rfl (ae (af (bg [0,1,2,6,7] [5,0,1,2,3,4] rfl (aF 6 rfl (bh 6 [46,44] [0] rfl (du (i:=1) rfl rfl rfl fJ fK) (aF 1 rfl (bh 6 [48] [] rfl (qU (l:=1) (h:=b.w1.length) (ys:=((b.w1).drop 1).map eG) rfl ir nV rfl (.inr ⟨_,rfl,rfl⟩) (.inl ⟨rfl,ca⟩) aa bT (by first|(simp;done)|(rw [List.map_drop];exact List.take_of_length_le ca))) (aF 2 rfl (bh 6 [51,42] [0] rfl (du (i:=1) rfl rfl rfl fJ fK) (bf [5,0,1,2,3,4] rfl (ad 1 rfl (ae (af (ag 1 rfl (ax rfl (fun hc2=>?_) (fun hc2=>?_)))))))))))))))))
 ·
  have hc2':=hc2;try simp only [aT,bx] at hc2'
  refine al (aj ?_)
  have hX:ei b 1 lost=((⟨b.time,b.down,b.ak,b.due,b.an,b.s0,b.s1,b.n0,b.n1,b.w0,(b.w1).drop 1,b.aQ,b.aM,b.book⟩:Bk),0):=by
    unfold ei;rw [if_neg cm,if_pos rfl];unfold lZ;rw [hx1];dsimp only;rw [if_pos hc2]
  cases hX.symm.trans hr;clear hX
  exact bb [0,1,2,3,4] 5 rfl
 have hc2':=hc2;try simp only [aT,bx] at hc2'
 refine aD (af ?_)
 have hpk:=okp1 x1 (List.mem_of_getElem? hx1)
 have hI0:∀ t∈b.s0.kept,fb t.number:=fun t ht=>(okk0 t ht).1
 have hI1:∀ t∈b.s1.kept,fb t.number:=fun t ht=>(okk1 t ht).1
 refine ag 3 rfl (aO rfl (fun hc3'=>?_) (fun hc3'=>?_))
 ·
  refine af ?_
  obtain ⟨xr1,e1,hr1⟩:∃ (xr1:bK) (e1:Int),en b.s1 x1.seen=(xr1,e1):=⟨_,_,rfl⟩
  refine eJ [0,1,6,7] [5,0,1,2,3,4] rfl (cV 4 rfl (dZ 6 [61,59] [0] rfl (du (i:=1) rfl rfl rfl jh jj) (cV 3 rfl (de 6 [63,65] [] rfl (cA 6 (Fn.frozen (av':=(.t [(.g [(cI xr1.bj),(bX xr1.kept)]),(.c (cI e1))])) (vt b.s1 x1.seen (by first|assumption|exact iU dr aa|exact ia dr dr|(simp [fb];done)) xr1 e1 hr1) ⟨⟨.inl ⟨_,rfl,rfl⟩,.inr ⟨_,_,_,_,_,rfl,rfl,rfl,ca⟩,trivial⟩,.inl ⟨_,rfl,rfl⟩,trivial⟩) IP rfl) rfl (gJ (n':=7) (kn:=[]) bn 6 rfl trivial (eb [0,1,6,7,8,9] [6,5,0,1,2,3,4] rfl rfl aJ (then_ok (af (aw 2 rfl ?_)))))))))
  have hr2:cp 0 e1=e1:=rfl
  refine ay 7 [0,6,5,1,2,3,4] (cz id id (ms:=(bY.set 19 (some (cI 0)))) (ms':=(bY.set 19 (some (cI e1)))) (fun x hx=>dV x hx 0 e1 e1 hr2) fr rfl) rfl (ad 1 rfl (ae (ax rfl (fun hc4=>?_) (fun hc4=>?_))))
  ·
   have hc4':=hc4;try simp only [aT,bx] at hc4'
   refine bg [0,1,6,7,8] [0,6,5,1,2,3,4] rfl (aF 5 rfl (bh 7 [77,74] [0] rfl (du (i:=1) rfl rfl rfl jh jj) (bf [0,6,5,1,2,3,4] rfl (ad 1 rfl (ae (al (aj ?_)))))))
   have hX:ei b 1 lost=((⟨b.time,b.down,b.ak,b.due,b.an,b.s0,xr1,b.n0,b.n1,b.w0,(b.w1).drop 1,b.aQ,b.aM,b.book⟩:Bk),e1):=by
     unfold ei;rw [if_neg cm,if_pos rfl];unfold lZ;rw [hx1];dsimp only;rw [if_neg (by simp [hc2])];rw [if_pos aa];simp only [hr1];exact sx
   cases hX.symm.trans hr;clear hX
   exact bb [0,1,2,3,4] 5 rfl
  have hc4':=hc4;try simp only [aT,bx] at hc4'
  refine aD (al (aj ?_))
  have hX:ei b 1 lost=((⟨b.time,b.down,b.ak,b.due,b.an,b.s0,b.s1,b.n0,b.n1,b.w0,(b.w1).drop 1,b.aQ,b.aM,b.book⟩:Bk),e1):=by
    unfold ei;rw [if_neg cm,if_pos rfl];unfold lZ;rw [hx1];dsimp only;rw [if_neg (by simp [hc2])];rw [if_pos aa];simp only [hr1];exact sx
  cases hX.symm.trans hr;clear hX
  exact bb [0,1,2,3,4] 5 rfl
 refine aD ?_
 have hpk2:=hpk aa
 refine ag 4 rfl (af (af ?_))
 rcases Bool.eq_false_or_eq_true (decide (¬x1.bD.number=(IntKind.i64.wrap (b.n1+1)))) with hb5|hb5
 ·
  have hb5':=of_decide_eq_true hb5
  refine bg [0,1,6,10] [6,0,1,2,3,4] rfl (aF 6 rfl (bh 7 [86,84] [0] rfl (du (i:=1) rfl rfl rfl kc eu) (bC (kn:=[(90,true)]) bn 12 rfl ⟨hb5,trivial⟩ (bf [6,0,1,2,3,4] rfl (ae (ax rfl (fun _=>?_) (fun hno=>by cases hno)))))))
  refine al (aj ?_)
  have hX:ei b 1 lost=((⟨b.time,b.down,b.ak,b.due,b.an,b.s0,b.s1,b.n0,b.n1,b.w0,(b.w1).drop 1,b.aQ,b.aM,b.book⟩:Bk),0):=by
    unfold ei;rw [if_neg cm,if_pos rfl];unfold lZ;rw [hx1];dsimp only;rw [if_neg (by simp [hc2])];rw [if_neg aa];rw [if_pos qd]
  cases hX.symm.trans hr;clear hX
  exact bb [0,1,2,3,4] 5 rfl
 have hb5':=of_decide_eq_false hb5
 refine bg [0,1,6,10] [6,0,1,2,3,4] rfl (aF 6 rfl (bh 7 [86,84] [0] rfl (du (i:=1) rfl rfl rfl kc eu) (bC (kn:=[(90,false)]) bn 8 rfl ⟨hb5,trivial⟩ (cG (n':=7) [95,93,91] [0] rfl rfl (.inl ⟨(aR.yes rfl rfl rfl),du (i:=1) rfl rfl rfl kc eu⟩) rfl (aF 3 rfl (bf [6,0,1,2,3,4] rfl (ae (aO rfl (fun hc7'=>?_) (fun hc7'=>?_)))))))))
 ·
  refine al (aj ?_)
  have hX:ei b 1 lost=((⟨b.time,b.down,b.ak,b.due,b.an,b.s0,b.s1,b.n0,b.n1,b.w0,(b.w1).drop 1,b.aQ,b.aM,b.book⟩:Bk),0):=by
    unfold ei;rw [if_neg cm,if_pos rfl];unfold lZ;rw [hx1];dsimp only;rw [if_neg (by simp [hc2])];rw [if_neg aa];rw [if_pos qd]
  cases hX.symm.trans hr;clear hX
  exact bb [0,1,2,3,4] 5 rfl
 refine aD (af (bg [0,1,6,10] [6,0,1,2,3,4] rfl (aF 4 rfl (bh 7 [103,101] [0] rfl (du (i:=1) rfl rfl rfl kc eu) (aF 1 rfl (bh 7 [105] [] rfl (bm rfl rfl rfl (bH aa)) (aF 2 rfl (bh 7 [108,101] [0] rfl (du (i:=1) rfl rfl rfl kc eu) (bf [6,0,1,2,3,4] rfl (ad 1 rfl (ae (af ?_))))))))))))
 obtain ⟨x2,hx2⟩:=bO (xs:=b.an) (i:=Int.toNat (x1.bD.ba)) aa
 refine bg [0,6,10] [6,0,1,2,3,4] rfl (aF 6 rfl (bh 7 [113,115] [3] rfl (cU (i:=Int.toNat (x1.bD.ba)) rfl rfl rfl hG ji) (bM 7 [116] [3] rfl (dk rfl rfl rfl tI rfl ji (aV hx2) rfl) rfl (bC (n':=8) (kn:=[]) bn 1 rfl trivial (bf [7,6,0,1,2,3,4] rfl (ad 1 rfl (ae ?_)))))))
 have hpA:=(okp x2 (List.mem_of_getElem? hx2)).2
 refine ag 2 rfl (aL (ag 2 rfl (aO rfl (fun hc8'=>?_) (fun hc8'=>?_))))
 ·
  refine af ?_
  obtain ⟨x3,hx3⟩:=bO (xs:=b.due) (i:=Int.toNat (x2.au)) aa
  refine bg [0,6,10,11] [7,6,0,1,2,3,4] rfl (aF 12 rfl (bh 8 [131,133] [2] rfl (cU (i:=Int.toNat (x2.au)) rfl rfl rfl ed eu) (bM 8 [134] [2] rfl (dY rfl rfl rfl eA rfl (aV hx3) rfl) rfl (aF 3 rfl (bh 8 [125,127] [2] rfl (cU (i:=Int.toNat (x2.au)) rfl rfl rfl ed eu) (bf [7,6,0,1,2,3,4] rfl (eP [7,6,0,1,2,3,4] (dK (ds:=[(dI (IntKind.i64.wrap (x3+x1.bD.sum)))]) rfl rfl rfl rfl rfl eu rfl (Nat.le_of_ble_eq_true rfl) (aV hx3) rfl (eE (x':=(IntKind.i64.wrap (x3+x1.bD.sum))) rfl)) rfl (ae (dW (k:=0) (q:=3) (c':=(.s 2 0 1 (((b.due).set (Int.toNat (x2.au)) (IntKind.i64.wrap (x3+x1.bD.sum))).length))) rfl rfl jN rfl (ah (ad 3 rfl (bl rfl rfl rfl rfl aa (ad 2 rfl ?_)))))))))))))
  obtain ⟨l23,e23,hr3⟩:∃ (l23:List Entry) (e23:Int),dp b.book 0 1 (50+x2.au) x1.bD.sum=(l23,e23):=⟨_,_,rfl⟩
  refine ay 8 [0,7,6,1,2,3,4] (cz id id (ms:=((bY.set 18 (some (cE b.book))).set 19 (some (cI 0)))) (ms':=((bY.set 18 (some (cE l23))).set 19 (some (cI e23)))) (fun x hx=>iE x hx b.book 0 1 (50+x2.au) x1.bD.sum l23 e23 hr3) nr rfl) rfl (bq (aN ?_))
  have hX:ei b 1 lost=((⟨b.time,b.down,b.ak,(b.due).set (Int.toNat (x2.au)) (IntKind.i64.wrap (x3+x1.bD.sum)),b.an,b.s0,b.s1,b.n0,b.n1+1,b.w0,(b.w1).drop 1,b.aQ,b.aM,l23⟩:Bk),e23):=by
    unfold ei;rw [if_neg cm,if_pos rfl];unfold lZ;rw [hx1];dsimp only;rw [if_neg (by simp [hc2])];rw [if_neg aa];rw [if_neg qd];unfold eD;rw [hx2];dsimp only;simp only [List.getD_eq_getElem?_getD,hx3,Option.getD_some];(try simp only [hr3]);exact sx
  cases hX.symm.trans hr;clear hX
  refine cJ bn [0,1,2,3,4] 5 rfl rfl rfl rfl rfl rfl ?_ ?_
  all_goals first|rfl|(simp [cq,cf,cL];done)|(simp [cq,cf,cL];omega)
 refine ag 2 rfl (aO rfl (fun hc9'=>?_) (fun hc9'=>?_))
 ·
  refine aw 5 rfl ?_
  obtain ⟨l24,e24,hr4⟩:∃ (l24:List bF) (e24:Int),cP b.ak 0 x2.aA 0 x1.bD.sum=(l24,e24):=⟨_,_,rfl⟩
  refine ay 9 [0,8,7,6,2,3,4] (cz id (bp [0,8]) (ms:=((bY.set 2 (some (.s 1 0 6 b.ak.length))).set 19 (some (cI 0)))) (ms':=((bY.set 2 (some (.s 1 0 6 l24.length))).set 19 (some (cI e24)))) (fun x hx=>ql x hx b.ak 0 x2.aA 0 x1.bD.sum aa l24 e24 hr4) zj rfl) rfl (ae (ah (ad 3 rfl (bl rfl rfl rfl rfl aa (ad 2 rfl ?_)))))
  obtain ⟨l25,e25,hr5⟩:∃ (l25:List Entry) (e25:Int),dp b.book e24 1 (10+x2.aA) x1.bD.sum=(l25,e25):=⟨_,_,rfl⟩
  refine ay 9 [0,8,7,6,2,3,4] (cz id id (ms:=((bY.set 18 (some (cE b.book))).set 19 (some (cI e24)))) (ms':=((bY.set 18 (some (cE l25))).set 19 (some (cI e25)))) (fun x hx=>iE x hx b.book e24 1 (10+x2.aA) x1.bD.sum l25 e25 hr5) nr rfl) rfl (bq (aN ?_))
  have hX:ei b 1 lost=((⟨b.time,b.down,l24,b.due,b.an,b.s0,b.s1,b.n0,b.n1+1,b.w0,(b.w1).drop 1,b.aQ,b.aM,l25⟩:Bk),e25):=by
    unfold ei;rw [if_neg cm,if_pos rfl];unfold lZ;rw [hx1];dsimp only;rw [if_neg (by simp [hc2])];rw [if_neg aa];rw [if_neg qd];unfold eD;rw [hx2];dsimp only;(try simp only [hr4,hr5]);exact sx
  cases hX.symm.trans hr;clear hX
  refine cJ bn [0,8,2,3,4] 5 rfl rfl rfl rfl rfl rfl ?_ ?_
  all_goals first|rfl|(simp [cq,cf,cL];done)|(simp [cq,cf,cL];omega)
 refine ag 2 rfl (aO rfl (fun hc10'=>?_) (fun hc10'=>?_))
 ·
  refine af ?_
  obtain ⟨x3,hx3⟩:=bO (xs:=b.due) (i:=Int.toNat (x2.au)) aa
  refine bg [0,6,10,11] [7,6,0,1,2,3,4] rfl (aF 12 rfl (bh 8 [173,175] [2] rfl (cU (i:=Int.toNat (x2.au)) rfl rfl rfl ed eu) (bM 8 [176] [2] rfl (dY rfl rfl rfl eA rfl (aV hx3) rfl) rfl (aF 3 rfl (bh 8 [167,169] [2] rfl (cU (i:=Int.toNat (x2.au)) rfl rfl rfl ed eu) (bf [7,6,0,1,2,3,4] rfl (eP [7,6,0,1,2,3,4] (dK (ds:=[(dI (IntKind.i64.wrap (x3 - x1.bD.sum)))]) rfl rfl rfl rfl rfl eu rfl (Nat.le_of_ble_eq_true rfl) (aV hx3) rfl (eE (x':=(IntKind.i64.wrap (x3 - x1.bD.sum))) rfl)) rfl (ae (dW (k:=0) (q:=3) (c':=(.s 2 0 1 (((b.due).set (Int.toNat (x2.au)) (IntKind.i64.wrap (x3 - x1.bD.sum))).length))) rfl rfl jN rfl (ah (ad 3 rfl (bl rfl rfl rfl rfl aa (ad 2 rfl ?_)))))))))))))
  obtain ⟨l26,e26,hr6⟩:∃ (l26:List Entry) (e26:Int),dp b.book 0 (50+x2.au) 2 x1.bD.sum=(l26,e26):=⟨_,_,rfl⟩
  refine ay 8 [0,7,6,1,2,3,4] (cz id id (ms:=((bY.set 18 (some (cE b.book))).set 19 (some (cI 0)))) (ms':=((bY.set 18 (some (cE l26))).set 19 (some (cI e26)))) (fun x hx=>iE x hx b.book 0 (50+x2.au) 2 x1.bD.sum l26 e26 hr6) nr rfl) rfl (bq (aN ?_))
  have hX:ei b 1 lost=((⟨b.time,b.down,b.ak,(b.due).set (Int.toNat (x2.au)) (IntKind.i64.wrap (x3 - x1.bD.sum)),b.an,b.s0,b.s1,b.n0,b.n1+1,b.w0,(b.w1).drop 1,b.aQ,b.aM,l26⟩:Bk),e26):=by
    unfold ei;rw [if_neg cm,if_pos rfl];unfold lZ;rw [hx1];dsimp only;rw [if_neg (by simp [hc2])];rw [if_neg aa];rw [if_neg qd];unfold eD;rw [hx2];dsimp only;simp only [List.getD_eq_getElem?_getD,hx3,Option.getD_some];(try simp only [hr6]);exact sx
  cases hX.symm.trans hr;clear hX
  refine cJ bn [0,1,2,3,4] 5 rfl rfl rfl rfl rfl rfl ?_ ?_
  all_goals first|rfl|(simp [cq,cf,cL];done)|(simp [cq,cf,cL];omega)
 refine cv (aN ?_)
 have hX:ei b 1 lost=((⟨b.time,b.down,b.ak,b.due,b.an,b.s0,b.s1,b.n0,b.n1+1,b.w0,(b.w1).drop 1,b.aQ,b.aM,b.book⟩:Bk),0):=by
   unfold ei;rw [if_neg cm,if_pos rfl];unfold lZ;rw [hx1];dsimp only;rw [if_neg (by simp [hc2])];rw [if_neg aa];rw [if_neg qd];unfold eD;rw [hx2];dsimp only;(try simp only []);exact sx
 cases hX.symm.trans hr;clear hX
 refine cJ bn [0,1,2,3,4] 5 rfl rfl rfl rfl rfl rfl ?_ ?_
 all_goals first|rfl|(simp [cq,cf,cL];done)|(simp [cq,cf,cL];omega)
theorem Hs (x:Nat->Value) (hx:∀ i,(x i).oneCell'=true) (b:Bk) (k:Int) (lost:Bool) (ok:cH b) (hn:¬k=0/\¬k=1) (b2:Bk) (e2:Int) (hr:ei b k lost=(b2,e2)):cS Tryz.prog 27 [(.c (.p 0 0 0 0)),(.c (cI k)),(.c (cB lost))] [(0,(.box 73 (cf b 1 2 3 4 (.d (.v (x 17))) (cI 0)))),(1,(dS b.ak)),(2,(dR b.due)),(3,(ec b.an)),(4,(cX b.aM))] [0] (.t []) [(0,(.box 73 (cf b2 1 2 3 4 (.d (.v (x 17))) (cI e2)))),(1,(dS b2.ak)),(2,(dR b2.due)),(3,(ec b2.an)),(4,(cX b2.aM))]:=by
 refine cS.mk 189 [(0,(aC (.p 0 0 0 0))),(1,(aI k)),(2,(aB lost))] 5 Tryz.func27 rfl rfl rfl rfl rfl rfl rfl rfl rfl ?_
 intro W0 F0 T0 pg
 obtain ⟨okt,okc,okd,oka,oky,okw0,okw1,okp,okv,okk0,okk1,okg,okl0,okl1,okp0,okp1,okn0,okn1,okq⟩:=id ok
 refine ag 4 rfl (af (aw 3 rfl (bz 17 rfl (fun hb1'=>?_) (fun hb1'=>?_))))
 ·
  refine ad 13 rfl (ae (ax rfl (fun _=>?_) (fun hno=>by cases hno)))
  refine aw 1 rfl ?_
  have hr0:cp 0 6=6:=rfl
  refine ay 5 [0,1,2,3,4] (cz id id (ms:=(bY.set 19 (some (cI 0)))) (ms':=(bY.set 19 (some (cI 6)))) (fun x hx=>dV x hx 0 6 6 hr0) fr rfl) rfl (ae (al (aj ?_)))
  have hX:ei b k lost=(b,6):=by
    unfold ei;rw [if_neg hn.1,if_neg hn.2]
  cases hX.symm.trans hr;clear hX
  exact bb [0,1,2,3,4] 5 rfl
 refine ad 4 rfl (bz 21 rfl (fun hb3'=>?_) (fun hb3'=>?_))
 ·
  refine ad 9 rfl (ae (ax rfl (fun _=>?_) (fun hno=>by cases hno)))
  refine aw 1 rfl ?_
  have hr1:cp 0 6=6:=rfl
  refine ay 5 [0,1,2,3,4] (cz id id (ms:=(bY.set 19 (some (cI 0)))) (ms':=(bY.set 19 (some (cI 6)))) (fun x hx=>dV x hx 0 6 6 hr1) fr rfl) rfl (ae (al (aj ?_)))
  have hX:ei b k lost=(b,6):=by
    unfold ei;rw [if_neg hn.1,if_neg hn.2]
  cases hX.symm.trans hr;clear hX
  exact bb [0,1,2,3,4] 5 rfl
 (exfalso;omega)
section
def Gd (st:aK) (E:List Nat) (b0 b:AB):Prop:=b0=b\/∃ t cs ds,b0=.box t cs/\b=.box t ds/\cQ (fun c d=>c=d\/lK st E c d) cs ds
theorem Core.oM {σ:Nat->Option cg} {T:Nat->Prop} {st st':aK} {a:Go.Act} {w:World} (C:Core σ T st a w) (E:List Nat) (hn:∀ i v,look st'.s i=some v->look st.s i=some v/\v.ok (bo st'.h)=true)
  (hh:∀ j b,look st'.h j=some b->j ∉ E/\b.ok (bo st'.h)=true/\∃ b0,look st.h j=some b0/\Gd st E b0 b) (hE:∀ k∈E,∃ b,look st.h k=some b):Core (fun j=>if bo st'.h j=true then σ j else none) (gr σ T E) st' a w:=by
 have hlow:∀ b,gr σ T E b->T b:=fun b h=>h.1
 have hσ:∀ j,bo st'.h j=true->(fun j=>if bo st'.h j=true then σ j else none) j=σ (id j):=fun j hj=>if_pos hj
 have hz:∀ c:CV,c.map id=c:=fun c=>by cases c<;>simp [CV.map]
 have hzs:∀ cs:List CV,cs.map (CV.map id)=cs:=fun cs=>(List.map_congr_left fun c _=>hz c).trans (List.map_id _)
 have idA:∀ v:AV,v.map id=v:=fun v=>by
  have hg:∀ g:GV,g.map id=g:=fun g=>by
   cases g with
   |c x=>simp [GV.map,hz]
   |g xs=>simp only [GV.map,hzs]
  cases v with
  |v x=>simp [AV.map,hg]
  |t xs=>simp only [AV.map];congr 1;exact (List.map_congr_left fun c _=>hg c).trans (List.map_id _)
 have idB:∀ b:AB,b.map' id=b:=fun b=>by
  cases b with
  |box t cs=>simp only [AB.map',hzs]
  |arr=>rfl
  |map=>rfl
 have inT':∀ j b g,look st'.h j=some b->σ j=some g->T g.g->gr σ T E g.g:=fun j b g hj hg hT=>⟨hT,fun e he g' hg' hgg=>by
  obtain ⟨h1,_,b0,h2,_⟩:=hh j b hj
  obtain ⟨be,hbe⟩:=hE e he
  exact h1 (C.inj e j be b0 g' g hbe h2 hg' hg hgg▸he)⟩
 refine ⟨fun i v hi=>?_,fun j b hj=>?_,fun j j' b b' g g' hj hj' hg hg' hgg=>?_,fun b h=>C.ft b h.1⟩
 ·obtain ⟨hy,hok⟩:=hn i v hi
  have hr:fH σ T w (v.map id) (a.tmps.getD i undef):=by rw [idA];exact C.gD i v hy
  have h2:=fH.jH hσ hr hok
  cases v with
  |v x=>exact ef.gC (x:=x) hlow h2
  |t xs=>obtain ⟨vs,q1,q2⟩:=h2;exact ⟨vs,q1,q2.mono fun _ _ h=>h.gC hlow⟩
 ·obtain ⟨h1,h3,b0,h2,hf⟩:=hh j b hj
  have hkin:bo st'.h j=true:=by simp [bo,hj]
  show dX _ _ _ (if bo st'.h j=true then σ j else none) b
  rw [if_pos hkin]
  rcases hf with rfl|⟨t,cs,ds,rfl,rfl,hall⟩
  ·have h4:dX σ T w (σ j) (b0.map' id):=by rw [idB];exact C.heap j b0 h2
   exact dX.gC hlow (fun g hg hT=>inT' j b0 g hj hg hT) (dX.jH hσ h4 h3)
  ·obtain ⟨g,vs,q1,q2,q3,q4⟩:=C.heap j _ h2
   have hok:∀ d∈ds,d.ok (bo st'.h)=true:=List.all_eq_true.1 h3
   refine ⟨g,vs,q1,inT' j _ g hj q1 q2,q3,?_⟩
   clear q3 h3 h2 hj
   induction cs generalizing ds vs with
   |nil=>cases ds<;>cases vs<;>first|trivial|exact hall.elim|exact q4.elim
   |cons c cs ih=>
    match ds,vs,hall,q4 with
    |d::ds,v::vs,hall,q4=>
     refine ⟨?_,ih ds hall.2 vs q4.2 fun x hx=>hok x (List.mem_cons_of_mem _ hx)⟩
     rcases hall.1 with rfl|harg
     ·exact dC.gC hlow (dC.jH (ρ:=id) hσ (by rw [hz];exact q4.1) (hok c List.mem_cons_self))
     ·exact dC.up (lK.rel C harg q4.1)
 ·obtain ⟨_,_,b1,h1,_⟩:=hh j b hj
  obtain ⟨_,_,b2,h1',_⟩:=hh j' b' hj'
  have e1:bo st'.h j=true:=by simp [bo,hj]
  have e2:bo st'.h j'=true:=by simp [bo,hj']
  have hg:(if bo st'.h j=true then σ j else none)=some g:=hg
  have hg':(if bo st'.h j'=true then σ j' else none)=some g':=hg'
  rw [if_pos e1] at hg
  rw [if_pos e2] at hg'
  exact C.inj j j' b1 b2 g g' h1 h1' hg hg' hgg
section
variable {P:Program} {W0:World} {N:NT} {T0:Nat->Prop} {Q:Exit->aK->Prop} {s s':List (Nat×AV)} {h h':List (Nat×AB)} {n:Nat}
theorem oG {c:Code} (E:List Nat) (hk:E.all (bo h)=true) (hs:dG (fun x=>look s x.1=some x.2) s') (hso:s'.all (fun x=>x.2.ok (bo h'))=true) (hh:dG (fun x=>∃ b0,look h x.1=some b0/\Gd ⟨s,h,n⟩ E b0 x.2) h') (hok:h'.all (fun x=>!E.any (Nat.beq x.1) && x.2.ok (bo h'))=true)
  (hn:AC P W0 (fun _=>False) N T0 [] Q c ⟨s',h',n⟩):AC P W0 (fun _=>False) N T0 [] Q c ⟨s,h,n⟩:=fun a w hI=>hn a w (by
 obtain ⟨σ,T,hT,S,hp⟩:=hI
 have hE:∀ k∈E,∃ b,look h k=some b:=fun k hk'=>lq (List.all_eq_true.1 hk k hk')
 have hh':∀ j b,look h' j=some b->j ∉ E/\b.ok (bo h')=true/\∃ b0,look h j=some b0/\Gd ⟨s,h,n⟩ E b0 b:=fun j b hj=>by
  have h1:=List.all_eq_true.1 hok _ (bP hj)
  simp only [Bool.and_eq_true,Bool.not_eq_true',List.any_eq_false] at h1
  exact ⟨fun e=>h1.1 j e (Nat.beq_refl j),h1.2,hh.mem _ (bP hj)⟩
 have C:=S.core.oM (st':=⟨s',h',n⟩) E (fun i v hi=>⟨hs.mem _ (bP hi),List.all_eq_true.1 hso _ (bP hi)⟩) hh' hE
 refine ⟨_,_,fun b hb=>⟨fun hb'=>(hT b hb).1 hb'.1,fun h0=>⟨(hT b hb).2 h0,fun e he g hg hgb=>by
  obtain ⟨b0,hb0⟩:=hE e he
  rcases S.own e b0 g hb0 hg with h1|h1
  ·omega
  ·exact h1⟩⟩,⟨C,S.os,S.tape,S.output,S.size,S.cu,fun j b g hj hg=>?_,fun j hj=>?_,fun j b hj=>?_,S.kM,S.kr⟩,fun j g hj=>by cases hj⟩
 ·have hg:(if bo h' j=true then σ j else none)=some g:=hg
  obtain ⟨_,_,b0,h1,_⟩:=hh' j b hj
  split at hg
  ·exact S.own j b0 g h1 hg
  ·cases hg
 ·show (if bo h' j=true then σ j else none)=none
  split
  ·exact S.next j hj
  ·rfl
 ·obtain ⟨_,_,b0,h1,_⟩:=hh' j b hj
  exact S.hn j b0 h1)
end
section
variable {P:Program} {W0:World} {F:Nat->Prop} {N:NT} {T0:Nat->Prop} {pin:List (Nat×cg)} {Q:Exit->aK->Prop} {s:List (Nat×AV)} {h h':List (Nat×AB)} {n:Nat}
theorem xx {c:Code} {k t k1 i K m:Nat} (q:Nat) {cs:List CV} {cs':Value->List CV} {h':Value->List (Nat×AB)} (hb:look h k=some (.box t cs)) (hc:cs[q]?=some (.s k1 i K m)) (hx:∀ v,(mI cs q [.d (.v v)],nU h k (.box t (cs' v)))=(some (cs' v),some (h' v)))
  (g:∀ v:Value,v.oneCell'=true->AC P W0 F N T0 pin Q c ⟨s,h' v,n⟩):AC P W0 F N T0 pin Q c ⟨s,h,n⟩:=fun a w hI=>by
 obtain ⟨σ,T,hT,S,hp⟩:=hI
 obtain ⟨ga,vs,q1,q2,q3,q4⟩:=S.core.heap _ _ hb
 obtain ⟨y,hy,hr⟩:=q4.get hc
 have hy1:y.oneCell'=true:=by
  rcases hr with ⟨_,rfl⟩|⟨_,_,rfl,_⟩<;>rfl
 obtain ⟨h1,h2⟩:=Prod.mk.inj (hx y)
 obtain ⟨hl,h3⟩:=mz h1
 have look':∀ j x,look (h' y) j=some x->(j=k/\x=.box t (cs' y))\/look h j=some x:=fun j x hj=>by
  rw [<-oI h2] at hj
  rcases ml hj with h4|⟨_,h4⟩|h4
  ·exact .inl h4
  ·exact .inr h4
  ·exact h4.2.elim
 have cu:∀ j x,look (h' y) j=some x->∃ z,look h j=some z:=fun j x hj=>by
  rcases look' j x hj with ⟨rfl,_⟩|h4
  ·exact ⟨_,hb⟩
  ·exact ⟨_,h4⟩
 refine g y hy1 a w ⟨σ,T,hT,⟨⟨S.core.gD,fun j x hj=>?_,fun j j' x x' g g' hj hj'=>?_,S.core.ft⟩,S.os,S.tape,S.output,S.size,S.cu,fun j x g hj=>?_,S.next,fun j x hj=>?_,S.kM,S.kr⟩,hp⟩
 ·rcases look' j x hj with ⟨rfl,rfl⟩|h4
  ·refine ⟨ga,vs,q1,q2,q3,?_⟩
   simp only [List.length_cons,List.length_nil] at hl h3
   obtain ⟨hq,hyq⟩:=List.getElem?_eq_some_iff.1 hy
   have e:vs=vs.take q++(y::vs.drop (q+1)):=by rw [<-hyq,List.getElem_cons_drop,List.take_append_drop]
   rw [<-h3,e,List.append_assoc]
   exact (q4.take q).append ⟨bA.v _ hy1,q4.drop (q+1)⟩
  ·exact S.core.heap j x h4
 ·obtain ⟨z,hz⟩:=cu j x hj
  obtain ⟨z',hz'⟩:=cu j' x' hj'
  exact S.core.inj j j' z z' g g' hz hz'
 ·obtain ⟨z,hz⟩:=cu j x hj
  exact S.own j z g hz
 ·obtain ⟨z,hz⟩:=cu j x hj
  exact S.hn j z hz
end
theorem vS {P:Program} {st:aK} {o:Oper} {t e bytes n:Nat} {x y:Operand} {i j:Int} (hT:ko P t e 1 bytes) (hz:(P.info? e).bind (fun i=>i.zero)=some (.int .i64 0)) (ho:o.op=.makeSlice t x y) (hx:ev st x (.v (.c (.d (.v (.int .i64 i)))))) (hy:ev st y (.v (.c (.d (.v (.int .i64 j))))))
  (hi:i=n) (hj:j=n) (hb:bytes * n<=281474976710656) (h63:n<=9223372036854775807):bU P o st (.v (.c (.d (.r 1 ((List.replicate n (0:Int)).map rI))))) [] []:=fun σ T ac w C _=>by
 have h1:=bA.inv (bN C hx)
 have h2:=bA.inv (bN C hy)
 subst hi hj
 obtain ⟨ii,z',hii,hzz,hs,hby,hzs⟩:=hT.i
 have hz':z'=.int .i64 0:=by simpa [hii,hzz] using hz
 subst hz'
 have hrun:=run_make_row (P:=P) t e ii (.int .i64 0) hT.u hii hzz hs rfl .i64 .i64 n (by rw [hby];exact hb) h63 w
 have hsz:=World.size_alloc w (.cells (madeCells #[.int .i64 0] n) e)
 refine jz (v:=.slice (some ⟨w.heap.size,0,none⟩) n n) (w':=w.alloc (.cells (madeCells #[.int .i64 0] n) e)) ?_ ⟨_,σ,T,rfl,⟨rfl,rfl,rfl,⟨aa,fun b hb _=>Below.heap_alloc w _ b hb,(fun b ⟨k,hk,_⟩=>by cases hk),fun b hb h=>h,fun _ _ h=>h⟩,fun b h=>h,fun b h=>by have:=C.ft b h;omega,fun _ _=>rfl,(fun _ _ h=>by cases h),(fun _ _ _ h=>by cases h),(fun _ _ _ _ _ _ h=>by cases h)⟩,?_⟩
 ·unfold execOp
  simp only [ho,h1,h2,Sem.run_bind,hrun,Result.andThen_ok]
  rfl
 ·have hr:∀ (i:Nat) (row:List D),((List.replicate n (0:Int)).map rI)[i]?=some row->i < n/\row=rI 0:=fun i row hr=>by
   rw [List.map_replicate] at hr
   obtain ⟨hq,rfl⟩:=List.getElem?_eq_some_iff.1 hr
   simp at hq
   exact ⟨hq,ca⟩
  have h:=bA.r (T:=T) (w:=w.alloc (.cells (madeCells #[.int .i64 0] n) e)) 1 ((List.replicate n (0:Int)).map rI) w.heap.size 0 n (fun _ _=>.int .i64 0) aa (fun hb=>Nat.lt_irrefl _ (C.ft _ hb)) ca h63 (fun i row hq=>by rw [(hr i row hq).2];rfl) (fun i row j d hq hd=>?_) (fun i row j d hq hd=>?_)
  ·rw [List.length_map,List.length_replicate] at h;exact h
  ·obtain ⟨hi,rfl⟩:=hr i row hq
   rcases j with _|j
   ·have hl:(madeCells #[Value.int .i64 0] n).toList=List.replicate n (.int .i64 0):=toList_madeCells_one _ _
    rw [Nat.mul_one,Nat.add_zero,Nat.zero_add,cell_of_row _ w.heap.size i _ _ (0,0) (by have:=heap_alloc_new w (.cells (madeCells #[.int .i64 0] n) e);exact this)]
    rw [<-Array.getElem?_toList,hl]
    simp [hi]
   ·simp [rI] at hd
  ·obtain ⟨_,rfl⟩:=hr i row hq
   rcases j with _|j
   ·simp [rI] at hd;subst hd;exact .v _ rfl
   ·simp [rI] at hd
end
theorem sK:∀ (l:List ch) (cs:List bF) (xs:List bG),(∀ a∈l,0<=a.aA/\a.aA < cs.length)->(kJ l cs xs 0).2.2=(gS l cs xs).2.2/\((gS l cs xs).2.2=0->kJ l cs xs 0=gS l cs xs)
 |[],_,_,_=>⟨rfl,fun _=>rfl⟩
 |x::l,cs,xs,hc=>by
  have hx:=hc x List.mem_cons_self
  obtain ⟨c,h⟩:∃ c,cs[x.aA.toNat]?=some c:=⟨_,List.getElem?_eq_getElem aa⟩
  have bad:∀ (l:List ch) (cs:List bF) (xs:List bG) (e:Int),e≠0->(∀ a∈l,0<=a.aA/\a.aA < cs.length)->(kJ l cs xs e).2.2=e:=by
   intro l
   induction l with
   |nil=>intro _ _ _ _ _;rfl
   |cons y l ih=>
    intro cs xs e he hy
    have hy1:=hy y List.mem_cons_self
    obtain ⟨c,h⟩:∃ c,cs[y.aA.toNat]?=some c:=⟨_,List.getElem?_eq_getElem aa⟩
    unfold kJ
    rw [h]
    have hf:∀ z,cp e z=e:=fun z=>by unfold cp;rw [if_neg he]
    dsimp only
    rw [hf,hf]
    exact ih _ _ _ he fun a ha=>by rw [List.length_set];exact hy a (List.mem_cons_of_mem _ ha)
  have hl:∀ cs':List bF,cs'.length=cs.length->∀ a∈l,0<=a.aA/\a.aA < cs'.length:=fun cs' h' a ha=>by rw [h'];exact hc a (List.mem_cons_of_mem _ ha)
  unfold kJ gS
  rw [h]
  dsimp only
  by_cases h1:(dm x.aA x.au x.sum x.time).2=0
  ·rw [h1,if_neg ca]
   by_cases h2:(eB c x.sum).2=0
   ·rw [h2,if_neg ca]
    exact sK l _ _ (hl _ (List.length_set ..))
   ·rw [if_pos h2]
    have:cp (cp 0 0) (eB c x.sum).2=(eB c x.sum).2:=rfl
    rw [this,bad _ _ _ _ h2 (hl _ (List.length_set ..))]
    exact ⟨rfl,fun h=>absurd h h2⟩
  ·rw [if_pos h1]
   have:∀ z,cp (cp 0 (dm x.aA x.au x.sum x.time).2) z=(dm x.aA x.au x.sum x.time).2:=fun z=>by
    show cp (dm x.aA x.au x.sum x.time).2 z=_
    unfold cp;rw [if_neg h1]
   rw [this,bad _ _ _ _ h1 (hl _ (List.length_set ..))]
   exact ⟨rfl,fun h=>absurd h h1⟩
theorem cH.HH {b:Bk} (h:cH b) {cs:List bF} {xs:List bG} (hL:kJ b.aQ.aH b.ak b.an 0=(cs,xs,0)):cH {b with ak:=cs,an:=xs,down:=false,aQ:=⟨b.aQ.cap,List.replicate cs.length 0,[]⟩}:=by
 have ha:∀ a∈b.aQ.aH,0<=a.aA/\a.aA < b.ak.length:=fun a ha=>⟨(h.ku a ha).1,(h.ku a ha).2.1⟩
 have hu:=sK _ b.ak b.an ha
 rw [hL] at hu
 have hU:=hu.2 hu.1.symm
 have h2:=h.HG (s:=⟨b.aQ.cap,List.replicate cs.length 0,[]⟩) rfl
 rw [<-hU] at h2
 exact h2

theorem Eb (x:Nat->Value) (hx:∀ i,(x i).oneCell'=true) (b:Bk) (k:Int) (lost:Bool) (ok:cH b) (b2:Bk) (e2:Int) (hr:ei b k lost=(b2,e2)):cS Tryz.prog 27 [(.c (.p 0 0 0 0)),(.c (cI k)),(.c (cB lost))] [(0,(.box 73 (cf b 1 2 3 4 (.d (.v (x 17))) (cI 0)))),(1,(dS b.ak)),(2,(dR b.due)),(3,(ec b.an)),(4,(cX b.aM))] [0] (.t []) [(0,(.box 73 (cf b2 1 2 3 4 (.d (.v (x 17))) (cI e2)))),(1,(dS b2.ak)),(2,(dR b2.due)),(3,(ec b2.an)),(4,(cX b2.aM))]:=by
  by_cases h0:k=0
  ·subst h0;exact Hu x hx b lost ok b2 e2 hr
  by_cases h1:k=1
  ·subst h1;exact Ht x hx b lost ok b2 e2 hr
  ·exact Hs x hx b k lost ok ⟨h0,h1⟩ b2 e2 hr
theorem Ku (x:Nat->Value) (hx:∀ i,(x i).oneCell'=true) (b:Bk) (days:List (List Int)) (d:bW) (ok:cH b) (hy:days.length<=1000) (hk5:¬d.kind=5) (b2:Bk) (y2:List (List Int)) (e2:Int) (n2:Int) (hr:fO b days d=(b2,y2,e2,n2)):cS Tryz.prog 12 [(.c (.p 0 0 0 0)),(.g [(cI d.id),(cI d.kind),(cI d.n),(cI d.au),(cI d.move),(cI d.sum)])] [(0,(.box 73 (cf b 1 2 3 4 (.s 5 0 1 days.length) (cI 0)))),(1,(dS b.ak)),(2,(dR b.due)),(3,(ec b.an)),(4,(cX b.aM)),(5,(mY days))] [0] (.v (.c (cI n2))) [(0,(.box 73 (cf b2 1 2 3 4 (.s 5 0 1 y2.length) (cI e2)))),(1,(dS b2.ak)),(2,(dR b2.due)),(3,(ec b2.an)),(4,(cX b2.aM)),(5,(mY y2))]:=by
 refine cS.mk 371 [(0,(aC (.p 0 0 0 0))),(1,(aG [(cI d.id),(cI d.kind),(cI d.n),(cI d.au),(cI d.move),(cI d.sum)]))] 6 Tryz.func12 rfl rfl rfl rfl rfl rfl rfl rfl rfl ?_
 intro W0 F0 T0 pg
 obtain ⟨okt,okc,okd,oka,oky,okw0,okw1,okp,okv,okk0,okk1,okg,okl0,okl1,okp0,okp1,okn0,okn1,okq⟩:=id ok
 refine ag 2 rfl (ag 4 rfl (af (ag 2 rfl (aL (ag 2 rfl (aO rfl (fun hc1'=>?_) (fun hc1'=>?_)))))))
 ·
  refine af ?_
  rcases Bool.eq_false_or_eq_true (decide (d.n < 0)) with hb2|hb2
  ·
   have hb2':=of_decide_eq_true hb2
   refine bg [0,3,5] [6,0,1,2,3,4,5] rfl (bC (kn:=[(27,true)]) bn 13 rfl ⟨hb2,trivial⟩ (bf [6,0,1,2,3,4,5] rfl (ae (ax rfl (fun _=>?_) (fun hno=>by cases hno)))))
   refine ah (ad 1 rfl ?_)
   have hr0:cp 0 6=6:=rfl
   refine ay 7 [0,6,1,2,3,4,5] (cz id id (ms:=(bY.set 19 (some (cI 0)))) (ms':=(bY.set 19 (some (cI 6)))) (fun x hx=>dV x hx 0 6 6 hr0) fr rfl) rfl (bq (aN (then_ok (ag 1 rfl (al ?_)))))
   have hX:fO b days d=(b,days,6,0):=by
     unfold fO;(repeat' (first|rw [if_pos aa]|rw [if_neg aa]|fail));all_goals (simp only [hr0])
   rw [hX] at hr;clear hX
   simp only [Prod.mk.injEq] at hr;obtain ⟨rfl,rfl,rfl,rfl⟩:=hr
   exact bb [0,1,2,3,4,5] 6 rfl
  have hb2':=of_decide_eq_false hb2
  refine bg [0,3,5] [6,0,1,2,3,4,5] rfl (bC (kn:=[(27,false)]) bn 10 rfl ⟨hb2,trivial⟩ (cG (n':=7) [34,28] [1] rfl rfl (.inl ⟨(aR.yes rfl rfl rfl),dn rfl rfl rfl rfl rfl gy⟩) rfl (aF 2 rfl (bf [6,0,1,2,3,4,5] rfl (ae (aO rfl (fun hc4'=>?_) (fun hc4'=>?_)))))))
  ·
   refine ah (ad 1 rfl ?_)
   have hr1:cp 0 6=6:=rfl
   refine ay 7 [0,6,1,2,3,4,5] (cz id id (ms:=(bY.set 19 (some (cI 0)))) (ms':=(bY.set 19 (some (cI 6)))) (fun x hx=>dV x hx 0 6 6 hr1) fr rfl) rfl (bq (aN (then_ok (ag 1 rfl (al ?_)))))
   have hX:fO b days d=(b,days,6,0):=by
     unfold fO;(repeat' (first|rw [if_pos aa]|rw [if_neg aa]|fail));all_goals (simp only [hr1])
   rw [hX] at hr;clear hX
   simp only [Prod.mk.injEq] at hr;obtain ⟨rfl,rfl,rfl,rfl⟩:=hr
   exact bb [0,1,2,3,4,5] 6 rfl
  refine bQ 47 ((decide (d.sum < 1))||(decide (d.sum > 1000000))) ?_ ?_
  ·
   refine ah (ad 4 rfl (bz 43 rfl (fun hb5'=>?_) (fun hb5'=>?_)))
   ·
    exact ad 4 rfl (ae (aq.pz 9 rfl))
   exact ad 4 rfl (ae (aq.pz 9 rfl))
  refine ax rfl (fun hc6=>?_) (fun hc6=>?_)
  ·
   have hc6':=hc6;try simp only [aT,bx] at hc6'
   refine ah (ad 1 rfl ?_)
   have hr2:cp 0 3=3:=rfl
   refine ay 7 [0,6,1,2,3,4,5] (cz id id (ms:=(bY.set 19 (some (cI 0)))) (ms':=(bY.set 19 (some (cI 3)))) (fun x hx=>dV x hx 0 3 3 hr2) fr rfl) rfl (bq (aN (then_ok (ag 1 rfl (al ?_)))))
   have hX:fO b days d=(b,days,3,0):=by
     unfold fO;(repeat' (first|rw [if_pos aa]|rw [if_neg aa]|fail));all_goals (simp only [hr2])
   rw [hX] at hr;clear hX
   simp only [Prod.mk.injEq] at hr;obtain ⟨rfl,rfl,rfl,rfl⟩:=hr
   exact bb [0,1,2,3,4,5] 6 rfl
  have hc6':=hc6;try simp only [aT,bx] at hc6'
  refine aw 5 rfl ?_
  obtain ⟨l23,e23,hr3⟩:∃ (l23:List bF) (e23:Int),cP b.ak 0 d.n 0 d.sum=(l23,e23):=⟨_,_,rfl⟩
  refine ay 8 [0,7,6,2,3,4,5] (cz id (bp [0,7]) (ms:=((bY.set 2 (some (.s 1 0 6 b.ak.length))).set 19 (some (cI 0)))) (ms':=((bY.set 2 (some (.s 1 0 6 l23.length))).set 19 (some (cI e23)))) (fun x hx=>ql x hx b.ak 0 d.n 0 d.sum aa l23 e23 hr3) zj rfl) rfl (ae (ah (ad 3 rfl (bl rfl rfl rfl rfl aa (ad 2 rfl ?_)))))
  obtain ⟨l24,e24,hr4⟩:∃ (l24:List Entry) (e24:Int),dp b.book e23 0 (10+d.n) d.sum=(l24,e24):=⟨_,_,rfl⟩
  refine ay 8 [0,7,6,2,3,4,5] (cz id id (ms:=((bY.set 18 (some (cE b.book))).set 19 (some (cI e23)))) (ms':=((bY.set 18 (some (cE l24))).set 19 (some (cI e24)))) (fun x hx=>iE x hx b.book e23 0 (10+d.n) d.sum l24 e24 hr4) nr rfl) rfl (bq (aN (then_ok (ag 1 rfl (al ?_)))))
  have hX:fO b days d=((⟨b.time,b.down,l23,b.due,b.an,b.s0,b.s1,b.n0,b.n1,b.w0,b.w1,b.aQ,b.aM,l24⟩:Bk),days,e24,0):=by
    unfold fO;(repeat' (first|rw [if_pos aa]|rw [if_neg aa]|fail));all_goals (simp only [hr3,hr4])
  rw [hX] at hr;clear hX
  simp only [Prod.mk.injEq] at hr;obtain ⟨rfl,rfl,rfl,rfl⟩:=hr
  exact bb [0,7,2,3,4,5] 6 rfl
 refine ag 2 rfl (aO rfl (fun hc7'=>?_) (fun hc7'=>?_))
 ·
  refine aw 2 rfl ?_
  obtain ⟨b25,a25,hr5⟩:∃ (b25:Bk) (a25:Answer),dw b d=(b25,a25):=⟨_,_,rfl⟩
  refine ay 11 [0,7,8,9,10,6,5] (cz id (bp [0,7,8,9,10]) (ms:=(iW b 1 2 3 4 none (some (cI 0)))) (ms':=(iW b25 1 2 3 4 none (some (cI a25.err)))) (fun x hx=>Jg x hx b d (by first|assumption|exact cH.tick dr aa aa) b25 a25 hr5) LJ rfl) rfl (ad 1 rfl (ae (al (aY (aj ?_)))))
  have hX:fO b days d=(b25,days,a25.err,a25.ba):=by
    unfold fO;(repeat' (first|rw [if_pos aa]|rw [if_neg aa]|fail));all_goals (simp only [hr5])
  rw [hX] at hr;clear hX
  simp only [Prod.mk.injEq] at hr;obtain ⟨rfl,rfl,rfl,rfl⟩:=hr
  exact bb [0,7,8,9,10,5] 6 rfl
 refine ag 2 rfl (aO rfl (fun hc8'=>?_) (fun hc8'=>?_))
 ·
  refine ah (ad 2 rfl ?_)
  obtain ⟨b26,e26,hr6⟩:∃ (b26:Bk) (e26:Int),hP b d=(b26,e26):=⟨_,_,rfl⟩
  refine ay 11 [0,7,8,9,10,6,5] (cz id (bp [0,7,8,9,10]) (ms:=(iW b 1 2 3 4 none (some (cI 0)))) (ms':=(iW b26 1 2 3 4 none (some (cI e26)))) (fun x hx=>Hr x hx b d (by first|assumption|exact cH.tick dr aa aa) b26 e26 hr6) LI rfl) rfl (bq (aN (then_ok (ag 1 rfl (al ?_)))))
  have hX:fO b days d=(b26,days,e26,0):=by
    unfold fO;(repeat' (first|rw [if_pos aa]|rw [if_neg aa]|fail));all_goals (simp only [hr6])
  rw [hX] at hr;clear hX
  simp only [Prod.mk.injEq] at hr;obtain ⟨rfl,rfl,rfl,rfl⟩:=hr
  exact bb [0,7,8,9,10,5] 6 rfl
 refine ag 2 rfl (aO rfl (fun hc9'=>?_) (fun hc9'=>?_))
 ·
  refine af (af ?_)
  rcases Bool.eq_false_or_eq_true (decide (d.sum < 0)) with hb10|hb10
  ·
   have hb10':=of_decide_eq_true hb10
   refine bg [0,3,5] [6,0,1,2,3,4,5] rfl (bC (kn:=[(77,true)]) bn 18 rfl ⟨hb10,trivial⟩ (bf [6,0,1,2,3,4,5] rfl (ae (ax rfl (fun _=>?_) (fun hno=>by cases hno)))))
   refine aw 1 rfl ?_
   have hr7:cp 0 3=3:=rfl
   refine ay 7 [0,6,1,2,3,4,5] (cz id id (ms:=(bY.set 19 (some (cI 0)))) (ms':=(bY.set 19 (some (cI 3)))) (fun x hx=>dV x hx 0 3 3 hr7) fr rfl) rfl (ae (ag 1 rfl (al (aj (aY (aj ?_))))))
   have hX:fO b days d=(b,days,3,0):=by
     unfold fO;(repeat' (first|rw [if_pos aa]|rw [if_neg aa]|fail))
   rw [hX] at hr;clear hX
   simp only [Prod.mk.injEq] at hr;obtain ⟨rfl,rfl,rfl,rfl⟩:=hr
   exact bb [0,1,2,3,4,5] 6 rfl
  have hb10':=of_decide_eq_false hb10
  rcases Bool.eq_false_or_eq_true (decide (d.sum > 1000000)) with hb12|hb12
  ·
   have hb12':=of_decide_eq_true hb12
   refine bg [0,3,5] [6,0,1,2,3,4,5] rfl (bC (kn:=[(77,false),(81,true)]) bn 18 rfl ⟨hb10,hb12,trivial⟩ (bf [6,0,1,2,3,4,5] rfl (ae (ax rfl (fun _=>?_) (fun hno=>by cases hno)))))
   refine aw 1 rfl ?_
   have hr8:cp 0 3=3:=rfl
   refine ay 7 [0,6,1,2,3,4,5] (cz id id (ms:=(bY.set 19 (some (cI 0)))) (ms':=(bY.set 19 (some (cI 3)))) (fun x hx=>dV x hx 0 3 3 hr8) fr rfl) rfl (ae (ag 1 rfl (al (aj (aY (aj ?_))))))
   have hX:fO b days d=(b,days,3,0):=by
     unfold fO;(repeat' (first|rw [if_pos aa]|rw [if_neg aa]|fail))
   rw [hX] at hr;clear hX
   simp only [Prod.mk.injEq] at hr;obtain ⟨rfl,rfl,rfl,rfl⟩:=hr
   exact bb [0,1,2,3,4,5] 6 rfl
  have hb12':=of_decide_eq_false hb12
  refine bg [0,3,5] [6,0,1,2,3,4,5] rfl (bC (kn:=[(77,false),(81,false)]) bn 15 rfl ⟨hb10,hb12,trivial⟩ (cG (n':=7) [87,89,83] [] rfl rfl (.inl ⟨(aR.yes rfl rfl rfl),bm rfl rfl rfl (bH aa)⟩) rfl (aF 2 rfl (bf [6,0,1,2,3,4,5] rfl (ae (aO rfl (fun hc14'=>?_) (fun hc14'=>?_)))))))
  ·
   refine aw 1 rfl ?_
   have hr9:cp 0 3=3:=rfl
   refine ay 7 [0,6,1,2,3,4,5] (cz id id (ms:=(bY.set 19 (some (cI 0)))) (ms':=(bY.set 19 (some (cI 3)))) (fun x hx=>dV x hx 0 3 3 hr9) fr rfl) rfl (ae (ag 1 rfl (al (aj (aY (aj ?_))))))
   have hX:fO b days d=(b,days,3,0):=by
     unfold fO;(repeat' (first|rw [if_pos aa]|rw [if_neg aa]|fail))
   rw [hX] at hr;clear hX
   simp only [Prod.mk.injEq] at hr;obtain ⟨rfl,rfl,rfl,rfl⟩:=hr
   exact bb [0,1,2,3,4,5] 6 rfl
  refine aD (af (bg [0,3,5] [6,0,1,2,3,4,5] rfl (aF 7 rfl (bh 7 [99,101] [] rfl (bm rfl rfl rfl (bH aa)) (aF 2 rfl (bf [6,0,1,2,3,4,5] rfl (ad 1 rfl (ae (ag 5 rfl (ax rfl (fun hc15=>?_) (fun hc15=>?_)))))))))))
  ·
   have hc15':=hc15;try simp only [aT,bx] at hc15'
   refine aw 1 rfl ?_
   obtain ⟨b210,e210,hr10⟩:∃ (b210:Bk) (e210:Int),mH (⟨b.time+d.sum,b.down,b.ak,b.due,b.an,b.s0,b.s1,b.n0,b.n1,b.w0,b.w1,b.aQ,b.aM,b.book⟩:Bk)=(b210,e210):=⟨_,_,rfl⟩
   refine ay 11 [0,7,8,9,10,6,5] (cz id (bp [0,7,8,9,10]) (ms:=[some (cI (b.time+d.sum)),some (cB b.down),some (.s 1 0 6 b.ak.length),some (.s 2 0 1 b.due.length),some (.s 3 0 8 b.an.length),some (cI b.s0.bj),some (bX b.s0.kept),some (cI b.s1.bj),some (bX b.s1.kept),some (cI b.n0),some (cI b.n1),some (dj b.w0),some (dj b.w1),some (cI b.aQ.cap),some (dt b.aQ.used),some (eo b.aQ.aH),some (.s 4 0 4 b.aM.length),none,some (cE b.book),some (cI 0)]) (ms':=(iW b210 1 2 3 4 none (some (cI e210)))) (fun x hx=>Bt x hx (⟨b.time+d.sum,b.down,b.ak,b.due,b.an,b.s0,b.s1,b.n0,b.n1,b.w0,b.w1,b.aQ,b.aM,b.book⟩:Bk) (by first|assumption|exact cH.tick dr aa aa) b210 e210 hr10) IW rfl) rfl (ae (ah (ad 4 rfl (bq (aN (then_ok (ag 1 rfl (al ?_))))))))
   have hX:fO b days d=(b210,days,0,0):=by
     unfold fO;(repeat' (first|rw [if_pos aa]|rw [if_neg aa]|fail));all_goals (rw [if_neg (by simpa using hc15)];simp only [hr10])
   rw [hX] at hr;clear hX
   simp only [Prod.mk.injEq] at hr;obtain ⟨rfl,rfl,rfl,rfl⟩:=hr
   exact bb [0,7,8,9,10,5] 6 rfl
  have hc15':=hc15;try simp only [aT,bx] at hc15'
  refine cv (aN (then_ok (ag 1 rfl (al ?_))))
  have hX:fO b days d=((⟨b.time+d.sum,b.down,b.ak,b.due,b.an,b.s0,b.s1,b.n0,b.n1,b.w0,b.w1,b.aQ,b.aM,b.book⟩:Bk),days,0,0):=by
    unfold fO;(repeat' (first|rw [if_pos aa]|rw [if_neg aa]|fail));all_goals (rw [if_pos (by simpa using hc15)])
  rw [hX] at hr;clear hX
  simp only [Prod.mk.injEq] at hr;obtain ⟨rfl,rfl,rfl,rfl⟩:=hr
  exact bb [0,1,2,3,4,5] 6 rfl
 refine ag 2 rfl (aO rfl (fun hc16'=>?_) (fun hc16'=>?_))
 ·
  (exfalso;omega)
 refine ag 2 rfl (aO rfl (fun hc17'=>?_) (fun hc17'=>?_))
 ·
  refine ah (ad 3 rfl ?_)
  obtain ⟨b211,e211,hr11⟩:∃ (b211:Bk) (e211:Int),ei b d.n false=(b211,e211):=⟨_,_,rfl⟩
  refine ay 11 [0,7,8,9,10,6,5] (cz id (bp [0,7,8,9,10]) (ms:=(iW b 1 2 3 4 none (some (cI 0)))) (ms':=(iW b211 1 2 3 4 none (some (cI e211)))) (fun x hx=>Eb x hx b d.n false dr b211 e211 hr11) IV rfl) rfl (bq (aN (then_ok (ag 1 rfl (al ?_)))))
  have hX:fO b days d=(b211,days,e211,0):=by
    unfold fO;(repeat' (first|rw [if_pos aa]|rw [if_neg aa]|fail));all_goals (simp only [hr11])
  rw [hX] at hr;clear hX
  simp only [Prod.mk.injEq] at hr;obtain ⟨rfl,rfl,rfl,rfl⟩:=hr
  exact bb [0,7,8,9,10,5] 6 rfl
 refine ag 2 rfl (aO rfl (fun hc18'=>?_) (fun hc18'=>?_))
 ·
  refine ah (ad 3 rfl ?_)
  obtain ⟨b212,e212,hr12⟩:∃ (b212:Bk) (e212:Int),ei b d.n true=(b212,e212):=⟨_,_,rfl⟩
  refine ay 11 [0,7,8,9,10,6,5] (cz id (bp [0,7,8,9,10]) (ms:=(iW b 1 2 3 4 none (some (cI 0)))) (ms':=(iW b212 1 2 3 4 none (some (cI e212)))) (fun x hx=>Eb x hx b d.n true dr b212 e212 hr12) IV rfl) rfl (bq (aN (then_ok (ag 1 rfl (al ?_)))))
  have hX:fO b days d=(b212,days,e212,0):=by
    unfold fO;(repeat' (first|rw [if_pos aa]|rw [if_neg aa]|fail));all_goals (simp only [hr12])
  rw [hX] at hr;clear hX
  simp only [Prod.mk.injEq] at hr;obtain ⟨rfl,rfl,rfl,rfl⟩:=hr
  exact bb [0,7,8,9,10,5] 6 rfl
 refine ag 2 rfl (aO rfl (fun hc19'=>?_) (fun hc19'=>?_))
 ·
  refine af (ag 4 rfl (ax rfl (fun hc20=>?_) (fun hc20=>?_)))
  ·
   have hc20':=hc20;try simp only [aT,bx] at hc20'
   refine ah (ad 1 rfl ?_)
   have hr13:cp 0 8=8:=rfl
   refine ay 7 [0,6,1,2,3,4,5] (cz id id (ms:=(bY.set 19 (some (cI 0)))) (ms':=(bY.set 19 (some (cI 8)))) (fun x hx=>dV x hx 0 8 8 hr13) fr rfl) rfl (ae (ah (ad 4 rfl (bq (aN (then_ok (ag 1 rfl (al ?_))))))))
   have hX:fO b days d=((⟨b.time,true,b.ak,b.due,b.an,b.s0,b.s1,b.n0,b.n1,b.w0,b.w1,b.aQ,b.aM,b.book⟩:Bk),days,8,0):=by
     unfold fO;(repeat' (first|rw [if_pos aa]|rw [if_neg aa]|fail));all_goals (rw [if_pos hc20])
   rw [hX] at hr;clear hX
   simp only [Prod.mk.injEq] at hr;obtain ⟨rfl,rfl,rfl,rfl⟩:=hr
   exact bb [0,1,2,3,4,5] 6 rfl
  have hc20':=hc20;try simp only [aT,bx] at hc20'
  refine aD (ah (ad 4 rfl (bq (aN (then_ok (ag 1 rfl (al ?_)))))))
  have hX:fO b days d=((⟨b.time,true,b.ak,b.due,b.an,b.s0,b.s1,b.n0,b.n1,b.w0,b.w1,b.aQ,b.aM,b.book⟩:Bk),days,0,0):=by
    unfold fO;(repeat' (first|rw [if_pos aa]|rw [if_neg aa]|fail));all_goals (rw [if_neg (by simp [hc20])])
  rw [hX] at hr;clear hX
  simp only [Prod.mk.injEq] at hr;obtain ⟨rfl,rfl,rfl,rfl⟩:=hr
  exact bb [0,1,2,3,4,5] 6 rfl
 refine ag 2 rfl (aO rfl (fun hc21'=>?_) (fun hc21'=>?_))
 ·
  refine af (ag 5 rfl (ax rfl (fun hc22=>?_) (fun hc22=>?_)))
  ·
   have hc22':=hc22;try simp only [aT,bx] at hc22'
   refine aw 1 rfl ?_
   have hr14:cp 0 8=8:=rfl
   refine ay 7 [0,6,1,2,3,4,5] (cz id id (ms:=(bY.set 19 (some (cI 0)))) (ms':=(bY.set 19 (some (cI 8)))) (fun x hx=>dV x hx 0 8 8 hr14) fr rfl) rfl (ae (ag 1 rfl (al (aj (aY (aj ?_))))))
   have hX:fO b days d=(b,days,8,0):=by
     unfold fO;(repeat' (first|rw [if_pos aa]|rw [if_neg aa]|fail));all_goals (rw [if_pos (by simpa using hc22)])
   rw [hX] at hr;clear hX
   simp only [Prod.mk.injEq] at hr;obtain ⟨rfl,rfl,rfl,rfl⟩:=hr
   exact bb [0,1,2,3,4,5] 6 rfl
  have hc22':=hc22;try simp only [aT,bx] at hc22'
  refine aD (af (aw 5 rfl (az (cD rfl rfl iY) rfl (ad 1 rfl (ae (aL (cb (β:=Nat×List bF×List bG×Int) (fun (p:Nat×List bF×List bG×Int)=>match p with|(q,cs,xs,e)=>⟨[(0,(aC (.p 0 0 0 0))),(4,(aI 0)),(5,(aC (.p 0 0 0 0))),(214,(aC (eo b.aQ.aH))),(215,(aI (↑b.aQ.aH.length:Int))),(216,(aI (↑q:Int)))],[(0,(.box 73 (((cf b 1 2 3 4 (.s 5 0 1 days.length) (cI e)).set 2 (.s 1 0 6 cs.length)).set 4 (.s 3 0 8 xs.length)))),(1,(dS cs)),(2,(dR b.due)),(3,(ec xs)),(4,(cX b.aM)),(5,(mY days))],6⟩) (fun (p:Nat×List bF×List bG×Int)=>match p with|(q,cs,xs,e)=>q<=b.aQ.aH.length/\kJ b.aQ.aH b.ak b.an 0=kJ (b.aQ.aH.drop q) cs xs e/\cs.length=b.ak.length/\xs.length=b.an.length+q) (fun (p:Nat×List bF×List bG×Int)=>match p with|(q,cs,xs,e)=>b.aQ.aH.length - q) (0,b.ak,b.an,0) ?_ ?_ ?_)))))))
  ·exact ⟨aa,rfl,rfl,rfl⟩
  ·exact aq.rz id
  rintro ⟨q,cs,xs,e⟩ ⟨hi1_0,hi1_1,hi1_2,hi1_3⟩
  refine ag 1 rfl (af (aO rfl (fun hc23'=>?_) (fun hc23'=>?_)))
  ·
   refine aD (af (aL (dq ?_)))
   obtain ⟨x1,hx1⟩:=bO (xs:=b.aQ.aH) (i:=q) aa
   have hx1A:=okv x1 (List.mem_of_getElem? hx1)
   refine az (dO (i:=q) rfl rfl rfl iY tL (aV hx1)) rfl (ad 3 rfl (ae (aw 8 rfl ?_)))
   obtain ⟨b15,e15,hr15⟩:∃ (b15:bG) (e15:Int),dm x1.aA x1.au x1.sum x1.time=(b15,e15):=⟨_,_,rfl⟩
   refine ay 7 [6,0,1,2,3,4,5] (cA 7 (xm x1.aA x1.au x1.sum x1.time b15 e15 hr15) IU rfl) rfl (ad 6 rfl (ae (aw 2 rfl ?_)))
   obtain ⟨e216,hr16⟩:∃ (e216:Int),cp e e15=e216:=⟨_,rfl⟩
   refine ay 8 [0,7,6,1,2,3,4,5] (cz id id (ms:=(bY.set 19 (some (cI e)))) (ms':=(bY.set 19 (some (cI e216)))) (fun x hx=>dV x hx e e15 e216 hr16) fr rfl) rfl (ae (af ?_))
   obtain ⟨x2,hx2⟩:=bO (xs:=cs) (i:=Int.toNat (x1.aA)) aa
   obtain ⟨xr17,e17,hr17⟩:∃ (xr17:bF) (e17:Int),eB x2 x1.sum=(xr17,e17):=⟨_,_,rfl⟩
   refine eJ [0,4,5,214,215,216,10,11] [0,7,6,1,2,3,4,5] rfl (cV 6 rfl (dZ 8 [239,241] [1] rfl (cU (i:=Int.toNat (x1.aA)) rfl rfl rfl gy gX) (de 8 [242] [1] rfl (dk rfl rfl rfl rB rfl gX (aV hx2) rfl) rfl (cV 2 rfl (de 8 [243,245] [] rfl (cA 8 (Fn.frozen (av':=(.t [(.g [(cI xr17.bB),(cI xr17.held),(cI xr17.bJ.cw),(cI xr17.bJ.count),(cI xr17.bJ.sum),(eF xr17.cO)]),(.c (cI e17))])) (Am x2 x1.sum xr17 e17 hr17) ⟨⟨.inl ⟨_,rfl,rfl⟩,.inl ⟨_,rfl,rfl⟩,.inl ⟨_,rfl,rfl⟩,.inl ⟨_,rfl,rfl⟩,.inl ⟨_,rfl,rfl⟩,.inl ⟨_,rfl,rfl⟩,trivial⟩,.inl ⟨_,rfl,rfl⟩,trivial⟩) LH rfl) rfl (gJ (n':=9) (kn:=[]) bn 6 rfl trivial (eb [0,4,5,214,215,216,10,11,13,12] [8,0,7,6,1,2,3,4,5] rfl rfl aJ (then_ok (aw 2 rfl ?_)))))))))
   obtain ⟨e218,hr18⟩:∃ (e218:Int),cp e216 e17=e218:=⟨_,rfl⟩
   refine ay 9 [0,8,7,6,1,2,3,4,5] (cz id id (ms:=(bY.set 19 (some (cI e216)))) (ms':=(bY.set 19 (some (cI e218)))) (fun x hx=>dV x hx e216 e17 e218 hr18) fr rfl) rfl (ae (af (bg [0,4,5,214,215,216,10,11,13] [0,8,7,6,1,2,3,4,5] rfl (aF 7 rfl (bh 9 [255,257] [1] rfl (cU (i:=Int.toNat (x1.aA)) rfl rfl rfl gy gX) (bf [0,8,7,6,1,2,3,4,5] rfl (eP [0,8,7,6,1,2,3,4,5] (dK (ds:=[(dI xr17.bB),(dI xr17.held),(dI xr17.bJ.cw),(dI xr17.bJ.count),(dI xr17.bJ.sum),(Br xr17.cO)]) rfl rfl rfl rfl rfl gX rfl (Nat.le_of_ble_eq_true rfl) (aV hx2) rfl (eE (x':=xr17) rfl)) rfl (ae (dW (k:=0) (q:=2) (c':=(.s 1 0 6 (((cs).set (Int.toNat (x1.aA)) xr17).length))) rfl rfl jN rfl (bg [0,4,5,214,215,216,11] [0,7,1,2,3,4,5] rfl (aF 6 rfl (bM 10 [265] [] rfl (dM (ys:=[(0,(.g [(cI b15.aA),(cI b15.au),(cI b15.sum),(cI b15.captured),(cI b15.bd),(cI b15.aX),(cI b15.da),(cB b15.shut)]))]) (rows:=([b15]).map jm) 9 nY rfl) rfl (bM 11 [264,266] [9,3] rfl (dU (m:=1) (N:=xs.length+1) (k2:=10) (ys:=([b15]).map jm) nY rfl rfl rfl rfl dv) rfl (aF 2 rfl (bf [10,0,7,1,2,4,5] rfl (ad 1 rfl (bq (aN (then_ok (dW (k:=0) (q:=4) (c':=(.s 10 0 8 ((xs++([b15])).length))) rfl rfl jN rfl (ah (bl rfl rfl rfl rfl aa (ad 1 rfl (ae (⟨(q+1,(cs).set (Int.toNat (x1.aA)) xr17,xs++([b15]),e218),⟨aa,by rw [hi1_1,EB hx1 hx2];simp only [hr15,hr16,hr17,hr18],by rw [List.length_set];omega,by rw [List.length_append,List.length_singleton];omega⟩,bT,aq.rz (fun k=>if k=3 then 10 else k)⟩)))))))))))))))))))))))))
  refine bR (aE (aE (bw (then_ok (ag 4 rfl (af (bg [0,4,5,214,215,216] [0,1,2,3,4,5] rfl (aF 10 rfl (bh 6 [283] [1] rfl (dn rfl rfl rfl rfl rfl gy) (bM 6 [284] [] rfl (vS lF uB rfl rfl rfl (n:=cs.length) aa aa aa aa) rfl (bM 6 [279,285] [] rfl (bU.EW (cs':=[(cI b.aQ.cap),(dt (List.replicate cs.length (0:Int))),(eo ([]:List ch))]) 2 4 (sX (ys:=[(0,(.c (cI b.aQ.cap))),(1,(.c (dt (List.replicate cs.length (0:Int)))))]) rfl Ky rfl ⟨⟨rfl,rfl⟩,⟨rfl,rfl⟩,trivial⟩ rfl rfl) rfl rfl) rfl (aF 2 rfl (bf [0,1,2,3,4,5] rfl (ad 1 rfl (ae ?_)))))))))))))))
  have hL:kJ b.aQ.aH b.ak b.an 0=(cs,xs,e):=by rw [hi1_1,List.drop_of_length_le aa];rfl
  refine ag 5 rfl (aO rfl (fun hc24'=>?_) (fun hc24'=>?_))
  ·
   obtain rfl:e=0:=aa
   have okU:=ok.HH hL
   refine ah (ad 1 rfl ?_)
   obtain ⟨b219,e219,hr19⟩:∃ (b219:Bk) (e219:Int),mH (⟨b.time,false,cs,b.due,xs,b.s0,b.s1,b.n0,b.n1,b.w0,b.w1,(⟨b.aQ.cap,List.replicate cs.length (0:Int),([]:List ch)⟩:cT),b.aM,b.book⟩:Bk)=(b219,e219):=⟨_,_,rfl⟩
   refine ay 10 [0,6,7,8,9,5] (cz id (bp [0,6,7,8,9]) (ms:=[some (cI b.time),some (cB false),some (.s 1 0 6 cs.length),some (.s 2 0 1 b.due.length),some (.s 3 0 8 xs.length),some (cI b.s0.bj),some (bX b.s0.kept),some (cI b.s1.bj),some (bX b.s1.kept),some (cI b.n0),some (cI b.n1),some (dj b.w0),some (dj b.w1),some (cI b.aQ.cap),some (dt (List.replicate cs.length (0:Int))),some (eo ([]:List ch)),some (.s 4 0 4 b.aM.length),none,some (cE b.book),some (cI 0)]) (ms':=(iW b219 1 2 3 4 none (some (cI e219)))) (fun x hx=>Bt x hx (⟨b.time,false,cs,b.due,xs,b.s0,b.s1,b.n0,b.n1,b.w0,b.w1,(⟨b.aQ.cap,List.replicate cs.length (0:Int),([]:List ch)⟩:cT),b.aM,b.book⟩:Bk) (by first|assumption|exact cH.tick dr aa aa) b219 e219 hr19) IW rfl) rfl (bq (aN (then_ok (ag 1 rfl (al ?_)))))
   have hX:fO b days d=(b219,days,e219,0):=by
     unfold fO;(repeat' (first|rw [if_pos aa]|rw [if_neg aa]|fail));all_goals (rw [if_neg (by simpa using hc22)];unfold qx;simp only [hL,if_true,hr19])
   rw [hX] at hr;clear hX
   simp only [Prod.mk.injEq] at hr;obtain ⟨rfl,rfl,rfl,rfl⟩:=hr
   exact bb [0,6,7,8,9,5] 6 rfl
  refine cv (aN (then_ok (ag 1 rfl (al ?_))))
  have hX:fO b days d=((⟨b.time,false,cs,b.due,xs,b.s0,b.s1,b.n0,b.n1,b.w0,b.w1,(⟨b.aQ.cap,List.replicate cs.length (0:Int),([]:List ch)⟩:cT),b.aM,b.book⟩:Bk),days,e,0):=by
    unfold fO;(repeat' (first|rw [if_pos aa]|rw [if_neg aa]|fail));all_goals (rw [if_neg (by simpa using hc22)];unfold qx;simp only [hL];rw [if_neg aa])
  rw [hX] at hr;clear hX
  simp only [Prod.mk.injEq] at hr;obtain ⟨rfl,rfl,rfl,rfl⟩:=hr
  exact bb [0,1,2,3,4,5] 6 rfl
 refine ag 2 rfl (aO rfl (fun hc25'=>?_) (fun hc25'=>?_))
 ·
  refine aw 4 rfl ?_
  obtain ⟨xr20,f20,hr20⟩:∃ (xr20:List Int) (f20:cM),iy b.aM=(xr20,f20):=⟨_,_,rfl⟩
  refine Ew (av':=(.t [(.c (CU xr20)),(.g [(cI f20.err),(cI f20.at_)])])) (aR.plain rfl) (kH 7 [4] (An b.aM aa xr20 f20 hr20) LG ⟨trivial,⟨rfl,rfl,trivial⟩,trivial⟩ ⟨(Bm _),trivial⟩ rfl) ⟨.inr ⟨_,_,_,_,_,rfl,rfl,rfl,ca⟩,⟨.inl ⟨_,rfl,rfl⟩,.inl ⟨_,rfl,rfl⟩,trivial⟩,trivial⟩ rfl rfl rfl (ad 6 rfl (ae (aw 3 rfl ?_)))
  have hr21:cp 0 f20.err=f20.err:=rfl
  refine ay 8 [0,7,6,1,2,3,4,5] (cz id id (ms:=(bY.set 19 (some (cI 0)))) (ms':=(bY.set 19 (some (cI f20.err)))) (fun x hx=>dV x hx 0 f20.err f20.err hr21) fr rfl) rfl (ae (ah (ad 7 rfl (ay 9 [8,0,7,6,1,2,3,4,5] (dM (ys:=[(0,(.c (CU xr20)))]) (rows:=([xr20]).map pT) 8 vK rfl) rfl (ay 10 [9,8,0,7,6,1,2,3,4] (dU (m:=1) (N:=days.length+1) (k2:=9) (ys:=([xr20]).map pT) vK rfl rfl rfl rfl dv) rfl (ad 6 rfl (bq (aN (then_ok (dW (k:=0) (q:=17) (c':=(.s 9 0 1 ((days++([xr20])).length))) rfl rfl jN rfl (ag 1 rfl (al (cc 0 16 103 4 rfl rfl rfl ?_)))))))))))))
  have hX:fO b days d=((⟨b.time,b.down,b.ak,b.due,b.an,b.s0,b.s1,b.n0,b.n1,b.w0,b.w1,b.aQ,([]:List ar),b.book⟩:Bk),days++([xr20]),f20.err,0):=by
    unfold fO;(repeat' (first|rw [if_pos aa]|rw [if_neg aa]|fail));all_goals (simp only [hr20])
  rw [hX] at hr;clear hX
  simp only [Prod.mk.injEq] at hr;obtain ⟨rfl,rfl,rfl,rfl⟩:=hr
  exact bb [0,1,2,3,10,9] 6 rfl
 refine ag 2 rfl (aO rfl (fun hc26'=>?_) (fun hc26'=>?_))
 ·
  refine af ?_
  rcases Bool.eq_false_or_eq_true (decide (d.n < 0)) with hb27|hb27
  ·
   have hb27':=of_decide_eq_true hb27
   refine bg [0,3,5] [6,0,1,2,3,4,5] rfl (bC (kn:=[(327,true)]) bn 13 rfl ⟨hb27,trivial⟩ (bf [6,0,1,2,3,4,5] rfl (ae (ax rfl (fun _=>?_) (fun hno=>by cases hno)))))
   refine ah (ad 1 rfl ?_)
   have hr22:cp 0 6=6:=rfl
   refine ay 7 [0,6,1,2,3,4,5] (cz id id (ms:=(bY.set 19 (some (cI 0)))) (ms':=(bY.set 19 (some (cI 6)))) (fun x hx=>dV x hx 0 6 6 hr22) fr rfl) rfl (bq (aN (then_ok (ag 1 rfl (al ?_)))))
   have hX:fO b days d=(b,days,6,0):=by
     unfold fO;(repeat' (first|rw [if_pos aa]|rw [if_neg aa]|fail))
   rw [hX] at hr;clear hX
   simp only [Prod.mk.injEq] at hr;obtain ⟨rfl,rfl,rfl,rfl⟩:=hr
   exact bb [0,1,2,3,4,5] 6 rfl
  have hb27':=of_decide_eq_false hb27
  refine bg [0,3,5] [6,0,1,2,3,4,5] rfl (bC (kn:=[(327,false)]) bn 10 rfl ⟨hb27,trivial⟩ (cG (n':=7) [334,328] [2] rfl rfl (.inl ⟨(aR.yes rfl rfl rfl),dn rfl rfl rfl rfl rfl ed⟩) rfl (aF 2 rfl (bf [6,0,1,2,3,4,5] rfl (ae (aO rfl (fun hc29'=>?_) (fun hc29'=>?_)))))))
  ·
   refine ah (ad 1 rfl ?_)
   have hr23:cp 0 6=6:=rfl
   refine ay 7 [0,6,1,2,3,4,5] (cz id id (ms:=(bY.set 19 (some (cI 0)))) (ms':=(bY.set 19 (some (cI 6)))) (fun x hx=>dV x hx 0 6 6 hr23) fr rfl) rfl (bq (aN (then_ok (ag 1 rfl (al ?_)))))
   have hX:fO b days d=(b,days,6,0):=by
     unfold fO;(repeat' (first|rw [if_pos aa]|rw [if_neg aa]|fail))
   rw [hX] at hr;clear hX
   simp only [Prod.mk.injEq] at hr;obtain ⟨rfl,rfl,rfl,rfl⟩:=hr
   exact bb [0,1,2,3,4,5] 6 rfl
  refine af ?_
  obtain ⟨x1,hx1⟩:=bO (xs:=b.due) (i:=Int.toNat (d.n)) aa
  refine bg [0,3,5] [6,0,1,2,3,4,5] rfl (aF 6 rfl (bh 7 [343,345] [2] rfl (cU (i:=Int.toNat (d.n)) rfl rfl rfl ed eu) (bM 7 [346] [2] rfl (dY rfl rfl rfl eA rfl (aV hx1) rfl) rfl (aF 1 rfl (bf [6,0,1,2,3,4,5] rfl (ae (aO rfl (fun hc30'=>?_) (fun hc30'=>?_))))))))
  ·
   refine ah (ad 1 rfl ?_)
   have hr24:cp 0 10=10:=rfl
   refine ay 7 [0,6,1,2,3,4,5] (cz id id (ms:=(bY.set 19 (some (cI 0)))) (ms':=(bY.set 19 (some (cI 10)))) (fun x hx=>dV x hx 0 10 10 hr24) fr rfl) rfl (bq (aN (then_ok (ag 1 rfl (al ?_)))))
   have hX:fO b days d=(b,days,10,0):=by
     unfold fO;simp only [List.getD_eq_getElem?_getD,hx1,Option.getD_some];(repeat' (first|rw [if_pos aa]|rw [if_neg aa]|fail))
   rw [hX] at hr;clear hX
   simp only [Prod.mk.injEq] at hr;obtain ⟨rfl,rfl,rfl,rfl⟩:=hr
   exact bb [0,1,2,3,4,5] 6 rfl
  refine af ?_
  obtain ⟨l225,e225,hr25⟩:∃ (l225:List Entry) (e225:Int),dp b.book 0 (50+d.n) 0 x1=(l225,e225):=⟨_,_,rfl⟩
  refine eJ [0,3,5] [6,0,1,2,3,4,5] rfl (cV 3 rfl (dZ 7 [353] [] rfl (bm rfl rfl rfl (bH aa)) (cV 6 rfl (dZ 7 [358,360] [2] rfl (cU (i:=Int.toNat (d.n)) rfl rfl rfl ed eu) (de 7 [361] [2] rfl (dY rfl rfl rfl eA rfl (aV hx1) rfl) rfl (de 7 [351,354,362] [0] rfl (cz id id (ms:=((bY.set 18 (some (cE b.book))).set 19 (some (cI 0)))) (ms':=((bY.set 18 (some (cE l225))).set 19 (some (cI e225)))) (fun x hx=>iE x hx b.book 0 (50+d.n) 0 x1 l225 e225 hr25) nr rfl) rfl (eb [0,3,5] [0,6,1,2,3,4,5] rfl rfl aJ (then_ok (bg [0,3,5] [0,6,1,2,3,4,5] rfl (aF 6 rfl (bh 7 [367,369] [2] rfl (cU (i:=Int.toNat (d.n)) rfl rfl rfl ed eu) (bf [0,6,1,2,3,4,5] rfl (eP [0,6,1,2,3,4,5] (dK (ds:=[(dI 0)]) rfl rfl rfl rfl rfl eu rfl (Nat.le_of_ble_eq_true rfl) (aV hx1) rfl (eE (x':=0) rfl)) rfl (bq (aN (then_ok (dW (k:=0) (q:=3) (c':=(.s 2 0 1 (((b.due).set (Int.toNat (d.n)) 0).length))) rfl rfl jN rfl (ag 1 rfl (al ?_)))))))))))))))))))
  have hX:fO b days d=((⟨b.time,b.down,b.ak,(b.due).set (Int.toNat (d.n)) 0,b.an,b.s0,b.s1,b.n0,b.n1,b.w0,b.w1,b.aQ,b.aM,l225⟩:Bk),days,e225,0):=by
    unfold fO;simp only [List.getD_eq_getElem?_getD,hx1,Option.getD_some];(repeat' (first|rw [if_pos aa]|rw [if_neg aa]|fail));all_goals (simp only [hr25])
  rw [hX] at hr;clear hX
  simp only [Prod.mk.injEq] at hr;obtain ⟨rfl,rfl,rfl,rfl⟩:=hr
  exact bb [0,1,2,3,4,5] 6 rfl
 refine ah (ad 1 rfl ?_)
 have hr26:cp 0 1=1:=rfl
 refine ay 7 [0,6,1,2,3,4,5] (cz id id (ms:=(bY.set 19 (some (cI 0)))) (ms':=(bY.set 19 (some (cI 1)))) (fun x hx=>dV x hx 0 1 1 hr26) fr rfl) rfl (bq (aN (then_ok (ag 1 rfl (al ?_)))))
 have hX:fO b days d=(b,days,1,0):=by
   unfold fO;(repeat' (first|rw [if_pos aa]|rw [if_neg aa]|fail))
 rw [hX] at hr;clear hX
 simp only [Prod.mk.injEq] at hr;obtain ⟨rfl,rfl,rfl,rfl⟩:=hr
 exact bb [0,1,2,3,4,5] 6 rfl

theorem Hp (x:Nat->Value) (hx:∀ i,(x i).oneCell'=true) (s0 s1:bK) (n0 n1:Int) (w0 w1:List bL) (idn au move sum:Int) (l0:w0.length<=60) (l1:w1.length<=60) (m0:s0.kept.length<=40) (m1:s1.kept.length<=40) (v0:List bL) (v1:List bL) (e2:Int) (hr:jL s0 s1 n0 n1 w0 w1 (⟨idn,5,0,au,move,sum⟩:bW)=(v0,v1,e2)):cS Tryz.prog 12 [(.c (.p 0 0 0 0)),(.g [(cI idn),(cI 5),(cI 0),(cI au),(cI move),(cI sum)])] [(0,(.box 73 ((((((((((cL x).set 5 (cI s0.bj)).set 6 (bX s0.kept)).set 7 (cI s1.bj)).set 8 (bX s1.kept)).set 9 (cI n0)).set 10 (cI n1)).set 11 (.s 1 0 5 w0.length)).set 12 (.s 2 0 5 w1.length)).set 19 (cI 0)))),(1,(jY w0)),(2,(jY w1))] [0] (.v (.c (cI 0))) [(0,(.box 73 ((((((((((cL x).set 5 (cI s0.bj)).set 6 (bX s0.kept)).set 7 (cI s1.bj)).set 8 (bX s1.kept)).set 9 (cI n0)).set 10 (cI n1)).set 11 (.s 1 0 5 v0.length)).set 12 (.s 2 0 5 v1.length)).set 19 (cI e2)))),(1,(jY v0)),(2,(jY v1))]:=by
 refine cS.mk 371 [(0,(aC (.p 0 0 0 0))),(1,(aG [(cI idn),(cI 5),(cI 0),(cI au),(cI move),(cI sum)]))] 3 Tryz.func12 rfl rfl rfl rfl rfl rfl rfl rfl rfl ?_
 intro W0 F0 T0 pg
 refine ag 2 rfl (ag 4 rfl (af (ag 2 rfl (aL (dq (az (bm rfl rfl rfl (show _=some (Value.bool false) from rfl)) rfl (ad 1 rfl (ae (ax rfl (fun hno=>by cases hno) (fun _=>?_))))))))))
 refine dq (az (bm rfl rfl rfl (show _=some (Value.bool false) from rfl)) rfl (ad 1 rfl (ae (ax rfl (fun hno=>by cases hno) (fun _=>?_)))))
 refine dq (az (bm rfl rfl rfl (show _=some (Value.bool false) from rfl)) rfl (ad 1 rfl (ae (ax rfl (fun hno=>by cases hno) (fun _=>?_)))))
 refine dq (az (bm rfl rfl rfl (show _=some (Value.bool false) from rfl)) rfl (ad 1 rfl (ae (ax rfl (fun hno=>by cases hno) (fun _=>?_)))))
 refine dq (az (bm rfl rfl rfl (show _=some (Value.bool true) from rfl)) rfl (ad 1 rfl (ae (ax rfl (fun _=>?_) (fun hno=>by cases hno)))))
 refine af (bQ 124 (false) ?_ ?_)
 ·
  exact ah (ad 2 rfl (az (bm rfl rfl rfl (show _=some (Value.bool false) from rfl)) rfl (ad 3 rfl (dg (aR.yes rfl rfl rfl) (bm rfl rfl rfl (show _=some (Value.bool false) from rfl)) rfl rfl (ad 1 rfl (ae (aq.pz 8 rfl)))))))
 refine ax rfl (fun hno=>by cases hno) (fun _=>?_)
 refine aD (af (bg [0,3,5] [3,0,1,2] rfl (aF 6 rfl (bh 4 [132,130] [0] rfl (du (i:=1) rfl rfl rfl fJ fK) (aF 2 rfl (bf [3,0,1,2] rfl (ae (af (xx (k:=0) 12 rfl rfl (fun _=>rfl) (fun fv _=>?_))))))))))
 refine af (bg [0,3,5,6] [3,0,1,2] rfl (aF 5 rfl (bh 4 [139,137] [0] rfl (du (i:=0) rfl rfl rfl jh jj) (aF 2 rfl (bh 4 [142] [] rfl (cD rfl rfl gK) (aF 1 rfl (bf [3,0,1,2] rfl (ae (aL (cb (β:=Nat×List bL) (fun (p:Nat×List bL)=>match p with|(q,m)=>⟨[(0,(aC (.p 0 0 0 0))),(3,(aC (.p 3 0 0 0))),(5,(aC (.p 0 0 0 0))),(6,(aC (.s 2 0 5 m.length))),(142,(aC (bX s0.kept))),(143,(aI (↑s0.kept.length:Int))),(144,(aI (↑q:Int)))],[(3,(.box 69 [(cI idn),(cI 5),(cI 0),(cI au),(cI move),(cI sum)])),(0,(.box 73 ((((((((((cL x).set 5 (cI s0.bj)).set 6 (bX s0.kept)).set 7 (cI s1.bj)).set 8 (bX s1.kept)).set 9 (cI n0)).set 10 (cI n1)).set 11 (.s 1 0 5 w0.length)).set 12 (.d (.v fv))).set 19 (cI 0)))),(1,(jY w0)),(2,(jY m))],4⟩) (fun (p:Nat×List bL)=>match p with|(q,m)=>q<=s0.kept.length/\m=w1++(s0.kept.take q).map (fun t=>(⟨t,-1⟩:bL))) (fun (p:Nat×List bL)=>match p with|(q,m)=>s0.kept.length - q) (0,w1) ?_ ?_ ?_))))))))))
 ·exact ⟨aa,ca⟩
 ·exact aq.rz id
 rintro ⟨q,m⟩ ⟨hi0_0,hi0_1⟩
 have hml:m.length=w1.length+q:=by rw [hi0_1];simp;omega
 refine ag 1 rfl (af (aO rfl (fun hc7'=>?_) (fun hc7'=>?_)))
 ·
  refine aD (af (aL (dq ?_)))
  obtain ⟨x1,hx1⟩:=bO (xs:=s0.kept) (i:=q) aa
  refine az (dO (i:=q) rfl rfl rfl gK kS (aV hx1)) rfl (ad 3 rfl (ae (ah (ad 3 rfl (ay 6 [5,4,3,0,1,2] (dM (ys:=[(0,(.g [(cI x1.number),(cI x1.kind),(cI x1.ba),(cI x1.sum),(cI (-1))]))]) (rows:=([(⟨x1,(-1)⟩:bL)]).map eG) 5 jI rfl) rfl (ay 7 [6,5,4,3,0,1] (dU (m:=1) (N:=m.length+1) (k2:=6) (ys:=([(⟨x1,(-1)⟩:bL)]).map eG) jI rfl rfl rfl rfl dv) rfl (ad 1 rfl (bq (aN (then_ok (ah (bl rfl rfl rfl rfl aa (ad 1 rfl (ae (⟨(q+1,m++([(⟨x1,(-1)⟩:bL)])),⟨aa,by rw [List.take_add_one,hx1,List.map_append,<-List.append_assoc,<-hi0_1];rfl⟩,bT,aq.rz (fun k=>if k=2 then 6 else k) (by refine ⟨?_,?_,?_,?_,?_,?_,?_,trivial⟩<;>first|rfl|(simp only [fQ];done)|(congr 3;omega)|(congr 4;omega)|(simp only [fR];rfl)|(first|exact gl rfl aa|exact jR rfl (by simp only [List.length_append,List.length_cons,List.length_nil];omega)))⟩)))))))))))))))
 refine bR (aE (aE (bw (then_ok (af (bg [0,3,5,6,142,143,144] [3,0,1,2] rfl (aF 6 rfl (bh 4 [159,157] [0] rfl (du (i:=0) rfl rfl rfl kc eu) (aF 2 rfl (bM 5 [162] [] rfl (dM (ys:=[(0,(.g [(cI 0),(cI 0),(cI 0),(cI 0),(cI n0)]))]) (rows:=([(⟨(⟨0,0,0,0⟩:aZ),n0⟩:bL)]).map eG) 4 jI rfl) rfl (bM 6 [154,163] [4,2] rfl (dU (m:=1) (N:=m.length+1) (k2:=5) (ys:=([(⟨(⟨0,0,0,0⟩:aZ),n0⟩:bL)]).map eG) jI rfl rfl rfl rfl dv) rfl (bf [5,3,0,1] rfl (ad 1 rfl (ae (af (aw 1 rfl (az (dn rfl rfl rfl rfl rfl ir) rfl (ad 1 rfl (ae (aO rfl (fun hc8'=>?_) (fun hc8'=>?_)))))))))))))))))))))
 ·
  refine ah (ad 1 rfl ?_)
  have hr0:cp 0 5=5:=rfl
  refine ay 6 [0,5,3,1] (cz id id (ms:=(bY.set 19 (some (cI 0)))) (ms':=(bY.set 19 (some (cI 5)))) (fun x hx=>dV x hx 0 5 5 hr0) fr rfl) rfl (ae (bg [0,3,5,6,142,143,144] [0,5,3,1] rfl (aF 7 rfl (bh 6 [176,173] [0] rfl (du (i:=1) rfl rfl rfl fJ fK) (bf [0,5,3,1] rfl (ad 1 rfl (bq (aN (then_ok (dW (k:=0) (q:=12) (c':=(.s 5 0 5 ((m++([(⟨(⟨0,0,0,0⟩:aZ),n0⟩:bL)])).length))) rfl rfl jN rfl (ag 1 rfl (al ?_))))))))))))
  have hX:jL s0 s1 n0 n1 w0 w1 (⟨idn,5,0,au,move,sum⟩:bW)=(w0,m++([(⟨(⟨0,0,0,0⟩:aZ),n0⟩:bL)]),5):=by
    (have ht:s0.kept.take q=s0.kept:=List.take_of_length_le aa);rw [ht] at hi0_1;unfold jL;dsimp only;rw [if_pos rfl];unfold ka;rw [<-hi0_1];first|rw [if_pos fa]|rw [if_neg fa]
  rw [hX] at hr;clear hX
  simp only [Prod.mk.injEq] at hr;obtain ⟨rfl,rfl,rfl⟩:=hr
  exact bb [0,1,5] 3 rfl
 refine aD (bg [0,3,5,6] [5,3,0,1] rfl (aF 7 rfl (bh 6 [176,173] [0] rfl (du (i:=1) rfl rfl rfl fJ fK) (bf [5,3,0,1] rfl (ad 1 rfl (bq (aN (then_ok (dW (k:=0) (q:=12) (c':=(.s 5 0 5 ((m++([(⟨(⟨0,0,0,0⟩:aZ),n0⟩:bL)])).length))) rfl rfl jN rfl (ag 1 rfl (al ?_)))))))))))
 have hX:jL s0 s1 n0 n1 w0 w1 (⟨idn,5,0,au,move,sum⟩:bW)=(w0,m++([(⟨(⟨0,0,0,0⟩:aZ),n0⟩:bL)]),0):=by
   (have ht:s0.kept.take q=s0.kept:=List.take_of_length_le aa);rw [ht] at hi0_1;unfold jL;dsimp only;rw [if_pos rfl];unfold ka;rw [<-hi0_1];first|rw [if_pos fa]|rw [if_neg fa]
 rw [hX] at hr;clear hX
 simp only [Prod.mk.injEq] at hr;obtain ⟨rfl,rfl,rfl⟩:=hr
 exact bb [0,1,5] 3 rfl
theorem Ho (x:Nat->Value) (hx:∀ i,(x i).oneCell'=true) (s0 s1:bK) (n0 n1:Int) (w0 w1:List bL) (idn au move sum:Int) (l0:w0.length<=60) (l1:w1.length<=60) (m0:s0.kept.length<=40) (m1:s1.kept.length<=40) (v0:List bL) (v1:List bL) (e2:Int) (hr:jL s0 s1 n0 n1 w0 w1 (⟨idn,5,1,au,move,sum⟩:bW)=(v0,v1,e2)):cS Tryz.prog 12 [(.c (.p 0 0 0 0)),(.g [(cI idn),(cI 5),(cI 1),(cI au),(cI move),(cI sum)])] [(0,(.box 73 ((((((((((cL x).set 5 (cI s0.bj)).set 6 (bX s0.kept)).set 7 (cI s1.bj)).set 8 (bX s1.kept)).set 9 (cI n0)).set 10 (cI n1)).set 11 (.s 1 0 5 w0.length)).set 12 (.s 2 0 5 w1.length)).set 19 (cI 0)))),(1,(jY w0)),(2,(jY w1))] [0] (.v (.c (cI 0))) [(0,(.box 73 ((((((((((cL x).set 5 (cI s0.bj)).set 6 (bX s0.kept)).set 7 (cI s1.bj)).set 8 (bX s1.kept)).set 9 (cI n0)).set 10 (cI n1)).set 11 (.s 1 0 5 v0.length)).set 12 (.s 2 0 5 v1.length)).set 19 (cI e2)))),(1,(jY v0)),(2,(jY v1))]:=by
 refine cS.mk 371 [(0,(aC (.p 0 0 0 0))),(1,(aG [(cI idn),(cI 5),(cI 1),(cI au),(cI move),(cI sum)]))] 3 Tryz.func12 rfl rfl rfl rfl rfl rfl rfl rfl rfl ?_
 intro W0 F0 T0 pg
 refine ag 2 rfl (ag 4 rfl (af (ag 2 rfl (aL (dq (az (bm rfl rfl rfl (show _=some (Value.bool false) from rfl)) rfl (ad 1 rfl (ae (ax rfl (fun hno=>by cases hno) (fun _=>?_))))))))))
 refine dq (az (bm rfl rfl rfl (show _=some (Value.bool false) from rfl)) rfl (ad 1 rfl (ae (ax rfl (fun hno=>by cases hno) (fun _=>?_)))))
 refine dq (az (bm rfl rfl rfl (show _=some (Value.bool false) from rfl)) rfl (ad 1 rfl (ae (ax rfl (fun hno=>by cases hno) (fun _=>?_)))))
 refine dq (az (bm rfl rfl rfl (show _=some (Value.bool false) from rfl)) rfl (ad 1 rfl (ae (ax rfl (fun hno=>by cases hno) (fun _=>?_)))))
 refine dq (az (bm rfl rfl rfl (show _=some (Value.bool true) from rfl)) rfl (ad 1 rfl (ae (ax rfl (fun _=>?_) (fun hno=>by cases hno)))))
 refine af (bQ 124 (false) ?_ ?_)
 ·
  exact ah (ad 2 rfl (az (bm rfl rfl rfl (show _=some (Value.bool false) from rfl)) rfl (ad 3 rfl (dg (aR.yes rfl rfl rfl) (bm rfl rfl rfl (show _=some (Value.bool false) from rfl)) rfl rfl (ad 1 rfl (ae (aq.pz 8 rfl)))))))
 refine ax rfl (fun hno=>by cases hno) (fun _=>?_)
 refine aD (af (bg [0,3,5] [3,0,1,2] rfl (aF 6 rfl (bh 4 [132,130] [0] rfl (du (i:=0) rfl rfl rfl fJ fK) (aF 2 rfl (bf [3,0,1,2] rfl (ae (af (xx (k:=0) 11 rfl rfl (fun _=>rfl) (fun fv _=>?_))))))))))
 refine af (bg [0,3,5,6] [3,0,1,2] rfl (aF 5 rfl (bh 4 [139,137] [0] rfl (du (i:=1) rfl rfl rfl jh jj) (aF 2 rfl (bh 4 [142] [] rfl (cD rfl rfl gK) (aF 1 rfl (bf [3,0,1,2] rfl (ae (aL (cb (β:=Nat×List bL) (fun (p:Nat×List bL)=>match p with|(q,m)=>⟨[(0,(aC (.p 0 0 0 0))),(3,(aC (.p 3 0 0 0))),(5,(aC (.p 0 0 0 0))),(6,(aC (.s 1 0 5 m.length))),(142,(aC (bX s1.kept))),(143,(aI (↑s1.kept.length:Int))),(144,(aI (↑q:Int)))],[(3,(.box 69 [(cI idn),(cI 5),(cI 1),(cI au),(cI move),(cI sum)])),(0,(.box 73 ((((((((((cL x).set 5 (cI s0.bj)).set 6 (bX s0.kept)).set 7 (cI s1.bj)).set 8 (bX s1.kept)).set 9 (cI n0)).set 10 (cI n1)).set 11 (.d (.v fv))).set 12 (.s 2 0 5 w1.length)).set 19 (cI 0)))),(1,(jY m)),(2,(jY w1))],4⟩) (fun (p:Nat×List bL)=>match p with|(q,m)=>q<=s1.kept.length/\m=w0++(s1.kept.take q).map (fun t=>(⟨t,-1⟩:bL))) (fun (p:Nat×List bL)=>match p with|(q,m)=>s1.kept.length - q) (0,w0) ?_ ?_ ?_))))))))))
 ·exact ⟨aa,ca⟩
 ·exact aq.rz id
 rintro ⟨q,m⟩ ⟨hi0_0,hi0_1⟩
 have hml:m.length=w0.length+q:=by rw [hi0_1];simp;omega
 refine ag 1 rfl (af (aO rfl (fun hc7'=>?_) (fun hc7'=>?_)))
 ·
  refine aD (af (aL (dq ?_)))
  obtain ⟨x1,hx1⟩:=bO (xs:=s1.kept) (i:=q) aa
  refine az (dO (i:=q) rfl rfl rfl gK kS (aV hx1)) rfl (ad 3 rfl (ae (ah (ad 3 rfl (ay 6 [5,4,3,0,1,2] (dM (ys:=[(0,(.g [(cI x1.number),(cI x1.kind),(cI x1.ba),(cI x1.sum),(cI (-1))]))]) (rows:=([(⟨x1,(-1)⟩:bL)]).map eG) 5 jI rfl) rfl (ay 7 [6,5,4,3,0,2] (dU (m:=1) (N:=m.length+1) (k2:=6) (ys:=([(⟨x1,(-1)⟩:bL)]).map eG) jI rfl rfl rfl rfl dv) rfl (ad 1 rfl (bq (aN (then_ok (ah (bl rfl rfl rfl rfl aa (ad 1 rfl (ae (⟨(q+1,m++([(⟨x1,(-1)⟩:bL)])),⟨aa,by rw [List.take_add_one,hx1,List.map_append,<-List.append_assoc,<-hi0_1];rfl⟩,bT,aq.rz (fun k=>if k=1 then 6 else k) (by refine ⟨?_,?_,?_,?_,?_,?_,?_,trivial⟩<;>first|rfl|(simp only [fQ];done)|(congr 3;omega)|(congr 4;omega)|(simp only [fR];rfl)|(first|exact gl rfl aa|exact jR rfl (by simp only [List.length_append,List.length_cons,List.length_nil];omega)))⟩)))))))))))))))
 refine bR (aE (aE (bw (then_ok (af (bg [0,3,5,6,142,143,144] [3,0,1,2] rfl (aF 6 rfl (bh 4 [159,157] [0] rfl (du (i:=1) rfl rfl rfl kc eu) (aF 2 rfl (bM 5 [162] [] rfl (dM (ys:=[(0,(.g [(cI 0),(cI 0),(cI 0),(cI 0),(cI n1)]))]) (rows:=([(⟨(⟨0,0,0,0⟩:aZ),n1⟩:bL)]).map eG) 4 jI rfl) rfl (bM 6 [154,163] [4,1] rfl (dU (m:=1) (N:=m.length+1) (k2:=5) (ys:=([(⟨(⟨0,0,0,0⟩:aZ),n1⟩:bL)]).map eG) jI rfl rfl rfl rfl dv) rfl (bf [5,3,0,2] rfl (ad 1 rfl (ae (af (aw 1 rfl (az (dn rfl rfl rfl rfl rfl ir) rfl (ad 1 rfl (ae (aO rfl (fun hc8'=>?_) (fun hc8'=>?_)))))))))))))))))))))
 ·
  refine ah (ad 1 rfl ?_)
  have hr0:cp 0 5=5:=rfl
  refine ay 6 [0,5,3,2] (cz id id (ms:=(bY.set 19 (some (cI 0)))) (ms':=(bY.set 19 (some (cI 5)))) (fun x hx=>dV x hx 0 5 5 hr0) fr rfl) rfl (ae (bg [0,3,5,6,142,143,144] [0,5,3,2] rfl (aF 7 rfl (bh 6 [176,173] [0] rfl (du (i:=0) rfl rfl rfl fJ fK) (bf [0,5,3,2] rfl (ad 1 rfl (bq (aN (then_ok (dW (k:=0) (q:=11) (c':=(.s 5 0 5 ((m++([(⟨(⟨0,0,0,0⟩:aZ),n1⟩:bL)])).length))) rfl rfl jN rfl (ag 1 rfl (al ?_))))))))))))
  have hX:jL s0 s1 n0 n1 w0 w1 (⟨idn,5,1,au,move,sum⟩:bW)=(m++([(⟨(⟨0,0,0,0⟩:aZ),n1⟩:bL)]),w1,5):=by
    (have ht:s1.kept.take q=s1.kept:=List.take_of_length_le aa);rw [ht] at hi0_1;unfold jL;dsimp only;rw [if_neg cm,if_pos rfl];unfold ka;rw [<-hi0_1];first|rw [if_pos fa]|rw [if_neg fa]
  rw [hX] at hr;clear hX
  simp only [Prod.mk.injEq] at hr;obtain ⟨rfl,rfl,rfl⟩:=hr
  exact bb [0,5,2] 3 rfl
 refine aD (bg [0,3,5,6] [5,3,0,2] rfl (aF 7 rfl (bh 6 [176,173] [0] rfl (du (i:=0) rfl rfl rfl fJ fK) (bf [5,3,0,2] rfl (ad 1 rfl (bq (aN (then_ok (dW (k:=0) (q:=11) (c':=(.s 5 0 5 ((m++([(⟨(⟨0,0,0,0⟩:aZ),n1⟩:bL)])).length))) rfl rfl jN rfl (ag 1 rfl (al ?_)))))))))))
 have hX:jL s0 s1 n0 n1 w0 w1 (⟨idn,5,1,au,move,sum⟩:bW)=(m++([(⟨(⟨0,0,0,0⟩:aZ),n1⟩:bL)]),w1,0):=by
   (have ht:s1.kept.take q=s1.kept:=List.take_of_length_le aa);rw [ht] at hi0_1;unfold jL;dsimp only;rw [if_neg cm,if_pos rfl];unfold ka;rw [<-hi0_1];first|rw [if_pos fa]|rw [if_neg fa]
 rw [hX] at hr;clear hX
 simp only [Prod.mk.injEq] at hr;obtain ⟨rfl,rfl,rfl⟩:=hr
 exact bb [0,5,2] 3 rfl
theorem Hn (x:Nat->Value) (hx:∀ i,(x i).oneCell'=true) (s0 s1:bK) (n0 n1:Int) (w0 w1:List bL) (idn k au move sum:Int) (l0:w0.length<=60) (l1:w1.length<=60) (m0:s0.kept.length<=40) (m1:s1.kept.length<=40) (hn:¬k=0/\¬k=1) (v0:List bL) (v1:List bL) (e2:Int) (hr:jL s0 s1 n0 n1 w0 w1 (⟨idn,5,k,au,move,sum⟩:bW)=(v0,v1,e2)):cS Tryz.prog 12 [(.c (.p 0 0 0 0)),(.g [(cI idn),(cI 5),(cI k),(cI au),(cI move),(cI sum)])] [(0,(.box 73 ((((((((((cL x).set 5 (cI s0.bj)).set 6 (bX s0.kept)).set 7 (cI s1.bj)).set 8 (bX s1.kept)).set 9 (cI n0)).set 10 (cI n1)).set 11 (.s 1 0 5 w0.length)).set 12 (.s 2 0 5 w1.length)).set 19 (cI 0)))),(1,(jY w0)),(2,(jY w1))] [0] (.v (.c (cI 0))) [(0,(.box 73 ((((((((((cL x).set 5 (cI s0.bj)).set 6 (bX s0.kept)).set 7 (cI s1.bj)).set 8 (bX s1.kept)).set 9 (cI n0)).set 10 (cI n1)).set 11 (.s 1 0 5 v0.length)).set 12 (.s 2 0 5 v1.length)).set 19 (cI e2)))),(1,(jY v0)),(2,(jY v1))]:=by
 refine cS.mk 371 [(0,(aC (.p 0 0 0 0))),(1,(aG [(cI idn),(cI 5),(cI k),(cI au),(cI move),(cI sum)]))] 3 Tryz.func12 rfl rfl rfl rfl rfl rfl rfl rfl rfl ?_
 intro W0 F0 T0 pg
 refine ag 2 rfl (ag 4 rfl (af (ag 2 rfl (aL (dq (az (bm rfl rfl rfl (show _=some (Value.bool false) from rfl)) rfl (ad 1 rfl (ae (ax rfl (fun hno=>by cases hno) (fun _=>?_))))))))))
 refine dq (az (bm rfl rfl rfl (show _=some (Value.bool false) from rfl)) rfl (ad 1 rfl (ae (ax rfl (fun hno=>by cases hno) (fun _=>?_)))))
 refine dq (az (bm rfl rfl rfl (show _=some (Value.bool false) from rfl)) rfl (ad 1 rfl (ae (ax rfl (fun hno=>by cases hno) (fun _=>?_)))))
 refine dq (az (bm rfl rfl rfl (show _=some (Value.bool false) from rfl)) rfl (ad 1 rfl (ae (ax rfl (fun hno=>by cases hno) (fun _=>?_)))))
 refine dq (az (bm rfl rfl rfl (show _=some (Value.bool true) from rfl)) rfl (ad 1 rfl (ae (ax rfl (fun _=>?_) (fun hno=>by cases hno)))))
 refine af (bQ 124 ((decide (k < 0))||(decide (k > 1))) ?_ ?_)
 ·
  refine ah (ad 4 rfl (bz 120 rfl (fun hb6'=>?_) (fun hb6'=>?_)))
  ·
   exact ad 4 rfl (ae (aq.pz 9 rfl))
  exact ad 4 rfl (ae (aq.pz 9 rfl))
 refine ax rfl (fun hc7=>?_) (fun hc7=>?_)
 ·
  have hc7':=hc7;try simp only [aT,bx] at hc7'
  refine aw 1 rfl ?_
  have hr0:cp 0 6=6:=rfl
  refine ay 4 [0,3,1,2] (cz id id (ms:=(bY.set 19 (some (cI 0)))) (ms':=(bY.set 19 (some (cI 6)))) (fun x hx=>dV x hx 0 6 6 hr0) fr rfl) rfl (ae (ag 1 rfl (al (aj (aY (aj ?_))))))
  have hX:jL s0 s1 n0 n1 w0 w1 (⟨idn,5,k,au,move,sum⟩:bW)=(w0,w1,6):=by
    unfold jL;rw [if_neg hn.1,if_neg hn.2]
  rw [hX] at hr;clear hX
  simp only [Prod.mk.injEq] at hr;obtain ⟨rfl,rfl,rfl⟩:=hr
  exact bb [0,1,2] 3 rfl
 have hc7':=hc7;try simp only [aT,bx] at hc7'
 (exfalso;omega)
theorem Je (x:Nat->Value) (hx:∀ i,(x i).oneCell'=true) (s0 s1:bK) (n0 n1:Int) (w0 w1:List bL) (d:bW) (hk:d.kind=5) (l0:w0.length<=60) (l1:w1.length<=60) (m0:s0.kept.length<=40) (m1:s1.kept.length<=40) (v0 v1:List bL) (e2:Int) (hr:jL s0 s1 n0 n1 w0 w1 d=(v0,v1,e2)):cS Tryz.prog 12 [(.c (.p 0 0 0 0)),(.g [(cI d.id),(cI d.kind),(cI d.n),(cI d.au),(cI d.move),(cI d.sum)])] [(0,(.box 73 ((((((((((cL x).set 5 (cI s0.bj)).set 6 (bX s0.kept)).set 7 (cI s1.bj)).set 8 (bX s1.kept)).set 9 (cI n0)).set 10 (cI n1)).set 11 (.s 1 0 5 w0.length)).set 12 (.s 2 0 5 w1.length)).set 19 (cI 0)))),(1,(jY w0)),(2,(jY w1))] [0] (.v (.c (cI 0))) [(0,(.box 73 ((((((((((cL x).set 5 (cI s0.bj)).set 6 (bX s0.kept)).set 7 (cI s1.bj)).set 8 (bX s1.kept)).set 9 (cI n0)).set 10 (cI n1)).set 11 (.s 1 0 5 v0.length)).set 12 (.s 2 0 5 v1.length)).set 19 (cI e2)))),(1,(jY v0)),(2,(jY v1))]:=by
  obtain ⟨idn,kind,k,au,move,sum⟩:=d
  obtain rfl:kind=5:=hk
  by_cases h0:k=0
  ·subst h0;exact Hp x hx s0 s1 n0 n1 w0 w1 idn au move sum l0 l1 m0 m1 v0 v1 e2 hr
  by_cases h1:k=1
  ·subst h1;exact Ho x hx s0 s1 n0 n1 w0 w1 idn au move sum l0 l1 m0 m1 v0 v1 e2 hr
  ·exact Hn x hx s0 s1 n0 n1 w0 w1 idn k au move sum l0 l1 m0 m1 ⟨h0,h1⟩ v0 v1 e2 hr

theorem Jf (b:Bk) (y:List (List Int)) (ok:cH b) (hy:y.length<=1000):Fn Tryz.prog 11 [(.g [(cI b.time),(cB b.down),(jA b.ak),(dt b.due),(iQ b.an),(cI b.s0.bj),(bX b.s0.kept),(cI b.s1.bj),(bX b.s1.kept),(cI b.n0),(cI b.n1),(dj b.w0),(dj b.w1),(cI b.aQ.cap),(dt b.aQ.used),(eo b.aQ.aH),(eZ b.aM),(js y),(cE b.book)])] (.v (.g [(cI b.time),(cB b.down),(.s 0 0 6 b.ak.length),(.s 1 0 1 b.due.length),(.s 2 0 8 b.an.length),(cI b.s0.bj),(bX b.s0.kept),(cI b.s1.bj),(bX b.s1.kept),(cI b.n0),(cI b.n1),(.s 3 0 5 b.w0.length),(.s 4 0 5 b.w1.length),(cI b.aQ.cap),(dt b.aQ.used),(eo b.aQ.aH),(.s 5 0 4 b.aM.length),(.s 6 0 1 y.length),(cE b.book)])) [(0,(dS b.ak)),(1,(dR b.due)),(2,(ec b.an)),(3,(jY b.w0)),(4,(jY b.w1)),(5,(cX b.aM)),(6,(mY y))]:=by
 refine Fn.mk' 43 [(0,(aG [(cI b.time),(cB b.down),(jA b.ak),(dt b.due),(iQ b.an),(cI b.s0.bj),(bX b.s0.kept),(cI b.s1.bj),(bX b.s1.kept),(cI b.n0),(cI b.n1),(dj b.w0),(dj b.w1),(cI b.aQ.cap),(dt b.aQ.used),(eo b.aQ.aH),(eZ b.aM),(js y),(cE b.book)]))] Tryz.func11 rfl rfl rfl rfl ?_
 intro W0 T0
 refine ck 0 2 rfl rfl (fun hlen0_2=>?_)
 refine ck 0 3 rfl rfl (fun hlen0_3=>?_)
 refine ck 0 4 rfl rfl (fun hlen0_4=>?_)
 refine ck 0 6 rfl rfl (fun hlen0_6=>?_)
 refine ck 0 8 rfl rfl (fun hlen0_8=>?_)
 refine ck 0 11 rfl rfl (fun hlen0_11=>?_)
 refine ck 0 12 rfl rfl (fun hlen0_12=>?_)
 refine ck 0 14 rfl rfl (fun hlen0_14=>?_)
 refine ck 0 15 rfl rfl (fun hlen0_15=>?_)
 refine ck 0 16 rfl rfl (fun hlen0_16=>?_)
 refine ck 0 17 rfl rfl (fun hlen0_17=>?_)
 refine ck 0 18 rfl rfl (fun hlen0_18=>?_)
 obtain ⟨okt,okc,okd,oka,oky,okw0,okw1,okp,okv,okk0,okk1,okg,okl0,okl1,okp0,okp1,okn0,okn1,okq⟩:=id ok
 refine ag 2 rfl (dq (ay 3 [2,1,0] (dM (ys:=[]) (rows:=(([]:List bF)).map nD) 2 rK rfl) rfl (ad 2 rfl (ay 4 [3,1,0] (dU (m:=b.ak.length) (N:=b.ak.length) (k2:=3) (ys:=(b.ak).map nD) rK rfl rfl rfl rfl rfl) rfl (ad 2 rfl (ae (dq (ay 5 [4,3,1,0] (dM (ys:=[]) (rows:=(([]:List Int)).map rI) 4 lF rfl) rfl (ad 2 rfl (ay 6 [5,3,1,0] (dU (m:=b.due.length) (N:=b.due.length) (k2:=5) (ys:=(b.due).map rI) lF rfl rfl rfl rfl rfl) rfl (ad 2 rfl (ae (dq (ay 7 [6,5,3,1,0] (dM (ys:=[]) (rows:=(([]:List bG)).map jm) 6 nY rfl) rfl (ad 2 rfl (ay 8 [7,5,3,1,0] (dU (m:=b.an.length) (N:=b.an.length) (k2:=7) (ys:=(b.an).map jm) nY rfl rfl rfl rfl rfl) rfl (ad 2 rfl (ae (dq (ay 9 [8,7,5,3,1,0] (dM (ys:=[]) (rows:=(([]:List ar)).map dD) 8 fP rfl) rfl (ad 2 rfl (ay 10 [9,7,5,3,1,0] (dU (m:=b.aM.length) (N:=b.aM.length) (k2:=9) (ys:=(b.aM).map dD) fP rfl rfl rfl rfl rfl) rfl (ad 2 rfl (ae (dq (ay 11 [10,9,7,5,3,1,0] (dM (ys:=[]) (rows:=(([]:List (List Int))).map pT) 10 vK rfl) rfl (ad 2 rfl (ay 12 [11,9,7,5,3,1,0] (dU (m:=y.length) (N:=0+y.length) (k2:=11) (ys:=(y).map pT) vK rfl rfl rfl rfl dv) rfl (ad 2 rfl (ae (af (ag 1 rfl (aL (cb (β:=Nat) (fun i=>match i with|0=>⟨[(1,(aC (.p 0 0 0 0))),(2,(aC (.p 1 0 0 0))),(29,(aI 0))],[(11,(mY (([]:List (List Int))++y))),(9,(cX b.aM)),(7,(ec b.an)),(5,(dR b.due)),(3,(dS b.ak)),(1,(.box 43 [(cI 0),(cB false),cN,cN,cN,(cI 0),cN,(cI 0),cN,(cI 0),(cI 0),cN,cN,(cI 0),cN,cN,cN,cN,cN])),(0,(.box 43 [(cI b.time),(cB b.down),(.s 3 0 6 b.ak.length),(.s 5 0 1 b.due.length),(.s 7 0 8 b.an.length),(cI b.s0.bj),(bX b.s0.kept),(cI b.s1.bj),(bX b.s1.kept),(cI b.n0),(cI b.n1),(dj b.w0),(dj b.w1),(cI b.aQ.cap),(dt b.aQ.used),(eo b.aQ.aH),(.s 9 0 4 b.aM.length),(.s 11 0 1 (0+y.length)),(cE b.book)]))],12⟩|1=>⟨[(1,(aC (.p 0 0 0 0))),(2,(aC (.p 1 0 0 0))),(29,(aI 1))],[(12,(jY b.w0)),(11,(mY (([]:List (List Int))++y))),(9,(cX b.aM)),(7,(ec b.an)),(5,(dR b.due)),(3,(dS b.ak)),(1,(.box 43 [(cI 0),(cB false),cN,cN,cN,(cI 0),cN,(cI 0),cN,(cI 0),(cI 0),cN,cN,(cI 0),cN,cN,cN,cN,cN])),(0,(.box 43 [(cI b.time),(cB b.down),(.s 3 0 6 b.ak.length),(.s 5 0 1 b.due.length),(.s 7 0 8 b.an.length),(cI b.s0.bj),(bX b.s0.kept),(cI b.s1.bj),(bX b.s1.kept),(cI b.n0),(cI b.n1),(.s 12 0 5 b.w0.length),(dj b.w1),(cI b.aQ.cap),(dt b.aQ.used),(eo b.aQ.aH),(.s 9 0 4 b.aM.length),(.s 11 0 1 (0+y.length)),(cE b.book)]))],13⟩|_=>⟨[(1,(aC (.p 0 0 0 0))),(2,(aC (.p 1 0 0 0))),(29,(aI 2))],[(13,(jY b.w1)),(12,(jY b.w0)),(11,(mY (([]:List (List Int))++y))),(9,(cX b.aM)),(7,(ec b.an)),(5,(dR b.due)),(3,(dS b.ak)),(1,(.box 43 [(cI 0),(cB false),cN,cN,cN,(cI 0),cN,(cI 0),cN,(cI 0),(cI 0),cN,cN,(cI 0),cN,cN,cN,cN,cN])),(0,(.box 43 [(cI b.time),(cB b.down),(.s 3 0 6 b.ak.length),(.s 5 0 1 b.due.length),(.s 7 0 8 b.an.length),(cI b.s0.bj),(bX b.s0.kept),(cI b.s1.bj),(bX b.s1.kept),(cI b.n0),(cI b.n1),(.s 12 0 5 b.w0.length),(.s 13 0 5 b.w1.length),(cI b.aQ.cap),(dt b.aQ.used),(eo b.aQ.aH),(.s 9 0 4 b.aM.length),(.s 11 0 1 (0+y.length)),(cE b.book)]))],14⟩) (fun _=>True) (fun i=>2 - i) 0 trivial (aq.rz id) ?_))))))))))))))))))))))))))))))))))
 rintro (_|_|_) _
 ·
  refine dq (az (bm rfl rfl rfl (show _=some (Value.bool true) from rfl)) rfl (ae (af (ax rfl (fun _=>?_) (fun hno=>by cases hno)))))
  refine aD (af (aL (ag 2 rfl (ah (ad 1 rfl (ay 13 [12,11,9,7,5,3,1,0] (dM (ys:=[]) (rows:=(([]:List bL)).map eG) 12 jI rfl) rfl (ad 2 rfl (az (du (i:=0) rfl rfl rfl fJ fK) rfl (ad 1 rfl (ay 14 [13,11,9,7,5,3,1,0] (dU (m:=b.w0.length) (N:=b.w0.length) (k2:=13) (ys:=(b.w0).map eG) jI rfl rfl rfl rfl rfl) rfl (ad 1 rfl (az (du (i:=0) rfl rfl rfl fJ fK) rfl (ad 1 rfl (bq (aN (then_ok (ah (ad 2 rfl (ae (⟨1,trivial,by decide,aq.rz (fun k=>if k=12 then 13 else k)⟩))))))))))))))))))))
 ·
  refine dq (az (bm rfl rfl rfl (show _=some (Value.bool true) from rfl)) rfl (ae (af (ax rfl (fun _=>?_) (fun hno=>by cases hno)))))
  refine aD (af (aL (ag 2 rfl (ah (ad 1 rfl (ay 14 [13,12,11,9,7,5,3,1,0] (dM (ys:=[]) (rows:=(([]:List bL)).map eG) 13 jI rfl) rfl (ad 2 rfl (az (du (i:=1) rfl rfl rfl fJ fK) rfl (ad 1 rfl (ay 15 [14,12,11,9,7,5,3,1,0] (dU (m:=b.w1.length) (N:=b.w1.length) (k2:=14) (ys:=(b.w1).map eG) jI rfl rfl rfl rfl rfl) rfl (ad 1 rfl (az (du (i:=1) rfl rfl rfl fJ fK) rfl (ad 1 rfl (bq (aN (then_ok (ah (ad 2 rfl (ae (⟨2,trivial,by decide,aq.rz (fun k=>if k=13 then 14 else k)⟩))))))))))))))))))))
 refine dq (az (bm rfl rfl rfl (show _=some (Value.bool false) from rfl)) rfl (ae (af (ax rfl (fun hno=>by cases hno) (fun _=>?_)))))
 exact bR (aE (aE (bw (then_ok (ag 2 rfl (al (bb [3,5,7,12,13,9,11,1] 7 rfl)))))))
end Go.Proofs.YtnfopdlnboeheaaGreat.Dev
