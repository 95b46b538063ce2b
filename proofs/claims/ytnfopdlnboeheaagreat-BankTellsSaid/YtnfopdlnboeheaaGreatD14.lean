/- A part of the proof: Day13, Ref1, Ref2, Ref3, Ref4, Sh42, Sh43, Ref5. No condition. -/
import Derived.Test.YtnfopdlnboeheaaGreatD13
set_option linter.unusedVariables false
set_option linter.unusedSimpArgs false
set_option maxHeartbeats 8000000
set_option maxRecDepth 100000
namespace Go.Proofs.YtnfopdlnboeheaaGreat.Dev
open Go.RowKit

theorem An (l:List ar) (hl:l.length * 32<=140737488355328) (x:List Int) (f:cM) (hr:iy l=(x,f)):Fn Tryz.prog 30 [(.c (eZ l))] (.t [(.c (.s 0 0 1 x.length)),(.g [(cI f.err),(cI f.at_)])]) [(0,(xu x))]:=by
 refine Fn.mk' 74 [(0,(aC (eZ l)))] Tryz.func30 rfl rfl rfl rfl ?_
 intro W0 T0
 refine dE 0 rfl (fun hlen0=>?_)
 refine ag 2 rfl (af (aw 1 rfl ?_))
 obtain ⟨f0,hr0⟩:∃ (f0:cM),fL l=f0:=⟨_,rfl⟩
 refine ay 1 [0] (cA 1 (zt l f0 hr0) Lp rfl) rfl (ad 2 rfl (ae (ag 3 rfl (aO rfl (fun hc1'=>?_) (fun hc1'=>?_)))))
 ·
  refine af (bg [0,3,4] [1,0] rfl (aF 2 rfl (bf [1,0] rfl (ad 1 rfl (ae (al (aj (cW (aq.nil 2 5 1 cm rfl) ?_))))))))
  have hX:iy l=(([]:List Int),f0):=by
    unfold iy;rw [if_neg (by rw [hr0];omega),hr0]
  cases hX.symm.trans hr;clear hX
  exact aS [2,0] 1 rfl
 refine aD ?_
 have hw:(fL l).err=0:=by rw [hr0];omega
 have hok:=wo.1 hw
 refine aw 1 rfl (az (cD rfl rfl dQ) rfl (az (eW rfl rfl (by rw [Tryz.underlying3];rfl) mW ic) rfl (ay 3 [2,1,0] (dM (ys:=[(0,(.c (.d (.v (.int .u8 ((↑l.length:Int) % 256))))))]) (rows:=([(↑l.length:Int) % 256]).map lO) 2 pQ rfl) rfl (ad 1 rfl (ae (ag 1 rfl (af (aw 1 rfl ?_))))))))
 obtain ⟨r1,hr1⟩:∃ (r1:List ar),iI l=r1:=⟨_,rfl⟩
 have hlr:r1.length=l.length:=by rw [<-hr1];exact rH _
 have hrok:∀ x∈r1,yx x:=fun x hx=>hok.2 x ((ou l).mem.2 (by rw [hr1];exact hx))
 refine ay 4 [3,2,1,0] (cA 3 (zu l aa r1 hr1) Lo rfl) rfl (az (dn rfl rfl rfl rfl rfl dQ) rfl (ad 1 rfl (ae (aL (cb (β:=Nat×List Int×Int) (fun (p:Nat×List Int×Int)=>match p with|(q,m,all)=>⟨[(2,(aC cN)),(3,(aC (.p 0 0 0 0))),(5,(aC (.s 2 0 1 m.length))),(6,(aI all)),(20,(aC (.s 3 0 4 r1.length))),(21,(aI (↑r1.length:Int))),(22,(aI (↑q:Int)))],[(3,(cX r1)),(2,(xu m)),(0,(.box 47 [(cI 0),(cI 0)]))],4⟩) (fun (p:Nat×List Int×Int)=>match p with|(q,m,all)=>q<=r1.length/\m=nE l (r1.take q)/\all=nW (r1.take q)/\0<=all/\all<=1000000 * (q:Int)) (fun (p:Nat×List Int×Int)=>match p with|(q,m,all)=>r1.length - q) (0,[(↑l.length:Int) % 256],0) ?_ ?_ ?_)))))
 ·exact ⟨aa,by simp [nE],rfl,aa⟩
 ·exact aq.rz id
 rintro ⟨q,m,all⟩ ⟨hi0_0,hi0_1,hi0_2,hi0_3⟩
 have hml:m.length=1+6 * q:=by rw [hi0_1,xb,List.length_take];omega
 refine ag 1 rfl (af (aO rfl (fun hc2'=>?_) (fun hc2'=>?_)))
 ·
  refine aD (af (aL (dq (az (cU (i:=q) rfl rfl rfl dQ cY) rfl ?_))))
  obtain ⟨x1,hx1⟩:=bO (xs:=r1) (i:=q) aa
  have hx1b:=Gp (hrok x1 (List.mem_of_getElem? hx1))
  refine az (dk rfl rfl rfl iR rfl cY (aV hx1) rfl) rfl (ad 2 rfl (ae (aw 3 rfl (az (eW rfl rfl (by rw [Tryz.underlying3];rfl) mW ic) rfl (ad 2 rfl (az (eW rfl rfl (by rw [Tryz.underlying3];rfl) mW ic) rfl (ad 2 rfl (az (eW rfl rfl (by rw [Tryz.underlying3];rfl) mW ic) rfl (ad 2 rfl (az (vj rfl rfl rfl cm aa rfl) rfl (az (eW rfl rfl (by rw [Tryz.underlying3];rfl) mW ic) rfl (ad 2 rfl (az (vj rfl rfl rfl cm aa rfl) rfl (az (vi rfl rfl rfl cm aa rfl) rfl (az (eW rfl rfl (by rw [Tryz.underlying3];rfl) mW ic) rfl (ad 2 rfl (az (vi rfl rfl rfl cm aa rfl) rfl (az (eW rfl rfl (by rw [Tryz.underlying3];rfl) mW ic) rfl (ay 6 [5,4,3,2,0] (dM (ys:=[(0,(.c (.d (.v (.int .u8 (x1.au % 256)))))),(1,(.c (.d (.v (.int .u8 (x1.ba % 256)))))),(2,(.c (.d (.v (.int .u8 (x1.kind % 256)))))),(3,(.c (.d (.v (.int .u8 ((x1.sum / 65536) % 256)))))),(4,(.c (.d (.v (.int .u8 (((x1.sum / 256) % 256) % 256)))))),(5,(.c (.d (.v (.int .u8 ((x1.sum % 256) % 256))))))]) (rows:=([x1.au % 256,x1.ba % 256,x1.kind % 256,(x1.sum / 65536) % 256,((x1.sum / 256) % 256) % 256,(x1.sum % 256) % 256]).map lO) 5 pQ rfl) rfl (ay 7 [6,5,4,3,0] (dU (m:=6) (N:=m.length+6) (k2:=6) (ys:=([x1.au % 256,x1.ba % 256,x1.kind % 256,(x1.sum / 65536) % 256,((x1.sum / 256) % 256) % 256,(x1.sum % 256) % 256]).map lO) pQ rfl rfl rfl rfl dv) rfl (ad 1 rfl (ae (ah (ad 3 rfl (bl rfl rfl rfl rfl aa (ad 1 rfl (bq (aN (then_ok (ah (bl rfl rfl rfl rfl aa (ad 1 rfl (ae (⟨(q+1,m++([x1.au % 256,x1.ba % 256,x1.kind % 256,(x1.sum / 65536) % 256,((x1.sum / 256) % 256) % 256,(x1.sum % 256) % 256]),all+x1.sum),⟨aa,by rw [ve hx1,<-hi0_1];unfold vO;rw [LW];simp,by rw [wy hx1,<-hi0_2],aa⟩,bT,aq.rz (fun k=>if k=2 then 6 else k) (by refine ⟨?_,?_,?_,?_,?_,?_,?_,trivial⟩<;>first|rfl|(simp only [fQ];done)|(congr 3;omega)|(congr 4;omega)|(simp only [fR];rfl)|(first|exact gl rfl aa|exact jR rfl (by simp only [List.length_append,List.length_take,List.length_drop,List.length_cons,List.length_nil];omega)))⟩))))))))))))))))))))))))))))))))))
 refine bR (aE (aE (bw (then_ok (aw 2 rfl (az (vj rfl rfl rfl cm aa rfl) rfl (az (eW rfl rfl (by rw [Tryz.underlying3];rfl) mW ic) rfl (ad 1 rfl (az (vj rfl rfl rfl cm aa rfl) rfl (az (vi rfl rfl rfl cm aa rfl) rfl (az (eW rfl rfl (by rw [Tryz.underlying3];rfl) mW ic) rfl (ad 1 rfl (az (vj rfl rfl rfl cm aa rfl) rfl (az (vi rfl rfl rfl cm aa rfl) rfl (az (eW rfl rfl (by rw [Tryz.underlying3];rfl) mW ic) rfl (ad 1 rfl (az (vi rfl rfl rfl cm aa rfl) rfl (az (eW rfl rfl (by rw [Tryz.underlying3];rfl) mW ic) rfl (ay 5 [4,3,2,0] (dM (ys:=[(0,(.c (.d (.v (.int .u8 ((all / 16777216) % 256)))))),(1,(.c (.d (.v (.int .u8 (((all / 65536) % 256) % 256)))))),(2,(.c (.d (.v (.int .u8 (((all / 256) % 256) % 256)))))),(3,(.c (.d (.v (.int .u8 ((all % 256) % 256))))))]) (rows:=([(all / 16777216) % 256,((all / 65536) % 256) % 256,((all / 256) % 256) % 256,(all % 256) % 256]).map lO) 4 pQ rfl) rfl (ay 6 [5,4,3,0] (dU (m:=4) (N:=m.length+4) (k2:=5) (ys:=([(all / 16777216) % 256,((all / 65536) % 256) % 256,((all / 256) % 256) % 256,(all % 256) % 256]).map lO) pQ rfl rfl rfl rfl dv) rfl (ad 3 rfl (ae (al ?_)))))))))))))))))))))))
 have hX:iy l=(m++([(all / 16777216) % 256,((all / 65536) % 256) % 256,((all / 256) % 256) % 256,(all % 256) % 256]),(⟨0,0⟩:cM)):=by
   have ht:r1.take q=r1:=List.take_of_length_le aa
   rw [ht] at hi0_1 hi0_2
   unfold iy
   rw [if_pos hw,hr1,<-hi0_1,<-hi0_2]
   rw [LV];simp
 cases hX.symm.trans hr;clear hX
 exact aS [5,0] 1 rfl

theorem dV (x:Nat->Value) (hx:∀ i,(x i).oneCell'=true) (e err:Int) (e2:Int) (hr:cp e err=e2):cS Tryz.prog 21 [(.c (.p 0 0 0 0)),(.c (cI err))] [(0,(.box 73 ((cL x).set 19 (cI e))))] [0] (.v (.c (cB (decide (¬e2=0))))) [(0,(.box 73 ((cL x).set 19 (cI e2))))]:=by
 refine cS.mk 19 [(0,(aC (.p 0 0 0 0))),(1,(aI err))] 1 Tryz.func21 rfl rfl rfl rfl rfl rfl rfl rfl rfl ?_
 intro W0 F0 T0 pg
 refine ag 1 rfl (af (ag 5 rfl (aO rfl (fun hc1'=>?_) (fun hc1'=>?_))))
 ·
  refine ah (ad 5 rfl (ae (ag 6 rfl (al ?_))))
  have hX:cp e err=err:=by
    (unfold cp;try dsimp only);exact sx
  rw [hX] at hr;clear hX
  subst hr
  exact bb [0] 1 rfl
 refine aD (ag 6 rfl (al ?_))
 have hX:cp e err=e:=by
   (unfold cp;try dsimp only);exact sx
 rw [hX] at hr;clear hX
 subst hr
 exact bb [0] 1 rfl

theorem iE (x:Nat->Value) (hx:∀ i,(x i).oneCell'=true) (l:List Entry) (e src dst n:Int) (l2:List Entry) (e2:Int) (hr:dp l e src dst n=(l2,e2)):cS Tryz.prog 23 [(.c (.p 0 0 0 0)),(.c (cI src)),(.c (cI dst)),(.c (cI n))] [(0,(.box 73 (((cL x).set 18 (cE l)).set 19 (cI e))))] [0] (.t []) [(0,(.box 73 (((cL x).set 18 (cE l2)).set 19 (cI e2))))]:=by
 refine cS.mk 31 [(0,(aC (.p 0 0 0 0))),(1,(aI src)),(2,(aI dst)),(3,(aI n))] 1 Tryz.func23 rfl rfl rfl rfl rfl rfl rfl rfl rfl ?_
 intro W0 F0 T0 pg
 refine aw 8 rfl ?_
 obtain ⟨r0,e0,hr0⟩:∃ (r0:List Entry) (e0:Int),jQ l src dst n=(r0,e0):=⟨_,_,rfl⟩
 refine ay 1 [0] (cA 1 (Fn.frozen (av':=(.t [(.c (cE r0)),(.c (cI e0))])) (CD l src dst n r0 e0 hr0) ⟨.inr ⟨_,_,_,_,_,rfl,rfl,rfl,ca⟩,.inl ⟨_,rfl,rfl⟩,trivial⟩) Lu rfl) rfl (ad 5 rfl (ae (aw 2 rfl ?_)))
 obtain ⟨e21,hr1⟩:∃ (e21:Int),cp e e0=e21:=⟨_,rfl⟩
 refine ay 1 [0] (cz id id (ms:=(bY.set 19 (some (cI e)))) (ms':=(bY.set 19 (some (cI e21)))) (fun x hx=>dV x hx e e0 e21 hr1) fr rfl) rfl (ad 1 rfl (ae (ax rfl (fun hc1=>?_) (fun hc1=>?_))))
 ·
  have hc1':=hc1;try simp only [aT,bx] at hc1'
  refine ah (ad 6 rfl (bq ?_))
  have hX:dp l e src dst n=(r0,e21):=by
    unfold dp;simp only [hr0,hr1];exact sx
  cases hX.symm.trans hr;clear hX
  refine cJ bn [0] 1 rfl rfl rfl rfl rfl rfl ?_ ?_
  all_goals first|rfl|(simp [cq,cf,cL];done)|(simp [cq,cf,cL];omega)
 have hc1':=hc1;try simp only [aT,bx] at hc1'
 refine cv ?_
 have hX:dp l e src dst n=(l,e21):=by
   unfold dp;simp only [hr0,hr1];exact sx
 cases hX.symm.trans hr;clear hX
 refine cJ bn [0] 1 rfl rfl rfl rfl rfl rfl ?_ ?_
 all_goals first|rfl|(simp [cq,cf,cL];done)|(simp [cq,cf,cL];omega)
theorem ql (x:Nat->Value) (hx:∀ i,(x i).oneCell'=true) (l:List bF) (e k held bB:Int) (hk:0<=k/\k < l.length) (l2:List bF) (e2:Int) (hr:cP l e k held bB=(l2,e2)):cS Tryz.prog 22 [(.c (.p 0 0 0 0)),(.c (cI k)),(.c (cI held)),(.c (cI bB))] [(0,(.box 73 (((cL x).set 2 (.s 1 0 6 l.length)).set 19 (cI e)))),(1,(dS l))] [0] (.t []) [(0,(.box 73 (((cL x).set 2 (.s 1 0 6 l2.length)).set 19 (cI e2)))),(1,(dS l2))]:=by
 refine cS.mk 36 [(0,(aC (.p 0 0 0 0))),(1,(aI k)),(2,(aI held)),(3,(aI bB))] 2 Tryz.func22 rfl rfl rfl rfl rfl rfl rfl rfl rfl ?_
 intro W0 F0 T0 pg
 refine aw 6 rfl (az (cU (i:=Int.toNat (k)) rfl rfl rfl gy gX) rfl ?_)
 obtain ⟨x1,hx1⟩:=bO (xs:=l) (i:=Int.toNat (k)) aa
 refine az (dk rfl rfl rfl rB rfl gX (aV hx1) rfl) rfl (ad 2 rfl ?_)
 obtain ⟨xr0,e0,hr0⟩:∃ (xr0:bF) (e0:Int),eg x1 held bB=(xr0,e0):=⟨_,_,rfl⟩
 refine ay 2 [0,1] (cA 2 (Fn.frozen (av':=(.t [(.g [(cI xr0.bB),(cI xr0.held),(cI xr0.bJ.cw),(cI xr0.bJ.count),(cI xr0.bJ.sum),(eF xr0.cO)]),(.c (cI e0))])) (Al x1 held bB xr0 e0 hr0) ⟨⟨.inl ⟨_,rfl,rfl⟩,.inl ⟨_,rfl,rfl⟩,.inl ⟨_,rfl,rfl⟩,.inl ⟨_,rfl,rfl⟩,.inl ⟨_,rfl,rfl⟩,.inl ⟨_,rfl,rfl⟩,trivial⟩,.inl ⟨_,rfl,rfl⟩,trivial⟩) Lv rfl) rfl (ad 6 rfl (ae (aw 2 rfl ?_)))
 obtain ⟨e21,hr1⟩:∃ (e21:Int),cp e e0=e21:=⟨_,rfl⟩
 refine ay 3 [0,2,1] (cz id id (ms:=(bY.set 19 (some (cI e)))) (ms':=(bY.set 19 (some (cI e21)))) (fun x hx=>dV x hx e e0 e21 hr1) fr rfl) rfl (ad 1 rfl (ae (ax rfl (fun hc1=>?_) (fun hc1=>?_))))
 ·
  have hc1':=hc1;try simp only [aT,bx] at hc1'
  refine bg [0,1,8] [0,2,1] rfl (aF 7 rfl (bh 3 [32,33] [1] rfl (cU (i:=Int.toNat (k)) rfl rfl rfl gy gX) (bf [0,2,1] rfl (eP [0,2,1] (dK (ds:=[(dI xr0.bB),(dI xr0.held),(dI xr0.bJ.cw),(dI xr0.bJ.count),(dI xr0.bJ.sum),(Br xr0.cO)]) rfl rfl rfl rfl rfl gX rfl (Nat.le_of_ble_eq_true rfl) (aV hx1) rfl (eE (x':=xr0) rfl)) rfl (bq ?_)))))
  have hX:cP l e k held bB=((l).set (Int.toNat (k)) xr0,e21):=by
    rw [my hx1];simp only [hr0,hr1];exact sx
  cases hX.symm.trans hr;clear hX
  refine cJ bn [0,1] 2 rfl rfl rfl rfl rfl rfl ?_ ?_
  all_goals first|rfl|(simp [cq,cf,cL];done)|(simp [cq,cf,cL];omega)
 have hc1':=hc1;try simp only [aT,bx] at hc1'
 refine cv ?_
 have hX:cP l e k held bB=(l,e21):=by
   rw [my hx1];simp only [hr0,hr1];exact sx
 cases hX.symm.trans hr;clear hX
 refine cJ bn [0,1] 2 rfl rfl rfl rfl rfl rfl ?_ ?_
 all_goals first|rfl|(simp [cq,cf,cL];done)|(simp [cq,cf,cL];omega)
theorem uu (x:Nat->Value) (hx:∀ i,(x i).oneCell'=true) (s:bK) (e kind ba n:Int) (hI:∀ t∈s.kept,fb t.number) (s2:bK) (e2:Int) (hr:ej s e (⟨0,kind,ba,n⟩:aZ)=(s2,e2)):cS Tryz.prog 47 [(.c (.p 0 0 0 0)),(.c (cI 0)),(.c (cI kind)),(.c (cI ba)),(.c (cI n))] [(0,(.box 73 ((((cL x).set 5 (cI s.bj)).set 6 (bX s.kept)).set 19 (cI e))))] [0] (.t []) [(0,(.box 73 ((((cL x).set 5 (cI s2.bj)).set 6 (bX s2.kept)).set 19 (cI e2))))]:=by
 refine cS.mk 38 [(0,(aC (.p 0 0 0 0))),(1,(aI 0)),(2,(aI kind)),(3,(aI ba)),(4,(aI n))] 1 Tryz.func47 rfl rfl rfl rfl rfl rfl rfl rfl rfl ?_
 intro W0 F0 T0 pg
 refine aw 5 rfl (az (du (i:=0) rfl rfl rfl jh jj) rfl (ad 5 rfl ?_))
 obtain ⟨xr0,e0,hr0⟩:∃ (xr0:bK) (e0:Int),gL s (⟨0,kind,ba,n⟩:aZ)=(xr0,e0):=⟨_,_,rfl⟩
 refine ay 1 [0] (cA 1 (Fn.frozen (av':=(.t [(.g [(cI xr0.bj),(bX xr0.kept)]),(.c (cI e0))])) (xl s (⟨0,kind,ba,n⟩:aZ) (by first|assumption|exact iU dr aa|exact ia dr dr|(simp [fb];done)) xr0 e0 hr0) ⟨⟨.inl ⟨_,rfl,rfl⟩,.inr ⟨_,_,_,_,_,rfl,rfl,rfl,ca⟩,trivial⟩,.inl ⟨_,rfl,rfl⟩,trivial⟩) IE rfl) rfl (ad 6 rfl (ae (aw 2 rfl ?_)))
 obtain ⟨e21,hr1⟩:∃ (e21:Int),cp e e0=e21:=⟨_,rfl⟩
 refine ay 2 [0,1] (cz id id (ms:=(bY.set 19 (some (cI e)))) (ms':=(bY.set 19 (some (cI e21)))) (fun x hx=>dV x hx e e0 e21 hr1) fr rfl) rfl (ad 1 rfl (ae (ax rfl (fun hc1=>?_) (fun hc1=>?_))))
 ·
  have hc1':=hc1;try simp only [aT,bx] at hc1'
  refine bg [0,1,10] [0,1] rfl (aF 6 rfl (bh 2 [36,32] [0] rfl (du (i:=0) rfl rfl rfl jh jj) (bf [0,1] rfl (ad 1 rfl (bq ?_)))))
  have hX:ej s e (⟨0,kind,ba,n⟩:aZ)=(xr0,e21):=by
    unfold ej;simp only [hr0,hr1];exact sx
  cases hX.symm.trans hr;clear hX
  refine cJ bn [0] 1 rfl rfl rfl rfl rfl rfl ?_ ?_
  all_goals first|rfl|(simp [cq,cf,cL];done)|(simp [cq,cf,cL];omega)
 have hc1':=hc1;try simp only [aT,bx] at hc1'
 refine cv ?_
 have hX:ej s e (⟨0,kind,ba,n⟩:aZ)=(s,e21):=by
   unfold ej;simp only [hr0,hr1];exact sx
 cases hX.symm.trans hr;clear hX
 refine cJ bn [0] 1 rfl rfl rfl rfl rfl rfl ?_ ?_
 all_goals first|rfl|(simp [cq,cf,cL];done)|(simp [cq,cf,cL];omega)
theorem FM (x:Nat->Value) (hx:∀ i,(x i).oneCell'=true) (s:bK) (e kind ba n:Int) (hI:∀ t∈s.kept,fb t.number) (s2:bK) (e2:Int) (hr:ej s e (⟨0,kind,ba,n⟩:aZ)=(s2,e2)):cS Tryz.prog 47 [(.c (.p 0 0 0 0)),(.c (cI 1)),(.c (cI kind)),(.c (cI ba)),(.c (cI n))] [(0,(.box 73 ((((cL x).set 7 (cI s.bj)).set 8 (bX s.kept)).set 19 (cI e))))] [0] (.t []) [(0,(.box 73 ((((cL x).set 7 (cI s2.bj)).set 8 (bX s2.kept)).set 19 (cI e2))))]:=by
 refine cS.mk 38 [(0,(aC (.p 0 0 0 0))),(1,(aI 1)),(2,(aI kind)),(3,(aI ba)),(4,(aI n))] 1 Tryz.func47 rfl rfl rfl rfl rfl rfl rfl rfl rfl ?_
 intro W0 F0 T0 pg
 refine aw 5 rfl (az (du (i:=1) rfl rfl rfl jh jj) rfl (ad 5 rfl ?_))
 obtain ⟨xr0,e0,hr0⟩:∃ (xr0:bK) (e0:Int),gL s (⟨0,kind,ba,n⟩:aZ)=(xr0,e0):=⟨_,_,rfl⟩
 refine ay 1 [0] (cA 1 (Fn.frozen (av':=(.t [(.g [(cI xr0.bj),(bX xr0.kept)]),(.c (cI e0))])) (xl s (⟨0,kind,ba,n⟩:aZ) (by first|assumption|exact iU dr aa|exact ia dr dr|(simp [fb];done)) xr0 e0 hr0) ⟨⟨.inl ⟨_,rfl,rfl⟩,.inr ⟨_,_,_,_,_,rfl,rfl,rfl,ca⟩,trivial⟩,.inl ⟨_,rfl,rfl⟩,trivial⟩) IE rfl) rfl (ad 6 rfl (ae (aw 2 rfl ?_)))
 obtain ⟨e21,hr1⟩:∃ (e21:Int),cp e e0=e21:=⟨_,rfl⟩
 refine ay 2 [0,1] (cz id id (ms:=(bY.set 19 (some (cI e)))) (ms':=(bY.set 19 (some (cI e21)))) (fun x hx=>dV x hx e e0 e21 hr1) fr rfl) rfl (ad 1 rfl (ae (ax rfl (fun hc1=>?_) (fun hc1=>?_))))
 ·
  have hc1':=hc1;try simp only [aT,bx] at hc1'
  refine bg [0,1,10] [0,1] rfl (aF 6 rfl (bh 2 [36,32] [0] rfl (du (i:=1) rfl rfl rfl jh jj) (bf [0,1] rfl (ad 1 rfl (bq ?_)))))
  have hX:ej s e (⟨0,kind,ba,n⟩:aZ)=(xr0,e21):=by
    unfold ej;simp only [hr0,hr1];exact sx
  cases hX.symm.trans hr;clear hX
  refine cJ bn [0] 1 rfl rfl rfl rfl rfl rfl ?_ ?_
  all_goals first|rfl|(simp [cq,cf,cL];done)|(simp [cq,cf,cL];omega)
 have hc1':=hc1;try simp only [aT,bx] at hc1'
 refine cv ?_
 have hX:ej s e (⟨0,kind,ba,n⟩:aZ)=(s,e21):=by
   unfold ej;simp only [hr0,hr1];exact sx
 cases hX.symm.trans hr;clear hX
 refine cJ bn [0] 1 rfl rfl rfl rfl rfl rfl ?_ ?_
 all_goals first|rfl|(simp [cq,cf,cL];done)|(simp [cq,cf,cL];omega)

theorem Bt (x:Nat->Value) (hx:∀ i,(x i).oneCell'=true) (b:Bk) (ok:cH b) (b2:Bk) (e2:Int) (hr:mH b=(b2,e2)):cS Tryz.prog 26 [(.c (.p 0 0 0 0))] [(0,(.box 73 (cf b 1 2 3 4 (.d (.v (x 17))) (cI 0)))),(1,(dS b.ak)),(2,(dR b.due)),(3,(ec b.an)),(4,(cX b.aM))] [0] (.t []) [(0,(.box 73 (cf b2 1 2 3 4 (.d (.v (x 17))) (cI e2)))),(1,(dS b2.ak)),(2,(dR b2.due)),(3,(ec b2.an)),(4,(cX b2.aM))]:=by
 refine cS.mk 41 [(0,(aC (.p 0 0 0 0)))] 5 Tryz.func26 rfl rfl rfl rfl rfl rfl rfl rfl rfl ?_
 intro W0 F0 T0 pg
 obtain ⟨okt,okc,okd,oka,oky,okw0,okw1,okp,okv,okk0,okk1,okg,okl0,okl1,okp0,okp1,okn0,okn1,okq⟩:=id ok
 refine aw 5 rfl (az (dn rfl rfl rfl rfl rfl hG) rfl (ad 1 rfl (ae (aL (cb (β:=Nat×List bF×List bG×Int) (fun (p:Nat×List bF×List bG×Int)=>match p with|(q,cs,xs,e)=>⟨[(0,(aC (.p 0 0 0 0))),(9,(aC (.s 3 0 8 xs.length))),(10,(aI (↑b.an.length:Int))),(11,(aI (↑q:Int)))],[(0,(.box 73 (((cf b 1 2 3 4 (.d (.v (x 17))) (cI e)).set 2 (.s 1 0 6 cs.length)).set 4 (.s 3 0 8 xs.length)))),(1,(dS cs)),(2,(dR b.due)),(3,(ec xs)),(4,(cX b.aM))],5⟩) (fun (p:Nat×List bF×List bG×Int)=>match p with|(q,cs,xs,e)=>q<=b.an.length/\fU b.time b.an 0 b.ak b.an 0=fU b.time (b.an.drop q) q cs xs e/\cs.length=b.ak.length/\xs.length=b.an.length/\(∀ i,q<=i->xs[i]?=b.an[i]?)) (fun (p:Nat×List bF×List bG×Int)=>match p with|(q,cs,xs,e)=>b.an.length - q) (0,b.ak,b.an,0) ?_ ?_ ?_)))))
 ·exact ⟨aa,rfl,rfl,rfl,fun _ _=>rfl⟩
 ·exact aq.rz id
 rintro ⟨q,cs,xs,e⟩ ⟨hi0_0,hi0_1,hi0_2,hi0_3,hi0_4⟩
 refine ag 1 rfl (af (aO rfl (fun hc1'=>?_) (fun hc1'=>?_)))
 ·
  refine aD (af (aL (aw 1 rfl (az (cU (i:=q) rfl rfl rfl hG ji) rfl ?_))))
  obtain ⟨x1,hx1⟩:=bO (xs:=xs) (i:=q) aa
  have hx1w:=okp x1 (List.mem_of_getElem? (show b.an[q]?=some x1 by rw [<-hi0_4 q aa];exact hx1))
  have hx1A:=hx1w.2
  replace hx1w:=hx1w.1
  refine az (dk rfl rfl rfl tI rfl ji (aV hx1) rfl) rfl (ad 3 rfl (ae (af ?_)))
  obtain ⟨b0,hr0⟩:∃ (b0:bG),dF x1 b.time=b0:=⟨_,rfl⟩
  have hlw:bI b0=0:=by rw [<-hr0];exact qg hx1w
  refine bg [0,9,10,11,3,2] [5,0,1,2,3,4] rfl (aF 6 rfl (bM 6 [16,21] [] rfl (cA 6 (CE x1 b.time b0 hr0) Lq rfl) rfl (bC (n':=7) (kn:=[]) bn 1 rfl trivial (bf [6,5,0,1,2,3,4] rfl (ad 1 rfl (ae (af ?_)))))))
  obtain ⟨e1,hr1⟩:∃ (e1:Int),bE b0=e1:=⟨_,rfl⟩
  have hhb1:=kB (show bI b0=0 by assumption)
  rw [hr1] at hhb1
  obtain ⟨e2,hr2⟩:∃ (e2:Int),bE x1=e2:=⟨_,rfl⟩
  have hhb2:=kB (show bI x1=0 by assumption)
  rw [hr2] at hhb2
  obtain ⟨l23,e23,hr3⟩:∃ (l23:List bF) (e23:Int),cP cs e x1.aA (e1 - e2) 0=(l23,e23):=⟨_,_,rfl⟩
  have hsl3:l23.length=cs.length:=by have h:=fT cs e x1.aA (e1 - e2) 0;rw [hr3] at h;exact h
  refine eJ [0,9,10,11,3,2,4] [6,5,0,1,2,3,4] rfl (cV 4 rfl (de 7 [26] [] rfl (cA 7 (oD b0 (by first|assumption|omega|rfl|decide) e1 hr1) Cu rfl) rfl (cV 1 rfl (de 7 [28] [] rfl (cA 7 (oD x1 (by first|assumption|omega|rfl|decide) e2 hr2) Cu rfl) rfl (dZ 7 [27,29] [] rfl (bm rfl rfl rfl (bH aa)) (de 8 [23,25,30] [1,0] rfl (cz id (bp [0,7]) (ms:=((bY.set 2 (some (.s 1 0 6 cs.length))).set 19 (some (cI e)))) (ms':=((bY.set 2 (some (.s 1 0 6 l23.length))).set 19 (some (cI e23)))) (fun x hx=>ql x hx cs e x1.aA (e1 - e2) 0 aa l23 e23 hr3) zj rfl) rfl (eb [0,9,10,11,2,4] [7,0,6,2,3,4] rfl rfl aJ (then_ok (bg [0,9,10,11,2,4] [7,0,6,2,3,4] rfl (aF 7 rfl (bh 8 [36,37] [3] rfl (cU (i:=q) rfl rfl rfl hG ji) (bf [7,0,6,2,3,4] rfl (eP [7,0,6,2,3,4] (dK (ds:=[(dI b0.aA),(dI b0.au),(dI b0.sum),(dI b0.captured),(dI b0.bd),(dI b0.aX),(dI b0.da),(dB b0.shut)]) rfl rfl rfl rfl rfl ji rfl (Nat.le_of_ble_eq_true rfl) (aV hx1) rfl (eE (x':=b0) rfl)) rfl (bq (aN (then_ok (dW (k:=0) (q:=4) (c':=(.s 3 0 8 (((xs).set q b0).length))) rfl rfl jN rfl (ah (bl rfl rfl rfl rfl aa (ad 1 rfl (ae (⟨(q+1,l23,(xs).set q b0,e23),⟨aa,by rw [hi0_1,uY (a:=x1) (by rw [<-hi0_4 q aa];exact hx1),hr0,hr1,hr2,hr3],aa,by rw [List.length_set];omega,fun i hi=>by rw [List.getElem?_set_ne aa];exact hi0_4 i aa⟩,bT,aq.rz (fun k=>if k=1 then 7 else k)⟩))))))))))))))))))))))
 refine bR (aE (aE (bw ?_)))
 have hX:mH b=((⟨b.time,b.down,cs,b.due,xs,b.s0,b.s1,b.n0,b.n1,b.w0,b.w1,b.aQ,b.aM,b.book⟩:Bk),e):=by
   have hL:fU b.time b.an 0 b.ak b.an 0=(cs,xs,e):=by rw [hi0_1,List.drop_of_length_le aa];rfl
   unfold mH;rw [hL]
 cases hX.symm.trans hr;clear hX
 refine cJ bn [0,1,2,3,4] 5 rfl rfl rfl rfl rfl rfl ?_ ?_
 all_goals first|rfl|(simp [cq,cf,cL];done)|(simp [cq,cf,cL];omega)

theorem Jg (x:Nat->Value) (hx:∀ i,(x i).oneCell'=true) (b:Bk) (d:bW) (ok:cH b) (b2:Bk) (a2:Answer) (hr:dw b d=(b2,a2)):cS Tryz.prog 24 [(.c (.p 0 0 0 0)),(.g [(cI d.id),(cI d.kind),(cI d.n),(cI d.au),(cI d.move),(cI d.sum)])] [(0,(.box 73 (cf b 1 2 3 4 (.d (.v (x 17))) (cI 0)))),(1,(dS b.ak)),(2,(dR b.due)),(3,(ec b.an)),(4,(cX b.aM))] [0] (.v (.c (cI a2.ba))) [(0,(.box 73 (cf b2 1 2 3 4 (.d (.v (x 17))) (cI a2.err)))),(1,(dS b2.ak)),(2,(dR b2.due)),(3,(ec b2.an)),(4,(cX b2.aM))]:=by
 refine cS.mk 161 [(0,(aC (.p 0 0 0 0))),(1,(aG [(cI d.id),(cI d.kind),(cI d.n),(cI d.au),(cI d.move),(cI d.sum)]))] 5 Tryz.func24 rfl rfl rfl rfl rfl rfl rfl rfl rfl ?_
 intro W0 F0 T0 pg
 obtain ⟨okt,okc,okd,oka,oky,okw0,okw1,okp,okv,okk0,okk1,okg,okl0,okl1,okp0,okp1,okn0,okn1,okq⟩:=id ok
 refine ag 2 rfl (ag 4 rfl (af (af ?_)))
 rcases Bool.eq_false_or_eq_true (decide (d.n < 0)) with hb1|hb1
 ·
  have hb1':=of_decide_eq_true hb1
  refine bg [0,3,5] [5,0,1,2,3,4] rfl (bC (kn:=[(18,true)]) bn 28 rfl ⟨hb1,trivial⟩ (bf [5,0,1,2,3,4] rfl (ae (ax rfl (fun _=>?_) (fun hno=>by cases hno)))))
  refine aw 1 rfl ?_
  have hr0:cp 0 6=6:=rfl
  refine ay 6 [0,5,1,2,3,4] (cz id id (ms:=(bY.set 19 (some (cI 0)))) (ms':=(bY.set 19 (some (cI 6)))) (fun x hx=>dV x hx 0 6 6 hr0) fr rfl) rfl (ae (ag 1 rfl (al (aj ?_))))
  have hX:dw b d=(b,(⟨6,0⟩:Answer)):=by
    unfold dw;rw [if_pos aa]
  cases hX.symm.trans hr;clear hX
  exact bb [0,1,2,3,4] 5 rfl
 have hb1':=of_decide_eq_false hb1
 rcases Bool.eq_false_or_eq_true (decide (d.n>=(↑b.ak.length:Int))) with hb3|hb3
 ·
  have hb3':=of_decide_eq_true hb3
  refine bg [0,3,5] [5,0,1,2,3,4] rfl (bC (kn:=[(18,false)]) bn 10 rfl ⟨hb1,trivial⟩ (cG (n':=6) [25,19] [1] rfl rfl (.inl ⟨(aR.yes rfl rfl rfl),dn rfl rfl rfl rfl rfl gy⟩) rfl (bC (kn:=[(27,true)]) bn 17 rfl ⟨hb3,trivial⟩ (bf [5,0,1,2,3,4] rfl (ae (ax rfl (fun _=>?_) (fun hno=>by cases hno)))))))
  refine aw 1 rfl ?_
  have hr1:cp 0 6=6:=rfl
  refine ay 6 [0,5,1,2,3,4] (cz id id (ms:=(bY.set 19 (some (cI 0)))) (ms':=(bY.set 19 (some (cI 6)))) (fun x hx=>dV x hx 0 6 6 hr1) fr rfl) rfl (ae (ag 1 rfl (al (aj ?_))))
  have hX:dw b d=(b,(⟨6,0⟩:Answer)):=by
    unfold dw;rw [if_pos aa]
  cases hX.symm.trans hr;clear hX
  exact bb [0,1,2,3,4] 5 rfl
 have hb3':=of_decide_eq_false hb3
 rcases Bool.eq_false_or_eq_true (decide (d.au < 0)) with hb5|hb5
 ·
  have hb5':=of_decide_eq_true hb5
  refine bg [0,3,5] [5,0,1,2,3,4] rfl (bC (kn:=[(18,false)]) bn 10 rfl ⟨hb1,trivial⟩ (cG (n':=6) [25,19] [1] rfl rfl (.inl ⟨(aR.yes rfl rfl rfl),dn rfl rfl rfl rfl rfl gy⟩) rfl (bC (kn:=[(27,false),(32,true)]) bn 17 rfl ⟨hb3,hb5,trivial⟩ (bf [5,0,1,2,3,4] rfl (ae (ax rfl (fun _=>?_) (fun hno=>by cases hno)))))))
  refine aw 1 rfl ?_
  have hr2:cp 0 6=6:=rfl
  refine ay 6 [0,5,1,2,3,4] (cz id id (ms:=(bY.set 19 (some (cI 0)))) (ms':=(bY.set 19 (some (cI 6)))) (fun x hx=>dV x hx 0 6 6 hr2) fr rfl) rfl (ae (ag 1 rfl (al (aj ?_))))
  have hX:dw b d=(b,(⟨6,0⟩:Answer)):=by
    unfold dw;rw [if_pos aa]
  cases hX.symm.trans hr;clear hX
  exact bb [0,1,2,3,4] 5 rfl
 have hb5':=of_decide_eq_false hb5
 refine bg [0,3,5] [5,0,1,2,3,4] rfl (bC (kn:=[(18,false)]) bn 10 rfl ⟨hb1,trivial⟩ (cG (n':=6) [25,19] [1] rfl rfl (.inl ⟨(aR.yes rfl rfl rfl),dn rfl rfl rfl rfl rfl gy⟩) rfl (bC (kn:=[(27,false),(32,false)]) bn 14 rfl ⟨hb3,hb5,trivial⟩ (cG (n':=6) [40,34] [2] rfl rfl (.inl ⟨(aR.yes rfl rfl rfl),dn rfl rfl rfl rfl rfl ed⟩) rfl (aF 2 rfl (bf [5,0,1,2,3,4] rfl (ae (aO rfl (fun hc7'=>?_) (fun hc7'=>?_)))))))))
 ·
  refine aw 1 rfl ?_
  have hr3:cp 0 6=6:=rfl
  refine ay 6 [0,5,1,2,3,4] (cz id id (ms:=(bY.set 19 (some (cI 0)))) (ms':=(bY.set 19 (some (cI 6)))) (fun x hx=>dV x hx 0 6 6 hr3) fr rfl) rfl (ae (ag 1 rfl (al (aj ?_))))
  have hX:dw b d=(b,(⟨6,0⟩:Answer)):=by
    unfold dw;rw [if_pos aa]
  cases hX.symm.trans hr;clear hX
  exact bb [0,1,2,3,4] 5 rfl
 refine aD (af (ag 4 rfl (ax rfl (fun hc8=>?_) (fun hc8=>?_))))
 ·
  have hc8':=hc8;try simp only [aT,bx] at hc8'
  refine af ?_
  obtain ⟨xr4,e4,hr4⟩:∃ (xr4:cT) (e4:Int),cC b.aQ (⟨d.n,d.au,d.sum,b.time⟩:ch)=(xr4,e4):=⟨_,_,rfl⟩
  refine eJ [0,3,5] [5,0,1,2,3,4] rfl (cV 15 rfl (de 6 [54,65] [] rfl (cA 6 (Fn.frozen (av':=(.t [(.g [(cI xr4.cap),(dt xr4.used),(eo xr4.aH)]),(.c (cI e4))])) (CF b.aQ (⟨d.n,d.au,d.sum,b.time⟩:ch) xr4 e4 hr4) ⟨⟨.inl ⟨_,rfl,rfl⟩,.inr ⟨_,_,_,_,_,rfl,rfl,rfl,ca⟩,.inr ⟨_,_,_,_,_,rfl,rfl,rfl,ca⟩,trivial⟩,.inl ⟨_,rfl,rfl⟩,trivial⟩) Lt rfl) rfl (gJ (n':=7) (kn:=[]) bn 6 rfl trivial (eb [0,3,5,6,7] [6,5,0,1,2,3,4] rfl rfl aJ (then_ok (af (ag 2 rfl (aO rfl (fun hc9'=>?_) (fun hc9'=>?_)))))))))
  ·
   refine ah (ad 1 rfl (ae (af (aw 2 rfl ?_))))
   have hr5:cp 0 12=12:=rfl
   refine ay 7 [0,6,5,1,2,3,4] (cz id id (ms:=(bY.set 19 (some (cI 0)))) (ms':=(bY.set 19 (some (cI 12)))) (fun x hx=>dV x hx 0 12 12 hr5) fr rfl) rfl (ae (ax rfl (fun _=>?_) (fun hno=>by cases hno)))
   refine ag 1 rfl (al (aj (aj ?_)))
   have hX:dw b d=(b,(⟨12,0⟩:Answer)):=by
     unfold dw gO;rw [if_neg aa];rw [if_pos hc8];(try simp only [hr4]);exact sx
   cases hX.symm.trans hr;clear hX
   exact bb [0,1,2,3,4] 5 rfl
  refine aD (af (aw 2 rfl ?_))
  have hr6:cp 0 e4=e4:=rfl
  refine ay 7 [0,6,5,1,2,3,4] (cz id id (ms:=(bY.set 19 (some (cI 0)))) (ms':=(bY.set 19 (some (cI e4)))) (fun x hx=>dV x hx 0 e4 e4 hr6) fr rfl) rfl (ae (aO rfl (fun hc11'=>?_) (fun hc11'=>?_)))
  ·
   refine ag 1 rfl (al (aj (aj ?_)))
   have hX:dw b d=(b,(⟨e4,0⟩:Answer)):=by
     unfold dw gO;rw [if_neg aa];rw [if_pos hc8];(try simp only [hr4]);exact sx
   cases hX.symm.trans hr;clear hX
   exact bb [0,1,2,3,4] 5 rfl
  refine aD ?_
  obtain rfl:e4=0:=aa
  have hgl:=congrArg List.length (yO (s:=b.aQ) (a:=(⟨d.n,d.au,d.sum,b.time⟩:ch)) (by rw [hr4]))
  rw [hr4,List.length_append] at hgl;dsimp only [List.length_cons,List.length_nil] at hgl
  refine af (bg [0,3,5,6] [0,6,5,1,2,3,4] rfl (aF 4 rfl (bh 7 [77] [3] rfl (dn rfl rfl rfl rfl rfl hG) (aF 5 rfl (bh 7 [83] [] rfl (cD rfl rfl iY) (bh 7 [78,84] [] rfl (bm rfl rfl rfl (bH aa)) (aF 1 rfl (bf [0,6,5,1,2,3,4] rfl (ae (af (ag 2 rfl (aO rfl (fun hc12'=>?_) (fun hc12'=>?_)))))))))))))
  ·
   refine aw 1 rfl ?_
   have hr7:cp 0 5=5:=rfl
   refine ay 7 [0,6,5,1,2,3,4] (cz id id (ms:=(bY.set 19 (some (cI 0)))) (ms':=(bY.set 19 (some (cI 5)))) (fun x hx=>dV x hx 0 5 5 hr7) fr rfl) rfl (ae (ag 1 rfl (al (aj (aj ?_)))))
   have hX:dw b d=(b,(⟨5,0⟩:Answer)):=by
     unfold dw gO;rw [if_neg aa];rw [if_pos hc8];(try simp only [hr4]);exact sx
   cases hX.symm.trans hr;clear hX
   exact bb [0,1,2,3,4] 5 rfl
  refine aD (ag 5 rfl (ag 2 rfl (al (aj ?_))))
  have hX:dw b d=((⟨b.time,b.down,b.ak,b.due,b.an,b.s0,b.s1,b.n0,b.n1,b.w0,b.w1,xr4,b.aM,b.book⟩:Bk),(⟨0,(↑b.an.length:Int)+(↑b.aQ.aH.length:Int)⟩:Answer)):=by
    unfold dw gO;rw [if_neg aa];rw [if_pos hc8];(try simp only [hr4]);exact sx
  cases hX.symm.trans hr;clear hX
  exact bb [0,1,2,3,4] 5 rfl
 have hc8':=hc8;try simp only [aT,bx] at hc8'
 refine aD (af ?_)
 obtain ⟨b8,e8,hr8⟩:∃ (b8:bG) (e8:Int),dm d.n d.au d.sum b.time=(b8,e8):=⟨_,_,rfl⟩
 refine eJ [0,3,5] [5,0,1,2,3,4] rfl (cV 10 rfl (de 6 [97,99,101,105] [] rfl (cA 6 (xm d.n d.au d.sum b.time b8 e8 hr8) IU rfl) rfl (gJ (n':=7) (kn:=[]) bn 6 rfl trivial (eb [0,3,5,9,10] [6,5,0,1,2,3,4] rfl rfl aJ (then_ok (af (aw 2 rfl ?_)))))))
 have hr9:cp 0 e8=e8:=rfl
 refine ay 7 [0,6,5,1,2,3,4] (cz id id (ms:=(bY.set 19 (some (cI 0)))) (ms':=(bY.set 19 (some (cI e8)))) (fun x hx=>dV x hx 0 e8 e8 hr9) fr rfl) rfl (ae (aO rfl (fun hc13'=>?_) (fun hc13'=>?_)))
 ·
  refine ag 1 rfl (al (aj ?_))
  have hX:dw b d=(b,(⟨e8,0⟩:Answer)):=by
    unfold dw gO;rw [if_neg aa];rw [if_neg (by simp [hc8])];(try simp only [hr8]);exact sx
  cases hX.symm.trans hr;clear hX
  exact bb [0,1,2,3,4] 5 rfl
 refine aD ?_
 obtain rfl:e8=0:=aa
 refine aw 4 rfl (az (dn rfl rfl rfl rfl rfl hG) rfl (ad 1 rfl (ae (af (ag 2 rfl (aO rfl (fun hc14'=>?_) (fun hc14'=>?_)))))))
 ·
  refine aw 1 rfl ?_
  have hr10:cp 0 5=5:=rfl
  refine ay 7 [0,6,5,1,2,3,4] (cz id id (ms:=(bY.set 19 (some (cI 0)))) (ms':=(bY.set 19 (some (cI 5)))) (fun x hx=>dV x hx 0 5 5 hr10) fr rfl) rfl (ae (ag 1 rfl (al (aj ?_))))
  have hX:dw b d=(b,(⟨5,0⟩:Answer)):=by
    unfold dw gO;rw [if_neg aa];rw [if_neg (by simp [hc8])];(try simp only [hr8]);exact sx
  cases hX.symm.trans hr;clear hX
  exact bb [0,1,2,3,4] 5 rfl
 refine aD (af ?_)
 obtain ⟨x1,hx1⟩:=bO (xs:=b.ak) (i:=Int.toNat (d.n)) aa
 obtain ⟨xr11,e11,hr11⟩:∃ (xr11:bF) (e11:Int),eh x1 d.sum b.time=(xr11,e11):=⟨_,_,rfl⟩
 refine eJ [0,3,5,9,11] [0,6,5,1,2,3,4] rfl (cV 6 rfl (dZ 7 [125,127] [1] rfl (cU (i:=Int.toNat (d.n)) rfl rfl rfl gy gX) (de 7 [128] [1] rfl (dk rfl rfl rfl rB rfl gX (aV hx1) rfl) rfl (cV 6 rfl (de 7 [129,131,135] [] rfl (cA 7 (Fn.frozen (av':=(.t [(.g [(cI xr11.bB),(cI xr11.held),(cI xr11.bJ.cw),(cI xr11.bJ.count),(cI xr11.bJ.sum),(eF xr11.cO)]),(.c (cI e11))])) (Ao x1 d.sum b.time xr11 e11 hr11) ⟨⟨.inl ⟨_,rfl,rfl⟩,.inl ⟨_,rfl,rfl⟩,.inl ⟨_,rfl,rfl⟩,.inl ⟨_,rfl,rfl⟩,.inl ⟨_,rfl,rfl⟩,.inr ⟨_,_,_,_,_,rfl,rfl,rfl,ca⟩,trivial⟩,.inl ⟨_,rfl,rfl⟩,trivial⟩) Ls rfl) rfl (gJ (n':=8) (kn:=[]) bn 6 rfl trivial (eb [0,3,5,9,11,12,10] [7,0,6,5,1,2,3,4] rfl rfl aJ (then_ok (af (aw 2 rfl ?_))))))))))
 have hr12:cp 0 e11=e11:=rfl
 refine ay 8 [0,7,6,5,1,2,3,4] (cz id id (ms:=(bY.set 19 (some (cI 0)))) (ms':=(bY.set 19 (some (cI e11)))) (fun x hx=>dV x hx 0 e11 e11 hr12) fr rfl) rfl (ae (aO rfl (fun hc15'=>?_) (fun hc15'=>?_)))
 ·
  refine ag 1 rfl (al (aj ?_))
  have hX:dw b d=(b,(⟨e11,0⟩:Answer)):=by
    unfold dw gO;rw [if_neg aa];rw [if_neg (by simp [hc8])];(try simp only [hr8,hr11,hx1]);exact sx
  cases hX.symm.trans hr;clear hX
  exact bb [0,1,2,3,4] 5 rfl
 refine aD ?_
 obtain rfl:e11=0:=aa
 refine af (bg [3,5,9,11,12] [0,7,6,5,1,2,3,4] rfl (aF 7 rfl (bh 8 [145,147] [1] rfl (cU (i:=Int.toNat (d.n)) rfl rfl rfl gy gX) (bf [0,7,6,5,1,2,3,4] rfl (eP [0,7,6,5,1,2,3,4] (dK (ds:=[(dI xr11.bB),(dI xr11.held),(dI xr11.bJ.cw),(dI xr11.bJ.count),(dI xr11.bJ.sum),(Br xr11.cO)]) rfl rfl rfl rfl rfl gX rfl (Nat.le_of_ble_eq_true rfl) (aV hx1) rfl (eE (x':=xr11) rfl)) rfl (ae (dW (k:=0) (q:=2) (c':=(.s 1 0 6 (((b.ak).set (Int.toNat (d.n)) xr11).length))) rfl rfl jN rfl (af (bg [5,9,11] [0,6,1,2,3,4] rfl (aF 6 rfl (bM 9 [155] [] rfl (dM (ys:=[(0,(.g [(cI b8.aA),(cI b8.au),(cI b8.sum),(cI b8.captured),(cI b8.bd),(cI b8.aX),(cI b8.da),(cB b8.shut)]))]) (rows:=([b8]).map jm) 8 nY rfl) rfl (bM 10 [154,156] [8,3] rfl (dU (m:=1) (N:=b.an.length+1) (k2:=9) (ys:=([b8]).map jm) nY rfl rfl rfl rfl dv) rfl (aF 2 rfl (bf [9,0,6,1,2,4] rfl (ad 1 rfl (ae (dW (k:=0) (q:=4) (c':=(.s 9 0 8 ((b.an++([b8])).length))) rfl rfl jN rfl (ag 2 rfl (al ?_)))))))))))))))))))
 have hX:dw b d=((⟨b.time,b.down,(b.ak).set (Int.toNat (d.n)) xr11,b.due,b.an++([b8]),b.s0,b.s1,b.n0,b.n1,b.w0,b.w1,b.aQ,b.aM,b.book⟩:Bk),(⟨0,(↑b.an.length:Int)⟩:Answer)):=by
   unfold dw gO;rw [if_neg aa];rw [if_neg (by simp [hc8])];(try simp only [hr8,hr11,hx1]);exact sx
 cases hX.symm.trans hr;clear hX
 exact bb [0,1,2,9,4] 5 rfl
section
def jc (ins:List (Nat×Int×Int)):List Nat->List (Int×Int)
 |[]=>[]
 |i::d=>match look ins i with
  |some p=>jc ins d++[p]
  |none=>jc ins d
def xM (ins:List (Nat×Int×Int)) (km:Nat) (d:List Nat):List (Nat×AB):=if jc ins d=[] then [] else [(km,.map (mV (jc ins d)) (jc ins d).length)]
def stM (st:aK) (aP:List bS) (ins:List (Nat×Int×Int)) (km:Nat) (d:List Nat):aK:=⟨(er st aP d).s,xM ins km d++(er st aP d).h,(er st aP d).n⟩
theorem qQ {ins:List (Nat×Int×Int)} {p:Int×Int}:∀ {d:List Nat},p∈jc ins d↔∃ i∈d,look ins i=some p
 |[]=>by simp [jc]
 |i::d=>by
  have ih:=qQ (ins:=ins) (p:=p) (d:=d)
  unfold jc
  cases hh:look ins i with
  |none=>
   rw [ih]
   exact ⟨fun ⟨j,hj,e⟩=>⟨j,List.mem_cons_of_mem _ hj,e⟩,fun ⟨j,hj,e⟩=>⟨j,(List.mem_cons.1 hj).resolve_left (fun h=>by rw [h,hh] at e;cases e),e⟩⟩
  |some q=>
   constructor
   ·intro h
    rcases List.mem_append.1 h with h|h
    ·obtain ⟨j,hj,e⟩:=ih.1 h;exact ⟨j,List.mem_cons_of_mem _ hj,e⟩
    ·obtain rfl:=List.mem_singleton.1 h;exact ⟨i,List.mem_cons_self,hh⟩
   ·rintro ⟨j,hj,e⟩
    rcases List.mem_cons.1 hj with rfl|hj
    ·rw [hh] at e;injection e with e;subst e;exact List.mem_append_right _ (List.mem_singleton.2 rfl)
    ·exact List.mem_append_left _ (ih.2 ⟨j,hj,e⟩)
def tX (ops:Array Oper) (aP:List bS) (fin:aK) (km im il:Nat) (ins:List (Nat×Int×Int)):Bool:=
 (List.range aP.length).all (fun i=>Nat.beq i im||(!lL aP km i && (match aP[i]? with
  |some r=>(look r.h km).isNone
  |none=>true))) &&
 ins.all (fun x=>fS ops x.1 im && fS ops il x.1 && Nat.blt x.1 aP.length && !Nat.beq x.1 im && !Nat.beq x.1 il && (match aP[x.1]? with
  |some r=>r.nb.isEmpty && r.E.isEmpty && r.dst.isNone
  |none=>false)) &&
 (match aP[il]? with
  |some r=>r.nb.isEmpty && r.E.isEmpty && fS ops il im && !Nat.beq il im
  |none=>true) && Nat.blt im aP.length && (look fin.h km).isNone
theorem pn.same {W0:World} {F:Nat->Prop} {N:NT} {σ:Nat->Option cg} {T:Nat->Prop} {st st':aK} {a:Go.Act} {w:World} (S:pn W0 F N σ T st a w) (hs:st'.s=st.s) (hh:∀ k,look st'.h k=look st.h k) (hn:st'.n=st.n):pn W0 F N σ T st' a w:=
 ⟨S.core.sub (fun i v hi=>by rw [<-hs];exact hi) fun k b hk=>by rw [<-hh];exact hk,S.os,S.tape,S.output,S.size,S.cu,fun k b g hk=>S.own k b g (by rw [<-hh];exact hk),fun k hk=>S.next k (by rw [<-hn];exact hk),fun k b hk=>by rw [hn];exact S.hn k b (by rw [<-hh];exact hk),S.kM,S.kr⟩
section
variable {P:Program} {W0:World} {F:Nat->Prop} {N:NT} {T0:Nat->Prop} {pin:List (Nat×cg)} {Q:Exit->aK->Prop} {st:aK}
theorem Gj {id:Nat} {l:List Oper} (aP:List bS) (fin:aK) (fp:List Nat) (km im il:Nat) (ins:List (Nat×Int×Int)) (hm:P.follows .mixedOrders=true) (hB:nO l.toArray aP N.1 st fin fp=true) (hX:(ins=[]/\il=aP.length)\/(ins≠[]/\tX l.toArray aP fin km im il ins=true))
  (hlook:∀ x∈ins,look ins x.1=some x.2)
  (hdist:∀ i j p q,look ins i=some p->look ins j=some q->p.1=q.1->i=j)
  (hrows:∀ i r,aP[i]?=some r->look ins i=none->i≠il->∃ o,l[i]?=some o/\oE P l.toArray r o) (him:∀ r,aP[im]?=some r->r.nb=[(km,.map (mV []) 0)])
  (hins:∀ i p r,look ins i=some p->aP[i]?=some r->∃ o,l[i]?=some o/\aR l.toArray o r.st/\∀ ps cl,ps.all (fun q=>!(q.1==p.1))=true->bU P o ⟨r.s,[(km,.map (mV ps) cl)],0⟩ (.v (.c .any)) [(km,.map (mV (ps++[p])) (cl+1))] [km])
  (hlk:∀ r,aP[il]?=some r->∃ o,l[il]?=some o/\aR l.toArray o r.st/\∀ ps cl,(∀ q,q∈ps↔q∈ins.map (·.2))->bU P o ⟨r.s,[(km,.map (mV ps) cl)],0⟩ r.v [] [])
  (hsee:pN st aP aP)
  (hfin:dG (fun x=>mQ st aP x.1 x.2 (mg aP fp x.1)) fin.s/\dG (fun x=>mR st aP x.1 x.2 (kU aP fp x.1)) fin.h) (hk:Q .normal fin):AC P W0 F N T0 pin Q (.region id l.toArray true) st:=by
 rintro a w ⟨σ0,T1,hT1,S0,hp0⟩
 unfold nO at hB
 simp only [Bool.and_eq_true] at hB
 obtain ⟨⟨⟨⟨hall,hlen⟩,hfn⟩,hfs⟩,hfh⟩:=hB
 have hlen:=Nat.eq_of_beq_eq_true hlen
 have tab:∀ i r,aP[i]?=some r->lX l.toArray aP N.1 st fin i r=true:=fun i r hr=>by have:=sH hall hr;rwa [Nat.zero_add] at this
 have nbnd:∀ (i:Nat) (r:bS),aP[i]?=some r->(keys r.nb).Nodup:=fun i r hr=>by
  have:=tab i r hr
  simp only [lX,Bool.and_eq_true] at this
  exact lp this.1.1.1.2
 have nbk:∀ (i:Nat) (r:bS) k,aP[i]?=some r->k∈keys r.nb->k < fin.n/\(k∈r.E\/(st.n<=k/\∀ q,q < aP.length->q≠i->lL aP k q=true->fS l.toArray q i=true)):=fun i r k hr hk=>by
  have:=tab i r hr
  simp only [lX,Bool.and_eq_true] at this
  obtain ⟨x,hx,rfl⟩:=List.mem_map.1 hk
  have h1:=List.all_eq_true.1 this.1.1.2 x hx
  simp only [Bool.and_eq_true,Bool.or_eq_true,Nat.blt_eq] at h1
  refine ⟨h1.1,?_⟩
  rcases h1.2 with h2|⟨h2,h3⟩
  ·exact .inl (fc.1 h2)
  ·refine .inr ⟨Nat.le_of_ble_eq_true h2,fun q hq hne hw=>?_⟩
   have h4:=iq h3 hq
   simp only [Bool.or_eq_true,Bool.not_eq_true'] at h4
   rcases h4 with (h4|h4)|h4
   ·exact absurd (Nat.eq_of_beq_eq_true h4) hne
   ·rw [hw] at h4;cases h4
   ·exact h4
 have srcOK:∀ (wr:Nat->Bool) (i:Nat) (src:Option Nat),sR l.toArray aP.length wr i src=true->∀ (done:List Nat),nB l.toArray aP.length done->(∀ q∈done,q < aP.length)->i ∉ done->i < aP.length->(∀ j,j < aP.length->fS l.toArray i j=true->j∈done)->
   (src=none/\∀ q∈done,wr q=false)\/∃ j xs ys,src=some j/\done=xs++j::ys/\∀ q∈xs,wr q=false:=by
  intro wr i src hok done hord hdn hi hilt hwait
  cases src with
  |none=>
   refine .inl ⟨rfl,fun q hq=>?_⟩
   cases hw:wr q with
   |false=>rfl
   |true=>
    have h:=iq hok (hdn q hq)
    simp only [Bool.or_eq_true,Bool.not_eq_true'] at h
    rcases h with (h|h)|h
    ·exact absurd (Nat.eq_of_beq_eq_true h▸hq) hi
    ·rw [hw] at h;cases h
    ·exact absurd (hord.wait hq hilt h) hi
  |some j=>
   simp only [sR,Bool.and_eq_true,Nat.blt_eq] at hok
   obtain ⟨⟨h1,h2⟩,h3⟩:=hok
   have hj:=hwait j h1 h2
   obtain ⟨xs,ys,h4,h5⟩:=hord.split (wr:=wr) hj hdn (fun q hq hne hw=>by
    have h:=iq h3 (hdn q hq)
    simp only [Bool.or_eq_true,Bool.not_eq_true'] at h
    rcases h with (((h|h)|h)|h)|h
    ·exact absurd (Nat.eq_of_beq_eq_true h▸hq) hi
    ·exact absurd (Nat.eq_of_beq_eq_true h) hne
    ·rw [hw] at h;cases h
    ·exact absurd (hord.wait hq hilt h) hi
    ·exact h)
   exact .inr ⟨j,xs,ys,rfl,h4,h5⟩
 have finOK:∀ (wr:Nat->Bool) (src:Option Nat),pB l.toArray aP.length wr src=true->∀ (done:List Nat),nB l.toArray aP.length done->(∀ q∈done,q < aP.length)->(∀ q,q < aP.length->q∈done)->
   (src=none/\∀ q∈done,wr q=false)\/∃ j xs ys,src=some j/\done=xs++j::ys/\∀ q∈xs,wr q=false:=by
  intro wr src hok done hord hdn hall'
  cases src with
  |none=>
   refine .inl ⟨rfl,fun q hq=>?_⟩
   have h:=iq hok (hdn q hq)
   simpa using h
  |some j=>
   simp only [pB,Bool.and_eq_true,Nat.blt_eq] at hok
   obtain ⟨h1,h3⟩:=hok
   obtain ⟨xs,ys,h4,h5⟩:=hord.split (wr:=wr) (hall' j h1) hdn (fun q hq hne hw=>by
    have h:=iq h3 (hdn q hq)
    simp only [Bool.or_eq_true,Bool.not_eq_true'] at h
    rcases h with (h|h)|h
    ·exact absurd (Nat.eq_of_beq_eq_true h) hne
    ·rw [hw] at h;cases h
    ·exact h)
   exact .inr ⟨j,xs,ys,rfl,h4,h5⟩
 have gM:∀ (done:List Nat) x v src,mQ st aP x v src->((src=none/\∀ q∈done,rk aP x q=false)\/∃ j xs ys,src=some j/\done=xs++j::ys/\∀ q∈xs,rk aP x q=false)->look (er st aP done).s x=some v:=by
  intro done x v src hs hc
  rcases hc with ⟨rfl,hc⟩|⟨j,xs,ys,rfl,rfl,hc⟩
  ·rw [qD fun i hi r hr=>xV hr (hc i hi)];exact hs
  ·obtain ⟨q,h1,h2,rfl⟩:=hs
   exact Df hc h1 h2
 have gn:∀ (done:List Nat) k b src,mR st aP k b src->((src=none/\∀ q∈done,lL aP k q=false)\/∃ j xs ys,src=some j/\done=xs++j::ys/\∀ q∈xs,lL aP k q=false)->look (er st aP done).h k=some b:=by
  intro done k b src hs hc
  rcases hc with ⟨rfl,hc⟩|⟨j,xs,ys,rfl,rfl,hc⟩
  ·rw [lV fun i hi r hr=>rv hr (hc i hi)];exact hs
  ·obtain ⟨q,h1,h2⟩:=hs
   exact yg hc h1 (nbnd j q h1) h2
 have rowX:∀ (i:Nat) (r:bS),ins≠[]->aP[i]?=some r->i≠im->km ∉ keys r.nb/\km ∉ r.E/\look r.h km=none:=fun i r hne hr hi=>by
  have hm:=(hX.resolve_left fun e=>hne e.1).2
  simp only [tX,Bool.and_eq_true] at hm
  have h1:=iq hm.1.1.1.1 (List.getElem?_eq_some_iff.1 hr).1
  simp only [Bool.or_eq_true,Bool.and_eq_true,Bool.not_eq_true',hr,Option.isNone_iff_eq_none] at h1
  rcases h1 with h1|h1
  ·exact absurd (Nat.eq_of_beq_eq_true h1) hi
  ·exact ⟨(rv hr h1.1).1,(rv hr h1.1).2,h1.2⟩
 have insX:∀ (i:Nat) (p:Int×Int),look ins i=some p->fS l.toArray i im=true/\fS l.toArray il i=true/\i < aP.length/\i≠im/\i≠il/\im < aP.length/\∀ r,aP[i]?=some r->r.nb=[]/\r.E=[]/\r.dst=none:=fun i p hp=>by
  have hne:ins≠[]:=fun e=>by rw [e] at hp;cases hp
  have hm:=(hX.resolve_left fun e=>hne e.1).2
  simp only [tX,Bool.and_eq_true,Nat.blt_eq] at hm
  have h1:=List.all_eq_true.1 hm.1.1.1.2 (i,p) (bP hp)
  simp only [Bool.and_eq_true,Bool.not_eq_true',Nat.blt_eq] at h1
  obtain ⟨⟨⟨⟨⟨q1,q2⟩,q3⟩,q4⟩,q5⟩,q6⟩:=h1
  refine ⟨q1,q2,q3,(fun e=>by rw [e,Nat.beq_refl] at q4;cases q4),(fun e=>by rw [e,Nat.beq_refl] at q5;cases q5),hm.1.2,fun r hr=>?_⟩
  rw [hr] at q6
  simpa [and_assoc] using q6
 have notyet:∀ done,nB l.toArray aP.length done->(∀ q∈done,q < aP.length)->im ∉ done->jc ins done=[]:=fun done hord hdn hno=>by
  cases hd:jc ins done with
  |nil=>rfl
  |cons p ps=>
   obtain ⟨i,hi,hp⟩:=qQ.1 (show p∈jc ins done by rw [hd];exact List.mem_cons_self)
   obtain ⟨q1,_,_,_,_,q6,_⟩:=insX i p hp
   exact absurd (hord.wait hi q6 q1) hno
 have xKey:∀ done k b,look (xM ins km done) k=some b->k=km/\ins≠[]:=fun done k b hk=>by
  unfold xM at hk
  split at hk
  ·cases hk
  ·rename_i hne
   refine ⟨by have:=bP hk;simp only [List.mem_singleton,Prod.mk.injEq] at this;exact this.1,fun e=>hne ?_⟩
   subst e
   induction done with
   |nil=>rfl
   |cons i d ih=>exact Classical.byContradiction fun hc=>hc (by
     have:∀ d,jc [] d=[]:=fun d=>by induction d with
      |nil=>rfl
      |cons i d ih=>exact ih
     exact this _)
 have mapAt:∀ done,nB l.toArray aP.length done->(∀ q∈done,q < aP.length)->im∈done->ins≠[]->look (stM st aP ins km done).h km=some (.map (mV (jc ins done)) (jc ins done).length):=fun done hord hdn bZ hne=>by
  show look (xM ins km done++(er st aP done).h) km=_
  rw [eQ]
  unfold xM
  by_cases hd:jc ins done=[]
  ·rw [if_pos hd,hd]
   obtain ⟨r,hr⟩:∃ r,aP[im]?=some r:=⟨_,List.getElem?_eq_getElem (hdn im bZ)⟩
   obtain ⟨xs,ys,e1,e2⟩:=hord.split (wr:=lL aP km) bZ hdn (fun q hq hqi hw=>by
    obtain ⟨r',hr'⟩:∃ r,aP[q]?=some r:=⟨_,List.getElem?_eq_getElem (hdn q hq)⟩
    have h1:=rowX q r' hne hr' hqi
    unfold lL at hw
    rw [hr'] at hw
    simp only [Bool.or_eq_true] at hw
    rcases hw with hw|hw
    ·exact absurd (fc.1 hw) h1.2.1
    ·exact absurd (fc.1 hw) h1.1)
   have hb:=him r hr
   rw [e1]
   exact yg e2 hr (nbnd im r hr) (by rw [hb];exact List.mem_singleton.2 rfl)
  ·rw [if_neg hd]
   show (look [(km,_)] km).or _=_
   rw [cr,if_pos rfl];rfl
 let InvD:Array Bool->Act->World->Prop:=fun listed a w=>HeadInv .any l.toArray aP.length listed/\∃ done:List Nat,(∀ i,i∈done↔i < aP.length/\listed.getD i false=true)/\nB l.toArray aP.length done/\∃ σ T,(∀ b,b < W0.heap.size->(T b->T0 b)/\(T0 b->T b))/\pn W0 F N σ T (stM st aP ins km done) a w/\(∀ k g,look pin k=some g->σ k=some g)/\
  ∀ k,st.n<=k->(∀ i∈done,∀ r,aP[i]?=some r->k ∉ keys r.nb)->σ k=none
 have step:∀ listed a w i o,InvD listed a w->l.toArray[i]?=some o->i < aP.length->i∈Region.ready .any l.toArray listed->wpOp P l.toArray (QX W0 F N T0 pin Q) i (InvD (listed.setIfInBounds i true)) a w:=by
  rintro listed a w i o ⟨H,done,hdone,hord,σ,T,hT,S,hp,hfresh⟩ ho hi hr
  obtain ⟨r,hri⟩:∃ r,aP[i]?=some r:=⟨_,List.getElem?_eq_getElem hi⟩
  have t:=tab i r hri
  simp only [lX,Bool.and_eq_true] at t
  obtain ⟨⟨⟨⟨⟨t1,t2⟩,_⟩,_⟩,t5⟩,t6⟩:=t
  obtain ⟨hun,o',ho',hallr⟩:=mem_ready.1 hr
  have hoo:o'=o:=Option.some.inj (ho'.symm.trans ho)
  subst hoo
  rw [ho] at t1
  simp only [Bool.and_eq_true] at t1
  have hnot:i ∉ done:=fun hm=>by have:=((hdone i).1 hm).2;rw [getD_both hun] at this;cases this
  have hdst:o'.dst=r.dst/\∀ d,o'.dst=some d->d < N.1:=by
   cases h1:o'.dst with
   |none=>cases h2:r.dst with
    |none=>exact ⟨rfl,fun d h=>by cases h⟩
    |some d=>rw [h1,h2] at t1;cases t1.1
   |some d=>cases h2:r.dst with
    |none=>rw [h1,h2] at t1;cases t1.1
    |some d'=>
     rw [h1,h2] at t1
     simp only [Bool.and_eq_true,Nat.blt_eq] at t1
     obtain rfl:=Nat.eq_of_beq_eq_true t1.1.1
     exact ⟨rfl,fun d'' h=>by injection h with h;subst h;exact t1.1.2⟩
  have hdn:∀ q∈done,q < aP.length:=fun q hq=>((hdone q).1 hq).1
  have hwait:∀ j,j < aP.length->fS l.toArray i j=true->j∈done:=fun j hj hw=>(hdone j).2 ⟨hj,nT H ho hallr hw⟩
  obtain ⟨hsS,hsH⟩:=hsee.get (List.mem_of_getElem? hri)
  have hs:∀ t x,look r.st.s t=some x->look (er st aP done).s t=some x:=fun t x hx=>
   gM done t x _ (hsS.mem (t,x) (bP hx)) (srcOK _ i _ (List.all_eq_true.1 t5 (t,x) (bP hx)) done hord hdn hnot hi hwait)
  have hh0:∀ k b,look r.st.h k=some b->look (er st aP done).h k=some b:=fun k b hb=>
   gn done k b _ (hsH.mem (k,b) (bP hb)) (srcOK _ i _ (List.all_eq_true.1 t6 (k,b) (bP hb)) done hord hdn hnot hi hwait)
  have hxn:i=im->xM ins km done=[]:=fun e=>if_pos (notyet done hord hdn (e▸hnot))
  have hh:∀ k b,look r.st.h k=some b->look (stM st aP ins km done).h k=some b:=fun k b hb=>by
   show look (xM ins km done++_) k=_
   rw [eQ]
   cases hx:look (xM ins km done) k with
   |none=>exact hh0 k b hb
   |some b'=>
    obtain ⟨rfl,hne⟩:=xKey done k b' hx
    by_cases e:i=im
    ·rw [hxn e] at hx;cases hx
    ·have hb:look r.h k=some b:=hb
     rw [(rowX i r hne hri e).2.2] at hb;cases hb
  have hst:(stM st aP ins km done).s=(er st aP done).s:=rfl
  have Cr:Core σ T r.st a w:=S.core.sub (fun t x hx=>hs t x hx) hh
  have lst:∀ {σ' T'} {w':World} {a':Go.Act},(∀ b,b < w.heap.size->T' b->T b)->(∀ b,T b->T' b)->(∀ k g,σ k=some g->σ' k=some g)->(∀ k,st.n<=k->(∀ j∈i::done,∀ r,aP[j]?=some r->k ∉ keys r.nb)->σ' k=none)->pn W0 F N σ' T' (stM st aP ins km (i::done)) a' w'->InvD (listed.setIfInBounds i true) a' w':=fun h1 h1' h2 h3 h4=>by
   refine ⟨H.set hr hi,i::done,fun j=>?_,⟨hwait,hnot,hord⟩,_,_,fun b hb=>⟨fun hb'=>(hT b hb).1 (h1 b (Nat.lt_of_lt_of_le hb S.size) hb'),fun h0=>h1' b ((hT b hb).2 h0)⟩,h4,fun k g hk=>h2 _ _ (hp k g hk),h3⟩
   rw [List.mem_cons]
   by_cases e:j=i
   ·subst e
    have hsz:j < listed.size:=by rw [H.size];omega
    simp [hi,hsz]
   ·rw [getD_set_ne false (Ne.symm e)]
    simp [e,hdone]
  have fresh':∀ {σ' T' w' nb E},Ext σ T w σ' T' w' nb E->(∀ k,(∀ j∈i::done,∀ r,aP[j]?=some r->k ∉ keys r.nb)->∀ b,(k,b) ∉ nb)->∀ k,st.n<=k->(∀ j∈i::done,∀ r,aP[j]?=some r->k ∉ keys r.nb)->σ' k=none:=fun X hz k hk hkn=>by
   rw [X.zn k (hz k hkn)]
   exact hfresh k hk fun j hj=>hkn j (List.mem_cons_of_mem _ hj)
  have lkm:∀ (x:AB),look (stM st aP ins km done).h km=some x->∀ {k b},look [(km,x)] k=some b->look (stM st aP ins km done).h k=some b:=fun x hx k b hb=>by
   rw [cr] at hb
   split at hb
   ·rename_i e;subst e;injection hb with hb;subst hb;exact hx
   ·cases hb
  have hdd:∀ d,r.dst=some d->d < N.1:=fun d hd=>hdst.2 d (hdst.1▸hd)
  cases hli:look ins i with
  |some p=>
   obtain ⟨q1,_,_,q4,_,q6,q7⟩:=insX i p hli
   obtain ⟨z1,z2,z3⟩:=q7 r hri
   have hne:ins≠[]:=fun e=>by rw [e] at hli;cases hli
   have hat:=mapAt done hord hdn (hwait im q6 q1) hne
   obtain ⟨o2,ho2,hw,hg⟩:=hins i p r hli hri
   obtain rfl:o2=o':=Option.some.inj ((show l.toArray[i]?=some o2 by simpa using ho2).symm.trans ho)
   have Cm:Core σ T ⟨r.s,[(km,.map (mV (jc ins done)) (jc ins done).length)],0⟩ a w:=S.core.sub (fun t x hx=>hs t x hx) fun k b hb=>by
    exact lkm _ hat hb
   refine mG ho (hw σ T a w Cr) (me (iZ (hg _ _ (List.all_eq_true.2 fun q hq=>?_) σ T a w Cm fun k b hk hkE=>?_) ?_))
   ·obtain ⟨j,hj,hp'⟩:=qQ.1 hq
    cases hqe:q.1==p.1 with
    |false=>rfl
    |true=>exact absurd (hdist j i q p hp' hli (by simpa using hqe)▸hj) hnot
   ·obtain ⟨rfl,_⟩:=Prod.mk.inj (List.mem_singleton.1 hk);exact absurd (List.mem_singleton.2 rfl) hkE
   ·rintro a' w' ⟨u,σ',T',rfl,X,hv⟩
    refine lst X.grow.na X.oh X.grow.σle (fresh' X fun k hkn b hb=>?_) ?_
    ·obtain ⟨rfl,_⟩:=Prod.mk.inj (List.mem_singleton.1 hb)
     obtain ⟨rm,hrm⟩:∃ r,aP[im]?=some r:=⟨_,List.getElem?_eq_getElem q6⟩
     exact hkn im (List.mem_cons_of_mem _ (hwait im q6 q1)) rm hrm (by rw [him rm hrm];exact List.mem_singleton.2 rfl)
    ·have hS:=S.step (dst:=none) (av:=.v (.c .any)) (fun e he=>by rw [List.mem_singleton.1 he];exact ⟨_,hat⟩) (fun d hd=>by cases hd) X hv
     rw [hdst.1,z3]
     refine hS.same ?_ (fun k=>?_) ?_
     ·show (er st aP (i::done)).s=_
      rw [gz hri,z1,z2,z3];rfl
     ·show look (xM ins km (i::done)++(er st aP (i::done)).h) k=look ([(km,_)]++del [km] (xM ins km done++(er st aP done).h)) k
      have e1:jc ins (i::done)=jc ins done++[p]:=by simp only [jc,hli]
      have e2:(er st aP (i::done)).h=[]++del [] (er st aP done).h:=by rw [gz hri,z1,z2,z3];rfl
      rw [e2,List.nil_append,eQ,eQ]
      by_cases e:km=k
      ·subst e
       unfold xM
       rw [e1,if_neg ca,List.length_append,cr,if_pos rfl,cr,if_pos rfl];rfl
      ·have hxk:∀ d,look (xM ins km d) k=none:=fun d=>by
        cases hx:look (xM ins km d) k with
        |none=>rfl
        |some b'=>exact absurd (xKey d k b' hx).1.symm e
       rw [hxk,cr,if_neg e,gZ ca,gZ (by simpa using Ne.symm e),eQ,hxk];rfl
     ·show (er st aP (i::done)).n=Nat.max (er st aP done).n (km+1)
      have h1:=S.hn km _ hat
      have h1:km < (er st aP done).n:=h1
      rw [gz hri,z1,z2,z3]
      show (er st aP done).n=Nat.max (er st aP done).n (km+1)
      exact (Nat.max_eq_left h1).symm
  |none=>
  have e1:jc ins (i::done)=jc ins done:=by simp only [jc,hli]
  have ex:xM ins km (i::done)=xM ins km done:=by unfold xM;rw [e1]
  have fin':∀ σ' T' w' u,Ext σ T w σ' T' w' r.nb r.E->fH σ' T' w' r.v u->InvD (listed.setIfInBounds i true) (a.put o'.dst u) w':=by
   intro σ' T' w' u X hv
   refine lst X.grow.na X.oh X.grow.σle (fresh' X fun k hkn b hb=>hkn i List.mem_cons_self r hri (List.mem_map.2 ⟨(k,b),hb,rfl⟩)) ?_
   have hS:=S.step (dst:=r.dst) (av:=r.v) (fun e he=>by
    obtain ⟨⟨e',b⟩,hm,rfl⟩:=List.mem_map.1 (fc.1 (List.all_eq_true.1 t2 e he))
    cases hl:look r.h e' with
    |none=>exact absurd hl (kY hm)
    |some b'=>exact ⟨b',hh e' b' hl⟩) hdd X hv
   rw [hdst.1]
   refine hS.same ?_ (fun k=>?_) ?_
   ·show (er st aP (i::done)).s=_
    rw [gz hri];cases r.dst<;>rfl
   ·show look (xM ins km (i::done)++(er st aP (i::done)).h) k=look (aK.put _ _ _).h k
    rw [ex,gz hri,sQ,sQ]
    show look (xM ins km done++(r.nb++del r.E (er st aP done).h)) k=look (r.nb++del r.E (xM ins km done++(er st aP done).h)) k
    rw [eQ,eQ,eQ]
    cases hx:look (xM ins km done) k with
    |none=>
     by_cases hk:k∈r.E
     ·have d1:∀ z:List (Nat×AB),look (del r.E z) k=none:=fun z=>by
       cases hz:look (del r.E z) k with
       |none=>rfl
       |some b=>exact absurd hk (tY hz).2
      rw [d1,d1];rfl
     ·rw [gZ hk,gZ hk,eQ,hx];rfl
    |some b'=>
     obtain ⟨rfl,hne⟩:=xKey done k b' hx
     have hi':i≠im:=fun e=>by rw [hxn e] at hx;cases hx
     obtain ⟨r1,r2,_⟩:=rowX i r hne hri hi'
     rw [qf r1,gZ r2,gZ r2,eQ,hx];rfl
   ·show (er st aP (i::done)).n=_
    rw [gz hri];cases r.dst<;>rfl
  by_cases hil:i=il
  ·subst hil
   obtain ⟨o2,ho2,hw,hg⟩:=hlk r hri
   obtain rfl:o2=o':=Option.some.inj ((show l.toArray[i]?=some o2 by simpa using ho2).symm.trans ho)
   obtain ⟨hne,hX'⟩:=hX.resolve_left fun e=>by have:=e.2;omega
   simp only [tX,Bool.and_eq_true,Nat.blt_eq,hri,Bool.not_eq_true'] at hX'
   obtain ⟨⟨⟨⟨_,y0⟩,⟨⟨y1,y2⟩,y3⟩,y4⟩,y5⟩,_⟩:=hX'
   have y1:r.nb=[]:=by simpa using y1
   have y2:r.E=[]:=by simpa using y2
   rw [y1,y2] at fin'
   have hat:=mapAt done hord hdn (hwait im y5 y3) hne
   have Cm:Core σ T ⟨r.s,[(km,.map (mV (jc ins done)) (jc ins done).length)],0⟩ a w:=S.core.sub (fun t x hx=>hs t x hx) fun k b hb=>lkm _ hat hb
   refine mG ho (hw σ T a w Cr) (me (iZ (hg _ _ (fun q=>?_) σ T a w Cm fun k b hk=>by cases hk) ?_))
   ·rw [qQ]
    constructor
    ·rintro ⟨j,_,e⟩;exact List.mem_map.2 ⟨(j,q),bP e,rfl⟩
    ·intro hq
     obtain ⟨⟨j,q'⟩,hm',rfl⟩:=List.mem_map.1 hq
     have hl:=hlook _ hm'
     exact ⟨j,hwait j (insX j q' hl).2.2.1 (insX j q' hl).2.1,hl⟩
   ·rintro a' w' ⟨u,σ',T',rfl,X,hv⟩
    exact fin' σ' T' w' u X hv
  ·obtain ⟨o2,ho2,hro⟩:=hrows i r hri hli hil
   obtain rfl:o2=o':=Option.some.inj ((show l.toArray[i]?=some o2 by simpa using ho2).symm.trans ho)
   rcases hro with ⟨hw,hg⟩|⟨hw,hv,hnb,hE⟩
   ·refine mG ho (hw σ T a w Cr) (me (iZ (hg σ T a w Cr fun k b hk hkE=>?_) ?_))
    ·obtain ⟨_,h1|⟨h1,h2⟩⟩:=nbk i r k hri (List.mem_map.2 ⟨(k,b),hk,rfl⟩)
     ·exact absurd h1 hkE
     ·refine hfresh k h1 fun j hj q hq hkq=>?_
      have hne:j≠i:=fun e=>hnot (e▸hj)
      have hwq:lL aP k j=true:=by
       unfold lL;rw [hq];simp only [Bool.or_eq_true];exact .inr (fc.2 hkq)
      exact hnot (hord.wait hj hi (h2 j (hdn j hj) hne hwq))
    ·rintro a' w' ⟨u,σ',T',rfl,X,hv⟩
     exact fin' σ' T' w' u X hv
   ·refine oS ho (hw σ T a w Cr) (fin' σ T w undef ?_ ?_)
    ·rw [hnb,hE];exact Ext.same S.core.ft
    ·rw [hv];exact ⟨[],rfl,trivial⟩
 have atEnd:∀ listed a w,InvD listed a w->(∀ i,i < aP.length->listed.getD i false=true)->Inv W0 F N T0 pin fin a w:=by
  rintro listed a w ⟨H,done,hdone,hord,σ,T,hT,S,hp,hfresh⟩ hl
  have hdn:∀ q∈done,q < aP.length:=fun q hq=>((hdone q).1 hq).1
  have bZ:∀ q,q < aP.length->q∈done:=fun q hq=>(hdone q).2 ⟨hq,hl q hq⟩
  have hs:∀ t x,look fin.s t=some x->look (er st aP done).s t=some x:=fun t x hx=>
   gM done t x _ (hfin.1.mem (t,x) (bP hx)) (finOK _ _ (List.all_eq_true.1 hfs (t,x) (bP hx)) done hord hdn bZ)
  have hfhx:∀ k b,look fin.h k=some b->k < fin.n/\pB l.toArray aP.length (lL aP k) (kU aP fp k)=true:=fun k b hb=>by
   have:=List.all_eq_true.1 hfh _ (bP hb)
   simpa only [Bool.and_eq_true,Nat.blt_eq] using this
  have hh:∀ k b,look fin.h k=some b->look (stM st aP ins km done).h k=some b:=fun k b hb=>by
   have h0:=gn done k b _ (hfin.2.mem (k,b) (bP hb)) (finOK _ _ (hfhx k b hb).2 done hord hdn bZ)
   show look (xM ins km done++_) k=_
   rw [eQ]
   cases hx:look (xM ins km done) k with
   |none=>exact h0
   |some b'=>
    obtain ⟨rfl,hne⟩:=xKey done k b' hx
    have hm:=(hX.resolve_left fun e=>hne e.1).2
    simp only [tX,Bool.and_eq_true,Option.isNone_iff_eq_none] at hm
    rw [hm.2] at hb;cases hb
  refine ⟨σ,T,hT,⟨S.core.sub (fun t x hx=>hs t x hx) hh,S.os,S.tape,S.output,S.size,S.cu,fun k b g hk=>S.own k b g (hh k b hk),fun k hk=>?_,fun k b hk=>(hfhx k b hk).1,S.kM,S.kr⟩,hp⟩
  have hk1:=Nat.le_of_ble_eq_true hfn
  exact hfresh k aa fun i _ r hr hkr=>by have:=(nbk i r k hr hkr).1;omega
 have main:∀ k listed a1 w1,InvD listed a1 w1->iX aP.length listed=k->wpAny P .any l.toArray (QX W0 F N T0 pin Q) k listed a1 w1:=by
  intro k
  induction k with
  |zero=>
   intro listed a1 w1 I hk'
   have hl:∀ i,i < aP.length->listed.getD i false=true:=fun i hi=>by
    have h:=List.eq_nil_of_length_eq_zero hk'
    have h2:=List.filter_eq_nil_iff.1 h i (List.mem_range.2 hi)
    simpa using h2
   have hIf:=atEnd listed a1 w1 I hl
   refine ⟨List.eq_nil_iff_forall_not_mem.2 fun i hi=>?_,fin,hk,hIf⟩
   obtain ⟨h1,o,ho,_⟩:=mem_ready.1 hi
   have hi':i < l.toArray.size:=(Array.getElem?_eq_some_iff.1 ho).1
   have:=hl i aa
   rw [getD_both h1] at this;cases this
  |succ k ih=>
   intro listed a1 w1 I hk'
   have hex:∃ i,i < aP.length/\listed.getD i false=false/\∀ j,j < i->listed.getD j false=true:=by
    have h1:∃ i,i < aP.length/\listed.getD i false=false:=by
     have hne:((List.range aP.length).filter fun i=>!listed.getD i false)≠[]:=fun e=>by unfold iX at hk';rw [e] at hk';cases hk'
     obtain ⟨x,hx⟩:=List.exists_mem_of_ne_nil _ hne
     obtain ⟨hx1,hx2⟩:=List.mem_filter.1 hx
     exact ⟨x,List.mem_range.1 hx1,by simpa using hx2⟩
    obtain ⟨i,hi,hmin⟩:=exists_least h1
    refine ⟨i,hi.1,hi.2,fun j hj=>?_⟩
    cases hjl:listed.getD j false with
    |true=>rfl
    |false=>exact absurd (hmin j ⟨aa,hjl⟩) aa
   obtain ⟨i0,hi0,hun0,hlow⟩:=hex
   have hopi:∀ i,i < aP.length->∃ o,l.toArray[i]?=some o:=fun i hi=>⟨_,Array.getElem?_eq_getElem aa⟩
   have bZ:∀ i,i < aP.length->listed.getD i false=false->listed.getD i true=false:=fun i hi h=>getD_in (by rw [I.1.size];omega) h
   have hready:i0∈Region.ready .any l.toArray listed:=by
    obtain ⟨o,ho⟩:=hopi i0 hi0
    obtain ⟨r,hr⟩:∃ r,aP[i0]?=some r:=⟨_,List.getElem?_eq_getElem hi0⟩
    have t:=tab i0 r hr
    simp only [lX,Bool.and_eq_true] at t
    have t1:=t.1.1.1.1.1
    rw [ho] at t1
    simp only [Bool.and_eq_true] at t1
    refine mem_ready.2 ⟨bZ i0 hi0 hun0,o,ho,fun e he hb=>hlow _ ?_⟩
    have h3:=Array.all_eq_true'.1 t1.2 e he
    simp only [Bool.or_eq_true,Bool.not_eq_true',Nat.blt_eq] at h3
    exact h3.resolve_left (by rw [hb];simp)
   refine ⟨fun h=>(by rw [h] at hready;cases hready),fun i hi=>?_⟩
   have hilt:i < aP.length:=by
    obtain ⟨_,o,ho,_⟩:=mem_ready.1 hi
    have hi':i < l.toArray.size:=(Array.getElem?_eq_some_iff.1 ho).1
    omega
   obtain ⟨o,ho⟩:=hopi i hilt
   refine wpOp_mono (fun a' w' I'=>ih _ a' w' I' ?_) (step listed a1 w1 i o I ho hilt hi)
   have hunl:=getD_both (mem_ready.1 hi).1
   have hset:(listed.setIfInBounds i true).getD i false=true:=by
    have:i < listed.size:=by rw [I.1.size];omega
    simp [this]
   have:=count_set (p:=fun j=>!listed.getD j false) (q:=fun j=>!(listed.setIfInBounds i true).getD j false) (i:=i) (by simp only [hunl];rfl) (by simp only [hset];rfl)
    (fun j hj=>by simp only [getD_set_ne false (Ne.symm hj)]) (List.range aP.length) List.nodup_range (List.mem_range.2 hilt)
   unfold iX at hk' ⊢
   omega
 refine wp_region_any hm ?_
 have inv0:HeadInv .any l.toArray aP.length (Array.replicate l.toArray.size false):=
  ⟨ca,fun j oj _ hl=>(by rw [getD_replicate_false] at hl;cases hl),fun t _ ht=>getD_in (by simpa using ht) (getD_replicate_false _ _)⟩
 have hw0:pn W0 F N σ0 T1 st a {w with drawn:=w.drawn+1}:=
  ⟨S0.core.drew,S0.os,S0.tape,S0.output,S0.size,S0.cu,S0.own,S0.next,S0.hn,S0.kM,S0.kr⟩
 have I0:InvD (Array.replicate l.toArray.size false) a {w with drawn:=w.drawn+1}:=
  ⟨inv0,[],fun i=>by rw [getD_replicate_false];simp,trivial,σ0,T1,hT1,hw0.same rfl (fun k=>rfl) rfl,hp0,fun k hk _=>S0.next k hk⟩
 have:=main aP.length _ a _ I0 (by
  unfold iX
  rw [List.filter_eq_self.2 (fun i _=>by rw [getD_replicate_false];rfl),List.length_range])
 rw [hlen] at this
 exact this
end
end
section
def oW:List (Option Op)->List Oper->List Oper
 |none::m,o::l=>o::oW m l
 |some p::m,o::l=>{o with op:=p}::oW m l
 |[],l=>l
 |_,[]=>[]
theorem tS:∀ {m:List (Option Op)} {l:List Oper} {i:Nat},(oW m l)[i]?=(l[i]?).map fun o=>match (m[i]?).join with
  |some p=>{o with op:=p}
  |none=>o
 |none::m,o::l,0=>rfl
 |some p::m,o::l,0=>rfl
 |none::m,o::l,i+1=>by simpa [oW] using tS (m:=m) (l:=l) (i:=i)
 |some p::m,o::l,i+1=>by simpa [oW] using tS (m:=m) (l:=l) (i:=i)
 |[],l,i=>by simp [oW]
 |none::_,[],i=>by simp [oW]
 |some _::_,[],i=>by simp [oW]
section
variable {P:Program} {W0:World} {F:Nat->Prop} {N:NT} {T0:Nat->Prop} {pin:List (Nat×cg)} {Q:Exit->aK->Prop}
def CR (P:Program) (Q:Exit->aK->Prop) (N:NT) (l:List Oper) (km im il:Nat) (ins:List (Nat×Int×Int)) (st:aK) (aP:List bS):Prop:=
 ∃ fin,nO l.toArray aP N.1 st fin (eN aP.length)=true/\tX l.toArray aP fin km im il ins=true/\(∀ r,aP[im]?=some r->r.nb=[(km,.map (mV []) 0)])/\
  dG (fun x=>∃ r o,aP[x.1]?=some r/\l[x.1]?=some o/\∀ ps cl,ps.all (fun q=>!(q.1==x.2.1))=true->bU P o ⟨r.s,[(km,.map (mV ps) cl)],0⟩ (.v (.c .any)) [(km,.map (mV (ps++[x.2])) (cl+1))] [km]) ins/\
  (∃ r o,aP[il]?=some r/\l[il]?=some o/\∀ ps cl,(∀ q,q∈ps↔q∈ins.map (·.2))->bU P o ⟨r.s,[(km,.map (mV ps) cl)],0⟩ r.v [] [])/\
  (dG (fun x=>mQ st aP x.1 x.2 (mg aP (eN aP.length) x.1)) fin.s/\dG (fun x=>mR st aP x.1 x.2 (kU aP (eN aP.length) x.1)) fin.h)/\Q .normal fin
theorem Gi {id:Nat} {l:List Oper} {s s0:List (Nat×AV)} {h h0:List (Nat×AB)} {n:Nat} (m:List (Option Op)) (km im il:Nat) (ins:List (Nat×Int×Int)) (lv hv:List Nat) (hm:P.follows .mixedOrders=true) (h1:jP s lv=some s0) (h2:jP h hv=some h0)
  (hg:l.all (fun o=>o.guard.isNone)=true) (hk:(List.range m.length).all (fun i=>Nat.beq i il||(look ins i).isSome||((m[i]?).join).isNone)=true) (hne:ins≠[]) (hlook:∀ x∈ins,look ins x.1=some x.2) (hdist:∀ x∈ins,∀ y∈ins,x.2.1=y.2.1->x.1=y.1)
  (k:PW P (oW m l).toArray ⟨s0,h0,n⟩ (CR P Q N l km im il ins ⟨s0,h0,n⟩) 0 [] n (oW m l)):AC P W0 F N T0 pin Q (.region id l.toArray true) ⟨s,h,n⟩:=by
 refine ie (st':=⟨s0,h0,n⟩) (aq.sub (fun i v hi=>kX h1 hi) (fun i v hi=>kX h2 hi) rfl) ?_
 obtain ⟨rows,h3,h4,fin,h5,h6,h7,h8,h9,h10,h11⟩:=k rfl (fun j r hr=>by simp at hr)
 have wt:∀ i o (st:aK),l[i]?=some o->aR l.toArray o st:=fun i o st ho=>aR.plain (by have:=List.all_eq_true.1 hg o (List.mem_of_getElem? ho);simpa using this)
 refine Gj rows fin (eN rows.length) km im il ins hm h5 (.inr ⟨hne,h6⟩) hlook (fun i j p q hi hj e=>hdist (i,p) (bP hi) (j,q) (bP hj) e) (fun i r hr hli hil=>?_) h7 (fun i p r hi hr=>?_) (fun r hr=>?_) (yj h4) h10 h11
 ·obtain ⟨o',ho',hro⟩:=h3.get hr
  rw [tS] at ho'
  have hmi:(m[i]?).join=none:=by
   cases hl:m[i]? with
   |none=>rfl
   |some p=>
    have:=iq hk (List.getElem?_eq_some_iff.1 hl).1
    simp only [Bool.or_eq_true,hli,hl,Option.isSome_none,Bool.false_eq_true,or_false,Option.isNone_iff_eq_none] at this
    exact this.resolve_left fun h=>hil (Nat.eq_of_beq_eq_true h)
  rw [hmi] at ho'
  cases hlo:l[i]? with
  |none=>rw [hlo] at ho';cases ho'
  |some o=>
   rw [hlo] at ho';injection ho' with ho';subst ho'
   refine ⟨o,rfl,?_⟩
   rcases hro with ⟨_,g⟩|⟨hu,hv⟩
   ·exact .inl ⟨wt i o _ hlo,g⟩
   ·exact .inr ⟨fun σ T a w C=>absurd (wt i o _ hlo σ T a w C) (by
     have h1:=hu σ T a w C
     have h2:=aR.plain (ops:=(oW m l).toArray) (st:=r.st) (by have:=List.all_eq_true.1 hg o (List.mem_of_getElem? hlo);simpa using this) σ T a w C
     rw [h1] at h2;cases h2),hv⟩
 ·obtain ⟨r',o,e1,e2,e3⟩:=h8.mem _ (bP hi)
  have:r'=r:=Option.some.inj (e1.symm.trans hr)
  subst this
  exact ⟨o,e2,wt i o _ e2,e3⟩
 ·obtain ⟨r',o,e1,e2,e3⟩:=h9
  have:r'=r:=Option.some.inj (e1.symm.trans hr)
  subst this
  exact ⟨o,e2,wt il o _ e2,e3⟩
theorem HB {l l':List Oper} {st:aK} {fs:List (Nat×AV)} {fh:List (Nat×AB)} {i n km im il:Nat} {ins:List (Nat×Int×Int)} {racc:List bS} {pre pre':List Nat} (lv hv:List Nat) (hs:gM st.s racc i lv=(fs,pre)) (hh:gn st.h racc i hv=(fh,pre'))
  (hB:(nO l.toArray racc.reverse N.1 st ⟨fs,fh,n⟩ (eN i) && tX l.toArray racc.reverse ⟨fs,fh,n⟩ km im il ins)=true) (him:∀ r,racc.reverse[im]?=some r->r.nb=[(km,.map (mV []) 0)])
  (hins:dG (fun x=>∃ r o,racc.reverse[x.1]?=some r/\l[x.1]?=some o/\∀ ps cl,ps.all (fun q=>!(q.1==x.2.1))=true->bU P o ⟨r.s,[(km,.map (mV ps) cl)],0⟩ (.v (.c .any)) [(km,.map (mV (ps++[x.2])) (cl+1))] [km]) ins)
  (hlk:∃ r o,racc.reverse[il]?=some r/\l[il]?=some o/\∀ ps cl,(∀ q,q∈ps↔q∈ins.map (·.2))->bU P o ⟨r.s,[(km,.map (mV ps) cl)],0⟩ r.v [] [])
  (k:Q .normal ⟨fs,fh,n⟩):PW P l'.toArray st (CR P Q N l km im il ins st) i racc n []:=fun hl hsee=>by
 refine ⟨[],trivial,by rw [List.append_nil];exact hsee,?_⟩
 rw [List.append_nil]
 unfold CR
 rw [List.length_reverse,hl]
 simp only [Bool.and_eq_true] at hB
 exact ⟨⟨fs,fh,n⟩,hB.1,hB.2,him,hins,hlk,⟨fG (nJ hl hs),fG (mu hl hh)⟩,k⟩
end
theorem rX {a v:Int}:∀ {ps:List (Int×Int)},(∀ p∈ps,p.1=a->p.2=v)->(a,v)∈ps->gF ps a=v
 |(k,u)::l,h,hm=>by
  unfold gF
  split
  ·rename_i e;exact h _ List.mem_cons_self e
  ·rename_i e
   rcases List.mem_cons.1 hm with h1|h1
   ·injection h1 with h1 _;exact absurd h1.symm e
   ·exact rX (fun p hp=>h p (List.mem_cons_of_mem _ hp)) h1
theorem tW {a:Int}:∀ {ps:List (Int×Int)},(∀ p∈ps,p.1≠a)->gF ps a=0
 |[],_=>rfl
 |(k,u)::l,h=>by
  unfold gF
  rw [if_neg (h _ List.mem_cons_self)]
  exact tW fun p hp=>h p (List.mem_cons_of_mem _ hp)
theorem Ce {ps qs:List (Int×Int)} {a:Int} (h:∀ q,q∈ps↔q∈qs) (hd:∀ x∈qs,∀ y∈qs,x.1=y.1->x=y):gF ps a=gF qs a:=by
 by_cases c:∃ v,(a,v)∈qs
 ·obtain ⟨v,hv⟩:=c
  rw [rX (fun p hp e=>by have:=hd p ((h p).1 hp) _ hv e;rw [this]) ((h _).2 hv),rX (fun p hp e=>by have:=hd p hp _ hv e;rw [this]) hv]
 ·rw [tW fun p hp e=>c ⟨p.2,by rw [<-e];exact (h p).1 hp⟩,tW fun p hp e=>c ⟨p.2,by rw [<-e];exact hp⟩]
end

theorem Hr (x:Nat->Value) (hx:∀ i,(x i).oneCell'=true) (b:Bk) (d:bW) (ok:cH b) (b2:Bk) (e2:Int) (hr:hP b d=(b2,e2)):cS Tryz.prog 25 [(.c (.p 0 0 0 0)),(.g [(cI d.id),(cI d.kind),(cI d.n),(cI d.au),(cI d.move),(cI d.sum)])] [(0,(.box 73 (cf b 1 2 3 4 (.d (.v (x 17))) (cI 0)))),(1,(dS b.ak)),(2,(dR b.due)),(3,(ec b.an)),(4,(cX b.aM))] [0] (.t []) [(0,(.box 73 (cf b2 1 2 3 4 (.d (.v (x 17))) (cI e2)))),(1,(dS b2.ak)),(2,(dR b2.due)),(3,(ec b2.an)),(4,(cX b2.aM))]:=by
 refine cS.mk 201 [(0,(aC (.p 0 0 0 0))),(1,(aG [(cI d.id),(cI d.kind),(cI d.n),(cI d.au),(cI d.move),(cI d.sum)]))] 5 Tryz.func25 rfl rfl rfl rfl rfl rfl rfl rfl rfl ?_
 intro W0 F0 T0 pg
 obtain ⟨okt,okc,okd,oka,oky,okw0,okw1,okp,okv,okk0,okk1,okg,okl0,okl1,okp0,okp1,okn0,okn1,okq⟩:=id ok
 refine ag 1 rfl (ag 4 rfl (af (ag 4 rfl (ax rfl (fun hc1=>?_) (fun hc1=>?_)))))
 ·
  have hc1':=hc1;try simp only [aT,bx] at hc1'
  refine aw 1 rfl ?_
  have hr0:cp 0 12=12:=rfl
  refine ay 6 [0,5,1,2,3,4] (cz id id (ms:=(bY.set 19 (some (cI 0)))) (ms':=(bY.set 19 (some (cI 12)))) (fun x hx=>dV x hx 0 12 12 hr0) fr rfl) rfl (ae (al (aj ?_)))
  have hX:hP b d=(b,12):=by
    unfold hP;rw [if_pos hc1]
  cases hX.symm.trans hr;clear hX
  exact bb [0,1,2,3,4] 5 rfl
 have hc1':=hc1;try simp only [aT,bx] at hc1'
 refine aD (af (af ?_))
 rcases Bool.eq_false_or_eq_true (decide (d.n < 0)) with hb2|hb2
 ·
  have hb2':=of_decide_eq_true hb2
  refine bg [0,3,4] [5,0,1,2,3,4] rfl (bC (kn:=[(23,true)]) bn 13 rfl ⟨hb2,trivial⟩ (bf [5,0,1,2,3,4] rfl (ae (ax rfl (fun _=>?_) (fun hno=>by cases hno)))))
  refine aw 1 rfl ?_
  have hr1:cp 0 6=6:=rfl
  refine ay 6 [0,5,1,2,3,4] (cz id id (ms:=(bY.set 19 (some (cI 0)))) (ms':=(bY.set 19 (some (cI 6)))) (fun x hx=>dV x hx 0 6 6 hr1) fr rfl) rfl (ae (al (aj ?_)))
  have hX:hP b d=(b,6):=by
    unfold hP;rw [if_neg (by simp [hc1])];rw [if_pos aa]
  cases hX.symm.trans hr;clear hX
  exact bb [0,1,2,3,4] 5 rfl
 have hb2':=of_decide_eq_false hb2
 refine bg [0,3,4] [5,0,1,2,3,4] rfl (bC (kn:=[(23,false)]) bn 10 rfl ⟨hb2,trivial⟩ (cG (n':=6) [30,24] [3] rfl rfl (.inl ⟨(aR.yes rfl rfl rfl),dn rfl rfl rfl rfl rfl hG⟩) rfl (aF 2 rfl (bf [5,0,1,2,3,4] rfl (ae (aO rfl (fun hc4'=>?_) (fun hc4'=>?_)))))))
 ·
  refine aw 1 rfl ?_
  have hr2:cp 0 6=6:=rfl
  refine ay 6 [0,5,1,2,3,4] (cz id id (ms:=(bY.set 19 (some (cI 0)))) (ms':=(bY.set 19 (some (cI 6)))) (fun x hx=>dV x hx 0 6 6 hr2) fr rfl) rfl (ae (al (aj ?_)))
  have hX:hP b d=(b,6):=by
    unfold hP;rw [if_neg (by simp [hc1])];rw [if_pos aa]
  cases hX.symm.trans hr;clear hX
  exact bb [0,1,2,3,4] 5 rfl
 refine aD (af ?_)
 obtain ⟨x1,hx1⟩:=bO (xs:=b.an) (i:=Int.toNat (d.n)) aa
 refine bg [0,3,4] [5,0,1,2,3,4] rfl (aF 6 rfl (bh 6 [39,41] [3] rfl (cU (i:=Int.toNat (d.n)) rfl rfl rfl hG ji) (bM 6 [42] [3] rfl (dk rfl rfl rfl tI rfl ji (aV hx1) rfl) rfl (bC (n':=7) (kn:=[]) bn 1 rfl trivial (bf [6,5,0,1,2,3,4] rfl (ad 1 rfl (ae (aw 5 rfl ?_))))))))
 obtain ⟨b3,e3,hr3⟩:∃ (b3:bG) (e3:Int),bV x1 d.move d.sum=(b3,e3):=⟨_,_,rfl⟩
 refine ay 7 [6,5,0,1,2,3,4] (cA 7 (zv x1 d.move d.sum b3 e3 hr3) Lr rfl) rfl (ad 6 rfl (ae (af (aw 2 rfl ?_))))
 have hr4:cp 0 e3=e3:=rfl
 refine ay 8 [0,7,6,5,1,2,3,4] (cz id id (ms:=(bY.set 19 (some (cI 0)))) (ms':=(bY.set 19 (some (cI e3)))) (fun x hx=>dV x hx 0 e3 e3 hr4) fr rfl) rfl (ae (aO rfl (fun hc5'=>?_) (fun hc5'=>?_)))
 ·
  refine al (aj ?_)
  have hX:hP b d=(b,e3):=by
    unfold hP;rw [if_neg (by simp [hc1])];rw [if_neg aa,hx1];dsimp only;simp only [hr3];rw [if_pos aa]
  cases hX.symm.trans hr;clear hX
  exact bb [0,1,2,3,4] 5 rfl
 refine aD ?_
 obtain rfl:e3=0:=aa
 obtain ⟨mw1,mw2,mc,ms,mk1,mk2,mn1,mn2⟩:=lQ hr3
 have hoP:=okp x1 (List.mem_of_getElem? hx1)
 have hI0:∀ t∈b.s0.kept,fb t.number:=fun t ht=>(okk0 t ht).1
 have hI1:∀ t∈b.s1.kept,fb t.number:=fun t ht=>(okk1 t ht).1
 refine af (bg [0,3,4,5,6] [0,7,6,5,1,2,3,4] rfl (aF 2 rfl (bh 8 [57] [] rfl (bm rfl rfl rfl (bH aa)) (aF 2 rfl (bh 8 [60] [] rfl (bm rfl rfl rfl (bH aa)) (aF 5 rfl (bf [0,7,6,5,1,2,3,4] rfl (ae (af ?_)))))))))
 obtain ⟨x2,hx2⟩:=bO (xs:=b.ak) (i:=Int.toNat (b3.aA)) aa
 have hx2g:=xU (okg x2 (List.mem_of_getElem? hx2))
 refine bg [0,3,4,5,6,8,9,10] [0,7,6,5,1,2,3,4] rfl (aF 6 rfl (bh 8 [67,69] [1] rfl (cU (i:=Int.toNat (b3.aA)) rfl rfl rfl gy gX) (bM 8 [70] [1] rfl (dk rfl rfl rfl rB rfl gX (aV hx2) rfl) rfl (bC (n':=9) (kn:=[]) bn 1 rfl trivial (bf [8,0,7,6,5,1,2,3,4] rfl (ad 1 rfl (ae (af (qu (J:=⟨[(0,(aC (.p 0 0 0 0))),(3,(aC (.p 5 0 0 0))),(4,(aC (.p 0 0 0 0))),(5,(aC (.p 6 0 0 0))),(6,(aC (.p 7 0 0 0))),(8,(aI (10+b3.aA))),(9,(aI (50+b3.au))),(10,(aI d.sum)),(83,(aB (decide (d.move=1/\d.sum > jE b.ak b3.aA))))],[(0,(.box 73 (cf b 1 2 3 4 (.d (.v (x 17))) (cI 0)))),(7,(.box 81 [(cI b3.aA),(cI b3.au),(cI b3.sum),(cI b3.captured),(cI b3.bd),(cI b3.aX),(cI b3.da),(cB b3.shut)])),(6,(.box 81 [(cI x1.aA),(cI x1.au),(cI x1.sum),(cI x1.captured),(cI x1.bd),(cI x1.aX),(cI x1.da),(cB x1.shut)])),(5,(.box 69 [(cI d.id),(cI d.kind),(cI d.n),(cI d.au),(cI d.move),(cI d.sum)])),(1,(dS b.ak)),(2,(dR b.due)),(3,(ec b.an)),(4,(cX b.aM))],8⟩) ?_ ?_)))))))))
 ·
  refine ah (ad 4 rfl (bz 75 rfl (fun hb6'=>?_) (fun hb6'=>?_)))
  ·
   refine ad 5 rfl (dg (aR.yes rfl rfl rfl) (bm rfl rfl rfl (bH aa)) rfl rfl (ad 2 rfl (ae ?_)))
   rw [show (decide (d.move=1/\d.sum > jE b.ak b3.aA))=(decide (d.sum > (x2.bB - x2.held))) by (unfold jE;rw [hx2];dsimp only;first|(simp_all;done)|(simp_all;omega))]
   exact aq.rz id
  refine ad 8 rfl (ae ?_)
  rw [show (decide (d.move=1/\d.sum > jE b.ak b3.aA))=(false) by (unfold jE;rw [hx2];dsimp only;first|(simp_all;done)|(simp_all;omega))]
  exact aq.rz id
 refine ax rfl (fun hc7=>?_) (fun hc7=>?_)
 ·
  have hc7':=of_decide_eq_true hc7
  refine aw 1 rfl ?_
  have hr5:cp 0 10=10:=rfl
  refine ay 8 [0,7,6,5,1,2,3,4] (cz id id (ms:=(bY.set 19 (some (cI 0)))) (ms':=(bY.set 19 (some (cI 10)))) (fun x hx=>dV x hx 0 10 10 hr5) fr rfl) rfl (ae (al (aj ?_)))
  have hX:hP b d=(b,10):=by
    unfold hP;rw [if_neg (by simp [hc1])];rw [if_neg aa,hx1];dsimp only;simp only [hr3];rw [if_neg aa,if_pos (by simpa using hc7)]
  cases hX.symm.trans hr;clear hX
  exact bb [0,1,2,3,4] 5 rfl
 have hc7':=of_decide_eq_false hc7
 refine aD ?_
 have hfun:¬(d.move=1/\d.sum > jE b.ak b3.aA):=by simpa using hc7
 refine af ?_
 obtain ⟨e6,hr6⟩:∃ (e6:Int),bE b3=e6:=⟨_,rfl⟩
 have hhb6:=kB (show bI b3=0 by assumption)
 rw [hr6] at hhb6
 obtain ⟨e7,hr7⟩:∃ (e7:Int),bE x1=e7:=⟨_,rfl⟩
 have hhb7:=kB (show bI x1=0 by assumption)
 rw [hr7] at hhb7
 obtain ⟨l28,e28,hr8⟩:∃ (l28:List bF) (e28:Int),cP b.ak 0 b3.aA (e6 - e7) (gF [(2,0 - d.sum),(3,0 - d.sum),(6,d.sum),(8,0 - d.sum)] d.move)=(l28,e28):=⟨_,_,rfl⟩
 refine Gi [none,none,none,none,none,none,none,none,none,none,none,(some (.move (.const (.bool true)))),none,none,(some (.move (.const (.bool true)))),none,(some (.move (.const (.bool true)))),none,none,(some (.move (.const (.bool true)))),none,none,none,(some (.move (.const (.int .i64 (gF [(2,0 - d.sum),(3,0 - d.sum),(6,d.sum),(8,0 - d.sum)] d.move)))))] 8 8 23 [(11,(2,0 - d.sum)),(14,(3,0 - d.sum)),(16,(6,d.sum)),(19,(8,0 - d.sum))] [0,3,4,5,6,8,9,10] [0,7,6,5,1,2,3,4] mixed rfl rfl rfl rfl ca (by intro x hx;simp only [List.mem_cons,List.not_mem_nil,or_false] at hx;rcases hx with rfl|rfl|rfl|rfl<;>rfl) (by intro x hx y hy e;simp only [List.mem_cons,List.not_mem_nil,or_false] at hx hy;rcases hx with rfl|rfl|rfl|rfl<;>rcases hy with rfl|rfl|rfl|rfl<;>first|rfl|(simp at e)) (cV 4 rfl (de 8 [89] [] rfl (cA 8 (oD b3 (by first|assumption|omega|rfl|decide) e6 hr6) Cu rfl) rfl (cV 1 rfl (de 8 [91] [] rfl (cA 8 (oD x1 (by first|assumption|omega|rfl|decide) e7 hr7) Cu rfl) rfl (dZ 8 [90,92] [] rfl (bm rfl rfl rfl (bH aa)) (de 9 [] [] rfl (sg 8 rfl) rfl (cV 1 rfl (dZ 9 [95] [] rfl (nN rfl rfl (bH aa)) (de 9 [94,96] [] rfl (qj rfl rfl) rfl (cV 1 rfl (dZ 9 [97] [] rfl (nN rfl rfl (bH aa)) (de 9 [94,98] [] rfl (qj rfl rfl) rfl (cV 1 rfl (de 9 [94,99] [] rfl (qj rfl rfl) rfl (cV 1 rfl (dZ 9 [100] [] rfl (nN rfl rfl (bH aa)) (de 9 [94,101] [] rfl (qj rfl rfl) rfl (cV 3 rfl (de 9 [102,104] [] rfl (qj rfl rfl) rfl (de 10 [86,88,93,105] [1,0] rfl (cz id (bp [0,9]) (ms:=((bY.set 2 (some (.s 1 0 6 b.ak.length))).set 19 (some (cI 0)))) (ms':=((bY.set 2 (some (.s 1 0 6 l28.length))).set 19 (some (cI e28)))) (fun x hx=>ql x hx b.ak 0 b3.aA (e6 - e7) (gF [(2,0 - d.sum),(3,0 - d.sum),(6,d.sum),(8,0 - d.sum)] d.move) aa l28 e28 hr8) zj rfl) rfl (HB [0,3,4,6,8,9,10] [9,0,7,5,2,3,4] rfl rfl aJ (fun r h=>by obtain rfl:=Option.some.inj h;rfl) ⟨⟨_,_,rfl,rfl,fun ps cl h=>jb kL eA rfl rfl rfl rfl rfl h rfl⟩,⟨_,_,rfl,rfl,fun ps cl h=>jb kL eA rfl rfl rfl rfl rfl h rfl⟩,⟨_,_,rfl,rfl,fun ps cl h=>jb kL eA rfl rfl rfl rfl rfl h rfl⟩,⟨_,_,rfl,rfl,fun ps cl h=>jb kL eA rfl rfl rfl rfl rfl h rfl⟩,trivial⟩ ⟨_,_,rfl,rfl,fun ps cl h=>bU.cast (yW kL eA uB rfl rfl rfl rfl) (congrArg aI (Ce h (by intro x hx y hy e;simp only [List.mem_cons,List.not_mem_nil,or_false] at hx hy;rcases hx with rfl|rfl|rfl|rfl<;>rcases hy with rfl|rfl|rfl|rfl<;>first|rfl|(simp at e))))⟩ (then_ok ?_))))))))))))))))))))))
 obtain ⟨jcards,jdue,jbook,js0,js1,je,hj⟩:∃ (jcards:List bF) (jdue:List Int) (jbook:List Entry) (js0:bK) (js1:bK) (je:Int),iV b b3 d l28 e28=(jcards,jdue,jbook,js0,js1,je):=⟨_,_,_,_,_,_,rfl⟩
 have hj0:=hj
 refine qu (J:=⟨[(0,(aC (.p 0 0 0 0))),(3,(aC (.p 5 0 0 0))),(4,(aC (.p 0 0 0 0))),(6,(aC (.p 7 0 0 0))),(10,(aI d.sum))],[(9,(dS jcards)),(0,(.box 73 ((((((((cf b 9 2 3 4 (.d (.v (x 17))) (cI je)).set 2 (.s 9 0 6 jcards.length)).set 3 (.s 2 0 1 jdue.length)).set 5 (cI js0.bj)).set 6 (bX js0.kept)).set 7 (cI js1.bj)).set 8 (bX js1.kept)).set 18 (cE jbook)))),(7,(.box 81 [(cI b3.aA),(cI b3.au),(cI b3.sum),(cI b3.captured),(cI b3.bd),(cI b3.aX),(cI b3.da),(cB b3.shut)])),(5,(.box 69 [(cI d.id),(cI d.kind),(cI d.n),(cI d.au),(cI d.move),(cI d.sum)])),(2,(dR jdue)),(3,(ec b.an)),(4,(cX b.aM))],10⟩) ?_ ?_
 ·
  refine ag 2 rfl (aL (af (ag 2 rfl (ax rfl (fun hc8=>?_) (fun hc8=>?_)))))
  ·
   have hc8':=of_decide_eq_true hc8
   refine aD (ax rfl (fun _=>?_) (fun hno=>absurd (hc8.symm.trans hno) cm))
   refine aw 3 rfl ?_
   obtain ⟨l29,e29,hr9⟩:∃ (l29:List Entry) (e29:Int),dp b.book e28 (10+b3.aA) 1 d.sum=(l29,e29):=⟨_,_,rfl⟩
   refine ay 10 [0,9,7,5,2,3,4] (cz id id (ms:=((bY.set 18 (some (cE b.book))).set 19 (some (cI e28)))) (ms':=((bY.set 18 (some (cE l29))).set 19 (some (cI e29)))) (fun x hx=>iE x hx b.book e28 (10+b3.aA) 1 d.sum l29 e29 hr9) nr rfl) rfl (ae (ah (ad 4 rfl ?_)))
   obtain ⟨s210,e210,hr10⟩:∃ (s210:bK) (e210:Int),ej b.s0 e29 (⟨0,1,d.n,d.sum⟩:aZ)=(s210,e210):=⟨_,_,rfl⟩
   refine ay 10 [0,9,7,5,2,3,4] (cz id id (ms:=(((bY.set 5 (some (cI b.s0.bj))).set 6 (some (bX b.s0.kept))).set 19 (some (cI e29)))) (ms':=(((bY.set 5 (some (cI s210.bj))).set 6 (some (bX s210.kept))).set 19 (some (cI e210)))) (fun x hx=>uu x hx b.s0 e29 1 d.n d.sum dr s210 e210 hr10) Ct rfl) rfl (bq (aN (then_ok ?_)))
   have hX:iV b b3 d l28 e28=(l28,b.due,l29,s210,b.s1,e210):=by
     unfold iV;(try simp only [hr9,hr10]);exact sx
   rw [hX] at hj;clear hX;simp only [Prod.mk.injEq] at hj;obtain ⟨rfl,rfl,rfl,rfl,rfl,rfl⟩:=hj
   exact aq.rz id
  have hc8':=of_decide_eq_false hc8
  refine ah (ad 2 rfl (ae (aO rfl (fun hc10'=>?_) (fun hc10'=>?_))))
  ·
   refine aw 3 rfl ?_
   obtain ⟨l211,e211,hr11⟩:∃ (l211:List Entry) (e211:Int),dp b.book e28 (10+b3.aA) 1 d.sum=(l211,e211):=⟨_,_,rfl⟩
   refine ay 10 [0,9,7,5,2,3,4] (cz id id (ms:=((bY.set 18 (some (cE b.book))).set 19 (some (cI e28)))) (ms':=((bY.set 18 (some (cE l211))).set 19 (some (cI e211)))) (fun x hx=>iE x hx b.book e28 (10+b3.aA) 1 d.sum l211 e211 hr11) nr rfl) rfl (ae (ah (ad 4 rfl ?_)))
   obtain ⟨s212,e212,hr12⟩:∃ (s212:bK) (e212:Int),ej b.s0 e211 (⟨0,1,d.n,d.sum⟩:aZ)=(s212,e212):=⟨_,_,rfl⟩
   refine ay 10 [0,9,7,5,2,3,4] (cz id id (ms:=(((bY.set 5 (some (cI b.s0.bj))).set 6 (some (bX b.s0.kept))).set 19 (some (cI e211)))) (ms':=(((bY.set 5 (some (cI s212.bj))).set 6 (some (bX s212.kept))).set 19 (some (cI e212)))) (fun x hx=>uu x hx b.s0 e211 1 d.n d.sum dr s212 e212 hr12) Ct rfl) rfl (bq (aN (then_ok ?_)))
   have hX:iV b b3 d l28 e28=(l28,b.due,l211,s212,b.s1,e212):=by
     unfold iV;(try simp only [hr11,hr12]);exact sx
   rw [hX] at hj;clear hX;simp only [Prod.mk.injEq] at hj;obtain ⟨rfl,rfl,rfl,rfl,rfl,rfl⟩:=hj
   exact aq.rz id
  refine ag 2 rfl (aO rfl (fun hc11'=>?_) (fun hc11'=>?_))
  ·
   refine af ?_
   obtain ⟨x3,hx3⟩:=bO (xs:=b.due) (i:=Int.toNat (b3.au)) aa
   refine bg [0,3,4,6,9,10] [9,0,7,5,2,3,4] rfl (aF 12 rfl (bh 10 [132,134] [2] rfl (cU (i:=Int.toNat (b3.au)) rfl rfl rfl ed eu) (bM 10 [135] [2] rfl (dY rfl rfl rfl eA rfl (aV hx3) rfl) rfl (aF 2 rfl (bh 10 [126,128] [2] rfl (cU (i:=Int.toNat (b3.au)) rfl rfl rfl ed eu) (bf [9,0,7,5,2,3,4] rfl (eP [9,0,7,5,2,3,4] (dK (ds:=[(dI (IntKind.i64.wrap (x3 - d.sum)))]) rfl rfl rfl rfl rfl eu rfl (Nat.le_of_ble_eq_true rfl) (aV hx3) rfl (eE (x':=(IntKind.i64.wrap (x3 - d.sum))) rfl)) rfl (ae (dW (k:=0) (q:=3) (c':=(.s 2 0 1 (((b.due).set (Int.toNat (b3.au)) (IntKind.i64.wrap (x3 - d.sum))).length))) rfl rfl jN rfl (aw 3 rfl ?_))))))))))
   obtain ⟨l213,e213,hr13⟩:∃ (l213:List Entry) (e213:Int),dp b.book e28 (50+b3.au) 1 d.sum=(l213,e213):=⟨_,_,rfl⟩
   refine ay 10 [0,9,7,5,2,3,4] (cz id id (ms:=((bY.set 18 (some (cE b.book))).set 19 (some (cI e28)))) (ms':=((bY.set 18 (some (cE l213))).set 19 (some (cI e213)))) (fun x hx=>iE x hx b.book e28 (50+b3.au) 1 d.sum l213 e213 hr13) nr rfl) rfl (ae (ah (ad 4 rfl ?_)))
   obtain ⟨s214,e214,hr14⟩:∃ (s214:bK) (e214:Int),ej b.s1 e213 (⟨0,2,d.n,d.sum⟩:aZ)=(s214,e214):=⟨_,_,rfl⟩
   refine ay 10 [0,9,7,5,2,3,4] (cz id id (ms:=(((bY.set 7 (some (cI b.s1.bj))).set 8 (some (bX b.s1.kept))).set 19 (some (cI e213)))) (ms':=(((bY.set 7 (some (cI s214.bj))).set 8 (some (bX s214.kept))).set 19 (some (cI e214)))) (fun x hx=>FM x hx b.s1 e213 2 d.n d.sum dr s214 e214 hr14) Ct rfl) rfl (bq (aN (then_ok ?_)))
   have hX:iV b b3 d l28 e28=(l28,(b.due).set (Int.toNat (b3.au)) (IntKind.i64.wrap (x3 - d.sum)),l213,b.s0,s214,e214):=by
     unfold iV;simp only [List.getD_eq_getElem?_getD,hx3,Option.getD_some];(try simp only [hr13,hr14]);exact sx
   rw [hX] at hj;clear hX;simp only [Prod.mk.injEq] at hj;obtain ⟨rfl,rfl,rfl,rfl,rfl,rfl⟩:=hj
   exact aq.rz id
  refine ag 2 rfl (aO rfl (fun hc12'=>?_) (fun hc12'=>?_))
  ·
   refine ah (ad 3 rfl ?_)
   obtain ⟨l215,e215,hr15⟩:∃ (l215:List Entry) (e215:Int),dp b.book e28 2 (10+b3.aA) d.sum=(l215,e215):=⟨_,_,rfl⟩
   refine ay 10 [0,9,7,5,2,3,4] (cz id id (ms:=((bY.set 18 (some (cE b.book))).set 19 (some (cI e28)))) (ms':=((bY.set 18 (some (cE l215))).set 19 (some (cI e215)))) (fun x hx=>iE x hx b.book e28 2 (10+b3.aA) d.sum l215 e215 hr15) nr rfl) rfl (bq (aN (then_ok ?_)))
   have hX:iV b b3 d l28 e28=(l28,b.due,l215,b.s0,b.s1,e215):=by
     unfold iV;(try simp only [hr15]);exact sx
   rw [hX] at hj;clear hX;simp only [Prod.mk.injEq] at hj;obtain ⟨rfl,rfl,rfl,rfl,rfl,rfl⟩:=hj
   exact aq.rz id
  refine ag 2 rfl (aO rfl (fun hc13'=>?_) (fun hc13'=>?_))
  ·
   refine ah (ad 4 rfl ?_)
   obtain ⟨s216,e216,hr16⟩:∃ (s216:bK) (e216:Int),ej b.s0 e28 (⟨0,3,d.n,d.sum⟩:aZ)=(s216,e216):=⟨_,_,rfl⟩
   refine ay 10 [0,9,7,5,2,3,4] (cz id id (ms:=(((bY.set 5 (some (cI b.s0.bj))).set 6 (some (bX b.s0.kept))).set 19 (some (cI e28)))) (ms':=(((bY.set 5 (some (cI s216.bj))).set 6 (some (bX s216.kept))).set 19 (some (cI e216)))) (fun x hx=>uu x hx b.s0 e28 3 d.n d.sum dr s216 e216 hr16) Ct rfl) rfl (bq (aN (then_ok ?_)))
   have hX:iV b b3 d l28 e28=(l28,b.due,b.book,s216,b.s1,e216):=by
     unfold iV;(try simp only [hr16]);exact sx
   rw [hX] at hj;clear hX;simp only [Prod.mk.injEq] at hj;obtain ⟨rfl,rfl,rfl,rfl,rfl,rfl⟩:=hj
   exact aq.rz id
  refine ag 2 rfl (aO rfl (fun hc14'=>?_) (fun hc14'=>?_))
  ·
   refine ah (ad 3 rfl ?_)
   obtain ⟨l217,e217,hr17⟩:∃ (l217:List Entry) (e217:Int),dp b.book e28 (10+b3.aA) 2 d.sum=(l217,e217):=⟨_,_,rfl⟩
   refine ay 10 [0,9,7,5,2,3,4] (cz id id (ms:=((bY.set 18 (some (cE b.book))).set 19 (some (cI e28)))) (ms':=((bY.set 18 (some (cE l217))).set 19 (some (cI e217)))) (fun x hx=>iE x hx b.book e28 (10+b3.aA) 2 d.sum l217 e217 hr17) nr rfl) rfl (bq (aN (then_ok ?_)))
   have hX:iV b b3 d l28 e28=(l28,b.due,l217,b.s0,b.s1,e217):=by
     unfold iV;(try simp only [hr17]);exact sx
   rw [hX] at hj;clear hX;simp only [Prod.mk.injEq] at hj;obtain ⟨rfl,rfl,rfl,rfl,rfl,rfl⟩:=hj
   exact aq.rz id
  refine cv (aN (then_ok ?_))
  have hX:iV b b3 d l28 e28=(l28,b.due,b.book,b.s0,b.s1,e28):=by
    unfold iV;(try simp only []);exact sx
  rw [hX] at hj;clear hX;simp only [Prod.mk.injEq] at hj;obtain ⟨rfl,rfl,rfl,rfl,rfl,rfl⟩:=hj
  exact aq.rz id
 refine af (aw 4 rfl (az (dn rfl rfl rfl rfl rfl dQ) rfl (ad 1 rfl (ae (aO rfl (fun hc15'=>?_) (fun hc15'=>?_))))))
 ·
  refine aw 1 rfl ?_
  obtain ⟨e218,hr18⟩:∃ (e218:Int),cp je 5=e218:=⟨_,rfl⟩
  refine ay 10 [0,9,7,5,2,3,4] (cz id id (ms:=(bY.set 19 (some (cI je)))) (ms':=(bY.set 19 (some (cI e218)))) (fun x hx=>dV x hx je 5 e218 hr18) fr rfl) rfl (ae (al (aj ?_)))
  have hX:hP b d=((⟨b.time,b.down,jcards,jdue,b.an,js0,js1,b.n0,b.n1,b.w0,b.w1,b.aQ,b.aM,jbook⟩:Bk),e218):=by
    unfold hP;rw [if_neg (by simp [hc1])];rw [if_neg aa,hx1];dsimp only;simp only [hr3];rw [if_neg aa,if_neg hfun];simp only [hr6,hr7,hr8];rw [hj0];unfold ze;dsimp only;rw [if_pos aa,hr18]
  cases hX.symm.trans hr;clear hX
  exact bb [0,9,2,3,4] 5 rfl
 refine aD (af (bg [3,4,6,10] [9,0,7,5,2,3,4] rfl (aF 13 rfl (bM 11 [188] [] rfl (dM (ys:=[(0,(.g [(cI b3.au),(cI d.n),(cI d.move),(cI d.sum)]))]) (rows:=([(⟨b3.au,d.n,d.move,d.sum⟩:ar)]).map dD) 10 fP rfl) rfl (bM 12 [180,189] [10,4] rfl (dU (m:=1) (N:=b.aM.length+1) (k2:=11) (ys:=([(⟨b3.au,d.n,d.move,d.sum⟩:ar)]).map dD) fP rfl rfl rfl rfl dv) rfl (aF 2 rfl (bf [11,9,0,7,5,2,3] rfl (ad 1 rfl (ae (dW (k:=0) (q:=16) (c':=(.s 11 0 4 ((b.aM++([(⟨b3.au,d.n,d.move,d.sum⟩:ar)])).length))) rfl rfl jN rfl (bg [3,4,6] [11,9,0,7,5,2,3] rfl (aF 7 rfl (bh 12 [196,198] [3] rfl (cU (i:=Int.toNat (d.n)) rfl rfl rfl hG ji) (bf [11,9,0,7,5,2,3] rfl (eP [11,9,0,7,5,2,3] (dK (ds:=[(dI b3.aA),(dI b3.au),(dI b3.sum),(dI b3.captured),(dI b3.bd),(dI b3.aX),(dI b3.da),(dB b3.shut)]) rfl rfl rfl rfl rfl ji rfl (Nat.le_of_ble_eq_true rfl) (aV hx1) rfl (eE (x':=b3) rfl)) rfl (bq ?_))))))))))))))))
 have hX:hP b d=((⟨b.time,b.down,jcards,jdue,(b.an).set (Int.toNat (d.n)) b3,js0,js1,b.n0,b.n1,b.w0,b.w1,b.aQ,b.aM++([(⟨b3.au,d.n,d.move,d.sum⟩:ar)]),jbook⟩:Bk),je):=by
   unfold hP;rw [if_neg (by simp [hc1])];rw [if_neg aa,hx1];dsimp only;simp only [hr3];rw [if_neg aa,if_neg hfun];simp only [hr6,hr7,hr8];rw [hj0];unfold ze;dsimp only;rw [if_neg aa]
 cases hX.symm.trans hr;clear hX
 refine cJ bn [0,9,2,3,11] 5 rfl rfl rfl rfl rfl rfl ?_ ?_
 all_goals first|rfl|(simp [cq,cf,cL];done)|(simp [cq,cf,cL];omega)
end Go.Proofs.YtnfopdlnboeheaaGreat.Dev
