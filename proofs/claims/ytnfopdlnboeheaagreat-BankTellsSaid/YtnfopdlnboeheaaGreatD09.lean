/- A part of the proof: Post3, Auth1, Auth2, Stand1, Stand2, Stand3, Stand4, Stand5, Sort1, Sort2, Sort3. No condition. -/
import Derived.Test.YtnfopdlnboeheaaGreatD08
set_option linter.unusedVariables false
set_option linter.unusedSimpArgs false
set_option maxHeartbeats 1000000
set_option maxRecDepth 100000
namespace Go.Proofs.YtnfopdlnboeheaaGreat.Dev
open Go.RowKit

theorem Hz (t:aZ) (seen:Int):Fn Tryz.prog 101 [(.g [(cI t.number),(cI t.kind),(cI t.ba),(cI t.sum)]),(.c (.q ([dI seen]) 0))] (aB (came seen t)) []:=by
 refine Fn.mk' 8 [(0,(aG [(cI t.number),(cI t.kind),(cI t.ba),(cI t.sum)])),(1,(aC (.q ([dI seen]) 0)))] Tryz.func101 rfl rfl rfl rfl ?_
 intro W0 T0
 exact ag 2 rfl (ag 5 rfl (al (aS [] 0 rfl)))
theorem tq (s:bK) (seen:Int) (hI:∀ t∈s.kept,fb t.number) (x:bK) (e:Int) (hr:en s seen=(x,e)):Fn Tryz.prog 68 [(.g [(cI s.bj),(bX s.kept)]),(.c (cI seen))] (.t [(.g [(cI x.bj),(.s 0 0 4 x.kept.length)]),(.c (cI e))]) [(0,(vF x.kept))]:=by
 refine Fn.mk' 32 [(0,(aG [(cI s.bj),(bX s.kept)])),(1,(aI seen))] Tryz.func68 rfl rfl rfl rfl ?_
 intro W0 T0
 refine ck 0 1 rfl rfl (fun hlen0_1=>?_)
 have hrs:=@lh s
 refine ag 4 rfl (af (aw 1 rfl ?_))
 obtain ⟨f0,hr0⟩:∃ (f0:cM),cK s=f0:=⟨_,rfl⟩
 have hq0:(cK s).err=f0.err:=by rw [hr0]
 refine ay 3 [2,1,0] (cA 3 (pe s (by first|assumption|exact iU dr aa|exact ia dr dr|(simp [fb];done)) f0 hr0) FB rfl) rfl (ad 2 rfl (ae (ag 3 rfl (aO rfl (fun hc1'=>?_) (fun hc1'=>?_)))))
 ·
  refine af (eJ [2,3,4,6] [3,2,1,0] rfl (cV 5 rfl (eb [2,3,4,5] [2,1,0] rfl rfl aJ (then_ok (al (aj (cc 2 1 85 4 rfl rfl rfl ?_)))))))
  have hX:en s seen=((⟨0,([]:List aZ)⟩:bK),f0.err):=by
    unfold en;rw [if_pos aa,hr0];rfl
  cases hX.symm.trans hr;clear hX
  exact aS [4,2] 1 rfl
 refine aD (af (bQ 22 ((decide (seen < 0))||(decide (seen > s.bj))) ?_ ?_))
 ·
  refine ah (ad 3 rfl (bz 17 rfl (fun hb2'=>?_) (fun hb2'=>?_)))
  ·
   exact ad 5 rfl (ae (aq.pz 9 rfl))
  exact ad 5 rfl (ae (aq.pz 9 rfl))
 refine ax rfl (fun hc3=>?_) (fun hc3=>?_)
 ·
  have hc3':=hc3;try simp only [aT,bx] at hc3'
  refine ag 3 rfl (al (aj (cc 2 1 85 4 rfl rfl rfl ?_)))
  have hX:en s seen=((⟨0,([]:List aZ)⟩:bK),3):=by
    unfold en;rw [if_neg aa,if_pos aa];rfl
  cases hX.symm.trans hr;clear hX
  exact aS [4,2] 1 rfl
 have hc3':=hc3;try simp only [aT,bx] at hc3'
 refine aD (af ?_)
 obtain ⟨r1,hr1⟩:∃ (r1:List aZ),ez (came seen) s.kept=r1:=⟨_,rfl⟩
 refine bg [2,3,4] [2,1,0] rfl (aF 4 rfl (bM 5 [27] [] rfl (cA 4 (pf s.kept aa) GC rfl) rfl (bM 5 [3] [] rfl (yX (ks:=[1]) rfl ⟨rfl,trivial⟩) rfl (bM 6 [28,29] [1,4] rfl (yZ (bp [4]) (bp [5]) [1] (tb s.kept 101 ([[(dI seen)]]) (came seen) (fun x=>Hz x seen) Kh r1 hr1) KW rfl rfl ⟨⟨_,rfl,.inl ⟨rfl,rfl⟩⟩,⟨_,rfl,.inr (.c (.fn ⟨⟨by decide,_,rfl⟩,trivial⟩))⟩,trivial⟩ ⟨rfl,trivial⟩ rfl rfl rfl rfl rfl rfl rfl rfl trivial ⟨(xz _),trivial⟩ rfl rfl rfl rfl) rfl (aF 1 rfl (bf [5,2,1,0] rfl (ad 2 rfl (ae (al ?_)))))))))
 have hX:en s seen=((⟨s.bj,r1⟩:bK),0):=by
   unfold en;rw [if_neg aa,if_neg aa,hr1]
 cases hX.symm.trans hr;clear hX
 exact aS [5,2] 1 rfl
theorem vt (s:bK) (seen:Int) (hI:∀ t∈s.kept,fb t.number) (x:bK) (e:Int) (hr:en s seen=(x,e)):Fn Tryz.prog 49 [(.g [(cI s.bj),(bX s.kept)]),(.c (cI seen))] (.t [(.g [(cI x.bj),(.s 0 0 4 x.kept.length)]),(.c (cI e))]) [(0,(vF x.kept))]:=by
 refine Fn.mk' 49 [(0,(aG [(cI s.bj),(bX s.kept)])),(1,(aI seen))] Tryz.func49 rfl rfl rfl rfl ?_
 intro W0 T0
 refine ck 0 1 rfl rfl (fun hlen0_1=>?_)
 have hrs:=@lh s
 refine ag 3 rfl (af (aw 1 rfl ?_))
 obtain ⟨f0,hr0⟩:∃ (f0:cM),cK s=f0:=⟨_,rfl⟩
 have hq0:(cK s).err=f0.err:=by rw [hr0]
 refine ay 2 [1,0] (cA 2 (lH s (by first|assumption|exact iU dr aa|exact ia dr dr|(simp [fb];done)) f0 hr0) FD rfl) rfl (ad 2 rfl (ae (ag 3 rfl (aO rfl (fun hc1'=>?_) (fun hc1'=>?_)))))
 ·
  refine af (eJ [1,2,4,6] [2,1,0] rfl (cV 5 rfl (eb [1,2,4,5] [1,0] rfl rfl aJ (then_ok (al (aj (cc 1 1 85 4 rfl rfl rfl ?_)))))))
  have hX:en s seen=((⟨0,([]:List aZ)⟩:bK),f0.err):=by
    unfold en;rw [if_pos aa,hr0];rfl
  cases hX.symm.trans hr;clear hX
  exact aS [3,1] 1 rfl
 refine aD (af (bQ 25 ((decide (seen < 0))||(decide (seen > s.bj))) ?_ ?_))
 ·
  refine ah (ad 3 rfl (bz 20 rfl (fun hb2'=>?_) (fun hb2'=>?_)))
  ·
   exact ad 5 rfl (ae (aq.pz 9 rfl))
  exact ad 5 rfl (ae (aq.pz 9 rfl))
 refine ax rfl (fun hc3=>?_) (fun hc3=>?_)
 ·
  have hc3':=hc3;try simp only [aT,bx] at hc3'
  refine ag 3 rfl (al (aj (cc 1 1 85 4 rfl rfl rfl ?_)))
  have hX:en s seen=((⟨0,([]:List aZ)⟩:bK),3):=by
    unfold en;rw [if_neg aa,if_pos aa];rfl
  cases hX.symm.trans hr;clear hX
  exact aS [3,1] 1 rfl
 have hc3':=hc3;try simp only [aT,bx] at hc3'
 refine aD (ag 5 rfl (af (aw 2 rfl (az (cD rfl rfl gK) rfl (ad 1 rfl (ae (aL (oO 3 1 85 4 rfl rfl rfl (cb (β:=Nat) (fun (q:Nat)=>⟨[(1,(aI seen)),(4,(aC (.p 1 0 0 0))),(5,(aI 0)),(7,(aC (.p 3 0 0 0))),(31,(aC (bX s.kept))),(32,(aI (↑s.kept.length:Int))),(33,(aI (↑q:Int)))],[(4,(vF (ez (came seen) (s.kept.take q)))),(3,(.box 31 [(cI s.bj),(.s 4 0 4 ((ez (came seen) (s.kept.take q)).length))])),(1,(.box 31 [(cI 0),cN]))],5⟩) (fun (q:Nat)=>q<=s.kept.length) (fun (q:Nat)=>s.kept.length - q) 0 ?_ ?_ ?_)))))))))
 ·exact aa
 ·exact aq.rz id
 rintro q hi0_0
 have hkl:=jw (came seen) (s.kept.take q)
 have htl:(s.kept.take q).length<=q:=List.length_take_le _ _
 refine ag 1 rfl (af (aO rfl (fun hc4'=>?_) (fun hc4'=>?_)))
 ·
  refine aD (af (aL (dq ?_)))
  obtain ⟨x1,hx1⟩:=bO (xs:=s.kept) (i:=q) aa
  refine az (dO (i:=q) rfl rfl rfl gK kS (aV hx1)) rfl (ad 3 rfl (ae (ag 4 rfl (aO rfl (fun hc5'=>?_) (fun hc5'=>?_)))))
  ·
   refine ah (ad 3 rfl (ay 7 [6,5,4,3,1] (dM (ys:=[(0,(.g [(cI x1.number),(cI x1.kind),(cI x1.ba),(cI x1.sum)]))]) (rows:=([x1]).map fA) 6 oV rfl) rfl (ay 8 [7,6,5,3,1] (dU (m:=1) (N:=((ez (came seen) (s.kept.take q)).length)+1) (k2:=7) (ys:=([x1]).map fA) oV rfl rfl rfl rfl dv) rfl (ad 2 rfl (bq (aN (then_ok (ah (bl rfl rfl rfl rfl aa (ad 1 rfl (ae (⟨q+1,by first|omega|trivial,bT,aq.rx (fun k=>if k=4 then 7 else k) (by refine ⟨?_,?_,?_,trivial⟩<;>first|rfl|(simp only [fQ];done)|(congr 3;omega)|(congr 4;omega)|(simp only [fR];rfl)|(first|(rw [eY hx1,show came seen x1=false by (simp only [came,decide_eq_false_iff_not];omega),List.length_append];rfl)|(rw [eY hx1,show came seen x1=true by (simp only [came,decide_eq_true_eq];omega),List.length_append];rfl)|(rw [eY hx1,show came seen x1=false by (simp only [came,decide_eq_false_iff_not];omega)];rfl)|(rw [eY hx1,show came seen x1=true by (simp only [came,decide_eq_true_eq];omega),if_pos rfl,List.append_nil];rfl)))⟩))))))))))))
  refine cv (aN (then_ok (ah (bl rfl rfl rfl rfl aa (ad 1 rfl (ae (⟨q+1,by first|omega|trivial,bT,aq.rx id (by refine ⟨?_,?_,?_,trivial⟩<;>first|rfl|(simp only [fQ];done)|(congr 3;omega)|(congr 4;omega)|(simp only [fR];rfl)|(first|(rw [eY hx1,show came seen x1=false by (simp only [came,decide_eq_false_iff_not];omega),List.length_append];rfl)|(rw [eY hx1,show came seen x1=true by (simp only [came,decide_eq_true_eq];omega),List.length_append];rfl)|(rw [eY hx1,show came seen x1=false by (simp only [came,decide_eq_false_iff_not];omega)];rfl)|(rw [eY hx1,show came seen x1=true by (simp only [came,decide_eq_true_eq];omega),if_pos rfl,List.append_nil];rfl)))⟩)))))))
 refine bR (aE (aE (bw (then_ok (ag 3 rfl (al ?_))))))
 have hX:en s seen=((⟨s.bj,ez (came seen) (s.kept.take q)⟩:bK),0):=by
   unfold en;rw [if_neg aa,if_neg aa,List.take_of_length_le aa]
 cases hX.symm.trans hr;clear hX
 exact aS [4,1] 1 rfl


theorem KU {a b c d x:Int} {q:Nat} (h:[a,b,c,d][q]?=some x):(q=0/\x=a)\/(q=1/\x=b)\/(q=2/\x=c)\/(q=3/\x=d):=by
  match q with
  |0=>left;simp_all
  |1=>right;left;simp_all
  |2=>right;right;left;simp_all
  |3=>right;right;right;simp_all
  |q+4=>simp at h

theorem sE (a:bG) (e:Int) (hr:bI a=e):Fn Tryz.prog 91 [(.g [(cI a.aA),(cI a.au),(cI a.sum),(cI a.captured),(cI a.bd),(cI a.aX),(cI a.da),(cB a.shut)])] (.v (.c (cI e))) []:=by
 refine Fn.mk' 71 [(0,(aG [(cI a.aA),(cI a.au),(cI a.sum),(cI a.captured),(cI a.bd),(cI a.aX),(cI a.da),(cB a.shut)]))] Tryz.func91 rfl rfl rfl rfl ?_
 intro W0 T0
 refine ag 2 rfl (af (aw 8 rfl (ay 2 [1,0] (dM (ys:=[(0,(.c (cI a.sum))),(1,(.c (cI a.captured))),(2,(.c (cI a.bd))),(3,(.c (cI a.aX)))]) (rows:=([a.sum,a.captured,a.bd,a.aX]).map rI) 1 lF rfl) rfl (az (dn rfl rfl rfl rfl rfl ed) rfl (ad 1 rfl (ae (aL (cb (β:=Nat) (fun (q:Nat)=>⟨[(1,(aC (.p 0 0 0 0))),(13,(aC (.s 1 0 1 4))),(14,(aI 4)),(15,(aI (↑q:Int)))],[(1,(dR ([a.sum,a.captured,a.bd,a.aX]))),(0,(.box 81 [(cI a.aA),(cI a.au),(cI a.sum),(cI a.captured),(cI a.bd),(cI a.aX),(cI a.da),(cB a.shut)]))],2⟩) (fun (q:Nat)=>q<=4/\(0 < q->0<=a.sum/\a.sum<=1000000)/\(1 < q->0<=a.captured/\a.captured<=1000000)/\(2 < q->0<=a.bd/\a.bd<=1000000)/\(3 < q->0<=a.aX/\a.aX<=1000000)) (fun (q:Nat)=>4 - q) 0 ?_ ?_ ?_))))))))
 ·exact ⟨aa,aa,aa,aa,aa⟩
 ·exact aq.rz id
 rintro q ⟨hi0_0,hi0_1,hi0_2,hi0_3,hi0_4⟩
 refine ag 1 rfl (af (aO rfl (fun hc1'=>?_) (fun hc1'=>?_)))
 ·
  refine aD (af (aL (dq (az (cU (i:=q) rfl rfl rfl ed eu) rfl ?_))))
  obtain ⟨x1,hx1⟩:=bO (xs:=([a.sum,a.captured,a.bd,a.aX]:List Int)) (i:=q) bT
  have hx1v:=KU hx1
  refine az (dY rfl rfl rfl eA rfl (aV hx1) rfl) rfl (ad 1 rfl (ae (bQ 24 ((decide (x1 < 0))||(decide (x1 > 1000000))) ?_ ?_)))
  ·
   refine ah (ad 3 rfl (bz 21 rfl (fun hb2'=>?_) (fun hb2'=>?_)))
   ·
    exact ad 3 rfl (ae (aq.pz 7 rfl))
   exact ad 3 rfl (ae (aq.pz 7 rfl))
  refine ax rfl (fun hc3=>?_) (fun hc3=>?_)
  ·
   have hc3':=hc3;try simp only [aT,bx] at hc3'
   refine ag 1 rfl (al (aY (aj (aj (aY (aj ?_))))))
   have hX:bI a=3:=by
     (unfold bI;try dsimp only);exact sx
   rw [hX] at hr;clear hX
   subst hr
   exact aS [] 0 rfl
  have hc3':=hc3;try simp only [aT,bx] at hc3'
  refine cv (aN (then_ok (ah (bl rfl rfl rfl rfl aa (ad 1 rfl (ae (⟨q+1,⟨aa,aa,aa,aa,aa⟩,bT,aq.rz id⟩)))))))
 refine bR (aE (aE (bw (then_ok (af (aL (bQ 26 ((((((decide (a.aA < 0))||(decide (a.aA>=8)))||(decide (a.au < 0)))||(decide (a.au>=8)))||(decide (a.da < 0)))||(decide (a.da > 1000100))) ?_ ?_)))))))
 ·
  refine ah (ad 4 rfl (bz 30 rfl (fun hb4'=>?_) (fun hb4'=>?_)))
  ·
   exact ad 25 rfl (ae (aq.pz 30 rfl))
  refine ad 5 rfl (bz 35 rfl (fun hb5'=>?_) (fun hb5'=>?_))
  ·
   exact ad 20 rfl (ae (aq.pz 31 rfl))
  refine ad 5 rfl (bz 40 rfl (fun hb6'=>?_) (fun hb6'=>?_))
  ·
   exact ad 15 rfl (ae (aq.pz 32 rfl))
  refine ad 5 rfl (bz 45 rfl (fun hb7'=>?_) (fun hb7'=>?_))
  ·
   exact ad 10 rfl (ae (aq.pz 33 rfl))
  refine ad 5 rfl (bz 50 rfl (fun hb8'=>?_) (fun hb8'=>?_))
  ·
   exact ad 5 rfl (ae (aq.pz 34 rfl))
  exact ad 5 rfl (ae (aq.pz 34 rfl))
 refine ax rfl (fun hc9=>?_) (fun hc9=>?_)
 ·
  have hc9':=hc9;try simp only [aT,bx] at hc9'
  refine ag 1 rfl (al (aY (aj ?_)))
  have hX:bI a=3:=by
    (unfold bI;try dsimp only);exact sx
  rw [hX] at hr;clear hX
  subst hr
  exact aS [] 0 rfl
 have hc9':=hc9;try simp only [aT,bx] at hc9'
 refine bQ 55 ((decide (a.captured > a.sum))||(decide ((a.bd+a.aX) > a.captured))) ?_ ?_
 ·
  refine ah (ad 6 rfl (bz 61 rfl (fun hb10'=>?_) (fun hb10'=>?_)))
  ·
   exact ad 10 rfl (ae (aq.pz 17 rfl))
  exact ad 4 rfl (dg (aR.yes rfl rfl rfl) (bm rfl rfl rfl (bH aa)) rfl rfl (ad 5 rfl (ae (aq.pz 17 rfl))))
 refine ax rfl (fun hc11=>?_) (fun hc11=>?_)
 ·
  have hc11':=hc11;try simp only [aT,bx] at hc11'
  refine ag 1 rfl (al (aY (aj ?_)))
  have hX:bI a=8:=by
    (unfold bI;try dsimp only);exact sx
  rw [hX] at hr;clear hX
  subst hr
  exact aS [] 0 rfl
 have hc11':=hc11;try simp only [aT,bx] at hc11'
 refine cv (aN (then_ok (ag 1 rfl (al ?_))))
 have hX:bI a=0:=by
   (unfold bI;try dsimp only);exact sx
 rw [hX] at hr;clear hX
 subst hr
 exact aS [] 0 rfl
theorem vw (aA au n time:Int) (b:bG) (e:Int) (hr:dm aA au n time=(b,e)):Fn Tryz.prog 59 [(.c (cI aA)),(.c (cI au)),(.c (cI n)),(.c (cI time))] (.t [(.g [(cI b.aA),(cI b.au),(cI b.sum),(cI b.captured),(cI b.bd),(cI b.aX),(cI b.da),(cB b.shut)]),(.c (cI e))]) []:=by
 refine Fn.mk' 40 [(0,(aI aA)),(1,(aI au)),(2,(aI n)),(3,(aI time))] Tryz.func59 rfl rfl rfl rfl ?_
 intro W0 T0
 refine ag 2 rfl (af (bQ 25 ((((decide (n < 1))||(decide (n > 1000000)))||(decide (time < 0)))||(decide (time > 1000000))) ?_ ?_))
 ·
  refine ah (ad 3 rfl (bz 14 rfl (fun hb1'=>?_) (fun hb1'=>?_)))
  ·
   exact ad 11 rfl (ae (aq.pz 15 rfl))
  refine ad 4 rfl (bz 18 rfl (fun hb2'=>?_) (fun hb2'=>?_))
  ·
   exact ad 7 rfl (ae (aq.pz 16 rfl))
  refine ad 4 rfl (bz 22 rfl (fun hb3'=>?_) (fun hb3'=>?_))
  ·
   exact ad 3 rfl (ae (aq.pz 17 rfl))
  exact ad 3 rfl (ae (aq.pz 17 rfl))
 refine ax rfl (fun hc4=>?_) (fun hc4=>?_)
 ·
  have hc4':=hc4;try simp only [aT,bx] at hc4'
  refine ag 3 rfl (al (aj ?_))
  have hX:dm aA au n time=((⟨0,0,0,0,0,0,0,false⟩:bG),3):=by
    (try (unfold bI at hr0;dsimp only at hr0;(repeat' split at hr0)))<;>((unfold dm;try dsimp only);exact sx)
  cases hX.symm.trans hr;clear hX
  exact aS [0] 0 rfl
 have hc4':=hc4;try simp only [aT,bx] at hc4'
 refine aD (aw 4 rfl (bl rfl rfl rfl rfl aa (ad 3 rfl (ae (af (aw 1 rfl ?_))))))
 obtain ⟨e0,hr0⟩:∃ (e0:Int),bI (⟨aA,au,n,0,0,0,time+100,false⟩:bG)=e0:=⟨_,rfl⟩
 refine ay 2 [1,0] (cA 2 (sE (⟨aA,au,n,0,0,0,time+100,false⟩:bG) e0 hr0) IA rfl) rfl (ad 1 rfl (ae (ag 2 rfl (aO rfl (fun hc5'=>?_) (fun hc5'=>?_)))))
 ·
  refine ag 4 rfl (al (aj ?_))
  have hX:dm aA au n time=((⟨0,0,0,0,0,0,0,false⟩:bG),e0):=by
    (try (unfold bI at hr0;dsimp only at hr0;(repeat' split at hr0)))<;>((unfold dm;try dsimp only);exact sx)
  cases hX.symm.trans hr;clear hX
  exact aS [0] 0 rfl
 refine aD (ag 3 rfl (al ?_))
 have hX:dm aA au n time=((⟨aA,au,n,0,0,0,time+100,false⟩:bG),0):=by
   (try (unfold bI at hr0;dsimp only at hr0;(repeat' split at hr0)))<;>((unfold dm;try dsimp only);exact sx)
 cases hX.symm.trans hr;clear hX
 exact aS [0] 0 rfl

theorem Ax (a:bG) (t:Int) (b:bG) (hr:dF a t=b):Fn Tryz.prog 97 [(.g [(cI a.aA),(cI a.au),(cI a.sum),(cI a.captured),(cI a.bd),(cI a.aX),(cI a.da),(cB a.shut)]),(.c (cI t))] (.v (.g [(cI b.aA),(cI b.au),(cI b.sum),(cI b.captured),(cI b.bd),(cI b.aX),(cI b.da),(cB b.shut)])) []:=by
 refine Fn.mk' 11 [(0,(aG [(cI a.aA),(cI a.au),(cI a.sum),(cI a.captured),(cI a.bd),(cI a.aX),(cI a.da),(cB a.shut)])),(1,(aI t))] Tryz.func97 rfl rfl rfl rfl ?_
 intro W0 T0
 refine ag 2 rfl (af (ag 4 rfl (aO rfl (fun hc1'=>?_) (fun hc1'=>?_))))
 ·
  refine ah (ad 2 rfl (ae (ag 2 rfl (al ?_))))
  have hX:dF a t=(⟨a.aA,a.au,a.sum,a.captured,a.bd,a.aX,a.da,true⟩:bG):=by
    refine nz rfl rfl rfl rfl rfl rfl rfl ?_;by_cases hT:a.da<=t<;>first|(exfalso;omega)|simp [dF,hT]
  rw [hX] at hr;clear hX
  subst hr
  exact aS [1] 0 rfl
 refine aD (ag 2 rfl (al ?_))
 have hX:dF a t=a:=by
   refine nz rfl rfl rfl rfl rfl rfl rfl ?_;by_cases hT:a.da<=t<;>first|(exfalso;omega)|simp [dF,hT]
 rw [hX] at hr;clear hX
 subst hr
 exact aS [1] 0 rfl
theorem nH (a:bG) (ha:bI a=0) (e:Int) (hr:bE a=e):Fn Tryz.prog 62 [(.g [(cI a.aA),(cI a.au),(cI a.sum),(cI a.captured),(cI a.bd),(cI a.aX),(cI a.da),(cB a.shut)])] (.v (.c (cI e))) []:=by
 refine Fn.mk' 10 [(0,(aG [(cI a.aA),(cI a.au),(cI a.sum),(cI a.captured),(cI a.bd),(cI a.aX),(cI a.da),(cB a.shut)]))] Tryz.func62 rfl rfl rfl rfl ?_
 intro W0 T0
 have hw:=dA ha
 refine ag 2 rfl (af (ag 2 rfl (ax rfl (fun hc1=>?_) (fun hc1=>?_))))
 ·
  have hc1':=hc1;try simp only [aT,bx] at hc1'
  refine ag 1 rfl (al (aj ?_))
  have hX:bE a=0:=by
    (unfold bE;try dsimp only);exact sx
  rw [hX] at hr;clear hX
  subst hr
  exact aS [] 0 rfl
 have hc1':=hc1;try simp only [aT,bx] at hc1'
 refine aD (aw 4 rfl (bl rfl rfl rfl rfl aa (ad 1 rfl (ae (al ?_)))))
 have hX:bE a=(a.sum - a.captured):=by
   (unfold bE;try dsimp only);exact sx
 rw [hX] at hr;clear hX
 subst hr
 exact aS [] 0 rfl
theorem tv (a:bG) (h:bI a=0):cS Tryz.prog 94 [(.c (.p 0 0 0 0))] [(0,(.box 81 [(cI a.aA),(cI a.au),(cI a.sum),(cI a.captured),(cI a.bd),(cI a.aX),(cI a.da),(cB a.shut)]))] [0] (aI (a.captured - a.bd - a.aX)) [(0,(.box 81 [(cI a.aA),(cI a.au),(cI a.sum),(cI a.captured),(cI a.bd),(cI a.aX),(cI a.da),(cB a.shut)]))]:=by
 refine cS.mk 17 [(0,(aC (.p 0 0 0 0)))] 1 Tryz.func94 rfl rfl rfl rfl rfl rfl rfl rfl rfl ?_
 intro W0 F0 T0 pg
 have hw:=dA h
 exact ag 1 rfl (af (bg [0] [0] rfl (aF 8 rfl (bh 1 [6,10] [] rfl (bm rfl rfl rfl (bH aa)) (aF 4 rfl (bh 1 [11,15] [] rfl (bm rfl rfl rfl (bH aa)) (aF 1 rfl (bf [0] rfl (ae (al (aS [0] 1 rfl)))))))))))
theorem Av (a:bG) (kind n:Int) (h:bI a=0) (h1:1<=n) (h2:n<=1000000) (b:bG) (e:Int) (hr:eK a kind n=(b,e)):cS Tryz.prog 95 [(.c (.p 0 0 0 0)),(.c (cI kind)),(.c (cI n))] [(0,(.box 81 [(cI a.aA),(cI a.au),(cI a.sum),(cI a.captured),(cI a.bd),(cI a.aX),(cI a.da),(cB a.shut)]))] [0] (.v (.c (cI e))) [(0,(.box 81 [(cI b.aA),(cI b.au),(cI b.sum),(cI b.captured),(cI b.bd),(cI b.aX),(cI b.da),(cB b.shut)]))]:=by
 refine cS.mk 91 [(0,(aC (.p 0 0 0 0))),(1,(aI kind)),(2,(aI n))] 1 Tryz.func95 rfl rfl rfl rfl rfl rfl rfl rfl rfl ?_
 intro W0 F0 T0 pg
 have hw:=dA h
 refine ag 1 rfl (af (bg [0,1,2] [0] rfl (aF 8 rfl (bh 1 [11,15] [] rfl (bm rfl rfl rfl (bH aa)) (aF 1 rfl (bf [0] rfl (ae (af (aL (ag 5 rfl (ax rfl (fun hc1=>?_) (fun hc1=>?_))))))))))))
 ·
  have hc1':=hc1;try simp only [aT,bx] at hc1'
  refine ag 1 rfl (al (aY (aj ?_)))
  have hX:eK a kind n=(a,9):=by
    (unfold eK;try dsimp only);exact sx
  cases hX.symm.trans hr;clear hX
  exact aS [0] 1 rfl
 have hc1':=hc1;try simp only [aT,bx] at hc1'
 refine ag 3 rfl (aO rfl (fun hc2'=>?_) (fun hc2'=>?_))
 ·
  refine af (aw 5 rfl (bl rfl rfl rfl rfl aa (ad 1 rfl (ae (aO rfl (fun hc3'=>?_) (fun hc3'=>?_))))))
  ·
   refine ag 1 rfl (al (aj (aY (aj ?_))))
   have hX:eK a kind n=(a,4):=by
     (unfold eK;try dsimp only);exact sx
   cases hX.symm.trans hr;clear hX
   exact aS [0] 1 rfl
  refine aD (aw 5 rfl (bl rfl rfl rfl rfl aa (ad 3 rfl (ae (ag 1 rfl (al (aY (aj ?_))))))))
  have hX:eK a kind n=((⟨a.aA,a.au,a.sum+n,a.captured,a.bd,a.aX,a.da,a.shut⟩:bG),0):=by
    (unfold eK;try dsimp only);exact sx
  cases hX.symm.trans hr;clear hX
  exact aS [0] 1 rfl
 refine ag 4 rfl (aO rfl (fun hc4'=>?_) (fun hc4'=>?_))
 ·
  refine ag 1 rfl (al (aY (aj ?_)))
  have hX:eK a kind n=(a,10):=by
    (unfold eK;try dsimp only);exact sx
  cases hX.symm.trans hr;clear hX
  exact aS [0] 1 rfl
 refine ag 3 rfl (aO rfl (fun hc5'=>?_) (fun hc5'=>?_))
 ·
  refine aw 5 rfl (bl rfl rfl rfl rfl aa (ad 3 rfl (ae (af (bg [0,1,2] [0] rfl (aF 12 rfl (bf [0] rfl (ad 1 rfl (ae (ag 1 rfl (al (aY (aj ?_)))))))))))))
  have hX:eK a kind n=((⟨a.aA,a.au,a.sum - n,a.captured,a.bd,a.aX,a.da,decide ((a.sum - n)=a.captured)⟩:bG),0):=by
    (unfold eK;try dsimp only);exact sx
  cases hX.symm.trans hr;clear hX
  exact aS [0] 1 rfl
 refine cv (aN (then_ok (aw 5 rfl (bl rfl rfl rfl rfl aa (ad 3 rfl (ae (af ?_)))))))
 rcases Bool.eq_false_or_eq_true (decide (kind=3)) with hb6|hb6
 ·
  have hb6':=of_decide_eq_true hb6
  refine bg [0,1] [0] rfl (bC (kn:=[(77,true)]) bn 16 rfl ⟨hb6,trivial⟩ (bf [0] rfl (ad 1 rfl (ae (ag 1 rfl (al ?_))))))
  have hX:eK a kind n=((⟨a.aA,a.au,a.sum,a.captured+n,a.bd,a.aX,a.da,true⟩:bG),0):=by
    (unfold eK;try dsimp only);exact sx
  cases hX.symm.trans hr;clear hX
  exact aS [0] 1 rfl
 have hb6':=of_decide_eq_false hb6
 refine bg [0,1] [0] rfl (bC (kn:=[(77,false)]) bn 16 rfl ⟨hb6,trivial⟩ (bf [0] rfl (ad 1 rfl (ae (ag 1 rfl (al ?_))))))
 have hX:eK a kind n=((⟨a.aA,a.au,a.sum,a.captured+n,a.bd,a.aX,a.da,decide ((a.captured+n)=a.sum)⟩:bG),0):=by
   (unfold eK;try dsimp only);exact sx
 cases hX.symm.trans hr;clear hX
 exact aS [0] 1 rfl
theorem Aw (a:bG) (kind n:Int) (b:bG) (e:Int) (hr:bV a kind n=(b,e)):Fn Tryz.prog 61 [(.g [(cI a.aA),(cI a.au),(cI a.sum),(cI a.captured),(cI a.bd),(cI a.aX),(cI a.da),(cB a.shut)]),(.c (cI kind)),(.c (cI n))] (.t [(.g [(cI b.aA),(cI b.au),(cI b.sum),(cI b.captured),(cI b.bd),(cI b.aX),(cI b.da),(cB b.shut)]),(.c (cI e))]) []:=by
 refine Fn.mk' 76 [(0,(aG [(cI a.aA),(cI a.au),(cI a.sum),(cI a.captured),(cI a.bd),(cI a.aX),(cI a.da),(cB a.shut)])),(1,(aI kind)),(2,(aI n))] Tryz.func61 rfl rfl rfl rfl ?_
 intro W0 T0
 have hw:=@dA a
 refine ag 3 rfl (af (aw 1 rfl ?_))
 obtain ⟨e0,hr0⟩:∃ (e0:Int),bI a=e0:=⟨_,rfl⟩
 refine ay 2 [1,0] (cA 2 (sE a e0 hr0) IA rfl) rfl (ad 1 rfl (ae (ag 2 rfl (aO rfl (fun hc1'=>?_) (fun hc1'=>?_)))))
 ·
  refine ag 4 rfl (al (aj ?_))
  have hX:bV a kind n=((⟨0,0,0,0,0,0,0,false⟩:bG),e0):=by
    (unfold bV;try dsimp only);(try simp only [hr0]);exact sx
  cases hX.symm.trans hr;clear hX
  exact aS [1] 0 rfl
 refine aD (af (bQ 21 ((decide (kind < 1))||(decide (kind > 8))) ?_ ?_))
 ·
  refine ah (ad 3 rfl (bz 18 rfl (fun hb2'=>?_) (fun hb2'=>?_)))
  ·
   exact ad 3 rfl (ae (aq.pz 7 rfl))
  exact ad 3 rfl (ae (aq.pz 7 rfl))
 refine ax rfl (fun hc3=>?_) (fun hc3=>?_)
 ·
  have hc3':=hc3;try simp only [aT,bx] at hc3'
  refine ag 3 rfl (al (aj ?_))
  have hX:bV a kind n=((⟨0,0,0,0,0,0,0,false⟩:bG),1):=by
    (unfold bV;try dsimp only);(try simp only [hr0]);exact sx
  cases hX.symm.trans hr;clear hX
  exact aS [1] 0 rfl
 have hc3':=hc3;try simp only [aT,bx] at hc3'
 refine aD (af (bQ 28 ((decide (n < 1))||(decide (n > 1000000))) ?_ ?_))
 ·
  refine ah (ad 3 rfl (bz 25 rfl (fun hb4'=>?_) (fun hb4'=>?_)))
  ·
   exact ad 3 rfl (ae (aq.pz 7 rfl))
  exact ad 3 rfl (ae (aq.pz 7 rfl))
 refine ax rfl (fun hc5=>?_) (fun hc5=>?_)
 ·
  have hc5':=hc5;try simp only [aT,bx] at hc5'
  refine ag 3 rfl (al (aj ?_))
  have hX:bV a kind n=((⟨0,0,0,0,0,0,0,false⟩:bG),3):=by
    (unfold bV;try dsimp only);(try simp only [hr0]);exact sx
  cases hX.symm.trans hr;clear hX
  exact aS [1] 0 rfl
 have hc5':=hc5;try simp only [aT,bx] at hc5'
 refine aD (ag 1 rfl (af (ag 1 rfl (aL (af (ag 2 rfl (ax rfl (fun hc6=>?_) (fun hc6=>?_))))))))
 ·
  have hc6':=of_decide_eq_true hc6
  refine aD (ax rfl (fun _=>?_) (fun hno=>absurd (hc6.symm.trans hno) cm))
  refine aw 1 rfl (ay 2 [0,1] (fm id id (tv a hJ) Iz rfl) rfl (ad 1 rfl (ae (aO rfl (fun hc8'=>?_) (fun hc8'=>?_)))))
  ·
   refine ah (ad 1 rfl (bq (aN (then_ok (af (aw 1 rfl (az (bm rfl rfl rfl (show _=some (Value.bool true) from rfl)) rfl (ae (ax rfl (fun _=>?_) (fun hno=>by cases hno))))))))))
   refine ag 4 rfl (al (aj ?_))
   have hX:bV a kind n=((⟨0,0,0,0,0,0,0,false⟩:bG),10):=by
     (unfold bV;try dsimp only);(try simp only [hr0]);exact sx
   cases hX.symm.trans hr;clear hX
   exact aS [1] 0 rfl
  refine ag 2 rfl (ax rfl (fun _=>?_) (fun hno=>absurd (hc6.symm.trans hno) cm))
  refine ah (ad 3 rfl (bl rfl rfl rfl rfl aa (ad 2 rfl (bq (aN (then_ok (af (aw 1 rfl (az (bm rfl rfl rfl (show _=some (Value.bool false) from rfl)) rfl (ae (ax rfl (fun hno=>by cases hno) (fun _=>?_))))))))))))
  refine aD (ag 3 rfl (al ?_))
  have hX:bV a kind n=((⟨a.aA,a.au,a.sum,a.captured,a.bd+n,a.aX,a.da,a.shut⟩:bG),0):=by
    (unfold bV;try dsimp only);(try simp only [hr0]);exact sx
  cases hX.symm.trans hr;clear hX
  exact aS [1] 0 rfl
 have hc6':=of_decide_eq_false hc6
 refine ah (ad 2 rfl (ae (aO rfl (fun hc12'=>?_) (fun hc12'=>?_))))
 ·
  refine aw 1 rfl (ay 2 [0,1] (fm id id (tv a hJ) Iz rfl) rfl (ad 1 rfl (ae (aO rfl (fun hc13'=>?_) (fun hc13'=>?_)))))
  ·
   refine ah (ad 1 rfl (bq (aN (then_ok (af (aw 1 rfl (az (bm rfl rfl rfl (show _=some (Value.bool true) from rfl)) rfl (ae (ax rfl (fun _=>?_) (fun hno=>by cases hno))))))))))
   refine ag 4 rfl (al (aj ?_))
   have hX:bV a kind n=((⟨0,0,0,0,0,0,0,false⟩:bG),10):=by
     (unfold bV;try dsimp only);(try simp only [hr0]);exact sx
   cases hX.symm.trans hr;clear hX
   exact aS [1] 0 rfl
  refine ag 2 rfl (ax rfl (fun hno=>absurd (hc6.symm.trans hno) cm) (fun _=>?_))
  refine ah (ad 3 rfl (bl rfl rfl rfl rfl aa (ad 2 rfl (bq (aN (then_ok (af (aw 1 rfl (az (bm rfl rfl rfl (show _=some (Value.bool false) from rfl)) rfl (ae (ax rfl (fun hno=>by cases hno) (fun _=>?_))))))))))))
  refine aD (ag 3 rfl (al ?_))
  have hX:bV a kind n=((⟨a.aA,a.au,a.sum,a.captured,a.bd,a.aX+n,a.da,a.shut⟩:bG),0):=by
    (unfold bV;try dsimp only);(try simp only [hr0]);exact sx
  cases hX.symm.trans hr;clear hX
  exact aS [1] 0 rfl
 refine af (ag 2 rfl (ax rfl (fun hc17=>?_) (fun hc17=>?_)))
 ·
  have hc17':=of_decide_eq_true hc17
  refine aD (ax rfl (fun _=>?_) (fun hno=>absurd (hc17.symm.trans hno) cm))
  refine af (ag 4 rfl (aO rfl (fun hc19'=>?_) (fun hc19'=>?_)))
  ·
   refine ag 1 rfl (bR (aE (bw (then_ok (af (aw 1 rfl (az (bm rfl rfl rfl (show _=some (Value.bool true) from rfl)) rfl (ae (ax rfl (fun _=>?_) (fun hno=>by cases hno))))))))))
   refine ag 4 rfl (al (aj ?_))
   have hX:bV a kind n=((⟨0,0,0,0,0,0,0,false⟩:bG),10):=by
     (unfold bV;try dsimp only);(try simp only [hr0]);exact sx
   cases hX.symm.trans hr;clear hX
   exact aS [1] 0 rfl
  refine aD (aw 3 rfl (bl rfl rfl rfl rfl aa (ad 2 rfl (ae (ag 2 rfl (ax rfl (fun _=>?_) (fun hno=>absurd (hc17.symm.trans hno) cm)))))))
  refine ah (ad 3 rfl (bl rfl rfl rfl rfl aa (ad 2 rfl (bq (aN (then_ok (af (aw 1 rfl (az (bm rfl rfl rfl (show _=some (Value.bool false) from rfl)) rfl (ae (ax rfl (fun hno=>by cases hno) (fun _=>?_))))))))))))
  refine aD (ag 3 rfl (al ?_))
  have hX:bV a kind n=((⟨a.aA,a.au,a.sum,a.captured,a.bd+n,a.aX - n,a.da,a.shut⟩:bG),0):=by
    (unfold bV;try dsimp only);(try simp only [hr0]);exact sx
  cases hX.symm.trans hr;clear hX
  exact aS [1] 0 rfl
 have hc17':=of_decide_eq_false hc17
 refine ah (ad 2 rfl (ae (aO rfl (fun hc23'=>?_) (fun hc23'=>?_))))
 ·
  refine af (ag 4 rfl (aO rfl (fun hc24'=>?_) (fun hc24'=>?_)))
  ·
   refine ag 1 rfl (bR (aE (bw (then_ok (af (aw 1 rfl (az (bm rfl rfl rfl (show _=some (Value.bool true) from rfl)) rfl (ae (ax rfl (fun _=>?_) (fun hno=>by cases hno))))))))))
   refine ag 4 rfl (al (aj ?_))
   have hX:bV a kind n=((⟨0,0,0,0,0,0,0,false⟩:bG),10):=by
     (unfold bV;try dsimp only);(try simp only [hr0]);exact sx
   cases hX.symm.trans hr;clear hX
   exact aS [1] 0 rfl
  refine aD (aw 3 rfl (bl rfl rfl rfl rfl aa (ad 2 rfl (ae (ag 2 rfl (ax rfl (fun hno=>absurd (hc17.symm.trans hno) cm) (fun _=>?_)))))))
  refine cv (aN (then_ok (af (aw 1 rfl (az (bm rfl rfl rfl (show _=some (Value.bool false) from rfl)) rfl (ae (ax rfl (fun hno=>by cases hno) (fun _=>?_))))))))
  refine aD (ag 3 rfl (al ?_))
  have hX:bV a kind n=((⟨a.aA,a.au,a.sum,a.captured,a.bd,a.aX - n,a.da,a.shut⟩:bG),0):=by
    (unfold bV;try dsimp only);(try simp only [hr0]);exact sx
  cases hX.symm.trans hr;clear hX
  exact aS [1] 0 rfl
 refine ah (ad 2 rfl ?_)
 obtain ⟨b1,e1,hr1⟩:∃ (b1:bG) (e1:Int),eK a kind n=(b1,e1):=⟨_,_,rfl⟩
 refine ay 2 [0,1] (fm id id (Av a kind n hJ aa aa b1 e1 hr1) KY rfl) rfl (ad 1 rfl (bq (aN (then_ok (af (ag 2 rfl (aO rfl (fun hc28'=>?_) (fun hc28'=>?_))))))))
 ·
  refine ag 4 rfl (al (aj ?_))
  have hX:bV a kind n=((⟨0,0,0,0,0,0,0,false⟩:bG),e1):=by
    (unfold bV;try dsimp only);(try simp only [hr0]);(try simp only [hr1]);exact sx
  cases hX.symm.trans hr;clear hX
  exact aS [1] 0 rfl
 refine aD (ag 3 rfl (al ?_))
 have hX:bV a kind n=(b1,0):=by
   (unfold bV;try dsimp only);(try simp only [hr0]);(try simp only [hr1]);exact sx
 cases hX.symm.trans hr;clear hX
 exact aS [1] 0 rfl

theorem xD (cap:Int) (used:List Int) (advs:List ch):Fn Tryz.prog 89 [(.g [(cI cap),(dt used),(eo advs)])] (aI (cj ⟨cap,used,advs⟩)) []:=by
 refine Fn.mk' 109 [(0,(aG [(cI cap),(dt used),(eo advs)]))] Tryz.func89 rfl rfl rfl rfl ?_
 intro W0 T0
 refine ck 0 1 rfl rfl (fun hlen0_1=>?_)
 refine ck 0 2 rfl rfl (fun hlen0_2=>?_)
 refine ag 2 rfl (af (bQ 17 ((decide ((↑used.length:Int) > 8))||(decide ((↑advs.length:Int) > 20))) ?_ ?_))
 ·
  refine ah (ad 2 rfl (az (cD rfl rfl ed) rfl (ad 2 rfl (bz 12 rfl (fun hb1'=>?_) (fun hb1'=>?_)))))
  ·
   exact ad 5 rfl (ae (aq.pz 11 rfl))
  exact ad 2 rfl (dg (aR.yes rfl rfl rfl) (cD rfl rfl iY) rfl rfl (ad 2 rfl (ae (aq.pz 11 rfl))))
 refine ax rfl (fun hc2=>?_) (fun hc2=>?_)
 ·
  have hc2':=hc2;try simp only [aT,bx] at hc2'
  refine ag 1 rfl (al (aj (ct bn [] 0 rfl rfl rfl rfl rfl rfl ?_ ?_)))
  ·(have h:=oQ (s:=⟨cap,used,advs⟩) (show 8 < used.length\/20 < advs.length by omega));show aI _=aI _;rw [h]
  ·rfl
 have hc2':=hc2;try simp only [aT,bx] at hc2'
 refine aD (af (bQ 25 ((decide (cap < 0))||(decide (cap > 1000000))) ?_ ?_))
 ·
  refine ah (ad 4 rfl (bz 21 rfl (fun hb3'=>?_) (fun hb3'=>?_)))
  ·
   exact ad 4 rfl (ae (aq.pz 9 rfl))
  exact ad 4 rfl (ae (aq.pz 9 rfl))
 refine ax rfl (fun hc4=>?_) (fun hc4=>?_)
 ·
  have hc4':=hc4;try simp only [aT,bx] at hc4'
  refine ag 1 rfl (al (aj (ct bn [] 0 rfl rfl rfl rfl rfl rfl ?_ ?_)))
  ·(have h:=nc (s:=⟨cap,used,advs⟩) (show ¬(8 < (⟨cap,used,advs⟩:cT).used.length\/20 < (⟨cap,used,advs⟩:cT).aH.length) by simp only;omega) (show gY cap=false by simp only [gY,decide_eq_false_iff_not];omega));show aI _=aI _;rw [h]
  ·rfl
 have hc4':=hc4;try simp only [aT,bx] at hc4'
 refine aD (aw 2 rfl (az (cD rfl rfl ed) rfl (ay 2 [1,0] (sV 1 lF uB rfl rfl rfl (n:=used.length) (by first|omega|(simp;omega)|(simp [ew];omega)) (by first|omega|(simp;omega)|(simp [ew];omega)) (by first|omega|(simp;omega)|(simp [ew];omega)) (by first|omega|(simp;omega)|(simp [ew];omega))) rfl (ad 1 rfl (ae (af (aw 2 rfl (az (cD rfl rfl iY) rfl (ad 1 rfl (ae (aL (cb (β:=Nat) (fun (q:Nat)=>⟨[(1,(aC (.p 0 0 0 0))),(3,(aC (.s 1 0 1 used.length))),(31,(aC (eo advs))),(32,(aI (↑advs.length:Int))),(33,(aI (↑q:Int)))],[(1,(dR (lj used.length (advs.take q)))),(0,(.box 38 [(cI cap),(dt used),(eo advs)]))],2⟩) (fun (q:Nat)=>q<=advs.length/\(advs.take q).all (gb used.length)=true) (fun (q:Nat)=>advs.length - q) 0 ?_ ?_ ?_))))))))))))
 ·exact ⟨aa,ca⟩
 ·exact aq.rx id (by refine ⟨?_,?_,trivial⟩<;>first|rfl|(simp only [fQ];done)|(congr 3;omega)|(congr 4;omega)|(simp only [fR];rfl)|((rw [List.take_zero,<-Db];rfl)))
 rintro q ⟨hi0_0,hi0_1⟩
 refine ag 1 rfl (af (aO rfl (fun hc5'=>?_) (fun hc5'=>?_)))
 ·
  refine aD (af (aL (dq ?_)))
  obtain ⟨x1,hx1⟩:=bO (xs:=advs) (i:=q) (by first|omega|(simp [ew];omega))
  refine az (mn (i:=q) rfl rfl rfl iY tL (by first|omega|(simp;omega)|(simp [ew];omega)) (aV hx1)) rfl (ad 3 rfl (ae (af (bQ 77 ((((((((decide (x1.aA < 0))||(decide (x1.aA>=(↑used.length:Int))))||(decide (x1.au < 0)))||(decide (x1.au>=8)))||(decide (x1.sum < 1)))||(decide (x1.sum > 1000000)))||(decide (x1.time < 0)))||(decide (x1.time > 1000000))) ?_ ?_))))
  ·
   refine ah (ad 4 rfl (bz 40 rfl (fun hb6'=>?_) (fun hb6'=>?_)))
   ·
    exact ad 37 rfl (ae (aq.pz 42 rfl))
   refine ad 4 rfl (dg (aR.yes rfl rfl rfl) (cD rfl rfl ed) rfl rfl (ad 3 rfl (bz 48 rfl (fun hb7'=>?_) (fun hb7'=>?_))))
   ·
    exact ad 29 rfl (ae (aq.pz 43 rfl))
   refine ad 5 rfl (bz 53 rfl (fun hb8'=>?_) (fun hb8'=>?_))
   ·
    exact ad 24 rfl (ae (aq.pz 44 rfl))
   refine ad 5 rfl (bz 58 rfl (fun hb9'=>?_) (fun hb9'=>?_))
   ·
    exact ad 19 rfl (ae (aq.pz 45 rfl))
   refine ad 5 rfl (bz 63 rfl (fun hb10'=>?_) (fun hb10'=>?_))
   ·
    exact ad 14 rfl (ae (aq.pz 46 rfl))
   refine ad 5 rfl (bz 68 rfl (fun hb11'=>?_) (fun hb11'=>?_))
   ·
    exact ad 9 rfl (ae (aq.pz 47 rfl))
   refine ad 5 rfl (bz 73 rfl (fun hb12'=>?_) (fun hb12'=>?_))
   ·
    exact ad 4 rfl (ae (aq.pz 48 rfl))
   exact ad 4 rfl (ae (aq.pz 48 rfl))
  refine ax rfl (fun hc13=>?_) (fun hc13=>?_)
  ·
   have hc13':=hc13;try simp only [aT,bx] at hc13'
   refine ag 1 rfl (al (aj (aY (aj (aj (aY (aj (ct bn [] 0 rfl rfl rfl rfl rfl rfl ?_ ?_))))))))
   ·(have h:=lg (s:=⟨cap,used,advs⟩) (show ¬(8 < (⟨cap,used,advs⟩:cT).used.length\/20 < (⟨cap,used,advs⟩:cT).aH.length) by simp only;omega) (show gY (⟨cap,used,advs⟩:cT).cap=true by simp only [gY,decide_eq_true_eq];omega) (Eo hx1 (by simp only [gb,decide_eq_false_iff_not];omega)));show aI _=aI _;rw [h]
   ·rfl
  have hc13':=hc13;try simp only [aT,bx] at hc13'
  refine aD ?_
  obtain ⟨x2,hx2⟩:=bO (xs:=(lj used.length (advs.take q))) (i:=Int.toNat (x1.aA)) (by first|omega|(simp [ew];omega))
  have hx2v:=wx hx2
  have hgb:=pW used.length (x1.aA) (advs.take q) hi0_1
  have hgl:(advs.take q).length<=q:=List.length_take_le _ _
  rw [Int.toNat_of_nonneg aa] at hx2v
  refine bg [1,3,31,32,33,5] [2,1,0] rfl (aF 3 rfl (bh 3 [78,80] [1] rfl (mF (i:=Int.toNat (x1.aA)) rfl rfl rfl ed eu (by first|omega|(simp;omega)|(simp [ew];omega)) (by first|omega|(simp;omega)|(simp [ew];omega))) (bM 3 [81] [1] rfl (dY rfl rfl rfl eA rfl (aV hx2) rfl) rfl (aF 2 rfl (bh 3 [82,84] [] rfl (bm rfl rfl rfl (bH (by first|omega|(simp;omega)|(simp [ew];omega)))) (bh 3 [78,80] [1] rfl (mF (i:=Int.toNat (x1.aA)) rfl rfl rfl ed eu (by first|omega|(simp;omega)|(simp [ew];omega)) (by first|omega|(simp;omega)|(simp [ew];omega))) (bf [2,1,0] rfl (eP [2,1,0] (dK (ds:=[(dI (x2+x1.sum))]) rfl rfl rfl rfl rfl eu rfl (Nat.le_of_ble_eq_true rfl) (aV hx2) rfl (eE (x':=x2+x1.sum) rfl)) rfl (bq (aN (then_ok (ah (az (bm rfl rfl rfl (bH (by first|omega|(simp;omega)|(simp [ew];omega)))) rfl (ad 1 rfl (ae (⟨q+1,⟨aa,we hi0_1 hx1 (by simp only [gb,decide_eq_true_eq];omega)⟩,bT,aq.rx id (by refine ⟨?_,?_,trivial⟩<;>first|rfl|(simp only [fQ];done)|(congr 3;omega)|(congr 4;omega)|(simp only [fR];rfl)|((rw [gh hx1,<-Da (i:=Int.toNat x1.aA) (v:=x2+x1.sum) aa aa (by rw [hx2v])];rfl)))⟩))))))))))))))))
 refine bR (aE (aE (bw (then_ok (af (aw 2 rfl (az (cD rfl rfl ed) rfl (ad 1 rfl (ae (aL ?_))))))))))
 have hta:advs.take q=advs:=List.take_of_length_le aa
 have hall:advs.all (gb used.length)=true:=by rw [<-hta];exact hi0_1
 rw [hta]
 refine cb (β:=Nat) (fun (p:Nat)=>⟨[(1,(aC (.p 0 0 0 0))),(3,(aC (.s 1 0 1 used.length))),(31,(aC (eo advs))),(32,(aI (↑advs.length:Int))),(33,(aI (↑q:Int))),(89,(aC (dt used))),(90,(aI (↑used.length:Int))),(91,(aI (↑p:Int)))],[(1,(dR (lj used.length advs))),(0,(.box 38 [(cI cap),(dt used),(eo advs)]))],2⟩) (fun (p:Nat)=>p<=used.length/\fC cap advs 0 used=fC cap advs p (used.drop p)) (fun (p:Nat)=>used.length - p) 0 ?_ ?_ ?_
 ·exact ⟨aa,rfl⟩
 ·exact aq.rz id
 rintro p ⟨hi1_0,hi1_1⟩
 refine ag 1 rfl (af (aO rfl (fun hc14'=>?_) (fun hc14'=>?_)))
 ·
  refine aD (af (aL (aw 1 rfl ?_)))
  obtain ⟨x1,hx1⟩:=bO (xs:=used) (i:=p) (by first|omega|(simp [ew];omega))
  refine az (mn (i:=p) rfl rfl rfl ed eu (by first|omega|(simp;omega)|(simp [ew];omega)) (aV hx1)) rfl (ad 3 rfl (ae (aw 3 rfl (az (mF (i:=p) rfl rfl rfl ed eu (by first|omega|(simp;omega)|(simp [ew];omega)) (by first|omega|(simp;omega)|(simp [ew];omega))) rfl ?_))))
  obtain ⟨x2,hx2⟩:=bO (xs:=(lj used.length advs)) (i:=p) (by first|omega|(simp [ew];omega))
  have hx2v:=wx hx2
  refine az (dY rfl rfl rfl eA rfl (aV hx2) rfl) rfl (ad 2 rfl (bz 102 rfl (fun hb15'=>?_) (fun hb15'=>?_)))
  ·
   refine ad 5 rfl (ae (ax rfl (fun _=>?_) (fun hno=>by cases hno)))
   refine ag 1 rfl (al (aY (aj (aj (aY (aj (ct bn [] 0 rfl rfl rfl rfl rfl rfl ?_ ?_)))))))
   ·(have h:=gR (s:=⟨cap,used,advs⟩) (show ¬(8 < (⟨cap,used,advs⟩:cT).used.length\/20 < (⟨cap,used,advs⟩:cT).aH.length) by simp only;omega) (show gY (⟨cap,used,advs⟩:cT).cap=true by simp only [gY,decide_eq_true_eq];omega) hall);show aI _=aI _;rw [h];show aI _=aI (fC cap advs 0 used);rw [hi1_1,pc hx1,fC,if_neg aa]
   ·rfl
  refine ad 5 rfl (ae (aO rfl (fun hc17'=>?_) (fun hc17'=>?_)))
  ·
   refine ag 1 rfl (al (aY (aj (aj (aY (aj (ct bn [] 0 rfl rfl rfl rfl rfl rfl ?_ ?_)))))))
   ·(have h:=gR (s:=⟨cap,used,advs⟩) (show ¬(8 < (⟨cap,used,advs⟩:cT).used.length\/20 < (⟨cap,used,advs⟩:cT).aH.length) by simp only;omega) (show gY (⟨cap,used,advs⟩:cT).cap=true by simp only [gY,decide_eq_true_eq];omega) hall);show aI _=aI _;rw [h];show aI _=aI (fC cap advs 0 used);rw [hi1_1,pc hx1,fC,if_neg aa]
   ·rfl
  refine cv (aN (then_ok (ah (az (bm rfl rfl rfl (bH (by first|omega|(simp;omega)|(simp [ew];omega)))) rfl (ad 1 rfl (ae (⟨p+1,⟨aa,by rw [hi1_1,pc hx1,fC,if_pos aa,Int.natCast_add];rfl⟩,bT,aq.rz id⟩)))))))
 refine bR (aE (aE (bw (then_ok (ag 1 rfl (al (ct bn [] 0 rfl rfl rfl rfl rfl rfl ?_ ?_)))))))
 ·(have h:=gR (s:=⟨cap,used,advs⟩) (show ¬(8 < (⟨cap,used,advs⟩:cT).used.length\/20 < (⟨cap,used,advs⟩:cT).aH.length) by simp only;omega) (show gY (⟨cap,used,advs⟩:cT).cap=true by simp only [gY,decide_eq_true_eq];omega) hall);show aI _=aI _;rw [h];show aI _=aI (fC cap advs 0 used);rw [hi1_1,List.drop_of_length_le aa];rfl
 ·rfl


theorem lu (s:cT) (e:Int) (hr:cj s=e):Fn Tryz.prog 89 [(.g [cI s.cap,cR 1 (s.used.map rI),cR 4 (s.aH.map iS)])] (.v (.c (cI e))) []:=hr▸xD s.cap s.used s.aH

theorem uv (s:cT) (e:Int) (hr:cj s=e):Fn Tryz.prog 77 [(.g [(cI s.cap),(dt s.used),(eo s.aH)])] (.v (.c (cI e))) []:=by
 refine Fn.mk' 108 [(0,(aG [(cI s.cap),(dt s.used),(eo s.aH)]))] Tryz.func77 rfl rfl rfl rfl ?_
 intro W0 T0
 refine ck 0 1 rfl rfl (fun hlen0_1=>?_)
 refine ck 0 2 rfl rfl (fun hlen0_2=>?_)
 refine ag 2 rfl (af (bQ 19 ((decide ((↑s.used.length:Int) > 8))||(decide ((↑s.aH.length:Int) > 20))) ?_ ?_))
 ·
  refine ah (ad 2 rfl (az (cD rfl rfl ed) rfl (ad 2 rfl (bz 14 rfl (fun hb1'=>?_) (fun hb1'=>?_)))))
  ·
   exact ad 5 rfl (ae (aq.pz 11 rfl))
  exact ad 2 rfl (dg (aR.yes rfl rfl rfl) (cD rfl rfl iY) rfl rfl (ad 2 rfl (ae (aq.pz 11 rfl))))
 refine ax rfl (fun hc2=>?_) (fun hc2=>?_)
 ·
  have hc2':=hc2;try simp only [aT,bx] at hc2'
  refine ag 1 rfl (al (aj ?_))
  have hX:cj s=5:=by
    exact oQ aa
  rw [hX] at hr;clear hX
  subst hr
  exact aS [] 0 rfl
 have hc2':=hc2;try simp only [aT,bx] at hc2'
 refine aD (af (aw 2 rfl (ay 1 [0] (cA 1 (oC s.cap) qX rfl) rfl (ad 1 rfl (ae (ax rfl (fun hc3=>?_) (fun hc3=>?_)))))))
 ·
  have hc3':=hc3;try simp only [aT,bx] at hc3'
  refine ag 1 rfl (al (aj ?_))
  have hX:cj s=3:=by
    exact nc aa (by simp only [gY,decide_eq_false_iff_not];simp_all [aT]<;>omega)
  rw [hX] at hr;clear hX
  subst hr
  exact aS [] 0 rfl
 have hc3':=hc3;try simp only [aT,bx] at hc3'
 refine aD (af (aw 2 rfl (az (cD rfl rfl iY) rfl (ad 1 rfl (ae (aL (cb (β:=Nat) (fun (q:Nat)=>⟨[(1,(aC (.p 0 0 0 0))),(25,(aC (eo s.aH))),(26,(aI (↑s.aH.length:Int))),(27,(aI (↑q:Int)))],[(0,(.box 38 [(cI s.cap),(dt s.used),(eo s.aH)]))],1⟩) (fun (q:Nat)=>q<=s.aH.length/\(s.aH.take q).all (gb s.used.length)=true) (fun (q:Nat)=>s.aH.length - q) 0 ?_ ?_ ?_)))))))
 ·exact ⟨aa,ca⟩
 ·exact aq.rz id
 rintro q ⟨hi0_0,hi0_1⟩
 refine ag 1 rfl (af (aO rfl (fun hc4'=>?_) (fun hc4'=>?_)))
 ·
  refine aD (af (aL (dq ?_)))
  obtain ⟨x1,hx1⟩:=bO (xs:=s.aH) (i:=q) aa
  refine az (dO (i:=q) rfl rfl rfl iY tL (aV hx1)) rfl (ad 3 rfl (ae (bQ 72 ((((((((decide (x1.aA < 0))||(decide (x1.aA>=(↑s.used.length:Int))))||(decide (x1.au < 0)))||(decide (x1.au > 7)))||(decide (x1.sum < 1)))||(!(aT x1.sum)))||(decide (x1.time < 0)))||(decide (x1.time > 1000000))) ?_ ?_)))
  ·
   refine ah (ad 4 rfl (bz 34 rfl (fun hb5'=>?_) (fun hb5'=>?_)))
   ·
    exact ad 38 rfl (ae (aq.pz 43 rfl))
   refine ad 4 rfl (dg (aR.yes rfl rfl rfl) (cD rfl rfl ed) rfl rfl (ad 3 rfl (bz 42 rfl (fun hb6'=>?_) (fun hb6'=>?_))))
   ·
    exact ad 30 rfl (ae (aq.pz 44 rfl))
   refine ad 5 rfl (bz 47 rfl (fun hb7'=>?_) (fun hb7'=>?_))
   ·
    exact ad 25 rfl (ae (aq.pz 45 rfl))
   refine ad 5 rfl (bz 52 rfl (fun hb8'=>?_) (fun hb8'=>?_))
   ·
    exact ad 20 rfl (ae (aq.pz 46 rfl))
   refine ad 5 rfl (bz 57 rfl (fun hb9'=>?_) (fun hb9'=>?_))
   ·
    exact ad 15 rfl (ae (aq.pz 47 rfl))
   refine ad 2 rfl (kb 2 [1,0] (aR.yes rfl rfl rfl) (cA 2 (oC x1.sum) qX rfl) rfl (ad 3 rfl (iz (t:=63) rfl (fun hb10=>?_) (fun hb10=>?_))))
   ·
    have hb10':=hb10;try simp only [aT,bx] at hb10'
    exact ad 9 rfl (ae (aq.pz 48 rfl))
   have hb10':=hb10;try simp only [aT,bx] at hb10'
   refine ad 5 rfl (bz 68 rfl (fun hb11'=>?_) (fun hb11'=>?_))
   ·
    exact ad 4 rfl (ae (aq.pz 49 rfl))
   exact ad 4 rfl (ae (aq.pz 49 rfl))
  refine ax rfl (fun hc12=>?_) (fun hc12=>?_)
  ·
   have hc12':=hc12;try simp only [aT,bx] at hc12'
   refine ag 1 rfl (al (aY (aj (aj (aY (aj ?_))))))
   have hX:cj s=3:=by
     exact lg (show ¬(8 < s.used.length\/20 < s.aH.length) by omega) (show gY s.cap=true by simp only [gY,decide_eq_true_eq];simp_all [aT]) (Eo hx1 (by simp only [gb,decide_eq_false_iff_not];simp_all [aT]<;>omega))
   rw [hX] at hr;clear hX
   subst hr
   exact aS [] 0 rfl
  have hc12':=hc12;try simp only [aT,bx] at hc12'
  refine cv (aN (then_ok (ah (bl rfl rfl rfl rfl aa (ad 1 rfl (ae (⟨q+1,⟨aa,we hi0_1 hx1 (by simp only [gb,decide_eq_true_eq];simp_all [aT]<;>omega)⟩,bT,aq.rz id⟩)))))))
 refine bR (aE (aE (bw (then_ok (af (aw 2 rfl (az (cD rfl rfl ed) rfl (ad 1 rfl (ae (aL ?_))))))))))
 have hall:s.aH.all (gb s.used.length)=true:=by rw [<-List.take_of_length_le (l:=s.aH) (i:=q) aa];exact hi0_1
 refine cb (β:=Nat) (fun (p:Nat)=>⟨[(1,(aC (.p 0 0 0 0))),(25,(aC (eo s.aH))),(26,(aI (↑s.aH.length:Int))),(27,(aI (↑q:Int))),(75,(aC (dt s.used))),(76,(aI (↑s.used.length:Int))),(77,(aI (↑p:Int)))],[(0,(.box 38 [(cI s.cap),(dt s.used),(eo s.aH)]))],1⟩) (fun (p:Nat)=>p<=s.used.length/\fC s.cap s.aH 0 s.used=fC s.cap s.aH p (s.used.drop p)) (fun (p:Nat)=>s.used.length - p) 0 ?_ ?_ ?_
 ·exact ⟨aa,rfl⟩
 ·exact aq.rz id
 rintro p ⟨hi1_0,hi1_1⟩
 refine ag 1 rfl (af (aO rfl (fun hc13'=>?_) (fun hc13'=>?_)))
 ·
  refine aD (af (aL (aw 1 rfl ?_)))
  obtain ⟨x1,hx1⟩:=bO (xs:=s.used) (i:=p) aa
  refine az (dO (i:=p) rfl rfl rfl ed eu (aV hx1)) rfl (ad 3 rfl (ae (ag 1 rfl (af (aw 2 rfl (az (cD rfl rfl iY) rfl (ad 1 rfl (ae (aL (cb (β:=Nat) (fun (k:Nat)=>⟨[(1,(aC (.p 0 0 0 0))),(25,(aC (eo s.aH))),(26,(aI (↑s.aH.length:Int))),(27,(aI (↑q:Int))),(75,(aC (dt s.used))),(76,(aI (↑s.used.length:Int))),(77,(aI (↑p:Int))),(5,(aI (↑p:Int))),(6,(aI x1)),(7,(aI (given ↑p (s.aH.take k)))),(83,(aC (eo s.aH))),(84,(aI (↑s.aH.length:Int))),(85,(aI (↑k:Int)))],[(0,(.box 38 [(cI s.cap),(dt s.used),(eo s.aH)]))],1⟩) (fun (k:Nat)=>k<=s.aH.length) (fun (k:Nat)=>s.aH.length - k) 0 ?_ ?_ ?_))))))))))
  ·exact aa
  ·exact aq.rz id
  rintro k hi2_0
  have hgb:=pW s.used.length p _ (FY _ _ k hall)
  have hgl:(s.aH.take k).length<=k:=List.length_take_le _ _
  have hl20:s.aH.length<=20:=aa
  refine ag 1 rfl (af (aO rfl (fun hc14'=>?_) (fun hc14'=>?_)))
  ·
   refine aD (af (aL (dq ?_)))
   obtain ⟨x2,hx2⟩:=bO (xs:=s.aH) (i:=k) aa
   have hx2v:=List.all_eq_true.1 hall x2 (List.mem_of_getElem? hx2)
   simp only [gb,decide_eq_true_eq] at hx2v
   refine az (dO (i:=k) rfl rfl rfl iY tL (aV hx2)) rfl (ad 3 rfl (ae (ag 4 rfl (aO rfl (fun hc15'=>?_) (fun hc15'=>?_)))))
   ·
    refine ah (ad 3 rfl (bl rfl rfl rfl rfl aa (ad 1 rfl (bq (aN (then_ok (ah (bl rfl rfl rfl rfl aa (ad 1 rfl (ae (⟨k+1,by first|omega|trivial,bT,aq.rz id (by refine ⟨?_,?_,?_,?_,?_,?_,?_,?_,?_,?_,?_,?_,?_,trivial⟩<;>first|rfl|(simp only [fQ];done)|(congr 3;omega)|(congr 4;omega)|(simp only [fR];rfl)|((first|(rw [gh hx2,lr,if_pos aa];rfl)|(rw [gh hx2,lr,if_neg aa,Int.add_zero];rfl))))⟩)))))))))))
   refine cv (aN (then_ok (ah (bl rfl rfl rfl rfl aa (ad 1 rfl (ae (⟨k+1,by first|omega|trivial,bT,aq.rz id (by refine ⟨?_,?_,?_,?_,?_,?_,?_,?_,?_,?_,?_,?_,?_,trivial⟩<;>first|rfl|(simp only [fQ];done)|(congr 3;omega)|(congr 4;omega)|(simp only [fR];rfl)|((first|(rw [gh hx2,lr,if_pos aa];rfl)|(rw [gh hx2,lr,if_neg aa,Int.add_zero];rfl))))⟩)))))))
  refine bR (aE (aE (bw (then_ok (bQ 106 ((decide (¬x1=(given ↑p (s.aH.take k))))||(decide (x1 > s.cap))) ?_ ?_)))))
  ·
   refine ah (ad 4 rfl (bz 101 rfl (fun hb16'=>?_) (fun hb16'=>?_)))
   ·
    exact ad 5 rfl (ae (aq.pz 10 rfl))
   exact ad 5 rfl (ae (aq.pz 10 rfl))
  refine ax rfl (fun hc17=>?_) (fun hc17=>?_)
  ·
   have hc17':=hc17;try simp only [aT,bx] at hc17'
   refine ag 1 rfl (al (aY (aj (aj (aY (aj ?_))))))
   have hX:cj s=8:=by
     have hk:s.aH.take k=s.aH:=List.take_of_length_le aa
     rw [hk] at hc17'
     rw [gR (show ¬(8 < s.used.length\/20 < s.aH.length) by omega) (show gY s.cap=true by simp only [gY,decide_eq_true_eq];simp_all [aT]) hall,hi1_1,pc hx1,fC,if_neg aa]
   rw [hX] at hr;clear hX
   subst hr
   exact aS [] 0 rfl
  have hc17':=hc17;try simp only [aT,bx] at hc17'
  refine cv (aN (then_ok (ah (bl rfl rfl rfl rfl aa (ad 1 rfl (ae ?_))))))
  have hk:s.aH.take k=s.aH:=List.take_of_length_le aa
  rw [hk] at hc17'
  refine ⟨p+1,⟨aa,by rw [hi1_1,pc hx1,fC,if_pos aa,Int.natCast_add];rfl⟩,bT,aq.rz id⟩
 refine bR (aE (aE (bw (then_ok (ag 1 rfl (al ?_))))))
 have hX:cj s=0:=by
   rw [gR (show ¬(8 < s.used.length\/20 < s.aH.length) by omega) (show gY s.cap=true by simp only [gY,decide_eq_true_eq];simp_all [aT]) hall,hi1_1,List.drop_of_length_le aa];rfl
 rw [hX] at hr;clear hX
 subst hr
 exact aS [] 0 rfl

theorem Aj (limit ak:Int) (x:cT) (e:Int) (hr:eL limit ak=(x,e)):Fn Tryz.prog 9 [(.c (cI limit)),(.c (cI ak))] (.t [(.g [(cI x.cap),(.s 0 0 1 x.used.length),(.s 1 0 4 x.aH.length)]),(.c (cI e))]) [(0,(dR x.used)),(1,(BB x.aH))]:=by
 refine Fn.mk' 24 [(0,(aI limit)),(1,(aI ak))] Tryz.func9 rfl rfl rfl rfl ?_
 intro W0 T0
 refine ag 2 rfl (af (bQ 11 ((decide (ak < 0))||(decide (ak > 8))) ?_ ?_))
 ·
  refine ah (ad 3 rfl (bz 8 rfl (fun hb1'=>?_) (fun hb1'=>?_)))
  ·
   exact ad 3 rfl (ae (aq.pz 7 rfl))
  exact ad 3 rfl (ae (aq.pz 7 rfl))
 refine ax rfl (fun hc2=>?_) (fun hc2=>?_)
 ·
  have hc2':=hc2;try simp only [aT,bx] at hc2'
  refine ag 3 rfl (al (aj (cc 0 1 3 1 rfl rfl rfl (cc 0 2 95 4 rfl rfl rfl ?_))))
  have hX:eL limit ak=((⟨0,([]:List Int),([]:List ch)⟩:cT),5):=by
    exact xy aa
  cases hX.symm.trans hr;clear hX
  exact aS [1,2,0] 2 rfl
 have hc2':=hc2;try simp only [aT,bx] at hc2'
 refine aD (af (bQ 18 ((decide (limit < 0))||(decide (limit > 1000000))) ?_ ?_))
 ·
  refine ah (ad 3 rfl (bz 15 rfl (fun hb3'=>?_) (fun hb3'=>?_)))
  ·
   exact ad 3 rfl (ae (aq.pz 7 rfl))
  exact ad 3 rfl (ae (aq.pz 7 rfl))
 refine ax rfl (fun hc4=>?_) (fun hc4=>?_)
 ·
  have hc4':=hc4;try simp only [aT,bx] at hc4'
  refine ag 3 rfl (al (aj (cc 0 1 3 1 rfl rfl rfl (cc 0 2 95 4 rfl rfl rfl ?_))))
  have hX:eL limit ak=((⟨0,([]:List Int),([]:List ch)⟩:cT),3):=by
    exact vQ aa (by first|omega|(simp_all [aT];done)|(simp_all [aT];omega))
  cases hX.symm.trans hr;clear hX
  exact aS [1,2,0] 2 rfl
 have hc4':=hc4;try simp only [aT,bx] at hc4'
 refine aD (aw 2 rfl (ay 2 [1,0] (sV 1 lF uB rfl rfl rfl (n:=Int.toNat (ak)) aa aa aa aa) rfl (ad 3 rfl (ae (al (cc 0 2 95 4 rfl rfl rfl ?_))))))
 have hX:eL limit ak=((⟨limit,List.replicate (Int.toNat (ak)) 0,([]:List ch)⟩:cT),0):=by
   unfold eL;rw [if_neg aa,if_neg (by simp only [gY,decide_eq_true_eq];first|omega|(simp_all [aT];done)|(simp_all [aT];omega))]
 cases hX.symm.trans hr;clear hX
 exact aS [1,2,0] 2 rfl
theorem xE (s:cT) (x:cT) (l:List ch) (e:Int) (hr:dN s=(x,l,e)):Fn Tryz.prog 72 [(.g [(cI s.cap),(dt s.used),(eo s.aH)])] (.t [(.g [(cI x.cap),(.s 0 0 1 x.used.length),(.s 1 0 4 x.aH.length)]),(.c (.s 2 0 4 l.length)),(.c (cI e))]) [(0,(dR x.used)),(1,(BB x.aH)),(2,(BB l))]:=by
 refine Fn.mk' 22 [(0,(aG [(cI s.cap),(dt s.used),(eo s.aH)]))] Tryz.func72 rfl rfl rfl rfl ?_
 intro W0 T0
 refine ck 0 1 rfl rfl (fun hlen0_1=>?_)
 refine ck 0 2 rfl rfl (fun hlen0_2=>?_)
 have hrp:=@jt s
 refine ag 4 rfl (af (aw 1 rfl ?_))
 obtain ⟨e0,hr0⟩:∃ (e0:Int),cj s=e0:=⟨_,rfl⟩
 refine ay 2 [1,0] (cA 2 (lu s e0 hr0) Co rfl) rfl (ad 1 rfl (ae (ag 2 rfl (aO rfl (fun hc1'=>?_) (fun hc1'=>?_)))))
 ·
  refine ag 5 rfl (al (aj (cc 1 1 3 1 rfl rfl rfl (cc 1 2 95 4 rfl rfl rfl (cW (aq.nil 3 95 4 cm rfl) ?_)))))
  have hX:dN s=((⟨0,([]:List Int),([]:List ch)⟩:cT),([]:List ch),e0):=by
    unfold dN;rw [if_pos aa,hr0];rfl
  rw [hX] at hr;clear hX
  simp only [Prod.mk.injEq] at hr;obtain ⟨rfl,rfl,rfl⟩:=hr
  exact aS [2,3,4,1] 3 rfl
 refine aD (af (bg [1,2] [1,0] rfl (aF 4 rfl (bh 2 [15] [] rfl (cD rfl rfl ed) (bM 3 [16] [] rfl (sV 2 lF uB rfl rfl rfl (n:=s.used.length) aa aa aa aa) rfl (aF 3 rfl (bM 4 [20] [] rfl (cA 3 (qo s.aH aa) IB rfl) rfl (bf [3,2,1,0] rfl (ad 3 rfl (ae (al (cc 1 2 95 4 rfl rfl rfl ?_))))))))))))
 have hX:dN s=((⟨s.cap,List.replicate s.used.length 0,([]:List ch)⟩:cT),s.aH,0):=by
   unfold dN;rw [if_neg aa]
 rw [hX] at hr;clear hX
 simp only [Prod.mk.injEq] at hr;obtain ⟨rfl,rfl,rfl⟩:=hr
 exact aS [2,4,3,1] 3 rfl

theorem zr (s:cT) (a:ch) (x:cT) (e:Int) (hr:cC s a=(x,e)):Fn Tryz.prog 58 [(.g [(cI s.cap),(dt s.used),(eo s.aH)]),(.g [(cI a.aA),(cI a.au),(cI a.sum),(cI a.time)])] (.t [(.g [(cI x.cap),(.s 0 0 1 x.used.length),(.s 1 0 4 x.aH.length)]),(.c (cI e))]) [(0,(dR x.used)),(1,(BB x.aH))]:=by
 refine Fn.mk' 74 [(0,(aG [(cI s.cap),(dt s.used),(eo s.aH)])),(1,(aG [(cI a.aA),(cI a.au),(cI a.sum),(cI a.time)]))] Tryz.func58 rfl rfl rfl rfl ?_
 intro W0 T0
 refine ck 0 1 rfl rfl (fun hlen0_1=>?_)
 refine ck 0 2 rfl rfl (fun hlen0_2=>?_)
 have hub:=@oo s
 have hrp:=@jt s
 refine ag 4 rfl (af (aw 1 rfl ?_))
 obtain ⟨e0,hr0⟩:∃ (e0:Int),cj s=e0:=⟨_,rfl⟩
 refine ay 3 [2,1,0] (cA 3 (lu s e0 hr0) Co rfl) rfl (ad 1 rfl (ae (ag 2 rfl (aO rfl (fun hc1'=>?_) (fun hc1'=>?_)))))
 ·
  refine ag 4 rfl (al (aj (cc 2 1 3 1 rfl rfl rfl (cc 2 2 95 4 rfl rfl rfl ?_))))
  have hX:cC s a=((⟨0,([]:List Int),([]:List ch)⟩:cT),e0):=by
    rw [vg aa,hr0];rfl
  cases hX.symm.trans hr;clear hX
  exact aS [3,4,2] 2 rfl
 refine aD (af (aw 2 rfl (az (cD rfl rfl iY) rfl (ad 1 rfl (ae (aO rfl (fun hc2'=>?_) (fun hc2'=>?_)))))))
 ·
  refine ag 3 rfl (al (aj (cc 2 1 3 1 rfl rfl rfl (cc 2 2 95 4 rfl rfl rfl ?_))))
  have hX:cC s a=((⟨0,([]:List Int),([]:List ch)⟩:cT),5):=by
    exact xc aa aa
  cases hX.symm.trans hr;clear hX
  exact aS [3,4,2] 2 rfl
 refine aD (af (bg [2,3,4] [2,1,0] rfl (aF 4 rfl (bM 4 [23] [] rfl (cA 3 (tw s.used aa) ID rfl) rfl (aF 2 rfl (bM 5 [26] [] rfl (cA 4 (qo s.aH aa) IB rfl) rfl (aF 1 rfl (bM 6 [28] [] rfl (dM (ys:=[(0,(.g [(cI a.aA),(cI a.au),(cI a.sum),(cI a.time)]))]) (rows:=([a]).map iS) 5 rJ rfl) rfl (bM 7 [27,29] [5,4] rfl (dU (m:=1) (N:=s.aH.length+1) (k2:=6) (ys:=([a]).map iS) rJ rfl rfl rfl rfl dv) rfl (bC (n':=8) (kn:=[]) bn 2 rfl trivial (bf [7,6,3,2,1,0] rfl (ad 1 rfl (ae (af (bQ 52 ((((decide (a.aA>=0)) && (decide (a.aA < (↑s.used.length:Int)))) && (decide (a.sum>=1))) && (decide (a.sum<=1000000))) ?_ ?_)))))))))))))))
 ·
  refine ah (ad 4 rfl (bz 35 rfl (fun hb3'=>?_) (fun hb3'=>?_)))
  ·
   refine ad 4 rfl (dg (aR.yes rfl rfl rfl) (dn rfl rfl rfl rfl rfl ed) rfl rfl (ad 3 rfl (bz 43 rfl (fun hb4'=>?_) (fun hb4'=>?_))))
   ·
    refine ad 5 rfl (bz 48 rfl (fun hb5'=>?_) (fun hb5'=>?_))
    ·
     exact ad 4 rfl (ae (aq.pz 24 rfl))
    exact ad 4 rfl (ae (aq.pz 24 rfl))
   exact ad 9 rfl (ae (aq.pz 23 rfl))
  exact ad 17 rfl (ae (aq.pz 22 rfl))
 refine ax rfl (fun hc6=>?_) (fun hc6=>?_)
 ·
  have hc6':=hc6;try simp only [aT,bx] at hc6'
  obtain ⟨x1,hx1⟩:=bO (xs:=s.used) (i:=Int.toNat (a.aA)) aa
  have hx1b:=oo (s:=s) aa hx1
  refine bg [3,4,7] [7,6,3,2,1] rfl (aF 4 rfl (bh 8 [54,56] [3] rfl (cU (i:=Int.toNat (a.aA)) rfl rfl rfl ed eu) (bM 8 [57] [3] rfl (dY rfl rfl rfl eA rfl (aV hx1) rfl) rfl (aF 2 rfl (bh 8 [58,60] [] rfl (bm rfl rfl rfl (bH aa)) (bh 8 [54,56] [3] rfl (cU (i:=Int.toNat (a.aA)) rfl rfl rfl ed eu) (bf [7,6,3,2,1] rfl (eP [7,6,3,2,1] (dK (ds:=[(dI (x1+a.sum))]) rfl rfl rfl rfl rfl eu rfl (Nat.le_of_ble_eq_true rfl) (aV hx1) rfl (eE (x':=x1+a.sum) rfl)) rfl (ae (aw 1 rfl ?_))))))))))
  obtain ⟨e1,hr1⟩:∃ (e1:Int),cj (⟨s.cap,(s.used).set (Int.toNat (a.aA)) (x1+a.sum),s.aH++([a])⟩:cT)=e1:=⟨_,rfl⟩
  refine ay 8 [7,6,3,2,1] (kH 8 [3,6] (lu (⟨s.cap,(s.used).set (Int.toNat (a.aA)) (x1+a.sum),s.aH++([a])⟩:cT) e1 hr1) Co rfl trivial rfl) rfl (ad 1 rfl (ae (ag 1 rfl (aL (ag 2 rfl (aO rfl (fun hc7'=>?_) (fun hc7'=>?_)))))))
  ·
   refine ag 3 rfl (al (aY ?_))
   have hX:cC s a=((⟨s.cap,(s.used).set (Int.toNat (a.aA)) (x1+a.sum),s.aH++([a])⟩:cT),0):=by
     have hx:s.used.getD a.aA.toNat 0=x1:=by rw [List.getD_eq_getElem?_getD,hx1];rfl
     have hg:=oA (a:=a) (show cj s=0 by omega) (show s.aH.length < 20 by omega)
     rw [hx,hr1] at hg
     rcases hg with ⟨p1,p2⟩|⟨p1,p2⟩|⟨p1,p2⟩<;>first|(exfalso;omega)|exact p2|(subst p1;exact p2)
   cases hX.symm.trans hr;clear hX
   exact aS [3,6,2] 2 rfl
  refine ag 2 rfl (aO rfl (fun hc8'=>?_) (fun hc8'=>?_))
  ·
   refine ag 3 rfl (al (aY (cc 2 1 3 1 rfl rfl rfl (cc 2 2 95 4 rfl rfl rfl ?_))))
   have hX:cC s a=((⟨0,([]:List Int),([]:List ch)⟩:cT),10):=by
     have hx:s.used.getD a.aA.toNat 0=x1:=by rw [List.getD_eq_getElem?_getD,hx1];rfl
     have hg:=oA (a:=a) (show cj s=0 by omega) (show s.aH.length < 20 by omega)
     rw [hx,hr1] at hg
     rcases hg with ⟨p1,p2⟩|⟨p1,p2⟩|⟨p1,p2⟩<;>first|(exfalso;omega)|exact p2|(subst p1;exact p2)
   cases hX.symm.trans hr;clear hX
   exact aS [8,9,2] 2 rfl
  refine ag 4 rfl (al (aY (cc 2 1 3 1 rfl rfl rfl (cc 2 2 95 4 rfl rfl rfl ?_))))
  have hX:cC s a=((⟨0,([]:List Int),([]:List ch)⟩:cT),e1):=by
    have hx:s.used.getD a.aA.toNat 0=x1:=by rw [List.getD_eq_getElem?_getD,hx1];rfl
    have hg:=oA (a:=a) (show cj s=0 by omega) (show s.aH.length < 20 by omega)
    rw [hx,hr1] at hg
    rcases hg with ⟨p1,p2⟩|⟨p1,p2⟩|⟨p1,p2⟩<;>first|(exfalso;omega)|exact p2|(subst p1;exact p2)
  cases hX.symm.trans hr;clear hX
  exact aS [8,9,2] 2 rfl
 have hc6':=hc6;try simp only [aT,bx] at hc6'
 refine aD (aw 1 rfl ?_)
 obtain ⟨e2,hr2⟩:∃ (e2:Int),cj (⟨s.cap,s.used,s.aH++([a])⟩:cT)=e2:=⟨_,rfl⟩
 refine ay 8 [7,6,3,2,1,0] (kH 8 [3,6] (lu (⟨s.cap,s.used,s.aH++([a])⟩:cT) e2 hr2) Co rfl trivial rfl) rfl (ad 1 rfl (ae (ag 1 rfl (aL (ag 2 rfl (aO rfl (fun hc9'=>?_) (fun hc9'=>?_)))))))
 ·
  refine ag 3 rfl (al (aY ?_))
  have hX:cC s a=((⟨s.cap,s.used,s.aH++([a])⟩:cT),0):=by
    have hg:=uc (a:=a) (show cj s=0 by omega) (show s.aH.length < 20 by omega) aa
    rw [hr2] at hg
    obtain ⟨p1,p2⟩:=hg
    first|(exfalso;omega)|(subst p1;exact p2)
  cases hX.symm.trans hr;clear hX
  exact aS [3,6,2] 2 rfl
 refine ag 2 rfl (aO rfl (fun hc10'=>?_) (fun hc10'=>?_))
 ·
  refine ag 3 rfl (al (aY (cc 2 1 3 1 rfl rfl rfl (cc 2 2 95 4 rfl rfl rfl ?_))))
  have hX:cC s a=((⟨0,([]:List Int),([]:List ch)⟩:cT),10):=by
    have hg:=uc (a:=a) (show cj s=0 by omega) (show s.aH.length < 20 by omega) aa
    rw [hr2] at hg
    obtain ⟨p1,p2⟩:=hg
    first|(exfalso;omega)|(subst p1;exact p2)
  cases hX.symm.trans hr;clear hX
  exact aS [8,9,2] 2 rfl
 refine ag 4 rfl (al (aY (cc 2 1 3 1 rfl rfl rfl (cc 2 2 95 4 rfl rfl rfl ?_))))
 have hX:cC s a=((⟨0,([]:List Int),([]:List ch)⟩:cT),e2):=by
   have hg:=uc (a:=a) (show cj s=0 by omega) (show s.aH.length < 20 by omega) aa
   rw [hr2] at hg
   obtain ⟨p1,p2⟩:=hg
   first|(exfalso;omega)|(subst p1;exact p2)
 cases hX.symm.trans hr;clear hX
 exact aS [8,9,2] 2 rfl


def gI:List Int->Int
  |[]=>0
  |x::l=>if x=0 then gI l else x
def ki (a b:ar):Int:=gI [fD a.au b.au,fD a.ba b.ba]
theorem DW {l:List Int} {i:Nat} {x:Int} (hx:l[i]?=some x) (h:x=0):gI (l.drop i)=gI (l.drop (i+1)):=by
  obtain ⟨hi,rfl⟩:=List.getElem?_eq_some_iff.1 hx
  rw [List.drop_eq_getElem_cons hi,gI,if_pos h]
theorem xe {l:List Int} {i:Nat} {x:Int} (hx:l[i]?=some x) (h:¬x=0):gI (l.drop i)=x:=by
  obtain ⟨hi,rfl⟩:=List.getElem?_eq_some_iff.1 hx
  rw [List.drop_eq_getElem_cons hi,gI,if_neg h]
theorem oK {a b:ar}:ki a b < 0↔ju a b=true:=by
  rw [qR]
  have h1:=uo (a:=a.au) (b:=b.au)
  have h2:=su (a:=a.au) (b:=b.au)
  have h3:=uo (a:=a.ba) (b:=b.ba)
  have h4:=su (a:=a.ba) (b:=b.ba)
  unfold ki gI gI gI
  split
  ·split<;>omega
  ·omega
theorem oL {a b:ar} (h:¬ki a b < 0):ju a b=false:=by
  cases hb:ju a b with
  |false=>rfl
  |true=>exact absurd (oK.2 hb) h
theorem gl {l:List (Nat×AV)} {t:Nat} {x y:Int} {ρ:Nat->Nat} (h:look l t=some (aI x)) (e:x=y):look l t=some (AV.map ρ (aI y)):=by subst e;exact h

theorem LU (l:List Int) (r:Int) (hr:gI l=r):Fn Tryz.prog 122 [(.c (dt l))] (.v (.c (cI r))) []:=by
 refine Fn.mk' 18 [(0,(aC (dt l)))] Tryz.func122 rfl rfl rfl rfl ?_
 intro W0 T0
 refine dE 0 rfl (fun hlen0=>?_)
 refine ag 1 rfl (ag 1 rfl (af (aw 1 rfl (az (cD rfl rfl ed) rfl (ad 1 rfl (ae (aL (cb (β:=Nat) (fun (i:Nat)=>⟨[(3,(aI 0)),(6,(aC (dt l))),(7,(aI (↑l.length:Int))),(8,(aI (↑i:Int)))],[],0⟩) (fun (i:Nat)=>i<=l.length/\gI (l.drop i)=gI l) (fun (i:Nat)=>l.length - i) 0 ?_ ?_ ?_))))))))
 ·exact ⟨aa,rfl⟩
 ·exact aq.rz id
 rintro i ⟨hi0_0,hi0_1⟩
 refine ag 1 rfl (af (aO rfl (fun hc1'=>?_) (fun hc1'=>?_)))
 ·
  refine aD (af (aL (dq ?_)))
  obtain ⟨x1,hx1⟩:=bO (xs:=l) (i:=i) aa
  refine az (dO (i:=i) rfl rfl rfl ed eu (aV hx1)) rfl (ad 2 rfl (ae (ag 3 rfl (aO rfl (fun hc2'=>?_) (fun hc2'=>?_)))))
  ·
   refine ag 2 rfl (al (aY (aj (aj (aY (aj ?_))))))
   have hX:gI l=x1:=by
     rw [<-hi0_1];first|exact xe hx1 aa|(rw [List.drop_of_length_le aa];rfl)
   rw [hX] at hr;clear hX
   subst hr
   exact aS [] 0 rfl
  refine cv (aN (then_ok (ah (bl rfl rfl rfl rfl aa (ad 1 rfl (ae (⟨i+1,⟨aa,by rw [<-DW hx1 aa];exact hi0_1⟩,bT,aq.rz id⟩)))))))
 refine bR (aE (aE (bw (then_ok (ag 2 rfl (al ?_))))))
 have hX:gI l=0:=by
   rw [<-hi0_1];first|exact xe hx1 aa|(rw [List.drop_of_length_le aa];rfl)
 rw [hX] at hr;clear hX
 subst hr
 exact aS [] 0 rfl
theorem Bu (x y:ar):Fn Tryz.prog 115 [(.g [(cI x.au),(cI x.ba),(cI x.kind),(cI x.sum)]),(.g [(cI y.au),(cI y.ba),(cI y.kind),(cI y.sum)])] (aI (ki x y)) []:=by
 refine Fn.mk' 17 [(0,(aG [(cI x.au),(cI x.ba),(cI x.kind),(cI x.sum)])),(1,(aG [(cI y.au),(cI y.ba),(cI y.kind),(cI y.sum)]))] Tryz.func115 rfl rfl rfl rfl ?_
 intro W0 T0
 refine ag 3 rfl (af ?_)
 have hr0:fD x.au y.au=fD x.au y.au:=rfl
 have hr1:fD x.ba y.ba=fD x.ba y.ba:=rfl
 have hr2:gI ([fD x.au y.au,fD x.ba y.ba])=gI ([fD x.au y.au,fD x.ba y.ba]):=rfl
 exact bg [2,3] [1,0] rfl (aF 4 rfl (bM 2 [6,8] [] rfl (cA 2 (sG x.au y.au (fD x.au y.au) hr0) Cx rfl) rfl (aF 4 rfl (bM 2 [11,13] [] rfl (cA 2 (sG x.ba y.ba (fD x.ba y.ba) hr1) Cx rfl) rfl (bM 3 [9,14] [] rfl (dM (ys:=[(0,(.c (cI (fD x.au y.au)))),(1,(.c (cI (fD x.ba y.ba))))]) (rows:=([fD x.au y.au,fD x.ba y.ba]).map rI) 2 lF rfl) rfl (bM 3 [15] [2] rfl (kH 3 [2] (LU ([fD x.au y.au,fD x.ba y.ba]) (gI ([fD x.au y.au,fD x.ba y.ba])) hr2) JW rfl trivial rfl) rfl (aF 1 rfl (bf [1,0] rfl (ae (al (aS [] 0 rfl)))))))))))

theorem Ai (d:List ar) (N a b n:Nat) (fn:FuncId) (bu:List (List D)) (hp:∀ x y:ar,Fn Tryz.prog fn ([.g [cI x.au,cI x.ba,cI x.kind,cI x.sum],.g [cI y.au,cI y.ba,cI y.kind,cI y.sum]]++bu.map fun r=>GV.c (.q r 0)) (aI (ki x y)) []) (hen:bc Tryz.prog fn) (hl:d.length * 32<=140737488355328) (hN:N=d.length) (h0_:a+n<=d.length) (h1_:b+n<=d.length) (r:List ar) (hr:jk a b n d=r):cS Tryz.prog 136 [(.c (.s 0 0 4 N)),(.c (cI (↑a:Int))),(.c (cI (↑b:Int))),(.c (cI (↑n:Int))),(.c (.d (.f fn bu)))] [(0,(cX d))] [0] (.t []) [(0,(cX r))]:=by
 refine cS.mk 38 [(0,(aC (.s 0 0 4 N))),(1,(aI (↑a:Int))),(2,(aI (↑b:Int))),(3,(aI (↑n:Int))),(4,(aC (.d (.f fn bu))))] 1 Tryz.func136 rfl rfl rfl rfl rfl rfl rfl rfl rfl ?_
 intro W0 F0 T0 pg
 refine jx 0 rfl (fun hlen0=>?_)
 refine ag 1 rfl (aL (cb (β:=Nat×List ar) (fun (p:Nat×List ar)=>match p with|(i,d1)=>⟨[(0,(aC (.s 0 0 4 N))),(1,(aI (↑a:Int))),(2,(aI (↑b:Int))),(3,(aI (↑n:Int))),(10,(aI (↑i:Int)))],[(0,(cX d1))],1⟩) (fun (p:Nat×List ar)=>match p with|(i,d1)=>i<=n/\d1=jk a b i d/\d1.length=d.length) (fun (p:Nat×List ar)=>match p with|(i,d1)=>n - i) (0,d) ?_ ?_ ?_))
 ·exact ⟨aa,rfl,rfl⟩
 ·exact aq.rz id
 rintro ⟨i,d1⟩ ⟨hi0_0,hi0_1,hi0_2⟩
 refine af (ag 3 rfl (aO rfl (fun hc1'=>?_) (fun hc1'=>?_)))
 ·
  refine aD (af (aL ?_))
  obtain ⟨x1,hx1⟩:=bO (xs:=d1) (i:=(b)+(i)) aa
  obtain ⟨x2,hx2⟩:=bO (xs:=d1) (i:=(a)+(i)) aa
  obtain ⟨x3,hx3⟩:=bO (xs:=((d1).set ((a)+(i)) x1)) (i:=(b)+(i)) bT
  refine eJ [0,1,2,3,10] [0] rfl (cV 3 rfl (dZ 1 [17,18] [] rfl (bm rfl rfl rfl (bH aa)) (cV 3 rfl (dZ 1 [21,22] [] rfl (bm rfl rfl rfl (bH aa)) (cV 3 rfl (dZ 1 [25,26] [] rfl (bm rfl rfl rfl (bH aa)) (dZ 1 [24,27] [0] rfl (cU (i:=(b)+(i)) rfl rfl rfl dQ cY) (de 1 [28] [0] rfl (dk rfl rfl rfl iR rfl cY (aV hx1) rfl) rfl (cV 3 rfl (dZ 1 [31,32] [] rfl (bm rfl rfl rfl (bH aa)) (dZ 1 [30,33] [0] rfl (cU (i:=(a)+(i)) rfl rfl rfl dQ cY) (de 1 [34] [0] rfl (dk rfl rfl rfl iR rfl cY (aV hx2) rfl) rfl (dZ 1 [16,19] [0] rfl (cU (i:=(a)+(i)) rfl rfl rfl dQ cY) (de 1 [36,29] [0] rfl (dK (ds:=[(dI x1.au),(dI x1.ba),(dI x1.kind),(dI x1.sum)]) rfl rfl rfl rfl rfl cY rfl (Nat.le_of_ble_eq_true rfl) (aV hx2) rfl (eE (x':=x1) rfl)) rfl (dZ 1 [20,23] [0] rfl (cU (i:=(b)+(i)) rfl rfl rfl dQ cY) (de 1 [37,35] [0] rfl (dK (ds:=[(dI x2.au),(dI x2.ba),(dI x2.kind),(dI x2.sum)]) rfl rfl rfl rfl rfl cY rfl (Nat.le_of_ble_eq_true rfl) (aV hx3) rfl (eE (x':=x2) rfl)) rfl (eb [0,1,2,3,10] [0] rfl rfl aJ (aN (then_ok (ah (ad 1 rfl (bl rfl rfl rfl rfl aa (ad 1 rfl (ae (⟨(i+1,((d1).set ((a)+(i)) x1).set ((b)+(i)) x2),⟨aa,by rw [jk,<-hi0_1];exact (oT hx2 hx1).symm,by simp only [List.length_set];exact hi0_2⟩,bT,aq.rz id⟩)))))))))))))))))))))))))
 refine bR (aE (aE (bw ?_)))
 have hX:jk a b n d=d1:=by
   have:i=n:=aa
   subst this;exact hi0_1.symm
 rw [hX] at hr;clear hX
 subst hr
 refine cJ bn [0] 1 rfl rfl rfl rfl rfl rfl ?_ ?_
 all_goals first|rfl|(simp [cq];done)|(simp [cq];omega)
theorem pd (ai bi ni:Int) (d:List ar) (N a b n:Nat) (fn:FuncId) (bu:List (List D)) (hp:∀ x y:ar,Fn Tryz.prog fn ([.g [cI x.au,cI x.ba,cI x.kind,cI x.sum],.g [cI y.au,cI y.ba,cI y.kind,cI y.sum]]++bu.map fun r=>GV.c (.q r 0)) (aI (ki x y)) []) (hen:bc Tryz.prog fn) (ea_:ai=(↑a:Int)) (eb_:bi=(↑b:Int)) (en_:ni=(↑n:Int)) (hl:d.length * 32<=140737488355328) (hN:N=d.length) (h0_:a+n<=d.length) (h1_:b+n<=d.length) (r:List ar) (hr:jk a b n d=r):cS Tryz.prog 136 [(.c (.s 0 0 4 N)),(.c (cI ai)),(.c (cI bi)),(.c (cI ni)),(.c (.d (.f fn bu)))] [(0,(cX d))] [0] (.t []) [(0,(cX r))]:=by
  subst ea_ eb_ en_
  exact Ai d N a b n fn bu hp hen hl hN h0_ h1_ r hr

theorem FO (d:List ar) (N a m b:Nat) (fn:FuncId) (bu:List (List D)) (hp:∀ x y:ar,Fn Tryz.prog fn ([.g [cI x.au,cI x.ba,cI x.kind,cI x.sum],.g [cI y.au,cI y.ba,cI y.kind,cI y.sum]]++bu.map fun r=>GV.c (.q r 0)) (aI (ki x y)) []) (hen:bc Tryz.prog fn) (hl:d.length * 32<=140737488355328) (hN:N=d.length) (h0_:a < m) (h1_:m < b) (h2_:b<=d.length) (r:List ar) (hr:lA m (m - a) (b - m) d=r):cS Tryz.prog 134 [(.c (.s 0 0 4 N)),(.c (cI (↑a:Int))),(.c (cI (↑m:Int))),(.c (cI (↑b:Int))),(.c (.d (.f fn bu)))] [(0,(cX d))] [0] (.t []) [(0,(cX r))]:=by
 refine cS.mk 58 [(0,(aC (.s 0 0 4 N))),(1,(aI (↑a:Int))),(2,(aI (↑m:Int))),(3,(aI (↑b:Int))),(4,(aC (.d (.f fn bu))))] 1 Tryz.func134 rfl rfl rfl rfl rfl rfl rfl rfl rfl ?_
 intro W0 F0 T0 pg
 refine jx 0 rfl (fun hlen0=>?_)
 refine aw 2 rfl (bl rfl rfl rfl rfl aa (ad 1 rfl (ae (aw 2 rfl (bl rfl rfl rfl rfl aa (ad 1 rfl (ae (af (aL (cb (β:=Nat×Nat×List ar) (fun (p:Nat×Nat×List ar)=>match p with|(i,j,d1)=>⟨[(0,(aC (.s 0 0 4 N))),(2,(aI (↑m:Int))),(4,(aC (.d (.f fn bu)))),(10,(aI (↑i:Int))),(11,(aI (↑j:Int)))],[(0,(cX d1))],1⟩) (fun (p:Nat×Nat×List ar)=>match p with|(i,j,d1)=>0 < i/\0 < j/\i+a<=m/\m+j<=b/\lA m i j d1=lA m (m - a) (b - m) d/\d1.length=d.length) (fun (p:Nat×Nat×List ar)=>match p with|(i,j,d1)=>i+j) (m - a,b - m,d) ?_ ?_ ?_))))))))))
 ·exact ⟨aa,aa,aa,aa,rfl,rfl⟩
 ·exact aq.rz id
 rintro ⟨i,j,d1⟩ ⟨hi0_0,hi0_1,hi0_2,hi0_3,hi0_4,hi0_5⟩
 refine af (ag 3 rfl (aO rfl (fun hc1'=>?_) (fun hc1'=>?_)))
 ·
  refine aD (aL (ag 3 rfl (aO rfl (fun hc2'=>?_) (fun hc2'=>?_))))
  ·
   refine aw 3 rfl (bl rfl rfl rfl rfl aa (ad 3 rfl ?_))
   obtain ⟨r0,hr0⟩:∃ (r0:List ar),jk ((m) - (i)) m j d1=r0:=⟨_,rfl⟩
   have hlr0:r0.length=d1.length:=by rw [<-hr0];exact kT _ _ _ _
   refine ay 1 [0] (jC id id (pd ((↑m:Int) - (↑i:Int)) (↑m:Int) (↑j:Int) d1 N ((m) - (i)) m j fn bu hp hen aa aa aa aa aa aa aa r0 hr0) Cv rfl) rfl (ae (ah (ad 2 rfl (bl rfl rfl rfl rfl aa (ad 1 rfl (bq (aN (then_ok (⟨((i) - (j),j,r0),⟨aa,aa,aa,aa,by rw [<-hr0,<-Dl aa aa];exact hi0_4,aa⟩,bT,aq.rz id⟩)))))))))
  refine aw 3 rfl (bl rfl rfl rfl rfl aa (ad 2 rfl (bl rfl rfl rfl rfl aa (ad 1 rfl (bl rfl rfl rfl rfl aa (ad 2 rfl ?_))))))
  obtain ⟨r1,hr1⟩:∃ (r1:List ar),jk ((m) - (i)) (((m)+(j)) - (i)) i d1=r1:=⟨_,rfl⟩
  have hlr1:r1.length=d1.length:=by rw [<-hr1];exact kT _ _ _ _
  refine ay 1 [0] (jC id id (pd ((↑m:Int) - (↑i:Int)) (((↑m:Int)+(↑j:Int)) - (↑i:Int)) (↑i:Int) d1 N ((m) - (i)) (((m)+(j)) - (i)) i fn bu hp hen aa aa aa aa aa aa aa r1 hr1) Cv rfl) rfl (ae (ah (ad 2 rfl (bl rfl rfl rfl rfl aa (ad 1 rfl (bq (aN (then_ok (⟨(i,(j) - (i),r1),⟨aa,aa,aa,aa,by rw [<-hr1,<-Dk aa aa];exact hi0_4,aa⟩,bT,aq.rz id⟩)))))))))
 refine bR (aE (aE (bw (then_ok (ah (ad 3 rfl (bl rfl rfl rfl rfl aa (ad 3 rfl ?_))))))))
 obtain ⟨r2,hr2⟩:∃ (r2:List ar),jk ((m) - (i)) m i d1=r2:=⟨_,rfl⟩
 have hlr2:r2.length=d1.length:=by rw [<-hr2];exact kT _ _ _ _
 refine ay 1 [0] (jC id id (pd ((↑m:Int) - (↑i:Int)) (↑m:Int) (↑i:Int) d1 N ((m) - (i)) m i fn bu hp hen aa aa aa aa aa aa aa r2 hr2) Cv rfl) rfl (bq ?_)
 have hX:lA m (m - a) (b - m) d=r2:=by
   have hij:i=j:=aa
   subst hij;rw [<-hi0_4,Dm aa];exact hr2
 rw [hX] at hr;clear hX
 subst hr
 refine cJ bn [0] 1 rfl rfl rfl rfl rfl rfl ?_ ?_
 all_goals first|rfl|(simp [cq];done)|(simp [cq];omega)
theorem xk (ai mi bi:Int) (d:List ar) (N a m b:Nat) (fn:FuncId) (bu:List (List D)) (hp:∀ x y:ar,Fn Tryz.prog fn ([.g [cI x.au,cI x.ba,cI x.kind,cI x.sum],.g [cI y.au,cI y.ba,cI y.kind,cI y.sum]]++bu.map fun r=>GV.c (.q r 0)) (aI (ki x y)) []) (hen:bc Tryz.prog fn) (ea_:ai=(↑a:Int)) (em_:mi=(↑m:Int)) (eb_:bi=(↑b:Int)) (hl:d.length * 32<=140737488355328) (hN:N=d.length) (h0_:a < m) (h1_:m < b) (h2_:b<=d.length) (r:List ar) (hr:lA m (m - a) (b - m) d=r):cS Tryz.prog 134 [(.c (.s 0 0 4 N)),(.c (cI ai)),(.c (cI mi)),(.c (cI bi)),(.c (.d (.f fn bu)))] [(0,(cX d))] [0] (.t []) [(0,(cX r))]:=by
  subst ea_ em_ eb_
  exact FO d N a m b fn bu hp hen hl hN h0_ h1_ h2_ r hr
end Go.Proofs.YtnfopdlnboeheaaGreat.Dev
