/- A part of the proof: Pace3, Pace5, Pace6, Card1, Card2, Card3, Del2, Post1, Post2. No condition. -/
import Derived.Test.YtnfopdlnboeheaaGreatD07
set_option linter.unusedVariables false
set_option linter.unusedSimpArgs false
set_option maxHeartbeats 1000000
set_option maxRecDepth 100000
namespace Go.Proofs.YtnfopdlnboeheaaGreat.Dev
open Go.RowKit

theorem od (p:ff) (e:Int) (hr:gd p=e):Fn Tryz.prog 13 [(.g [cI p.cw,cI p.count,cI p.sum])] (.v (.c (cI e))) []:=hr▸zx p.cw p.count p.sum
theorem mr (p:ff) (e:Int) (hr:gd p=e):Fn Tryz.prog 14 [(.g [cI p.cw,cI p.count,cI p.sum])] (.v (.c (cI e))) []:=hr▸vr p.cw p.count p.sum
theorem sy (l:List dh) (f:cM) (hr:fj l=f):Fn Tryz.prog 110 [.c (cR 2 (l.map iv))] (.v (.g [cI f.err,cI f.at_])) []:=hr▸Ap l
theorem mq (l:List dh) (f:cM) (hr:fj l=f):Fn Tryz.prog 82 [.c (cR 2 (l.map iv))] (.v (.g [cI f.err,cI f.at_])) []:=hr▸vq l

theorem Em (x:dh) (t:Int) (p:ff) (hb:-9223372036854775808<=t - p.cw/\t - p.cw<=9223372036854775807):Fn Tryz.prog 120 [(.g [(cI x.time),(cI x.sum)]),(.c (.q ([dI t]) 0)),(.c (.q ([dI p.cw,dI p.count,dI p.sum]) 0))] (aB (cu p t x)) []:=by
 refine Fn.mk' 12 [(0,(aG [(cI x.time),(cI x.sum)])),(1,(aC (.q ([dI t]) 0))),(2,(aC (.q ([dI p.cw,dI p.count,dI p.sum]) 0)))] Tryz.func120 rfl rfl rfl rfl ?_
 intro W0 T0
 exact ag 2 rfl (aw 5 rfl (bl rfl rfl rfl rfl aa (ad 2 rfl (ae (al (aS [] 0 rfl))))))
theorem rr (p:ff) (l:List dh) (t:Int) (hb:-9223372036854775808<=t - p.cw/\t - p.cw<=9223372036854775807) (hl:l.length * 16<=140737488355328) (r:List dh) (hr:dP p l t=r):Fn Tryz.prog 111 [(.g [(cI p.cw),(cI p.count),(cI p.sum)]),(.c (eF l)),(.c (cI t))] (.v (.c (.s 0 0 2 r.length))) [(0,(nP r))]:=by
 refine Fn.mk' 11 [(0,(aG [(cI p.cw),(cI p.count),(cI p.sum)])),(1,(aC (eF l))),(2,(aI t))] Tryz.func111 rfl rfl rfl rfl ?_
 intro W0 T0
 refine dE 1 rfl (fun hlen1=>?_)
 refine ag 3 rfl (aw 1 rfl (ay 3 [2,1,0] (cA 2 (tx l aa) Gw rfl) rfl (az (yX (ks:=[1,0]) rfl ⟨rfl,rfl,trivial⟩) rfl ?_)))
 obtain ⟨r0,hr0⟩:∃ (r0:List dh),ez (cu p t) l=r0:=⟨_,rfl⟩
 refine ay 4 [3,1,0] (yZ (bp [2]) (bp [3]) [0,1] (zG l 120 ([[(dI t)],[(dI p.cw),(dI p.count),(dI p.sum)]]) (cu p t) (fun x=>Em x t p hb) JX r0 hr0) JY rfl rfl ⟨⟨_,rfl,.inl ⟨rfl,rfl⟩⟩,⟨_,rfl,.inr (.c (.fn ⟨⟨by decide,_,rfl⟩,⟨by decide,_,rfl⟩,trivial⟩))⟩,trivial⟩ ⟨rfl,trivial⟩ rfl rfl rfl rfl rfl rfl rfl rfl trivial ⟨(Fa _),trivial⟩ rfl rfl rfl rfl) rfl (ad 1 rfl (ae (al ?_)))
 have hX:dP p l t=r0:=by
   assumption
 rw [hX] at hr;clear hX
 subst hr
 exact aS [3] 1 rfl
theorem sw (p:ff) (l:List dh) (t:Int) (hb:-9223372036854775808<=t - p.cw/\t - p.cw<=9223372036854775807) (hl:l.length * 16<=140737488355328) (r:List dh) (hr:dP p l t=r):Fn Tryz.prog 107 [(.g [(cI p.cw),(cI p.count),(cI p.sum)]),(.c (eF l)),(.c (cI t))] (.v (.c (.s 0 0 2 r.length))) [(0,(nP r))]:=by
 refine Fn.mk' 29 [(0,(aG [(cI p.cw),(cI p.count),(cI p.sum)])),(1,(aC (eF l))),(2,(aI t))] Tryz.func107 rfl rfl rfl rfl ?_
 intro W0 T0
 refine dE 1 rfl (fun hlen1=>?_)
 obtain ⟨hb1,hb2⟩:=hb
 refine ag 2 rfl (ag 1 rfl (af (aw 1 rfl (az (cD rfl rfl fu) rfl (ad 1 rfl (ae (aL (ie (aq.nil 7 124 2 cm rfl) (cb (β:=Nat) (fun (q:Nat)=>⟨[(2,(aI t)),(3,(aC (.p 0 0 0 0))),(6,(aC cN)),(7,(aC (.s 1 0 2 ((ez (cu p t) (l.take q)).length)))),(10,(aC (eF l))),(11,(aI (↑l.length:Int))),(12,(aI (↑q:Int)))],[(1,(nP (ez (cu p t) (l.take q)))),(0,(.box 60 [(cI p.cw),(cI p.count),(cI p.sum)]))],2⟩) (fun (q:Nat)=>q<=l.length) (fun (q:Nat)=>l.length - q) 0 ?_ ?_ ?_)))))))))
 ·exact aa
 ·exact aq.rz id
 rintro q hi0_0
 have hkl:=jw (cu p t) (l.take q)
 have htl:(l.take q).length<=q:=List.length_take_le _ _
 refine ag 1 rfl (af (aO rfl (fun hc1'=>?_) (fun hc1'=>?_)))
 ·
  refine aD (af (aL (dq ?_)))
  obtain ⟨x1,hx1⟩:=bO (xs:=l) (i:=q) aa
  refine az (dO (i:=q) rfl rfl rfl fu gW (aV hx1)) rfl (ad 3 rfl (ae (aw 5 rfl (bl rfl rfl rfl rfl aa (ad 1 rfl (ae (aO rfl (fun hc2'=>?_) (fun hc2'=>?_))))))))
  ·
   refine ah (ad 2 rfl (ay 4 [3,2,1,0] (dM (ys:=[(0,(.g [(cI x1.time),(cI x1.sum)]))]) (rows:=([x1]).map iv) 3 mh rfl) rfl (ay 5 [4,3,2,0] (dU (m:=1) (N:=((ez (cu p t) (l.take q)).length)+1) (k2:=4) (ys:=([x1]).map iv) mh rfl rfl rfl rfl dv) rfl (ad 1 rfl (bq (aN (then_ok (ah (bl rfl rfl rfl rfl aa (ad 1 rfl (ae (⟨q+1,by first|omega|trivial,bT,aq.jH (fun k=>if k=1 then 4 else k) (by refine ⟨?_,?_,?_,?_,?_,?_,?_,trivial⟩<;>first|rfl|(simp only [fQ];done)|(congr 3;omega)|(congr 4;omega)|(simp only [fR];rfl)|(first|(rw [eY hx1,show cu p t x1=false by (simp only [cu,decide_eq_false_iff_not];omega),List.length_append];rfl)|(rw [eY hx1,show cu p t x1=true by (simp only [cu,decide_eq_true_eq];omega),List.length_append];rfl))) (by refine ⟨?_,?_,trivial⟩<;>first|rfl|(simp only [fQ];done)|(congr 3;omega)|(congr 4;omega)|(simp only [fR];rfl)|(first|(rw [eY hx1,show cu p t x1=false by (simp only [cu,decide_eq_false_iff_not];omega)];rfl)|(rw [eY hx1,show cu p t x1=true by (simp only [cu,decide_eq_true_eq];omega),if_pos rfl,List.append_nil];rfl))) rfl⟩))))))))))))
  refine cv (aN (then_ok (ah (bl rfl rfl rfl rfl aa (ad 1 rfl (ae (⟨q+1,by first|omega|trivial,bT,aq.jH id (by refine ⟨?_,?_,?_,?_,?_,?_,?_,trivial⟩<;>first|rfl|(simp only [fQ];done)|(congr 3;omega)|(congr 4;omega)|(simp only [fR];rfl)|(first|(rw [eY hx1,show cu p t x1=false by (simp only [cu,decide_eq_false_iff_not];omega),List.length_append];rfl)|(rw [eY hx1,show cu p t x1=true by (simp only [cu,decide_eq_true_eq];omega),List.length_append];rfl))) (by refine ⟨?_,?_,trivial⟩<;>first|rfl|(simp only [fQ];done)|(congr 3;omega)|(congr 4;omega)|(simp only [fR];rfl)|(first|(rw [eY hx1,show cu p t x1=false by (simp only [cu,decide_eq_false_iff_not];omega)];rfl)|(rw [eY hx1,show cu p t x1=true by (simp only [cu,decide_eq_true_eq];omega),if_pos rfl,List.append_nil];rfl))) rfl⟩)))))))
 refine bR (aE (aE (bw (then_ok (ag 2 rfl (al ?_))))))
 have hX:dP p l t=(ez (cu p t) (l.take q)):=by
   rw [List.take_of_length_le aa];rfl
 rw [hX] at hr;clear hX
 subst hr
 exact aS [1] 1 rfl

theorem CG (p:ff) (l:List dh) (x:dh) (r:List dh) (e:Int) (hr:ea p l x=(r,e)):Fn Tryz.prog 93 [(.g [(cI p.cw),(cI p.count),(cI p.sum)]),(.c (eF l)),(.g [(cI x.time),(cI x.sum)])] (.t [(.c (.s 0 0 2 r.length)),(.c (cI e))]) [(0,(nP r))]:=by
 refine Fn.mk' 87 [(0,(aG [(cI p.cw),(cI p.count),(cI p.sum)])),(1,(aC (eF l))),(2,(aG [(cI x.time),(cI x.sum)]))] Tryz.func93 rfl rfl rfl rfl ?_
 intro W0 T0
 refine dE 1 rfl (fun hlen1=>?_)
 have hrp:=@nL p
 have hru:(fj l).err=0->l.length<=30:=fun h=>(iO h).1
 have hrx:(fj [x]).err=0->0<=x.time/\x.time<=1000000/\0<=x.sum/\x.sum<=1000000:=fun h=>(@iO [x] h).2 x ca
 refine ag 4 rfl (af (aw 1 rfl ?_))
 obtain ⟨e0,hr0⟩:∃ (e0:Int),gd p=e0:=⟨_,rfl⟩
 refine ay 2 [1,0] (cA 2 (od p e0 hr0) FG rfl) rfl (ad 1 rfl (ae (ag 2 rfl (aO rfl (fun hc1'=>?_) (fun hc1'=>?_)))))
 ·
  refine ag 3 rfl (al (aj (cW (aq.nil 6 124 2 cm rfl) ?_)))
  have hX:ea p l x=(([]:List dh),e0):=by
    unfold ea;rw [if_pos aa,hr0]
  cases hX.symm.trans hr;clear hX
  exact aS [2] 1 rfl
 refine aD (af (aw 2 rfl (ay 3 [2,1,0] (dM (ys:=[(0,(.g [(cI x.time),(cI x.sum)]))]) (rows:=([x]).map iv) 2 mh rfl) rfl (Ex (s':=[(0,(aG [(cI p.cw),(cI p.count),(cI p.sum)])),(1,(aC (eF l))),(2,(aG [(cI x.time),(cI x.sum)])),(3,(aC (.p 0 0 0 0))),(5,(aC (.p 1 0 0 0))),(6,(aC cN)),(7,(aI 0)),(17,(aG [(cI p.cw),(cI p.count),(cI p.sum)])),(18,(aI e0)),(8,(aI e0)),(19,(aI e0)),(20,(aB (decide (¬e0=0)))),(22,(aC (eF l))),(23,(aG [(cI x.time),(cI x.sum)])),(24,(aC (eF ([x]))))]) (h':=[(1,(.box 124 [(cI x.time),(cI x.sum)])),(0,(.box 60 [(cI p.cw),(cI p.count),(cI p.sum)]))]) 2 rfl ⟨⟨_,rfl,.inl ⟨rfl,rfl⟩⟩,⟨_,rfl,.inl ⟨rfl,rfl⟩⟩,⟨_,rfl,.inl ⟨rfl,rfl⟩⟩,⟨_,rfl,.inl ⟨rfl,rfl⟩⟩,⟨_,rfl,.inl ⟨rfl,rfl⟩⟩,⟨_,rfl,.inl ⟨rfl,rfl⟩⟩,⟨_,rfl,.inl ⟨rfl,rfl⟩⟩,⟨_,rfl,.inl ⟨rfl,rfl⟩⟩,⟨_,rfl,.inl ⟨rfl,rfl⟩⟩,⟨_,rfl,.inl ⟨rfl,rfl⟩⟩,⟨_,rfl,.inl ⟨rfl,rfl⟩⟩,⟨_,rfl,.inl ⟨rfl,rfl⟩⟩,⟨_,rfl,.inl ⟨rfl,rfl⟩⟩,⟨_,rfl,.inl ⟨rfl,rfl⟩⟩,⟨_,rfl,.inr ⟨_,_,rfl,rfl,.s rfl cm bT⟩⟩,trivial⟩ ⟨rfl,rfl,trivial⟩ rfl (ay 4 [3,1,0] (dM (ys:=[(0,(.c (eF l))),(1,(.c (eF ([x]))))]) (rows:=([l,[x]]).map xJ) 3 JF rfl) rfl (az (dn rfl rfl rfl rfl rfl Tryz.underlying163) rfl (ad 1 rfl (ae (aL (cb (β:=Nat) (fun (q:Nat)=>⟨[(1,(aC (eF l))),(3,(aC (.p 0 0 0 0))),(5,(aC (.p 1 0 0 0))),(25,(aC (.s 3 0 1 2))),(26,(aI 2)),(27,(aI (↑q:Int)))],[(3,(.arr 61 1 (([l,[x]]).map xJ))),(1,(.box 124 [(cI x.time),(cI x.sum)])),(0,(.box 60 [(cI p.cw),(cI p.count),(cI p.sum)]))],4⟩) (fun (q:Nat)=>q<=2/\(0 < q->(fj l).err=0)/\(1 < q->(fj [x]).err=0)) (fun (q:Nat)=>2 - q) 0 ?_ ?_ ?_))))))))))
 ·exact ⟨aa,aa,aa⟩
 ·exact aq.rz id
 rintro q ⟨hi0_0,hi0_1,hi0_2⟩
 refine ag 1 rfl (af (aO rfl (fun hc2'=>?_) (fun hc2'=>?_)))
 ·
  refine aD (af (aL (dq (az (cU (i:=q) rfl rfl rfl Tryz.underlying163 KM) rfl ?_))))
  obtain ⟨x1,hx1⟩:=bO (xs:=([l,[x]]:List (List dh))) (i:=q) bT
  have hx1v:=Ig hx1
  refine az (dY rfl rfl rfl fu rfl (aV hx1) rfl) rfl (ad 1 rfl (ae (aw 1 rfl ?_)))
  obtain ⟨f1,hr1⟩:∃ (f1:cM),fj x1=f1:=⟨_,rfl⟩
  refine ay 4 [3,1,0] (cA 4 (sy x1 f1 hr1) Gy rfl) rfl (ad 2 rfl (ae (ag 3 rfl (aO rfl (fun hc3'=>?_) (fun hc3'=>?_)))))
  ·
   refine af (bg [1,3,5,25,26,27,11] [4,3,1,0] rfl (aF 4 rfl (bf [4,3,1,0] rfl (ae (al (aY (aj (aj (aY (aj (cW (aq.nil 6 124 2 cm rfl) ?_)))))))))))
   have hX:ea p l x=(([]:List dh),f1.err):=by
     unfold ea;rcases hx1v with ⟨hq,hx⟩|⟨hq,hx⟩<;>subst hx
     ·rw [if_neg aa,if_pos (by rw [hr1];omega),hr1]
     ·rw [if_neg aa,if_neg (by have:=hi0_1 aa;omega),if_pos (by rw [hr1];omega),hr1]
   cases hX.symm.trans hr;clear hX
   exact aS [5] 1 rfl
  refine cv (aN (then_ok (ah (bl rfl rfl rfl rfl aa (ad 1 rfl (ae (⟨q+1,⟨aa,(fun h=>by rcases hx1v with ⟨hq,hx⟩|⟨hq,hx⟩<;>first|(exact hi0_1 aa)|(subst hx;rw [hr1];omega)),(fun h=>by rcases hx1v with ⟨hq,hx⟩|⟨hq,hx⟩<;>first|(exfalso;omega)|(subst hx;rw [hr1];omega))⟩,bT,aq.rz id⟩)))))))
 refine bR (aE (aE (bw (then_ok (af (aw 1 rfl (az (cD rfl rfl fu) rfl (bl rfl rfl rfl rfl aa (ad 1 rfl (ae (af ?_)))))))))))
 rcases Bool.eq_false_or_eq_true (decide (((↑l.length:Int) - 1)>=0)) with hb4|hb4
 ·
  have hb4':=of_decide_eq_true hb4
  obtain ⟨x1,hx1⟩:=bO (xs:=l) (i:=(l.length) - 1) aa
  refine bg [1,3,5,25,26,27,12] [3,1,0] rfl (bC (kn:=[(43,true)]) bn 5 rfl ⟨hb4,trivial⟩ (cG (n':=4) [45,46,44] [] rfl rfl (.inl ⟨(aR.yes rfl rfl rfl),dO (i:=(l.length) - 1) rfl rfl rfl fu gW (aV hx1)⟩) rfl (aF 6 rfl (bf [3,1,0] rfl (ae (aO rfl (fun hc5'=>?_) (fun hc5'=>?_)))))))
  ·
   refine ag 2 rfl (al (aj (cW (aq.nil 6 124 2 cm rfl) ?_)))
   have hX:ea p l x=(([]:List dh),2):=by
     unfold ea;rw [if_neg aa,if_neg (by have:=hi0_1 aa;omega),if_neg (by have:=hi0_2 aa;omega),if_pos (by rw [kE hx1,decide_eq_true_eq];omega)]
   cases hX.symm.trans hr;clear hX
   exact aS [4] 1 rfl
  refine aD (aw 4 rfl ?_)
  obtain ⟨r2,hr2⟩:∃ (r2:List dh),dP p l x.time=r2:=⟨_,rfl⟩
  refine ay 5 [4,3,1,0] (cA 4 (rr p l x.time (by first|assumption|omega|(have q1:=nL (hr2.trans aa);have q2:=uses1 (x:=x) (by simp_all);omega)) hJ r2 hr2) Gx rfl) rfl (ad 1 rfl (ae (ag 3 rfl (af (aw 1 rfl (az (dn rfl rfl rfl rfl rfl fu) rfl (ad 1 rfl (ae (aL (cb (β:=Nat) (fun (k:Nat)=>⟨[(1,(aC (eF l))),(3,(aC (.p 0 0 0 0))),(5,(aC (.p 1 0 0 0))),(25,(aC (.s 3 0 1 2))),(26,(aI 2)),(27,(aI (↑q:Int))),(13,(aC (.s 4 0 2 r2.length))),(14,(aI (x.sum+iu ((r2).take k)))),(61,(aC (.s 4 0 2 r2.length))),(62,(aI (↑r2.length:Int))),(63,(aI (↑k:Int)))],[(4,(nP r2)),(3,(.arr 61 1 (([l,[x]]).map xJ))),(1,(.box 124 [(cI x.time),(cI x.sum)])),(0,(.box 60 [(cI p.cw),(cI p.count),(cI p.sum)]))],5⟩) (fun (k:Nat)=>k<=(r2).length) (fun (k:Nat)=>(r2).length - k) 0 ?_ ?_ ?_))))))))))
  ·exact aa
  ·exact aq.rz id (by refine ⟨?_,?_,?_,?_,?_,?_,?_,?_,?_,?_,?_,trivial⟩<;>first|rfl|(simp only [fQ];done)|(congr 3;omega)|(congr 4;omega)|(simp only [fR];rfl)|((rw [List.take_zero,iu,Int.add_zero];rfl)))
  rintro k hi1_0
  have hsb:=tc (p:=p) (l:=l) (t:=x.time) (k:=k) (hi0_1 aa)
  rw [hr2] at hsb
  have hrl:(r2).length<=30:=by rw [<-hr2];exact Nat.le_trans (jw _ _) (hru (hi0_1 aa))
  refine ag 1 rfl (af (aO rfl (fun hc6'=>?_) (fun hc6'=>?_)))
  ·
   refine aD (af (aL (dq (az (cU (i:=k) rfl rfl rfl fu gW) rfl ?_))))
   obtain ⟨x2,hx2⟩:=bO (xs:=r2) (i:=k) aa
   have hx2v:=(iO (hi0_1 aa)).2 x2 (kx (hr2.symm▸List.mem_of_getElem? hx2:x2∈dP p l x.time))
   refine az (dk rfl rfl rfl uG rfl gW (aV hx2) rfl) rfl (ad 2 rfl (ae (ah (ad 3 rfl (bl rfl rfl rfl rfl aa (ad 1 rfl (bq (aN (then_ok (ah (bl rfl rfl rfl rfl aa (ad 1 rfl (ae (⟨k+1,by first|omega|trivial,bT,aq.rz id (by refine ⟨?_,?_,?_,?_,?_,?_,?_,?_,?_,?_,?_,trivial⟩<;>first|rfl|(simp only [fQ];done)|(congr 3;omega)|(congr 4;omega)|(simp only [fR];rfl)|(first|(rw [gh hx2,gT,<-Int.add_assoc];rfl)|(rw [gh hx1,gT,<-Int.add_assoc];rfl)))⟩))))))))))))))
  refine bR (aE (aE (bw (then_ok (af (bQ 82 ((decide ((↑r2.length:Int)>=p.count))||(decide ((x.sum+iu ((r2).take k)) > p.sum))) ?_ ?_))))))
  ·
   refine ah (ad 1 rfl (az (dn rfl rfl rfl rfl rfl fu) rfl (ad 4 rfl (bz 77 rfl (fun hb7'=>?_) (fun hb7'=>?_)))))
   ·
    exact ad 5 rfl (ae (aq.pz 12 rfl))
   exact ad 5 rfl (ae (aq.pz 12 rfl))
  refine ax rfl (fun hc8=>?_) (fun hc8=>?_)
  ·
   have hc8':=hc8;try simp only [aT,bx] at hc8'
   refine ag 2 rfl (al (aj (cW (aq.nil 6 124 2 cm rfl) ?_)))
   have hX:ea p l x=(([]:List dh),11):=by
     have hlate:hZ l x.time=false:=by first|(rw [kE hx1];simp;omega)|(have:l=[]:=List.eq_nil_of_length_eq_zero aa;subst this;rfl)
     have hk:(r2).take k=r2:=List.take_of_length_le aa
     rw [hk] at hc8'
     unfold ea;rw [if_neg aa,if_neg (by have:=hi0_1 aa;omega),if_neg (by have:=hi0_2 aa;omega),if_neg (by rw [hlate];simp),hr2,if_pos aa]
   cases hX.symm.trans hr;clear hX
   exact aS [5] 1 rfl
  have hc8':=hc8;try simp only [aT,bx] at hc8'
  refine aD (aw 2 rfl (ay 6 [5,4,3,1,0] (dM (ys:=[(0,(.g [(cI x.time),(cI x.sum)]))]) (rows:=([x]).map iv) 5 mh rfl) rfl (ay 7 [6,5,3,1,0] (dU (m:=1) (N:=r2.length+1) (k2:=6) (ys:=([x]).map iv) mh rfl rfl rfl rfl dv) rfl (ad 2 rfl (ae (al ?_))))))
  have hX:ea p l x=(r2++([x]),0):=by
    have hlate:hZ l x.time=false:=by first|(rw [kE hx1];simp;omega)|(have:l=[]:=List.eq_nil_of_length_eq_zero aa;subst this;rfl)
    have hk:(r2).take k=r2:=List.take_of_length_le aa
    rw [hk] at hc8'
    unfold ea;rw [if_neg aa,if_neg (by have:=hi0_1 aa;omega),if_neg (by have:=hi0_2 aa;omega),if_neg (by rw [hlate];simp),hr2,if_neg aa]
  cases hX.symm.trans hr;clear hX
  exact aS [6] 1 rfl
 have hb4':=of_decide_eq_false hb4
 refine bg [1,3,5,25,26,27,12] [3,1,0] rfl (bC (kn:=[(43,false)]) bn 12 rfl ⟨hb4,trivial⟩ (bf [3,1,0] rfl (ae (ax rfl (fun hno=>by cases hno) (fun _=>?_)))))
 refine aD (aw 4 rfl ?_)
 obtain ⟨r3,hr3⟩:∃ (r3:List dh),dP p l x.time=r3:=⟨_,rfl⟩
 refine ay 5 [4,3,1,0] (cA 4 (rr p l x.time (by first|assumption|omega|(have q1:=nL (hr2.trans aa);have q2:=uses1 (x:=x) (by simp_all);omega)) hJ r3 hr3) Gx rfl) rfl (ad 1 rfl (ae (ag 3 rfl (af (aw 1 rfl (az (dn rfl rfl rfl rfl rfl fu) rfl (ad 1 rfl (ae (aL (cb (β:=Nat) (fun (k:Nat)=>⟨[(1,(aC (eF l))),(3,(aC (.p 0 0 0 0))),(5,(aC (.p 1 0 0 0))),(25,(aC (.s 3 0 1 2))),(26,(aI 2)),(27,(aI (↑q:Int))),(13,(aC (.s 4 0 2 r3.length))),(14,(aI (x.sum+iu ((r3).take k)))),(61,(aC (.s 4 0 2 r3.length))),(62,(aI (↑r3.length:Int))),(63,(aI (↑k:Int)))],[(4,(nP r3)),(3,(.arr 61 1 (([l,[x]]).map xJ))),(1,(.box 124 [(cI x.time),(cI x.sum)])),(0,(.box 60 [(cI p.cw),(cI p.count),(cI p.sum)]))],5⟩) (fun (k:Nat)=>k<=(r3).length) (fun (k:Nat)=>(r3).length - k) 0 ?_ ?_ ?_))))))))))
 ·exact aa
 ·exact aq.rz id (by refine ⟨?_,?_,?_,?_,?_,?_,?_,?_,?_,?_,?_,trivial⟩<;>first|rfl|(simp only [fQ];done)|(congr 3;omega)|(congr 4;omega)|(simp only [fR];rfl)|((rw [List.take_zero,iu,Int.add_zero];rfl)))
 rintro k hi1_0
 have hsb:=tc (p:=p) (l:=l) (t:=x.time) (k:=k) (hi0_1 aa)
 rw [hr3] at hsb
 have hrl:(r3).length<=30:=by rw [<-hr3];exact Nat.le_trans (jw _ _) (hru (hi0_1 aa))
 refine ag 1 rfl (af (aO rfl (fun hc10'=>?_) (fun hc10'=>?_)))
 ·
  refine aD (af (aL (dq (az (cU (i:=k) rfl rfl rfl fu gW) rfl ?_))))
  obtain ⟨x1,hx1⟩:=bO (xs:=r3) (i:=k) aa
  have hx1v:=(iO (hi0_1 aa)).2 x1 (kx (hr3.symm▸List.mem_of_getElem? hx1:x1∈dP p l x.time))
  refine az (dk rfl rfl rfl uG rfl gW (aV hx1) rfl) rfl (ad 2 rfl (ae (ah (ad 3 rfl (bl rfl rfl rfl rfl aa (ad 1 rfl (bq (aN (then_ok (ah (bl rfl rfl rfl rfl aa (ad 1 rfl (ae (⟨k+1,by first|omega|trivial,bT,aq.rz id (by refine ⟨?_,?_,?_,?_,?_,?_,?_,?_,?_,?_,?_,trivial⟩<;>first|rfl|(simp only [fQ];done)|(congr 3;omega)|(congr 4;omega)|(simp only [fR];rfl)|(first|(rw [gh hx2,gT,<-Int.add_assoc];rfl)|(rw [gh hx1,gT,<-Int.add_assoc];rfl)))⟩))))))))))))))
 refine bR (aE (aE (bw (then_ok (af (bQ 82 ((decide ((↑r3.length:Int)>=p.count))||(decide ((x.sum+iu ((r3).take k)) > p.sum))) ?_ ?_))))))
 ·
  refine ah (ad 1 rfl (az (dn rfl rfl rfl rfl rfl fu) rfl (ad 4 rfl (bz 77 rfl (fun hb11'=>?_) (fun hb11'=>?_)))))
  ·
   exact ad 5 rfl (ae (aq.pz 12 rfl))
  exact ad 5 rfl (ae (aq.pz 12 rfl))
 refine ax rfl (fun hc12=>?_) (fun hc12=>?_)
 ·
  have hc12':=hc12;try simp only [aT,bx] at hc12'
  refine ag 2 rfl (al (aj (cW (aq.nil 6 124 2 cm rfl) ?_)))
  have hX:ea p l x=(([]:List dh),11):=by
    have hlate:hZ l x.time=false:=by first|(rw [kE hx1];simp;omega)|(have:l=[]:=List.eq_nil_of_length_eq_zero aa;subst this;rfl)
    have hk:(r3).take k=r3:=List.take_of_length_le aa
    rw [hk] at hc12'
    unfold ea;rw [if_neg aa,if_neg (by have:=hi0_1 aa;omega),if_neg (by have:=hi0_2 aa;omega),if_neg (by rw [hlate];simp),hr3,if_pos aa]
  cases hX.symm.trans hr;clear hX
  exact aS [5] 1 rfl
 have hc12':=hc12;try simp only [aT,bx] at hc12'
 refine aD (aw 2 rfl (ay 6 [5,4,3,1,0] (dM (ys:=[(0,(.g [(cI x.time),(cI x.sum)]))]) (rows:=([x]).map iv) 5 mh rfl) rfl (ay 7 [6,5,3,1,0] (dU (m:=1) (N:=r3.length+1) (k2:=6) (ys:=([x]).map iv) mh rfl rfl rfl rfl dv) rfl (ad 2 rfl (ae (al ?_))))))
 have hX:ea p l x=(r3++([x]),0):=by
   have hlate:hZ l x.time=false:=by first|(rw [kE hx1];simp;omega)|(have:l=[]:=List.eq_nil_of_length_eq_zero aa;subst this;rfl)
   have hk:(r3).take k=r3:=List.take_of_length_le aa
   rw [hk] at hc12'
   unfold ea;rw [if_neg aa,if_neg (by have:=hi0_1 aa;omega),if_neg (by have:=hi0_2 aa;omega),if_neg (by rw [hlate];simp),hr3,if_neg aa]
 cases hX.symm.trans hr;clear hX
 exact aS [6] 1 rfl

theorem zw (p : ff) (l : List dh) (x : dh) (r : List dh) (e : Int) (hr : ea p l x = (r, e)) : Fn Tryz.prog 79 [(.g [(cI p.cw), (cI p.count), (cI p.sum)]), (.c (eF l)), (.g [(cI x.time), (cI x.sum)])] (.t [(.c (.s 0 0 2 r.length)), (.c (cI e))]) [(0, (nP r))] := by
 refine Fn.mk' 81 [(0, (aG [(cI p.cw), (cI p.count), (cI p.sum)])), (1, (aC (eF l))), (2, (aG [(cI x.time), (cI x.sum)]))] Tryz.func79 rfl rfl rfl rfl ?_
 intro W0 T0
 refine dE 1 rfl (fun hlen1 => ?_)
 have hrp := @nL p
 have hru : (fj l).err = 0 → l.length ≤ 30 := fun h => (iO h).1
 have hrx : (fj [x]).err = 0 → 0 ≤ x.time ∧ x.time ≤ 1000000 ∧ 0 ≤ x.sum ∧ x.sum ≤ 1000000 := fun h => (@iO [x] h).2 x ca
 refine ag 4 rfl (af (aw 1 rfl ?_))
 obtain ⟨e0, hr0⟩ : ∃ (e0 : Int), gd p = e0 := ⟨_, rfl⟩
 refine ay 2 [1, 0] (cA 2 (mr p  e0 hr0) FF rfl) rfl (ad 1 rfl (ae (ag 2 rfl (ax rfl (fun hc1 => ?_) (fun hc1 => ?_)))))
 ·
  have hc1' := of_decide_eq_true hc1
  refine ag 3 rfl (al (aj (cW (aq.nil 6 124 2 cm rfl) ?_)))
  have hX : ea p l x = (([] : List dh), e0) := by
    unfold ea; rw [if_pos aa, hr0]
  rw [hX] at hr; clear hX
  simp only [Prod.mk.injEq] at hr; obtain ⟨rfl, rfl⟩ := hr
  refine ct bn [2] 1 rfl rfl rfl rfl rfl rfl ?_ ?_
  all_goals first | rfl | (simp [cq]; done) | (simp [cq]; omega)
 ·
  have hc1' := of_decide_eq_false hc1
  refine aD (af (aw 1 rfl ?_))
  obtain ⟨f1, hr1⟩ : ∃ (f1 : cM), fj l = f1 := ⟨_, rfl⟩
  have hq1 : (fj l).err = f1.err := by rw [hr1]
  refine ay 2 [1, 0] (cA 2 (mq l  f1 hr1) FC rfl) rfl (ad 2 rfl (ae (ag 3 rfl (ax rfl (fun hc2 => ?_) (fun hc2 => ?_)))))
  ·
   have hc2' := of_decide_eq_true hc2
   refine af (bg [1, 3, 5, 9] [2, 1, 0] rfl (bC (kn := []) bn 4 rfl trivial (bf [2, 1, 0] rfl (ae (al (aj (cW (aq.nil 6 124 2 cm rfl) ?_)))))))
   have hX : ea p l x = (([] : List dh), f1.err) := by
     unfold ea; rw [if_neg aa, if_pos (by rw [hr1]; omega), hr1]
   rw [hX] at hr; clear hX
   simp only [Prod.mk.injEq] at hr; obtain ⟨rfl, rfl⟩ := hr
   refine ct bn [3] 1 rfl rfl rfl rfl rfl rfl ?_ ?_
   all_goals first | rfl | (simp [cq]; done) | (simp [cq]; omega)
  ·
   have hc2' := of_decide_eq_false hc2
   refine aD (af (aw 1 rfl (ay 4 [3, 2, 1, 0] (dM (ys := [(0, (.g [(cI x.time), (cI x.sum)]))]) (rows := ([x]).map iv) 3 mh rfl) rfl ?_)))
   obtain ⟨f2, hr2⟩ : ∃ (f2 : cM), fj ([x]) = f2 := ⟨_, rfl⟩
   have hq2 : (fj ([x])).err = f2.err := by rw [hr2]
   refine ay 4 [3, 2, 1, 0] (kH 4 [3] (mq ([x])  f2 hr2) FC ⟨rfl, rfl,  trivial⟩ trivial rfl) rfl (ad 2 rfl (ae (ag 3 rfl (ax rfl (fun hc3 => ?_) (fun hc3 => ?_)))))
   ·
    have hc3' := of_decide_eq_true hc3
    refine af (bg [1, 3, 5, 10] [4, 1, 0] rfl (bC (kn := []) bn 4 rfl trivial (bf [4, 1, 0] rfl (ae (al (aj (cW (aq.nil 6 124 2 cm rfl) ?_)))))))
    have hX : ea p l x = (([] : List dh), f2.err) := by
      unfold ea; rw [if_neg aa, if_neg (by rw [hr1]; omega), if_pos (by rw [hr2]; omega), hr2]
    rw [hX] at hr; clear hX
    simp only [Prod.mk.injEq] at hr; obtain ⟨rfl, rfl⟩ := hr
    refine ct bn [5] 1 rfl rfl rfl rfl rfl rfl ?_ ?_
    all_goals first | rfl | (simp [cq]; done) | (simp [cq]; omega)
   ·
    have hc3' := of_decide_eq_false hc3
    refine aD (af (af ?_))
    rcases Bool.eq_false_or_eq_true (decide ((↑l.length : Int) > 0)) with hb4 | hb4
    ·
     have hb4' := of_decide_eq_true hb4
     obtain ⟨x1, hx1⟩ := bO (xs := l) (i := (l.length) - 1) bT
     refine bg [1, 3, 5] [1, 0] rfl (bC (kn := []) bn 1 rfl trivial (cG (n' := 5) [35] [] rfl rfl (.inl ⟨(aR.plain rfl), cD rfl rfl fu⟩) rfl (bC (kn := [(37, true)]) bn 4 rfl ⟨hb4, trivial⟩ (cG (n' := 5) [40, 38] [] rfl rfl (.inl ⟨(aR.yes rfl rfl rfl), cD rfl rfl fu⟩) rfl (cG (n' := 5) [41, 38] [] rfl rfl (.inl ⟨(aR.yes rfl rfl rfl), bm rfl rfl rfl (bH bT)⟩) rfl (cG (n' := 5) [39, 42, 38] [] rfl rfl (.inl ⟨(aR.yes rfl rfl rfl), mn (i := (l.length) - 1) rfl rfl rfl fu gW bT (aV hx1)⟩) rfl (bC (kn := []) bn 6 rfl trivial (bf [1, 0] rfl (ae (ax rfl (fun hc5 => ?_) (fun hc5 => ?_)))))))))))
     ·
      have hc5' := of_decide_eq_true hc5
      refine ag 2 rfl (al (aj (cW (aq.nil 6 124 2 cm rfl) ?_)))
      have hX : ea p l x = (([] : List dh), 2) := by
        unfold ea; rw [if_neg aa, if_neg (by rw [hr1]; omega), if_neg (by rw [hr2]; omega), if_pos (by rw [kE hx1, decide_eq_true_eq]; omega)]
      rw [hX] at hr; clear hX
      simp only [Prod.mk.injEq] at hr; obtain ⟨rfl, rfl⟩ := hr
      refine ct bn [5] 1 rfl rfl rfl rfl rfl rfl ?_ ?_
      all_goals first | rfl | (simp [cq]; done) | (simp [cq]; omega)
     ·
      have hc5' := of_decide_eq_false hc5
      refine aD (af ?_)
      obtain ⟨r3, hr3⟩ : ∃ (r3 : List dh), dP p l x.time = r3 := ⟨_, rfl⟩
      have hrl3 : r3.length ≤ l.length := by rw [← hr3]; exact jw _ _
      refine bg [1, 3, 5] [1, 0] rfl (bC (kn := []) bn 4 rfl trivial (cG (n' := 6) [50, 51, 53] [] rfl rfl (.inl ⟨(aR.plain rfl), cA 5 (sw p l x.time (by first | assumption | omega | (have q1 := nL (hr2.trans aa); have q2 := uses1 (x := x) (by simp_all); omega)) (by first | assumption | omega) r3 hr3) Gz rfl⟩) rfl (bC (kn := []) bn 1 rfl trivial (cG (n' := 7) [55] [] rfl rfl (.inl ⟨(aR.plain rfl), dM (ys := [(0, (.g [(cI x.time), (cI x.sum)]))]) (rows := ([x]).map iv) 6 mh rfl⟩) rfl (cG (n' := 8) [54, 56] [6, 5] rfl rfl (.inl ⟨(aR.plain rfl), dU (m := 1) (N := r3.length + 1) (k2 := 7) (ys := ([x]).map iv) mh rfl rfl rfl rfl dv⟩) rfl (bC (kn := []) bn 1 rfl trivial (bf [7, 1, 0] rfl (ae (ag 1 rfl (af (aw 1 rfl (az (dn rfl rfl rfl rfl rfl fu) rfl (ad 1 rfl (ae (aL (cb (β := Nat) (fun (k : Nat) => ⟨[(3, (aC (.p 0 0 0 0))), (11, (aC (.s 7 0 2 (r3.length + 1)))), (12, (aI (iu ((r3 ++ ([x])).take k)))), (58, (aC (.s 7 0 2 (r3.length + 1)))), (59, (aI (↑(r3.length + 1) : Int))), (60, (aI (↑k : Int)))], [(7, (nP (r3 ++ ([x])))), (0, (.box 60 [(cI p.cw), (cI p.count), (cI p.sum)]))], 8⟩) (fun (k : Nat) => k ≤ (r3 ++ ([x])).length) (fun (k : Nat) => (r3 ++ ([x])).length - k) 0 ?_ ?_ ?_))))))))))))))))
      · exact aa
      · exact aq.rz id (by refine ⟨?_, ?_, ?_, ?_, ?_, ?_,  trivial⟩ <;> first | rfl | (simp only [fQ]; done) | (congr 3; omega) | (congr 4; omega) | (simp only [fR]; rfl) | ((rw [List.take_zero, iu]; rfl)))
      ·
       rintro k hi0_0
       have hrl : (fj l).err = 0 := by rw [hr1]; omega
       have hrx1 : (fj [x]).err = 0 := by rw [hr2]; omega
       have hsb := rF (p := p) (k := k) hrl hrx1
       rw [hr3] at hsb
       have hrn : (r3).length ≤ 30 := by rw [← hr3]; exact Nat.le_trans (jw _ _) (hru hrl)
       refine ag 1 rfl (af (ax rfl (fun hc6 => ?_) (fun hc6 => ?_)))
       ·
        have hc6' := of_decide_eq_true hc6
        refine aD (af (aL (dq (az (mF (i := k) rfl rfl rfl fu gW bT bT) rfl ?_))))
        obtain ⟨x2, hx2⟩ := bO (xs := (r3 ++ ([x]))) (i := k) bT
        have hx2v : 0 ≤ x2.time ∧ x2.time ≤ 1000000 ∧ 0 ≤ x2.sum ∧ x2.sum ≤ 1000000 := by
          rcases List.mem_append.1 (List.mem_of_getElem? hx2) with hm | hm
          · exact (iO hrl).2 x2 (kx (hr3.symm ▸ hm : x2 ∈ dP p l x.time))
          · exact (iO hrx1).2 x2 hm
        refine az (dk rfl rfl rfl uG rfl gW (aV hx2) rfl) rfl (ad 2 rfl (ae (ah (ad 3 rfl (az (bm rfl rfl rfl (bH bT)) rfl (ad 1 rfl (bq (aN (then_ok (ah (az (bm rfl rfl rfl (bH bT)) rfl (ad 1 rfl (ae (⟨k + 1, by first | omega | (simp; omega), by first | omega | (simp; done) | (simp; omega), aq.rz id (by refine ⟨?_, ?_, ?_, ?_, ?_, ?_,  trivial⟩ <;> first | rfl | (simp only [fQ]; done) | (congr 3; omega) | (congr 4; omega) | (simp only [fR]; rfl) | (first | (rw [gh hx2, gT]; rfl) | (rw [gh hx1, gT]; rfl)))⟩))))))))))))))
       ·
        have hc6' := of_decide_eq_false hc6
        refine bR (aE (aE (bw (then_ok (af (bQ 79 ((decide ((↑(r3.length + 1) : Int) > p.count)) || (decide ((iu ((r3 ++ ([x])).take k)) > p.sum))) ?_ ?_))))))
        ·
         refine ah (ad 1 rfl (az (dn rfl rfl rfl rfl rfl fu) rfl (ad 4 rfl (iz (t := 74) rfl (fun hb7 => ?_) (fun hb7 => ?_)))))
         ·
          have hb7' := of_decide_eq_true hb7
          exact ad 5 rfl (ae (aq.ng 12 rfl rfl (by first | (simp [hb7]; done) | (simp_all; done) | (exfalso; simp_all; done) | (simp_all; omega)) rfl))
         ·
          have hb7' := of_decide_eq_false hb7
          exact ad 5 rfl (ae (aq.ng 12 rfl rfl (by first | (simp [hb7]; done) | (simp_all; done) | (exfalso; simp_all; done) | (simp_all; omega)) rfl))
        ·
         refine ax rfl (fun hc8 => ?_) (fun hc8 => ?_)
         ·
          have hc8' := hc8; try simp only [aT, bx] at hc8'
          refine ag 2 rfl (al (aj (cW (aq.nil 6 124 2 cm rfl) ?_)))
          have hX : ea p l x = (([] : List dh), 11) := by
            have hlate : hZ l x.time = false := by first | (rw [kE hx1]; simp; omega) | (have : l = [] := List.eq_nil_of_length_eq_zero aa; subst this; rfl)
            have hk : (r3 ++ [x]).take k = r3 ++ [x] := List.take_of_length_le (by simp; omega)
            rw [hk, gT] at hc8'
            unfold ea; rw [if_neg aa, if_neg (by rw [hr1]; omega), if_neg (by rw [hr2]; omega), if_neg (by rw [hlate]; simp), hr3, if_pos aa]
          rw [hX] at hr; clear hX
          simp only [Prod.mk.injEq] at hr; obtain ⟨rfl, rfl⟩ := hr
          refine ct bn [8] 1 rfl rfl rfl rfl rfl rfl ?_ ?_
          all_goals first | rfl | (simp [cq]; done) | (simp [cq]; omega)
         ·
          have hc8' := hc8; try simp only [aT, bx] at hc8'
          refine aD (ag 3 rfl (al ?_))
          have hX : ea p l x = (r3 ++ ([x]), 0) := by
            have hlate : hZ l x.time = false := by first | (rw [kE hx1]; simp; omega) | (have : l = [] := List.eq_nil_of_length_eq_zero aa; subst this; rfl)
            have hk : (r3 ++ [x]).take k = r3 ++ [x] := List.take_of_length_le (by simp; omega)
            rw [hk, gT] at hc8'
            unfold ea; rw [if_neg aa, if_neg (by rw [hr1]; omega), if_neg (by rw [hr2]; omega), if_neg (by rw [hlate]; simp), hr3, if_neg aa]
          rw [hX] at hr; clear hX
          simp only [Prod.mk.injEq] at hr; obtain ⟨rfl, rfl⟩ := hr
          refine ct bn [7] 1 rfl rfl rfl rfl rfl rfl ?_ ?_
          all_goals first | rfl | (simp [cq]; done) | (simp [cq]; omega)
    ·
     have hb4' := of_decide_eq_false hb4
     refine bg [1, 3, 5, 6, 7] [1, 0] rfl (bC (kn := []) bn 1 rfl trivial (cG (n' := 5) [35] [] rfl rfl (.inl ⟨(aR.plain rfl), cD rfl rfl fu⟩) rfl (bC (kn := [(37, false)]) bn 13 rfl ⟨hb4, trivial⟩ (bf [1, 0] rfl (ae (ax rfl (fun hno => by cases hno) (fun _ => (aD (af ?_)))))))))
     obtain ⟨r4, hr4⟩ : ∃ (r4 : List dh), dP p l x.time = r4 := ⟨_, rfl⟩
     have hrl4 : r4.length ≤ l.length := by rw [← hr4]; exact jw _ _
     refine bg [1, 3, 5, 6, 7] [1, 0] rfl (bC (kn := []) bn 4 rfl trivial (cG (n' := 6) [50, 51, 53] [] rfl rfl (.inl ⟨(aR.plain rfl), cA 5 (sw p l x.time (by first | assumption | omega | (have q1 := nL (hr2.trans aa); have q2 := uses1 (x := x) (by simp_all); omega)) (by first | assumption | omega) r4 hr4) Gz rfl⟩) rfl (bC (kn := []) bn 1 rfl trivial (cG (n' := 7) [55] [] rfl rfl (.inl ⟨(aR.plain rfl), dM (ys := [(0, (.g [(cI x.time), (cI x.sum)]))]) (rows := ([x]).map iv) 6 mh rfl⟩) rfl (cG (n' := 8) [54, 56] [6, 5] rfl rfl (.inl ⟨(aR.plain rfl), dU (m := 1) (N := r4.length + 1) (k2 := 7) (ys := ([x]).map iv) mh rfl rfl rfl rfl dv⟩) rfl (bC (kn := []) bn 1 rfl trivial (bf [7, 1, 0] rfl (ae (ag 1 rfl (af (aw 1 rfl (az (dn rfl rfl rfl rfl rfl fu) rfl (ad 1 rfl (ae (aL (cb (β := Nat) (fun (k : Nat) => ⟨[(3, (aC (.p 0 0 0 0))), (6, (aC cN)), (7, (aI 0)), (11, (aC (.s 7 0 2 (r4.length + 1)))), (12, (aI (iu ((r4 ++ ([x])).take k)))), (58, (aC (.s 7 0 2 (r4.length + 1)))), (59, (aI (↑(r4.length + 1) : Int))), (60, (aI (↑k : Int)))], [(7, (nP (r4 ++ ([x])))), (0, (.box 60 [(cI p.cw), (cI p.count), (cI p.sum)]))], 8⟩) (fun (k : Nat) => k ≤ (r4 ++ ([x])).length) (fun (k : Nat) => (r4 ++ ([x])).length - k) 0 ?_ ?_ ?_))))))))))))))))
     · exact aa
     · exact aq.rz id (by refine ⟨?_, ?_, ?_, ?_, ?_, ?_, ?_, ?_,  trivial⟩ <;> first | rfl | (simp only [fQ]; done) | (congr 3; omega) | (congr 4; omega) | (simp only [fR]; rfl) | ((rw [List.take_zero, iu]; rfl)))
     ·
      rintro k hi0_0
      have hrl : (fj l).err = 0 := by rw [hr1]; omega
      have hrx1 : (fj [x]).err = 0 := by rw [hr2]; omega
      have hsb := rF (p := p) (k := k) hrl hrx1
      rw [hr4] at hsb
      have hrn : (r4).length ≤ 30 := by rw [← hr4]; exact Nat.le_trans (jw _ _) (hru hrl)
      refine ag 1 rfl (af (ax rfl (fun hc10 => ?_) (fun hc10 => ?_)))
      ·
       have hc10' := of_decide_eq_true hc10
       refine aD (af (aL (dq (az (mF (i := k) rfl rfl rfl fu gW bT bT) rfl ?_))))
       obtain ⟨x1, hx1⟩ := bO (xs := (r4 ++ ([x]))) (i := k) bT
       have hx1v : 0 ≤ x1.time ∧ x1.time ≤ 1000000 ∧ 0 ≤ x1.sum ∧ x1.sum ≤ 1000000 := by
         rcases List.mem_append.1 (List.mem_of_getElem? hx1) with hm | hm
         · exact (iO hrl).2 x1 (kx (hr4.symm ▸ hm : x1 ∈ dP p l x.time))
         · exact (iO hrx1).2 x1 hm
       refine az (dk rfl rfl rfl uG rfl gW (aV hx1) rfl) rfl (ad 2 rfl (ae (ah (ad 3 rfl (az (bm rfl rfl rfl (bH bT)) rfl (ad 1 rfl (bq (aN (then_ok (ah (az (bm rfl rfl rfl (bH bT)) rfl (ad 1 rfl (ae (⟨k + 1, by first | omega | (simp; omega), by first | omega | (simp; done) | (simp; omega), aq.rz id (by refine ⟨?_, ?_, ?_, ?_, ?_, ?_, ?_, ?_,  trivial⟩ <;> first | rfl | (simp only [fQ]; done) | (congr 3; omega) | (congr 4; omega) | (simp only [fR]; rfl) | (first | (rw [gh hx2, gT]; rfl) | (rw [gh hx1, gT]; rfl)))⟩))))))))))))))
      ·
       have hc10' := of_decide_eq_false hc10
       refine bR (aE (aE (bw (then_ok (af (bQ 79 ((decide ((↑(r4.length + 1) : Int) > p.count)) || (decide ((iu ((r4 ++ ([x])).take k)) > p.sum))) ?_ ?_))))))
       ·
        refine ah (ad 1 rfl (az (dn rfl rfl rfl rfl rfl fu) rfl (ad 4 rfl (iz (t := 74) rfl (fun hb11 => ?_) (fun hb11 => ?_)))))
        ·
         have hb11' := of_decide_eq_true hb11
         exact ad 5 rfl (ae (aq.ng 12 rfl rfl (by first | (simp [hb11]; done) | (simp_all; done) | (exfalso; simp_all; done) | (simp_all; omega)) rfl))
        ·
         have hb11' := of_decide_eq_false hb11
         exact ad 5 rfl (ae (aq.ng 12 rfl rfl (by first | (simp [hb11]; done) | (simp_all; done) | (exfalso; simp_all; done) | (simp_all; omega)) rfl))
       ·
        refine ax rfl (fun hc12 => ?_) (fun hc12 => ?_)
        ·
         have hc12' := hc12; try simp only [aT, bx] at hc12'
         refine ag 2 rfl (al (aj (cW (aq.nil 6 124 2 cm rfl) ?_)))
         have hX : ea p l x = (([] : List dh), 11) := by
           have hlate : hZ l x.time = false := by first | (rw [kE hx1]; simp; omega) | (have : l = [] := List.eq_nil_of_length_eq_zero aa; subst this; rfl)
           have hk : (r4 ++ [x]).take k = r4 ++ [x] := List.take_of_length_le (by simp; omega)
           rw [hk, gT] at hc12'
           unfold ea; rw [if_neg aa, if_neg (by rw [hr1]; omega), if_neg (by rw [hr2]; omega), if_neg (by rw [hlate]; simp), hr4, if_pos aa]
         rw [hX] at hr; clear hX
         simp only [Prod.mk.injEq] at hr; obtain ⟨rfl, rfl⟩ := hr
         refine ct bn [8] 1 rfl rfl rfl rfl rfl rfl ?_ ?_
         all_goals first | rfl | (simp [cq]; done) | (simp [cq]; omega)
        ·
         have hc12' := hc12; try simp only [aT, bx] at hc12'
         refine aD (ag 3 rfl (al ?_))
         have hX : ea p l x = (r4 ++ ([x]), 0) := by
           have hlate : hZ l x.time = false := by first | (rw [kE hx1]; simp; omega) | (have : l = [] := List.eq_nil_of_length_eq_zero aa; subst this; rfl)
           have hk : (r4 ++ [x]).take k = r4 ++ [x] := List.take_of_length_le (by simp; omega)
           rw [hk, gT] at hc12'
           unfold ea; rw [if_neg aa, if_neg (by rw [hr1]; omega), if_neg (by rw [hr2]; omega), if_neg (by rw [hlate]; simp), hr4, if_neg aa]
         rw [hX] at hr; clear hX
         simp only [Prod.mk.injEq] at hr; obtain ⟨rfl, rfl⟩ := hr
         refine ct bn [7] 1 rfl rfl rfl rfl rfl rfl ?_ ?_
         all_goals first | rfl | (simp [cq]; done) | (simp [cq]; omega)

theorem mP (c:bF) (e:Int) (hr:df c=e):Fn Tryz.prog 92 [(.g [(cI c.bB),(cI c.held),(cI c.bJ.cw),(cI c.bJ.count),(cI c.bJ.sum),(eF c.cO)])] (.v (.c (cI e))) []:=by
 refine Fn.mk' 32 [(0,(aG [(cI c.bB),(cI c.held),(cI c.bJ.cw),(cI c.bJ.count),(cI c.bJ.sum),(eF c.cO)]))] Tryz.func92 rfl rfl rfl rfl ?_
 intro W0 T0
 refine ck 0 5 rfl rfl (fun hlen0_5=>?_)
 refine ag 2 rfl (af (bQ 21 ((((decide (c.bB < (-1000000000000)))||(decide (c.bB > 1000000000000)))||(decide (c.held < 0)))||(decide (c.held > 1000000000000))) ?_ ?_))
 ·
  refine ah (ad 4 rfl (bz 7 rfl (fun hb1'=>?_) (fun hb1'=>?_)))
  ·
   exact ad 14 rfl (ae (aq.pz 19 rfl))
  refine ad 5 rfl (bz 12 rfl (fun hb2'=>?_) (fun hb2'=>?_))
  ·
   exact ad 9 rfl (ae (aq.pz 20 rfl))
  refine ad 5 rfl (bz 17 rfl (fun hb3'=>?_) (fun hb3'=>?_))
  ·
   exact ad 4 rfl (ae (aq.pz 21 rfl))
  exact ad 4 rfl (ae (aq.pz 21 rfl))
 refine ax rfl (fun hc4=>?_) (fun hc4=>?_)
 ·
  have hc4':=hc4;try simp only [aT,bx] at hc4'
  refine ag 1 rfl (al (aj ?_))
  have hX:df c=3:=by
    unfold df;rw [if_pos aa]
  rw [hX] at hr;clear hX
  subst hr
  exact aS [] 0 rfl
 have hc4':=hc4;try simp only [aT,bx] at hc4'
 refine aD (af (aw 2 rfl ?_))
 obtain ⟨e0,hr0⟩:∃ (e0:Int),gd c.bJ=e0:=⟨_,rfl⟩
 refine ay 1 [0] (cA 1 (od c.bJ e0 hr0) FG rfl) rfl (ad 1 rfl (ae (ag 2 rfl (aO rfl (fun hc5'=>?_) (fun hc5'=>?_)))))
 ·
  refine ag 2 rfl (al (aj ?_))
  have hX:df c=e0:=by
    unfold df;rw [if_neg aa,if_pos aa,hr0]
  rw [hX] at hr;clear hX
  subst hr
  exact aS [] 0 rfl
 refine aD (aw 2 rfl ?_)
 obtain ⟨f1,hr1⟩:∃ (f1:cM),fj c.cO=f1:=⟨_,rfl⟩
 refine ay 1 [0] (cA 1 (sy c.cO f1 hr1) Gy rfl) rfl (az (yY rfl rfl Tryz.underlying47 rfl Tryz.underlying45 rfl rfl) rfl (ad 1 rfl (ae (al ?_))))
 have hX:df c=f1.err:=by
   unfold df;rw [if_neg aa,if_neg aa,hr1]
 rw [hX] at hr;clear hX
 subst hr
 exact aS [] 0 rfl
theorem mN (c:bF) (e:Int) (hr:df c=e):Fn Tryz.prog 51 [(.g [(cI c.bB),(cI c.held),(cI c.bJ.cw),(cI c.bJ.count),(cI c.bJ.sum),(eF c.cO)])] (.v (.c (cI e))) []:=by
 refine Fn.mk' 32 [(0,(aG [(cI c.bB),(cI c.held),(cI c.bJ.cw),(cI c.bJ.count),(cI c.bJ.sum),(eF c.cO)]))] Tryz.func51 rfl rfl rfl rfl ?_
 intro W0 T0
 refine ck 0 5 rfl rfl (fun hlen0_5=>?_)
 refine ag 2 rfl (af (bQ 21 ((((decide (c.bB > 1000000000000))||(decide (c.bB < (-1000000000000))))||(decide (c.held < 0)))||(decide (c.held > 1000000000000))) ?_ ?_))
 ·
  refine ah (ad 4 rfl (bz 7 rfl (fun hb1'=>?_) (fun hb1'=>?_)))
  ·
   exact ad 14 rfl (ae (aq.pz 19 rfl))
  refine ad 5 rfl (bz 12 rfl (fun hb2'=>?_) (fun hb2'=>?_))
  ·
   exact ad 9 rfl (ae (aq.pz 20 rfl))
  refine ad 5 rfl (bz 17 rfl (fun hb3'=>?_) (fun hb3'=>?_))
  ·
   exact ad 4 rfl (ae (aq.pz 21 rfl))
  exact ad 4 rfl (ae (aq.pz 21 rfl))
 refine ax rfl (fun hc4=>?_) (fun hc4=>?_)
 ·
  have hc4':=hc4;try simp only [aT,bx] at hc4'
  refine ag 1 rfl (al (aj ?_))
  have hX:df c=3:=by
    unfold df;rw [if_pos aa]
  rw [hX] at hr;clear hX
  subst hr
  exact aS [] 0 rfl
 have hc4':=hc4;try simp only [aT,bx] at hc4'
 refine aD (af (aw 2 rfl ?_))
 obtain ⟨e0,hr0⟩:∃ (e0:Int),gd c.bJ=e0:=⟨_,rfl⟩
 refine ay 1 [0] (cA 1 (mr c.bJ e0 hr0) FF rfl) rfl (ad 1 rfl (ae (ag 2 rfl (aO rfl (fun hc5'=>?_) (fun hc5'=>?_)))))
 ·
  refine ag 2 rfl (al (aj ?_))
  have hX:df c=e0:=by
    unfold df;rw [if_neg aa,if_pos aa,hr0]
  rw [hX] at hr;clear hX
  subst hr
  exact aS [] 0 rfl
 refine aD (aw 2 rfl ?_)
 obtain ⟨f1,hr1⟩:∃ (f1:cM),fj c.cO=f1:=⟨_,rfl⟩
 refine ay 1 [0] (cA 1 (mq c.cO f1 hr1) FC rfl) rfl (az (yY rfl rfl Tryz.underlying47 rfl Tryz.underlying45 rfl rfl) rfl (ad 1 rfl (ae (al ?_))))
 have hX:df c=f1.err:=by
   unfold df;rw [if_neg aa,if_neg aa,hr1]
 rw [hX] at hr;clear hX
 subst hr
 exact aS [] 0 rfl
theorem tu (c:bF) (hb:-9223372036854775808<=c.bB - c.held/\c.bB - c.held<=9223372036854775807):Fn Tryz.prog 63 [(.g [(cI c.bB),(cI c.held),(cI c.bJ.cw),(cI c.bJ.count),(cI c.bJ.sum),(eF c.cO)])] (aI (c.bB - c.held)) []:=by
 refine Fn.mk' 8 [(0,(aG [(cI c.bB),(cI c.held),(cI c.bJ.cw),(cI c.bJ.count),(cI c.bJ.sum),(eF c.cO)]))] Tryz.func63 rfl rfl rfl rfl ?_
 intro W0 T0
 refine ck 0 5 rfl rfl (fun hlen0_5=>?_)
 obtain ⟨hb1,hb2⟩:=hb
 exact ag 2 rfl (aw 4 rfl (bl rfl rfl rfl rfl aa (ad 1 rfl (ae (al (aS [] 0 rfl))))))
theorem vv (c:bF) (hl:c.cO.length<=1048576):Fn Tryz.prog 102 [(.g [(cI c.bB),(cI c.held),(cI c.bJ.cw),(cI c.bJ.count),(cI c.bJ.sum),(eF c.cO)])] (.v (.g [cI c.bB,cI c.held,cI c.bJ.cw,cI c.bJ.count,cI c.bJ.sum,.s 0 0 2 c.cO.length])) [(0,.arr 124 2 (c.cO.map iv))]:=by
 refine Fn.mk' 8 [(0,(aG [(cI c.bB),(cI c.held),(cI c.bJ.cw),(cI c.bJ.count),(cI c.bJ.sum),(eF c.cO)]))] Tryz.func102 rfl rfl rfl rfl ?_
 intro W0 T0
 refine ck 0 5 rfl rfl (fun hlen0_5=>?_)
 exact ag 2 rfl (aw 2 rfl (ay 3 [2,1,0] (cA 2 (tx c.cO aa) Gw rfl) rfl (ad 2 rfl (ae (ag 2 rfl (al (aS [2,1] 1 rfl)))))))

theorem zC (c:bF) (n time:Int) (x:bF) (e:Int) (hr:eh c n time=(x,e)):Fn Tryz.prog 60 [(.g [(cI c.bB),(cI c.held),(cI c.bJ.cw),(cI c.bJ.count),(cI c.bJ.sum),(eF c.cO)]),(.c (cI n)),(.c (cI time))] (.t [(.g [(cI x.bB),(cI x.held),(cI x.bJ.cw),(cI x.bJ.count),(cI x.bJ.sum),(.s 0 0 2 x.cO.length)]),(.c (cI e))]) [(0,(nP x.cO))]:=by
 refine Fn.mk' 60 [(0,(aG [(cI c.bB),(cI c.held),(cI c.bJ.cw),(cI c.bJ.count),(cI c.bJ.sum),(eF c.cO)])),(1,(aI n)),(2,(aI time))] Tryz.func60 rfl rfl rfl rfl ?_
 intro W0 T0
 refine ck 0 5 rfl rfl (fun hlen0_5=>?_)
 have hrc:=@jB c
 have hrl:=@lk c
 refine ag 3 rfl (af (aw 1 rfl ?_))
 obtain ⟨e0,hr0⟩:∃ (e0:Int),df c=e0:=⟨_,rfl⟩
 refine ay 2 [1,0] (cA 2 (mP c e0 hr0) Cn rfl) rfl (ad 1 rfl (ae (ag 2 rfl (aO rfl (fun hc1'=>?_) (fun hc1'=>?_)))))
 ·
  refine ag 4 rfl (al (aj (cc 1 5 124 2 rfl rfl rfl ?_)))
  have hX:eh c n time=((⟨0,0,(⟨0,0,0⟩:ff),([]:List dh)⟩:bF),e0):=by
    unfold eh;rw [if_pos aa,hr0];rfl
  cases hX.symm.trans hr;clear hX
  exact aS [2,1] 1 rfl
 refine aD (af (bQ 30 ((((decide (n < 1))||(decide (n > 1000000)))||(decide (time < 0)))||(decide (time > 1000000))) ?_ ?_))
 ·
  refine ah (ad 3 rfl (bz 19 rfl (fun hb2'=>?_) (fun hb2'=>?_)))
  ·
   exact ad 11 rfl (ae (aq.pz 15 rfl))
  refine ad 4 rfl (bz 23 rfl (fun hb3'=>?_) (fun hb3'=>?_))
  ·
   exact ad 7 rfl (ae (aq.pz 16 rfl))
  refine ad 4 rfl (bz 27 rfl (fun hb4'=>?_) (fun hb4'=>?_))
  ·
   exact ad 3 rfl (ae (aq.pz 17 rfl))
  exact ad 3 rfl (ae (aq.pz 17 rfl))
 refine ax rfl (fun hc5=>?_) (fun hc5=>?_)
 ·
  have hc5':=hc5;try simp only [aT,bx] at hc5'
  refine ag 3 rfl (al (aj (cc 1 5 124 2 rfl rfl rfl ?_)))
  have hX:eh c n time=((⟨0,0,(⟨0,0,0⟩:ff),([]:List dh)⟩:bF),3):=by
    unfold eh;rw [if_neg aa,if_pos aa];rfl
  cases hX.symm.trans hr;clear hX
  exact aS [2,1] 1 rfl
 have hc5':=hc5;try simp only [aT,bx] at hc5'
 refine aD (af (aw 2 rfl (ay 2 [1,0] (cA 2 (tu c (by first|assumption|omega|(constructor<;>decide)|(have hz:=jB hJ;omega))) IK rfl) rfl (ad 1 rfl (ae (aO rfl (fun hc6'=>?_) (fun hc6'=>?_)))))))
 ·
  refine ag 3 rfl (al (aj (cc 1 5 124 2 rfl rfl rfl ?_)))
  have hX:eh c n time=((⟨0,0,(⟨0,0,0⟩:ff),([]:List dh)⟩:bF),10):=by
    unfold eh;rw [if_neg aa,if_neg aa,if_pos aa];rfl
  cases hX.symm.trans hr;clear hX
  exact aS [2,1] 1 rfl
 refine aD (aw 7 rfl ?_)
 obtain ⟨r1,e1,hr1⟩:∃ (r1:List dh) (e1:Int),ea c.bJ c.cO (⟨time,n⟩:dh)=(r1,e1):=⟨_,_,rfl⟩
 refine ay 3 [2,1,0] (cA 2 (CG c.bJ c.cO (⟨time,n⟩:dh) r1 e1 hr1) KZ rfl) rfl (ad 5 rfl (ae (af (ag 2 rfl (aO rfl (fun hc7'=>?_) (fun hc7'=>?_))))))
 ·
  refine ag 4 rfl (al (aj (cc 1 5 124 2 rfl rfl rfl ?_)))
  have hX:eh c n time=((⟨0,0,(⟨0,0,0⟩:ff),([]:List dh)⟩:bF),e1):=by
    have ha:=hr1
    unfold eh;rw [if_neg aa,if_neg aa,if_neg aa,if_pos (by rw [ha];dsimp only;omega),ha];rfl
  cases hX.symm.trans hr;clear hX
  exact aS [3,1] 1 rfl
 refine aD (ag 3 rfl (aw 3 rfl (bl rfl rfl rfl rfl aa (ad 2 rfl (ae (ag 3 rfl (al ?_)))))))
 have hX:eh c n time=((⟨c.bB,c.held+n,c.bJ,r1⟩:bF),0):=by
   have ha:=hr1
   unfold eh;rw [if_neg aa,if_neg aa,if_neg aa,if_neg (by rw [ha];dsimp only;omega),ha]
 cases hX.symm.trans hr;clear hX
 exact aS [2,1] 1 rfl
theorem Ao (c:bF) (n time:Int) (x:bF) (e:Int) (hr:eh c n time=(x,e)):Fn Tryz.prog 44 [(.g [(cI c.bB),(cI c.held),(cI c.bJ.cw),(cI c.bJ.count),(cI c.bJ.sum),(eF c.cO)]),(.c (cI n)),(.c (cI time))] (.t [(.g [(cI x.bB),(cI x.held),(cI x.bJ.cw),(cI x.bJ.count),(cI x.bJ.sum),(.s 0 0 2 x.cO.length)]),(.c (cI e))]) [(0,(nP x.cO))]:=by
 refine Fn.mk' 63 [(0,(aG [(cI c.bB),(cI c.held),(cI c.bJ.cw),(cI c.bJ.count),(cI c.bJ.sum),(eF c.cO)])),(1,(aI n)),(2,(aI time))] Tryz.func44 rfl rfl rfl rfl ?_
 intro W0 T0
 refine ck 0 5 rfl rfl (fun hlen0_5=>?_)
 have hrc:=@jB c
 have hrl:=@lk c
 refine ag 3 rfl (af (aw 1 rfl ?_))
 obtain ⟨e0,hr0⟩:∃ (e0:Int),df c=e0:=⟨_,rfl⟩
 refine ay 2 [1,0] (cA 2 (mN c e0 hr0) FE rfl) rfl (ad 1 rfl (ae (ag 2 rfl (aO rfl (fun hc1'=>?_) (fun hc1'=>?_)))))
 ·
  refine ag 4 rfl (al (aj (cc 1 5 124 2 rfl rfl rfl ?_)))
  have hX:eh c n time=((⟨0,0,(⟨0,0,0⟩:ff),([]:List dh)⟩:bF),e0):=by
    unfold eh;rw [if_pos aa,hr0];rfl
  cases hX.symm.trans hr;clear hX
  exact aS [2,1] 1 rfl
 refine aD (af (bQ 30 ((((decide (n < 1))||(decide (n > 1000000)))||(decide (time < 0)))||(decide (time > 1000000))) ?_ ?_))
 ·
  refine ah (ad 3 rfl (bz 19 rfl (fun hb2'=>?_) (fun hb2'=>?_)))
  ·
   exact ad 11 rfl (ae (aq.pz 15 rfl))
  refine ad 4 rfl (bz 23 rfl (fun hb3'=>?_) (fun hb3'=>?_))
  ·
   exact ad 7 rfl (ae (aq.pz 16 rfl))
  refine ad 4 rfl (bz 27 rfl (fun hb4'=>?_) (fun hb4'=>?_))
  ·
   exact ad 3 rfl (ae (aq.pz 17 rfl))
  exact ad 3 rfl (ae (aq.pz 17 rfl))
 refine ax rfl (fun hc5=>?_) (fun hc5=>?_)
 ·
  have hc5':=hc5;try simp only [aT,bx] at hc5'
  refine ag 3 rfl (al (aj (cc 1 5 124 2 rfl rfl rfl ?_)))
  have hX:eh c n time=((⟨0,0,(⟨0,0,0⟩:ff),([]:List dh)⟩:bF),3):=by
    unfold eh;rw [if_neg aa,if_pos aa];rfl
  cases hX.symm.trans hr;clear hX
  exact aS [2,1] 1 rfl
 have hc5':=hc5;try simp only [aT,bx] at hc5'
 refine aD (af (aw 3 rfl (bl rfl rfl rfl rfl aa (ad 3 rfl (ae (aO rfl (fun hc6'=>?_) (fun hc6'=>?_)))))))
 ·
  refine ag 3 rfl (al (aj (cc 1 5 124 2 rfl rfl rfl ?_)))
  have hX:eh c n time=((⟨0,0,(⟨0,0,0⟩:ff),([]:List dh)⟩:bF),10):=by
    unfold eh;rw [if_neg aa,if_neg aa,if_pos aa];rfl
  cases hX.symm.trans hr;clear hX
  exact aS [2,1] 1 rfl
 refine aD (aw 7 rfl ?_)
 obtain ⟨r1,e1,hr1⟩:∃ (r1:List dh) (e1:Int),ea c.bJ c.cO (⟨time,n⟩:dh)=(r1,e1):=⟨_,_,rfl⟩
 refine ay 3 [2,1,0] (cA 2 (zw c.bJ c.cO (⟨time,n⟩:dh) r1 e1 hr1) Le rfl) rfl (ad 5 rfl (ae (af (ag 2 rfl (aO rfl (fun hc7'=>?_) (fun hc7'=>?_))))))
 ·
  refine ag 4 rfl (al (aj (cc 1 5 124 2 rfl rfl rfl ?_)))
  have hX:eh c n time=((⟨0,0,(⟨0,0,0⟩:ff),([]:List dh)⟩:bF),e1):=by
    have ha:=hr1
    unfold eh;rw [if_neg aa,if_neg aa,if_neg aa,if_pos (by rw [ha];dsimp only;omega),ha];rfl
  cases hX.symm.trans hr;clear hX
  exact aS [3,1] 1 rfl
 refine aD (aw 3 rfl (bl rfl rfl rfl rfl aa (ad 5 rfl (ae (ag 3 rfl (al ?_))))))
 have hX:eh c n time=((⟨c.bB,c.held+n,c.bJ,r1⟩:bF),0):=by
   have ha:=hr1
   unfold eh;rw [if_neg aa,if_neg aa,if_neg aa,if_neg (by rw [ha];dsimp only;omega),ha]
 cases hX.symm.trans hr;clear hX
 exact aS [2,1] 1 rfl
theorem zB (c:bF) (n:Int) (x:bF) (e:Int) (hr:eB c n=(x,e)):Fn Tryz.prog 73 [(.g [(cI c.bB),(cI c.held),(cI c.bJ.cw),(cI c.bJ.count),(cI c.bJ.sum),(eF c.cO)]),(.c (cI n))] (.t [(.g [(cI x.bB),(cI x.held),(cI x.bJ.cw),(cI x.bJ.count),(cI x.bJ.sum),(.s 0 0 2 x.cO.length)]),(.c (cI e))]) [(0,(nP x.cO))]:=by
 refine Fn.mk' 35 [(0,(aG [(cI c.bB),(cI c.held),(cI c.bJ.cw),(cI c.bJ.count),(cI c.bJ.sum),(eF c.cO)])),(1,(aI n))] Tryz.func73 rfl rfl rfl rfl ?_
 intro W0 T0
 refine ck 0 5 rfl rfl (fun hlen0_5=>?_)
 have hrc:=@jB c
 have hrl:=@lk c
 refine ag 3 rfl (af (aw 1 rfl ?_))
 obtain ⟨e0,hr0⟩:∃ (e0:Int),df c=e0:=⟨_,rfl⟩
 refine ay 2 [1,0] (cA 2 (mP c e0 hr0) Cn rfl) rfl (ad 1 rfl (ae (ag 2 rfl (aO rfl (fun hc1'=>?_) (fun hc1'=>?_)))))
 ·
  refine ag 4 rfl (al (aj (cc 1 5 124 2 rfl rfl rfl ?_)))
  have hX:eB c n=((⟨0,0,(⟨0,0,0⟩:ff),([]:List dh)⟩:bF),e0):=by
    unfold eB;rw [if_pos aa,hr0];rfl
  cases hX.symm.trans hr;clear hX
  exact aS [2,1] 1 rfl
 refine aD (af (bQ 25 (((decide (n < 1))||(decide (n > 1000000)))||(decide (n > (1000000000000 - c.held)))) ?_ ?_))
 ·
  refine ah (ad 3 rfl (bz 15 rfl (fun hb2'=>?_) (fun hb2'=>?_)))
  ·
   exact ad 10 rfl (ae (aq.pz 14 rfl))
  refine ad 4 rfl (bz 19 rfl (fun hb3'=>?_) (fun hb3'=>?_))
  ·
   exact ad 6 rfl (ae (aq.pz 15 rfl))
  exact ad 3 rfl (dg (aR.yes rfl rfl rfl) (bm rfl rfl rfl (bH aa)) rfl rfl (ad 2 rfl (ae (aq.pz 15 rfl))))
 refine ax rfl (fun hc4=>?_) (fun hc4=>?_)
 ·
  have hc4':=hc4;try simp only [aT,bx] at hc4'
  refine ag 3 rfl (al (aj (cc 1 5 124 2 rfl rfl rfl ?_)))
  have hX:eB c n=((⟨0,0,(⟨0,0,0⟩:ff),([]:List dh)⟩:bF),3):=by
    unfold eB;rw [if_neg aa,if_pos aa];rfl
  cases hX.symm.trans hr;clear hX
  exact aS [2,1] 1 rfl
 have hc4':=hc4;try simp only [aT,bx] at hc4'
 refine aD (aw 1 rfl (ay 3 [2,1,0] (cA 2 (vv c hJ) GB rfl) rfl (ad 1 rfl (ae (aw 3 rfl (bl rfl rfl rfl rfl aa (ad 2 rfl (ae (ag 3 rfl (al ?_))))))))))
 have hX:eB c n=((⟨c.bB,c.held+n,c.bJ,c.cO⟩:bF),0):=by
   unfold eB;rw [if_neg aa,if_neg aa]
 cases hX.symm.trans hr;clear hX
 exact aS [2,1] 1 rfl
theorem Am (c:bF) (n:Int) (x:bF) (e:Int) (hr:eB c n=(x,e)):Fn Tryz.prog 29 [(.g [(cI c.bB),(cI c.held),(cI c.bJ.cw),(cI c.bJ.count),(cI c.bJ.sum),(eF c.cO)]),(.c (cI n))] (.t [(.g [(cI x.bB),(cI x.held),(cI x.bJ.cw),(cI x.bJ.count),(cI x.bJ.sum),(eF x.cO)]),(.c (cI e))]) []:=by
 refine Fn.mk' 33 [(0,(aG [(cI c.bB),(cI c.held),(cI c.bJ.cw),(cI c.bJ.count),(cI c.bJ.sum),(eF c.cO)])),(1,(aI n))] Tryz.func29 rfl rfl rfl rfl ?_
 intro W0 T0
 refine ck 0 5 rfl rfl (fun hlen0_5=>?_)
 have hrc:=@jB c
 have hrl:=@lk c
 refine ag 3 rfl (af (aw 1 rfl ?_))
 obtain ⟨e0,hr0⟩:∃ (e0:Int),df c=e0:=⟨_,rfl⟩
 refine ay 2 [1,0] (cA 2 (mN c e0 hr0) FE rfl) rfl (ad 1 rfl (ae (ag 2 rfl (aO rfl (fun hc1'=>?_) (fun hc1'=>?_)))))
 ·
  refine ag 4 rfl (al (aj (cZ 1 5 2 rfl rfl rfl ?_)))
  have hX:eB c n=((⟨0,0,(⟨0,0,0⟩:ff),[]⟩:bF),e0):=by
    unfold eB;rw [if_pos aa,hr0];rfl
  cases hX.symm.trans hr;clear hX
  exact aS [1] 0 rfl
 refine aD (af (bQ 25 (((decide (n < 1))||(decide (n > 1000000)))||(decide ((c.held+n) > 1000000000000))) ?_ ?_))
 ·
  refine ah (ad 3 rfl (bz 15 rfl (fun hb2'=>?_) (fun hb2'=>?_)))
  ·
   exact ad 10 rfl (ae (aq.pz 14 rfl))
  refine ad 4 rfl (bz 19 rfl (fun hb3'=>?_) (fun hb3'=>?_))
  ·
   exact ad 6 rfl (ae (aq.pz 15 rfl))
  exact ad 3 rfl (dg (aR.yes rfl rfl rfl) (bm rfl rfl rfl (bH aa)) rfl rfl (ad 2 rfl (ae (aq.pz 15 rfl))))
 refine ax rfl (fun hc4=>?_) (fun hc4=>?_)
 ·
  have hc4':=hc4;try simp only [aT,bx] at hc4'
  refine ag 3 rfl (al (aj (cZ 1 5 2 rfl rfl rfl ?_)))
  have hX:eB c n=((⟨0,0,(⟨0,0,0⟩:ff),[]⟩:bF),3):=by
    unfold eB;rw [if_neg aa,if_pos aa];rfl
  cases hX.symm.trans hr;clear hX
  exact aS [1] 0 rfl
 have hc4':=hc4;try simp only [aT,bx] at hc4'
 refine aD (aw 3 rfl (bl rfl rfl rfl rfl aa (ad 2 rfl (ae (ag 3 rfl (al ?_))))))
 have hX:eB c n=((⟨c.bB,c.held+n,c.bJ,c.cO⟩:bF),0):=by
   unfold eB;rw [if_neg aa,if_neg aa]
 cases hX.symm.trans hr;clear hX
 exact aS [1] 0 rfl

theorem xN (n:Int):Fn Tryz.prog 75 [(.c (cI n))] (aB (nw n)) []:=by
 refine Fn.mk' 9 [(0,(aI n))] Tryz.func75 rfl rfl rfl rfl ?_
 intro W0 T0
 refine ag 1 rfl (bQ 2 ((decide (n > 1000000000000))||(decide (n < (-1000000000000)))) ?_ ?_)
 ·
  refine ah (ad 3 rfl (bz 5 rfl (fun hb1'=>?_) (fun hb1'=>?_)))
  ·
   exact ad 4 rfl (ae (aq.pz 8 rfl))
  exact ad 4 rfl (ae (aq.pz 8 rfl))
 exact al (aS [] 0 rfl)
theorem zA (c:bF) (held bB:Int) (x:bF) (e:Int) (hr:eg c held bB=(x,e)):Fn Tryz.prog 87 [(.g [(cI c.bB),(cI c.held),(cI c.bJ.cw),(cI c.bJ.count),(cI c.bJ.sum),(eF c.cO)]),(.c (cI held)),(.c (cI bB))] (.t [(.g [(cI x.bB),(cI x.held),(cI x.bJ.cw),(cI x.bJ.count),(cI x.bJ.sum),(.s 0 0 2 x.cO.length)]),(.c (cI e))]) [(0,(nP x.cO))]:=by
 refine Fn.mk' 52 [(0,(aG [(cI c.bB),(cI c.held),(cI c.bJ.cw),(cI c.bJ.count),(cI c.bJ.sum),(eF c.cO)])),(1,(aI held)),(2,(aI bB))] Tryz.func87 rfl rfl rfl rfl ?_
 intro W0 T0
 refine ck 0 5 rfl rfl (fun hlen0_5=>?_)
 have hrc:=@jB c
 have hrl:=@lk c
 refine ag 3 rfl (af (aw 1 rfl ?_))
 obtain ⟨e0,hr0⟩:∃ (e0:Int),df c=e0:=⟨_,rfl⟩
 refine ay 2 [1,0] (cA 2 (mP c e0 hr0) Cn rfl) rfl (ad 1 rfl (ae (ag 2 rfl (aO rfl (fun hc1'=>?_) (fun hc1'=>?_)))))
 ·
  refine ag 4 rfl (al (aj (cc 1 5 124 2 rfl rfl rfl ?_)))
  have hX:eg c held bB=((⟨0,0,(⟨0,0,0⟩:ff),([]:List dh)⟩:bF),e0):=by
    unfold eg;rw [if_pos aa,hr0];rfl
  cases hX.symm.trans hr;clear hX
  exact aS [2,1] 1 rfl
 refine aD (af (aw 2 rfl (ay 3 [2,1,0] (dM (ys:=[(0,(.c (cI held))),(1,(.c (cI bB)))]) (rows:=([held,bB]).map rI) 2 lF rfl) rfl (az (dn rfl rfl rfl rfl rfl ed) rfl (ad 1 rfl (ae (aL (cb (β:=Nat) (fun (q:Nat)=>⟨[(1,(aI held)),(2,(aI bB)),(3,(aC (.p 0 0 0 0))),(6,(aC (.p 1 0 0 0))),(20,(aC (.s 2 0 1 2))),(21,(aI 2)),(22,(aI (↑q:Int)))],[(2,(dR ([held,bB]))),(1,(.box 63 [(cI 0),(cI 0),(cI 0),(cI 0),(cI 0),cN])),(0,(.box 63 [(cI c.bB),(cI c.held),(cI c.bJ.cw),(cI c.bJ.count),(cI c.bJ.sum),(eF c.cO)]))],3⟩) (fun (q:Nat)=>q<=2/\(0 < q->-1000000000000<=held/\held<=1000000000000)/\(1 < q->-1000000000000<=bB/\bB<=1000000000000)) (fun (q:Nat)=>2 - q) 0 ?_ ?_ ?_))))))))
 ·exact ⟨aa,aa,aa⟩
 ·exact aq.rz id
 rintro q ⟨hi0_0,hi0_1,hi0_2⟩
 refine ag 1 rfl (af (aO rfl (fun hc2'=>?_) (fun hc2'=>?_)))
 ·
  refine aD (af (aL (dq (az (cU (i:=q) rfl rfl rfl ed eu) rfl ?_))))
  obtain ⟨x1,hx1⟩:=bO (xs:=([held,bB]:List Int)) (i:=q) bT
  have hx1v:=Ig hx1
  refine az (dY rfl rfl rfl eA rfl (aV hx1) rfl) rfl (ad 1 rfl (ae (bQ 31 ((decide (x1 < (-1000000000000)))||(decide (x1 > 1000000000000))) ?_ ?_)))
  ·
   refine ah (ad 3 rfl (bz 28 rfl (fun hb3'=>?_) (fun hb3'=>?_)))
   ·
    exact ad 3 rfl (ae (aq.pz 7 rfl))
   exact ad 3 rfl (ae (aq.pz 7 rfl))
  refine ax rfl (fun hc4=>?_) (fun hc4=>?_)
  ·
   have hc4':=hc4;try simp only [aT,bx] at hc4'
   refine ag 3 rfl (al (aY (aj (aj (aY (aj (cc 1 5 124 2 rfl rfl rfl ?_)))))))
   have hX:eg c held bB=((⟨0,0,(⟨0,0,0⟩:ff),([]:List dh)⟩:bF),3):=by
     unfold eg;rw [if_neg aa,if_pos aa];rfl
   cases hX.symm.trans hr;clear hX
   exact aS [3,1] 1 rfl
  have hc4':=hc4;try simp only [aT,bx] at hc4'
  refine cv (aN (then_ok (ah (bl rfl rfl rfl rfl aa (ad 1 rfl (ae (⟨q+1,⟨aa,aa,aa⟩,bT,aq.rz id⟩)))))))
 refine bR (aE (aE (bw (then_ok (aw 1 rfl (ay 4 [3,2,1,0] (cA 3 (vv c hJ) GB rfl) rfl (ad 1 rfl (ae (aw 3 rfl (bl rfl rfl rfl rfl aa (ad 2 rfl (ae (aw 3 rfl (bl rfl rfl rfl rfl aa (ad 2 rfl (ae (af (aw 1 rfl ?_))))))))))))))))))
 obtain ⟨e1,hr1⟩:∃ (e1:Int),df (⟨c.bB+bB,c.held+held,c.bJ,c.cO⟩:bF)=e1:=⟨_,rfl⟩
 refine ay 4 [3,2,1,0] (kH 4 [3] (mP (⟨c.bB+bB,c.held+held,c.bJ,c.cO⟩:bF) e1 hr1) Cn rfl trivial rfl) rfl (ad 1 rfl (ae (ag 2 rfl (aO rfl (fun hc5'=>?_) (fun hc5'=>?_)))))
 ·
  refine ag 3 rfl (al (aj (cc 1 5 124 2 rfl rfl rfl ?_)))
  have hX:eg c held bB=((⟨0,0,(⟨0,0,0⟩:ff),([]:List dh)⟩:bF),10):=by
    unfold eg;rw [if_neg aa,if_neg aa,if_pos (by first|omega|(intro hz;have hy:=jB hz;dsimp only at hy;omega))];rfl
  cases hX.symm.trans hr;clear hX
  exact aS [4,1] 1 rfl
 refine aD (ag 3 rfl (al ?_))
 have hX:eg c held bB=((⟨c.bB+bB,c.held+held,c.bJ,c.cO⟩:bF),0):=by
   unfold eg;rw [if_neg aa,if_neg aa,if_neg (by first|omega|(have hz:=oJ (c:=⟨c.bB+bB,c.held+held,c.bJ,c.cO⟩) (by dsimp only;omega) (hrc aa).2.2.2.2.1 (hrc aa).2.2.2.2.2;omega))]
 cases hX.symm.trans hr;clear hX
 exact aS [3,1] 1 rfl
theorem Al (c:bF) (held bB:Int) (x:bF) (e:Int) (hr:eg c held bB=(x,e)):Fn Tryz.prog 41 [(.g [(cI c.bB),(cI c.held),(cI c.bJ.cw),(cI c.bJ.count),(cI c.bJ.sum),(eF c.cO)]),(.c (cI held)),(.c (cI bB))] (.t [(.g [(cI x.bB),(cI x.held),(cI x.bJ.cw),(cI x.bJ.count),(cI x.bJ.sum),(eF x.cO)]),(.c (cI e))]) []:=by
 refine Fn.mk' 52 [(0,(aG [(cI c.bB),(cI c.held),(cI c.bJ.cw),(cI c.bJ.count),(cI c.bJ.sum),(eF c.cO)])),(1,(aI held)),(2,(aI bB))] Tryz.func41 rfl rfl rfl rfl ?_
 intro W0 T0
 refine ck 0 5 rfl rfl (fun hlen0_5=>?_)
 have hrc:=@jB c
 have hrl:=@lk c
 refine ag 3 rfl (af (aw 1 rfl ?_))
 obtain ⟨e0,hr0⟩:∃ (e0:Int),df c=e0:=⟨_,rfl⟩
 refine ay 2 [1,0] (cA 2 (mN c e0 hr0) FE rfl) rfl (ad 1 rfl (ae (ag 2 rfl (aO rfl (fun hc1'=>?_) (fun hc1'=>?_)))))
 ·
  refine ag 4 rfl (al (aj (cZ 1 5 2 rfl rfl rfl ?_)))
  have hX:eg c held bB=((⟨0,0,(⟨0,0,0⟩:ff),[]⟩:bF),e0):=by
    unfold eg;rw [if_pos aa,hr0];rfl
  cases hX.symm.trans hr;clear hX
  exact aS [1] 0 rfl
 refine aD (ag 1 rfl (af (bQ 23 ((nw held)||(nw bB)) ?_ ?_)))
 ·
  refine ah (ad 2 rfl (ay 2 [1,0] (mo 2 [] (ins:=[(.c (cI held))]) (bu:=[]) (xN held) Cp rfl rfl rfl (.fn trivial) ⟨⟨_,rfl,.c (.d _)⟩,trivial⟩ rfl trivial rfl rfl rfl rfl) rfl (ad 1 rfl (iz (t:=19) rfl (fun hb2=>?_) (fun hb2=>?_)))))
  ·
   have hb2':=hb2;try simp only [nw,aT,bx] at hb2'
   exact ad 4 rfl (ae (aq.pz 9 rfl))
  have hb2':=hb2;try simp only [nw,aT,bx] at hb2'
  exact ad 2 rfl (kb 2 [1,0] (aR.yes rfl rfl rfl) (mo 2 [] (ins:=[(.c (cI bB))]) (bu:=[]) (xN bB) Cp rfl rfl rfl (.fn trivial) ⟨⟨_,rfl,.c (.d _)⟩,trivial⟩ rfl trivial rfl rfl rfl rfl) rfl (ad 1 rfl (ae (aq.pz 9 rfl))))
 refine ax rfl (fun hc3=>?_) (fun hc3=>?_)
 ·
  have hc3':=hc3;try simp only [nw,aT,bx] at hc3'
  refine ag 3 rfl (al (aj (cZ 1 5 2 rfl rfl rfl ?_)))
  have hX:eg c held bB=((⟨0,0,(⟨0,0,0⟩:ff),[]⟩:bF),3):=by
    unfold eg;rw [if_neg aa,if_pos aa];rfl
  cases hX.symm.trans hr;clear hX
  exact aS [1] 0 rfl
 have hc3':=hc3;try simp only [nw,aT,bx] at hc3'
 refine aD (aw 3 rfl (bl rfl rfl rfl rfl aa (ad 3 rfl (bl rfl rfl rfl rfl aa (ad 4 rfl (ae (af (bQ 49 (((decide ((c.held+held) < 0))||(nw (c.held+held)))||(nw (c.bB+bB))) ?_ ?_))))))))
 ·
  refine ah (ad 4 rfl (bz 38 rfl (fun hb4'=>?_) (fun hb4'=>?_)))
  ·
   exact ad 11 rfl (ae (aq.pz 16 rfl))
  refine ad 3 rfl (kb 2 [1,0] (aR.yes rfl rfl rfl) (mo 2 [] (ins:=[(.c (cI (c.held+held)))]) (bu:=[]) (xN (c.held+held)) Cp rfl rfl rfl (.fn trivial) ⟨⟨_,rfl,.c (.d _)⟩,trivial⟩ rfl trivial rfl rfl rfl rfl) rfl (ad 2 rfl (iz (t:=44) rfl (fun hb5=>?_) (fun hb5=>?_))))
  ·
   have hb5':=hb5;try simp only [nw,aT,bx] at hb5'
   exact ad 5 rfl (ae (aq.pz 17 rfl))
  have hb5':=hb5;try simp only [nw,aT,bx] at hb5'
  exact ad 3 rfl (kb 2 [1,0] (aR.yes rfl rfl rfl) (mo 2 [] (ins:=[(.c (cI (c.bB+bB)))]) (bu:=[]) (xN (c.bB+bB)) Cp rfl rfl rfl (.fn trivial) ⟨⟨_,rfl,.c (.d _)⟩,trivial⟩ rfl trivial rfl rfl rfl rfl) rfl (ad 1 rfl (ae (aq.pz 17 rfl))))
 refine ax rfl (fun hc6=>?_) (fun hc6=>?_)
 ·
  have hc6':=hc6;try simp only [nw,aT,bx] at hc6'
  refine ag 3 rfl (al (aj (cZ 1 5 2 rfl rfl rfl ?_)))
  have hX:eg c held bB=((⟨0,0,(⟨0,0,0⟩:ff),[]⟩:bF),10):=by
    unfold eg;rw [if_neg aa,if_neg aa,if_pos (by first|omega|(intro hz;have hy:=jB hz;dsimp only at hy;omega))];rfl
  cases hX.symm.trans hr;clear hX
  exact aS [1] 0 rfl
 have hc6':=hc6;try simp only [nw,aT,bx] at hc6'
 refine aD (ag 3 rfl (al ?_))
 have hX:eg c held bB=((⟨c.bB+bB,c.held+held,c.bJ,c.cO⟩:bF),0):=by
   unfold eg;rw [if_neg aa,if_neg aa,if_neg (by first|omega|(have hz:=oJ (c:=⟨c.bB+bB,c.held+held,c.bJ,c.cO⟩) (by dsimp only;omega) (hrc aa).2.2.2.2.1 (hrc aa).2.2.2.2.2;omega))]
 cases hX.symm.trans hr;clear hX
 exact aS [1] 0 rfl

theorem uw (l:List aZ) (fn:FuncId) (bu:List (List D)) (pr:aZ->Bool) (hp:∀ x:aZ,Fn Tryz.prog fn ([.g [cI x.number,cI x.kind,cI x.ba,cI x.sum]]++bu.map fun r=>GV.c (.q r 0)) (aB (pr x)) []) (hen:bc Tryz.prog fn) (r:Int) (hr:jU pr l=r):Fn Tryz.prog 112 [(.c (bX l)),(.c (.d (.f fn bu)))] (.v (.c (cI r))) []:=by
 refine Fn.mk' 19 [(0,(aC (bX l))),(1,(aC (.d (.f fn bu))))] Tryz.func112 rfl rfl rfl rfl ?_
 intro W0 T0
 refine dE 0 rfl (fun hlen0=>?_)
 refine ag 1 rfl (af (aw 1 rfl (az (cD rfl rfl gK) rfl (ad 1 rfl (ae (aL (cb (β:=Nat) (fun (q:Nat)=>⟨[(0,(aC (bX l))),(1,(aC (.d (.f fn bu)))),(7,(aI (↑l.length:Int))),(8,(aI (↑q:Int)))],[],0⟩) (fun (q:Nat)=>q<=l.length/\(l.take q).all (fun y=>!pr y)=true) (fun (q:Nat)=>l.length - q) 0 ?_ ?_ ?_)))))))
 ·exact ⟨aa,ca⟩
 ·exact aq.rz id
 rintro q ⟨hi0_0,hi0_1⟩
 refine ag 1 rfl (af (aO rfl (fun hc1'=>?_) (fun hc1'=>?_)))
 ·
  refine aD (af (aL (ag 2 rfl (aw 3 rfl ?_))))
  obtain ⟨x1,hx1⟩:=bO (xs:=l) (i:=q) aa
  refine az (dO (i:=q) rfl rfl rfl gK kS (aV hx1)) rfl (ad 1 rfl (az (kl 0 (hp x1) hen rfl rfl rfl ⟨⟨_,rfl,.g ⟨.d _,.d _,.d _,.d _,trivial⟩⟩,trivial⟩ trivial trivial rfl rfl rfl rfl) rfl (ae (ax rfl (fun hc2=>?_) (fun hc2=>?_)))))
  ·
   have hc2':=hc2;try simp only [aT,bx] at hc2'
   refine ag 2 rfl (al (aY (aj (aj (aY (aj ?_))))))
   have hX:jU pr l=(↑q:Int):=by
     exact wY hi0_1 hx1 hc2
   rw [hX] at hr;clear hX
   subst hr
   exact aS [] 0 rfl
  have hc2':=hc2;try simp only [aT,bx] at hc2'
  refine cv (aN (then_ok (ah (bl rfl rfl rfl rfl aa (ad 1 rfl (ae (⟨q+1,⟨aa,zQ hi0_1 hx1 hc2⟩,bT,aq.rz id⟩)))))))
 refine bR (aE (aE (bw (then_ok (ag 1 rfl (al ?_))))))
 have hX:jU pr l=(-1):=by
   exact yN (by rw [<-List.take_of_length_le (l:=l) (i:=q) aa];exact hi0_1)
 rw [hX] at hr;clear hX
 subst hr
 exact aS [] 0 rfl
theorem tb (l:List aZ) (fn:FuncId) (bu:List (List D)) (pr:aZ->Bool) (hp:∀ x:aZ,Fn Tryz.prog fn ([.g [cI x.number,cI x.kind,cI x.ba,cI x.sum]]++bu.map fun r=>GV.c (.q r 0)) (aB (pr x)) []) (hen:bc Tryz.prog fn) (r:List aZ) (hr:ez pr l=r):cS Tryz.prog 99 [(.c (.s 0 0 4 l.length)),(.c (.d (.f fn bu)))] [(0,(vF l))] [] (.v (.c (.s 0 0 4 r.length))) [(0,(vF r))]:=by
 refine cS.mk 42 [(0,(aC (.s 0 0 4 l.length))),(1,(aC (.d (.f fn bu))))] 1 Tryz.func99 rfl rfl rfl rfl rfl rfl rfl rfl rfl ?_
 intro W0 F0 T0 pg
 refine jx 0 rfl (fun hlen0=>?_)
 have hic:=wZ pr l
 have hib:jU pr l<=l.length/\-1<=jU pr l:=by rcases hic with ⟨h,_⟩|⟨i,h,h1,_⟩<;>omega
 refine ag 1 rfl (aw 2 rfl ?_)
 obtain ⟨r0,hr0⟩:∃ (r0:Int),jU pr l=r0:=⟨_,rfl⟩
 refine ay 1 [0] (kH 1 [0] (uw l fn bu pr hp hen r0 hr0) Kc rfl trivial rfl) rfl (ad 1 rfl (ae (af (ag 2 rfl (aO rfl (fun hc1'=>?_) (fun hc1'=>?_))))))
 ·
  refine ag 2 rfl (al (aj ?_))
  have hX:ez pr l=l:=by
    rcases hic with ⟨_,h⟩|⟨i0,h,_⟩
    ·exact h
    ·exfalso;omega
  rw [hX] at hr;clear hX
  subst hr
  exact aS [0] 1 rfl
 refine aD (af (aw 1 rfl (bl rfl rfl rfl rfl aa (ad 1 rfl (ae (aL ?_))))))
 obtain ⟨i0,hi0,hil,x0,hx0,hp0,hk0⟩:∃ i:Nat,jU pr l=i/\i < l.length/\∃ x,l[i]?=some x/\pr x=true/\ez pr (l.take i)=l.take i:=by
     rcases hic with ⟨h,_⟩|h
     ·exfalso;omega
     ·exact h
 obtain rfl:r0=(i0:Int):=aa
 refine cb (β:=Nat×Nat×List aZ) (fun (p:Nat×Nat×List aZ)=>match p with|(j,i,c)=>⟨[(0,(aC (.s 0 0 4 l.length))),(1,(aC (.d (.f fn bu)))),(4,(aC cN)),(5,(aI (↑i:Int))),(6,(aI (↑j:Int)))],[(0,(vF c))],1⟩) (fun (p:Nat×Nat×List aZ)=>match p with|(j,i,c)=>om pr l c i j) (fun (p:Nat×Nat×List aZ)=>match p with|(j,i,c)=>l.length - j) (i0+1,i0,l) ?_ ?_ ?_
 ·exact om.start hx0 hp0 hk0
 ·exact aq.rz id
 rintro ⟨j,i,c⟩ hd
 have hdl:=hd.len;have hdi:=hd.ij;have hdj:=hd.jl
 refine af (aw 2 rfl (az (dn rfl rfl rfl rfl rfl gK) rfl (ad 1 rfl (ae (aO rfl (fun hc2'=>?_) (fun hc2'=>?_))))))
 ·
  refine aD (af (aL (aw 2 rfl (az (cU (i:=j) rfl rfl rfl gK kS) rfl ?_))))
  obtain ⟨x1,hx1⟩:=bO (xs:=c) (i:=j) aa
  refine az (dk rfl rfl rfl EG rfl kS (aV hx1) rfl) rfl (ad 2 rfl (ae (aw 2 rfl (az (kl 2 (hp x1) hen rfl rfl rfl ⟨⟨_,rfl,.g ⟨.d _,.d _,.d _,.d _,trivial⟩⟩,trivial⟩ trivial trivial rfl rfl rfl rfl) rfl (ad 1 rfl (ae (ax rfl (fun hc3=>?_) (fun hc3=>?_))))))))
  ·
   have hc3':=hc3;try simp only [aT,bx] at hc3'
   refine aw 3 rfl (az (cU (i:=i) rfl rfl rfl gK kS) rfl ?_)
   obtain ⟨x2,hx2⟩:=bO (xs:=c) (i:=i) aa
   refine eP [1,0] (dK (ds:=[(dI x1.number),(dI x1.kind),(dI x1.ba),(dI x1.sum)]) rfl rfl rfl rfl rfl kS rfl (Nat.le_of_ble_eq_true rfl) (aV hx2) rfl (eE (x':=x1) rfl)) rfl (ae (ah (ad 1 rfl (bl rfl rfl rfl rfl aa (ad 1 rfl (bq (aN (then_ok (ah (ad 1 rfl (bl rfl rfl rfl rfl aa (ad 1 rfl (ae (⟨(j+1,(i)+1,(c).set i x1),hd.di hx1 (by simpa using hc3),bT,aq.rz id⟩))))))))))))))
  have hc3':=hc3;try simp only [aT,bx] at hc3'
  refine cv (aN (then_ok (ah (ad 1 rfl (bl rfl rfl rfl rfl aa (ad 1 rfl (ae (⟨(j+1,i,c),hd.skip hx1 (by simpa using hc3),bT,aq.rz id⟩))))))))
 refine bR (aE (aE (bw (then_ok (aw 2 rfl (az (iC (l:=i) (h:=l.length) rfl gK kS rfl (.inr ⟨_,rfl,rfl⟩) (.inl ⟨rfl,rfl⟩) aa aa aa rfl) rfl (eP [0] (vT (rows':=(c.take i).map fA) oV KK rfl rfl rfl rfl rfl rfl rfl rfl rfl (by simp [List.map_take])) rfl (ae (aw 2 rfl (az (iC (l:=0) (h:=i) rfl gK kS rfl (.inl ⟨rfl,rfl⟩) (.inr ⟨_,rfl,rfl⟩) aa aa aa rfl) rfl (ad 1 rfl (ae (al ?_)))))))))))))
 have hX:ez pr l=(c.take i):=by
   have hdone:=hd.done aa
   rw [<-hdone]
 rw [hX] at hr;clear hX
 subst hr
 exact aS [0] 1 rfl


theorem iU {s : bK} {t : aZ} (hI : ∀ t ∈ s.kept, fb t.number) (h : 0 ≤ s.bj ∧ s.bj ≤ 1000000) : ∀ u ∈ s.kept ++ [(⟨s.bj + 1, t.kind, t.ba, t.sum⟩ : aZ)], fb u.number := by
  intro u hu
  rcases List.mem_append.1 hu with hu | hu
  · exact hI u hu
  · have : u = ⟨s.bj + 1, t.kind, t.ba, t.sum⟩ := by simpa using hu
    subst this; unfold fb; dsimp only; omega
theorem ia {s x:bK} {seen e:Int} (hI:∀ t∈s.kept,fb t.number) (h:en s seen=(x,e)):∀ u∈x.kept,fb u.number:=by
  intro u hu
  rcases sZ h with ⟨_,rfl⟩|⟨_,_,_,_,rfl⟩
  ·simp [AZ] at hu
  ·exact hI u (kx hu)

theorem pe (s:bK) (hI:∀ t∈s.kept,fb t.number) (f:cM) (hr:cK s=f):Fn Tryz.prog 98 [(.g [(cI s.bj),(bX s.kept)])] (.v (.g [(cI f.err),(cI f.at_)])) []:=by
 refine Fn.mk' 79 [(0,(aG [(cI s.bj),(bX s.kept)]))] Tryz.func98 rfl rfl rfl rfl ?_
 intro W0 T0
 refine ck 0 1 rfl rfl (fun hlen0_1=>?_)
 refine ag 2 rfl (af (aw 2 rfl (az (cD rfl rfl gK) rfl (ad 1 rfl (ae (aO rfl (fun hc1'=>?_) (fun hc1'=>?_)))))))
 ·
  refine ag 2 rfl (al (aj ?_))
  have hX:cK s=(⟨5,0⟩:cM):=by
    unfold cK jy;rw [if_pos aa]
  rw [hX] at hr;clear hX
  subst hr
  exact aS [1] 0 rfl
 refine aD (af (bQ 20 ((decide (s.bj < (↑s.kept.length:Int)))||(decide (s.bj > 1000000))) ?_ ?_))
 ·
  refine ah (ad 4 rfl (az (cD rfl rfl gK) rfl (ad 2 rfl (bz 16 rfl (fun hb2'=>?_) (fun hb2'=>?_)))))
  ·
   exact ad 4 rfl (ae (aq.pz 12 rfl))
  exact ad 4 rfl (ae (aq.pz 12 rfl))
 refine ax rfl (fun hc3=>?_) (fun hc3=>?_)
 ·
  have hc3':=hc3;try simp only [aT,bx] at hc3'
  refine ag 2 rfl (al (aj ?_))
  have hX:cK s=(⟨3,0⟩:cM):=by
    unfold cK jy;rw [if_neg aa,if_pos aa]
  rw [hX] at hr;clear hX
  subst hr
  exact aS [1] 0 rfl
 have hc3':=hc3;try simp only [aT,bx] at hc3'
 refine aD (af (aw 2 rfl (az (cD rfl rfl gK) rfl (ad 1 rfl (ae (aL (cb (β:=Nat) (fun (q:Nat)=>⟨[(1,(aC (.p 0 0 0 0))),(2,(aC (.p 1 0 0 0))),(23,(aC (bX s.kept))),(24,(aI (↑s.kept.length:Int))),(25,(aI (↑q:Int)))],[(1,(.box 47 [(cI 0),(cI 0)])),(0,(.box 31 [(cI s.bj),(bX s.kept)]))],2⟩) (fun (q:Nat)=>q<=s.kept.length/\scan (lD s) 0 s.kept.length=scan (lD s) q (s.kept.length - q)) (fun (q:Nat)=>s.kept.length - q) 0 ?_ ?_ ?_)))))))
 ·exact ⟨aa,rfl⟩
 ·exact aq.rz id
 rintro q ⟨hi0_0,hi0_1⟩
 refine ag 1 rfl (af (aO rfl (fun hc4'=>?_) (fun hc4'=>?_)))
 ·
  refine aD (af (aL (aw 1 rfl ?_)))
  obtain ⟨x1,hx1⟩:=bO (xs:=s.kept) (i:=q) aa
  have hx1b:=hI x1 (List.mem_of_getElem? hx1)
  unfold fb at hx1b
  refine az (dO (i:=q) rfl rfl rfl gK kS (aV hx1)) rfl (ad 4 rfl (ae (aL (bQ 30 ((decide (x1.kind < 1))||(decide (x1.kind > 3))) ?_ ?_))))
  ·
   refine ah (ad 4 rfl (bz 34 rfl (fun hb5'=>?_) (fun hb5'=>?_)))
   ·
    exact ad 5 rfl (ae (aq.pz 10 rfl))
   exact ad 5 rfl (ae (aq.pz 10 rfl))
  refine ax rfl (fun hc6=>?_) (fun hc6=>?_)
  ·
   have hc6':=hc6;try simp only [aT,bx] at hc6'
   refine ag 3 rfl (al (aY (aY (aj (aj (aY (aj ?_)))))))
   have hX:cK s=(⟨1,(↑q:Int)⟩:cM):=by
     unfold cK jy;rw [if_neg aa,if_neg aa,hi0_1,gk (c:=1) aa (by unfold lD;simp only [hx1];rw [if_pos aa]) cm]
   rw [hX] at hr;clear hX
   subst hr
   exact aS [1] 0 rfl
  have hc6':=hc6;try simp only [aT,bx] at hc6'
  refine bQ 41 ((((decide (x1.ba < 0))||(decide (x1.ba>=30)))||(decide (x1.sum < 1)))||(decide (x1.sum > 1000000))) ?_ ?_
  ·
   refine ah (ad 4 rfl (bz 45 rfl (fun hb7'=>?_) (fun hb7'=>?_)))
   ·
    exact ad 15 rfl (ae (aq.pz 20 rfl))
   refine ad 5 rfl (bz 50 rfl (fun hb8'=>?_) (fun hb8'=>?_))
   ·
    exact ad 10 rfl (ae (aq.pz 21 rfl))
   refine ad 5 rfl (bz 55 rfl (fun hb9'=>?_) (fun hb9'=>?_))
   ·
    exact ad 5 rfl (ae (aq.pz 22 rfl))
   exact ad 5 rfl (ae (aq.pz 22 rfl))
  refine ax rfl (fun hc10=>?_) (fun hc10=>?_)
  ·
   have hc10':=hc10;try simp only [aT,bx] at hc10'
   refine ag 3 rfl (al (aY (aY (aj (aj (aY (aj ?_)))))))
   have hX:cK s=(⟨3,(↑q:Int)⟩:cM):=by
     unfold cK jy;rw [if_neg aa,if_neg aa,hi0_1,gk (c:=3) aa (by unfold lD;simp only [hx1];rw [if_neg aa,if_pos aa]) cm]
   rw [hX] at hr;clear hX
   subst hr
   exact aS [1] 0 rfl
  have hc10':=hc10;try simp only [aT,bx] at hc10'
  refine aw 6 rfl (az (cD rfl rfl gK) rfl (bl rfl rfl rfl rfl aa (bl rfl rfl rfl rfl aa (ad 1 rfl (bl rfl rfl rfl rfl aa (ad 2 rfl (ae (aO rfl (fun hc11'=>?_) (fun hc11'=>?_)))))))))
  ·
   refine ag 3 rfl (al (aY (aY (aj (aj (aY (aj ?_)))))))
   have hX:cK s=(⟨2,(↑q:Int)⟩:cM):=by
     unfold cK jy;rw [if_neg aa,if_neg aa,hi0_1,gk (c:=2) aa (by unfold lD;simp only [hx1];rw [if_neg aa,if_neg aa,if_pos aa]) cm]
   rw [hX] at hr;clear hX
   subst hr
   exact aS [1] 0 rfl
  refine cv (aN (aN (then_ok (ah (bl rfl rfl rfl rfl aa (ad 1 rfl (ae (⟨q+1,⟨aa,by rw [hi0_1];exact kD aa (by unfold lD;simp only [hx1];rw [if_neg aa,if_neg aa,if_neg aa])⟩,bT,aq.rz id⟩))))))))
 refine bR (aE (aE (bw (then_ok (ag 2 rfl (al ?_))))))
 have hX:cK s=(⟨0,0⟩:cM):=by
   unfold cK jy;rw [if_neg aa,if_neg aa,hi0_1,kW aa]
 rw [hX] at hr;clear hX
 subst hr
 exact aS [1] 0 rfl
theorem CH (e i:Int):Fn Tryz.prog 108 [(.c (cI e)),(.c (.q ([dI i]) 0))] (aG [cI e,cI i]) []:=by
 refine Fn.mk' 7 [(0,(aI e)),(1,(aC (.q ([dI i]) 0)))] Tryz.func108 rfl rfl rfl rfl ?_
 intro W0 T0
 exact ag 1 rfl (ag 4 rfl (al (aS [0] 0 rfl)))
theorem lH (s:bK) (hI:∀ t∈s.kept,fb t.number) (f:cM) (hr:cK s=f):Fn Tryz.prog 81 [(.g [(cI s.bj),(bX s.kept)])] (.v (.g [(cI f.err),(cI f.at_)])) []:=by
 refine Fn.mk' 81 [(0,(aG [(cI s.bj),(bX s.kept)]))] Tryz.func81 rfl rfl rfl rfl ?_
 intro W0 T0
 refine ck 0 1 rfl rfl (fun hlen0_1=>?_)
 refine ag 2 rfl (aw 2 rfl (az (cD rfl rfl gK) rfl (ad 1 rfl (ae (af (ag 2 rfl (aO rfl (fun hc1'=>?_) (fun hc1'=>?_))))))))
 ·
  refine ag 2 rfl (al (aj ?_))
  have hX:cK s=(⟨5,0⟩:cM):=by
    unfold cK jy;rw [if_pos aa]
  rw [hX] at hr;clear hX
  subst hr
  exact aS [1] 0 rfl
 refine aD (af (bQ 21 ((decide (s.bj > 1000000))||(decide (s.bj < (↑s.kept.length:Int)))) ?_ ?_))
 ·
  refine ah (ad 4 rfl (bz 16 rfl (fun hb2'=>?_) (fun hb2'=>?_)))
  ·
   exact ad 5 rfl (ae (aq.pz 10 rfl))
  exact ad 5 rfl (ae (aq.pz 10 rfl))
 refine ax rfl (fun hc3=>?_) (fun hc3=>?_)
 ·
  have hc3':=hc3;try simp only [aT,bx] at hc3'
  refine ag 2 rfl (al (aj ?_))
  have hX:cK s=(⟨3,0⟩:cM):=by
    unfold cK jy;rw [if_neg aa,if_pos aa]
  rw [hX] at hr;clear hX
  subst hr
  exact aS [1] 0 rfl
 have hc3':=hc3;try simp only [aT,bx] at hc3'
 refine aD (af (aw 2 rfl (az (cD rfl rfl gK) rfl (ad 1 rfl (ae (aL (cb (β:=Nat) (fun (q:Nat)=>⟨[(1,(aC (.p 0 0 0 0))),(2,(aC (.p 1 0 0 0))),(3,(aI (↑s.kept.length:Int))),(24,(aC (bX s.kept))),(25,(aI (↑s.kept.length:Int))),(26,(aI (↑q:Int)))],[(1,(.box 47 [(cI 0),(cI 0)])),(0,(.box 31 [(cI s.bj),(bX s.kept)]))],2⟩) (fun (q:Nat)=>q<=s.kept.length/\scan (lD s) 0 s.kept.length=scan (lD s) q (s.kept.length - q)) (fun (q:Nat)=>s.kept.length - q) 0 ?_ ?_ ?_)))))))
 ·exact ⟨aa,rfl⟩
 ·exact aq.rz id
 rintro q ⟨hi0_0,hi0_1⟩
 refine ag 1 rfl (af (aO rfl (fun hc4'=>?_) (fun hc4'=>?_)))
 ·
  refine aD (af (aL (aw 1 rfl ?_)))
  obtain ⟨x1,hx1⟩:=bO (xs:=s.kept) (i:=q) aa
  have hx1b:=hI x1 (List.mem_of_getElem? hx1)
  unfold fb at hx1b
  refine az (dO (i:=q) rfl rfl rfl gK kS (aV hx1)) rfl (ad 5 rfl (ae (dq (az (yX (ks:=[2]) rfl ⟨rfl,trivial⟩) rfl (ad 1 rfl (ae (af (bQ 44 (((decide (¬x1.kind=1)) && (decide (¬x1.kind=2))) && (decide (¬x1.kind=3))) ?_ ?_))))))))
  ·
   refine ah (ad 4 rfl (bz 35 rfl (fun hb5'=>?_) (fun hb5'=>?_)))
   ·
    refine ad 5 rfl (bz 40 rfl (fun hb6'=>?_) (fun hb6'=>?_))
    ·
     exact ad 4 rfl (ae (aq.pz 15 rfl))
    exact ad 4 rfl (ae (aq.pz 15 rfl))
   exact ad 9 rfl (ae (aq.pz 14 rfl))
  refine ax rfl (fun hc7=>?_) (fun hc7=>?_)
  ·
   have hc7':=hc7;try simp only [aT,bx] at hc7'
   refine aw 1 rfl (ay 4 [3,2,1,0] (mo 4 [2] (ins:=[(.c (cI 1))]) (bu:=[[(dI (↑q:Int))]]) (CH 1 (↑q:Int)) Cy rfl rfl rfl (.fn ⟨⟨by decide,_,rfl⟩,trivial⟩) ⟨⟨_,rfl,.c (.d _)⟩,trivial⟩ ⟨rfl,rfl,trivial⟩ trivial rfl rfl rfl rfl) rfl (ad 1 rfl (ae (al (aj (aY (aj (aj (aY (aj ?_))))))))))
   have hX:cK s=(⟨1,(↑q:Int)⟩:cM):=by
     unfold cK jy;rw [if_neg aa,if_neg aa,hi0_1,gk (c:=1) aa (by unfold lD;simp only [hx1];rw [if_pos aa]) cm]
   rw [hX] at hr;clear hX
   subst hr
   exact aS [1] 0 rfl
  have hc7':=hc7;try simp only [aT,bx] at hc7'
  refine aD (af (bQ 64 ((((decide (x1.ba < 0))||(decide (x1.ba > 29)))||(decide (x1.sum < 1)))||(decide (x1.sum > 1000000))) ?_ ?_))
  ·
   refine ah (ad 4 rfl (bz 50 rfl (fun hb8'=>?_) (fun hb8'=>?_)))
   ·
    exact ad 14 rfl (ae (aq.pz 19 rfl))
   refine ad 5 rfl (bz 55 rfl (fun hb9'=>?_) (fun hb9'=>?_))
   ·
    exact ad 9 rfl (ae (aq.pz 20 rfl))
   refine ad 5 rfl (bz 60 rfl (fun hb10'=>?_) (fun hb10'=>?_))
   ·
    exact ad 4 rfl (ae (aq.pz 21 rfl))
   exact ad 4 rfl (ae (aq.pz 21 rfl))
  refine ax rfl (fun hc11=>?_) (fun hc11=>?_)
  ·
   have hc11':=hc11;try simp only [aT,bx] at hc11'
   refine aw 1 rfl (ay 4 [3,2,1,0] (mo 4 [2] (ins:=[(.c (cI 3))]) (bu:=[[(dI (↑q:Int))]]) (CH 3 (↑q:Int)) Cy rfl rfl rfl (.fn ⟨⟨by decide,_,rfl⟩,trivial⟩) ⟨⟨_,rfl,.c (.d _)⟩,trivial⟩ ⟨rfl,rfl,trivial⟩ trivial rfl rfl rfl rfl) rfl (ad 1 rfl (ae (al (aj (aY (aj (aj (aY (aj ?_))))))))))
   have hX:cK s=(⟨3,(↑q:Int)⟩:cM):=by
     unfold cK jy;rw [if_neg aa,if_neg aa,hi0_1,gk (c:=3) aa (by unfold lD;simp only [hx1];rw [if_neg aa,if_pos aa]) cm]
   rw [hX] at hr;clear hX
   subst hr
   exact aS [1] 0 rfl
  have hc11':=hc11;try simp only [aT,bx] at hc11'
  refine aD (aw 6 rfl (bl rfl rfl rfl rfl aa (ad 1 rfl (bl rfl rfl rfl rfl aa (ad 1 rfl (ae (aO rfl (fun hc12'=>?_) (fun hc12'=>?_))))))))
  ·
   refine aw 1 rfl (ay 4 [3,2,1,0] (mo 4 [2] (ins:=[(.c (cI 2))]) (bu:=[[(dI (↑q:Int))]]) (CH 2 (↑q:Int)) Cy rfl rfl rfl (.fn ⟨⟨by decide,_,rfl⟩,trivial⟩) ⟨⟨_,rfl,.c (.d _)⟩,trivial⟩ ⟨rfl,rfl,trivial⟩ trivial rfl rfl rfl rfl) rfl (ad 1 rfl (ae (al (aY (aj (aj (aY (aj ?_)))))))))
   have hX:cK s=(⟨2,(↑q:Int)⟩:cM):=by
     rw [AD aa hx1b aa] at hc12'
     unfold cK jy;rw [if_neg aa,if_neg aa,hi0_1,gk (c:=2) aa (by unfold lD;simp only [hx1];rw [if_neg aa,if_neg aa,if_pos aa]) cm]
   rw [hX] at hr;clear hX
   subst hr
   exact aS [1] 0 rfl
  refine cv (aN (then_ok (ah (bl rfl rfl rfl rfl aa (ad 1 rfl (ae ?_))))))
  rw [AD aa hx1b aa] at hc12'
  refine ⟨q+1,⟨aa,by rw [hi0_1];exact kD aa (by unfold lD;simp only [hx1];rw [if_neg aa,if_neg aa,if_neg aa])⟩,bT,aq.rz id⟩
 refine bR (aE (aE (bw (then_ok (ag 2 rfl (al ?_))))))
 have hX:cK s=(⟨0,0⟩:cM):=by
   unfold cK jy;rw [if_neg aa,if_neg aa,hi0_1,kW aa]
 rw [hX] at hr;clear hX
 subst hr
 exact aS [1] 0 rfl

theorem vu (s:bK) (t:aZ) (hI:∀ t∈s.kept,fb t.number) (x:bK) (e:Int) (hr:gL s t=(x,e)):Fn Tryz.prog 96 [(.g [(cI s.bj),(bX s.kept)]),(.g [(cI t.number),(cI t.kind),(cI t.ba),(cI t.sum)])] (.t [(.g [(cI x.bj),(.s 0 0 4 x.kept.length)]),(.c (cI e))]) [(0,(vF x.kept))]:=by
 refine Fn.mk' 40 [(0,(aG [(cI s.bj),(bX s.kept)])),(1,(aG [(cI t.number),(cI t.kind),(cI t.ba),(cI t.sum)]))] Tryz.func96 rfl rfl rfl rfl ?_
 intro W0 T0
 refine ck 0 1 rfl rfl (fun hlen0_1=>?_)
 have hrs:=@lh s
 refine ag 4 rfl (af (aw 1 rfl ?_))
 obtain ⟨f0,hr0⟩:∃ (f0:cM),cK s=f0:=⟨_,rfl⟩
 have hq0:(cK s).err=f0.err:=by rw [hr0]
 refine ay 3 [2,1,0] (cA 3 (pe s (by first|assumption|exact iU dr aa|exact ia dr dr|(simp [fb];done)) f0 hr0) FB rfl) rfl (ad 2 rfl (ae (ag 3 rfl (aO rfl (fun hc1'=>?_) (fun hc1'=>?_)))))
 ·
  refine af (eJ [2,3,4,6] [3,2,1,0] rfl (cV 5 rfl (eb [2,3,4,5] [2,1,0] rfl rfl aJ (then_ok (al (aj (cc 2 1 85 4 rfl rfl rfl ?_)))))))
  have hX:gL s t=((⟨0,([]:List aZ)⟩:bK),f0.err):=by
    unfold gL;rw [if_pos aa,hr0];rfl
  cases hX.symm.trans hr;clear hX
  exact aS [4,2] 1 rfl
 refine aD (aw 2 rfl (bl rfl rfl rfl rfl aa (ad 2 rfl (ae (af (bg [2,3,4] [2,1,0] rfl (aF 2 rfl (bh 4 [22] [] rfl (bm rfl rfl rfl (bH aa)) (aF 2 rfl (bM 5 [25] [] rfl (cA 4 (pf s.kept aa) GC rfl) rfl (aF 1 rfl (bM 6 [27] [] rfl (dM (ys:=[(0,(.g [(cI (s.bj+1)),(cI t.kind),(cI t.ba),(cI t.sum)]))]) (rows:=([(⟨s.bj+1,t.kind,t.ba,t.sum⟩:aZ)]).map fA) 5 oV rfl) rfl (bM 7 [26,28] [5,4] rfl (dU (m:=1) (N:=s.kept.length+1) (k2:=6) (ys:=([(⟨s.bj+1,t.kind,t.ba,t.sum⟩:aZ)]).map fA) oV rfl rfl rfl rfl dv) rfl (bC (n':=8) (kn:=[]) bn 2 rfl trivial (bf [7,6,2,1,0] rfl (ad 1 rfl (ae (af (aw 1 rfl ?_)))))))))))))))))))
 obtain ⟨f1,hr1⟩:∃ (f1:cM),cK (⟨s.bj+1,s.kept++([(⟨s.bj+1,t.kind,t.ba,t.sum⟩:aZ)])⟩:bK)=f1:=⟨_,rfl⟩
 have hq1:(cK (⟨s.bj+1,s.kept++([(⟨s.bj+1,t.kind,t.ba,t.sum⟩:aZ)])⟩:bK)).err=f1.err:=by rw [hr1]
 refine ay 8 [7,6,2,1,0] (kH 8 [6] (pe (⟨s.bj+1,s.kept++([(⟨s.bj+1,t.kind,t.ba,t.sum⟩:aZ)])⟩:bK) (by first|assumption|exact iU dr aa|exact ia dr dr|(simp [fb];done)) f1 hr1) FB ⟨rfl,rfl,trivial⟩ trivial rfl) rfl (ad 2 rfl (ae (ag 3 rfl (aO rfl (fun hc2'=>?_) (fun hc2'=>?_)))))
 ·
  refine af (eJ [4,7,8] [8,7,6,2] rfl (cV 5 rfl (eb [4,7,5] [2,7,6] rfl rfl aJ (then_ok (al (aj (cc 2 1 85 4 rfl rfl rfl ?_)))))))
  have hX:gL s t=((⟨0,([]:List aZ)⟩:bK),f1.err):=by
    have hout:cK (nh s t)=f1:=hr1
    unfold gL;rw [if_neg aa,if_pos (by rw [hout];omega),hout];rfl
  cases hX.symm.trans hr;clear hX
  exact aS [9,2] 1 rfl
 refine aD (ag 3 rfl (al ?_))
 have hX:gL s t=((⟨s.bj+1,s.kept++([(⟨s.bj+1,t.kind,t.ba,t.sum⟩:aZ)])⟩:bK),0):=by
   have hout:cK (nh s t)=f1:=hr1
   unfold gL;rw [if_neg aa,if_neg (by rw [hout];omega)];rfl
 cases hX.symm.trans hr;clear hX
 exact aS [6,2] 1 rfl
theorem xl (s:bK) (t:aZ) (hI:∀ t∈s.kept,fb t.number) (x:bK) (e:Int) (hr:gL s t=(x,e)):Fn Tryz.prog 80 [(.g [(cI s.bj),(bX s.kept)]),(.g [(cI t.number),(cI t.kind),(cI t.ba),(cI t.sum)])] (.t [(.g [(cI x.bj),(.s 0 0 4 x.kept.length)]),(.c (cI e))]) [(0,(vF x.kept))]:=by
 refine Fn.mk' 40 [(0,(aG [(cI s.bj),(bX s.kept)])),(1,(aG [(cI t.number),(cI t.kind),(cI t.ba),(cI t.sum)]))] Tryz.func80 rfl rfl rfl rfl ?_
 intro W0 T0
 refine ck 0 1 rfl rfl (fun hlen0_1=>?_)
 have hrs:=@lh s
 refine ag 4 rfl (af (aw 1 rfl ?_))
 obtain ⟨f0,hr0⟩:∃ (f0:cM),cK s=f0:=⟨_,rfl⟩
 have hq0:(cK s).err=f0.err:=by rw [hr0]
 refine ay 3 [2,1,0] (cA 3 (lH s (by first|assumption|exact iU dr aa|exact ia dr dr|(simp [fb];done)) f0 hr0) FD rfl) rfl (ad 2 rfl (ae (ag 3 rfl (aO rfl (fun hc1'=>?_) (fun hc1'=>?_)))))
 ·
  refine af (eJ [2,3,4,6] [3,2,1,0] rfl (cV 5 rfl (eb [2,3,4,5] [2,1,0] rfl rfl aJ (then_ok (al (aj (cc 2 1 85 4 rfl rfl rfl ?_)))))))
  have hX:gL s t=((⟨0,([]:List aZ)⟩:bK),f0.err):=by
    unfold gL;rw [if_pos aa,hr0];rfl
  cases hX.symm.trans hr;clear hX
  exact aS [4,2] 1 rfl
 refine aD (aw 2 rfl (bl rfl rfl rfl rfl aa (ad 2 rfl (ae (af (bg [2,3,4] [2,1,0] rfl (aF 2 rfl (bM 5 [] [] rfl (dM (ys:=[]) (rows:=(([]:List aZ)).map fA) 4 oV rfl) rfl (aF 2 rfl (bM 6 [23,25] [4] rfl (dU (m:=s.kept.length) (N:=s.kept.length) (k2:=5) (ys:=(s.kept).map fA) oV rfl rfl rfl rfl rfl) rfl (aF 1 rfl (bM 7 [27] [] rfl (dM (ys:=[(0,(.g [(cI (s.bj+1)),(cI t.kind),(cI t.ba),(cI t.sum)]))]) (rows:=([(⟨s.bj+1,t.kind,t.ba,t.sum⟩:aZ)]).map fA) 6 oV rfl) rfl (bM 8 [26,28] [6,5] rfl (dU (m:=1) (N:=s.kept.length+1) (k2:=7) (ys:=([(⟨s.bj+1,t.kind,t.ba,t.sum⟩:aZ)]).map fA) oV rfl rfl rfl rfl dv) rfl (bC (n':=9) (kn:=[]) bn 2 rfl trivial (bf [8,7,2,1,0] rfl (ad 1 rfl (ae (af (aw 1 rfl ?_)))))))))))))))))))
 obtain ⟨f1,hr1⟩:∃ (f1:cM),cK (⟨s.bj+1,s.kept++([(⟨s.bj+1,t.kind,t.ba,t.sum⟩:aZ)])⟩:bK)=f1:=⟨_,rfl⟩
 have hq1:(cK (⟨s.bj+1,s.kept++([(⟨s.bj+1,t.kind,t.ba,t.sum⟩:aZ)])⟩:bK)).err=f1.err:=by rw [hr1]
 refine ay 9 [8,7,2,1,0] (kH 9 [7] (lH (⟨s.bj+1,s.kept++([(⟨s.bj+1,t.kind,t.ba,t.sum⟩:aZ)])⟩:bK) (by first|assumption|exact iU dr aa|exact ia dr dr|(simp [fb];done)) f1 hr1) FD ⟨rfl,rfl,trivial⟩ trivial rfl) rfl (ad 2 rfl (ae (ag 3 rfl (aO rfl (fun hc2'=>?_) (fun hc2'=>?_)))))
 ·
  refine af (eJ [4,7,8] [9,8,7,2] rfl (cV 5 rfl (eb [4,7,5] [2,8,7] rfl rfl aJ (then_ok (al (aj (cc 2 1 85 4 rfl rfl rfl ?_)))))))
  have hX:gL s t=((⟨0,([]:List aZ)⟩:bK),f1.err):=by
    have hout:cK (nh s t)=f1:=hr1
    unfold gL;rw [if_neg aa,if_pos (by rw [hout];omega),hout];rfl
  cases hX.symm.trans hr;clear hX
  exact aS [10,2] 1 rfl
 refine aD (ag 3 rfl (al ?_))
 have hX:gL s t=((⟨s.bj+1,s.kept++([(⟨s.bj+1,t.kind,t.ba,t.sum⟩:aZ)])⟩:bK),0):=by
   have hout:cK (nh s t)=f1:=hr1
   unfold gL;rw [if_neg aa,if_neg (by rw [hout];omega)];rfl
 cases hX.symm.trans hr;clear hX
 exact aS [7,2] 1 rfl
theorem tp (seen:Int) (t:aZ) (n:Int) (ok:Bool) (hr:jK seen t=(n,ok)):Fn Tryz.prog 70 [(.c (cI seen)),(.g [(cI t.number),(cI t.kind),(cI t.ba),(cI t.sum)])] (.t [(.c (cI n)),(.c (cB ok))]) []:=by
 refine Fn.mk' 22 [(0,(aI seen)),(1,(aG [(cI t.number),(cI t.kind),(cI t.ba),(cI t.sum)]))] Tryz.func70 rfl rfl rfl rfl ?_
 intro W0 T0
 refine ag 3 rfl (af (bQ 18 (((decide (seen < 0))||(decide (seen>=1000000)))||(decide (¬t.number=(seen+1)))) ?_ ?_))
 ·
  refine ah (ad 3 rfl (bz 8 rfl (fun hb1'=>?_) (fun hb1'=>?_)))
  ·
   exact ad 10 rfl (ae (aq.pz 14 rfl))
  refine ad 4 rfl (bz 12 rfl (fun hb2'=>?_) (fun hb2'=>?_))
  ·
   exact ad 6 rfl (ae (aq.pz 15 rfl))
  exact ad 3 rfl (dg (aR.yes rfl rfl rfl) (bm rfl rfl rfl (bH aa)) rfl rfl (ad 2 rfl (ae (aq.pz 15 rfl))))
 refine ax rfl (fun hc3=>?_) (fun hc3=>?_)
 ·
  have hc3':=hc3;try simp only [aT,bx] at hc3'
  refine ag 3 rfl (al (aj ?_))
  have hX:jK seen t=(seen,false):=by
    (unfold jK;try dsimp only);exact sx
  cases hX.symm.trans hr;clear hX
  exact aS [] 0 rfl
 have hc3':=hc3;try simp only [aT,bx] at hc3'
 refine aD (aw 1 rfl (bl rfl rfl rfl rfl aa (ad 2 rfl (ae (al ?_)))))
 have hX:jK seen t=(seen+1,true):=by
   (unfold jK;try dsimp only);exact sx
 cases hX.symm.trans hr;clear hX
 exact aS [] 0 rfl
end Go.Proofs.YtnfopdlnboeheaaGreat.Dev
