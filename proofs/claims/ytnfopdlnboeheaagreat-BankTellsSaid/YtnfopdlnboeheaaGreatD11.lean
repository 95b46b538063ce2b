/- A part of the proof: Clones, Bank4, Bank7, Bank10, Bank11, Bank5, Bank6, Bank8. No condition. -/
import Derived.Test.YtnfopdlnboeheaaGreatD10
set_option linter.unusedVariables false
set_option linter.unusedSimpArgs false
set_option maxHeartbeats 8000000
set_option maxRecDepth 100000
namespace Go.Proofs.YtnfopdlnboeheaaGreat.Dev
open Go.RowKit

theorem zI (l:List bG) (hl:l.length * 64<=140737488355328):Fn Tryz.prog 85 [(.c (iQ l))] (aC (.s 0 0 8 l.length)) [(0,.arr 81 8 (l.map jm))]:=by
 refine Fn.mk' 8 [(0,(aC (iQ l)))] Tryz.func85 rfl rfl rfl rfl ?_
 intro W0 T0
 refine dE 0 rfl (fun hlen0=>?_)
 refine fX bn 1 rfl ?_
 refine af ?_
 refine mU bn 1 rfl ?_
 refine kz (aR.plain rfl) rfl rfl hG rfl rfl (fun bn1 hbn1=>?_)
 refine ae ?_
 refine ax rfl (fun hc2=>?_) (fun hc2=>?_)
 ·
  have hc2':=hc2;try simp only [aT,bx] at hc2'
  refine fX bn 1 rfl ?_
  refine al ?_
  refine aj ?_
  refine cW (aq.nil 2 81 8 cm rfl) ?_
  refine ct bn [0] 1 rfl rfl rfl rfl rfl rfl ?_ ?_
  ·(have h0:=hbn1 dr;have h1:l=[]:=by (cases l with|nil=>rfl|cons=>simp at h0));subst h1;rfl
  ·(have h0:=hbn1 dr;have h1:l=[]:=by (cases l with|nil=>rfl|cons=>simp at h0));subst h1;rfl
 have hc2':=hc2;try simp only [aT,bx] at hc2'
 refine aD ?_
 refine dq ?_
 refine ay 1 [0] (nF (ys:=[]) (rows:=(([]:List bG)).map jm) 0 nY rfl cm trivial rfl rfl rfl rfl) rfl ?_
 refine fx bn 1 rfl ?_
 refine ay 2 [1] (jD (m:=l.length) (N:=l.length) (k2:=1) (ys:=(l).map jm) nY rfl rfl rfl rfl rfl rfl bT rfl (.d _ _) bT bT rfl cm bT bT) rfl ?_
 refine fx bn 1 rfl ?_
 refine ae ?_
 refine al ?_
 refine ct bn [1] 1 rfl rfl rfl rfl rfl rfl ?_ ?_
 ·first|rfl|simp [ix,aC]
 ·first|rfl|simp
theorem qn (l:List bL) (hl:l.length * 40<=140737488355328):Fn Tryz.prog 67 [(.c (dj l))] (aC (.s 0 0 5 l.length)) [(0,.arr 87 5 (l.map eG))]:=by
 refine Fn.mk' 8 [(0,(aC (dj l)))] Tryz.func67 rfl rfl rfl rfl ?_
 intro W0 T0
 refine dE 0 rfl (fun hlen0=>?_)
 refine fX bn 1 rfl ?_
 refine af ?_
 refine mU bn 1 rfl ?_
 refine kz (aR.plain rfl) rfl rfl ir rfl rfl (fun bn1 hbn1=>?_)
 refine ae ?_
 refine ax rfl (fun hc2=>?_) (fun hc2=>?_)
 ·
  have hc2':=hc2;try simp only [aT,bx] at hc2'
  refine fX bn 1 rfl ?_
  refine al ?_
  refine aj ?_
  refine cW (aq.nil 2 87 5 cm rfl) ?_
  refine ct bn [0] 1 rfl rfl rfl rfl rfl rfl ?_ ?_
  ·(have h0:=hbn1 dr;have h1:l=[]:=by (cases l with|nil=>rfl|cons=>simp at h0));subst h1;rfl
  ·(have h0:=hbn1 dr;have h1:l=[]:=by (cases l with|nil=>rfl|cons=>simp at h0));subst h1;rfl
 have hc2':=hc2;try simp only [aT,bx] at hc2'
 refine aD ?_
 refine dq ?_
 refine ay 1 [0] (nF (ys:=[]) (rows:=(([]:List bL)).map eG) 0 jI rfl cm trivial rfl rfl rfl rfl) rfl ?_
 refine fx bn 1 rfl ?_
 refine ay 2 [1] (jD (m:=l.length) (N:=l.length) (k2:=1) (ys:=(l).map eG) jI rfl rfl rfl rfl rfl rfl bT rfl (.d _ _) bT bT rfl cm bT bT) rfl ?_
 refine fx bn 1 rfl ?_
 refine ae ?_
 refine al ?_
 refine ct bn [1] 1 rfl rfl rfl rfl rfl rfl ?_ ?_
 ·first|rfl|simp [ix,aC]
 ·first|rfl|simp
theorem zH (l:List (List D)) (hl:l.length * 64<=140737488355328):Fn Tryz.prog 83 [(.c (cR 6 ((l).map id)))] (aC (.s 0 0 6 l.length)) [(0,.arr 63 6 (l.map id))]:=by
 refine Fn.mk' 8 [(0,(aC (cR 6 ((l).map id))))] Tryz.func83 rfl rfl rfl rfl ?_
 intro W0 T0
 refine dE 0 rfl (fun hlen0=>?_)
 refine fX bn 1 rfl ?_
 refine af ?_
 refine mU bn 1 rfl ?_
 refine kz (aR.plain rfl) rfl rfl gy rfl rfl (fun bn1 hbn1=>?_)
 refine ae ?_
 refine ax rfl (fun hc2=>?_) (fun hc2=>?_)
 ·
  have hc2':=hc2;try simp only [aT,bx] at hc2'
  refine fX bn 1 rfl ?_
  refine al ?_
  refine aj ?_
  refine cW (aq.nil 2 63 6 cm rfl) ?_
  refine ct bn [0] 1 rfl rfl rfl rfl rfl rfl ?_ ?_
  ·(have h0:=hbn1 dr;have h1:l=[]:=by (cases l with|nil=>rfl|cons=>simp at h0));subst h1;rfl
  ·(have h0:=hbn1 dr;have h1:l=[]:=by (cases l with|nil=>rfl|cons=>simp at h0));subst h1;rfl
 have hc2':=hc2;try simp only [aT,bx] at hc2'
 refine aD ?_
 refine dq ?_
 refine ay 1 [0] (nF (ys:=[]) (rows:=(([]:List (List D))).map id) 0 rK rfl cm trivial rfl rfl rfl rfl) rfl ?_
 refine fx bn 1 rfl ?_
 refine ay 2 [1] (jD (m:=l.length) (N:=0+l.length) (k2:=1) (ys:=(l).map id) rK rfl rfl rfl rfl rfl rfl bT rfl (.d _ _) bT bT dv cm bT bT) rfl ?_
 refine fx bn 1 rfl ?_
 refine ae ?_
 refine al ?_
 refine ct bn [1] 1 rfl rfl rfl rfl rfl rfl ?_ ?_
 ·first|rfl|simp [ix,aC]
 ·first|rfl|simp

theorem nu (v w:Value) (b:Bk) (l1:b.ak.length<=8) (l2:b.due.length<=8) (l3:b.an.length<=30) (l4:b.aM.length<=100):cS Tryz.prog 54 [(.c (.p 0 0 0 0))] [(0,(.box 58 (cf b 1 2 3 4 (.d (.v v)) (.d (.v w))))),(1,(dS b.ak)),(2,(dR b.due)),(3,(ec b.an)),(4,(cX b.aM))] [0] (.v (.c (.p 1 0 0 0))) [(0,(.box 58 (cf b 2 3 4 5 (.d (.v v)) (.d (.v w))))),(1,(.box 130 (cf b 6 7 8 9 (.d (.v v)) (cI 0)))),(2,(dS b.ak)),(3,(dR b.due)),(4,(ec b.an)),(5,(cX b.aM)),(6,(dS b.ak)),(7,(dR b.due)),(8,(ec b.an)),(9,(cX b.aM))]:=by
 refine cS.mk 51 [(0,(aC (.p 0 0 0 0)))] 5 Tryz.func54 rfl rfl rfl rfl rfl rfl rfl rfl rfl ?_
 intro W0 F0 T0 pg
 exact ag 1 rfl (ag 7 rfl (af (eJ [0,3] [5,0,1,2,3,4] rfl (cV 9 rfl (de 7 [18] [1] rfl (Fs 6 (fun l hl=>zH l (by rw [hl];first|omega|(simp;done)|(simp;omega))) Ld rfl rfl rfl rfl rfl ca) rfl (cV 5 rfl (de 8 [24] [2] rfl (kH 7 [2] (tw b.due aa) ID trivial ⟨(Ia _),trivial⟩ rfl) rfl (cV 5 rfl (de 9 [30] [3] rfl (kH 8 [3] (zI b.an aa) Lc trivial ⟨(DI _),trivial⟩ rfl) rfl (cV 5 rfl (de 10 [36] [4] rfl (kH 9 [4] (qm b.aM aa) IC trivial ⟨(Ae _),trivial⟩ rfl) rfl (cV 16 rfl (eb [3] [5,9,8,7,6,0,1,2,3,4] rfl rfl aJ (then_ok (ag 2 rfl (al (bb [0,5,1,2,3,4,6,7,8,9] 10 rfl)))))))))))))))))
theorem gQ (v w:Value) (b c:Bk) (e:Int) (he:e=0):cS Tryz.prog 57 [(.c (.p 0 0 0 0)),(.c (.p 1 0 0 0))] [(0,(.box 58 (cf b 2 3 4 5 (.d (.v v)) (.d (.v w))))),(1,(.box 130 (cf c 6 7 8 9 (.d (.v v)) (cI e)))),(2,(dS b.ak)),(3,(dR b.due)),(4,(ec b.an)),(5,(cX b.aM)),(6,(dS c.ak)),(7,(dR c.due)),(8,(ec c.an)),(9,(cX c.aM))] [0] (.v (.c (cI e))) [(0,(.box 58 (cf c 1 2 3 4 (.d (.v v)) (.d (.v w))))),(1,(dS c.ak)),(2,(dR c.due)),(3,(ec c.an)),(4,(cX c.aM))]:=by
 refine cS.mk 21 [(0,(aC (.p 0 0 0 0))),(1,(aC (.p 1 0 0 0)))] 10 Tryz.func57 rfl rfl rfl rfl rfl rfl rfl rfl rfl ?_
 intro W0 F0 T0 pg
 refine ag 1 rfl (af (ag 5 rfl (aO rfl (fun hc1'=>?_) (fun hc1'=>?_))))
 ·
  exact ah (ad 8 rfl (ae (ag 5 rfl (al (bb [0,6,7,8,9] 5 rfl)))))
 (exfalso;simp_all)
theorem jd (v w:Value) (b c:Bk) (e:Int) (he:¬e=0):cS Tryz.prog 57 [(.c (.p 0 0 0 0)),(.c (.p 1 0 0 0))] [(0,(.box 58 (cf b 2 3 4 5 (.d (.v v)) (.d (.v w))))),(1,(.box 130 (cf c 6 7 8 9 (.d (.v v)) (cI e)))),(2,(dS b.ak)),(3,(dR b.due)),(4,(ec b.an)),(5,(cX b.aM)),(6,(dS c.ak)),(7,(dR c.due)),(8,(ec c.an)),(9,(cX c.aM))] [0] (.v (.c (cI e))) [(0,(.box 58 (cf b 1 2 3 4 (.d (.v v)) (.d (.v w))))),(1,(dS b.ak)),(2,(dR b.due)),(3,(ec b.an)),(4,(cX b.aM))]:=by
 refine cS.mk 21 [(0,(aC (.p 0 0 0 0))),(1,(aC (.p 1 0 0 0)))] 10 Tryz.func57 rfl rfl rfl rfl rfl rfl rfl rfl rfl ?_
 intro W0 F0 T0 pg
 refine ag 1 rfl (af (ag 5 rfl (aO rfl (fun hc1'=>?_) (fun hc1'=>?_))))
 ·
  (exfalso;simp_all)
 exact aD (ag 5 rfl (al (bb [0,2,3,4,5] 5 rfl)))

theorem FR (x:Nat->Value) (hx:∀ i,(x i).oneCell'=true) (s0 s1:bK) (n0 n1:Int) (w0 w1:List bL) (idn kind au move sum:Int) (l0:w0.length<=60) (l1:w1.length<=60) (m0:s0.kept.length<=40) (m1:s1.kept.length<=40) (v0:List bL) (v1:List bL) (a2:Answer) (hr:fY s0 s1 n0 n1 w0 w1 (⟨idn,kind,0,au,move,sum⟩:bW)=(v0,v1,a2)):cS Tryz.prog 36 [(.c (.p 0 0 0 0)),(.c (.q (ek (⟨idn,kind,0,au,move,sum⟩:bW)) 0))] [(0,(.box 58 (((((((((cL x).set 5 (cI s0.bj)).set 6 (bX s0.kept)).set 7 (cI s1.bj)).set 8 (bX s1.kept)).set 9 (cI n0)).set 10 (cI n1)).set 11 (dj w0)).set 12 (dj w1))))] [0] (.v (.g [cI a2.err,cI a2.ba])) [(0,(.box 58 (((((((((cL x).set 5 (cI s0.bj)).set 6 (bX s0.kept)).set 7 (cI s1.bj)).set 8 (bX s1.kept)).set 9 (cI n0)).set 10 (cI n1)).set 11 (dj v0)).set 12 (dj v1))))]:=by
 refine cS.HY 83 [(0,(aC (.p 0 0 0 0))),(1,(aC (.q (ek (⟨idn,kind,0,au,move,sum⟩:bW)) 0)))] 1 Tryz.func36 rfl rfl rfl rfl rfl rfl rfl rfl rfl ?_
 intro W0 F0 T0 pg hF
 have hF0:∀ b,F0 b->(pg 0).g=b:=fun b hb=>by obtain ⟨k,hk,h⟩:=hF b hb;rw [List.mem_singleton.1 hk] at h;exact h
 refine ag 1 rfl (af (bQ 20 (false) ?_ ?_))
 ·
  exact ah (ad 4 rfl (az (bm rfl rfl rfl (show _=some (Value.bool false) from rfl)) rfl (ad 7 rfl (ae (aq.pz 12 rfl)))))
 refine ax rfl (fun hno=>by cases hno) (fun _=>?_)
 refine aD (ag 6 rfl (aw 5 rfl (az (du (i:=1) rfl rfl rfl fJ fK) rfl (ad 1 rfl (ay 3 [2,1,0] (cA 2 (qn w1 aa) II rfl) rfl (ad 1 rfl (ae (af (af (bg [0,1,4,5,6] [2,1,0] rfl (aF 8 rfl (bh 3 [42,39] [0] rfl (du (i:=0) rfl rfl rfl jh jj) (aF 2 rfl (bh 3 [45] [] rfl (cD rfl rfl gK) (aF 1 rfl (bf [2,1,0] rfl (ae (aL (cb (β:=Nat×List bL) (fun (p:Nat×List bL)=>match p with|(q,m)=>⟨[(0,(aC (.p 0 0 0 0))),(1,(aC (.q (ek (⟨idn,kind,0,au,move,sum⟩:bW)) 0))),(4,(aC (.p 1 0 0 0))),(5,(aI 1)),(6,(aC (.s 2 0 5 m.length))),(45,(aC (bX s0.kept))),(46,(aI (↑s0.kept.length:Int))),(47,(aI (↑q:Int)))],[(2,(jY m)),(1,(.box 53 [(cI 0),(cI 0)])),(0,(.box 58 (((((((((cL x).set 5 (cI s0.bj)).set 6 (bX s0.kept)).set 7 (cI s1.bj)).set 8 (bX s1.kept)).set 9 (cI n0)).set 10 (cI n1)).set 11 (dj w0)).set 12 (dj w1))))],3⟩) (fun (p:Nat×List bL)=>match p with|(q,m)=>q<=s0.kept.length/\m=w1++(s0.kept.take q).map (fun t=>(⟨t,-1⟩:bL))) (fun (p:Nat×List bL)=>match p with|(q,m)=>s0.kept.length - q) (0,w1) ?_ ?_ ?_)))))))))))))))))))
 ·exact ⟨aa,ca⟩
 ·exact aq.rz id
 rintro ⟨q,m⟩ ⟨hi0_0,hi0_1⟩
 have hml:m.length=w1.length+q:=by rw [hi0_1];simp;omega
 refine ag 1 rfl (af (aO rfl (fun hc2'=>?_) (fun hc2'=>?_)))
 ·
  refine aD (af (aL (dq ?_)))
  obtain ⟨x1,hx1⟩:=bO (xs:=s0.kept) (i:=q) aa
  refine az (dO (i:=q) rfl rfl rfl gK kS (aV hx1)) rfl (ad 3 rfl (ae (ah (ad 3 rfl (ay 5 [4,3,2,1,0] (dM (ys:=[(0,(.g [(cI x1.number),(cI x1.kind),(cI x1.ba),(cI x1.sum),(cI (-1))]))]) (rows:=([(⟨x1,(-1)⟩:bL)]).map eG) 4 jI rfl) rfl (ay 6 [5,4,3,1,0] (dU (m:=1) (N:=m.length+1) (k2:=5) (ys:=([(⟨x1,(-1)⟩:bL)]).map eG) jI rfl rfl rfl rfl dv) rfl (ad 1 rfl (bq (aN (then_ok (ah (bl rfl rfl rfl rfl aa (ad 1 rfl (ae (⟨(q+1,m++([(⟨x1,(-1)⟩:bL)])),⟨aa,by rw [List.take_add_one,hx1,List.map_append,<-List.append_assoc,<-hi0_1];rfl⟩,bT,aq.rz (fun k=>if k=2 then 5 else k) (by refine ⟨?_,?_,?_,?_,?_,?_,?_,?_,trivial⟩<;>first|rfl|(simp only [fQ];done)|(congr 3;omega)|(congr 4;omega)|(simp only [fR];rfl)|(first|exact gl rfl aa|exact jR rfl (by simp only [List.length_append,List.length_cons,List.length_nil];omega)))⟩)))))))))))))))
 refine bR (aE (aE (bw (then_ok (af (bg [0,1,4,5,6,45,46,47] [2,1,0] rfl (aF 9 rfl (bh 3 [65,62] [0] rfl (du (i:=0) rfl rfl rfl kc eu) (aF 2 rfl (bM 4 [68] [] rfl (dM (ys:=[(0,(.g [(cI 0),(cI 0),(cI 0),(cI 0),(cI n0)]))]) (rows:=([(⟨(⟨0,0,0,0⟩:aZ),n0⟩:bL)]).map eG) 3 jI rfl) rfl (bM 5 [57,69] [3,2] rfl (dU (m:=1) (N:=m.length+1) (k2:=4) (ys:=([(⟨(⟨0,0,0,0⟩:aZ),n0⟩:bL)]).map eG) jI rfl rfl rfl rfl dv) rfl (bf [4,1,0] rfl (ad 1 rfl (ae (af (aw 1 rfl (az (dn rfl rfl rfl rfl rfl ir) rfl (ad 1 rfl (ae (aO rfl (fun hc3'=>?_) (fun hc3'=>?_)))))))))))))))))))))
 ·
  refine ag 2 rfl (al (aj ?_))
  have hX:fY s0 s1 n0 n1 w0 w1 (⟨idn,kind,0,au,move,sum⟩:bW)=(w0,w1,(⟨5,0⟩:Answer)):=by
    (have ht:s0.kept.take q=s0.kept:=List.take_of_length_le aa);rw [ht] at hi0_1;unfold fY;dsimp only;rw [if_pos rfl];unfold lW ka;rw [<-hi0_1];first|rw [if_pos fa]|rw [if_neg fa]
  rw [hX] at hr;clear hX
  simp only [Prod.mk.injEq] at hr;obtain ⟨rfl,rfl,rfl⟩:=hr
  exact bb [0,1] 1 rfl
 refine aD (vH (s':=[(0,(aC (.p 0 0 0 0))),(1,(aC (.q (ek (⟨idn,kind,0,au,move,sum⟩:bW)) 0))),(4,(aC (.p 1 0 0 0))),(5,(aI 1)),(6,(aC (dj (m++([(⟨(⟨0,0,0,0⟩:aZ),n0⟩:bL)]))))),(45,(aC (bX s0.kept))),(46,(aI (↑s0.kept.length:Int))),(47,(aI (↑q:Int))),(70,(aC (dj (m++([(⟨(⟨0,0,0,0⟩:aZ),n0⟩:bL)]))))),(71,(aC (dj (m++([(⟨(⟨0,0,0,0⟩:aZ),n0⟩:bL)]))))),(72,(aI (↑(m.length+1):Int))),(73,(aB (decide ((↑(m.length+1):Int) > 60))))]) (h':=[(1,(.box 53 [(cI 0),(cI 0)])),(0,(.box 58 (((((((((cL x).set 5 (cI s0.bj)).set 6 (bX s0.kept)).set 7 (cI s1.bj)).set 8 (bX s1.kept)).set 9 (cI n0)).set 10 (cI n1)).set 11 (dj w0)).set 12 (dj w1))))]) hF0 4 rfl rfl ⟨⟨_,rfl,.inl ⟨rfl,rfl⟩⟩,⟨_,rfl,.inl ⟨rfl,rfl⟩⟩,⟨_,rfl,.inl ⟨rfl,rfl⟩⟩,⟨_,rfl,.inl ⟨rfl,rfl⟩⟩,⟨_,rfl,.inr ⟨_,_,rfl,rfl,.s rfl cm bT⟩⟩,⟨_,rfl,.inl ⟨rfl,rfl⟩⟩,⟨_,rfl,.inl ⟨rfl,rfl⟩⟩,⟨_,rfl,.inl ⟨rfl,rfl⟩⟩,⟨_,rfl,.inr ⟨_,_,rfl,rfl,.s rfl cm bT⟩⟩,⟨_,rfl,.inr ⟨_,_,rfl,rfl,.s rfl cm bT⟩⟩,⟨_,rfl,.inl ⟨rfl,rfl⟩⟩,⟨_,rfl,.inl ⟨rfl,rfl⟩⟩,trivial⟩ ⟨rfl,rfl,trivial⟩ rfl (aw 6 rfl (az (du (i:=1) rfl rfl rfl fJ fK) rfl (ad 1 rfl (ae (ag 2 rfl (al ?_)))))))
 have hX:fY s0 s1 n0 n1 w0 w1 (⟨idn,kind,0,au,move,sum⟩:bW)=(w0,m++([(⟨(⟨0,0,0,0⟩:aZ),n0⟩:bL)]),(⟨0,0⟩:Answer)):=by
   (have ht:s0.kept.take q=s0.kept:=List.take_of_length_le aa);rw [ht] at hi0_1;unfold fY;dsimp only;rw [if_pos rfl];unfold lW ka;rw [<-hi0_1];first|rw [if_pos fa]|rw [if_neg fa]
 rw [hX] at hr;clear hX
 simp only [Prod.mk.injEq] at hr;obtain ⟨rfl,rfl,rfl⟩:=hr
 exact bb [0,1] 1 rfl
theorem FQ (x:Nat->Value) (hx:∀ i,(x i).oneCell'=true) (s0 s1:bK) (n0 n1:Int) (w0 w1:List bL) (idn kind au move sum:Int) (l0:w0.length<=60) (l1:w1.length<=60) (m0:s0.kept.length<=40) (m1:s1.kept.length<=40) (v0:List bL) (v1:List bL) (a2:Answer) (hr:fY s0 s1 n0 n1 w0 w1 (⟨idn,kind,1,au,move,sum⟩:bW)=(v0,v1,a2)):cS Tryz.prog 36 [(.c (.p 0 0 0 0)),(.c (.q (ek (⟨idn,kind,1,au,move,sum⟩:bW)) 0))] [(0,(.box 58 (((((((((cL x).set 5 (cI s0.bj)).set 6 (bX s0.kept)).set 7 (cI s1.bj)).set 8 (bX s1.kept)).set 9 (cI n0)).set 10 (cI n1)).set 11 (dj w0)).set 12 (dj w1))))] [0] (.v (.g [cI a2.err,cI a2.ba])) [(0,(.box 58 (((((((((cL x).set 5 (cI s0.bj)).set 6 (bX s0.kept)).set 7 (cI s1.bj)).set 8 (bX s1.kept)).set 9 (cI n0)).set 10 (cI n1)).set 11 (dj v0)).set 12 (dj v1))))]:=by
 refine cS.HY 83 [(0,(aC (.p 0 0 0 0))),(1,(aC (.q (ek (⟨idn,kind,1,au,move,sum⟩:bW)) 0)))] 1 Tryz.func36 rfl rfl rfl rfl rfl rfl rfl rfl rfl ?_
 intro W0 F0 T0 pg hF
 have hF0:∀ b,F0 b->(pg 0).g=b:=fun b hb=>by obtain ⟨k,hk,h⟩:=hF b hb;rw [List.mem_singleton.1 hk] at h;exact h
 refine ag 1 rfl (af (bQ 20 (false) ?_ ?_))
 ·
  exact ah (ad 4 rfl (az (bm rfl rfl rfl (show _=some (Value.bool true) from rfl)) rfl (ad 5 rfl (dg (aR.yes rfl rfl rfl) (bm rfl rfl rfl (show _=some (Value.bool false) from rfl)) rfl rfl (ad 1 rfl (ae (aq.pz 12 rfl)))))))
 refine ax rfl (fun hno=>by cases hno) (fun _=>?_)
 refine aD (ag 6 rfl (aw 5 rfl (az (du (i:=0) rfl rfl rfl fJ fK) rfl (ad 1 rfl (ay 3 [2,1,0] (cA 2 (qn w0 aa) II rfl) rfl (ad 1 rfl (ae (af (af (bg [0,1,4,5,6] [2,1,0] rfl (aF 8 rfl (bh 3 [42,39] [0] rfl (du (i:=1) rfl rfl rfl jh jj) (aF 2 rfl (bh 3 [45] [] rfl (cD rfl rfl gK) (aF 1 rfl (bf [2,1,0] rfl (ae (aL (cb (β:=Nat×List bL) (fun (p:Nat×List bL)=>match p with|(q,m)=>⟨[(0,(aC (.p 0 0 0 0))),(1,(aC (.q (ek (⟨idn,kind,1,au,move,sum⟩:bW)) 0))),(4,(aC (.p 1 0 0 0))),(5,(aI 0)),(6,(aC (.s 2 0 5 m.length))),(45,(aC (bX s1.kept))),(46,(aI (↑s1.kept.length:Int))),(47,(aI (↑q:Int)))],[(2,(jY m)),(1,(.box 53 [(cI 0),(cI 0)])),(0,(.box 58 (((((((((cL x).set 5 (cI s0.bj)).set 6 (bX s0.kept)).set 7 (cI s1.bj)).set 8 (bX s1.kept)).set 9 (cI n0)).set 10 (cI n1)).set 11 (dj w0)).set 12 (dj w1))))],3⟩) (fun (p:Nat×List bL)=>match p with|(q,m)=>q<=s1.kept.length/\m=w0++(s1.kept.take q).map (fun t=>(⟨t,-1⟩:bL))) (fun (p:Nat×List bL)=>match p with|(q,m)=>s1.kept.length - q) (0,w0) ?_ ?_ ?_)))))))))))))))))))
 ·exact ⟨aa,ca⟩
 ·exact aq.rz id
 rintro ⟨q,m⟩ ⟨hi0_0,hi0_1⟩
 have hml:m.length=w0.length+q:=by rw [hi0_1];simp;omega
 refine ag 1 rfl (af (aO rfl (fun hc2'=>?_) (fun hc2'=>?_)))
 ·
  refine aD (af (aL (dq ?_)))
  obtain ⟨x1,hx1⟩:=bO (xs:=s1.kept) (i:=q) aa
  refine az (dO (i:=q) rfl rfl rfl gK kS (aV hx1)) rfl (ad 3 rfl (ae (ah (ad 3 rfl (ay 5 [4,3,2,1,0] (dM (ys:=[(0,(.g [(cI x1.number),(cI x1.kind),(cI x1.ba),(cI x1.sum),(cI (-1))]))]) (rows:=([(⟨x1,(-1)⟩:bL)]).map eG) 4 jI rfl) rfl (ay 6 [5,4,3,1,0] (dU (m:=1) (N:=m.length+1) (k2:=5) (ys:=([(⟨x1,(-1)⟩:bL)]).map eG) jI rfl rfl rfl rfl dv) rfl (ad 1 rfl (bq (aN (then_ok (ah (bl rfl rfl rfl rfl aa (ad 1 rfl (ae (⟨(q+1,m++([(⟨x1,(-1)⟩:bL)])),⟨aa,by rw [List.take_add_one,hx1,List.map_append,<-List.append_assoc,<-hi0_1];rfl⟩,bT,aq.rz (fun k=>if k=2 then 5 else k) (by refine ⟨?_,?_,?_,?_,?_,?_,?_,?_,trivial⟩<;>first|rfl|(simp only [fQ];done)|(congr 3;omega)|(congr 4;omega)|(simp only [fR];rfl)|(first|exact gl rfl aa|exact jR rfl (by simp only [List.length_append,List.length_cons,List.length_nil];omega)))⟩)))))))))))))))
 refine bR (aE (aE (bw (then_ok (af (bg [0,1,4,5,6,45,46,47] [2,1,0] rfl (aF 9 rfl (bh 3 [65,62] [0] rfl (du (i:=1) rfl rfl rfl kc eu) (aF 2 rfl (bM 4 [68] [] rfl (dM (ys:=[(0,(.g [(cI 0),(cI 0),(cI 0),(cI 0),(cI n1)]))]) (rows:=([(⟨(⟨0,0,0,0⟩:aZ),n1⟩:bL)]).map eG) 3 jI rfl) rfl (bM 5 [57,69] [3,2] rfl (dU (m:=1) (N:=m.length+1) (k2:=4) (ys:=([(⟨(⟨0,0,0,0⟩:aZ),n1⟩:bL)]).map eG) jI rfl rfl rfl rfl dv) rfl (bf [4,1,0] rfl (ad 1 rfl (ae (af (aw 1 rfl (az (dn rfl rfl rfl rfl rfl ir) rfl (ad 1 rfl (ae (aO rfl (fun hc3'=>?_) (fun hc3'=>?_)))))))))))))))))))))
 ·
  refine ag 2 rfl (al (aj ?_))
  have hX:fY s0 s1 n0 n1 w0 w1 (⟨idn,kind,1,au,move,sum⟩:bW)=(w0,w1,(⟨5,0⟩:Answer)):=by
    (have ht:s1.kept.take q=s1.kept:=List.take_of_length_le aa);rw [ht] at hi0_1;unfold fY;dsimp only;rw [if_neg cm,if_pos rfl];unfold lW ka;rw [<-hi0_1];first|rw [if_pos fa]|rw [if_neg fa]
  rw [hX] at hr;clear hX
  simp only [Prod.mk.injEq] at hr;obtain ⟨rfl,rfl,rfl⟩:=hr
  exact bb [0,1] 1 rfl
 refine aD (vH (s':=[(0,(aC (.p 0 0 0 0))),(1,(aC (.q (ek (⟨idn,kind,1,au,move,sum⟩:bW)) 0))),(4,(aC (.p 1 0 0 0))),(5,(aI 0)),(6,(aC (dj (m++([(⟨(⟨0,0,0,0⟩:aZ),n1⟩:bL)]))))),(45,(aC (bX s1.kept))),(46,(aI (↑s1.kept.length:Int))),(47,(aI (↑q:Int))),(70,(aC (dj (m++([(⟨(⟨0,0,0,0⟩:aZ),n1⟩:bL)]))))),(71,(aC (dj (m++([(⟨(⟨0,0,0,0⟩:aZ),n1⟩:bL)]))))),(72,(aI (↑(m.length+1):Int))),(73,(aB (decide ((↑(m.length+1):Int) > 60))))]) (h':=[(1,(.box 53 [(cI 0),(cI 0)])),(0,(.box 58 (((((((((cL x).set 5 (cI s0.bj)).set 6 (bX s0.kept)).set 7 (cI s1.bj)).set 8 (bX s1.kept)).set 9 (cI n0)).set 10 (cI n1)).set 11 (dj w0)).set 12 (dj w1))))]) hF0 4 rfl rfl ⟨⟨_,rfl,.inl ⟨rfl,rfl⟩⟩,⟨_,rfl,.inl ⟨rfl,rfl⟩⟩,⟨_,rfl,.inl ⟨rfl,rfl⟩⟩,⟨_,rfl,.inl ⟨rfl,rfl⟩⟩,⟨_,rfl,.inr ⟨_,_,rfl,rfl,.s rfl cm bT⟩⟩,⟨_,rfl,.inl ⟨rfl,rfl⟩⟩,⟨_,rfl,.inl ⟨rfl,rfl⟩⟩,⟨_,rfl,.inl ⟨rfl,rfl⟩⟩,⟨_,rfl,.inr ⟨_,_,rfl,rfl,.s rfl cm bT⟩⟩,⟨_,rfl,.inr ⟨_,_,rfl,rfl,.s rfl cm bT⟩⟩,⟨_,rfl,.inl ⟨rfl,rfl⟩⟩,⟨_,rfl,.inl ⟨rfl,rfl⟩⟩,trivial⟩ ⟨rfl,rfl,trivial⟩ rfl (aw 6 rfl (az (du (i:=0) rfl rfl rfl fJ fK) rfl (ad 1 rfl (ae (ag 2 rfl (al ?_)))))))
 have hX:fY s0 s1 n0 n1 w0 w1 (⟨idn,kind,1,au,move,sum⟩:bW)=(m++([(⟨(⟨0,0,0,0⟩:aZ),n1⟩:bL)]),w1,(⟨0,0⟩:Answer)):=by
   (have ht:s1.kept.take q=s1.kept:=List.take_of_length_le aa);rw [ht] at hi0_1;unfold fY;dsimp only;rw [if_neg cm,if_pos rfl];unfold lW ka;rw [<-hi0_1];first|rw [if_pos fa]|rw [if_neg fa]
 rw [hX] at hr;clear hX
 simp only [Prod.mk.injEq] at hr;obtain ⟨rfl,rfl,rfl⟩:=hr
 exact bb [0,1] 1 rfl
theorem FP (x:Nat->Value) (hx:∀ i,(x i).oneCell'=true) (s0 s1:bK) (n0 n1:Int) (w0 w1:List bL) (d:bW) (l0:w0.length<=60) (l1:w1.length<=60) (m0:s0.kept.length<=40) (m1:s1.kept.length<=40) (hn:¬d.n=0/\¬d.n=1) (v0:List bL) (v1:List bL) (a2:Answer) (hr:fY s0 s1 n0 n1 w0 w1 d=(v0,v1,a2)):cS Tryz.prog 36 [(.c (.p 0 0 0 0)),(.c (.q (ek d) 0))] [(0,(.box 58 (((((((((cL x).set 5 (cI s0.bj)).set 6 (bX s0.kept)).set 7 (cI s1.bj)).set 8 (bX s1.kept)).set 9 (cI n0)).set 10 (cI n1)).set 11 (dj w0)).set 12 (dj w1))))] [0] (.v (.g [cI a2.err,cI a2.ba])) [(0,(.box 58 (((((((((cL x).set 5 (cI s0.bj)).set 6 (bX s0.kept)).set 7 (cI s1.bj)).set 8 (bX s1.kept)).set 9 (cI n0)).set 10 (cI n1)).set 11 (dj v0)).set 12 (dj v1))))]:=by
 refine cS.HY 83 [(0,(aC (.p 0 0 0 0))),(1,(aC (.q (ek d) 0)))] 1 Tryz.func36 rfl rfl rfl rfl rfl rfl rfl rfl rfl ?_
 intro W0 F0 T0 pg hF
 have hF0:∀ b,F0 b->(pg 0).g=b:=fun b hb=>by obtain ⟨k,hk,h⟩:=hF b hb;rw [List.mem_singleton.1 hk] at h;exact h
 refine ag 1 rfl (af (bQ 20 ((decide (¬d.n=0)) && (decide (¬d.n=1))) ?_ ?_))
 ·
  refine ah (ad 6 rfl (bz 14 rfl (fun hb1'=>?_) (fun hb1'=>?_)))
  ·
   exact ad 6 rfl (ae (aq.pz 13 rfl))
  exact ad 6 rfl (ae (aq.pz 13 rfl))
 refine ax rfl (fun hc2=>?_) (fun hc2=>?_)
 ·
  have hc2':=hc2;try simp only [aT,bx] at hc2'
  refine ag 2 rfl (al (aj ?_))
  have hX:fY s0 s1 n0 n1 w0 w1 d=(w0,w1,(⟨6,0⟩:Answer)):=by
    unfold fY;rw [if_neg hn.1,if_neg hn.2]
  rw [hX] at hr;clear hX
  simp only [Prod.mk.injEq] at hr;obtain ⟨rfl,rfl,rfl⟩:=hr
  exact bb [0,1] 1 rfl
 have hc2':=hc2;try simp only [aT,bx] at hc2'
 (exfalso;simp at *;omega)
theorem Jj (x:Nat->Value) (hx:∀ i,(x i).oneCell'=true) (aM:List ar) (days:List (List Int)) (l0:aM.length<=100) (l1:days.length<=1000) (today2:List ar) (days2:List (List Int)) (a2:Answer) (hr:kO aM days=(today2,days2,a2)):cS Tryz.prog 39 [(.c (.p 0 0 0 0))] [(0,(.box 58 (((cL x).set 16 (.s 1 0 4 aM.length)).set 17 (.s 2 0 1 days.length)))),(1,(cX aM)),(2,(mY days))] [0] (.v (.g [cI a2.err,cI a2.ba])) [(0,(.box 58 (((cL x).set 16 (.s 1 0 4 today2.length)).set 17 (.s 2 0 1 days2.length)))),(1,(cX today2)),(2,(mY days2))]:=by
 refine cS.mk 37 [(0,(aC (.p 0 0 0 0)))] 3 Tryz.func39 rfl rfl rfl rfl rfl rfl rfl rfl rfl ?_
 intro W0 F0 T0 pg
 refine ag 1 rfl (aw 5 rfl ?_)
 obtain ⟨xr0,f0,hr0⟩:∃ (xr0:List Int) (f0:cM),iy aM=(xr0,f0):=⟨_,_,rfl⟩
 refine Ew (av':=(.t [(.c (CU xr0)),(.g [(cI f0.err),(cI f0.at_)])])) (aR.plain rfl) (kH 4 [1] (As aM aa xr0 f0 hr0) Lh ⟨trivial,⟨rfl,rfl,trivial⟩,trivial⟩ ⟨(Bm _),trivial⟩ rfl) ⟨.inr ⟨_,_,_,_,_,rfl,rfl,rfl,ca⟩,⟨.inl ⟨_,rfl,rfl⟩,.inl ⟨_,rfl,rfl⟩,trivial⟩,trivial⟩ rfl rfl rfl (ad 6 rfl (ae (af (ag 3 rfl (aO rfl (fun hc1'=>?_) (fun hc1'=>?_))))))
 ·
  refine ag 4 rfl (al (aj ?_))
  have hX:kO aM days=(aM,days,(⟨f0.err,0⟩:Answer)):=by
    unfold kO;simp only [hr0];(repeat' split)<;>first|rfl|omega|(simp_all;done)
  rw [hX] at hr;clear hX
  simp only [Prod.mk.injEq] at hr;obtain ⟨rfl,rfl,rfl⟩:=hr
  exact bb [0,1,2,3] 3 rfl
 refine aD (aw 7 rfl (ay 6 [5,4,3,0,1,2] (dM (ys:=[(0,(.c (CU xr0)))]) (rows:=([xr0]).map pT) 5 vK rfl) rfl (ay 7 [6,5,4,3,0,1] (dU (m:=1) (N:=days.length+1) (k2:=6) (ys:=([xr0]).map pT) vK rfl rfl rfl rfl dv) rfl (ad 4 rfl (ae (dW (k:=0) (q:=17) (c':=(.s 6 0 1 ((days++([xr0])).length))) rfl rfl jN rfl (ag 5 rfl (ag 2 rfl (al (cc 0 16 103 4 rfl rfl rfl ?_))))))))))
 have hX:kO aM days=(([]:List ar),days++([xr0]),(⟨0,0⟩:Answer)):=by
   unfold kO;simp only [hr0];(repeat' split)<;>first|rfl|omega|(simp_all;done)
 rw [hX] at hr;clear hX
 simp only [Prod.mk.injEq] at hr;obtain ⟨rfl,rfl,rfl⟩:=hr
 exact bb [0,7,6,3] 3 rfl

theorem El (x:Nat->Value) (hx:∀ i,(x i).oneCell'=true) (b:Bk) (idn kind au move sum:Int) (ok:cH b) (b2:Bk) (a2:Answer) (hr:db b (⟨idn,kind,0,au,move,sum⟩:bW)=(b2,a2)):cS Tryz.prog 37 [(.c (.p 0 0 0 0)),(.c (.q (ek (⟨idn,kind,0,au,move,sum⟩:bW)) 0))] [(0,(.box 58 (cf b 1 2 3 4 (.d (.v (x 17))) (.d (.v (x 19)))))),(1,(dS b.ak)),(2,(dR b.due)),(3,(ec b.an)),(4,(cX b.aM))] [0] (.v (.g [cI a2.err,cI a2.ba])) [(0,(.box 58 (cf b2 1 2 3 4 (.d (.v (x 17))) (.d (.v (x 19)))))),(1,(dS b2.ak)),(2,(dR b2.due)),(3,(ec b2.an)),(4,(cX b2.aM))]:=by
 refine cS.mk 153 [(0,(aC (.p 0 0 0 0))),(1,(aC (.q (ek (⟨idn,kind,0,au,move,sum⟩:bW)) 0)))] 5 Tryz.func37 rfl rfl rfl rfl rfl rfl rfl rfl rfl ?_
 intro W0 F0 T0 pg
 obtain ⟨okt,okc,okd,oka,oky,okw0,okw1,okp,okv,okk0,okk1,okg,okl0,okl1,okp0,okp1,okn0,okn1,okq⟩:=id ok
 refine ag 1 rfl (af (af (bg [0,1,4] [5,0,1,2,3,4] rfl (bC (kn:=[(15,false)]) bn 21 rfl ⟨rfl,trivial⟩ (cG (n':=6) [31,28,23] [0] rfl rfl (.inl ⟨(aR.yes rfl rfl rfl),du (i:=0) rfl rfl rfl fJ fK⟩) rfl (aF 1 rfl (cG (n':=6) [33,23] [] rfl rfl (.inl ⟨(aR.yes rfl rfl rfl),cD rfl rfl ir⟩) rfl (aF 2 rfl (bf [5,0,1,2,3,4] rfl (ae (aO rfl (fun hc1'=>?_) (fun hc1'=>?_))))))))))))
 ·
  refine ag 2 rfl (al (aj ?_))
  have hX:db b (⟨idn,kind,0,au,move,sum⟩:bW)=(b,(⟨6,0⟩:Answer)):=by
    unfold db;dsimp only;rw [if_pos rfl];unfold iG;rw [List.getElem?_eq_none aa]
  cases hX.symm.trans hr;clear hX
  exact bb [0,1,2,3,4,5] 5 rfl
 refine aD (af ?_)
 obtain ⟨x1,hx1⟩:=bO (xs:=b.w0) (i:=0) aa
 refine bg [0,1,4] [5,0,1,2,3,4] rfl (aF 8 rfl (bh 6 [45,42] [0] rfl (du (i:=0) rfl rfl rfl fJ fK) (aF 1 rfl (bh 6 [47] [] rfl (dO (i:=0) rfl rfl rfl ir nV (aV hx1)) (bC (n':=7) (kn:=[]) bn 2 rfl trivial (bf [6,5,0,1,2,3,4] rfl (ad 1 rfl (ae ?_))))))))
 have hpk:=okp0 x1 (List.mem_of_getElem? hx1)
 have hI0:∀ t∈b.s0.kept,fb t.number:=fun t ht=>(okk0 t ht).1
 have hI1:∀ t∈b.s1.kept,fb t.number:=fun t ht=>(okk1 t ht).1
 have hA:∀ a∈b.an,0<=a.aA/\a.aA < b.ak.length/\0<=a.au/\a.au < b.due.length:=fun a ha=>(okp a ha).2
 refine aw 1 rfl (ay 16 [0,7,8,9,10,11,12,13,14,15,6,5] (fm id (bp [0,7,8,9,10,11,12,13,14,15]) (nu (x 17) (x 19) b aa aa aa aa) uk rfl) rfl (ad 1 rfl (ae (af (bg [0,1,4,5,6] [0,7,8,9,10,11,12,13,14,15,6,5] rfl (aF 13 rfl (bh 16 [64,61] [0] rfl (du (i:=0) rfl rfl rfl fJ fK) (aF 1 rfl (bh 16 [66] [] rfl (qU (l:=1) (h:=b.w0.length) (ys:=((b.w0).drop 1).map eG) rfl ir nV rfl (.inr ⟨_,rfl,rfl⟩) (.inl ⟨rfl,ca⟩) aa bT (by first|(simp;done)|(rw [List.map_drop];exact List.take_of_length_le ca))) (aF 3 rfl (bh 16 [70,56] [7] rfl (du (i:=0) rfl rfl rfl fJ fK) (bf [0,7,8,9,10,11,12,13,14,15,6,5] rfl (ad 1 rfl (ae (af (ag 5 rfl (aO rfl (fun hc2'=>?_) (fun hc2'=>?_))))))))))))))))))
 ·
  refine aw 2 rfl (ay 20 [0,16,17,18,19,6,5] (fm (bp [0,7,8,9,10,11,12,13,14,15]) (bp [0,16,17,18,19]) (gQ (x 17) (x 19) b (⟨b.time,b.down,b.ak,b.due,b.an,b.s0,b.s1,b.n0,b.n1,(b.w0).drop 1,b.w1,b.aQ,b.aM,b.book⟩:Bk) 0 hJ) iD rfl) rfl (ad 2 rfl (ae (al (aj ?_)))))
  have hX:db b (⟨idn,kind,0,au,move,sum⟩:bW)=((⟨b.time,b.down,b.ak,b.due,b.an,b.s0,b.s1,b.n0,b.n1,(b.w0).drop 1,b.w1,b.aQ,b.aM,b.book⟩:Bk),(⟨0,0⟩:Answer)):=by
    unfold db;dsimp only;rw [if_pos rfl];unfold iG;rw [hx1];dsimp only;(try simp only [eH]);(try unfold eH);exact sx
  cases hX.symm.trans hr;clear hX
  exact bb [0,16,17,18,19,5] 5 rfl
 refine aD (af (ag 3 rfl (aO rfl (fun hc3'=>?_) (fun hc3'=>?_))))
 ·
  refine af ?_
  obtain ⟨xr0,e0,hr0⟩:∃ (xr0:bK) (e0:Int),en b.s0 x1.seen=(xr0,e0):=⟨_,_,rfl⟩
  refine eJ [0,1,4,5,6] [0,7,8,9,10,11,12,13,14,15,6,5] rfl (cV 8 rfl (dZ 16 [92,89] [7] rfl (du (i:=0) rfl rfl rfl jh jj) (cV 3 rfl (de 16 [94,96] [] rfl (cA 16 (Fn.frozen (av':=(.t [(.g [(cI xr0.bj),(bX xr0.kept)]),(.c (cI e0))])) (tq b.s0 x1.seen (by first|assumption|exact iU dr aa|exact ia dr dr|(simp [fb];done)) xr0 e0 hr0) ⟨⟨.inl ⟨_,rfl,rfl⟩,.inr ⟨_,_,_,_,_,rfl,rfl,rfl,ca⟩,trivial⟩,.inl ⟨_,rfl,rfl⟩,trivial⟩) IH rfl) rfl (gJ (n':=17) (kn:=[]) bn 6 rfl trivial (eb [0,1,4,5,6,7,8] [16,0,7,8,9,10,11,12,13,14,15,6,5] rfl rfl aJ (then_ok (af (aw 2 rfl ?_)))))))))
  obtain ⟨e21,hr1⟩:∃ (e21:Int),cp 0 e0=e21:=⟨_,rfl⟩
  refine ay 17 [7,16,0,8,9,10,11,12,13,14,15,6,5] (cz (bp [7]) (bp [7]) (ms:=(bY.set 19 (some (cI 0)))) (ms':=(bY.set 19 (some (cI e21)))) (fun x hx=>mO x hx 0 e0 e21 hr1) qY rfl) rfl (ad 1 rfl (ae (ax rfl (fun hc4=>?_) (fun hc4=>?_))))
  ·
   have hc4':=hc4;try simp only [aT,bx] at hc4'
   refine bg [0,1,4,5,6,7] [7,16,0,8,9,10,11,12,13,14,15,6,5] rfl (aF 9 rfl (bh 17 [112,108] [7] rfl (du (i:=0) rfl rfl rfl jh jj) (bf [7,16,0,8,9,10,11,12,13,14,15,6,5] rfl (ad 1 rfl (ae ?_)))))
   rcases (show e21=0\/¬e21=0 from aa) with hs5|hs5
   ·
    refine aw 2 rfl (ay 21 [0,17,18,19,20,16,6,5] (fm (bp [0,7,8,9,10,11,12,13,14,15]) (bp [0,17,18,19,20]) (gQ (x 17) (x 19) b (⟨b.time,b.down,b.ak,b.due,b.an,xr0,b.s1,b.n0,b.n1,(b.w0).drop 1,b.w1,b.aQ,b.aM,b.book⟩:Bk) e21 hJ) iD rfl) rfl (ad 2 rfl (ae (al (aj ?_)))))
    have hX:db b (⟨idn,kind,0,au,move,sum⟩:bW)=((⟨b.time,b.down,b.ak,b.due,b.an,xr0,b.s1,b.n0,b.n1,(b.w0).drop 1,b.w1,b.aQ,b.aM,b.book⟩:Bk),(⟨e21,0⟩:Answer)):=by
      unfold db;dsimp only;rw [if_pos rfl];unfold iG;rw [hx1];dsimp only;unfold cp at hr1;simp only [if_true] at hr1;(try simp only [hr0]);(try unfold eH);exact sx
    cases hX.symm.trans hr;clear hX
    exact bb [0,17,18,19,20,5] 5 rfl
   refine aw 2 rfl (ay 21 [0,17,18,19,20,16,6,5] (fm (bp [0,7,8,9,10,11,12,13,14,15]) (bp [0,17,18,19,20]) (jd (x 17) (x 19) b (⟨b.time,b.down,b.ak,b.due,b.an,xr0,b.s1,b.n0,b.n1,(b.w0).drop 1,b.w1,b.aQ,b.aM,b.book⟩:Bk) e21 hJ) iD rfl) rfl (ad 2 rfl (ae (al (aj ?_)))))
   have hX:db b (⟨idn,kind,0,au,move,sum⟩:bW)=(b,(⟨e21,0⟩:Answer)):=by
     unfold db;dsimp only;rw [if_pos rfl];unfold iG;rw [hx1];dsimp only;unfold cp at hr1;simp only [if_true] at hr1;(try simp only [hr0]);(try unfold eH);exact sx
   cases hX.symm.trans hr;clear hX
   exact bb [0,17,18,19,20,5] 5 rfl
  have hc4':=hc4;try simp only [aT,bx] at hc4'
  refine aD ?_
  rcases (show e21=0\/¬e21=0 from aa) with hs6|hs6
  ·
   refine aw 2 rfl (ay 21 [0,17,18,19,20,16,6,5] (fm (bp [0,7,8,9,10,11,12,13,14,15]) (bp [0,17,18,19,20]) (gQ (x 17) (x 19) b (⟨b.time,b.down,b.ak,b.due,b.an,b.s0,b.s1,b.n0,b.n1,(b.w0).drop 1,b.w1,b.aQ,b.aM,b.book⟩:Bk) e21 hJ) iD rfl) rfl (ad 2 rfl (ae (al (aj ?_)))))
   have hX:db b (⟨idn,kind,0,au,move,sum⟩:bW)=((⟨b.time,b.down,b.ak,b.due,b.an,b.s0,b.s1,b.n0,b.n1,(b.w0).drop 1,b.w1,b.aQ,b.aM,b.book⟩:Bk),(⟨e21,0⟩:Answer)):=by
     unfold db;dsimp only;rw [if_pos rfl];unfold iG;rw [hx1];dsimp only;unfold cp at hr1;simp only [if_true] at hr1;(try simp only [hr0]);(try unfold eH);exact sx
   cases hX.symm.trans hr;clear hX
   exact bb [0,17,18,19,20,5] 5 rfl
  refine aw 2 rfl (ay 21 [0,17,18,19,20,16,6,5] (fm (bp [0,7,8,9,10,11,12,13,14,15]) (bp [0,17,18,19,20]) (jd (x 17) (x 19) b (⟨b.time,b.down,b.ak,b.due,b.an,b.s0,b.s1,b.n0,b.n1,(b.w0).drop 1,b.w1,b.aQ,b.aM,b.book⟩:Bk) e21 hJ) iD rfl) rfl (ad 2 rfl (ae (al (aj ?_)))))
  have hX:db b (⟨idn,kind,0,au,move,sum⟩:bW)=(b,(⟨e21,0⟩:Answer)):=by
    unfold db;dsimp only;rw [if_pos rfl];unfold iG;rw [hx1];dsimp only;unfold cp at hr1;simp only [if_true] at hr1;(try simp only [hr0]);(try unfold eH);exact sx
  cases hX.symm.trans hr;clear hX
  exact bb [0,17,18,19,20,5] 5 rfl
 refine aD (af ?_)
 obtain ⟨n2,ok2,hr2⟩:∃ (n2:Int) (ok2:Bool),jK b.n0 x1.bD=(n2,ok2):=⟨_,_,rfl⟩
 refine bg [0,1,4,5,6] [0,7,8,9,10,11,12,13,14,15,6,5] rfl (aF 8 rfl (bh 16 [126,123] [7] rfl (du (i:=0) rfl rfl rfl kc eu) (aF 3 rfl (bM 16 [128,130] [] rfl (cA 16 (tp b.n0 x1.bD n2 ok2 hr2) IG rfl) rfl (aF 5 rfl (bf [0,7,8,9,10,11,12,13,14,15,6,5] rfl (ae (af (bg [0,1,4,5,6,9,10] [0,7,8,9,10,11,12,13,14,15,6,5] rfl (aF 9 rfl (bh 16 [142,138] [7] rfl (du (i:=0) rfl rfl rfl kc eu) (bf [0,7,8,9,10,11,12,13,14,15,6,5] rfl (ad 1 rfl (ae (af (ag 1 rfl (ax rfl (fun hc7=>?_) (fun hc7=>?_))))))))))))))))))
 ·
  have hc7':=hc7;try simp only [aT,bx] at hc7'
  have hpk2:=hpk aa
  refine ah (ad 3 rfl ?_)
  obtain ⟨due23,cards23,book23,e23,hr3⟩:∃ (due23:List Int) (cards23:List bF) (book23:List Entry) (e23:Int),eD b.an b.due b.ak b.book 0 x1.bD=(due23,cards23,book23,e23):=⟨_,_,_,_,rfl⟩
  refine ay 19 [7,16,17,18,0,8,9,10,11,15,6,5] (cz (bp [7,12,13,14]) (bp [7,16,17,18]) (ms:=(((((bY.set 2 (some (.s 1 0 6 b.ak.length))).set 3 (some (.s 2 0 1 b.due.length))).set 4 (some (.s 3 0 8 b.an.length))).set 18 (some (cE b.book))).set 19 (some (cI 0)))) (ms':=(((((bY.set 2 (some (.s 1 0 6 cards23.length))).set 3 (some (.s 2 0 1 due23.length))).set 4 (some (.s 3 0 8 b.an.length))).set 18 (some (cE book23))).set 19 (some (cI e23)))) (fun x hx=>Ec x hx b.an b.due b.ak b.book 0 x1.bD aa dr aa aa due23 cards23 book23 e23 hr3) IF rfl) rfl (ae ?_)
  rcases (show e23=0\/¬e23=0 from aa) with hs8|hs8
  ·
   refine aw 2 rfl (ay 23 [0,19,20,21,22,6,5] (fm (bp [0,7,8,9,10,11,16,17,18,15]) (bp [0,19,20,21,22]) (gQ (x 17) (x 19) b (⟨b.time,b.down,cards23,due23,b.an,b.s0,b.s1,n2,b.n1,(b.w0).drop 1,b.w1,b.aQ,b.aM,book23⟩:Bk) e23 hJ) iD rfl) rfl (ad 2 rfl (ae (al ?_))))
   have hX:db b (⟨idn,kind,0,au,move,sum⟩:bW)=((⟨b.time,b.down,cards23,due23,b.an,b.s0,b.s1,n2,b.n1,(b.w0).drop 1,b.w1,b.aQ,b.aM,book23⟩:Bk),(⟨e23,0⟩:Answer)):=by
     unfold db;dsimp only;rw [if_pos rfl];unfold iG;rw [hx1];dsimp only;(try simp only [hr2,hr3]);(try unfold eH);exact sx
   cases hX.symm.trans hr;clear hX
   exact bb [0,19,20,21,22,5] 5 rfl
  refine aw 2 rfl (ay 23 [0,19,20,21,22,6,5] (fm (bp [0,7,8,9,10,11,16,17,18,15]) (bp [0,19,20,21,22]) (jd (x 17) (x 19) b (⟨b.time,b.down,cards23,due23,b.an,b.s0,b.s1,n2,b.n1,(b.w0).drop 1,b.w1,b.aQ,b.aM,book23⟩:Bk) e23 hJ) iD rfl) rfl (ad 2 rfl (ae (al ?_))))
  have hX:db b (⟨idn,kind,0,au,move,sum⟩:bW)=(b,(⟨e23,0⟩:Answer)):=by
    unfold db;dsimp only;rw [if_pos rfl];unfold iG;rw [hx1];dsimp only;(try simp only [hr2,hr3]);(try unfold eH);exact sx
  cases hX.symm.trans hr;clear hX
  exact bb [0,19,20,21,22,5] 5 rfl
 have hc7':=hc7;try simp only [aT,bx] at hc7'
 refine aD (aw 2 rfl (ay 20 [0,16,17,18,19,6,5] (fm (bp [0,7,8,9,10,11,12,13,14,15]) (bp [0,16,17,18,19]) (gQ (x 17) (x 19) b (⟨b.time,b.down,b.ak,b.due,b.an,b.s0,b.s1,n2,b.n1,(b.w0).drop 1,b.w1,b.aQ,b.aM,b.book⟩:Bk) 0 hJ) iD rfl) rfl (ad 2 rfl (ae (al ?_)))))
 have hX:db b (⟨idn,kind,0,au,move,sum⟩:bW)=((⟨b.time,b.down,b.ak,b.due,b.an,b.s0,b.s1,n2,b.n1,(b.w0).drop 1,b.w1,b.aQ,b.aM,b.book⟩:Bk),(⟨0,0⟩:Answer)):=by
   unfold db;dsimp only;rw [if_pos rfl];unfold iG;rw [hx1];dsimp only;(try simp only [hr2]);(try unfold eH);exact sx
 cases hX.symm.trans hr;clear hX
 exact bb [0,16,17,18,19,5] 5 rfl
theorem Ek (x:Nat->Value) (hx:∀ i,(x i).oneCell'=true) (b:Bk) (idn kind au move sum:Int) (ok:cH b) (b2:Bk) (a2:Answer) (hr:db b (⟨idn,kind,1,au,move,sum⟩:bW)=(b2,a2)):cS Tryz.prog 37 [(.c (.p 0 0 0 0)),(.c (.q (ek (⟨idn,kind,1,au,move,sum⟩:bW)) 0))] [(0,(.box 58 (cf b 1 2 3 4 (.d (.v (x 17))) (.d (.v (x 19)))))),(1,(dS b.ak)),(2,(dR b.due)),(3,(ec b.an)),(4,(cX b.aM))] [0] (.v (.g [cI a2.err,cI a2.ba])) [(0,(.box 58 (cf b2 1 2 3 4 (.d (.v (x 17))) (.d (.v (x 19)))))),(1,(dS b2.ak)),(2,(dR b2.due)),(3,(ec b2.an)),(4,(cX b2.aM))]:=by
 refine cS.mk 153 [(0,(aC (.p 0 0 0 0))),(1,(aC (.q (ek (⟨idn,kind,1,au,move,sum⟩:bW)) 0)))] 5 Tryz.func37 rfl rfl rfl rfl rfl rfl rfl rfl rfl ?_
 intro W0 F0 T0 pg
 obtain ⟨okt,okc,okd,oka,oky,okw0,okw1,okp,okv,okk0,okk1,okg,okl0,okl1,okp0,okp1,okn0,okn1,okq⟩:=id ok
 refine ag 1 rfl (af (af (bg [0,1,4] [5,0,1,2,3,4] rfl (bC (kn:=[(15,true),(21,false)]) bn 21 rfl ⟨rfl,rfl,trivial⟩ (cG (n':=6) [31,28,23] [0] rfl rfl (.inl ⟨(aR.yes rfl rfl rfl),du (i:=1) rfl rfl rfl fJ fK⟩) rfl (aF 1 rfl (cG (n':=6) [33,23] [] rfl rfl (.inl ⟨(aR.yes rfl rfl rfl),cD rfl rfl ir⟩) rfl (aF 2 rfl (bf [5,0,1,2,3,4] rfl (ae (aO rfl (fun hc1'=>?_) (fun hc1'=>?_))))))))))))
 ·
  refine ag 2 rfl (al (aj ?_))
  have hX:db b (⟨idn,kind,1,au,move,sum⟩:bW)=(b,(⟨6,0⟩:Answer)):=by
    unfold db;dsimp only;rw [if_neg cm,if_pos rfl];unfold iF;rw [List.getElem?_eq_none aa]
  cases hX.symm.trans hr;clear hX
  exact bb [0,1,2,3,4,5] 5 rfl
 refine aD (af ?_)
 obtain ⟨x1,hx1⟩:=bO (xs:=b.w1) (i:=0) aa
 refine bg [0,1,4] [5,0,1,2,3,4] rfl (aF 8 rfl (bh 6 [45,42] [0] rfl (du (i:=1) rfl rfl rfl fJ fK) (aF 1 rfl (bh 6 [47] [] rfl (dO (i:=0) rfl rfl rfl ir nV (aV hx1)) (bC (n':=7) (kn:=[]) bn 2 rfl trivial (bf [6,5,0,1,2,3,4] rfl (ad 1 rfl (ae ?_))))))))
 have hpk:=okp1 x1 (List.mem_of_getElem? hx1)
 have hI0:∀ t∈b.s0.kept,fb t.number:=fun t ht=>(okk0 t ht).1
 have hI1:∀ t∈b.s1.kept,fb t.number:=fun t ht=>(okk1 t ht).1
 have hA:∀ a∈b.an,0<=a.aA/\a.aA < b.ak.length/\0<=a.au/\a.au < b.due.length:=fun a ha=>(okp a ha).2
 refine aw 1 rfl (ay 16 [0,7,8,9,10,11,12,13,14,15,6,5] (fm id (bp [0,7,8,9,10,11,12,13,14,15]) (nu (x 17) (x 19) b aa aa aa aa) uk rfl) rfl (ad 1 rfl (ae (af (bg [0,1,4,5,6] [0,7,8,9,10,11,12,13,14,15,6,5] rfl (aF 13 rfl (bh 16 [64,61] [0] rfl (du (i:=1) rfl rfl rfl fJ fK) (aF 1 rfl (bh 16 [66] [] rfl (qU (l:=1) (h:=b.w1.length) (ys:=((b.w1).drop 1).map eG) rfl ir nV rfl (.inr ⟨_,rfl,rfl⟩) (.inl ⟨rfl,ca⟩) aa bT (by first|(simp;done)|(rw [List.map_drop];exact List.take_of_length_le ca))) (aF 3 rfl (bh 16 [70,56] [7] rfl (du (i:=1) rfl rfl rfl fJ fK) (bf [0,7,8,9,10,11,12,13,14,15,6,5] rfl (ad 1 rfl (ae (af (ag 5 rfl (aO rfl (fun hc2'=>?_) (fun hc2'=>?_))))))))))))))))))
 ·
  refine aw 2 rfl (ay 20 [0,16,17,18,19,6,5] (fm (bp [0,7,8,9,10,11,12,13,14,15]) (bp [0,16,17,18,19]) (gQ (x 17) (x 19) b (⟨b.time,b.down,b.ak,b.due,b.an,b.s0,b.s1,b.n0,b.n1,b.w0,(b.w1).drop 1,b.aQ,b.aM,b.book⟩:Bk) 0 hJ) iD rfl) rfl (ad 2 rfl (ae (al (aj ?_)))))
  have hX:db b (⟨idn,kind,1,au,move,sum⟩:bW)=((⟨b.time,b.down,b.ak,b.due,b.an,b.s0,b.s1,b.n0,b.n1,b.w0,(b.w1).drop 1,b.aQ,b.aM,b.book⟩:Bk),(⟨0,0⟩:Answer)):=by
    unfold db;dsimp only;rw [if_neg cm,if_pos rfl];unfold iF;rw [hx1];dsimp only;(try simp only [eH]);(try unfold eH);exact sx
  cases hX.symm.trans hr;clear hX
  exact bb [0,16,17,18,19,5] 5 rfl
 refine aD (af (ag 3 rfl (aO rfl (fun hc3'=>?_) (fun hc3'=>?_))))
 ·
  refine af ?_
  obtain ⟨xr0,e0,hr0⟩:∃ (xr0:bK) (e0:Int),en b.s1 x1.seen=(xr0,e0):=⟨_,_,rfl⟩
  refine eJ [0,1,4,5,6] [0,7,8,9,10,11,12,13,14,15,6,5] rfl (cV 8 rfl (dZ 16 [92,89] [7] rfl (du (i:=1) rfl rfl rfl jh jj) (cV 3 rfl (de 16 [94,96] [] rfl (cA 16 (Fn.frozen (av':=(.t [(.g [(cI xr0.bj),(bX xr0.kept)]),(.c (cI e0))])) (tq b.s1 x1.seen (by first|assumption|exact iU dr aa|exact ia dr dr|(simp [fb];done)) xr0 e0 hr0) ⟨⟨.inl ⟨_,rfl,rfl⟩,.inr ⟨_,_,_,_,_,rfl,rfl,rfl,ca⟩,trivial⟩,.inl ⟨_,rfl,rfl⟩,trivial⟩) IH rfl) rfl (gJ (n':=17) (kn:=[]) bn 6 rfl trivial (eb [0,1,4,5,6,7,8] [16,0,7,8,9,10,11,12,13,14,15,6,5] rfl rfl aJ (then_ok (af (aw 2 rfl ?_)))))))))
  obtain ⟨e21,hr1⟩:∃ (e21:Int),cp 0 e0=e21:=⟨_,rfl⟩
  refine ay 17 [7,16,0,8,9,10,11,12,13,14,15,6,5] (cz (bp [7]) (bp [7]) (ms:=(bY.set 19 (some (cI 0)))) (ms':=(bY.set 19 (some (cI e21)))) (fun x hx=>mO x hx 0 e0 e21 hr1) qY rfl) rfl (ad 1 rfl (ae (ax rfl (fun hc4=>?_) (fun hc4=>?_))))
  ·
   have hc4':=hc4;try simp only [aT,bx] at hc4'
   refine bg [0,1,4,5,6,7] [7,16,0,8,9,10,11,12,13,14,15,6,5] rfl (aF 9 rfl (bh 17 [112,108] [7] rfl (du (i:=1) rfl rfl rfl jh jj) (bf [7,16,0,8,9,10,11,12,13,14,15,6,5] rfl (ad 1 rfl (ae ?_)))))
   rcases (show e21=0\/¬e21=0 from aa) with hs5|hs5
   ·
    refine aw 2 rfl (ay 21 [0,17,18,19,20,16,6,5] (fm (bp [0,7,8,9,10,11,12,13,14,15]) (bp [0,17,18,19,20]) (gQ (x 17) (x 19) b (⟨b.time,b.down,b.ak,b.due,b.an,b.s0,xr0,b.n0,b.n1,b.w0,(b.w1).drop 1,b.aQ,b.aM,b.book⟩:Bk) e21 hJ) iD rfl) rfl (ad 2 rfl (ae (al (aj ?_)))))
    have hX:db b (⟨idn,kind,1,au,move,sum⟩:bW)=((⟨b.time,b.down,b.ak,b.due,b.an,b.s0,xr0,b.n0,b.n1,b.w0,(b.w1).drop 1,b.aQ,b.aM,b.book⟩:Bk),(⟨e21,0⟩:Answer)):=by
      unfold db;dsimp only;rw [if_neg cm,if_pos rfl];unfold iF;rw [hx1];dsimp only;unfold cp at hr1;simp only [if_true] at hr1;(try simp only [hr0]);(try unfold eH);exact sx
    cases hX.symm.trans hr;clear hX
    exact bb [0,17,18,19,20,5] 5 rfl
   refine aw 2 rfl (ay 21 [0,17,18,19,20,16,6,5] (fm (bp [0,7,8,9,10,11,12,13,14,15]) (bp [0,17,18,19,20]) (jd (x 17) (x 19) b (⟨b.time,b.down,b.ak,b.due,b.an,b.s0,xr0,b.n0,b.n1,b.w0,(b.w1).drop 1,b.aQ,b.aM,b.book⟩:Bk) e21 hJ) iD rfl) rfl (ad 2 rfl (ae (al (aj ?_)))))
   have hX:db b (⟨idn,kind,1,au,move,sum⟩:bW)=(b,(⟨e21,0⟩:Answer)):=by
     unfold db;dsimp only;rw [if_neg cm,if_pos rfl];unfold iF;rw [hx1];dsimp only;unfold cp at hr1;simp only [if_true] at hr1;(try simp only [hr0]);(try unfold eH);exact sx
   cases hX.symm.trans hr;clear hX
   exact bb [0,17,18,19,20,5] 5 rfl
  have hc4':=hc4;try simp only [aT,bx] at hc4'
  refine aD ?_
  rcases (show e21=0\/¬e21=0 from aa) with hs6|hs6
  ·
   refine aw 2 rfl (ay 21 [0,17,18,19,20,16,6,5] (fm (bp [0,7,8,9,10,11,12,13,14,15]) (bp [0,17,18,19,20]) (gQ (x 17) (x 19) b (⟨b.time,b.down,b.ak,b.due,b.an,b.s0,b.s1,b.n0,b.n1,b.w0,(b.w1).drop 1,b.aQ,b.aM,b.book⟩:Bk) e21 hJ) iD rfl) rfl (ad 2 rfl (ae (al (aj ?_)))))
   have hX:db b (⟨idn,kind,1,au,move,sum⟩:bW)=((⟨b.time,b.down,b.ak,b.due,b.an,b.s0,b.s1,b.n0,b.n1,b.w0,(b.w1).drop 1,b.aQ,b.aM,b.book⟩:Bk),(⟨e21,0⟩:Answer)):=by
     unfold db;dsimp only;rw [if_neg cm,if_pos rfl];unfold iF;rw [hx1];dsimp only;unfold cp at hr1;simp only [if_true] at hr1;(try simp only [hr0]);(try unfold eH);exact sx
   cases hX.symm.trans hr;clear hX
   exact bb [0,17,18,19,20,5] 5 rfl
  refine aw 2 rfl (ay 21 [0,17,18,19,20,16,6,5] (fm (bp [0,7,8,9,10,11,12,13,14,15]) (bp [0,17,18,19,20]) (jd (x 17) (x 19) b (⟨b.time,b.down,b.ak,b.due,b.an,b.s0,b.s1,b.n0,b.n1,b.w0,(b.w1).drop 1,b.aQ,b.aM,b.book⟩:Bk) e21 hJ) iD rfl) rfl (ad 2 rfl (ae (al (aj ?_)))))
  have hX:db b (⟨idn,kind,1,au,move,sum⟩:bW)=(b,(⟨e21,0⟩:Answer)):=by
    unfold db;dsimp only;rw [if_neg cm,if_pos rfl];unfold iF;rw [hx1];dsimp only;unfold cp at hr1;simp only [if_true] at hr1;(try simp only [hr0]);(try unfold eH);exact sx
  cases hX.symm.trans hr;clear hX
  exact bb [0,17,18,19,20,5] 5 rfl
 refine aD (af ?_)
 obtain ⟨n2,ok2,hr2⟩:∃ (n2:Int) (ok2:Bool),jK b.n1 x1.bD=(n2,ok2):=⟨_,_,rfl⟩
 refine bg [0,1,4,5,6] [0,7,8,9,10,11,12,13,14,15,6,5] rfl (aF 8 rfl (bh 16 [126,123] [7] rfl (du (i:=1) rfl rfl rfl kc eu) (aF 3 rfl (bM 16 [128,130] [] rfl (cA 16 (tp b.n1 x1.bD n2 ok2 hr2) IG rfl) rfl (aF 5 rfl (bf [0,7,8,9,10,11,12,13,14,15,6,5] rfl (ae (af (bg [0,1,4,5,6,9,10] [0,7,8,9,10,11,12,13,14,15,6,5] rfl (aF 9 rfl (bh 16 [142,138] [7] rfl (du (i:=1) rfl rfl rfl kc eu) (bf [0,7,8,9,10,11,12,13,14,15,6,5] rfl (ad 1 rfl (ae (af (ag 1 rfl (ax rfl (fun hc7=>?_) (fun hc7=>?_))))))))))))))))))
 ·
  have hc7':=hc7;try simp only [aT,bx] at hc7'
  have hpk2:=hpk aa
  refine ah (ad 3 rfl ?_)
  obtain ⟨due23,cards23,book23,e23,hr3⟩:∃ (due23:List Int) (cards23:List bF) (book23:List Entry) (e23:Int),eD b.an b.due b.ak b.book 0 x1.bD=(due23,cards23,book23,e23):=⟨_,_,_,_,rfl⟩
  refine ay 19 [7,16,17,18,0,8,9,10,11,15,6,5] (cz (bp [7,12,13,14]) (bp [7,16,17,18]) (ms:=(((((bY.set 2 (some (.s 1 0 6 b.ak.length))).set 3 (some (.s 2 0 1 b.due.length))).set 4 (some (.s 3 0 8 b.an.length))).set 18 (some (cE b.book))).set 19 (some (cI 0)))) (ms':=(((((bY.set 2 (some (.s 1 0 6 cards23.length))).set 3 (some (.s 2 0 1 due23.length))).set 4 (some (.s 3 0 8 b.an.length))).set 18 (some (cE book23))).set 19 (some (cI e23)))) (fun x hx=>Ec x hx b.an b.due b.ak b.book 0 x1.bD aa dr aa aa due23 cards23 book23 e23 hr3) IF rfl) rfl (ae ?_)
  rcases (show e23=0\/¬e23=0 from aa) with hs8|hs8
  ·
   refine aw 2 rfl (ay 23 [0,19,20,21,22,6,5] (fm (bp [0,7,8,9,10,11,16,17,18,15]) (bp [0,19,20,21,22]) (gQ (x 17) (x 19) b (⟨b.time,b.down,cards23,due23,b.an,b.s0,b.s1,b.n0,n2,b.w0,(b.w1).drop 1,b.aQ,b.aM,book23⟩:Bk) e23 hJ) iD rfl) rfl (ad 2 rfl (ae (al ?_))))
   have hX:db b (⟨idn,kind,1,au,move,sum⟩:bW)=((⟨b.time,b.down,cards23,due23,b.an,b.s0,b.s1,b.n0,n2,b.w0,(b.w1).drop 1,b.aQ,b.aM,book23⟩:Bk),(⟨e23,0⟩:Answer)):=by
     unfold db;dsimp only;rw [if_neg cm,if_pos rfl];unfold iF;rw [hx1];dsimp only;(try simp only [hr2,hr3]);(try unfold eH);exact sx
   cases hX.symm.trans hr;clear hX
   exact bb [0,19,20,21,22,5] 5 rfl
  refine aw 2 rfl (ay 23 [0,19,20,21,22,6,5] (fm (bp [0,7,8,9,10,11,16,17,18,15]) (bp [0,19,20,21,22]) (jd (x 17) (x 19) b (⟨b.time,b.down,cards23,due23,b.an,b.s0,b.s1,b.n0,n2,b.w0,(b.w1).drop 1,b.aQ,b.aM,book23⟩:Bk) e23 hJ) iD rfl) rfl (ad 2 rfl (ae (al ?_))))
  have hX:db b (⟨idn,kind,1,au,move,sum⟩:bW)=(b,(⟨e23,0⟩:Answer)):=by
    unfold db;dsimp only;rw [if_neg cm,if_pos rfl];unfold iF;rw [hx1];dsimp only;(try simp only [hr2,hr3]);(try unfold eH);exact sx
  cases hX.symm.trans hr;clear hX
  exact bb [0,19,20,21,22,5] 5 rfl
 have hc7':=hc7;try simp only [aT,bx] at hc7'
 refine aD (aw 2 rfl (ay 20 [0,16,17,18,19,6,5] (fm (bp [0,7,8,9,10,11,12,13,14,15]) (bp [0,16,17,18,19]) (gQ (x 17) (x 19) b (⟨b.time,b.down,b.ak,b.due,b.an,b.s0,b.s1,b.n0,n2,b.w0,(b.w1).drop 1,b.aQ,b.aM,b.book⟩:Bk) 0 hJ) iD rfl) rfl (ad 2 rfl (ae (al ?_)))))
 have hX:db b (⟨idn,kind,1,au,move,sum⟩:bW)=((⟨b.time,b.down,b.ak,b.due,b.an,b.s0,b.s1,b.n0,n2,b.w0,(b.w1).drop 1,b.aQ,b.aM,b.book⟩:Bk),(⟨0,0⟩:Answer)):=by
   unfold db;dsimp only;rw [if_neg cm,if_pos rfl];unfold iF;rw [hx1];dsimp only;(try simp only [hr2]);(try unfold eH);exact sx
 cases hX.symm.trans hr;clear hX
 exact bb [0,16,17,18,19,5] 5 rfl
theorem Ej (x:Nat->Value) (hx:∀ i,(x i).oneCell'=true) (b:Bk) (d:bW) (ok:cH b) (hn:¬d.n=0/\¬d.n=1) (b2:Bk) (a2:Answer) (hr:db b d=(b2,a2)):cS Tryz.prog 37 [(.c (.p 0 0 0 0)),(.c (.q (ek d) 0))] [(0,(.box 58 (cf b 1 2 3 4 (.d (.v (x 17))) (.d (.v (x 19)))))),(1,(dS b.ak)),(2,(dR b.due)),(3,(ec b.an)),(4,(cX b.aM))] [0] (.v (.g [cI a2.err,cI a2.ba])) [(0,(.box 58 (cf b2 1 2 3 4 (.d (.v (x 17))) (.d (.v (x 19)))))),(1,(dS b2.ak)),(2,(dR b2.due)),(3,(ec b2.an)),(4,(cX b2.aM))]:=by
 refine cS.mk 153 [(0,(aC (.p 0 0 0 0))),(1,(aC (.q (ek d) 0)))] 5 Tryz.func37 rfl rfl rfl rfl rfl rfl rfl rfl rfl ?_
 intro W0 F0 T0 pg
 obtain ⟨okt,okc,okd,oka,oky,okw0,okw1,okp,okv,okk0,okk1,okg,okl0,okl1,okp0,okp1,okn0,okn1,okq⟩:=id ok
 refine ag 1 rfl (af (af ?_))
 rcases Bool.eq_false_or_eq_true (decide (¬d.n=0)) with hb1|hb1
 ·
  have hb1':=of_decide_eq_true hb1
  rcases Bool.eq_false_or_eq_true (decide (¬d.n=1)) with hb2|hb2
  ·
   have hb2':=of_decide_eq_true hb2
   refine bg [0,1,4] [5,0,1,2,3,4] rfl (bC (kn:=[(15,true),(21,true)]) bn 26 rfl ⟨hb1,hb2,trivial⟩ (bf [5,0,1,2,3,4] rfl (ae (ax rfl (fun _=>?_) (fun hno=>by cases hno)))))
   refine ag 2 rfl (al (aj ?_))
   have hX:db b d=(b,(⟨6,0⟩:Answer)):=by
     unfold db;rw [if_neg hn.1,if_neg hn.2]
   cases hX.symm.trans hr;clear hX
   exact bb [0,1,2,3,4,5] 5 rfl
  have hb2':=of_decide_eq_false hb2
  (exfalso;simp_all;done)
 have hb1':=of_decide_eq_false hb1
 (exfalso;simp_all;done)

theorem zE (x:Nat->Value) (hx:∀ i,(x i).oneCell'=true) (b:Bk) (d:bW) (ok:cH b) (b2:Bk) (a2:Answer) (hr:db b d=(b2,a2)):cS Tryz.prog 37 [(.c (.p 0 0 0 0)),(.c (.q (ek d) 0))] [(0,(.box 58 (cf b 1 2 3 4 (.d (.v (x 17))) (.d (.v (x 19)))))),(1,(dS b.ak)),(2,(dR b.due)),(3,(ec b.an)),(4,(cX b.aM))] [0] (.v (.g [cI a2.err,cI a2.ba])) [(0,(.box 58 (cf b2 1 2 3 4 (.d (.v (x 17))) (.d (.v (x 19)))))),(1,(dS b2.ak)),(2,(dR b2.due)),(3,(ec b2.an)),(4,(cX b2.aM))]:=by
  obtain ⟨idn,kind,n,au,move,sum⟩:=d
  by_cases h0:n=0
  ·subst h0;exact El x hx b idn kind au move sum ok b2 a2 hr
  by_cases h1:n=1
  ·subst h1;exact Ek x hx b idn kind au move sum ok b2 a2 hr
  ·exact Ej x hx b _ ok ⟨h0,h1⟩ b2 a2 hr
theorem Hy (x:Nat->Value) (hx:∀ i,(x i).oneCell'=true) (s0 s1:bK) (n0 n1:Int) (w0 w1:List bL) (d:bW) (l0:w0.length<=60) (l1:w1.length<=60) (m0:s0.kept.length<=40) (m1:s1.kept.length<=40) (v0 v1:List bL) (a2:Answer) (hr:fY s0 s1 n0 n1 w0 w1 d=(v0,v1,a2)):cS Tryz.prog 36 [(.c (.p 0 0 0 0)),(.c (.q (ek d) 0))] [(0,(.box 58 (((((((((cL x).set 5 (cI s0.bj)).set 6 (bX s0.kept)).set 7 (cI s1.bj)).set 8 (bX s1.kept)).set 9 (cI n0)).set 10 (cI n1)).set 11 (dj w0)).set 12 (dj w1))))] [0] (.v (.g [cI a2.err,cI a2.ba])) [(0,(.box 58 (((((((((cL x).set 5 (cI s0.bj)).set 6 (bX s0.kept)).set 7 (cI s1.bj)).set 8 (bX s1.kept)).set 9 (cI n0)).set 10 (cI n1)).set 11 (dj v0)).set 12 (dj v1))))]:=by
  obtain ⟨idn,kind,n,au,move,sum⟩:=d
  by_cases h0:n=0
  ·subst h0;exact FR x hx s0 s1 n0 n1 w0 w1 idn kind au move sum l0 l1 m0 m1 v0 v1 a2 hr
  by_cases h1:n=1
  ·subst h1;exact FQ x hx s0 s1 n0 n1 w0 w1 idn kind au move sum l0 l1 m0 m1 v0 v1 a2 hr
  ·exact FP x hx s0 s1 n0 n1 w0 w1 _ l0 l1 m0 m1 ⟨h0,h1⟩ v0 v1 a2 hr

theorem Jm (x:Nat->Value) (hx:∀ i,(x i).oneCell'=true) (b:Bk) (d:bW) (ok:cH b) (b2:Bk) (a2:Answer) (hr:iK b d=(b2,a2)):cS Tryz.prog 32 [(.c (.p 0 0 0 0)),(.c (.q (ek d) 0))] [(0,(.box 58 (cf b 1 2 3 4 (.d (.v (x 17))) (.d (.v (x 19)))))),(1,(dS b.ak)),(2,(dR b.due)),(3,(ec b.an)),(4,(cX b.aM))] [0] (.v (.g [cI a2.err,cI a2.ba])) [(0,(.box 58 (cf b2 1 2 3 4 (.d (.v (x 17))) (.d (.v (x 19)))))),(1,(dS b2.ak)),(2,(dR b2.due)),(3,(ec b2.an)),(4,(cX b2.aM))]:=by
 refine cS.mk 65 [(0,(aC (.p 0 0 0 0))),(1,(aC (.q (ek d) 0)))] 5 Tryz.func32 rfl rfl rfl rfl rfl rfl rfl rfl rfl ?_
 intro W0 F0 T0 pg
 obtain ⟨okt,okc,okd,oka,oky,okw0,okw1,okp,okv,okk0,okk1,okg,okl0,okl1,okp0,okp1,okn0,okn1,okq⟩:=id ok
 refine ag 1 rfl (af (af ?_))
 rcases Bool.eq_false_or_eq_true (decide (d.n < 0)) with hb1|hb1
 ·
  have hb1':=of_decide_eq_true hb1
  refine bg [0,1,4] [5,0,1,2,3,4] rfl (bC (kn:=[(10,true)]) bn 18 rfl ⟨hb1,trivial⟩ (bf [5,0,1,2,3,4] rfl (ae (ax rfl (fun _=>?_) (fun hno=>by cases hno)))))
  refine ag 2 rfl (al (aj ?_))
  have hX:iK b d=(b,(⟨6,0⟩:Answer)):=by
    unfold iK;exact sx
  cases hX.symm.trans hr;clear hX
  exact bb [0,1,2,3,4,5] 5 rfl
 have hb1':=of_decide_eq_false hb1
 refine bg [0,1,4] [5,0,1,2,3,4] rfl (bC (kn:=[(10,false)]) bn 15 rfl ⟨hb1,trivial⟩ (cG (n':=6) [20,11] [1] rfl rfl (.inl ⟨(aR.yes rfl rfl rfl),dn rfl rfl rfl rfl rfl gy⟩) rfl (aF 2 rfl (bf [5,0,1,2,3,4] rfl (ae (aO rfl (fun hc3'=>?_) (fun hc3'=>?_)))))))
 ·
  refine ag 2 rfl (al (aj ?_))
  have hX:iK b d=(b,(⟨6,0⟩:Answer)):=by
    unfold iK;exact sx
  cases hX.symm.trans hr;clear hX
  exact bb [0,1,2,3,4,5] 5 rfl
 refine aD (af (bQ 36 ((decide (d.sum < 1))||(decide (d.sum > 1000000))) ?_ ?_))
 ·
  refine ah (ad 6 rfl (bz 30 rfl (fun hb4'=>?_) (fun hb4'=>?_)))
  ·
   exact ad 6 rfl (ae (aq.pz 13 rfl))
  exact ad 6 rfl (ae (aq.pz 13 rfl))
 refine ax rfl (fun hc5=>?_) (fun hc5=>?_)
 ·
  have hc5':=hc5;try simp only [aT,bx] at hc5'
  refine ag 2 rfl (al (aj ?_))
  have hX:iK b d=(b,(⟨3,0⟩:Answer)):=by
    unfold iK;exact sx
  cases hX.symm.trans hr;clear hX
  exact bb [0,1,2,3,4,5] 5 rfl
 have hc5':=hc5;try simp only [aT,bx] at hc5'
 refine aD (aw 1 rfl (ay 15 [0,6,7,8,9,10,11,12,13,14,5] (fm id (bp [0,6,7,8,9,10,11,12,13,14]) (nu (x 17) (x 19) b aa aa aa aa) uk rfl) rfl (ad 1 rfl (ae (af ?_)))))
 obtain ⟨l20,e20,hr0⟩:∃ (l20:List bF) (e20:Int),cP b.ak 0 d.n 0 d.sum=(l20,e20):=⟨_,_,rfl⟩
 refine eJ [0,1,4,5] [0,6,7,8,9,10,11,12,13,14,5] rfl (cV 9 rfl (de 16 [40,44,48] [11,6] rfl (cz (bp [6,11]) (bp [6,15]) (ms:=((bY.set 2 (some (.s 1 0 6 b.ak.length))).set 19 (some (cI 0)))) (ms':=((bY.set 2 (some (.s 1 0 6 l20.length))).set 19 (some (cI e20)))) (fun x hx=>lx x hx b.ak 0 d.n 0 d.sum aa l20 e20 hr0) qZ rfl) rfl (eb [0,1,4,5] [15,6,0,7,8,9,10,12,13,14,5] rfl rfl aJ (then_ok (af ?_)))))
 obtain ⟨l21,e21,hr1⟩:∃ (l21:List Entry) (e21:Int),dp b.book e20 0 (10+d.n) d.sum=(l21,e21):=⟨_,_,rfl⟩
 refine eJ [0,1,4,5] [15,6,0,7,8,9,10,12,13,14,5] rfl (cV 5 rfl (dZ 16 [54] [] rfl (bm rfl rfl rfl (bH aa)) (cV 4 rfl (de 16 [50,55,59] [6] rfl (cz (bp [6]) (bp [6]) (ms:=((bY.set 18 (some (cE b.book))).set 19 (some (cI e20)))) (ms':=((bY.set 18 (some (cE l21))).set 19 (some (cI e21)))) (fun x hx=>lS x hx b.book e20 0 (10+d.n) d.sum l21 e21 hr1) pX rfl) rfl (eb [0,4,5] [6,15,0,7,8,9,10,12,13,14,5] rfl rfl aJ (then_ok ?_))))))
 rcases (show e21=0\/¬e21=0 from aa) with hs6|hs6
 ·
  refine aw 2 rfl (ay 20 [0,16,17,18,19,5] (fm (bp [0,6,7,8,9,10,15,12,13,14]) (bp [0,16,17,18,19]) (gQ (x 17) (x 19) b (⟨b.time,b.down,l20,b.due,b.an,b.s0,b.s1,b.n0,b.n1,b.w0,b.w1,b.aQ,b.aM,l21⟩:Bk) e21 hJ) iD rfl) rfl (ad 2 rfl (ae (al ?_))))
  have hX:iK b d=((⟨b.time,b.down,l20,b.due,b.an,b.s0,b.s1,b.n0,b.n1,b.w0,b.w1,b.aQ,b.aM,l21⟩:Bk),(⟨e21,0⟩:Answer)):=by
    unfold iK;simp only [eH,hr0,hr1];exact sx
  cases hX.symm.trans hr;clear hX
  exact bb [0,16,17,18,19,5] 5 rfl
 refine aw 2 rfl (ay 20 [0,16,17,18,19,5] (fm (bp [0,6,7,8,9,10,15,12,13,14]) (bp [0,16,17,18,19]) (jd (x 17) (x 19) b (⟨b.time,b.down,l20,b.due,b.an,b.s0,b.s1,b.n0,b.n1,b.w0,b.w1,b.aQ,b.aM,l21⟩:Bk) e21 hJ) iD rfl) rfl (ad 2 rfl (ae (al ?_))))
 have hX:iK b d=(b,(⟨e21,0⟩:Answer)):=by
   unfold iK;simp only [eH,hr0,hr1];exact sx
 cases hX.symm.trans hr;clear hX
 exact bb [0,16,17,18,19,5] 5 rfl
theorem Kw (x:Nat->Value) (hx:∀ i,(x i).oneCell'=true) (b:Bk) (d:bW) (ok:cH b) (b2:Bk) (a2:Answer) (hr:jT b d=(b2,a2)):cS Tryz.prog 40 [(.c (.p 0 0 0 0)),(.c (.q (ek d) 0))] [(0,(.box 58 (cf b 1 2 3 4 (.d (.v (x 17))) (.d (.v (x 19)))))),(1,(dS b.ak)),(2,(dR b.due)),(3,(ec b.an)),(4,(cX b.aM))] [0] (.v (.g [cI a2.err,cI a2.ba])) [(0,(.box 58 (cf b2 1 2 3 4 (.d (.v (x 17))) (.d (.v (x 19)))))),(1,(dS b2.ak)),(2,(dR b2.due)),(3,(ec b2.an)),(4,(cX b2.aM))]:=by
 refine cS.mk 64 [(0,(aC (.p 0 0 0 0))),(1,(aC (.q (ek d) 0)))] 5 Tryz.func40 rfl rfl rfl rfl rfl rfl rfl rfl rfl ?_
 intro W0 F0 T0 pg
 obtain ⟨okt,okc,okd,oka,oky,okw0,okw1,okp,okv,okk0,okk1,okg,okl0,okl1,okp0,okp1,okn0,okn1,okq⟩:=id ok
 refine ag 1 rfl (af (af ?_))
 rcases Bool.eq_false_or_eq_true (decide (d.n < 0)) with hb1|hb1
 ·
  have hb1':=of_decide_eq_true hb1
  refine bg [0,1,4] [5,0,1,2,3,4] rfl (bC (kn:=[(11,true)]) bn 18 rfl ⟨hb1,trivial⟩ (bf [5,0,1,2,3,4] rfl (ae (ax rfl (fun _=>?_) (fun hno=>by cases hno)))))
  refine ag 2 rfl (al (aj ?_))
  have hX:jT b d=(b,(⟨6,0⟩:Answer)):=by
    unfold jT;exact sx
  cases hX.symm.trans hr;clear hX
  exact bb [0,1,2,3,4,5] 5 rfl
 have hb1':=of_decide_eq_false hb1
 refine bg [0,1,4] [5,0,1,2,3,4] rfl (bC (kn:=[(11,false)]) bn 15 rfl ⟨hb1,trivial⟩ (cG (n':=6) [21,12] [2] rfl rfl (.inl ⟨(aR.yes rfl rfl rfl),dn rfl rfl rfl rfl rfl ed⟩) rfl (aF 2 rfl (bf [5,0,1,2,3,4] rfl (ae (aO rfl (fun hc3'=>?_) (fun hc3'=>?_)))))))
 ·
  refine ag 2 rfl (al (aj ?_))
  have hX:jT b d=(b,(⟨6,0⟩:Answer)):=by
    unfold jT;exact sx
  cases hX.symm.trans hr;clear hX
  exact bb [0,1,2,3,4,5] 5 rfl
 refine aD (af ?_)
 obtain ⟨x1,hx1⟩:=bO (xs:=b.due) (i:=Int.toNat (d.n)) aa
 refine bg [0,1,4] [5,0,1,2,3,4] rfl (aF 9 rfl (bh 6 [30,34] [2] rfl (cU (i:=Int.toNat (d.n)) rfl rfl rfl ed eu) (bM 6 [35] [2] rfl (dY rfl rfl rfl eA rfl (aV hx1) rfl) rfl (aF 1 rfl (bf [5,0,1,2,3,4] rfl (ae (af (ag 2 rfl (aO rfl (fun hc4'=>?_) (fun hc4'=>?_))))))))))
 ·
  refine ag 2 rfl (al (aj ?_))
  have hX:jT b d=(b,(⟨10,0⟩:Answer)):=by
    unfold jT;simp only [eH,List.getD_eq_getElem?_getD,hx1,Option.getD_some,];exact sx
  cases hX.symm.trans hr;clear hX
  exact bb [0,1,2,3,4,5] 5 rfl
 refine aD (aw 1 rfl (ay 15 [0,6,7,8,9,10,11,12,13,14,5] (fm id (bp [0,6,7,8,9,10,11,12,13,14]) (nu (x 17) (x 19) b aa aa aa aa) uk rfl) rfl (ad 1 rfl (ae (af (bg [0,1,4,5,6] [0,6,7,8,9,10,11,12,13,14,5] rfl (aF 9 rfl (bh 15 [46,50] [12] rfl (cU (i:=Int.toNat (d.n)) rfl rfl rfl ed eu) (bf [0,6,7,8,9,10,11,12,13,14,5] rfl (eP [0,6,7,8,9,10,11,12,13,14,5] (dK (ds:=[(dI 0)]) rfl rfl rfl rfl rfl eu rfl (Nat.le_of_ble_eq_true rfl) (aV hx1) rfl (eE (x':=0) rfl)) rfl (ae (dW (k:=6) (q:=3) (c':=(.s 12 0 1 (((b.due).set (Int.toNat (d.n)) 0).length))) rfl rfl jN rfl (aw 5 rfl (bl rfl rfl rfl rfl aa (ad 1 rfl ?_)))))))))))))))
 obtain ⟨l20,e20,hr0⟩:∃ (l20:List Entry) (e20:Int),dp b.book 0 (50+d.n) 0 x1=(l20,e20):=⟨_,_,rfl⟩
 refine ay 15 [6,0,7,8,9,10,11,12,13,14,5] (cz (bp [6]) (bp [6]) (ms:=((bY.set 18 (some (cE b.book))).set 19 (some (cI 0)))) (ms':=((bY.set 18 (some (cE l20))).set 19 (some (cI e20)))) (fun x hx=>lS x hx b.book 0 (50+d.n) 0 x1 l20 e20 hr0) pX rfl) rfl (ae ?_)
 rcases (show e20=0\/¬e20=0 from aa) with hs5|hs5
 ·
  refine aw 2 rfl (ay 19 [0,15,16,17,18,5] (fm (bp [0,6,7,8,9,10,11,12,13,14]) (bp [0,15,16,17,18]) (gQ (x 17) (x 19) b (⟨b.time,b.down,b.ak,(b.due).set (Int.toNat (d.n)) 0,b.an,b.s0,b.s1,b.n0,b.n1,b.w0,b.w1,b.aQ,b.aM,l20⟩:Bk) e20 hJ) iD rfl) rfl (ad 2 rfl (ae (al ?_))))
  have hX:jT b d=((⟨b.time,b.down,b.ak,(b.due).set (Int.toNat (d.n)) 0,b.an,b.s0,b.s1,b.n0,b.n1,b.w0,b.w1,b.aQ,b.aM,l20⟩:Bk),(⟨e20,0⟩:Answer)):=by
    unfold jT;simp only [eH,List.getD_eq_getElem?_getD,hx1,Option.getD_some,hr0];exact sx
  cases hX.symm.trans hr;clear hX
  exact bb [0,15,16,17,18,5] 5 rfl
 refine aw 2 rfl (ay 19 [0,15,16,17,18,5] (fm (bp [0,6,7,8,9,10,11,12,13,14]) (bp [0,15,16,17,18]) (jd (x 17) (x 19) b (⟨b.time,b.down,b.ak,(b.due).set (Int.toNat (d.n)) 0,b.an,b.s0,b.s1,b.n0,b.n1,b.w0,b.w1,b.aQ,b.aM,l20⟩:Bk) e20 hJ) iD rfl) rfl (ad 2 rfl (ae (al ?_))))
 have hX:jT b d=(b,(⟨e20,0⟩:Answer)):=by
   unfold jT;simp only [eH,List.getD_eq_getElem?_getD,hx1,Option.getD_some,hr0];exact sx
 cases hX.symm.trans hr;clear hX
 exact bb [0,15,16,17,18,5] 5 rfl

theorem Eg (x:Nat->Value) (hx:∀ i,(x i).oneCell'=true) (b:Bk) (ok:cH b) (b2:Bk) (hr:jG b=b2):cS Tryz.prog 66 [(.c (.p 0 0 0 0))] [(0,(.box 58 (cf b 1 2 3 4 (.d (.v (x 17))) (.d (.v (x 19)))))),(1,(dS b.ak)),(2,(dR b.due)),(3,(ec b.an)),(4,(cX b.aM))] [0] (.t []) [(0,(.box 58 (cf b2 1 2 3 4 (.d (.v (x 17))) (.d (.v (x 19)))))),(1,(dS b2.ak)),(2,(dR b2.due)),(3,(ec b2.an)),(4,(cX b2.aM))]:=by
 refine cS.mk 47 [(0,(aC (.p 0 0 0 0)))] 5 Tryz.func66 rfl rfl rfl rfl rfl rfl rfl rfl rfl ?_
 intro W0 F0 T0 pg
 obtain ⟨okt,okc,okd,oka,oky,okw0,okw1,okp,okv,okk0,okk1,okg,okl0,okl1,okp0,okp1,okn0,okn1,okq⟩:=id ok
 refine aw 1 rfl (ay 14 [0,5,6,7,8,9,10,11,12,13] (fm id (bp [0,5,6,7,8,9,10,11,12,13]) (nu (x 17) (x 19) b aa aa aa aa) uk rfl) rfl (ad 1 rfl (ae (af (aw 5 rfl (az (dn rfl rfl rfl rfl rfl hG) rfl (ad 1 rfl (ae (aL (cb (β:=Nat×List bF×List bG×Int) (fun (p:Nat×List bF×List bG×Int)=>match p with|(q,cs,xs,e)=>⟨[(0,(aC (.p 0 0 0 0))),(2,(aC (.p 5 0 0 0))),(12,(aC (.s 12 0 8 xs.length))),(13,(aI (↑b.an.length:Int))),(14,(aI (↑q:Int)))],[(0,(.box 58 (cf b 6 7 8 9 (.d (.v (x 17))) (.d (.v (x 19)))))),(5,(.box 130 (((cf b 10 11 12 13 (.d (.v (x 17))) (cI e)).set 2 (.s 10 0 6 cs.length)).set 4 (.s 12 0 8 xs.length)))),(6,(dS b.ak)),(7,(dR b.due)),(8,(ec b.an)),(9,(cX b.aM)),(10,(dS cs)),(11,(dR b.due)),(12,(ec xs)),(13,(cX b.aM))],14⟩) (fun (p:Nat×List bF×List bG×Int)=>match p with|(q,cs,xs,e)=>q<=b.an.length/\fU b.time b.an 0 b.ak b.an 0=fU b.time (b.an.drop q) q cs xs e/\cs.length=b.ak.length/\xs.length=b.an.length/\(∀ i,q<=i->xs[i]?=b.an[i]?)) (fun (p:Nat×List bF×List bG×Int)=>match p with|(q,cs,xs,e)=>b.an.length - q) (0,b.ak,b.an,0) ?_ ?_ ?_))))))))))
 ·exact ⟨aa,rfl,rfl,rfl,fun _ _=>rfl⟩
 ·exact aq.rz id
 rintro ⟨q,cs,xs,e⟩ ⟨hi0_0,hi0_1,hi0_2,hi0_3,hi0_4⟩
 refine ag 1 rfl (af (aO rfl (fun hc1'=>?_) (fun hc1'=>?_)))
 ·
  refine aD (af (aL (aw 1 rfl (az (cU (i:=q) rfl rfl rfl hG ji) rfl ?_))))
  obtain ⟨x1,hx1⟩:=bO (xs:=xs) (i:=q) aa
  have hx1w:=okp x1 (List.mem_of_getElem? (show b.an[q]?=some x1 by rw [<-hi0_4 q aa];exact hx1))
  have hx1A:=hx1w.2
  replace hx1w:=hx1w.1
  refine az (dk rfl rfl rfl tI rfl ji (aV hx1) rfl) rfl (ad 3 rfl (ae (af ?_)))
  obtain ⟨b0,hr0⟩:∃ (b0:bG),dF x1 b.time=b0:=⟨_,rfl⟩
  have hlw:bI b0=0:=by rw [<-hr0];exact qg hx1w
  refine bg [0,2,12,13,14,4,3] [14,0,5,6,7,8,9,10,11,12,13] rfl (aF 6 rfl (bM 15 [19,24] [] rfl (cA 15 (Ax x1 b.time b0 hr0) KX rfl) rfl (bC (n':=16) (kn:=[]) bn 1 rfl trivial (bf [15,14,0,5,6,7,8,9,10,11,12,13] rfl (ad 1 rfl (ae (af ?_)))))))
  obtain ⟨e1,hr1⟩:∃ (e1:Int),bE b0=e1:=⟨_,rfl⟩
  have hhb1:=kB (show bI b0=0 by assumption)
  rw [hr1] at hhb1
  obtain ⟨e2,hr2⟩:∃ (e2:Int),bE x1=e2:=⟨_,rfl⟩
  have hhb2:=kB (show bI x1=0 by assumption)
  rw [hr2] at hhb2
  obtain ⟨l23,e23,hr3⟩:∃ (l23:List bF) (e23:Int),cP cs e x1.aA (e1 - e2) 0=(l23,e23):=⟨_,_,rfl⟩
  have hsl3:l23.length=cs.length:=by have h:=fT cs e x1.aA (e1 - e2) 0;rw [hr3] at h;exact h
  refine eJ [0,2,12,13,14,4,3,5] [15,14,0,5,6,7,8,9,10,11,12,13] rfl (cV 4 rfl (de 16 [29] [] rfl (cA 16 (nH b0 (by first|assumption|omega|rfl|decide) e1 hr1) Cs rfl) rfl (cV 1 rfl (de 16 [31] [] rfl (cA 16 (nH x1 (by first|assumption|omega|rfl|decide) e2 hr2) Cs rfl) rfl (dZ 16 [30,32] [] rfl (bm rfl rfl rfl (bH aa)) (de 17 [26,28,33] [10,5] rfl (cz (bp [5,10]) (bp [5,16]) (ms:=((bY.set 2 (some (.s 1 0 6 cs.length))).set 19 (some (cI e)))) (ms':=((bY.set 2 (some (.s 1 0 6 l23.length))).set 19 (some (cI e23)))) (fun x hx=>lx x hx cs e x1.aA (e1 - e2) 0 aa l23 e23 hr3) qZ rfl) rfl (eb [0,2,12,13,14,3,5] [16,5,15,0,6,7,8,9,11,12,13] rfl rfl aJ (then_ok (bg [0,2,12,13,14,3,5] [16,5,15,0,6,7,8,9,11,12,13] rfl (aF 7 rfl (bh 17 [39,40] [12] rfl (cU (i:=q) rfl rfl rfl hG ji) (bf [16,5,15,0,6,7,8,9,11,12,13] rfl (eP [16,5,15,0,6,7,8,9,11,12,13] (dK (ds:=[(dI b0.aA),(dI b0.au),(dI b0.sum),(dI b0.captured),(dI b0.bd),(dI b0.aX),(dI b0.da),(dB b0.shut)]) rfl rfl rfl rfl rfl ji rfl (Nat.le_of_ble_eq_true rfl) (aV hx1) rfl (eE (x':=b0) rfl)) rfl (bq (aN (then_ok (dW (k:=5) (q:=4) (c':=(.s 12 0 8 (((xs).set q b0).length))) rfl rfl jN rfl (ah (bl rfl rfl rfl rfl aa (ad 1 rfl (ae (⟨(q+1,l23,(xs).set q b0,e23),⟨aa,by rw [hi0_1,uY (a:=x1) (by rw [<-hi0_4 q aa];exact hx1),hr0,hr1,hr2,hr3],aa,by rw [List.length_set];omega,fun i hi=>by rw [List.getElem?_set_ne aa];exact hi0_4 i aa⟩,bT,aq.rz (fun k=>if k=10 then 16 else k)⟩))))))))))))))))))))))
 refine bR (aE (aE (bw (then_ok ?_))))
 rcases (show e=0\/¬e=0 from aa) with hs2|hs2
 ·
  refine ah (ad 2 rfl (ay 18 [0,14,15,16,17] (fm (bp [0,5,6,7,8,9,10,11,12,13]) (bp [0,14,15,16,17]) (gQ (x 17) (x 19) b (⟨b.time,b.down,cs,b.due,xs,b.s0,b.s1,b.n0,b.n1,b.w0,b.w1,b.aQ,b.aM,b.book⟩:Bk) e hJ) iD rfl) rfl (bq ?_)))
  have hX:jG b=(⟨b.time,b.down,cs,b.due,xs,b.s0,b.s1,b.n0,b.n1,b.w0,b.w1,b.aQ,b.aM,b.book⟩:Bk):=by
    have hL:fU b.time b.an 0 b.ak b.an 0=(cs,xs,e):=by rw [hi0_1,List.drop_of_length_le aa];rfl
    unfold jG;rw [hL];dsimp only;first|rw [if_pos dr]|rw [if_neg dr]
  rw [hX] at hr;clear hX
  subst hr
  refine cJ bn [0,14,15,16,17] 5 rfl rfl rfl rfl rfl rfl ?_ ?_
  all_goals first|rfl|(simp [cq,cf,cL];done)|(simp [cq,cf,cL];omega)
 refine ah (ad 2 rfl (ay 18 [0,14,15,16,17] (fm (bp [0,5,6,7,8,9,10,11,12,13]) (bp [0,14,15,16,17]) (jd (x 17) (x 19) b (⟨b.time,b.down,cs,b.due,xs,b.s0,b.s1,b.n0,b.n1,b.w0,b.w1,b.aQ,b.aM,b.book⟩:Bk) e hJ) iD rfl) rfl (bq ?_)))
 have hX:jG b=b:=by
   have hL:fU b.time b.an 0 b.ak b.an 0=(cs,xs,e):=by rw [hi0_1,List.drop_of_length_le aa];rfl
   unfold jG;rw [hL];dsimp only;first|rw [if_pos dr]|rw [if_neg dr]
 rw [hX] at hr;clear hX
 subst hr
 refine cJ bn [0,14,15,16,17] 5 rfl rfl rfl rfl rfl rfl ?_ ?_
 all_goals first|rfl|(simp [cq,cf,cL];done)|(simp [cq,cf,cL];omega)
theorem Hv (x:Nat->Value) (hx:∀ i,(x i).oneCell'=true) (b:Bk) (d:bW) (ok:cH b) (hdn:b.down=false) (b2:Bk) (a2:Answer) (hr:gN b d=(b2,a2)):cS Tryz.prog 35 [(.c (.p 0 0 0 0)),(.c (.q (ek d) 0))] [(0,(.box 58 (cf b 1 2 3 4 (.d (.v (x 17))) (.d (.v (x 19)))))),(1,(dS b.ak)),(2,(dR b.due)),(3,(ec b.an)),(4,(cX b.aM))] [0] (.v (.g [cI a2.err,cI a2.ba])) [(0,(.box 58 (cf b2 1 2 3 4 (.d (.v (x 17))) (.d (.v (x 19)))))),(1,(dS b2.ak)),(2,(dR b2.due)),(3,(ec b2.an)),(4,(cX b2.aM))]:=by
 refine cS.mk 46 [(0,(aC (.p 0 0 0 0))),(1,(aC (.q (ek d) 0)))] 5 Tryz.func35 rfl rfl rfl rfl rfl rfl rfl rfl rfl ?_
 intro W0 F0 T0 pg
 obtain ⟨okt,okc,okd,oka,oky,okw0,okw1,okp,okv,okk0,okk1,okg,okl0,okl1,okp0,okp1,okn0,okn1,okq⟩:=id ok
 refine ag 1 rfl (af (af ?_))
 rcases Bool.eq_false_or_eq_true (decide (d.sum < 0)) with hb1|hb1
 ·
  have hb1':=of_decide_eq_true hb1
  refine bg [0,1,4] [5,0,1,2,3,4] rfl (bC (kn:=[(9,true)]) bn 18 rfl ⟨hb1,trivial⟩ (bf [5,0,1,2,3,4] rfl (ae (ax rfl (fun _=>?_) (fun hno=>by cases hno)))))
  refine ag 2 rfl (al (aj ?_))
  have hX:gN b d=(b,(⟨3,0⟩:Answer)):=by
    unfold gN;exact sx
  cases hX.symm.trans hr;clear hX
  exact bb [0,1,2,3,4,5] 5 rfl
 have hb1':=of_decide_eq_false hb1
 refine bg [0,1,4] [5,0,1,2,3,4] rfl (bC (kn:=[(9,false)]) bn 15 rfl ⟨hb1,trivial⟩ (cG (n':=6) [19,10] [] rfl rfl (.inl ⟨(aR.yes rfl rfl rfl),bm rfl rfl rfl (bH aa)⟩) rfl (aF 2 rfl (bf [5,0,1,2,3,4] rfl (ae (aO rfl (fun hc3'=>?_) (fun hc3'=>?_)))))))
 ·
  refine ag 2 rfl (al (aj ?_))
  have hX:gN b d=(b,(⟨3,0⟩:Answer)):=by
    unfold gN;exact sx
  cases hX.symm.trans hr;clear hX
  exact bb [0,1,2,3,4,5] 5 rfl
 refine aD (af (bg [0,1,4] [5,0,1,2,3,4] rfl (aF 9 rfl (bh 6 [28,32] [] rfl (bm rfl rfl rfl (bH aa)) (aF 3 rfl (bf [5,0,1,2,3,4] rfl (ad 1 rfl (ae (af (ag 6 rfl (ax rfl (fun _=>?_) (fun hno=>by simp [hdn] at hno))))))))))))
 refine ah (ad 1 rfl ?_)
 obtain ⟨b20,hr0⟩:∃ (b20:Bk),jG (⟨b.time+d.sum,b.down,b.ak,b.due,b.an,b.s0,b.s1,b.n0,b.n1,b.w0,b.w1,b.aQ,b.aM,b.book⟩:Bk)=b20:=⟨_,rfl⟩
 refine ay 10 [0,6,7,8,9,5] (cz id (bp [0,6,7,8,9]) (ms:=[some (cI (b.time+d.sum)),some (cB b.down),some (.s 1 0 6 b.ak.length),some (.s 2 0 1 b.due.length),some (.s 3 0 8 b.an.length),some (cI b.s0.bj),some (bX b.s0.kept),some (cI b.s1.bj),some (bX b.s1.kept),some (cI b.n0),some (cI b.n1),some (dj b.w0),some (dj b.w1),some (cI b.aQ.cap),some (dt b.aQ.used),some (eo b.aQ.aH),some (.s 4 0 4 b.aM.length),none,some (cE b.book),none]) (ms':=(iW b20 1 2 3 4 none none)) (fun x hx=>Eg x hx (⟨b.time+d.sum,b.down,b.ak,b.due,b.an,b.s0,b.s1,b.n0,b.n1,b.w0,b.w1,b.aQ,b.aM,b.book⟩:Bk) (by first|assumption|exact cH.tick dr aa aa) b20 hr0) IJ rfl) rfl (ae (ag 2 rfl (al ?_)))
 have hX:gN b d=(b20,(⟨0,0⟩:Answer)):=by
   unfold gN;simp only [eH,hr0];exact sx
 cases hX.symm.trans hr;clear hX
 exact bb [0,6,7,8,9,5] 5 rfl
theorem Hw (x:Nat->Value) (hx:∀ i,(x i).oneCell'=true) (b:Bk) (d:bW) (ok:cH b) (hdn:b.down=true) (b2:Bk) (a2:Answer) (hr:gN b d=(b2,a2)):cS Tryz.prog 35 [(.c (.p 0 0 0 0)),(.c (.q (ek d) 0))] [(0,(.box 58 (cf b 1 2 3 4 (.d (.v (x 17))) (.d (.v (x 19)))))),(1,(dS b.ak)),(2,(dR b.due)),(3,(ec b.an)),(4,(cX b.aM))] [0] (.v (.g [cI a2.err,cI a2.ba])) [(0,(.box 58 (cf b2 1 2 3 4 (.d (.v (x 17))) (.d (.v (x 19)))))),(1,(dS b2.ak)),(2,(dR b2.due)),(3,(ec b2.an)),(4,(cX b2.aM))]:=by
 refine cS.mk 46 [(0,(aC (.p 0 0 0 0))),(1,(aC (.q (ek d) 0)))] 5 Tryz.func35 rfl rfl rfl rfl rfl rfl rfl rfl rfl ?_
 intro W0 F0 T0 pg
 obtain ⟨okt,okc,okd,oka,oky,okw0,okw1,okp,okv,okk0,okk1,okg,okl0,okl1,okp0,okp1,okn0,okn1,okq⟩:=id ok
 refine ag 1 rfl (af (af ?_))
 rcases Bool.eq_false_or_eq_true (decide (d.sum < 0)) with hb1|hb1
 ·
  have hb1':=of_decide_eq_true hb1
  refine bg [0,1,4] [5,0,1,2,3,4] rfl (bC (kn:=[(9,true)]) bn 18 rfl ⟨hb1,trivial⟩ (bf [5,0,1,2,3,4] rfl (ae (ax rfl (fun _=>?_) (fun hno=>by cases hno)))))
  refine ag 2 rfl (al (aj ?_))
  have hX:gN b d=(b,(⟨3,0⟩:Answer)):=by
    unfold gN;exact sx
  cases hX.symm.trans hr;clear hX
  exact bb [0,1,2,3,4,5] 5 rfl
 have hb1':=of_decide_eq_false hb1
 refine bg [0,1,4] [5,0,1,2,3,4] rfl (bC (kn:=[(9,false)]) bn 15 rfl ⟨hb1,trivial⟩ (cG (n':=6) [19,10] [] rfl rfl (.inl ⟨(aR.yes rfl rfl rfl),bm rfl rfl rfl (bH aa)⟩) rfl (aF 2 rfl (bf [5,0,1,2,3,4] rfl (ae (aO rfl (fun hc3'=>?_) (fun hc3'=>?_)))))))
 ·
  refine ag 2 rfl (al (aj ?_))
  have hX:gN b d=(b,(⟨3,0⟩:Answer)):=by
    unfold gN;exact sx
  cases hX.symm.trans hr;clear hX
  exact bb [0,1,2,3,4,5] 5 rfl
 refine aD (af (bg [0,1,4] [5,0,1,2,3,4] rfl (aF 9 rfl (bh 6 [28,32] [] rfl (bm rfl rfl rfl (bH aa)) (aF 3 rfl (bf [5,0,1,2,3,4] rfl (ad 1 rfl (ae (af (ag 6 rfl (ax rfl (fun hno=>by simp [hdn] at hno) (fun _=>?_))))))))))))
 refine aD (ag 2 rfl (al ?_))
 have hX:gN b d=((⟨b.time+d.sum,b.down,b.ak,b.due,b.an,b.s0,b.s1,b.n0,b.n1,b.w0,b.w1,b.aQ,b.aM,b.book⟩:Bk),(⟨0,0⟩:Answer)):=by
   unfold gN;exact sx
 cases hX.symm.trans hr;clear hX
 exact bb [0,1,2,3,4,5] 5 rfl
theorem Jh (x:Nat->Value) (hx:∀ i,(x i).oneCell'=true) (b:Bk) (d:bW) (ok:cH b) (b2:Bk) (a2:Answer) (hr:gN b d=(b2,a2)):cS Tryz.prog 35 [(.c (.p 0 0 0 0)),(.c (.q (ek d) 0))] [(0,(.box 58 (cf b 1 2 3 4 (.d (.v (x 17))) (.d (.v (x 19)))))),(1,(dS b.ak)),(2,(dR b.due)),(3,(ec b.an)),(4,(cX b.aM))] [0] (.v (.g [cI a2.err,cI a2.ba])) [(0,(.box 58 (cf b2 1 2 3 4 (.d (.v (x 17))) (.d (.v (x 19)))))),(1,(dS b2.ak)),(2,(dR b2.due)),(3,(ec b2.an)),(4,(cX b2.aM))]:=by
  cases hdn:b.down
  ·exact Hv x hx b d ok hdn b2 a2 hr
  ·exact Hw x hx b d ok hdn b2 a2 hr

theorem Jn (x:Nat->Value) (hx:∀ i,(x i).oneCell'=true) (b:Bk) (d:bW) (ok:cH b) (hdn:b.down=false) (b2:Bk) (a2:Answer) (hr:dw b d=(b2,a2)):cS Tryz.prog 33 [(.c (.p 0 0 0 0)),(.c (.q (ek d) 0))] [(0,(.box 58 (cf b 1 2 3 4 (.d (.v (x 17))) (.d (.v (x 19)))))),(1,(dS b.ak)),(2,(dR b.due)),(3,(ec b.an)),(4,(cX b.aM))] [0] (.v (.g [cI a2.err,cI a2.ba])) [(0,(.box 58 (cf b2 1 2 3 4 (.d (.v (x 17))) (.d (.v (x 19)))))),(1,(dS b2.ak)),(2,(dR b2.due)),(3,(ec b2.an)),(4,(cX b2.aM))]:=by
 refine cS.mk 214 [(0,(aC (.p 0 0 0 0))),(1,(aC (.q (ek d) 0)))] 5 Tryz.func33 rfl rfl rfl rfl rfl rfl rfl rfl rfl ?_
 intro W0 F0 T0 pg
 obtain ⟨okt,okc,okd,oka,oky,okw0,okw1,okp,okv,okk0,okk1,okg,okl0,okl1,okp0,okp1,okn0,okn1,okq⟩:=id ok
 refine ag 1 rfl (af (af ?_))
 rcases Bool.eq_false_or_eq_true (decide (d.n < 0)) with hb1|hb1
 ·
  have hb1':=of_decide_eq_true hb1
  refine bg [0,1,4] [5,0,1,2,3,4] rfl (bC (kn:=[(14,true)]) bn 38 rfl ⟨hb1,trivial⟩ (bf [5,0,1,2,3,4] rfl (ae (ax rfl (fun _=>?_) (fun hno=>by cases hno)))))
  refine ag 2 rfl (al (aj ?_))
  have hX:dw b d=(b,(⟨6,0⟩:Answer)):=by
    unfold dw;(try simp only [hdn,Bool.false_eq_true,if_false]);exact sx
  cases hX.symm.trans hr;clear hX
  exact bb [0,1,2,3,4,5] 5 rfl
 have hb1':=of_decide_eq_false hb1
 rcases Bool.eq_false_or_eq_true (decide (d.n>=(↑b.ak.length:Int))) with hb3|hb3
 ·
  have hb3':=of_decide_eq_true hb3
  refine bg [0,1,4] [5,0,1,2,3,4] rfl (bC (kn:=[(14,false)]) bn 15 rfl ⟨hb1,trivial⟩ (cG (n':=6) [24,15] [1] rfl rfl (.inl ⟨(aR.yes rfl rfl rfl),dn rfl rfl rfl rfl rfl gy⟩) rfl (bC (kn:=[(26,true)]) bn 22 rfl ⟨hb3,trivial⟩ (bf [5,0,1,2,3,4] rfl (ae (ax rfl (fun _=>?_) (fun hno=>by cases hno)))))))
  refine ag 2 rfl (al (aj ?_))
  have hX:dw b d=(b,(⟨6,0⟩:Answer)):=by
    unfold dw;(try simp only [hdn,Bool.false_eq_true,if_false]);exact sx
  cases hX.symm.trans hr;clear hX
  exact bb [0,1,2,3,4,5] 5 rfl
 have hb3':=of_decide_eq_false hb3
 rcases Bool.eq_false_or_eq_true (decide (d.au < 0)) with hb5|hb5
 ·
  have hb5':=of_decide_eq_true hb5
  refine bg [0,1,4] [5,0,1,2,3,4] rfl (bC (kn:=[(14,false)]) bn 15 rfl ⟨hb1,trivial⟩ (cG (n':=6) [24,15] [1] rfl rfl (.inl ⟨(aR.yes rfl rfl rfl),dn rfl rfl rfl rfl rfl gy⟩) rfl (bC (kn:=[(26,false),(33,true)]) bn 22 rfl ⟨hb3,hb5,trivial⟩ (bf [5,0,1,2,3,4] rfl (ae (ax rfl (fun _=>?_) (fun hno=>by cases hno)))))))
  refine ag 2 rfl (al (aj ?_))
  have hX:dw b d=(b,(⟨6,0⟩:Answer)):=by
    unfold dw;(try simp only [hdn,Bool.false_eq_true,if_false]);exact sx
  cases hX.symm.trans hr;clear hX
  exact bb [0,1,2,3,4,5] 5 rfl
 have hb5':=of_decide_eq_false hb5
 refine bg [0,1,4] [5,0,1,2,3,4] rfl (bC (kn:=[(14,false)]) bn 15 rfl ⟨hb1,trivial⟩ (cG (n':=6) [24,15] [1] rfl rfl (.inl ⟨(aR.yes rfl rfl rfl),dn rfl rfl rfl rfl rfl gy⟩) rfl (bC (kn:=[(26,false),(33,false)]) bn 19 rfl ⟨hb3,hb5,trivial⟩ (cG (n':=6) [44,35] [2] rfl rfl (.inl ⟨(aR.yes rfl rfl rfl),dn rfl rfl rfl rfl rfl ed⟩) rfl (aF 2 rfl (bf [5,0,1,2,3,4] rfl (ae (aO rfl (fun hc7'=>?_) (fun hc7'=>?_)))))))))
 ·
  refine ag 2 rfl (al (aj ?_))
  have hX:dw b d=(b,(⟨6,0⟩:Answer)):=by
    unfold dw;(try simp only [hdn,Bool.false_eq_true,if_false]);exact sx
  cases hX.symm.trans hr;clear hX
  exact bb [0,1,2,3,4,5] 5 rfl
 refine aD (af (ag 5 rfl (ax rfl (fun hno=>absurd (hdn.symm.trans hno) cm) (fun _=>?_))))
 refine aD (af ?_)
 obtain ⟨b0,e0,hr0⟩:∃ (b0:bG) (e0:Int),dm d.n d.au d.sum b.time=(b0,e0):=⟨_,_,rfl⟩
 refine eJ [0,1,4] [5,0,1,2,3,4] rfl (cV 17 rfl (de 6 [123,127,131,136] [] rfl (cA 6 (vw d.n d.au d.sum b.time b0 e0 hr0) IL rfl) rfl (gJ (n':=7) (kn:=[]) bn 6 rfl trivial (eb [0,1,4,7,8] [6,5,0,1,2,3,4] rfl rfl aJ (then_ok (af (bQ 150 ((decide (e0=0)) && (decide ((↑b.an.length:Int)=30))) ?_ ?_)))))))
 ·
  refine ah (ad 3 rfl (bz 142 rfl (fun hb9'=>?_) (fun hb9'=>?_)))
  ·
   exact ad 5 rfl (dg (aR.yes rfl rfl rfl) (dn rfl rfl rfl rfl rfl hG) rfl rfl (ad 2 rfl (ae (aq.pz 12 rfl))))
  exact ad 8 rfl (ae (aq.pz 12 rfl))
 refine ax rfl (fun hc10=>?_) (fun hc10=>?_)
 ·
  have hc10':=hc10;try simp only [aT,bx] at hc10'
  refine ah (ad 1 rfl (ae (af (aw 1 rfl (az (bm rfl rfl rfl (show _=some (Value.bool true) from rfl)) rfl (ae (ax rfl (fun _=>?_) (fun hno=>by cases hno))))))))
  refine ag 3 rfl (al (aj ?_))
  have hX:dw b d=(b,(⟨5,0⟩:Answer)):=by
    unfold dw;(try simp only [hdn,Bool.false_eq_true,if_false,hr0]);exact sx
  cases hX.symm.trans hr;clear hX
  exact bb [0,1,2,3,4,5] 5 rfl
 have hc10':=hc10;try simp only [aT,bx] at hc10'
 refine aD (af (ag 2 rfl (aO rfl (fun hc12'=>?_) (fun hc12'=>?_))))
 ·
  refine ag 3 rfl (al (aj ?_))
  have hX:dw b d=(b,(⟨e0,0⟩:Answer)):=by
    unfold dw;(try simp only [hdn,Bool.false_eq_true,if_false,hr0]);exact sx
  cases hX.symm.trans hr;clear hX
  exact bb [0,1,2,3,4,5] 5 rfl
 refine aD (af ?_)
 obtain ⟨x1,hx1⟩:=bO (xs:=b.ak) (i:=Int.toNat (d.n)) aa
 obtain ⟨xr1,e1,hr1⟩:∃ (xr1:bF) (e1:Int),eh x1 d.sum b.time=(xr1,e1):=⟨_,_,rfl⟩
 refine eJ [0,1,4,7] [6,5,0,1,2,3,4] rfl (cV 9 rfl (dZ 7 [160,164] [1] rfl (cU (i:=Int.toNat (d.n)) rfl rfl rfl gy gX) (de 7 [165] [1] rfl (dk rfl rfl rfl rB rfl gX (aV hx1) rfl) rfl (cV 9 rfl (de 7 [166,170,175] [] rfl (cA 7 (Fn.frozen (av':=(.t [(.g [(cI xr1.bB),(cI xr1.held),(cI xr1.bJ.cw),(cI xr1.bJ.count),(cI xr1.bJ.sum),(eF xr1.cO)]),(.c (cI e1))])) (zC x1 d.sum b.time xr1 e1 hr1) ⟨⟨.inl ⟨_,rfl,rfl⟩,.inl ⟨_,rfl,rfl⟩,.inl ⟨_,rfl,rfl⟩,.inl ⟨_,rfl,rfl⟩,.inl ⟨_,rfl,rfl⟩,.inr ⟨_,_,_,_,_,rfl,rfl,rfl,ca⟩,trivial⟩,.inl ⟨_,rfl,rfl⟩,trivial⟩) Lm rfl) rfl (gJ (n':=8) (kn:=[]) bn 6 rfl trivial (eb [0,1,4,7,9,8] [7,6,5,0,1,2,3,4] rfl rfl aJ (then_ok (af (ag 2 rfl (aO rfl (fun hc13'=>?_) (fun hc13'=>?_))))))))))))
 ·
  refine ag 3 rfl (al (aj ?_))
  have hX:dw b d=(b,(⟨e1,0⟩:Answer)):=by
    unfold dw;(try simp only [hdn,Bool.false_eq_true,if_false,hr0,hr1,hx1]);exact sx
  cases hX.symm.trans hr;clear hX
  exact bb [0,1,2,3,4,5] 5 rfl
 refine aD (af (bg [0,1,4,7,9] [7,6,5,0,1,2,3,4] rfl (aF 10 rfl (bh 8 [187,191] [1] rfl (cU (i:=Int.toNat (d.n)) rfl rfl rfl gy gX) (bf [7,6,5,0,1,2,3,4] rfl (eP [7,6,5,0,1,2,3,4] (dK (ds:=[(dI xr1.bB),(dI xr1.held),(dI xr1.bJ.cw),(dI xr1.bJ.count),(dI xr1.bJ.sum),(Br xr1.cO)]) rfl rfl rfl rfl rfl gX rfl (Nat.le_of_ble_eq_true rfl) (aV hx1) rfl (eE (x':=xr1) rfl)) rfl (ae (dW (k:=0) (q:=2) (c':=(.s 1 0 6 (((b.ak).set (Int.toNat (d.n)) xr1).length))) rfl rfl jN rfl (af (bg [0,4,7] [6,5,0,1,2,3,4] rfl (aF 7 rfl (bM 9 [200] [] rfl (dM (ys:=[(0,(.g [(cI b0.aA),(cI b0.au),(cI b0.sum),(cI b0.captured),(cI b0.bd),(cI b0.aX),(cI b0.da),(cB b0.shut)]))]) (rows:=([b0]).map jm) 8 nY rfl) rfl (bM 10 [199,201] [8,3] rfl (dU (m:=1) (N:=b.an.length+1) (k2:=9) (ys:=([b0]).map jm) nY rfl rfl rfl rfl dv) rfl (aF 3 rfl (bf [9,6,5,0,1,2,4] rfl (ad 1 rfl (ae (dW (k:=0) (q:=4) (c':=(.s 9 0 8 ((b.an++([b0])).length))) rfl rfl jN rfl (aw 5 rfl (az (dn rfl rfl rfl rfl rfl hG) rfl (bl rfl rfl rfl rfl bT (ad 2 rfl (ae (al ?_))))))))))))))))))))))))
 have hX:dw b d=((⟨b.time,b.down,(b.ak).set (Int.toNat (d.n)) xr1,b.due,b.an++([b0]),b.s0,b.s1,b.n0,b.n1,b.w0,b.w1,b.aQ,b.aM,b.book⟩:Bk),(⟨0,(↑((b.an++([b0])).length):Int) - 1⟩:Answer)):=by
   unfold dw;(try simp only [hdn,Bool.false_eq_true,if_false,hr0,hr1,hx1]);exact sx
 cases hX.symm.trans hr;clear hX
 exact bb [0,1,2,9,4,5] 5 rfl
theorem Jo (x:Nat->Value) (hx:∀ i,(x i).oneCell'=true) (b:Bk) (d:bW) (ok:cH b) (hdn:b.down=true) (b2:Bk) (a2:Answer) (hr:dw b d=(b2,a2)):cS Tryz.prog 33 [(.c (.p 0 0 0 0)),(.c (.q (ek d) 0))] [(0,(.box 58 (cf b 1 2 3 4 (.d (.v (x 17))) (.d (.v (x 19)))))),(1,(dS b.ak)),(2,(dR b.due)),(3,(ec b.an)),(4,(cX b.aM))] [0] (.v (.g [cI a2.err,cI a2.ba])) [(0,(.box 58 (cf b2 1 2 3 4 (.d (.v (x 17))) (.d (.v (x 19)))))),(1,(dS b2.ak)),(2,(dR b2.due)),(3,(ec b2.an)),(4,(cX b2.aM))]:=by
 refine cS.mk 214 [(0,(aC (.p 0 0 0 0))),(1,(aC (.q (ek d) 0)))] 5 Tryz.func33 rfl rfl rfl rfl rfl rfl rfl rfl rfl ?_
 intro W0 F0 T0 pg
 obtain ⟨okt,okc,okd,oka,oky,okw0,okw1,okp,okv,okk0,okk1,okg,okl0,okl1,okp0,okp1,okn0,okn1,okq⟩:=id ok
 refine ag 1 rfl (af (af ?_))
 rcases Bool.eq_false_or_eq_true (decide (d.n < 0)) with hb1|hb1
 ·
  have hb1':=of_decide_eq_true hb1
  refine bg [0,1,4] [5,0,1,2,3,4] rfl (bC (kn:=[(14,true)]) bn 38 rfl ⟨hb1,trivial⟩ (bf [5,0,1,2,3,4] rfl (ae (ax rfl (fun _=>?_) (fun hno=>by cases hno)))))
  refine ag 2 rfl (al (aj ?_))
  have hX:dw b d=(b,(⟨6,0⟩:Answer)):=by
    unfold dw gO;(try simp only [hdn,if_true]);exact sx
  cases hX.symm.trans hr;clear hX
  exact bb [0,1,2,3,4,5] 5 rfl
 have hb1':=of_decide_eq_false hb1
 rcases Bool.eq_false_or_eq_true (decide (d.n>=(↑b.ak.length:Int))) with hb3|hb3
 ·
  have hb3':=of_decide_eq_true hb3
  refine bg [0,1,4] [5,0,1,2,3,4] rfl (bC (kn:=[(14,false)]) bn 15 rfl ⟨hb1,trivial⟩ (cG (n':=6) [24,15] [1] rfl rfl (.inl ⟨(aR.yes rfl rfl rfl),dn rfl rfl rfl rfl rfl gy⟩) rfl (bC (kn:=[(26,true)]) bn 22 rfl ⟨hb3,trivial⟩ (bf [5,0,1,2,3,4] rfl (ae (ax rfl (fun _=>?_) (fun hno=>by cases hno)))))))
  refine ag 2 rfl (al (aj ?_))
  have hX:dw b d=(b,(⟨6,0⟩:Answer)):=by
    unfold dw gO;(try simp only [hdn,if_true]);exact sx
  cases hX.symm.trans hr;clear hX
  exact bb [0,1,2,3,4,5] 5 rfl
 have hb3':=of_decide_eq_false hb3
 rcases Bool.eq_false_or_eq_true (decide (d.au < 0)) with hb5|hb5
 ·
  have hb5':=of_decide_eq_true hb5
  refine bg [0,1,4] [5,0,1,2,3,4] rfl (bC (kn:=[(14,false)]) bn 15 rfl ⟨hb1,trivial⟩ (cG (n':=6) [24,15] [1] rfl rfl (.inl ⟨(aR.yes rfl rfl rfl),dn rfl rfl rfl rfl rfl gy⟩) rfl (bC (kn:=[(26,false),(33,true)]) bn 22 rfl ⟨hb3,hb5,trivial⟩ (bf [5,0,1,2,3,4] rfl (ae (ax rfl (fun _=>?_) (fun hno=>by cases hno)))))))
  refine ag 2 rfl (al (aj ?_))
  have hX:dw b d=(b,(⟨6,0⟩:Answer)):=by
    unfold dw gO;(try simp only [hdn,if_true]);exact sx
  cases hX.symm.trans hr;clear hX
  exact bb [0,1,2,3,4,5] 5 rfl
 have hb5':=of_decide_eq_false hb5
 refine bg [0,1,4] [5,0,1,2,3,4] rfl (bC (kn:=[(14,false)]) bn 15 rfl ⟨hb1,trivial⟩ (cG (n':=6) [24,15] [1] rfl rfl (.inl ⟨(aR.yes rfl rfl rfl),dn rfl rfl rfl rfl rfl gy⟩) rfl (bC (kn:=[(26,false),(33,false)]) bn 19 rfl ⟨hb3,hb5,trivial⟩ (cG (n':=6) [44,35] [2] rfl rfl (.inl ⟨(aR.yes rfl rfl rfl),dn rfl rfl rfl rfl rfl ed⟩) rfl (aF 2 rfl (bf [5,0,1,2,3,4] rfl (ae (aO rfl (fun hc7'=>?_) (fun hc7'=>?_)))))))))
 ·
  refine ag 2 rfl (al (aj ?_))
  have hX:dw b d=(b,(⟨6,0⟩:Answer)):=by
    unfold dw gO;(try simp only [hdn,if_true]);exact sx
  cases hX.symm.trans hr;clear hX
  exact bb [0,1,2,3,4,5] 5 rfl
 refine aD (af (ag 5 rfl (ax rfl (fun _=>?_) (fun hno=>absurd (hdn.symm.trans hno) cm))))
 refine af ?_
 obtain ⟨xr0,e0,hr0⟩:∃ (xr0:cT) (e0:Int),cC b.aQ (⟨d.n,d.au,d.sum,b.time⟩:ch)=(xr0,e0):=⟨_,_,rfl⟩
 have hgl:=xA b.aQ ((⟨d.n,d.au,d.sum,b.time⟩:ch))
 rw [hr0] at hgl;dsimp only at hgl
 refine eJ [0,1,4] [5,0,1,2,3,4] rfl (cV 23 rfl (de 6 [59,77] [] rfl (cA 6 (Fn.frozen (av':=(.t [(.g [(cI xr0.cap),(dt xr0.used),(eo xr0.aH)]),(.c (cI e0))])) (zr b.aQ (⟨d.n,d.au,d.sum,b.time⟩:ch) xr0 e0 hr0) ⟨⟨.inl ⟨_,rfl,rfl⟩,.inr ⟨_,_,_,_,_,rfl,rfl,rfl,ca⟩,.inr ⟨_,_,_,_,_,rfl,rfl,rfl,ca⟩,trivial⟩,.inl ⟨_,rfl,rfl⟩,trivial⟩) Ln rfl) rfl (gJ (n':=7) (kn:=[]) bn 6 rfl trivial (eb [0,1,4,5,6] [6,5,0,1,2,3,4] rfl rfl aJ (then_ok (af (ag 2 rfl (aO rfl (fun hc9'=>?_) (fun hc9'=>?_)))))))))
 ·
  refine ah (ad 1 rfl (ae (af (af (bg [0,1,4,5,6] [6,5,0,1,2,3,4] rfl (bC (kn:=[(84,false)]) bn 15 rfl ⟨rfl,trivial⟩ (bf [6,5,0,1,2,3,4] rfl (ae (ax rfl (fun hno=>by cases hno) (fun _=>?_))))))))))
  refine aD (af (aw 1 rfl (az (bm rfl rfl rfl (show _=some (Value.bool true) from rfl)) rfl (ae (ax rfl (fun _=>?_) (fun hno=>by cases hno))))))
  refine ag 3 rfl (al (aj (aj ?_)))
  have hX:dw b d=(b,(⟨12,0⟩:Answer)):=by
    unfold dw gO;(try simp only [hdn,if_true,hr0]);exact sx
  cases hX.symm.trans hr;clear hX
  exact bb [0,1,2,3,4,5] 5 rfl
 refine aD (af (af ?_))
 rcases Bool.eq_false_or_eq_true (decide (e0=0)) with hb12|hb12
 ·
  have hb12':=of_decide_eq_true hb12
  refine bg [0,1,4,5,6] [6,5,0,1,2,3,4] rfl (bC (kn:=[(84,true)]) bn 8 rfl ⟨hb12,trivial⟩ (cG (n':=7) [90,85] [3] rfl rfl (.inl ⟨(aR.yes rfl rfl rfl),dn rfl rfl rfl rfl rfl hG⟩) rfl (aF 2 rfl (cG (n':=7) [93,85] [] rfl rfl (.inl ⟨(aR.yes rfl rfl rfl),cD rfl rfl iY⟩) rfl (cG (n':=7) [91,94,85] [] rfl rfl (.inl ⟨(aR.yes rfl rfl rfl),bm rfl rfl rfl (bH aa)⟩) rfl (aF 2 rfl (bf [6,5,0,1,2,3,4] rfl (ae (aO rfl (fun hc13'=>?_) (fun hc13'=>?_))))))))))
  ·
   refine ah (ad 1 rfl (ae (af (aw 1 rfl (az (bm rfl rfl rfl (show _=some (Value.bool true) from rfl)) rfl (ae (ax rfl (fun _=>?_) (fun hno=>by cases hno))))))))
   refine ag 3 rfl (al (aj (aj ?_)))
   have hX:dw b d=(b,(⟨5,0⟩:Answer)):=by
     unfold dw gO;(try simp only [hdn,if_true,hr0]);exact sx
   cases hX.symm.trans hr;clear hX
   exact bb [0,1,2,3,4,5] 5 rfl
  refine aD (af (ag 2 rfl (aO rfl (fun hc15'=>?_) (fun hc15'=>?_))))
  ·
   refine ag 3 rfl (al (aj (aj ?_)))
   have hX:dw b d=(b,(⟨e0,0⟩:Answer)):=by
     unfold dw gO;(try simp only [hdn,if_true,hr0]);exact sx
   cases hX.symm.trans hr;clear hX
   exact bb [0,1,2,3,4,5] 5 rfl
  refine aD (ag 6 rfl (af (bg [0,1,4,5] [6,5,0,1,2,3,4] rfl (aF 5 rfl (bh 7 [111] [3] rfl (dn rfl rfl rfl rfl rfl hG) (aF 2 rfl (bh 7 [114] [] rfl (cD rfl rfl iY) (bh 7 [112,115] [] rfl (bm rfl rfl rfl (bH aa)) (bh 7 [116] [] rfl (bm rfl rfl rfl (bH aa)) (aF 1 rfl (bf [6,5,0,1,2,3,4] rfl (ad 1 rfl (ae (al (aj ?_)))))))))))))))
  have hX:dw b d=((⟨b.time,b.down,b.ak,b.due,b.an,b.s0,b.s1,b.n0,b.n1,b.w0,b.w1,xr0,b.aM,b.book⟩:Bk),(⟨0,((↑b.an.length:Int)+(↑xr0.aH.length:Int)) - 1⟩:Answer)):=by
    unfold dw gO;(try simp only [hdn,if_true,hr0]);exact sx
  cases hX.symm.trans hr;clear hX
  exact bb [0,1,2,3,4,5] 5 rfl
 have hb12':=of_decide_eq_false hb12
 refine bg [0,1,4,5,6] [6,5,0,1,2,3,4] rfl (bC (kn:=[(84,false)]) bn 15 rfl ⟨hb12,trivial⟩ (bf [6,5,0,1,2,3,4] rfl (ae (ax rfl (fun hno=>by cases hno) (fun _=>?_)))))
 refine aD (af (ag 2 rfl (aO rfl (fun hc17'=>?_) (fun hc17'=>?_))))
 ·
  refine ag 3 rfl (al (aj (aj ?_)))
  have hX:dw b d=(b,(⟨e0,0⟩:Answer)):=by
    unfold dw gO;(try simp only [hdn,if_true,hr0]);exact sx
  cases hX.symm.trans hr;clear hX
  exact bb [0,1,2,3,4,5] 5 rfl
 refine aD (ag 6 rfl (af (bg [0,1,4,5] [6,5,0,1,2,3,4] rfl (aF 5 rfl (bh 7 [111] [3] rfl (dn rfl rfl rfl rfl rfl hG) (aF 2 rfl (bh 7 [114] [] rfl (cD rfl rfl iY) (bh 7 [112,115] [] rfl (bm rfl rfl rfl (bH aa)) (bh 7 [116] [] rfl (bm rfl rfl rfl (bH aa)) (aF 1 rfl (bf [6,5,0,1,2,3,4] rfl (ad 1 rfl (ae (al (aj ?_)))))))))))))))
 have hX:dw b d=((⟨b.time,b.down,b.ak,b.due,b.an,b.s0,b.s1,b.n0,b.n1,b.w0,b.w1,xr0,b.aM,b.book⟩:Bk),(⟨0,((↑b.an.length:Int)+(↑xr0.aH.length:Int)) - 1⟩:Answer)):=by
   unfold dw gO;(try simp only [hdn,if_true,hr0]);exact sx
 cases hX.symm.trans hr;clear hX
 exact bb [0,1,2,3,4,5] 5 rfl
theorem Kx (x:Nat->Value) (hx:∀ i,(x i).oneCell'=true) (b:Bk) (d:bW) (ok:cH b) (b2:Bk) (a2:Answer) (hr:dw b d=(b2,a2)):cS Tryz.prog 33 [(.c (.p 0 0 0 0)),(.c (.q (ek d) 0))] [(0,(.box 58 (cf b 1 2 3 4 (.d (.v (x 17))) (.d (.v (x 19)))))),(1,(dS b.ak)),(2,(dR b.due)),(3,(ec b.an)),(4,(cX b.aM))] [0] (.v (.g [cI a2.err,cI a2.ba])) [(0,(.box 58 (cf b2 1 2 3 4 (.d (.v (x 17))) (.d (.v (x 19)))))),(1,(dS b2.ak)),(2,(dR b2.due)),(3,(ec b2.an)),(4,(cX b2.aM))]:=by
  cases hdn:b.down
  ·exact Jn x hx b d ok hdn b2 a2 hr
  ·exact Jo x hx b d ok hdn b2 a2 hr
end Go.Proofs.YtnfopdlnboeheaaGreat.Dev
