/- A part of the proof: Sort5, Sort4, Sort6, Sort7, Day1, Day4, Day5, Bank1, Bank2, Bank3. No condition. -/
import Derived.Test.YtnfopdlnboeheaaGreatD09
set_option linter.unusedVariables false
set_option linter.unusedSimpArgs false
set_option maxHeartbeats 4000000
set_option maxRecDepth 100000
namespace Go.Proofs.YtnfopdlnboeheaaGreat.Dev
open Go.RowKit

theorem CA (f:Nat) (ih:∀ (ai mi bi:Int) (d:List ar) (N a m b:Nat) (fn:FuncId) (bu:List (List D)) (hp:∀ x y:ar,Fn Tryz.prog fn ([.g [cI x.au,cI x.ba,cI x.kind,cI x.sum],.g [cI y.au,cI y.ba,cI y.kind,cI y.sum]]++bu.map fun r=>GV.c (.q r 0)) (aI (ki x y)) []) (hen:bc Tryz.prog fn) (ea_:ai=(↑a:Int)) (em_:mi=(↑m:Int)) (eb_:bi=(↑b:Int)) (hl:d.length * 32<=140737488355328) (hN:N=d.length) (h0_:a < m) (h1_:m < b) (h2_:b<=d.length) (h3_:b - a<=f) (r:List ar) (hr:eM f a m b d=r),cS Tryz.prog 130 [(.c (.s 0 0 4 N)),(.c (cI ai)),(.c (cI mi)),(.c (cI bi)),(.c (.d (.f fn bu)))] [(0,(cX d))] [0] (.t []) [(0,(cX r))]) (d:List ar) (N a m b:Nat) (fn:FuncId) (bu:List (List D)) (hp:∀ x y:ar,Fn Tryz.prog fn ([.g [cI x.au,cI x.ba,cI x.kind,cI x.sum],.g [cI y.au,cI y.ba,cI y.kind,cI y.sum]]++bu.map fun r=>GV.c (.q r 0)) (aI (ki x y)) []) (hen:bc Tryz.prog fn) (hl:d.length * 32<=140737488355328) (hN:N=d.length) (h0_:a < m) (h1_:m < b) (h2_:b<=d.length) (h3_:b - a<=f+1) (r:List ar) (hr:eM (f+1) a m b d=r):cS Tryz.prog 130 [(.c (.s 0 0 4 N)),(.c (cI (↑a:Int))),(.c (cI (↑m:Int))),(.c (cI (↑b:Int))),(.c (.d (.f fn bu)))] [(0,(cX d))] [0] (.t []) [(0,(cX r))]:=by
 refine cS.mk 220 [(0,(aC (.s 0 0 4 N))),(1,(aI (↑a:Int))),(2,(aI (↑m:Int))),(3,(aI (↑b:Int))),(4,(aC (.d (.f fn bu))))] 1 Tryz.func130 rfl rfl rfl rfl rfl rfl rfl rfl rfl ?_
 intro W0 F0 T0 pg
 refine jx 0 rfl (fun hlen0=>?_)
 refine af (aw 2 rfl (bl rfl rfl rfl rfl aa (ad 1 rfl (ae (aO rfl (fun hc1'=>?_) (fun hc1'=>?_))))))
 ·
  refine ag 2 rfl (ag 2 rfl (af (aL (cb (β:=Nat×Nat) (fun (p:Nat×Nat)=>match p with|(i,j)=>⟨[(0,(aC (.s 0 0 4 N))),(1,(aI (↑a:Int))),(2,(aI (↑m:Int))),(3,(aI (↑b:Int))),(4,(aC (.d (.f fn bu)))),(10,(aI (↑i:Int))),(11,(aI (↑j:Int)))],[(0,(cX d))],1⟩) (fun (p:Nat×Nat)=>match p with|(i,j)=>m<=i/\i<=j/\j<=b/\iH (fun h=>eI d h a) i j=iH (fun h=>eI d h a) m b) (fun (p:Nat×Nat)=>match p with|(i,j)=>j - i) (m,b) ?_ ?_ ?_))))
  ·exact ⟨aa,aa,aa,rfl⟩
  ·exact aq.rz id
  rintro ⟨i,j⟩ ⟨hi0_0,hi0_1,hi0_2,hi0_3⟩
  refine af (ag 3 rfl (aO rfl (fun hc2'=>?_) (fun hc2'=>?_)))
  ·
   refine aD (aL (aw 2 rfl (bl rfl rfl rfl rfl aa (az (eW rfl rfl (by rw [Tryz.underlying3];rfl) sL (ns aa)) rfl (az (qi (r:=(↑(((i)+(j)) / 2):Int)) rfl rfl rfl aa) rfl (az (eW rfl rfl (by rw [Tryz.underlying183];rfl) eA (nt aa)) rfl (ad 1 rfl (ae ?_))))))))
   obtain ⟨h,hh⟩:∃ z:Nat,z=(i+j) / 2:=⟨_,rfl⟩
   refine jS (i:=12) (v:=(aI (↑h:Int))) (gl (ρ:=id) rfl aa) (af ?_)
   obtain ⟨x1,hx1⟩:=bO (xs:=d) (i:=h) aa
   obtain ⟨x2,hx2⟩:=bO (xs:=d) (i:=a) aa
   refine bg [0,1,2,3,4,10,11,12] [0] rfl (aF 3 rfl (bh 1 [41,42] [0] rfl (cU (i:=h) rfl rfl rfl dQ cY) (bM 1 [43] [0] rfl (dk rfl rfl rfl iR rfl cY (aV hx1) rfl) rfl (aF 2 rfl (bh 1 [45,46] [0] rfl (cU (i:=a) rfl rfl rfl dQ cY) (bM 1 [47] [0] rfl (dk rfl rfl rfl iR rfl cY (aV hx2) rfl) rfl (bM 1 [40,44,48] [] rfl (kl (ins:=[(.g [(cI x1.au),(cI x1.ba),(cI x1.kind),(cI x1.sum)]),(.g [(cI x2.au),(cI x2.ba),(cI x2.kind),(cI x2.sum)])]) 1 (hp x1 x2) hen rfl rfl rfl ⟨⟨_,rfl,.g ⟨.d _,.d _,.d _,.d _,trivial⟩⟩,⟨_,rfl,.g ⟨.d _,.d _,.d _,.d _,trivial⟩⟩,trivial⟩ trivial trivial rfl rfl rfl rfl) rfl (aF 1 rfl (bf [0] rfl (ae (aO rfl (fun hc3'=>?_) (fun hc3'=>?_))))))))))))
   ·
    refine ah (ad 1 rfl (bl rfl rfl rfl rfl aa (ad 1 rfl (bq (aN (then_ok (⟨(h+1,j),⟨aa,aa,aa,vx hi0_3 aa hh (by show eI _ _ _=true;rw [iT hx1 hx2,oK.1 dr])⟩,bT,aq.rz id⟩)))))))
   refine ah (ad 2 rfl (bq (aN (then_ok (⟨(i,h),⟨aa,aa,aa,vy hi0_3 aa hh (by show eI _ _ _=false;rw [iT hx1 hx2,oL dr])⟩,bT,aq.rz id⟩)))))
  refine bR (aE (aE (bw (then_ok (af (ag 2 rfl (aL (cb (β:=Nat×List ar) (fun (p:Nat×List ar)=>match p with|(k,d1)=>⟨[(0,(aC (.s 0 0 4 N))),(1,(aI (↑a:Int))),(2,(aI (↑m:Int))),(3,(aI (↑b:Int))),(4,(aC (.d (.f fn bu)))),(10,(aI (↑i:Int))),(11,(aI (↑j:Int))),(13,(aI (↑k:Int)))],[(0,(cX d1))],1⟩) (fun (p:Nat×List ar)=>match p with|(k,d1)=>a<=k/\k+1<=i/\d1=rl a (k - a) d/\d1.length=d.length) (fun (p:Nat×List ar)=>match p with|(k,d1)=>i - k) (a,d) ?_ ?_ ?_))))))))
  ·exact ⟨aa,aa,by rw [Nat.sub_self];rfl,rfl⟩
  ·exact aq.rz id
  rintro ⟨k,d1⟩ ⟨hi1_0,hi1_1,hi1_2,hi1_3⟩
  refine af (aw 2 rfl (bl rfl rfl rfl rfl aa (ad 1 rfl (ae (aO rfl (fun hc4'=>?_) (fun hc4'=>?_))))))
  ·
   refine aD (af (aL ?_))
   obtain ⟨x1,hx1⟩:=bO (xs:=d1) (i:=(k)+1) aa
   obtain ⟨x2,hx2⟩:=bO (xs:=d1) (i:=k) aa
   obtain ⟨x3,hx3⟩:=bO (xs:=((d1).set k x1)) (i:=(k)+1) bT
   refine eJ [0,1,2,3,4,10,11,13] [0] rfl (cV 4 rfl (dZ 1 [64] [] rfl (bm rfl rfl rfl (bH aa)) (cV 2 rfl (dZ 1 [67] [] rfl (bm rfl rfl rfl (bH aa)) (dZ 1 [66,68] [0] rfl (cU (i:=(k)+1) rfl rfl rfl dQ cY) (de 1 [69] [0] rfl (dk rfl rfl rfl iR rfl cY (aV hx1) rfl) rfl (cV 2 rfl (dZ 1 [71,72] [0] rfl (cU (i:=k) rfl rfl rfl dQ cY) (de 1 [73] [0] rfl (dk rfl rfl rfl iR rfl cY (aV hx2) rfl) rfl (dZ 1 [61,62] [0] rfl (cU (i:=k) rfl rfl rfl dQ cY) (de 1 [75,70] [0] rfl (dK (ds:=[(dI x1.au),(dI x1.ba),(dI x1.kind),(dI x1.sum)]) rfl rfl rfl rfl rfl cY rfl (Nat.le_of_ble_eq_true rfl) (aV hx2) rfl (eE (x':=x1) rfl)) rfl (dZ 1 [63,65] [0] rfl (cU (i:=(k)+1) rfl rfl rfl dQ cY) (de 1 [76,74] [0] rfl (dK (ds:=[(dI x2.au),(dI x2.ba),(dI x2.kind),(dI x2.sum)]) rfl rfl rfl rfl rfl cY rfl (Nat.le_of_ble_eq_true rfl) (aV hx3) rfl (eE (x':=x2) rfl)) rfl (eb [0,1,2,3,4,10,11,13] [0] rfl rfl aJ (aN (then_ok (ah (ad 1 rfl (bl rfl rfl rfl rfl aa (ad 1 rfl (ae (⟨(k+1,((d1).set k x1).set ((k)+1) x2),⟨aa,aa,by rw [EX hi1_0,<-hi1_2];exact (oT hx2 hx1).symm,by simp only [List.length_set];exact hi1_3⟩,bT,aq.rz id⟩))))))))))))))))))))))
  refine bR (aE (aE (bw (then_ok (al (aj ?_))))))
  have hX:eM (f+1) a m b d=d1:=by
    rw [eM.eq_2,if_pos aa,<-hi0_3,fW aa,hi1_2]
    exact congrArg (fun z=>rl a z d) aa
  rw [hX] at hr;clear hX
  subst hr
  exact aS [0] 1 rfl
 refine aD (af (aw 2 rfl (bl rfl rfl rfl rfl aa (ad 1 rfl (ae (aO rfl (fun hc5'=>?_) (fun hc5'=>?_)))))))
 ·
  refine ag 2 rfl (ag 2 rfl (af (aL (cb (β:=Nat×Nat) (fun (p:Nat×Nat)=>match p with|(i2,j2)=>⟨[(0,(aC (.s 0 0 4 N))),(1,(aI (↑a:Int))),(2,(aI (↑m:Int))),(3,(aI (↑b:Int))),(4,(aC (.d (.f fn bu)))),(14,(aI (↑i2:Int))),(15,(aI (↑j2:Int)))],[(0,(cX d))],1⟩) (fun (p:Nat×Nat)=>match p with|(i2,j2)=>a<=i2/\i2<=j2/\j2<=m/\iH (fun h=>!eI d m h) i2 j2=iH (fun h=>!eI d m h) a m) (fun (p:Nat×Nat)=>match p with|(i2,j2)=>j2 - i2) (a,m) ?_ ?_ ?_))))
  ·exact ⟨aa,aa,aa,rfl⟩
  ·exact aq.rz id
  rintro ⟨i2,j2⟩ ⟨hi2_0,hi2_1,hi2_2,hi2_3⟩
  refine af (ag 3 rfl (aO rfl (fun hc6'=>?_) (fun hc6'=>?_)))
  ·
   refine aD (aL (aw 2 rfl (bl rfl rfl rfl rfl aa (az (eW rfl rfl (by rw [Tryz.underlying3];rfl) sL (ns aa)) rfl (az (qi (r:=(↑(((i2)+(j2)) / 2):Int)) rfl rfl rfl aa) rfl (az (eW rfl rfl (by rw [Tryz.underlying183];rfl) eA (nt aa)) rfl (ad 1 rfl (ae ?_))))))))
   obtain ⟨h2,hh2⟩:∃ z:Nat,z=(i2+j2) / 2:=⟨_,rfl⟩
   refine jS (i:=16) (v:=(aI (↑h2:Int))) (gl (ρ:=id) rfl aa) (af ?_)
   obtain ⟨x1,hx1⟩:=bO (xs:=d) (i:=m) aa
   obtain ⟨x2,hx2⟩:=bO (xs:=d) (i:=h2) aa
   refine bg [0,1,2,3,4,14,15,16] [0] rfl (aF 3 rfl (bh 1 [93,94] [0] rfl (cU (i:=m) rfl rfl rfl dQ cY) (bM 1 [95] [0] rfl (dk rfl rfl rfl iR rfl cY (aV hx1) rfl) rfl (aF 2 rfl (bh 1 [97,98] [0] rfl (cU (i:=h2) rfl rfl rfl dQ cY) (bM 1 [99] [0] rfl (dk rfl rfl rfl iR rfl cY (aV hx2) rfl) rfl (bM 1 [92,96,100] [] rfl (kl (ins:=[(.g [(cI x1.au),(cI x1.ba),(cI x1.kind),(cI x1.sum)]),(.g [(cI x2.au),(cI x2.ba),(cI x2.kind),(cI x2.sum)])]) 1 (hp x1 x2) hen rfl rfl rfl ⟨⟨_,rfl,.g ⟨.d _,.d _,.d _,.d _,trivial⟩⟩,⟨_,rfl,.g ⟨.d _,.d _,.d _,.d _,trivial⟩⟩,trivial⟩ trivial trivial rfl rfl rfl rfl) rfl (aF 2 rfl (bf [0] rfl (ae (ax rfl (fun hc7=>?_) (fun hc7=>?_))))))))))))
   ·
    have hc7':=hc7;try simp only [aT,bx] at hc7'
    refine ah (ad 1 rfl (bl rfl rfl rfl rfl aa (ad 1 rfl (bq (aN (then_ok (⟨(h2+1,j2),⟨aa,aa,aa,vx hi2_3 aa hh2 (by show (!eI _ _ _)=true;rw [iT hx1 hx2,oL dr];rfl)⟩,bT,aq.rz id⟩)))))))
   have hc7':=hc7;try simp only [aT,bx] at hc7'
   refine ah (ad 2 rfl (bq (aN (then_ok (⟨(i2,h2),⟨aa,aa,aa,vy hi2_3 aa hh2 (by show (!eI _ _ _)=false;rw [iT hx1 hx2,oK.1 dr];rfl)⟩,bT,aq.rz id⟩)))))
  refine bR (aE (aE (bw (then_ok (af (ag 2 rfl (aL (cb (β:=Nat×List ar) (fun (p:Nat×List ar)=>match p with|(k,d1)=>⟨[(0,(aC (.s 0 0 4 N))),(1,(aI (↑a:Int))),(2,(aI (↑m:Int))),(3,(aI (↑b:Int))),(4,(aC (.d (.f fn bu)))),(14,(aI (↑i2:Int))),(15,(aI (↑j2:Int))),(17,(aI (↑k:Int)))],[(0,(cX d1))],1⟩) (fun (p:Nat×List ar)=>match p with|(k,d1)=>i2<=k/\k<=m/\d1=rn m (m - k) d/\d1.length=d.length) (fun (p:Nat×List ar)=>match p with|(k,d1)=>k) (m,d) ?_ ?_ ?_))))))))
  ·exact ⟨aa,aa,by rw [Nat.sub_self];rfl,rfl⟩
  ·exact aq.rz id
  rintro ⟨k,d1⟩ ⟨hi3_0,hi3_1,hi3_2,hi3_3⟩
  refine af (ag 3 rfl (aO rfl (fun hc8'=>?_) (fun hc8'=>?_)))
  ·
   refine aD (af (aL ?_))
   obtain ⟨x1,hx1⟩:=bO (xs:=d1) (i:=(k) - 1) aa
   obtain ⟨x2,hx2⟩:=bO (xs:=d1) (i:=k) aa
   obtain ⟨x3,hx3⟩:=bO (xs:=((d1).set k x1)) (i:=(k) - 1) bT
   refine eJ [0,1,2,3,4,14,15,17] [0] rfl (cV 4 rfl (dZ 1 [116] [] rfl (bm rfl rfl rfl (bH aa)) (cV 2 rfl (dZ 1 [119] [] rfl (bm rfl rfl rfl (bH aa)) (dZ 1 [118,120] [0] rfl (cU (i:=(k) - 1) rfl rfl rfl dQ cY) (de 1 [121] [0] rfl (dk rfl rfl rfl iR rfl cY (aV hx1) rfl) rfl (cV 2 rfl (dZ 1 [123,124] [0] rfl (cU (i:=k) rfl rfl rfl dQ cY) (de 1 [125] [0] rfl (dk rfl rfl rfl iR rfl cY (aV hx2) rfl) rfl (dZ 1 [113,114] [0] rfl (cU (i:=k) rfl rfl rfl dQ cY) (de 1 [127,122] [0] rfl (dK (ds:=[(dI x1.au),(dI x1.ba),(dI x1.kind),(dI x1.sum)]) rfl rfl rfl rfl rfl cY rfl (Nat.le_of_ble_eq_true rfl) (aV hx2) rfl (eE (x':=x1) rfl)) rfl (dZ 1 [115,117] [0] rfl (cU (i:=(k) - 1) rfl rfl rfl dQ cY) (de 1 [128,126] [0] rfl (dK (ds:=[(dI x2.au),(dI x2.ba),(dI x2.kind),(dI x2.sum)]) rfl rfl rfl rfl rfl cY rfl (Nat.le_of_ble_eq_true rfl) (aV hx3) rfl (eE (x':=x2) rfl)) rfl (eb [0,1,2,3,4,14,15,17] [0] rfl rfl aJ (aN (then_ok (ah (ad 1 rfl (bl rfl rfl rfl rfl aa (ad 1 rfl (ae (⟨(k - 1,((d1).set k x1).set ((k) - 1) x2),⟨aa,aa,by rw [EY hi3_1 aa,<-hi3_2];exact (oT hx2 hx1).symm,by simp only [List.length_set];exact hi3_3⟩,bT,aq.rz id⟩))))))))))))))))))))))
  refine bR (aE (aE (bw (then_ok (al (aj ?_))))))
  have hX:eM (f+1) a m b d=d1:=by
    rw [eM.eq_2,if_neg aa,if_pos aa,<-hi2_3,fW aa,hi3_2]
    exact congrArg (fun z=>rn m z d) aa
  rw [hX] at hr;clear hX
  subst hr
  exact aS [0] 1 rfl
 refine aD (aw 2 rfl (bl rfl rfl rfl rfl aa (az (eW rfl rfl (by rw [Tryz.underlying3];rfl) sL (ns aa)) rfl (az (qi (r:=(↑(((a)+(b)) / 2):Int)) rfl rfl rfl aa) rfl (az (eW rfl rfl (by rw [Tryz.underlying183];rfl) eA (nt aa)) rfl (ad 1 rfl (ae ?_)))))))
 obtain ⟨mid,hmid⟩:∃ z:Nat,z=(a+b) / 2:=⟨_,rfl⟩
 refine jS (i:=18) (v:=(aI (↑mid:Int))) (gl (ρ:=id) rfl aa) (aw 2 rfl (bl rfl rfl rfl rfl aa (ad 1 rfl (ae (ag 2 rfl (af (ag 3 rfl (aO rfl (fun hc9'=>?_) (fun hc9'=>?_)))))))))
 ·
  refine aw 2 rfl (bl rfl rfl rfl rfl aa (ad 1 rfl (ae (ah (ad 2 rfl (ae (aw 1 rfl (bl rfl rfl rfl rfl aa (ad 1 rfl (ae (af (aL (cb (β:=Nat×Nat) (fun (p:Nat×Nat)=>match p with|(s,u1)=>⟨[(0,(aC (.s 0 0 4 N))),(1,(aI (↑a:Int))),(2,(aI (↑m:Int))),(3,(aI (↑b:Int))),(4,(aC (.d (.f fn bu)))),(18,(aI (↑mid:Int))),(19,(aI ((↑mid:Int)+(↑m:Int)))),(20,(aI (↑s:Int))),(21,(aI (↑u1:Int))),(22,(aI (((↑mid:Int)+(↑m:Int)) - 1)))],[(0,(cX d))],1⟩) (fun (p:Nat×Nat)=>match p with|(s,u1)=>((mid)+(m)) - (b)<=s/\s<=u1/\u1<=mid/\iH (fun c=>!eI d (mid+m - 1 - c) c) s u1=iH (fun c=>!eI d (mid+m - 1 - c) c) (((mid)+(m)) - (b)) mid) (fun (p:Nat×Nat)=>match p with|(s,u1)=>u1 - s) (((mid)+(m)) - (b),mid) ?_ ?_ ?_)))))))))))))
  ·exact ⟨aa,aa,aa,rfl⟩
  ·exact aq.rz id
  rintro ⟨s,u1⟩ ⟨hi4_0,hi4_1,hi4_2,hi4_3⟩
  refine af (ag 3 rfl (aO rfl (fun hc10'=>?_) (fun hc10'=>?_)))
  ·
   refine aD (aL (aw 2 rfl (bl rfl rfl rfl rfl aa (az (eW rfl rfl (by rw [Tryz.underlying3];rfl) sL (ns aa)) rfl (az (qi (r:=(↑(((s)+(u1)) / 2):Int)) rfl rfl rfl aa) rfl (az (eW rfl rfl (by rw [Tryz.underlying183];rfl) eA (nt aa)) rfl (ad 1 rfl (ae ?_))))))))
   obtain ⟨c,hc⟩:∃ z:Nat,z=(s+u1) / 2:=⟨_,rfl⟩
   refine jS (i:=23) (v:=(aI (↑c:Int))) (gl (ρ:=id) rfl aa) (af ?_)
   obtain ⟨x1,hx1⟩:=bO (xs:=d) (i:=(((mid)+(m)) - 1) - (c)) aa
   obtain ⟨x2,hx2⟩:=bO (xs:=d) (i:=c) aa
   refine bg [0,1,2,3,4,18,19,20,21,22,23] [0] rfl (aF 4 rfl (bh 1 [160,161] [] rfl (bm rfl rfl rfl (bH aa)) (bh 1 [159,162] [0] rfl (cU (i:=(((mid)+(m)) - 1) - (c)) rfl rfl rfl dQ cY) (bM 1 [163] [0] rfl (dk rfl rfl rfl iR rfl cY (aV hx1) rfl) rfl (aF 2 rfl (bh 1 [165,166] [0] rfl (cU (i:=c) rfl rfl rfl dQ cY) (bM 1 [167] [0] rfl (dk rfl rfl rfl iR rfl cY (aV hx2) rfl) rfl (bM 1 [158,164,168] [] rfl (kl (ins:=[(.g [(cI x1.au),(cI x1.ba),(cI x1.kind),(cI x1.sum)]),(.g [(cI x2.au),(cI x2.ba),(cI x2.kind),(cI x2.sum)])]) 1 (hp x1 x2) hen rfl rfl rfl ⟨⟨_,rfl,.g ⟨.d _,.d _,.d _,.d _,trivial⟩⟩,⟨_,rfl,.g ⟨.d _,.d _,.d _,.d _,trivial⟩⟩,trivial⟩ trivial trivial rfl rfl rfl rfl) rfl (aF 2 rfl (bf [0] rfl (ae (ax rfl (fun hc11=>?_) (fun hc11=>?_)))))))))))))
   ·
    have hc11':=hc11;try simp only [aT,bx] at hc11'
    refine ah (ad 1 rfl (bl rfl rfl rfl rfl aa (ad 1 rfl (bq (aN (then_ok (⟨(c+1,u1),⟨aa,aa,aa,vx hi4_3 aa hc (by show (!eI _ _ _)=true;rw [iT hx1 hx2,oL dr];rfl)⟩,bT,aq.rz id⟩)))))))
   have hc11':=hc11;try simp only [aT,bx] at hc11'
   refine ah (ad 2 rfl (bq (aN (then_ok (⟨(s,c),⟨aa,aa,aa,vy hi4_3 aa hc (by show (!eI _ _ _)=false;rw [iT hx1 hx2,oK.1 dr];rfl)⟩,bT,aq.rz id⟩)))))
  refine bR (aE (aE (bw (then_ok (aw 2 rfl (bl rfl rfl rfl rfl aa (ad 1 rfl (ae (af ?_)))))))))
  obtain ⟨e,he⟩:∃ z:Nat,z=mid+m - s:=⟨_,rfl⟩
  refine jS (i:=24) (v:=(aI (↑e:Int))) (gl (ρ:=id) rfl aa) (bQ 185 ((decide ((↑s:Int) < (↑m:Int))) && (decide ((↑m:Int) < (↑e:Int)))) ?_ ?_)
  ·
   refine ah (ad 4 rfl (bz 181 rfl (fun hb12'=>?_) (fun hb12'=>?_)))
   ·
    exact ad 4 rfl (ae (aq.pz 9 rfl))
   exact ad 4 rfl (ae (aq.pz 9 rfl))
  refine ax rfl (fun hc13=>?_) (fun hc13=>?_)
  ·
   have hc13':=hc13;try simp only [aT,bx] at hc13'
   refine ah (ad 5 rfl ?_)
   obtain ⟨r0,hr0⟩:∃ (r0:List ar),lA m (m - s) (e - m) d=r0:=⟨_,rfl⟩
   have hlr0:r0.length=d.length:=by rw [<-hr0];exact qc _ _ _ _ _ (Nat.le_refl _)
   refine ay 1 [0] (jC id id (xk (↑s:Int) (↑m:Int) (↑e:Int) d N s m e fn bu hp hen aa aa aa aa aa aa aa aa r0 hr0) Gr rfl) rfl (ae (af (bQ 199 ((decide ((↑a:Int) < (↑s:Int))) && (decide ((↑s:Int) < (↑mid:Int)))) ?_ ?_)))
   ·
    refine ah (ad 4 rfl (bz 195 rfl (fun hb14'=>?_) (fun hb14'=>?_)))
    ·
     exact ad 4 rfl (ae (aq.pz 9 rfl))
    exact ad 4 rfl (ae (aq.pz 9 rfl))
   refine ax rfl (fun hc15=>?_) (fun hc15=>?_)
   ·
    have hc15':=hc15;try simp only [aT,bx] at hc15'
    refine ah (ad 5 rfl ?_)
    obtain ⟨r1,hr1⟩:∃ (r1:List ar),eM f a s mid r0=r1:=⟨_,rfl⟩
    have hlr1:r1.length=r0.length:=by rw [<-hr1];exact gi _ _ _ _ _
    refine ay 1 [0] (jC id id (ih (↑a:Int) (↑s:Int) (↑mid:Int) r0 N a s mid fn bu hp hen aa aa aa aa aa aa aa aa aa r1 hr1) kQ rfl) rfl (ae (bQ 213 ((decide ((↑mid:Int) < (↑e:Int))) && (decide ((↑e:Int) < (↑b:Int)))) ?_ ?_))
    ·
     refine ah (ad 4 rfl (bz 209 rfl (fun hb16'=>?_) (fun hb16'=>?_)))
     ·
      exact ad 4 rfl (ae (aq.pz 9 rfl))
     exact ad 4 rfl (ae (aq.pz 9 rfl))
    refine ax rfl (fun hc17=>?_) (fun hc17=>?_)
    ·
     have hc17':=hc17;try simp only [aT,bx] at hc17'
     refine ah (ad 5 rfl ?_)
     obtain ⟨r2,hr2⟩:∃ (r2:List ar),eM f mid e b r1=r2:=⟨_,rfl⟩
     have hlr2:r2.length=r1.length:=by rw [<-hr2];exact gi _ _ _ _ _
     refine ay 1 [0] (jC id id (ih (↑mid:Int) (↑e:Int) (↑b:Int) r1 N mid e b fn bu hp hen aa aa aa aa aa aa aa aa aa r2 hr2) kQ rfl) rfl (bq ?_)
     have hX:eM (f+1) a m b d=r2:=by
       exact fg (mid:=mid) (s:=s) (e:=e) (d1:=r0) (d2:=r1) aa aa hmid (by unfold fB;rw [<-hmid,<-fW (p:=(fun c=>!eI d (mid+m - 1 - c) c)) (i:=s) (j:=u1) aa,hi4_3];first|exact if_pos aa|exact if_neg aa) he.symm (by unfold gw;rw [if_pos aa];exact hr0) (by rw [if_pos aa];exact hr1) (by rw [if_pos aa];exact hr2)
     rw [hX] at hr;clear hX
     subst hr
     refine cJ bn [0] 1 rfl rfl rfl rfl rfl rfl ?_ ?_
     all_goals first|rfl|(simp [cq];done)|(simp [cq];omega)
    have hc17':=hc17;try simp only [aT,bx] at hc17'
    refine cv ?_
    have hX:eM (f+1) a m b d=r1:=by
      exact fg (mid:=mid) (s:=s) (e:=e) (d1:=r0) (d2:=r1) aa aa hmid (by unfold fB;rw [<-hmid,<-fW (p:=(fun c=>!eI d (mid+m - 1 - c) c)) (i:=s) (j:=u1) aa,hi4_3];first|exact if_pos aa|exact if_neg aa) he.symm (by unfold gw;rw [if_pos aa];exact hr0) (by rw [if_pos aa];exact hr1) (by rw [if_neg aa])
    rw [hX] at hr;clear hX
    subst hr
    refine cJ bn [0] 1 rfl rfl rfl rfl rfl rfl ?_ ?_
    all_goals first|rfl|(simp [cq];done)|(simp [cq];omega)
   have hc15':=hc15;try simp only [aT,bx] at hc15'
   refine aD (bQ 213 ((decide ((↑mid:Int) < (↑e:Int))) && (decide ((↑e:Int) < (↑b:Int)))) ?_ ?_)
   ·
    refine ah (ad 4 rfl (bz 209 rfl (fun hb18'=>?_) (fun hb18'=>?_)))
    ·
     exact ad 4 rfl (ae (aq.pz 9 rfl))
    exact ad 4 rfl (ae (aq.pz 9 rfl))
   refine ax rfl (fun hc19=>?_) (fun hc19=>?_)
   ·
    have hc19':=hc19;try simp only [aT,bx] at hc19'
    refine ah (ad 5 rfl ?_)
    obtain ⟨r3,hr3⟩:∃ (r3:List ar),eM f mid e b r0=r3:=⟨_,rfl⟩
    have hlr3:r3.length=r0.length:=by rw [<-hr3];exact gi _ _ _ _ _
    refine ay 1 [0] (jC id id (ih (↑mid:Int) (↑e:Int) (↑b:Int) r0 N mid e b fn bu hp hen aa aa aa aa aa aa aa aa aa r3 hr3) kQ rfl) rfl (bq ?_)
    have hX:eM (f+1) a m b d=r3:=by
      exact fg (mid:=mid) (s:=s) (e:=e) (d1:=r0) (d2:=r0) aa aa hmid (by unfold fB;rw [<-hmid,<-fW (p:=(fun c=>!eI d (mid+m - 1 - c) c)) (i:=s) (j:=u1) aa,hi4_3];first|exact if_pos aa|exact if_neg aa) he.symm (by unfold gw;rw [if_pos aa];exact hr0) (by rw [if_neg aa]) (by rw [if_pos aa];exact hr3)
    rw [hX] at hr;clear hX
    subst hr
    refine cJ bn [0] 1 rfl rfl rfl rfl rfl rfl ?_ ?_
    all_goals first|rfl|(simp [cq];done)|(simp [cq];omega)
   have hc19':=hc19;try simp only [aT,bx] at hc19'
   refine cv ?_
   have hX:eM (f+1) a m b d=r0:=by
     exact fg (mid:=mid) (s:=s) (e:=e) (d1:=r0) (d2:=r0) aa aa hmid (by unfold fB;rw [<-hmid,<-fW (p:=(fun c=>!eI d (mid+m - 1 - c) c)) (i:=s) (j:=u1) aa,hi4_3];first|exact if_pos aa|exact if_neg aa) he.symm (by unfold gw;rw [if_pos aa];exact hr0) (by rw [if_neg aa]) (by rw [if_neg aa])
   rw [hX] at hr;clear hX
   subst hr
   refine cJ bn [0] 1 rfl rfl rfl rfl rfl rfl ?_ ?_
   all_goals first|rfl|(simp [cq];done)|(simp [cq];omega)
  have hc13':=hc13;try simp only [aT,bx] at hc13'
  refine aD (af (bQ 199 ((decide ((↑a:Int) < (↑s:Int))) && (decide ((↑s:Int) < (↑mid:Int)))) ?_ ?_))
  ·
   refine ah (ad 4 rfl (bz 195 rfl (fun hb20'=>?_) (fun hb20'=>?_)))
   ·
    exact ad 4 rfl (ae (aq.pz 9 rfl))
   exact ad 4 rfl (ae (aq.pz 9 rfl))
  refine ax rfl (fun hc21=>?_) (fun hc21=>?_)
  ·
   have hc21':=hc21;try simp only [aT,bx] at hc21'
   refine ah (ad 5 rfl ?_)
   obtain ⟨r4,hr4⟩:∃ (r4:List ar),eM f a s mid d=r4:=⟨_,rfl⟩
   have hlr4:r4.length=d.length:=by rw [<-hr4];exact gi _ _ _ _ _
   refine ay 1 [0] (jC id id (ih (↑a:Int) (↑s:Int) (↑mid:Int) d N a s mid fn bu hp hen aa aa aa aa aa aa aa aa aa r4 hr4) kQ rfl) rfl (ae (bQ 213 ((decide ((↑mid:Int) < (↑e:Int))) && (decide ((↑e:Int) < (↑b:Int)))) ?_ ?_))
   ·
    refine ah (ad 4 rfl (bz 209 rfl (fun hb22'=>?_) (fun hb22'=>?_)))
    ·
     exact ad 4 rfl (ae (aq.pz 9 rfl))
    exact ad 4 rfl (ae (aq.pz 9 rfl))
   refine ax rfl (fun hc23=>?_) (fun hc23=>?_)
   ·
    have hc23':=hc23;try simp only [aT,bx] at hc23'
    refine ah (ad 5 rfl ?_)
    obtain ⟨r5,hr5⟩:∃ (r5:List ar),eM f mid e b r4=r5:=⟨_,rfl⟩
    have hlr5:r5.length=r4.length:=by rw [<-hr5];exact gi _ _ _ _ _
    refine ay 1 [0] (jC id id (ih (↑mid:Int) (↑e:Int) (↑b:Int) r4 N mid e b fn bu hp hen aa aa aa aa aa aa aa aa aa r5 hr5) kQ rfl) rfl (bq ?_)
    have hX:eM (f+1) a m b d=r5:=by
      exact fg (mid:=mid) (s:=s) (e:=e) (d1:=d) (d2:=r4) aa aa hmid (by unfold fB;rw [<-hmid,<-fW (p:=(fun c=>!eI d (mid+m - 1 - c) c)) (i:=s) (j:=u1) aa,hi4_3];first|exact if_pos aa|exact if_neg aa) he.symm (by unfold gw;rw [if_neg aa]) (by rw [if_pos aa];exact hr4) (by rw [if_pos aa];exact hr5)
    rw [hX] at hr;clear hX
    subst hr
    refine cJ bn [0] 1 rfl rfl rfl rfl rfl rfl ?_ ?_
    all_goals first|rfl|(simp [cq];done)|(simp [cq];omega)
   have hc23':=hc23;try simp only [aT,bx] at hc23'
   refine cv ?_
   have hX:eM (f+1) a m b d=r4:=by
     exact fg (mid:=mid) (s:=s) (e:=e) (d1:=d) (d2:=r4) aa aa hmid (by unfold fB;rw [<-hmid,<-fW (p:=(fun c=>!eI d (mid+m - 1 - c) c)) (i:=s) (j:=u1) aa,hi4_3];first|exact if_pos aa|exact if_neg aa) he.symm (by unfold gw;rw [if_neg aa]) (by rw [if_pos aa];exact hr4) (by rw [if_neg aa])
   rw [hX] at hr;clear hX
   subst hr
   refine cJ bn [0] 1 rfl rfl rfl rfl rfl rfl ?_ ?_
   all_goals first|rfl|(simp [cq];done)|(simp [cq];omega)
  have hc21':=hc21;try simp only [aT,bx] at hc21'
  refine aD (bQ 213 ((decide ((↑mid:Int) < (↑e:Int))) && (decide ((↑e:Int) < (↑b:Int)))) ?_ ?_)
  ·
   refine ah (ad 4 rfl (bz 209 rfl (fun hb24'=>?_) (fun hb24'=>?_)))
   ·
    exact ad 4 rfl (ae (aq.pz 9 rfl))
   exact ad 4 rfl (ae (aq.pz 9 rfl))
  refine ax rfl (fun hc25=>?_) (fun hc25=>?_)
  ·
   have hc25':=hc25;try simp only [aT,bx] at hc25'
   refine ah (ad 5 rfl ?_)
   obtain ⟨r6,hr6⟩:∃ (r6:List ar),eM f mid e b d=r6:=⟨_,rfl⟩
   have hlr6:r6.length=d.length:=by rw [<-hr6];exact gi _ _ _ _ _
   refine ay 1 [0] (jC id id (ih (↑mid:Int) (↑e:Int) (↑b:Int) d N mid e b fn bu hp hen aa aa aa aa aa aa aa aa aa r6 hr6) kQ rfl) rfl (bq ?_)
   have hX:eM (f+1) a m b d=r6:=by
     exact fg (mid:=mid) (s:=s) (e:=e) (d1:=d) (d2:=d) aa aa hmid (by unfold fB;rw [<-hmid,<-fW (p:=(fun c=>!eI d (mid+m - 1 - c) c)) (i:=s) (j:=u1) aa,hi4_3];first|exact if_pos aa|exact if_neg aa) he.symm (by unfold gw;rw [if_neg aa]) (by rw [if_neg aa]) (by rw [if_pos aa];exact hr6)
   rw [hX] at hr;clear hX
   subst hr
   refine cJ bn [0] 1 rfl rfl rfl rfl rfl rfl ?_ ?_
   all_goals first|rfl|(simp [cq];done)|(simp [cq];omega)
  have hc25':=hc25;try simp only [aT,bx] at hc25'
  refine cv ?_
  have hX:eM (f+1) a m b d=d:=by
    exact fg (mid:=mid) (s:=s) (e:=e) (d1:=d) (d2:=d) aa aa hmid (by unfold fB;rw [<-hmid,<-fW (p:=(fun c=>!eI d (mid+m - 1 - c) c)) (i:=s) (j:=u1) aa,hi4_3];first|exact if_pos aa|exact if_neg aa) he.symm (by unfold gw;rw [if_neg aa]) (by rw [if_neg aa]) (by rw [if_neg aa])
  rw [hX] at hr;clear hX
  subst hr
  refine cJ bn [0] 1 rfl rfl rfl rfl rfl rfl ?_ ?_
  all_goals first|rfl|(simp [cq];done)|(simp [cq];omega)
 refine ag 2 rfl (ah (ad 2 rfl (ae (aw 1 rfl (bl rfl rfl rfl rfl aa (ad 1 rfl (ae (af (aL (cb (β:=Nat×Nat) (fun (p:Nat×Nat)=>match p with|(s,u1)=>⟨[(0,(aC (.s 0 0 4 N))),(1,(aI (↑a:Int))),(2,(aI (↑m:Int))),(3,(aI (↑b:Int))),(4,(aC (.d (.f fn bu)))),(18,(aI (↑mid:Int))),(19,(aI ((↑mid:Int)+(↑m:Int)))),(20,(aI (↑s:Int))),(21,(aI (↑u1:Int))),(22,(aI (((↑mid:Int)+(↑m:Int)) - 1)))],[(0,(cX d))],1⟩) (fun (p:Nat×Nat)=>match p with|(s,u1)=>a<=s/\s<=u1/\u1<=m/\iH (fun c=>!eI d (mid+m - 1 - c) c) s u1=iH (fun c=>!eI d (mid+m - 1 - c) c) a m) (fun (p:Nat×Nat)=>match p with|(s,u1)=>u1 - s) (a,m) ?_ ?_ ?_))))))))))
 ·exact ⟨aa,aa,aa,rfl⟩
 ·exact aq.rz id
 rintro ⟨s,u1⟩ ⟨hi4_0,hi4_1,hi4_2,hi4_3⟩
 refine af (ag 3 rfl (aO rfl (fun hc26'=>?_) (fun hc26'=>?_)))
 ·
  refine aD (aL (aw 2 rfl (bl rfl rfl rfl rfl aa (az (eW rfl rfl (by rw [Tryz.underlying3];rfl) sL (ns aa)) rfl (az (qi (r:=(↑(((s)+(u1)) / 2):Int)) rfl rfl rfl aa) rfl (az (eW rfl rfl (by rw [Tryz.underlying183];rfl) eA (nt aa)) rfl (ad 1 rfl (ae ?_))))))))
  obtain ⟨c,hc⟩:∃ z:Nat,z=(s+u1) / 2:=⟨_,rfl⟩
  refine jS (i:=23) (v:=(aI (↑c:Int))) (gl (ρ:=id) rfl aa) (af ?_)
  obtain ⟨x1,hx1⟩:=bO (xs:=d) (i:=(((mid)+(m)) - 1) - (c)) aa
  obtain ⟨x2,hx2⟩:=bO (xs:=d) (i:=c) aa
  refine bg [0,1,2,3,4,18,19,20,21,22,23] [0] rfl (aF 4 rfl (bh 1 [160,161] [] rfl (bm rfl rfl rfl (bH aa)) (bh 1 [159,162] [0] rfl (cU (i:=(((mid)+(m)) - 1) - (c)) rfl rfl rfl dQ cY) (bM 1 [163] [0] rfl (dk rfl rfl rfl iR rfl cY (aV hx1) rfl) rfl (aF 2 rfl (bh 1 [165,166] [0] rfl (cU (i:=c) rfl rfl rfl dQ cY) (bM 1 [167] [0] rfl (dk rfl rfl rfl iR rfl cY (aV hx2) rfl) rfl (bM 1 [158,164,168] [] rfl (kl (ins:=[(.g [(cI x1.au),(cI x1.ba),(cI x1.kind),(cI x1.sum)]),(.g [(cI x2.au),(cI x2.ba),(cI x2.kind),(cI x2.sum)])]) 1 (hp x1 x2) hen rfl rfl rfl ⟨⟨_,rfl,.g ⟨.d _,.d _,.d _,.d _,trivial⟩⟩,⟨_,rfl,.g ⟨.d _,.d _,.d _,.d _,trivial⟩⟩,trivial⟩ trivial trivial rfl rfl rfl rfl) rfl (aF 2 rfl (bf [0] rfl (ae (ax rfl (fun hc27=>?_) (fun hc27=>?_)))))))))))))
  ·
   have hc27':=hc27;try simp only [aT,bx] at hc27'
   refine ah (ad 1 rfl (bl rfl rfl rfl rfl aa (ad 1 rfl (bq (aN (then_ok (⟨(c+1,u1),⟨aa,aa,aa,vx hi4_3 aa hc (by show (!eI _ _ _)=true;rw [iT hx1 hx2,oL dr];rfl)⟩,bT,aq.rz id⟩)))))))
  have hc27':=hc27;try simp only [aT,bx] at hc27'
  refine ah (ad 2 rfl (bq (aN (then_ok (⟨(s,c),⟨aa,aa,aa,vy hi4_3 aa hc (by show (!eI _ _ _)=false;rw [iT hx1 hx2,oK.1 dr];rfl)⟩,bT,aq.rz id⟩)))))
 refine bR (aE (aE (bw (then_ok (aw 2 rfl (bl rfl rfl rfl rfl aa (ad 1 rfl (ae (af ?_)))))))))
 obtain ⟨e,he⟩:∃ z:Nat,z=mid+m - s:=⟨_,rfl⟩
 refine jS (i:=24) (v:=(aI (↑e:Int))) (gl (ρ:=id) rfl aa) (bQ 185 ((decide ((↑s:Int) < (↑m:Int))) && (decide ((↑m:Int) < (↑e:Int)))) ?_ ?_)
 ·
  refine ah (ad 4 rfl (bz 181 rfl (fun hb28'=>?_) (fun hb28'=>?_)))
  ·
   exact ad 4 rfl (ae (aq.pz 9 rfl))
  exact ad 4 rfl (ae (aq.pz 9 rfl))
 refine ax rfl (fun hc29=>?_) (fun hc29=>?_)
 ·
  have hc29':=hc29;try simp only [aT,bx] at hc29'
  refine ah (ad 5 rfl ?_)
  obtain ⟨r7,hr7⟩:∃ (r7:List ar),lA m (m - s) (e - m) d=r7:=⟨_,rfl⟩
  have hlr7:r7.length=d.length:=by rw [<-hr7];exact qc _ _ _ _ _ (Nat.le_refl _)
  refine ay 1 [0] (jC id id (xk (↑s:Int) (↑m:Int) (↑e:Int) d N s m e fn bu hp hen aa aa aa aa aa aa aa aa r7 hr7) Gr rfl) rfl (ae (af (bQ 199 ((decide ((↑a:Int) < (↑s:Int))) && (decide ((↑s:Int) < (↑mid:Int)))) ?_ ?_)))
  ·
   refine ah (ad 4 rfl (bz 195 rfl (fun hb30'=>?_) (fun hb30'=>?_)))
   ·
    exact ad 4 rfl (ae (aq.pz 9 rfl))
   exact ad 4 rfl (ae (aq.pz 9 rfl))
  refine ax rfl (fun hc31=>?_) (fun hc31=>?_)
  ·
   have hc31':=hc31;try simp only [aT,bx] at hc31'
   refine ah (ad 5 rfl ?_)
   obtain ⟨r8,hr8⟩:∃ (r8:List ar),eM f a s mid r7=r8:=⟨_,rfl⟩
   have hlr8:r8.length=r7.length:=by rw [<-hr8];exact gi _ _ _ _ _
   refine ay 1 [0] (jC id id (ih (↑a:Int) (↑s:Int) (↑mid:Int) r7 N a s mid fn bu hp hen aa aa aa aa aa aa aa aa aa r8 hr8) kQ rfl) rfl (ae (bQ 213 ((decide ((↑mid:Int) < (↑e:Int))) && (decide ((↑e:Int) < (↑b:Int)))) ?_ ?_))
   ·
    refine ah (ad 4 rfl (bz 209 rfl (fun hb32'=>?_) (fun hb32'=>?_)))
    ·
     exact ad 4 rfl (ae (aq.pz 9 rfl))
    exact ad 4 rfl (ae (aq.pz 9 rfl))
   refine ax rfl (fun hc33=>?_) (fun hc33=>?_)
   ·
    have hc33':=hc33;try simp only [aT,bx] at hc33'
    refine ah (ad 5 rfl ?_)
    obtain ⟨r9,hr9⟩:∃ (r9:List ar),eM f mid e b r8=r9:=⟨_,rfl⟩
    have hlr9:r9.length=r8.length:=by rw [<-hr9];exact gi _ _ _ _ _
    refine ay 1 [0] (jC id id (ih (↑mid:Int) (↑e:Int) (↑b:Int) r8 N mid e b fn bu hp hen aa aa aa aa aa aa aa aa aa r9 hr9) kQ rfl) rfl (bq ?_)
    have hX:eM (f+1) a m b d=r9:=by
      exact fg (mid:=mid) (s:=s) (e:=e) (d1:=r7) (d2:=r8) aa aa hmid (by unfold fB;rw [<-hmid,<-fW (p:=(fun c=>!eI d (mid+m - 1 - c) c)) (i:=s) (j:=u1) aa,hi4_3];first|exact if_pos aa|exact if_neg aa) he.symm (by unfold gw;rw [if_pos aa];exact hr7) (by rw [if_pos aa];exact hr8) (by rw [if_pos aa];exact hr9)
    rw [hX] at hr;clear hX
    subst hr
    refine cJ bn [0] 1 rfl rfl rfl rfl rfl rfl ?_ ?_
    all_goals first|rfl|(simp [cq];done)|(simp [cq];omega)
   have hc33':=hc33;try simp only [aT,bx] at hc33'
   refine cv ?_
   have hX:eM (f+1) a m b d=r8:=by
     exact fg (mid:=mid) (s:=s) (e:=e) (d1:=r7) (d2:=r8) aa aa hmid (by unfold fB;rw [<-hmid,<-fW (p:=(fun c=>!eI d (mid+m - 1 - c) c)) (i:=s) (j:=u1) aa,hi4_3];first|exact if_pos aa|exact if_neg aa) he.symm (by unfold gw;rw [if_pos aa];exact hr7) (by rw [if_pos aa];exact hr8) (by rw [if_neg aa])
   rw [hX] at hr;clear hX
   subst hr
   refine cJ bn [0] 1 rfl rfl rfl rfl rfl rfl ?_ ?_
   all_goals first|rfl|(simp [cq];done)|(simp [cq];omega)
  have hc31':=hc31;try simp only [aT,bx] at hc31'
  refine aD (bQ 213 ((decide ((↑mid:Int) < (↑e:Int))) && (decide ((↑e:Int) < (↑b:Int)))) ?_ ?_)
  ·
   refine ah (ad 4 rfl (bz 209 rfl (fun hb34'=>?_) (fun hb34'=>?_)))
   ·
    exact ad 4 rfl (ae (aq.pz 9 rfl))
   exact ad 4 rfl (ae (aq.pz 9 rfl))
  refine ax rfl (fun hc35=>?_) (fun hc35=>?_)
  ·
   have hc35':=hc35;try simp only [aT,bx] at hc35'
   refine ah (ad 5 rfl ?_)
   obtain ⟨r10,hr10⟩:∃ (r10:List ar),eM f mid e b r7=r10:=⟨_,rfl⟩
   have hlr10:r10.length=r7.length:=by rw [<-hr10];exact gi _ _ _ _ _
   refine ay 1 [0] (jC id id (ih (↑mid:Int) (↑e:Int) (↑b:Int) r7 N mid e b fn bu hp hen aa aa aa aa aa aa aa aa aa r10 hr10) kQ rfl) rfl (bq ?_)
   have hX:eM (f+1) a m b d=r10:=by
     exact fg (mid:=mid) (s:=s) (e:=e) (d1:=r7) (d2:=r7) aa aa hmid (by unfold fB;rw [<-hmid,<-fW (p:=(fun c=>!eI d (mid+m - 1 - c) c)) (i:=s) (j:=u1) aa,hi4_3];first|exact if_pos aa|exact if_neg aa) he.symm (by unfold gw;rw [if_pos aa];exact hr7) (by rw [if_neg aa]) (by rw [if_pos aa];exact hr10)
   rw [hX] at hr;clear hX
   subst hr
   refine cJ bn [0] 1 rfl rfl rfl rfl rfl rfl ?_ ?_
   all_goals first|rfl|(simp [cq];done)|(simp [cq];omega)
  have hc35':=hc35;try simp only [aT,bx] at hc35'
  refine cv ?_
  have hX:eM (f+1) a m b d=r7:=by
    exact fg (mid:=mid) (s:=s) (e:=e) (d1:=r7) (d2:=r7) aa aa hmid (by unfold fB;rw [<-hmid,<-fW (p:=(fun c=>!eI d (mid+m - 1 - c) c)) (i:=s) (j:=u1) aa,hi4_3];first|exact if_pos aa|exact if_neg aa) he.symm (by unfold gw;rw [if_pos aa];exact hr7) (by rw [if_neg aa]) (by rw [if_neg aa])
  rw [hX] at hr;clear hX
  subst hr
  refine cJ bn [0] 1 rfl rfl rfl rfl rfl rfl ?_ ?_
  all_goals first|rfl|(simp [cq];done)|(simp [cq];omega)
 have hc29':=hc29;try simp only [aT,bx] at hc29'
 refine aD (af (bQ 199 ((decide ((↑a:Int) < (↑s:Int))) && (decide ((↑s:Int) < (↑mid:Int)))) ?_ ?_))
 ·
  refine ah (ad 4 rfl (bz 195 rfl (fun hb36'=>?_) (fun hb36'=>?_)))
  ·
   exact ad 4 rfl (ae (aq.pz 9 rfl))
  exact ad 4 rfl (ae (aq.pz 9 rfl))
 refine ax rfl (fun hc37=>?_) (fun hc37=>?_)
 ·
  have hc37':=hc37;try simp only [aT,bx] at hc37'
  refine ah (ad 5 rfl ?_)
  obtain ⟨r11,hr11⟩:∃ (r11:List ar),eM f a s mid d=r11:=⟨_,rfl⟩
  have hlr11:r11.length=d.length:=by rw [<-hr11];exact gi _ _ _ _ _
  refine ay 1 [0] (jC id id (ih (↑a:Int) (↑s:Int) (↑mid:Int) d N a s mid fn bu hp hen aa aa aa aa aa aa aa aa aa r11 hr11) kQ rfl) rfl (ae (bQ 213 ((decide ((↑mid:Int) < (↑e:Int))) && (decide ((↑e:Int) < (↑b:Int)))) ?_ ?_))
  ·
   refine ah (ad 4 rfl (bz 209 rfl (fun hb38'=>?_) (fun hb38'=>?_)))
   ·
    exact ad 4 rfl (ae (aq.pz 9 rfl))
   exact ad 4 rfl (ae (aq.pz 9 rfl))
  refine ax rfl (fun hc39=>?_) (fun hc39=>?_)
  ·
   have hc39':=hc39;try simp only [aT,bx] at hc39'
   refine ah (ad 5 rfl ?_)
   obtain ⟨r12,hr12⟩:∃ (r12:List ar),eM f mid e b r11=r12:=⟨_,rfl⟩
   have hlr12:r12.length=r11.length:=by rw [<-hr12];exact gi _ _ _ _ _
   refine ay 1 [0] (jC id id (ih (↑mid:Int) (↑e:Int) (↑b:Int) r11 N mid e b fn bu hp hen aa aa aa aa aa aa aa aa aa r12 hr12) kQ rfl) rfl (bq ?_)
   have hX:eM (f+1) a m b d=r12:=by
     exact fg (mid:=mid) (s:=s) (e:=e) (d1:=d) (d2:=r11) aa aa hmid (by unfold fB;rw [<-hmid,<-fW (p:=(fun c=>!eI d (mid+m - 1 - c) c)) (i:=s) (j:=u1) aa,hi4_3];first|exact if_pos aa|exact if_neg aa) he.symm (by unfold gw;rw [if_neg aa]) (by rw [if_pos aa];exact hr11) (by rw [if_pos aa];exact hr12)
   rw [hX] at hr;clear hX
   subst hr
   refine cJ bn [0] 1 rfl rfl rfl rfl rfl rfl ?_ ?_
   all_goals first|rfl|(simp [cq];done)|(simp [cq];omega)
  have hc39':=hc39;try simp only [aT,bx] at hc39'
  refine cv ?_
  have hX:eM (f+1) a m b d=r11:=by
    exact fg (mid:=mid) (s:=s) (e:=e) (d1:=d) (d2:=r11) aa aa hmid (by unfold fB;rw [<-hmid,<-fW (p:=(fun c=>!eI d (mid+m - 1 - c) c)) (i:=s) (j:=u1) aa,hi4_3];first|exact if_pos aa|exact if_neg aa) he.symm (by unfold gw;rw [if_neg aa]) (by rw [if_pos aa];exact hr11) (by rw [if_neg aa])
  rw [hX] at hr;clear hX
  subst hr
  refine cJ bn [0] 1 rfl rfl rfl rfl rfl rfl ?_ ?_
  all_goals first|rfl|(simp [cq];done)|(simp [cq];omega)
 have hc37':=hc37;try simp only [aT,bx] at hc37'
 refine aD (bQ 213 ((decide ((↑mid:Int) < (↑e:Int))) && (decide ((↑e:Int) < (↑b:Int)))) ?_ ?_)
 ·
  refine ah (ad 4 rfl (bz 209 rfl (fun hb40'=>?_) (fun hb40'=>?_)))
  ·
   exact ad 4 rfl (ae (aq.pz 9 rfl))
  exact ad 4 rfl (ae (aq.pz 9 rfl))
 refine ax rfl (fun hc41=>?_) (fun hc41=>?_)
 ·
  have hc41':=hc41;try simp only [aT,bx] at hc41'
  refine ah (ad 5 rfl ?_)
  obtain ⟨r13,hr13⟩:∃ (r13:List ar),eM f mid e b d=r13:=⟨_,rfl⟩
  have hlr13:r13.length=d.length:=by rw [<-hr13];exact gi _ _ _ _ _
  refine ay 1 [0] (jC id id (ih (↑mid:Int) (↑e:Int) (↑b:Int) d N mid e b fn bu hp hen aa aa aa aa aa aa aa aa aa r13 hr13) kQ rfl) rfl (bq ?_)
  have hX:eM (f+1) a m b d=r13:=by
    exact fg (mid:=mid) (s:=s) (e:=e) (d1:=d) (d2:=d) aa aa hmid (by unfold fB;rw [<-hmid,<-fW (p:=(fun c=>!eI d (mid+m - 1 - c) c)) (i:=s) (j:=u1) aa,hi4_3];first|exact if_pos aa|exact if_neg aa) he.symm (by unfold gw;rw [if_neg aa]) (by rw [if_neg aa]) (by rw [if_pos aa];exact hr13)
  rw [hX] at hr;clear hX
  subst hr
  refine cJ bn [0] 1 rfl rfl rfl rfl rfl rfl ?_ ?_
  all_goals first|rfl|(simp [cq];done)|(simp [cq];omega)
 have hc41':=hc41;try simp only [aT,bx] at hc41'
 refine cv ?_
 have hX:eM (f+1) a m b d=d:=by
   exact fg (mid:=mid) (s:=s) (e:=e) (d1:=d) (d2:=d) aa aa hmid (by unfold fB;rw [<-hmid,<-fW (p:=(fun c=>!eI d (mid+m - 1 - c) c)) (i:=s) (j:=u1) aa,hi4_3];first|exact if_pos aa|exact if_neg aa) he.symm (by unfold gw;rw [if_neg aa]) (by rw [if_neg aa]) (by rw [if_neg aa])
 rw [hX] at hr;clear hX
 subst hr
 refine cJ bn [0] 1 rfl rfl rfl rfl rfl rfl ?_ ?_
 all_goals first|rfl|(simp [cq];done)|(simp [cq];omega)
theorem CB:∀ (f:Nat) (ai mi bi:Int) (d:List ar) (N a m b:Nat) (fn:FuncId) (bu:List (List D)) (hp:∀ x y:ar,Fn Tryz.prog fn ([.g [cI x.au,cI x.ba,cI x.kind,cI x.sum],.g [cI y.au,cI y.ba,cI y.kind,cI y.sum]]++bu.map fun r=>GV.c (.q r 0)) (aI (ki x y)) []) (hen:bc Tryz.prog fn) (ea_:ai=(↑a:Int)) (em_:mi=(↑m:Int)) (eb_:bi=(↑b:Int)) (hl:d.length * 32<=140737488355328) (hN:N=d.length) (h0_:a < m) (h1_:m < b) (h2_:b<=d.length) (h3_:b - a<=f) (r:List ar) (hr:eM f a m b d=r),cS Tryz.prog 130 [(.c (.s 0 0 4 N)),(.c (cI ai)),(.c (cI mi)),(.c (cI bi)),(.c (.d (.f fn bu)))] [(0,(cX d))] [0] (.t []) [(0,(cX r))]:=by
  intro f
  induction f with
  |zero=>intro ai mi bi d N a m b fn bu hp hen ea_ em_ eb_ hl hN h0_ h1_ h2_ h3_;exfalso;omega
  |succ f ih=>
    intro ai mi bi d N a m b fn bu hp hen ea_ em_ eb_ hl hN h0_ h1_ h2_ h3_ r hr
    subst ea_ em_ eb_
    exact CA f ih d N a m b fn bu hp hen hl hN h0_ h1_ h2_ h3_ r hr
theorem Ed (ai mi bi:Int) (d:List ar) (N a m b:Nat) (fn:FuncId) (bu:List (List D)) (hp:∀ x y:ar,Fn Tryz.prog fn ([.g [cI x.au,cI x.ba,cI x.kind,cI x.sum],.g [cI y.au,cI y.ba,cI y.kind,cI y.sum]]++bu.map fun r=>GV.c (.q r 0)) (aI (ki x y)) []) (hen:bc Tryz.prog fn) (ea_:ai=(↑a:Int)) (em_:mi=(↑m:Int)) (eb_:bi=(↑b:Int)) (hl:d.length * 32<=140737488355328) (hN:N=d.length) (h0_:a < m) (h1_:m < b) (h2_:b<=d.length) (r:List ar) (hr:eM (b - a) a m b d=r):cS Tryz.prog 130 [(.c (.s 0 0 4 N)),(.c (cI ai)),(.c (cI mi)),(.c (cI bi)),(.c (.d (.f fn bu)))] [(0,(cX d))] [0] (.t []) [(0,(cX r))]:=CB (b - a) ai mi bi d N a m b fn bu hp hen ea_ em_ eb_ hl hN h0_ h1_ h2_ (Nat.le_refl _) r hr

theorem Aq (d:List ar) (N a b:Nat) (fn:FuncId) (bu:List (List D)) (hp:∀ x y:ar,Fn Tryz.prog fn ([.g [cI x.au,cI x.ba,cI x.kind,cI x.sum],.g [cI y.au,cI y.ba,cI y.kind,cI y.sum]]++bu.map fun r=>GV.c (.q r 0)) (aI (ki x y)) []) (hen:bc Tryz.prog fn) (hl:d.length * 32<=140737488355328) (hN:N=d.length) (h0_:a<=b) (h1_:b<=d.length) (r:List ar) (hr:lG a (b - (a+1)) d=r):cS Tryz.prog 129 [(.c (.s 0 0 4 N)),(.c (cI (↑a:Int))),(.c (cI (↑b:Int))),(.c (.d (.f fn bu)))] [(0,(cX d))] [0] (.t []) [(0,(cX r))]:=by
 refine cS.mk 53 [(0,(aC (.s 0 0 4 N))),(1,(aI (↑a:Int))),(2,(aI (↑b:Int))),(3,(aC (.d (.f fn bu))))] 1 Tryz.func129 rfl rfl rfl rfl rfl rfl rfl rfl rfl ?_
 intro W0 F0 T0 pg
 refine jx 0 rfl (fun hlen0=>?_)
 refine aw 1 rfl (bl rfl rfl rfl rfl aa (ad 1 rfl (ae (aL (cb (β:=Nat×List ar) (fun (p:Nat×List ar)=>match p with|(i,d1)=>⟨[(0,(aC (.s 0 0 4 N))),(1,(aI (↑a:Int))),(2,(aI (↑b:Int))),(3,(aC (.d (.f fn bu)))),(8,(aI (↑i:Int)))],[(0,(cX d1))],1⟩) (fun (p:Nat×List ar)=>match p with|(i,d1)=>a+1<=i/\(i<=b\/i=a+1)/\d1=lG a (i - (a+1)) d/\d1.length=d.length) (fun (p:Nat×List ar)=>match p with|(i,d1)=>b - i) (a+1,d) ?_ ?_ ?_)))))
 ·exact ⟨aa,aa,by rw [Nat.sub_self];rfl,rfl⟩
 ·exact aq.rz id
 rintro ⟨i,d1⟩ ⟨hi0_0,hi0_1,hi0_2,hi0_3⟩
 refine af (ag 3 rfl (aO rfl (fun hc1'=>?_) (fun hc1'=>?_)))
 ·
  refine aD (af (aL (ag 2 rfl (aL (cb (β:=Nat×List ar) (fun (p:Nat×List ar)=>match p with|(j,d2)=>⟨[(0,(aC (.s 0 0 4 N))),(1,(aI (↑a:Int))),(2,(aI (↑b:Int))),(3,(aC (.d (.f fn bu)))),(8,(aI (↑i:Int))),(9,(aI (↑j:Int)))],[(0,(cX d2))],1⟩) (fun (p:Nat×List ar)=>match p with|(j,d2)=>a<=j/\j<=i/\mm a j d2=mm a i d1/\d2.length=d.length) (fun (p:Nat×List ar)=>match p with|(j,d2)=>j) (i,d1) ?_ ?_ ?_)))))
  ·exact ⟨aa,aa,rfl,aa⟩
  ·exact aq.rz id
  rintro ⟨j,d2⟩ ⟨hi1_0,hi1_1,hi1_2,hi1_3⟩
  refine af (af ?_)
  rcases Bool.eq_false_or_eq_true (decide ((↑j:Int) > (↑a:Int))) with hb2|hb2
  ·
   have hb2':=of_decide_eq_true hb2
   obtain ⟨x1,hx1⟩:=bO (xs:=d2) (i:=j) aa
   obtain ⟨x2,hx2⟩:=bO (xs:=d2) (i:=(j) - 1) aa
   refine bg [0,1,2,3,8,9] [0] rfl (bC (kn:=[(20,true)]) bn 7 rfl ⟨hb2,trivial⟩ (cG (n':=1) [23,24,21] [0] rfl rfl (.inl ⟨(aR.yes rfl rfl rfl),cU (i:=j) rfl rfl rfl dQ cY⟩) rfl (cG (n':=1) [25,21] [0] rfl rfl (.inl ⟨(aR.yes rfl rfl rfl),dk rfl rfl rfl iR rfl cY (aV hx1) rfl⟩) rfl (aF 2 rfl (cG (n':=1) [28,21] [] rfl rfl (.inl ⟨(aR.yes rfl rfl rfl),bm rfl rfl rfl (bH aa)⟩) rfl (cG (n':=1) [27,29,21] [0] rfl rfl (.inl ⟨(aR.yes rfl rfl rfl),cU (i:=(j) - 1) rfl rfl rfl dQ cY⟩) rfl (cG (n':=1) [30,21] [0] rfl rfl (.inl ⟨(aR.yes rfl rfl rfl),dk rfl rfl rfl iR rfl cY (aV hx2) rfl⟩) rfl (cG (n':=1) [22,26,31,21] [] rfl rfl (.inl ⟨(aR.yes rfl rfl rfl),kl (ins:=[(.g [(cI x1.au),(cI x1.ba),(cI x1.kind),(cI x1.sum)]),(.g [(cI x2.au),(cI x2.ba),(cI x2.kind),(cI x2.sum)])]) 1 (hp x1 x2) hen rfl rfl rfl ⟨⟨_,rfl,.g ⟨.d _,.d _,.d _,.d _,trivial⟩⟩,⟨_,rfl,.g ⟨.d _,.d _,.d _,.d _,trivial⟩⟩,trivial⟩ trivial trivial rfl rfl rfl rfl⟩) rfl (aF 2 rfl (bf [0] rfl (ae (aO rfl (fun hc3'=>?_) (fun hc3'=>?_)))))))))))))
   ·
    refine aD (af (aL ?_))
    obtain ⟨x3,hx3⟩:=bO (xs:=((d2).set j x2)) (i:=(j) - 1) bT
    refine eJ [0,1,2,3,8,9] [0] rfl (cV 4 rfl (dZ 1 [40] [] rfl (bm rfl rfl rfl (bH aa)) (cV 2 rfl (dZ 1 [43] [] rfl (bm rfl rfl rfl (bH aa)) (dZ 1 [42,44] [0] rfl (cU (i:=(j) - 1) rfl rfl rfl dQ cY) (de 1 [45] [0] rfl (dk rfl rfl rfl iR rfl cY (aV hx2) rfl) rfl (cV 2 rfl (dZ 1 [47,48] [0] rfl (cU (i:=j) rfl rfl rfl dQ cY) (de 1 [49] [0] rfl (dk rfl rfl rfl iR rfl cY (aV hx1) rfl) rfl (dZ 1 [37,38] [0] rfl (cU (i:=j) rfl rfl rfl dQ cY) (de 1 [51,46] [0] rfl (dK (ds:=[(dI x2.au),(dI x2.ba),(dI x2.kind),(dI x2.sum)]) rfl rfl rfl rfl rfl cY rfl (Nat.le_of_ble_eq_true rfl) (aV hx1) rfl (eE (x':=x2) rfl)) rfl (dZ 1 [39,41] [0] rfl (cU (i:=(j) - 1) rfl rfl rfl dQ cY) (de 1 [52,50] [0] rfl (dK (ds:=[(dI x1.au),(dI x1.ba),(dI x1.kind),(dI x1.sum)]) rfl rfl rfl rfl rfl cY rfl (Nat.le_of_ble_eq_true rfl) (aV hx3) rfl (eE (x':=x1) rfl)) rfl (eb [0,1,2,3,8,9] [0] rfl rfl aJ (aN (then_ok (ah (ad 1 rfl (bl rfl rfl rfl rfl aa (ad 1 rfl (ae (⟨(j - 1,((d2).set j x2).set ((j) - 1) x1),⟨aa,aa,by rw [<-hi1_2,Bn aa hx1 hx2 (oK.1 dr),oT hx1 hx2],by simp only [List.length_set];exact hi1_3⟩,bT,aq.rz id⟩))))))))))))))))))))))
   refine bR (aE (aE (bw (aN (then_ok (ah (ad 1 rfl (bl rfl rfl rfl rfl aa (ad 1 rfl (ae (⟨(i+1,d2),⟨aa,aa,by rw [wV hi0_0,<-hi0_2,<-hi1_2];first|exact (ua aa).symm|exact (sb hx1 hx2 (oL dr)).symm,aa⟩,bT,aq.rz id⟩)))))))))))
  have hb2':=of_decide_eq_false hb2
  refine bg [0,1,2,3,8,9] [0] rfl (bC (kn:=[(20,false)]) bn 17 rfl ⟨hb2,trivial⟩ (bf [0] rfl (ae (ax rfl (fun hno=>by cases hno) (fun _=>?_)))))
  refine bR (aE (aE (bw (aN (then_ok (ah (ad 1 rfl (bl rfl rfl rfl rfl aa (ad 1 rfl (ae (⟨(i+1,d2),⟨aa,aa,by rw [wV hi0_0,<-hi0_2,<-hi1_2];first|exact (ua aa).symm|exact (sb hx1 hx2 (oL dr)).symm,aa⟩,bT,aq.rz id⟩)))))))))))
 refine bR (aE (aE (bw ?_)))
 have hX:lG a (b - (a+1)) d=d1:=by
   rw [hi0_2];congr 1;omega
 rw [hX] at hr;clear hX
 subst hr
 refine cJ bn [0] 1 rfl rfl rfl rfl rfl rfl ?_ ?_
 all_goals first|rfl|(simp [cq];done)|(simp [cq];omega)
theorem sC (ai bi:Int) (d:List ar) (N a b:Nat) (fn:FuncId) (bu:List (List D)) (hp:∀ x y:ar,Fn Tryz.prog fn ([.g [cI x.au,cI x.ba,cI x.kind,cI x.sum],.g [cI y.au,cI y.ba,cI y.kind,cI y.sum]]++bu.map fun r=>GV.c (.q r 0)) (aI (ki x y)) []) (hen:bc Tryz.prog fn) (ea_:ai=(↑a:Int)) (eb_:bi=(↑b:Int)) (hl:d.length * 32<=140737488355328) (hN:N=d.length) (h0_:a<=b) (h1_:b<=d.length) (r:List ar) (hr:lG a (b - (a+1)) d=r):cS Tryz.prog 129 [(.c (.s 0 0 4 N)),(.c (cI ai)),(.c (cI bi)),(.c (.d (.f fn bu)))] [(0,(cX d))] [0] (.t []) [(0,(cX r))]:=by
  subst ea_ eb_
  exact Aq d N a b fn bu hp hen hl hN h0_ h1_ r hr

theorem FN (d:List ar) (N n:Nat) (fn:FuncId) (bu:List (List D)) (hp:∀ x y:ar,Fn Tryz.prog fn ([.g [cI x.au,cI x.ba,cI x.kind,cI x.sum],.g [cI y.au,cI y.ba,cI y.kind,cI y.sum]]++bu.map fun r=>GV.c (.q r 0)) (aI (ki x y)) []) (hen:bc Tryz.prog fn) (hl:d.length * 32<=140737488355328) (hN:N=d.length) (h0_:n=d.length) (h1_:0 < d.length) (r:List ar) (hr:iI d=r):cS Tryz.prog 121 [(.c (.s 0 0 4 N)),(.c (cI (↑n:Int))),(.c (.d (.f fn bu)))] [(0,(cX d))] [0] (.t []) [(0,(cX r))]:=by
 refine cS.mk 63 [(0,(aC (.s 0 0 4 N))),(1,(aI (↑n:Int))),(2,(aC (.d (.f fn bu))))] 1 Tryz.func121 rfl rfl rfl rfl rfl rfl rfl rfl rfl ?_
 intro W0 F0 T0 pg
 refine jx 0 rfl (fun hlen0=>?_)
 refine ag 1 rfl (ag 3 rfl (af (aL (cb (β:=Nat×Nat×List ar) (fun (p:Nat×Nat×List ar)=>match p with|(a,b,d1)=>⟨[(0,(aC (.s 0 0 4 N))),(1,(aI (↑n:Int))),(2,(aC (.d (.f fn bu)))),(6,(aI 20)),(7,(aI (↑a:Int))),(8,(aI (↑b:Int)))],[(0,(cX d1))],1⟩) (fun (p:Nat×Nat×List ar)=>match p with|(a,b,d1)=>b=a+20/\a<=n/\wj 20 a d1/\Same d d1/\d1.length=d.length) (fun (p:Nat×Nat×List ar)=>match p with|(a,b,d1)=>n+20 - b) (0,20,d) ?_ ?_ ?_))))
 ·exact ⟨aa,aa,vp aa,Same.refl _,rfl⟩
 ·exact aq.rz id
 rintro ⟨a,b,d1⟩ ⟨hi0_0,hi0_1,hi0_2,hi0_3,hi0_4⟩
 refine af (ag 3 rfl (aO rfl (fun hc1'=>?_) (fun hc1'=>?_)))
 ·
  refine aD (aL (aw 4 rfl ?_))
  obtain ⟨r0,hr0⟩:∃ (r0:List ar),lG a (b - (a+1)) d1=r0:=⟨_,rfl⟩
  have hlr0:r0.length=d1.length:=by rw [<-hr0];exact tZ _ _ _
  have hp0:Part d1 r0 a b:=by rw [<-hr0];exact wW aa aa
  refine ay 1 [0] (jC id id (sC (↑a:Int) (↑b:Int) d1 N a b fn bu hp hen aa aa aa aa aa aa r0 hr0) Cw rfl) rfl (ae (ag 2 rfl (ah (ad 2 rfl (bl rfl rfl rfl rfl aa (ad 1 rfl (bq (aN (then_ok (⟨(b,b+20,r0),⟨aa,aa,by rw [hi0_0] at hp0 ⊢;exact xh aa hi0_2 hp0,hi0_3.trans hp0.m,aa⟩,bT,aq.rz id⟩))))))))))
 refine bR (aE (aE (bw (then_ok (aw 4 rfl ?_)))))
 obtain ⟨r1,hr1⟩:∃ (r1:List ar),lG a (n - (a+1)) d1=r1:=⟨_,rfl⟩
 have hlr1:r1.length=d1.length:=by rw [<-hr1];exact tZ _ _ _
 have hp1:Part d1 r1 a n:=by rw [<-hr1];exact wW aa aa
 refine ay 1 [0] (jC id id (sC (↑a:Int) (↑n:Int) d1 N a n fn bu hp hen aa aa aa aa aa aa r1 hr1) Cw rfl) rfl (ae (aL (cb (β:=Nat×List ar) (fun (p:Nat×List ar)=>match p with|(s,d2)=>⟨[(0,(aC (.s 0 0 4 N))),(1,(aI (↑n:Int))),(2,(aC (.d (.f fn bu)))),(6,(aI (↑s:Int)))],[(0,(cX d2))],1⟩) (fun (p:Nat×List ar)=>match p with|(s,d2)=>20<=s/\wi s d2/\Same d d2/\d2.length=d.length) (fun (p:Nat×List ar)=>match p with|(s,d2)=>n - s) (20,r1) ?_ ?_ ?_)))
 ·exact ⟨aa,zm aa hi0_2 aa (by rw [show r1.length=n by omega];exact hp1) aa,hi0_3.trans hp1.m,aa⟩
 ·exact aq.rz id
 rintro ⟨s,d2⟩ ⟨hi1_0,hi1_1,hi1_2,hi1_3⟩
 refine af (ag 3 rfl (aO rfl (fun hc2'=>?_) (fun hc2'=>?_)))
 ·
  refine aD (aL (aw 1 rfl (bl rfl rfl rfl rfl aa (ad 2 rfl (ae (af (aL (cb (β:=Nat×Nat×List ar) (fun (p:Nat×Nat×List ar)=>match p with|(a2,b2,d3)=>⟨[(0,(aC (.s 0 0 4 N))),(1,(aI (↑n:Int))),(2,(aC (.d (.f fn bu)))),(6,(aI (↑s:Int))),(7,(aI (↑a2:Int))),(8,(aI (↑b2:Int)))],[(0,(cX d3))],1⟩) (fun (p:Nat×Nat×List ar)=>match p with|(a2,b2,d3)=>b2=a2+2 * s/\a2<=n/\qa s a2 d3/\Same d d3/\d3.length=d.length) (fun (p:Nat×Nat×List ar)=>match p with|(a2,b2,d3)=>n+2 * s - b2) (0,2 * s,d2) ?_ ?_ ?_))))))))
  ·exact ⟨aa,aa,Cf aa hi1_1,hi1_2,hi1_3⟩
  ·exact aq.rz id
  rintro ⟨a2,b2,d3⟩ ⟨hi2_0,hi2_1,hi2_2,hi2_3,hi2_4⟩
  refine af (ag 3 rfl (aO rfl (fun hc3'=>?_) (fun hc3'=>?_)))
  ·
   refine aD (aL (aw 4 rfl (bl rfl rfl rfl rfl aa (ad 2 rfl ?_))))
   obtain ⟨r2,hr2⟩:∃ (r2:List ar),eM (b2 - a2) a2 ((a2)+(s)) b2 d3=r2:=⟨_,rfl⟩
   have hlr2:r2.length=d3.length:=by rw [<-hr2];exact gi _ _ _ _ _
   have hp2:Part d3 r2 a2 b2:=by rw [<-hr2];exact yc aa hi2_2 aa aa aa
   refine ay 1 [0] (jC id id (Ed (↑a2:Int) ((↑a2:Int)+(↑s:Int)) (↑b2:Int) d3 N a2 ((a2)+(s)) b2 fn bu hp hen aa aa aa aa aa aa aa aa r2 hr2) kQ rfl) rfl (ae (ag 2 rfl (ah (ad 2 rfl (bl rfl rfl rfl rfl aa (bl rfl rfl rfl rfl aa (ad 1 rfl (bq (aN (then_ok (⟨(b2,b2+2 * s,r2),⟨aa,aa,by rw [hi2_0] at hp2 ⊢;exact DO aa hi2_2 hp2,hi2_3.trans hp2.m,aa⟩,bT,aq.rz id⟩)))))))))))
  refine bR (aE (aE (bw (then_ok (af (aw 2 rfl (bl rfl rfl rfl rfl aa (ad 1 rfl (ae (ag 3 rfl (aO rfl (fun hc4'=>?_) (fun hc4'=>?_))))))))))))
  ·
   refine ah (ad 5 rfl ?_)
   obtain ⟨r3,hr3⟩:∃ (r3:List ar),eM (n - a2) a2 ((a2)+(s)) n d3=r3:=⟨_,rfl⟩
   have hlr3:r3.length=d3.length:=by rw [<-hr3];exact gi _ _ _ _ _
   have hp3:Part d3 r3 a2 n:=by rw [<-hr3];exact yc aa hi2_2 aa aa aa
   refine ay 1 [0] (jC id id (Ed (↑a2:Int) ((↑a2:Int)+(↑s:Int)) (↑n:Int) d3 N a2 ((a2)+(s)) n fn bu hp hen aa aa aa aa aa aa aa aa r3 hr3) kQ rfl) rfl (ae (ah (ad 1 rfl (bl rfl rfl rfl rfl aa (ad 1 rfl (bq (aN (then_ok (⟨(s * 2,r3),⟨aa,Ff aa hi2_2 aa (by rw [show r3.length=n by omega];exact hp3) aa,hi2_3.trans hp3.m,aa⟩,bT,aq.rz id⟩)))))))))
  refine aD (ah (ad 1 rfl (bl rfl rfl rfl rfl aa (ad 1 rfl (bq (aN (then_ok (⟨(s * 2,d3),⟨aa,DP aa hi2_2 aa,hi2_3,aa⟩,bT,aq.rz id⟩))))))))
 refine bR (aE (aE (bw ?_)))
 have hX:iI d=d2:=by
   exact BM (EJ hi1_1 aa) hi1_2
 rw [hX] at hr;clear hX
 subst hr
 refine cJ bn [0] 1 rfl rfl rfl rfl rfl rfl ?_ ?_
 all_goals first|rfl|(simp [cq];done)|(simp [cq];omega)
theorem Ee (ni:Int) (d:List ar) (N n:Nat) (fn:FuncId) (bu:List (List D)) (hp:∀ x y:ar,Fn Tryz.prog fn ([.g [cI x.au,cI x.ba,cI x.kind,cI x.sum],.g [cI y.au,cI y.ba,cI y.kind,cI y.sum]]++bu.map fun r=>GV.c (.q r 0)) (aI (ki x y)) []) (hen:bc Tryz.prog fn) (en_:ni=(↑n:Int)) (hl:d.length * 32<=140737488355328) (hN:N=d.length) (h0_:n=d.length) (h1_:0 < d.length) (r:List ar) (hr:iI d=r):cS Tryz.prog 121 [(.c (.s 0 0 4 N)),(.c (cI ni)),(.c (.d (.f fn bu)))] [(0,(cX d))] [0] (.t []) [(0,(cX r))]:=by
  subst en_
  exact FN d N n fn bu hp hen hl hN h0_ h1_ r hr

theorem zy (d:List ar) (a b:Int) (fn:FuncId) (bu:List (List D)) (hp:∀ x y:ar,Fn Tryz.prog fn ([.g [cI x.au,cI x.ba,cI x.kind,cI x.sum],.g [cI y.au,cI y.ba,cI y.kind,cI y.sum]]++bu.map fun r=>GV.c (.q r 0)) (aI (ki x y)) []) (hen:bc Tryz.prog fn) (h1:b<=a+1) (h2:0<=a/\a<=9223372036854775806):Fn Tryz.prog 129 [(.c (eZ d)),(.c (cI a)),(.c (cI b)),(.c (.d (.f fn bu)))] (.t []) []:=by
 refine Fn.mk' 53 [(0,(aC (eZ d))),(1,(aI a)),(2,(aI b)),(3,(aC (.d (.f fn bu))))] Tryz.func129 rfl rfl rfl rfl ?_
 intro W0 T0
 refine dE 0 rfl (fun hlen0=>?_)
 refine aw 1 rfl (bl rfl rfl rfl rfl aa (ad 1 rfl (ae (aL (cb (β:=Nat) (fun (z:Nat)=>⟨[(0,(aC (eZ d))),(1,(aI a)),(2,(aI b)),(3,(aC (.d (.f fn bu)))),(8,(aI (a+1)))],[],0⟩) (fun (z:Nat)=>True) (fun (z:Nat)=>0) 0 ?_ ?_ ?_)))))
 ·trivial
 ·exact aq.rz id
 rintro z _
 refine af (ag 3 rfl (aO rfl (fun hc1'=>?_) (fun hc1'=>?_)))
 ·
  exfalso;omega
 refine bR (aE (aE (bw (cJ bn [] 0 rfl rfl rfl rfl rfl rfl ?_ ?_))))
 all_goals first|rfl|(simp [cq];done)|(simp [cq];omega)
theorem Ef (d:List ar) (n:Int) (fn:FuncId) (bu:List (List D)) (hp:∀ x y:ar,Fn Tryz.prog fn ([.g [cI x.au,cI x.ba,cI x.kind,cI x.sum],.g [cI y.au,cI y.ba,cI y.kind,cI y.sum]]++bu.map fun r=>GV.c (.q r 0)) (aI (ki x y)) []) (hen:bc Tryz.prog fn) (h:n=0):Fn Tryz.prog 121 [(.c (eZ d)),(.c (cI n)),(.c (.d (.f fn bu)))] (.t []) []:=by
 refine Fn.mk' 63 [(0,(aC (eZ d))),(1,(aI n)),(2,(aC (.d (.f fn bu))))] Tryz.func121 rfl rfl rfl rfl ?_
 intro W0 T0
 refine dE 0 rfl (fun hlen0=>?_)
 refine ag 1 rfl (ag 3 rfl (af (aL (cb (β:=Nat) (fun (z:Nat)=>⟨[(0,(aC (eZ d))),(1,(aI n)),(2,(aC (.d (.f fn bu)))),(6,(aI 20)),(7,(aI 0)),(8,(aI 20))],[],0⟩) (fun (z:Nat)=>True) (fun (z:Nat)=>0) 0 ?_ ?_ ?_))))
 ·trivial
 ·exact aq.rz id
 rintro z _
 refine af (ag 3 rfl (aO rfl (fun hc1'=>?_) (fun hc1'=>?_)))
 ·
  exfalso;omega
 refine bR (aE (aE (bw (then_ok (aw 4 rfl (ay 0 [] (cA 0 (zy d 0 n fn bu hp hen aa aa) Cw rfl) rfl (ae (aL (cb (β:=Nat) (fun (z:Nat)=>⟨[(0,(aC (eZ d))),(1,(aI n)),(2,(aC (.d (.f fn bu)))),(6,(aI 20))],[],0⟩) (fun (z:Nat)=>True) (fun (z:Nat)=>0) 0 ?_ ?_ ?_)))))))))
 ·trivial
 ·exact aq.rz id
 rintro z _
 refine af (ag 3 rfl (aO rfl (fun hc2'=>?_) (fun hc2'=>?_)))
 ·
  exfalso;omega
 refine bR (aE (aE (bw (cJ bn [] 0 rfl rfl rfl rfl rfl rfl ?_ ?_))))
 all_goals first|rfl|(simp [cq];done)|(simp [cq];omega)
theorem xF (d:List ar) (fn:FuncId) (bu:List (List D)) (hp:∀ x y:ar,Fn Tryz.prog fn ([.g [cI x.au,cI x.ba,cI x.kind,cI x.sum],.g [cI y.au,cI y.ba,cI y.kind,cI y.sum]]++bu.map fun r=>GV.c (.q r 0)) (aI (ki x y)) []) (hen:bc Tryz.prog fn) (h:d.length=0):Fn Tryz.prog 114 [(.c (eZ d)),(.c (.d (.f fn bu)))] (.t []) []:=by
 refine Fn.mk' 9 [(0,(aC (eZ d))),(1,(aC (.d (.f fn bu))))] Tryz.func114 rfl rfl rfl rfl ?_
 intro W0 T0
 refine dE 0 rfl (fun hlen0=>?_)
 refine ah (ad 2 rfl (az (cD rfl rfl dQ) rfl (ad 1 rfl (ay 0 [] (cA 0 (Ef d (↑d.length:Int) fn bu hp hen aa) Gt rfl) rfl (bq (cJ bn [] 0 rfl rfl rfl rfl rfl rfl ?_ ?_))))))
 all_goals first|rfl|(simp [cq];done)|(simp [cq];omega)
theorem zF (d:List ar) (N:Nat) (fn:FuncId) (bu:List (List D)) (hp:∀ x y:ar,Fn Tryz.prog fn ([.g [cI x.au,cI x.ba,cI x.kind,cI x.sum],.g [cI y.au,cI y.ba,cI y.kind,cI y.sum]]++bu.map fun r=>GV.c (.q r 0)) (aI (ki x y)) []) (hen:bc Tryz.prog fn) (hl:d.length * 32<=140737488355328) (hN:N=d.length) (h0_:0 < d.length) (r:List ar) (hr:iI d=r):cS Tryz.prog 114 [(.c (.s 0 0 4 N)),(.c (.d (.f fn bu)))] [(0,(cX d))] [0] (.t []) [(0,(cX r))]:=by
 refine cS.mk 9 [(0,(aC (.s 0 0 4 N))),(1,(aC (.d (.f fn bu))))] 1 Tryz.func114 rfl rfl rfl rfl rfl rfl rfl rfl rfl ?_
 intro W0 F0 T0 pg
 refine jx 0 rfl (fun hlen0=>?_)
 refine ah (ad 2 rfl (az (dn rfl rfl rfl rfl rfl dQ) rfl (ad 1 rfl ?_)))
 obtain ⟨r0,hr0⟩:∃ (r0:List ar),iI d=r0:=⟨_,rfl⟩
 refine ay 1 [0] (jC id id (Ee (↑N:Int) d N N fn bu hp hen aa aa aa aa aa r0 hr0) Gt rfl) rfl (bq ?_)
 have hX:iI d=r0:=by
   exact hr0
 rw [hX] at hr;clear hX
 subst hr
 refine cJ bn [0] 1 rfl rfl rfl rfl rfl rfl ?_ ?_
 all_goals first|rfl|(simp [cq];done)|(simp [cq];omega)
theorem FU (l:List ar) (hl:l.length * 32<=140737488355328) (r:List ar) (hr:iI l=r):Fn Tryz.prog 104 [(.c (eZ l))] (.v (.c (.s 0 0 4 r.length))) [(0,(cX r))]:=by
 refine Fn.mk' 9 [(0,(aC (eZ l)))] Tryz.func104 rfl rfl rfl rfl ?_
 intro W0 T0
 refine dE 0 rfl (fun hlen0=>?_)
 refine ag 1 rfl (aw 1 rfl (ay 1 [0] (cA 0 (qm l aa) IC rfl) rfl (ad 1 rfl (ae ?_))))
 rcases (show l.length=0\/0 < l.length from aa) with hs1|hs1
 ·
  refine aw 1 rfl (ay 1 [0] (kH 1 [0] (xF l 115 ([]) (fun x y=>Bu x y) Gu aa) Gv trivial trivial rfl) rfl (ae (ag 2 rfl (al ?_))))
  have hX:iI l=l:=by
    exact Dd dr
  rw [hX] at hr;clear hX
  subst hr
  exact aS [0] 1 rfl
 refine aw 1 rfl ?_
 obtain ⟨r0,hr0⟩:∃ (r0:List ar),iI l=r0:=⟨_,rfl⟩
 have hlr0:r0.length=l.length:=by rw [<-hr0];exact rH _
 refine ay 1 [0] (jC id id (zF l l.length 115 ([]) (fun x y=>Bu x y) Gu aa aa aa r0 hr0) Gv rfl) rfl (ae (ag 2 rfl (al ?_)))
 have hX:iI l=r0:=by
   exact hr0
 rw [hX] at hr;clear hX
 subst hr
 exact aS [0] 1 rfl

theorem Ar (l:List ar) (f:cM) (hr:fL l=f):Fn Tryz.prog 103 [(.c (eZ l))] (.v (.g [(cI f.err),(cI f.at_)])) []:=by
 refine Fn.mk' 58 [(0,(aC (eZ l)))] Tryz.func103 rfl rfl rfl rfl ?_
 intro W0 T0
 refine dE 0 rfl (fun hlen0=>?_)
 refine ag 1 rfl (af (aw 1 rfl (az (cD rfl rfl dQ) rfl (ad 1 rfl (ae (aO rfl (fun hc1'=>?_) (fun hc1'=>?_)))))))
 ·
  refine ag 2 rfl (al (aj ?_))
  have hX:fL l=(⟨5,0⟩:cM):=by
    unfold fL;rw [if_pos aa]
  rw [hX] at hr;clear hX
  subst hr
  exact aS [0] 0 rfl
 refine aD (af (aw 1 rfl (az (cD rfl rfl dQ) rfl (ad 1 rfl (ae (aL (cb (β:=Nat) (fun (q:Nat)=>⟨[(2,(aC (.p 0 0 0 0))),(9,(aC (eZ l))),(10,(aI (↑l.length:Int))),(11,(aI (↑q:Int)))],[(0,(.box 47 [(cI 0),(cI 0)]))],1⟩) (fun (q:Nat)=>q<=l.length/\oa l 0=oa (l.drop q) q) (fun (q:Nat)=>l.length - q) 0 ?_ ?_ ?_)))))))
 ·exact ⟨aa,rfl⟩
 ·exact aq.rz id
 rintro q ⟨hi0_0,hi0_1⟩
 refine ag 1 rfl (af (aO rfl (fun hc2'=>?_) (fun hc2'=>?_)))
 ·
  refine aD (af (aL (aw 1 rfl ?_)))
  obtain ⟨x1,hx1⟩:=bO (xs:=l) (i:=q) aa
  refine az (dO (i:=q) rfl rfl rfl dQ cY (aV hx1)) rfl (ad 4 rfl (ae (af (bQ 23 ((decide (x1.kind < 1))||(decide (x1.kind > 8))) ?_ ?_))))
  ·
   refine ah (ad 4 rfl (bz 19 rfl (fun hb3'=>?_) (fun hb3'=>?_)))
   ·
    exact ad 4 rfl (ae (aq.pz 9 rfl))
   exact ad 4 rfl (ae (aq.pz 9 rfl))
  refine ax rfl (fun hc4=>?_) (fun hc4=>?_)
  ·
   have hc4':=hc4;try simp only [aT,bx] at hc4'
   refine ag 3 rfl (al (aj (aY (aj (aj (aY (aj ?_)))))))
   have hX:fL l=(⟨1,(↑q:Int)⟩:cM):=by
     unfold fL;rw [if_neg aa,hi0_1,mC hx1,if_pos (by unfold ny;omega)]
   rw [hX] at hr;clear hX
   subst hr
   exact aS [0] 0 rfl
  have hc4':=hc4;try simp only [aT,bx] at hc4'
  refine aD (bQ 53 ((((((decide (x1.au < 0))||(decide (x1.au>=8)))||(decide (x1.ba < 0)))||(decide (x1.ba>=30)))||(decide (x1.sum < 1)))||(decide (x1.sum > 1000000))) ?_ ?_)
  ·
   refine ah (ad 4 rfl (bz 29 rfl (fun hb5'=>?_) (fun hb5'=>?_)))
   ·
    exact ad 24 rfl (ae (aq.pz 29 rfl))
   refine ad 5 rfl (bz 34 rfl (fun hb6'=>?_) (fun hb6'=>?_))
   ·
    exact ad 19 rfl (ae (aq.pz 30 rfl))
   refine ad 5 rfl (bz 39 rfl (fun hb7'=>?_) (fun hb7'=>?_))
   ·
    exact ad 14 rfl (ae (aq.pz 31 rfl))
   refine ad 5 rfl (bz 44 rfl (fun hb8'=>?_) (fun hb8'=>?_))
   ·
    exact ad 9 rfl (ae (aq.pz 32 rfl))
   refine ad 5 rfl (bz 49 rfl (fun hb9'=>?_) (fun hb9'=>?_))
   ·
    exact ad 4 rfl (ae (aq.pz 33 rfl))
   exact ad 4 rfl (ae (aq.pz 33 rfl))
  refine ax rfl (fun hc10=>?_) (fun hc10=>?_)
  ·
   have hc10':=hc10;try simp only [aT,bx] at hc10'
   refine ag 3 rfl (al (aY (aj (aj (aY (aj ?_))))))
   have hX:fL l=(⟨3,(↑q:Int)⟩:cM):=by
     unfold fL;rw [if_neg aa,hi0_1,mC hx1,if_neg (by unfold ny;omega),if_pos (by unfold pj;omega)]
   rw [hX] at hr;clear hX
   subst hr
   exact aS [0] 0 rfl
  have hc10':=hc10;try simp only [aT,bx] at hc10'
  refine cv (aN (then_ok (ah (bl rfl rfl rfl rfl aa (ad 1 rfl (ae (⟨q+1,⟨aa,by rw [hi0_1,mC hx1,if_neg (by unfold ny;omega),if_neg (by unfold pj;omega)]⟩,bT,aq.rz id⟩)))))))
 refine bR (aE (aE (bw (then_ok (ag 2 rfl (al ?_))))))
 have hX:fL l=(⟨0,0⟩:cM):=by
   unfold fL;rw [if_neg aa,hi0_1,wI aa]
 rw [hX] at hr;clear hX
 subst hr
 exact aS [0] 0 rfl
theorem zt (l:List ar) (f:cM) (hr:fL l=f):Fn Tryz.prog 52 [(.c (eZ l))] (.v (.g [(cI f.err),(cI f.at_)])) []:=by
 refine Fn.mk' 59 [(0,(aC (eZ l)))] Tryz.func52 rfl rfl rfl rfl ?_
 intro W0 T0
 refine dE 0 rfl (fun hlen0=>?_)
 refine ag 1 rfl (af (aw 1 rfl (az (cD rfl rfl dQ) rfl (ad 1 rfl (ae (aO rfl (fun hc1'=>?_) (fun hc1'=>?_)))))))
 ·
  refine ag 2 rfl (al (aj ?_))
  have hX:fL l=(⟨5,0⟩:cM):=by
    unfold fL;rw [if_pos aa]
  rw [hX] at hr;clear hX
  subst hr
  exact aS [0] 0 rfl
 refine aD (af (aw 1 rfl (az (cD rfl rfl dQ) rfl (ad 1 rfl (ae (aL (cb (β:=Nat) (fun (q:Nat)=>⟨[(2,(aC (.p 0 0 0 0))),(9,(aC (eZ l))),(10,(aI (↑l.length:Int))),(11,(aI (↑q:Int)))],[(0,(.box 47 [(cI 0),(cI 0)]))],1⟩) (fun (q:Nat)=>q<=l.length/\oa l 0=oa (l.drop q) q) (fun (q:Nat)=>l.length - q) 0 ?_ ?_ ?_)))))))
 ·exact ⟨aa,rfl⟩
 ·exact aq.rz id
 rintro q ⟨hi0_0,hi0_1⟩
 refine ag 1 rfl (af (aO rfl (fun hc2'=>?_) (fun hc2'=>?_)))
 ·
  refine aD (af (aL (aw 1 rfl ?_)))
  obtain ⟨x1,hx1⟩:=bO (xs:=l) (i:=q) aa
  refine az (dO (i:=q) rfl rfl rfl dQ cY (aV hx1)) rfl (ad 4 rfl (ae (af (bQ 23 ((decide (x1.kind < 1))||(decide (x1.kind > 8))) ?_ ?_))))
  ·
   refine ah (ad 4 rfl (bz 19 rfl (fun hb3'=>?_) (fun hb3'=>?_)))
   ·
    exact ad 4 rfl (ae (aq.pz 9 rfl))
   exact ad 4 rfl (ae (aq.pz 9 rfl))
  refine ax rfl (fun hc4=>?_) (fun hc4=>?_)
  ·
   have hc4':=hc4;try simp only [aT,bx] at hc4'
   refine ag 3 rfl (al (aj (aY (aj (aj (aY (aj ?_)))))))
   have hX:fL l=(⟨1,(↑q:Int)⟩:cM):=by
     unfold fL;rw [if_neg aa,hi0_1,mC hx1,if_pos (by unfold ny;omega)]
   rw [hX] at hr;clear hX
   subst hr
   exact aS [0] 0 rfl
  have hc4':=hc4;try simp only [aT,bx] at hc4'
  refine aD (bQ 54 ((((((decide (x1.au < 0))||(decide (x1.au > 7)))||(decide (x1.ba < 0)))||(decide (x1.ba > 29)))||(decide (x1.sum < 1)))||(!(aT x1.sum))) ?_ ?_)
  ·
   refine ah (ad 4 rfl (bz 29 rfl (fun hb5'=>?_) (fun hb5'=>?_)))
   ·
    exact ad 25 rfl (ae (aq.pz 30 rfl))
   refine ad 5 rfl (bz 34 rfl (fun hb6'=>?_) (fun hb6'=>?_))
   ·
    exact ad 20 rfl (ae (aq.pz 31 rfl))
   refine ad 5 rfl (bz 39 rfl (fun hb7'=>?_) (fun hb7'=>?_))
   ·
    exact ad 15 rfl (ae (aq.pz 32 rfl))
   refine ad 5 rfl (bz 44 rfl (fun hb8'=>?_) (fun hb8'=>?_))
   ·
    exact ad 10 rfl (ae (aq.pz 33 rfl))
   refine ad 5 rfl (bz 49 rfl (fun hb9'=>?_) (fun hb9'=>?_))
   ·
    exact ad 5 rfl (ae (aq.pz 34 rfl))
   exact ad 2 rfl (kb 2 [1,0] (aR.yes rfl rfl rfl) (cA 2 (oC x1.sum) qX rfl) rfl (ad 2 rfl (ae (aq.pz 34 rfl))))
  refine ax rfl (fun hc10=>?_) (fun hc10=>?_)
  ·
   have hc10':=hc10;try simp only [aT,bx] at hc10'
   refine ag 3 rfl (al (aY (aj (aj (aY (aj ?_))))))
   have hX:fL l=(⟨3,(↑q:Int)⟩:cM):=by
     unfold fL;rw [if_neg aa,hi0_1,mC hx1,if_neg (by unfold ny;omega),if_pos (by unfold pj;omega)]
   rw [hX] at hr;clear hX
   subst hr
   exact aS [0] 0 rfl
  have hc10':=hc10;try simp only [aT,bx] at hc10'
  refine cv (aN (then_ok (ah (bl rfl rfl rfl rfl aa (ad 1 rfl (ae (⟨q+1,⟨aa,by rw [hi0_1,mC hx1,if_neg (by unfold ny;omega),if_neg (by unfold pj;omega)]⟩,bT,aq.rz id⟩)))))))
 refine bR (aE (aE (bw (then_ok (ag 2 rfl (al ?_))))))
 have hX:fL l=(⟨0,0⟩:cM):=by
   unfold fL;rw [if_neg aa,hi0_1,wI aa]
 rw [hX] at hr;clear hX
 subst hr
 exact aS [0] 0 rfl

theorem xn (b:List Int) (N:Nat) (n:Int) (z:Nat) (hN:N=b.length) (hz:z<=8) (hl:b.length+z<=1000000) (r:List Int) (hr:b++mX n z=r):cS Tryz.prog 105 [(.c (.s 0 0 1 N)),(.c (cI n)),(.c (cI (↑z:Int)))] [(0,(xu b))] [] (.v (.c (.s 0 0 1 r.length))) [(0,(xu r))]:=by
 refine cS.mk 23 [(0,(aC (.s 0 0 1 N))),(1,(aI n)),(2,(aI (↑z:Int)))] 1 Tryz.func105 rfl rfl rfl rfl rfl rfl rfl rfl rfl ?_
 intro W0 F0 T0 pg
 refine jx 0 rfl (fun hlen0=>?_)
 refine ag 1 rfl (af (aw 1 rfl (bl rfl rfl rfl rfl aa (ad 1 rfl (ae (aL (cb (β:=Nat×List Int) (fun (p:Nat×List Int)=>match p with|(k,m)=>⟨[(0,(aC (.s 0 0 1 m.length))),(1,(aI n)),(6,(aC cN)),(7,(aI ((↑k:Int) - 1)))],[(0,(xu m))],1⟩) (fun (p:Nat×List Int)=>match p with|(k,m)=>k<=z/\m++mX n k=b++mX n z/\m.length+k=b.length+z) (fun (p:Nat×List Int)=>match p with|(k,m)=>k) (z,b) ?_ ?_ ?_)))))))
 ·exact ⟨aa,rfl,rfl⟩
 ·exact aq.rz id (by refine ⟨?_,?_,?_,?_,trivial⟩<;>first|rfl|(simp only [fQ];done)|(congr 3;omega)|(congr 4;omega)|(simp only [fR];rfl)|(first|exact gl rfl aa|exact jR rfl aa))
 rintro ⟨k,m⟩ ⟨hi0_0,hi0_1,hi0_2⟩
 refine af (ag 2 rfl (aO rfl (fun hc1'=>?_) (fun hc1'=>?_)))
 ·
  refine aD (af (aL (ah (ad 3 rfl (bl rfl rfl rfl rfl aa (az (Ih rfl rfl rfl aa rfl (KO (k:=k) aa rfl)) rfl (az (eW rfl rfl (by rw [Tryz.underlying3];rfl) mW ic) rfl (ay 2 [1,0] (dM (ys:=[(0,(.c (.d (.v (.int .u8 ((n / 256 ^ (k - 1)) % 256))))))]) (rows:=([(n / 256 ^ (k - 1)) % 256]).map lO) 1 pQ rfl) rfl (ay 3 [2,1] (dU (m:=1) (N:=m.length+1) (k2:=2) (ys:=([(n / 256 ^ (k - 1)) % 256]).map lO) pQ rfl rfl rfl rfl dv) rfl (ad 1 rfl (bq (aN (then_ok (ah (ad 1 rfl (bl rfl rfl rfl rfl aa (ad 1 rfl (ae (⟨(k - 1,m++([(n / 256 ^ (k - 1)) % 256])),⟨aa,by rw [<-hi0_1,FV (k:=k) aa,List.append_assoc];rfl,by simp only [List.length_append,List.length_cons,List.length_nil];omega⟩,bT,aq.rz (fun k=>if k=0 then 2 else k) (by refine ⟨?_,?_,?_,?_,trivial⟩<;>first|rfl|(simp only [fQ];done)|(congr 3;omega)|(congr 4;omega)|(simp only [fR];rfl)|(first|exact gl rfl aa|exact jR rfl (by simp only [List.length_append,List.length_cons,List.length_nil];omega)))⟩)))))))))))))))))))
 refine bR (aE (aE (bw (then_ok (ag 2 rfl (al ?_))))))
 have hX:b++mX n z=m:=by
   (obtain rfl:k=0:=by omega);rw [<-hi0_1];simp [mX]
 rw [hX] at hr;clear hX
 subst hr
 exact aS [0] 1 rfl

theorem As (l:List ar) (hl:l.length * 32<=140737488355328) (x:List Int) (f:cM) (hr:iy l=(x,f)):Fn Tryz.prog 74 [(.c (eZ l))] (.t [(.c (.s 0 0 1 x.length)),(.g [(cI f.err),(cI f.at_)])]) [(0,(xu x))]:=by
 refine Fn.mk' 50 [(0,(aC (eZ l)))] Tryz.func74 rfl rfl rfl rfl ?_
 intro W0 T0
 refine dE 0 rfl (fun hlen0=>?_)
 refine ag 2 rfl (af (aw 1 rfl ?_))
 obtain ⟨f0,hr0⟩:∃ (f0:cM),fL l=f0:=⟨_,rfl⟩
 refine ay 1 [0] (cA 1 (Ar l f0 hr0) Kg rfl) rfl (ad 2 rfl (ae (ag 3 rfl (aO rfl (fun hc1'=>?_) (fun hc1'=>?_)))))
 ·
  refine af (bg [0,3,4] [1,0] rfl (aF 2 rfl (bf [1,0] rfl (ad 1 rfl (ae (al (aj (cW (aq.nil 2 5 1 cm rfl) ?_))))))))
  have hX:iy l=(([]:List Int),f0):=by
    unfold iy;rw [if_neg (by rw [hr0];omega),hr0]
  cases hX.symm.trans hr;clear hX
  exact aS [2,0] 1 rfl
 refine aD ?_
 have hw:(fL l).err=0:=by rw [hr0];omega
 have hok:=wo.1 hw
 refine aw 1 rfl (az (cD rfl rfl dQ) rfl (az (eW rfl rfl (by rw [Tryz.underlying3];rfl) mW ic) rfl (ay 3 [2,1,0] (dM (ys:=[(0,(.c (.d (.v (.int .u8 ((↑l.length:Int) % 256))))))]) (rows:=([(↑l.length:Int) % 256]).map lO) 2 pQ rfl) rfl (ad 1 rfl (ae (ag 1 rfl (af (aw 1 rfl ?_))))))))
 obtain ⟨r1,hr1⟩:∃ (r1:List ar),iI l=r1:=⟨_,rfl⟩
 have hlr:r1.length=l.length:=by rw [<-hr1];exact rH _
 have hrok:∀ x∈r1,yx x:=fun x hx=>hok.2 x ((ou l).mem.2 (by rw [hr1];exact hx))
 refine ay 4 [3,2,1,0] (cA 3 (FU l aa r1 hr1) Kf rfl) rfl (az (dn rfl rfl rfl rfl rfl dQ) rfl (ad 1 rfl (ae (aL (cb (β:=Nat×List Int×Int) (fun (p:Nat×List Int×Int)=>match p with|(q,m,all)=>⟨[(2,(aC cN)),(3,(aC (.p 0 0 0 0))),(5,(aC (.s 2 0 1 m.length))),(6,(aI all)),(20,(aC (.s 3 0 4 r1.length))),(21,(aI (↑r1.length:Int))),(22,(aI (↑q:Int)))],[(3,(cX r1)),(2,(xu m)),(0,(.box 47 [(cI 0),(cI 0)]))],4⟩) (fun (p:Nat×List Int×Int)=>match p with|(q,m,all)=>q<=r1.length/\m=nE l (r1.take q)/\all=nW (r1.take q)/\0<=all/\all<=1000000 * (q:Int)) (fun (p:Nat×List Int×Int)=>match p with|(q,m,all)=>r1.length - q) (0,[(↑l.length:Int) % 256],0) ?_ ?_ ?_)))))
 ·exact ⟨aa,by simp [nE],rfl,aa⟩
 ·exact aq.rz id
 rintro ⟨q,m,all⟩ ⟨hi0_0,hi0_1,hi0_2,hi0_3⟩
 have hml:m.length=1+6 * q:=by rw [hi0_1,xb,List.length_take];omega
 refine ag 1 rfl (af (aO rfl (fun hc2'=>?_) (fun hc2'=>?_)))
 ·
  refine aD (af (aL (dq (az (cU (i:=q) rfl rfl rfl dQ cY) rfl ?_))))
  obtain ⟨x1,hx1⟩:=bO (xs:=r1) (i:=q) aa
  have hx1b:=Gp (hrok x1 (List.mem_of_getElem? hx1))
  refine az (dk rfl rfl rfl iR rfl cY (aV hx1) rfl) rfl (ad 2 rfl (ae (af ?_)))
  obtain ⟨r2,hr2⟩:∃ (r2:List Int),(m++([x1.au % 256,x1.ba % 256,x1.kind % 256]))++mX x1.sum 3=r2:=⟨_,rfl⟩
  have hlr2:r2.length=m.length+6:=by rw [<-hr2];simp [sY]
  refine bg [2,3,5,6,20,21,22,8] [4,3,2,0] rfl (aF 3 rfl (bh 5 [28] [] rfl (eW rfl rfl (by rw [Tryz.underlying3];rfl) mW ic) (aF 2 rfl (bh 5 [31] [] rfl (eW rfl rfl (by rw [Tryz.underlying3];rfl) mW ic) (aF 2 rfl (bh 5 [34] [] rfl (eW rfl rfl (by rw [Tryz.underlying3];rfl) mW ic) (bM 6 [29,32,35] [] rfl (dM (ys:=[(0,(.c (.d (.v (.int .u8 (x1.au % 256)))))),(1,(.c (.d (.v (.int .u8 (x1.ba % 256)))))),(2,(.c (.d (.v (.int .u8 (x1.kind % 256))))))]) (rows:=([x1.au % 256,x1.ba % 256,x1.kind % 256]).map lO) 5 pQ rfl) rfl (bM 7 [26,36] [5,2] rfl (dU (m:=3) (N:=m.length+3) (k2:=6) (ys:=([x1.au % 256,x1.ba % 256,x1.kind % 256]).map lO) pQ rfl rfl rfl rfl dv) rfl (aF 2 rfl (bM 8 [37,39] [6] rfl (fm (bp [6]) (bp [7]) (xn (m++([x1.au % 256,x1.ba % 256,x1.kind % 256])) (m.length+3) x1.sum 3 bT aa bT r2 hr2) GA rfl) rfl (bf [7,4,3,0] rfl (ad 1 rfl (ae (ah (ad 3 rfl (bl rfl rfl rfl rfl aa (ad 1 rfl (bq (aN (then_ok (ah (bl rfl rfl rfl rfl aa (ad 1 rfl (ae (⟨(q+1,r2,all+x1.sum),⟨aa,by rw [ve hx1,<-hi0_1,<-hr2];simp [vO],by rw [wy hx1,<-hi0_2],aa⟩,bT,aq.rz (fun k=>if k=2 then 7 else k) (by refine ⟨?_,?_,?_,?_,?_,?_,?_,trivial⟩<;>first|rfl|(simp only [fQ];done)|(congr 3;omega)|(congr 4;omega)|(simp only [fR];rfl)|(first|exact gl rfl aa|exact jR rfl (by simp only [List.length_append,List.length_take,List.length_drop,List.length_cons,List.length_nil];omega)))⟩)))))))))))))))))))))))))
 refine bR (aE (aE (bw (then_ok (aw 2 rfl ?_)))))
 obtain ⟨r3,hr3⟩:∃ (r3:List Int),m++mX all 4=r3:=⟨_,rfl⟩
 have hlr3:r3.length=m.length+4:=by rw [<-hr3];simp [sY]
 refine ay 5 [4,3,0] (fm (bp [2]) (bp [4]) (xn m m.length all 4 aa aa aa r3 hr3) GA rfl) rfl (ad 3 rfl (ae (al ?_)))
 have hX:iy l=(r3,(⟨0,0⟩:cM)):=by
   have ht:r1.take q=r1:=List.take_of_length_le aa
   rw [ht] at hi0_1 hi0_2
   unfold iy
   rw [if_pos hw,hr1,<-hi0_1,<-hi0_2]
   rw [hr3]
 cases hX.symm.trans hr;clear hX
 exact aS [4,0] 1 rfl

theorem mO (x:Nat->Value) (hx:∀ i,(x i).oneCell'=true) (e err:Int) (e2:Int) (hr:cp e err=e2):cS Tryz.prog 69 [(.c (.p 0 0 0 0)),(.c (cI err))] [(0,(.box 130 ((cL x).set 19 (cI e))))] [0] (.v (.c (cB (decide (¬e2=0))))) [(0,(.box 130 ((cL x).set 19 (cI e2))))]:=by
 refine cS.mk 19 [(0,(aC (.p 0 0 0 0))),(1,(aI err))] 1 Tryz.func69 rfl rfl rfl rfl rfl rfl rfl rfl rfl ?_
 intro W0 F0 T0 pg
 refine ag 1 rfl (af (ag 5 rfl (aO rfl (fun hc1'=>?_) (fun hc1'=>?_))))
 ·
  refine ah (ad 5 rfl (ae (ag 6 rfl (al ?_))))
  have hX:cp e err=err:=by
    (unfold cp;try dsimp only);exact sx
  rw [hX] at hr;clear hX
  subst hr
  exact bb [0] 1 rfl
 refine aD (ag 6 rfl (al ?_))
 have hX:cp e err=e:=by
   (unfold cp;try dsimp only);exact sx
 rw [hX] at hr;clear hX
 subst hr
 exact bb [0] 1 rfl

theorem lS (x:Nat->Value) (hx:∀ i,(x i).oneCell'=true) (l:List Entry) (e src dst n:Int) (l2:List Entry) (e2:Int) (hr:dp l e src dst n=(l2,e2)):cS Tryz.prog 56 [(.c (.p 0 0 0 0)),(.c (cI src)),(.c (cI dst)),(.c (cI n))] [(0,(.box 130 (((cL x).set 18 (cE l)).set 19 (cI e))))] [0] (.t []) [(0,(.box 130 (((cL x).set 18 (cE l2)).set 19 (cI e2))))]:=by
 refine cS.mk 31 [(0,(aC (.p 0 0 0 0))),(1,(aI src)),(2,(aI dst)),(3,(aI n))] 1 Tryz.func56 rfl rfl rfl rfl rfl rfl rfl rfl rfl ?_
 intro W0 F0 T0 pg
 refine aw 8 rfl ?_
 obtain ⟨r0,e0,hr0⟩:∃ (r0:List Entry) (e0:Int),jQ l src dst n=(r0,e0):=⟨_,_,rfl⟩
 refine ay 1 [0] (cA 1 (Fn.frozen (av':=(.t [(.c (cE r0)),(.c (cI e0))])) (Au l src dst n r0 e0 hr0) ⟨.inr ⟨_,_,_,_,_,rfl,rfl,rfl,ca⟩,.inl ⟨_,rfl,rfl⟩,trivial⟩) La rfl) rfl (ad 5 rfl (ae (aw 2 rfl ?_)))
 obtain ⟨e21,hr1⟩:∃ (e21:Int),cp e e0=e21:=⟨_,rfl⟩
 refine ay 1 [0] (cz id id (ms:=(bY.set 19 (some (cI e)))) (ms':=(bY.set 19 (some (cI e21)))) (fun x hx=>mO x hx e e0 e21 hr1) qY rfl) rfl (ad 1 rfl (ae (ax rfl (fun hc1=>?_) (fun hc1=>?_))))
 ·
  have hc1':=hc1;try simp only [aT,bx] at hc1'
  refine ah (ad 6 rfl (bq ?_))
  have hX:dp l e src dst n=(r0,e21):=by
    unfold dp;simp only [hr0,hr1];exact sx
  cases hX.symm.trans hr;clear hX
  refine cJ bn [0] 1 rfl rfl rfl rfl rfl rfl ?_ ?_
  all_goals first|rfl|(simp [cq,cf,cL];done)|(simp [cq,cf,cL];omega)
 have hc1':=hc1;try simp only [aT,bx] at hc1'
 refine cv ?_
 have hX:dp l e src dst n=(l,e21):=by
   unfold dp;simp only [hr0,hr1];exact sx
 cases hX.symm.trans hr;clear hX
 refine cJ bn [0] 1 rfl rfl rfl rfl rfl rfl ?_ ?_
 all_goals first|rfl|(simp [cq,cf,cL];done)|(simp [cq,cf,cL];omega)
theorem lx (x:Nat->Value) (hx:∀ i,(x i).oneCell'=true) (l:List bF) (e k held bB:Int) (hk:0<=k/\k < l.length) (l2:List bF) (e2:Int) (hr:cP l e k held bB=(l2,e2)):cS Tryz.prog 55 [(.c (.p 0 0 0 0)),(.c (cI k)),(.c (cI held)),(.c (cI bB))] [(0,(.box 130 (((cL x).set 2 (.s 1 0 6 l.length)).set 19 (cI e)))),(1,(dS l))] [0] (.t []) [(0,(.box 130 (((cL x).set 2 (.s 1 0 6 l2.length)).set 19 (cI e2)))),(1,(dS l2))]:=by
 refine cS.mk 36 [(0,(aC (.p 0 0 0 0))),(1,(aI k)),(2,(aI held)),(3,(aI bB))] 2 Tryz.func55 rfl rfl rfl rfl rfl rfl rfl rfl rfl ?_
 intro W0 F0 T0 pg
 refine aw 6 rfl (az (cU (i:=Int.toNat (k)) rfl rfl rfl gy gX) rfl ?_)
 obtain ⟨x1,hx1⟩:=bO (xs:=l) (i:=Int.toNat (k)) aa
 refine az (dk rfl rfl rfl rB rfl gX (aV hx1) rfl) rfl (ad 2 rfl ?_)
 obtain ⟨xr0,e0,hr0⟩:∃ (xr0:bF) (e0:Int),eg x1 held bB=(xr0,e0):=⟨_,_,rfl⟩
 refine ay 2 [0,1] (cA 2 (Fn.frozen (av':=(.t [(.g [(cI xr0.bB),(cI xr0.held),(cI xr0.bJ.cw),(cI xr0.bJ.count),(cI xr0.bJ.sum),(eF xr0.cO)]),(.c (cI e0))])) (zA x1 held bB xr0 e0 hr0) ⟨⟨.inl ⟨_,rfl,rfl⟩,.inl ⟨_,rfl,rfl⟩,.inl ⟨_,rfl,rfl⟩,.inl ⟨_,rfl,rfl⟩,.inl ⟨_,rfl,rfl⟩,.inr ⟨_,_,_,_,_,rfl,rfl,rfl,ca⟩,trivial⟩,.inl ⟨_,rfl,rfl⟩,trivial⟩) Lb rfl) rfl (ad 6 rfl (ae (aw 2 rfl ?_)))
 obtain ⟨e21,hr1⟩:∃ (e21:Int),cp e e0=e21:=⟨_,rfl⟩
 refine ay 3 [0,2,1] (cz id id (ms:=(bY.set 19 (some (cI e)))) (ms':=(bY.set 19 (some (cI e21)))) (fun x hx=>mO x hx e e0 e21 hr1) qY rfl) rfl (ad 1 rfl (ae (ax rfl (fun hc1=>?_) (fun hc1=>?_))))
 ·
  have hc1':=hc1;try simp only [aT,bx] at hc1'
  refine bg [0,1,8] [0,2,1] rfl (aF 7 rfl (bh 3 [32,33] [1] rfl (cU (i:=Int.toNat (k)) rfl rfl rfl gy gX) (bf [0,2,1] rfl (eP [0,2,1] (dK (ds:=[(dI xr0.bB),(dI xr0.held),(dI xr0.bJ.cw),(dI xr0.bJ.count),(dI xr0.bJ.sum),(Br xr0.cO)]) rfl rfl rfl rfl rfl gX rfl (Nat.le_of_ble_eq_true rfl) (aV hx1) rfl (eE (x':=xr0) rfl)) rfl (bq ?_)))))
  have hX:cP l e k held bB=((l).set (Int.toNat (k)) xr0,e21):=by
    rw [my hx1];simp only [hr0,hr1];exact sx
  cases hX.symm.trans hr;clear hX
  refine cJ bn [0,1] 2 rfl rfl rfl rfl rfl rfl ?_ ?_
  all_goals first|rfl|(simp [cq,cf,cL];done)|(simp [cq,cf,cL];omega)
 have hc1':=hc1;try simp only [aT,bx] at hc1'
 refine cv ?_
 have hX:cP l e k held bB=(l,e21):=by
   rw [my hx1];simp only [hr0,hr1];exact sx
 cases hX.symm.trans hr;clear hX
 refine cJ bn [0,1] 2 rfl rfl rfl rfl rfl rfl ?_ ?_
 all_goals first|rfl|(simp [cq,cf,cL];done)|(simp [cq,cf,cL];omega)
theorem Jl (x:Nat->Value) (hx:∀ i,(x i).oneCell'=true) (l:List ar) (e:Int) (r:ar) (hl:l.length<=100) (l2:List ar) (e2:Int) (hr:kP l e r=(l2,e2)):cS Tryz.prog 65 [(.c (.p 0 0 0 0)),(.g [(cI r.au),(cI r.ba),(cI r.kind),(cI r.sum)])] [(0,(.box 130 (((cL x).set 16 (.s 1 0 4 l.length)).set 19 (cI e)))),(1,(cX l))] [0] (.t []) [(0,(.box 130 (((cL x).set 16 (.s 1 0 4 l2.length)).set 19 (cI e2)))),(1,(cX l2))]:=by
 refine cS.mk 25 [(0,(aC (.p 0 0 0 0))),(1,(aG [(cI r.au),(cI r.ba),(cI r.kind),(cI r.sum)]))] 2 Tryz.func65 rfl rfl rfl rfl rfl rfl rfl rfl rfl ?_
 intro W0 F0 T0 pg
 refine ag 1 rfl (af (aw 5 rfl (az (dn rfl rfl rfl rfl rfl dQ) rfl (ad 1 rfl (ae (aO rfl (fun hc1'=>?_) (fun hc1'=>?_)))))))
 ·
  refine aw 1 rfl ?_
  obtain ⟨e20,hr0⟩:∃ (e20:Int),cp e 5=e20:=⟨_,rfl⟩
  refine ay 3 [0,2,1] (cz id id (ms:=(bY.set 19 (some (cI e)))) (ms':=(bY.set 19 (some (cI e20)))) (fun x hx=>mO x hx e 5 e20 hr0) qY rfl) rfl (ae (al (aj ?_)))
  have hX:kP l e r=(l,e20):=by
    unfold kP;first|(rw [if_pos aa,hr0];done)|(rw [if_neg aa];done)
  cases hX.symm.trans hr;clear hX
  exact bb [0,1] 2 rfl
 refine aD (bg [0,3] [2,0,1] rfl (aF 7 rfl (bM 4 [19] [] rfl (dM (ys:=[(0,(.g [(cI r.au),(cI r.ba),(cI r.kind),(cI r.sum)]))]) (rows:=([r]).map dD) 3 fP rfl) rfl (bM 5 [18,20] [3,1] rfl (dU (m:=1) (N:=l.length+1) (k2:=4) (ys:=([r]).map dD) fP rfl rfl rfl rfl dv) rfl (aF 3 rfl (bf [4,2,0] rfl (ad 1 rfl (bq ?_))))))))
 have hX:kP l e r=(l++([r]),e):=by
   unfold kP;first|(rw [if_pos aa,hr0];done)|(rw [if_neg aa];done)
 cases hX.symm.trans hr;clear hX
 refine cJ bn [0,4] 2 rfl rfl rfl rfl rfl rfl ?_ ?_
 all_goals first|rfl|(simp [cq,cf,cL];done)|(simp [cq,cf,cL];omega)

theorem wa (x:Nat->Value) (hx:∀ i,(x i).oneCell'=true) (s:bK) (e:Int) (t:aZ) (hI:∀ t∈s.kept,fb t.number) (s2:bK) (e2:Int) (hr:ej s e t=(s2,e2)):cS Tryz.prog 64 [(.c (.p 0 0 0 0)),(.c (cI 0)),(.g [(cI t.number),(cI t.kind),(cI t.ba),(cI t.sum)])] [(0,(.box 130 ((((cL x).set 5 (cI s.bj)).set 6 (bX s.kept)).set 19 (cI e))))] [0] (.t []) [(0,(.box 130 ((((cL x).set 5 (cI s2.bj)).set 6 (bX s2.kept)).set 19 (cI e2))))]:=by
 refine cS.mk 31 [(0,(aC (.p 0 0 0 0))),(1,(aI 0)),(2,(aG [(cI t.number),(cI t.kind),(cI t.ba),(cI t.sum)]))] 1 Tryz.func64 rfl rfl rfl rfl rfl rfl rfl rfl rfl ?_
 intro W0 F0 T0 pg
 refine ag 1 rfl (af ?_)
 obtain ⟨xr0,e0,hr0⟩:∃ (xr0:bK) (e0:Int),gL s t=(xr0,e0):=⟨_,_,rfl⟩
 refine eJ [0,1,5] [1,0] rfl (cV 5 rfl (dZ 2 [13,10] [0] rfl (du (i:=0) rfl rfl rfl jh jj) (cV 2 rfl (de 2 [15,16] [] rfl (cA 2 (Fn.frozen (av':=(.t [(.g [(cI xr0.bj),(bX xr0.kept)]),(.c (cI e0))])) (vu s t (by first|assumption|exact iU dr aa|exact ia dr dr|(simp [fb];done)) xr0 e0 hr0) ⟨⟨.inl ⟨_,rfl,rfl⟩,.inr ⟨_,_,_,_,_,rfl,rfl,rfl,ca⟩,trivial⟩,.inl ⟨_,rfl,rfl⟩,trivial⟩) Iy rfl) rfl (gJ (n':=3) (kn:=[]) bn 6 rfl trivial (eb [0,1,6,7] [2,0] rfl rfl aJ (then_ok (aw 2 rfl ?_))))))))
 obtain ⟨e21,hr1⟩:∃ (e21:Int),cp e e0=e21:=⟨_,rfl⟩
 refine ay 3 [0,2] (cz id id (ms:=(bY.set 19 (some (cI e)))) (ms':=(bY.set 19 (some (cI e21)))) (fun x hx=>mO x hx e e0 e21 hr1) qY rfl) rfl (ad 1 rfl (ae (ax rfl (fun hc1=>?_) (fun hc1=>?_))))
 ·
  have hc1':=hc1;try simp only [aT,bx] at hc1'
  refine bg [0,1,6] [0,2] rfl (aF 6 rfl (bh 3 [29,25] [0] rfl (du (i:=0) rfl rfl rfl jh jj) (bf [0,2] rfl (ad 1 rfl (bq ?_)))))
  have hX:ej s e t=(xr0,e21):=by
    unfold ej;simp only [hr0,hr1];exact sx
  cases hX.symm.trans hr;clear hX
  refine cJ bn [0] 1 rfl rfl rfl rfl rfl rfl ?_ ?_
  all_goals first|rfl|(simp [cq,cf,cL];done)|(simp [cq,cf,cL];omega)
 have hc1':=hc1;try simp only [aT,bx] at hc1'
 refine cv ?_
 have hX:ej s e t=(s,e21):=by
   unfold ej;simp only [hr0,hr1];exact sx
 cases hX.symm.trans hr;clear hX
 refine cJ bn [0] 1 rfl rfl rfl rfl rfl rfl ?_ ?_
 all_goals first|rfl|(simp [cq,cf,cL];done)|(simp [cq,cf,cL];omega)
theorem Hx (x:Nat->Value) (hx:∀ i,(x i).oneCell'=true) (s:bK) (e:Int) (t:aZ) (hI:∀ t∈s.kept,fb t.number) (s2:bK) (e2:Int) (hr:ej s e t=(s2,e2)):cS Tryz.prog 64 [(.c (.p 0 0 0 0)),(.c (cI 1)),(.g [(cI t.number),(cI t.kind),(cI t.ba),(cI t.sum)])] [(0,(.box 130 ((((cL x).set 7 (cI s.bj)).set 8 (bX s.kept)).set 19 (cI e))))] [0] (.t []) [(0,(.box 130 ((((cL x).set 7 (cI s2.bj)).set 8 (bX s2.kept)).set 19 (cI e2))))]:=by
 refine cS.mk 31 [(0,(aC (.p 0 0 0 0))),(1,(aI 1)),(2,(aG [(cI t.number),(cI t.kind),(cI t.ba),(cI t.sum)]))] 1 Tryz.func64 rfl rfl rfl rfl rfl rfl rfl rfl rfl ?_
 intro W0 F0 T0 pg
 refine ag 1 rfl (af ?_)
 obtain ⟨xr0,e0,hr0⟩:∃ (xr0:bK) (e0:Int),gL s t=(xr0,e0):=⟨_,_,rfl⟩
 refine eJ [0,1,5] [1,0] rfl (cV 5 rfl (dZ 2 [13,10] [0] rfl (du (i:=1) rfl rfl rfl jh jj) (cV 2 rfl (de 2 [15,16] [] rfl (cA 2 (Fn.frozen (av':=(.t [(.g [(cI xr0.bj),(bX xr0.kept)]),(.c (cI e0))])) (vu s t (by first|assumption|exact iU dr aa|exact ia dr dr|(simp [fb];done)) xr0 e0 hr0) ⟨⟨.inl ⟨_,rfl,rfl⟩,.inr ⟨_,_,_,_,_,rfl,rfl,rfl,ca⟩,trivial⟩,.inl ⟨_,rfl,rfl⟩,trivial⟩) Iy rfl) rfl (gJ (n':=3) (kn:=[]) bn 6 rfl trivial (eb [0,1,6,7] [2,0] rfl rfl aJ (then_ok (aw 2 rfl ?_))))))))
 obtain ⟨e21,hr1⟩:∃ (e21:Int),cp e e0=e21:=⟨_,rfl⟩
 refine ay 3 [0,2] (cz id id (ms:=(bY.set 19 (some (cI e)))) (ms':=(bY.set 19 (some (cI e21)))) (fun x hx=>mO x hx e e0 e21 hr1) qY rfl) rfl (ad 1 rfl (ae (ax rfl (fun hc1=>?_) (fun hc1=>?_))))
 ·
  have hc1':=hc1;try simp only [aT,bx] at hc1'
  refine bg [0,1,6] [0,2] rfl (aF 6 rfl (bh 3 [29,25] [0] rfl (du (i:=1) rfl rfl rfl jh jj) (bf [0,2] rfl (ad 1 rfl (bq ?_)))))
  have hX:ej s e t=(xr0,e21):=by
    unfold ej;simp only [hr0,hr1];exact sx
  cases hX.symm.trans hr;clear hX
  refine cJ bn [0] 1 rfl rfl rfl rfl rfl rfl ?_ ?_
  all_goals first|rfl|(simp [cq,cf,cL];done)|(simp [cq,cf,cL];omega)
 have hc1':=hc1;try simp only [aT,bx] at hc1'
 refine cv ?_
 have hX:ej s e t=(s,e21):=by
   unfold ej;simp only [hr0,hr1];exact sx
 cases hX.symm.trans hr;clear hX
 refine cJ bn [0] 1 rfl rfl rfl rfl rfl rfl ?_ ?_
 all_goals first|rfl|(simp [cq,cf,cL];done)|(simp [cq,cf,cL];omega)
theorem Ec (x:Nat->Value) (hx:∀ i,(x i).oneCell'=true) (an:List bG) (due:List Int) (ak:List bF) (book:List Entry) (e:Int) (t:aZ) (ht:0<=t.ba/\t.ba < an.length) (hA:∀ a∈an,0<=a.aA/\a.aA < ak.length/\0<=a.au/\a.au < due.length) (hc:ak.length<=8) (hd:due.length<=8) (due2:List Int) (cards2:List bF) (book2:List Entry) (e2:Int) (hr:eD an due ak book e t=(due2,cards2,book2,e2)):cS Tryz.prog 71 [(.c (.p 0 0 0 0)),(.g [(cI t.number),(cI t.kind),(cI t.ba),(cI t.sum)])] [(0,(.box 130 ((((((cL x).set 2 (.s 1 0 6 ak.length)).set 3 (.s 2 0 1 due.length)).set 4 (.s 3 0 8 an.length)).set 18 (cE book)).set 19 (cI e)))),(1,(dS ak)),(2,(dR due)),(3,(ec an))] [0] (.t []) [(0,(.box 130 ((((((cL x).set 2 (.s 1 0 6 cards2.length)).set 3 (.s 2 0 1 due2.length)).set 4 (.s 3 0 8 an.length)).set 18 (cE book2)).set 19 (cI e2)))),(1,(dS cards2)),(2,(dR due2)),(3,(ec an))]:=by
 refine cS.mk 77 [(0,(aC (.p 0 0 0 0))),(1,(aG [(cI t.number),(cI t.kind),(cI t.ba),(cI t.sum)]))] 4 Tryz.func71 rfl rfl rfl rfl rfl rfl rfl rfl rfl ?_
 intro W0 F0 T0 pg
 refine ag 1 rfl (af ?_)
 obtain ⟨x1,hx1⟩:=bO (xs:=an) (i:=Int.toNat (t.ba)) aa
 have hx1A:=hA x1 (List.mem_of_getElem? hx1)
 refine bg [0,3] [4,0,1,2,3] rfl (aF 7 rfl (bh 5 [11,13] [3] rfl (cU (i:=Int.toNat (t.ba)) rfl rfl rfl hG ji) (bM 5 [14] [3] rfl (dk rfl rfl rfl tI rfl ji (aV hx1) rfl) rfl (bC (n':=6) (kn:=[]) bn 1 rfl trivial (bf [5,4,0,1,2,3] rfl (ad 1 rfl (ae (af (bg [0,3,4] [5,4,0,1,2,3] rfl (aF 2 rfl (bh 6 [17] [] rfl (bm rfl rfl rfl (bH aa)) (aF 2 rfl (bh 6 [20] [] rfl (bm rfl rfl rfl (bH aa)) (aF 2 rfl (bf [5,4,0,1,2,3] rfl (ae (ag 2 rfl (aL (ag 2 rfl (aO rfl (fun hc1'=>?_) (fun hc1'=>?_)))))))))))))))))))))
 ·
  refine af ?_
  obtain ⟨x2,hx2⟩:=bO (xs:=due) (i:=Int.toNat (x1.au)) aa
  refine bg [0,3,4,5] [5,4,0,1,2,3] rfl (aF 7 rfl (bh 6 [30,32] [2] rfl (cU (i:=Int.toNat (x1.au)) rfl rfl rfl ed eu) (bM 6 [33] [2] rfl (dY rfl rfl rfl eA rfl (aV hx2) rfl) rfl (aF 3 rfl (bh 6 [30,32] [2] rfl (cU (i:=Int.toNat (x1.au)) rfl rfl rfl ed eu) (bf [5,4,0,1,2,3] rfl (eP [5,4,0,1,2,3] (dK (ds:=[(dI (IntKind.i64.wrap (x2+t.sum)))]) rfl rfl rfl rfl rfl eu rfl (Nat.le_of_ble_eq_true rfl) (aV hx2) rfl (eE (x':=(IntKind.i64.wrap (x2+t.sum))) rfl)) rfl (ae (dW (k:=0) (q:=3) (c':=(.s 2 0 1 (((due).set (Int.toNat (x1.au)) (IntKind.i64.wrap (x2+t.sum))).length))) rfl rfl jN rfl (ah (ad 4 rfl ?_)))))))))))
  obtain ⟨l20,e20,hr0⟩:∃ (l20:List Entry) (e20:Int),dp book e 1 (50+x1.au) t.sum=(l20,e20):=⟨_,_,rfl⟩
  refine ay 6 [0,5,4,1,2,3] (cz id id (ms:=((bY.set 18 (some (cE book))).set 19 (some (cI e)))) (ms':=((bY.set 18 (some (cE l20))).set 19 (some (cI e20)))) (fun x hx=>lS x hx book e 1 (50+x1.au) t.sum l20 e20 hr0) pX rfl) rfl (bq (aN ?_))
  have hX:eD an due ak book e t=((due).set (Int.toNat (x1.au)) (IntKind.i64.wrap (x2+t.sum)),ak,l20,e20):=by
    unfold eD;rw [hx1];dsimp only;simp only [List.getD_eq_getElem?_getD,hx2,Option.getD_some,hr0];exact sx
  rw [hX] at hr;clear hX
  simp only [Prod.mk.injEq] at hr;obtain ⟨rfl,rfl,rfl,rfl⟩:=hr
  refine cJ bn [0,1,2,3] 4 rfl rfl rfl rfl rfl rfl ?_ ?_
  all_goals first|rfl|(simp [cq,cf,cL];done)|(simp [cq,cf,cL];omega)
 refine ag 2 rfl (aO rfl (fun hc2'=>?_) (fun hc2'=>?_))
 ·
  refine aw 5 rfl ?_
  obtain ⟨l21,e21,hr1⟩:∃ (l21:List bF) (e21:Int),cP ak e x1.aA 0 t.sum=(l21,e21):=⟨_,_,rfl⟩
  refine ay 7 [0,6,5,4,2,3] (cz id (bp [0,6]) (ms:=((bY.set 2 (some (.s 1 0 6 ak.length))).set 19 (some (cI e)))) (ms':=((bY.set 2 (some (.s 1 0 6 l21.length))).set 19 (some (cI e21)))) (fun x hx=>lx x hx ak e x1.aA 0 t.sum aa l21 e21 hr1) qZ rfl) rfl (ae (ah (ad 4 rfl ?_)))
  obtain ⟨l22,e22,hr2⟩:∃ (l22:List Entry) (e22:Int),dp book e21 1 (10+x1.aA) t.sum=(l22,e22):=⟨_,_,rfl⟩
  refine ay 7 [0,6,5,4,2,3] (cz id id (ms:=((bY.set 18 (some (cE book))).set 19 (some (cI e21)))) (ms':=((bY.set 18 (some (cE l22))).set 19 (some (cI e22)))) (fun x hx=>lS x hx book e21 1 (10+x1.aA) t.sum l22 e22 hr2) pX rfl) rfl (bq (aN ?_))
  have hX:eD an due ak book e t=(due,l21,l22,e22):=by
    unfold eD;rw [hx1];dsimp only;simp only [List.getD_eq_getElem?_getD,Option.getD_some,hr1,hr2];exact sx
  rw [hX] at hr;clear hX
  simp only [Prod.mk.injEq] at hr;obtain ⟨rfl,rfl,rfl,rfl⟩:=hr
  refine cJ bn [0,6,2,3] 4 rfl rfl rfl rfl rfl rfl ?_ ?_
  all_goals first|rfl|(simp [cq,cf,cL];done)|(simp [cq,cf,cL];omega)
 refine ag 2 rfl (aO rfl (fun hc3'=>?_) (fun hc3'=>?_))
 ·
  refine af ?_
  obtain ⟨x2,hx2⟩:=bO (xs:=due) (i:=Int.toNat (x1.au)) aa
  refine bg [0,3,4,5] [5,4,0,1,2,3] rfl (aF 7 rfl (bh 6 [63,65] [2] rfl (cU (i:=Int.toNat (x1.au)) rfl rfl rfl ed eu) (bM 6 [66] [2] rfl (dY rfl rfl rfl eA rfl (aV hx2) rfl) rfl (aF 3 rfl (bh 6 [63,65] [2] rfl (cU (i:=Int.toNat (x1.au)) rfl rfl rfl ed eu) (bf [5,4,0,1,2,3] rfl (eP [5,4,0,1,2,3] (dK (ds:=[(dI (IntKind.i64.wrap (x2 - t.sum)))]) rfl rfl rfl rfl rfl eu rfl (Nat.le_of_ble_eq_true rfl) (aV hx2) rfl (eE (x':=(IntKind.i64.wrap (x2 - t.sum))) rfl)) rfl (ae (dW (k:=0) (q:=3) (c':=(.s 2 0 1 (((due).set (Int.toNat (x1.au)) (IntKind.i64.wrap (x2 - t.sum))).length))) rfl rfl jN rfl (ah (ad 4 rfl ?_)))))))))))
  obtain ⟨l23,e23,hr3⟩:∃ (l23:List Entry) (e23:Int),dp book e (50+x1.au) 2 t.sum=(l23,e23):=⟨_,_,rfl⟩
  refine ay 6 [0,5,4,1,2,3] (cz id id (ms:=((bY.set 18 (some (cE book))).set 19 (some (cI e)))) (ms':=((bY.set 18 (some (cE l23))).set 19 (some (cI e23)))) (fun x hx=>lS x hx book e (50+x1.au) 2 t.sum l23 e23 hr3) pX rfl) rfl (bq (aN ?_))
  have hX:eD an due ak book e t=((due).set (Int.toNat (x1.au)) (IntKind.i64.wrap (x2 - t.sum)),ak,l23,e23):=by
    unfold eD;rw [hx1];dsimp only;simp only [List.getD_eq_getElem?_getD,hx2,Option.getD_some,hr3];exact sx
  rw [hX] at hr;clear hX
  simp only [Prod.mk.injEq] at hr;obtain ⟨rfl,rfl,rfl,rfl⟩:=hr
  refine cJ bn [0,1,2,3] 4 rfl rfl rfl rfl rfl rfl ?_ ?_
  all_goals first|rfl|(simp [cq,cf,cL];done)|(simp [cq,cf,cL];omega)
 refine cv (aN ?_)
 have hX:eD an due ak book e t=(due,ak,book,e):=by
   unfold eD;rw [hx1];dsimp only;simp only [List.getD_eq_getElem?_getD,Option.getD_some,hx1];exact sx
 rw [hX] at hr;clear hX
 simp only [Prod.mk.injEq] at hr;obtain ⟨rfl,rfl,rfl,rfl⟩:=hr
 refine cJ bn [0,1,2,3] 4 rfl rfl rfl rfl rfl rfl ?_ ?_
 all_goals first|rfl|(simp [cq,cf,cL];done)|(simp [cq,cf,cL];omega)
end Go.Proofs.YtnfopdlnboeheaaGreat.Dev
