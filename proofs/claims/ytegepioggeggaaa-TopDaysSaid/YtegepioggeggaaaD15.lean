/- A part of the proof: Top2, Top3, PlLaw1, PlLaw2, PlTop, PlTop2, PlCome, PlCome2, PlCome3, PlCome4, PlOver, PlBuy, PlBack, PlBack2. No condition. -/
import Derived.Test.YtegepioggeggaaaD14
set_option linter.unusedVariables false
set_option linter.unusedSimpArgs false
set_option maxHeartbeats 4000000
set_option maxRecDepth 100000
namespace Go.Proofs.Ytegepioggeggaaa.Dev
open Go.RowKit

theorem Hh (l:List aW) (N:Nat) (hN:N=l.length) (hl:l.length<=1000) (r:List aW) (hr:jP l=r):cJ Try.prog 19 [(.c (.s 0 0 6 N))] [(0,(ra l))] [] (.v (.c (.s 0 0 6 r.length))) [(0,(ra r))]:=by
 refine cJ.mk 25 [(0,(aC (.s 0 0 6 N)))] 1 Try.func19 rfl rfl rfl rfl rfl rfl rfl rfl rfl ?_
 intro W0 F0 T0 pg
 refine gn 0 rfl (fun hlen0=>?_)
 refine ae aa 1 rfl ?_
 refine ag ?_
 refine ae aa 1 rfl ?_
 refine aX ?_
 refine cw (β:=Nat×List aW) (fun (p:Nat×List aW)=>match p with|(i,m0)=>⟨[(0,(aC (.s 0 0 6 m0.length))),(2,(aC cN)),(4,(aI (↑i:Int)))],[(0,(ra m0))],1⟩) (fun (p:Nat×List aW)=>match p with|(i,m0)=>i<=2/\m0++sW (2 - i)=jP l/\m0.length+12 * (2 - i)=l.length+24) (fun (p:Nat×List aW)=>match p with|(i,m0)=>2 - i) (0,l) ?_ ?_ ?_
 ·exact ⟨by omega,rfl,by omega⟩
 ·exact aF.bW id (by refine ⟨?_,?_,?_,trivial⟩<;>first|rfl|(simp only [bm];done)|(congr 3;omega)|(congr 4;omega)|(simp only [bn];rfl)|(first|exact cz rfl (by omega)|exact fD rfl (by first|omega|(simp only [List.length_append,List.length_cons,List.length_nil] at *;omega)))) (⟨by first|rfl|(simp only [bm];done)|(congr 3;omega)|(congr 4;omega)|(simp only [bn];rfl),trivial⟩) rfl
 rintro ⟨i,m0⟩ ⟨hi0_0,hi0_1,hi0_2⟩
 refine ae aa 1 rfl ?_
 refine ag ?_
 refine ah rfl (fun hc1=>?_) (fun hc1=>?_)
 ·
  have hc1':=of_decide_eq_true hc1
  refine aQ ?_
  refine ag ?_
  refine aX ?_
  refine aH aa 1 rfl ?_
  refine aN 1 [0] (bQ 1 (lY 5 0 0) ox rfl rfl ⟨⟨_,rfl,.c (.d _)⟩,⟨_,rfl,.c (.d _)⟩,⟨_,rfl,.c (.d _)⟩,trivial⟩ ⟨trivial,trivial,trivial,trivial,trivial,trivial,trivial⟩ trivial rfl rfl rfl rfl) rfl ?_
  refine aN 1 [0] (bQ 1 (lY 5 1 0) ox rfl rfl ⟨⟨_,rfl,.c (.d _)⟩,⟨_,rfl,.c (.d _)⟩,⟨_,rfl,.c (.d _)⟩,trivial⟩ ⟨trivial,trivial,trivial,trivial,trivial,trivial,trivial⟩ trivial rfl rfl rfl rfl) rfl ?_
  refine aN 2 [1,0] (dy (ys:=[(0,(.g [(cI 0),(cI 5),(cI 0),(cI 0),(cI 0),(cI 0)])),(1,(.g [(cI 0),(cI 5),(cI 1),(cI 0),(cI 0),(cI 0)]))]) (rows:=([(⟨0,5,0,0,0,0⟩:aW),(⟨0,5,1,0,0,0⟩:aW)]).map cQ) 1 jF rfl (by decide) ⟨⟨rfl,rfl⟩,⟨rfl,rfl⟩,trivial⟩ rfl rfl rfl rfl) rfl ?_
  refine aN 3 [2,1] (cX (m:=2) (N:=m0.length+2) (k2:=2) (ys:=([(⟨0,5,0,0,0,0⟩:aW),(⟨0,5,1,0,0,0⟩:aW)]).map cQ) jF rfl rfl rfl rfl rfl rfl (by first|omega|(simp;done)|(simp;omega)) rfl (.s rfl (by first|omega|(simp;done)|(simp;omega))) (by first|omega|(simp;done)|(simp;omega)) (by first|omega|(simp;done)|(simp;omega)) eH (by decide) (by first|omega|(simp;done)|(simp;omega)) (by first|omega|(simp;done)|(simp;omega))) rfl ?_
  refine ad aa 1 rfl ?_
  refine af ?_
  refine ae aa 1 rfl ?_
  refine aX ?_
  refine cw (β:=Nat×List aW) (fun (p:Nat×List aW)=>match p with|(j,m1)=>⟨[(0,(aC (.s 2 0 6 m1.length))),(2,(aC cN)),(4,(aI (↑i:Int))),(11,(aI (↑j:Int)))],[(2,(ra m1))],3⟩) (fun (p:Nat×List aW)=>match p with|(j,m1)=>j<=2/\m1++sm j=m0++vK/\m1.length+5 * (2 - j)=m0.length+12) (fun (p:Nat×List aW)=>match p with|(j,m1)=>2 - j) (0,m0++([(⟨0,5,0,0,0,0⟩:aW),(⟨0,5,1,0,0,0⟩:aW)])) ?_ ?_ ?_
  ·exact ⟨by omega,by simp [vK],by simp⟩
  ·exact aF.bW id (by refine ⟨?_,?_,?_,?_,trivial⟩<;>first|rfl|(simp only [bm];done)|(congr 3;omega)|(congr 4;omega)|(simp only [bn];rfl)|(first|exact cz rfl (by omega)|exact fD rfl (by first|omega|(simp only [List.length_append,List.length_cons,List.length_nil] at *;omega)))) (⟨by first|rfl|(simp only [bm];done)|(congr 3;omega)|(congr 4;omega)|(simp only [bn];rfl),trivial⟩) rfl
  rintro ⟨j,m1⟩ ⟨hi1_0,hi1_1,hi1_2⟩
  refine ae aa 1 rfl ?_
  refine ag ?_
  refine ah rfl (fun hc2=>?_) (fun hc2=>?_)
  ·
   have hc2':=of_decide_eq_true hc2
   refine aQ ?_
   refine ag ?_
   refine aX ?_
   refine ae aa 2 rfl ?_
   refine ae aa 1 rfl ?_
   refine aX ?_
   refine cw (β:=Nat×List aW) (fun (p:Nat×List aW)=>match p with|(k,m2)=>⟨[(0,(aC (.s 2 0 6 m2.length))),(2,(aC cN)),(4,(aI (↑i:Int))),(11,(aI (↑j:Int))),(3,(aI (↑j:Int))),(14,(aI (↑k:Int)))],[(2,(ra m2))],3⟩) (fun (p:Nat×List aW)=>match p with|(k,m2)=>k<=5/\m2++dd (↑j) (5 - k)=m1++dd (↑j) 5/\m2.length+(5 - k)=m1.length+5) (fun (p:Nat×List aW)=>match p with|(k,m2)=>5 - k) (0,m1) ?_ ?_ ?_
   ·exact ⟨by omega,rfl,by omega⟩
   ·exact aF.bW id (by refine ⟨?_,?_,?_,?_,?_,?_,trivial⟩<;>first|rfl|(simp only [bm];done)|(congr 3;omega)|(congr 4;omega)|(simp only [bn];rfl)|(first|exact cz rfl (by omega)|exact fD rfl (by first|omega|(simp only [List.length_append,List.length_cons,List.length_nil] at *;omega)))) (⟨by first|rfl|(simp only [bm];done)|(congr 3;omega)|(congr 4;omega)|(simp only [bn];rfl),trivial⟩) rfl
   rintro ⟨k,m2⟩ ⟨hi2_0,hi2_1,hi2_2⟩
   refine ae aa 1 rfl ?_
   refine ag ?_
   refine ah rfl (fun hc3=>?_) (fun hc3=>?_)
   ·
    have hc3':=of_decide_eq_true hc3
    refine aQ ?_
    refine ag ?_
    refine aX ?_
    refine au ?_
    refine ad aa 2 rfl ?_
    refine aN 3 [2] (bQ 3 (lY 6 (↑j:Int) 0) ox rfl rfl ⟨⟨_,rfl,.c (.d _)⟩,⟨_,rfl,.c (.d _)⟩,⟨_,rfl,.c (.d _)⟩,trivial⟩ ⟨trivial,trivial,trivial,trivial,trivial,trivial,trivial⟩ trivial rfl rfl rfl rfl) rfl ?_
    refine aN 4 [3,2] (dy (ys:=[(0,(.g [(cI 0),(cI 6),(cI (↑j:Int)),(cI 0),(cI 0),(cI 0)]))]) (rows:=([(⟨0,6,(↑j:Int),0,0,0⟩:aW)]).map cQ) 3 jF rfl (by decide) ⟨⟨rfl,rfl⟩,trivial⟩ rfl rfl rfl rfl) rfl ?_
    refine aN 5 [4,3] (cX (m:=1) (N:=m2.length+1) (k2:=4) (ys:=([(⟨0,6,(↑j:Int),0,0,0⟩:aW)]).map cQ) jF rfl rfl rfl rfl rfl rfl (by first|omega|(simp;done)|(simp;omega)) rfl (.s rfl (by first|omega|(simp;done)|(simp;omega))) (by first|omega|(simp;done)|(simp;omega)) (by first|omega|(simp;done)|(simp;omega)) eH (by decide) (by first|omega|(simp;done)|(simp;omega)) (by first|omega|(simp;done)|(simp;omega))) rfl ?_
    refine ad aa 1 rfl ?_
    refine bY ?_
    refine bh ?_
    refine then_ok ?_
    refine au ?_
    refine aA (aL rfl rfl rfl (aJ (by first|omega|(simp;done)|(simp;omega)))) rfl ?_
    refine ad aa 1 rfl ?_
    refine af ?_
    refine ⟨(k+1,m2++([(⟨0,6,(↑j:Int),0,0,0⟩:aW)])),⟨by omega,by rw [<-hi2_1,Cj (k:=k) (by omega),List.append_assoc],by simp only [List.length_append,List.length_cons,List.length_nil];omega⟩,by first|omega|(simp;done)|(simp;omega),aF.bW (fun k=>if k=2 then 4 else k) (by refine ⟨?_,?_,?_,?_,?_,?_,trivial⟩<;>first|rfl|(simp only [bm];done)|(congr 3;omega)|(congr 4;omega)|(simp only [bn];rfl)|(first|exact cz rfl (by omega)|exact fD rfl (by first|omega|(simp only [List.length_append,List.length_cons,List.length_nil] at *;omega)))) (⟨by first|rfl|(simp only [bm];done)|(congr 3;omega)|(congr 4;omega)|(simp only [bn];rfl),trivial⟩) rfl⟩
   have hc3':=of_decide_eq_false hc3
   refine cj ?_
   refine aP ?_
   refine aP ?_
   refine bK ?_
   refine bh ?_
   refine then_ok ?_
   refine au ?_
   refine aA (aL rfl rfl rfl (aJ (by first|omega|(simp;done)|(simp;omega)))) rfl ?_
   refine ad aa 1 rfl ?_
   refine af ?_
   refine ⟨(j+1,m2),⟨by omega,by rw [<-hi1_1,zu (j:=j) (by omega),<-List.append_assoc,<-hi2_1,(show 5 - k=0 by omega)];simp [dd],by omega⟩,by first|omega|(simp;done)|(simp;omega),aF.bW id (by refine ⟨?_,?_,?_,?_,trivial⟩<;>first|rfl|(simp only [bm];done)|(congr 3;omega)|(congr 4;omega)|(simp only [bn];rfl)|(first|exact cz rfl (by omega)|exact fD rfl (by first|omega|(simp only [List.length_append,List.length_cons,List.length_nil] at *;omega)))) (⟨by first|rfl|(simp only [bm];done)|(congr 3;omega)|(congr 4;omega)|(simp only [bn];rfl),trivial⟩) rfl⟩
  have hc2':=of_decide_eq_false hc2
  refine cj ?_
  refine aP ?_
  refine aP ?_
  refine bK ?_
  refine bh ?_
  refine then_ok ?_
  refine au ?_
  refine aA (aL rfl rfl rfl (aJ (by first|omega|(simp;done)|(simp;omega)))) rfl ?_
  refine ad aa 1 rfl ?_
  refine af ?_
  refine ⟨(i+1,m1),⟨by omega,by rw [<-hi0_1,Af (i:=i) (by omega),<-List.append_assoc,<-hi1_1,(show j=2 by omega)];simp [sm],by omega⟩,by first|omega|(simp;done)|(simp;omega),aF.bW (fun k=>if k=0 then 2 else k) (by refine ⟨?_,?_,?_,trivial⟩<;>first|rfl|(simp only [bm];done)|(congr 3;omega)|(congr 4;omega)|(simp only [bn];rfl)|(first|exact cz rfl (by omega)|exact fD rfl (by first|omega|(simp only [List.length_append,List.length_cons,List.length_nil] at *;omega)))) (⟨by first|rfl|(simp only [bm];done)|(congr 3;omega)|(congr 4;omega)|(simp only [bn];rfl),trivial⟩) rfl⟩
 have hc1':=of_decide_eq_false hc1
 refine cj ?_
 refine aP ?_
 refine aP ?_
 refine bK ?_
 refine then_ok ?_
 refine ae aa 2 rfl ?_
 refine az ?_
 have hX:jP l=m0:=by
   have:i=2:=by omega
   subst this
   rw [<-hi0_1];simp [sW]
 rw [hX] at hr;clear hX
 subst hr
 refine an aa [0] 1 rfl rfl rfl rfl rfl rfl ?_ ?_
 all_goals first|rfl|(simp [ay,aY,bf];done)|(simp [ay,aY,bf];omega)
theorem Fx (l:List Int) (r:Bool) (hr:nv l=r):Fn Try.prog 18 [(.c (fB l))] (.v (.c (cB r))) []:=by
 refine Fn.mk' 18 [(0,(aC (fB l)))] Try.func18 rfl rfl rfl rfl ?_
 intro W0 T0
 refine dr 0 rfl (fun hlen0=>?_)
 refine ae aa 1 rfl ?_
 refine ag ?_
 refine aH aa 1 rfl ?_
 refine aA (cM rfl rfl rfl rfl rfl Try.underlying30) rfl ?_
 refine ad aa 1 rfl ?_
 refine af ?_
 refine aX ?_
 refine cw (β:=Nat) (fun (q:Nat)=>⟨[(5,(aC (fB l))),(6,(aI (↑l.length:Int))),(7,(aI (↑q:Int)))],[],0⟩) (fun (q:Nat)=>q<=l.length/\(∀ i n,i < q->l[i]?=some n->1<=n/\n<=100000)) (fun (q:Nat)=>l.length - q) 0 ?_ ?_ ?_
 ·exact ⟨by omega,fun i n h=>by omega⟩
 ·exact aF.bW id (by refine ⟨?_,?_,?_,trivial⟩<;>first|rfl|(simp only [bm];done)|(congr 3;omega)|(congr 4;omega)|(simp only [bn];rfl)) (trivial) rfl
 rintro q ⟨hi0_0,hi0_1⟩
 refine ae aa 1 rfl ?_
 refine ag ?_
 refine ah rfl (fun hc1=>?_) (fun hc1=>?_)
 ·
  have hc1':=of_decide_eq_true hc1
  refine aQ ?_
  refine ag ?_
  refine aX ?_
  refine eB ?_
  obtain ⟨x1,hx1⟩:=ck (xs:=l) (i:=q) (by first|omega|(simp;done)|(simp;omega))
  refine aA (cH (i:=q) rfl rfl rfl Try.underlying30 fX (by first|omega|(simp;done)|(simp;omega)) (bw hx1)) rfl ?_
  refine ad aa 2 rfl ?_
  refine af ?_
  refine cx 16 ((decide (x1 < 1))||(decide (x1 > 100000))) ?_ ?_
  ·
   refine au ?_
   refine ad aa 3 rfl ?_
   refine bI (t:=13) rfl (fun hb2=>?_) (fun hb2=>?_)
   ·
    have hb2':=of_decide_eq_true hb2
    refine ad aa 3 rfl ?_
    refine af ?_
    exact aF.bH 7 rfl rfl (by first|(simp [hb2];done)|(simp_all;done)|(exfalso;simp_all;done)|(simp_all;omega)) rfl
   have hb2':=of_decide_eq_false hb2
   refine ad aa 3 rfl ?_
   refine af ?_
   exact aF.bH 7 rfl rfl (by first|(simp [hb2];done)|(simp_all;done)|(exfalso;simp_all;done)|(simp_all;omega)) rfl
  refine ah rfl (fun hc3=>?_) (fun hc3=>?_)
  ·
   have hc3':=hc3;try simp only [bu,bU] at hc3'
   refine ae aa 1 rfl ?_
   refine az ?_
   refine bp ?_
   refine aq ?_
   refine aq ?_
   refine bp ?_
   refine aq ?_
   have hX:nv l=false:=by
     simp only [nv,decide_eq_false_iff_not];intro h;have:=h x1 (List.mem_of_getElem? hx1);omega
   rw [hX] at hr;clear hX
   subst hr
   refine an aa [] 0 rfl rfl rfl rfl rfl rfl ?_ ?_
   all_goals first|rfl|(simp [ay,aY,bf];done)|(simp [ay,aY,bf];omega)
  have hc3':=hc3;try simp only [bu,bU] at hc3'
  refine cZ ?_
  refine bh ?_
  refine then_ok ?_
  refine au ?_
  refine aA (aL rfl rfl rfl (aJ (by first|omega|(simp;done)|(simp;omega)))) rfl ?_
  refine ad aa 1 rfl ?_
  refine af ?_
  refine ⟨q+1,⟨by omega,fun i n hi hn=>by rcases Nat.lt_or_ge i q with h|h;exact hi0_1 i n h hn;(have:i=q:=by omega);subst this;rw [hx1] at hn;injection hn with hn;subst hn;constructor<;>omega⟩,by first|omega|(simp;done)|(simp;omega),aF.bW id (by refine ⟨?_,?_,?_,trivial⟩<;>first|rfl|(simp only [bm];done)|(congr 3;omega)|(congr 4;omega)|(simp only [bn];rfl)) (trivial) rfl⟩
 have hc1':=of_decide_eq_false hc1
 refine cj ?_
 refine aP ?_
 refine aP ?_
 refine bK ?_
 refine then_ok ?_
 refine ae aa 1 rfl ?_
 refine az ?_
 have hX:nv l=true:=by
   simp only [nv,decide_eq_true_eq];intro n hn;obtain ⟨i,hi⟩:=List.getElem?_of_mem hn;exact hi0_1 i n (by have:=(List.getElem?_eq_some_iff.1 hi).1;omega) hi
 rw [hX] at hr;clear hX
 subst hr
 refine an aa [] 0 rfl rfl rfl rfl rfl rfl ?_ ?_
 all_goals first|rfl|(simp [ay,aY,bf];done)|(simp [ay,aY,bf];omega)

theorem DZ:Fn Try.prog 17 [] (aB true) []:=by
 refine Fn.mk' 53 [] Try.func17 rfl rfl rfl rfl ?_
 intro W0 T0
 refine ae aa 1 rfl ?_
 refine eB ?_
 refine aN 0 [] (bQ 0 (Fn.frozen (av':=(aG [(cR 3 (([(⟨1000,30,1000000000000⟩:dw),(⟨1000,30,1000000000000⟩:dw)]).map iK)),(cI 2),(cI 0)])) (xn 0) ⟨.inr ⟨_,_,_,_,_,rfl,rfl,rfl,by simp⟩,.inl ⟨_,rfl,rfl⟩,.inl ⟨_,rfl,rfl⟩,trivial⟩) GX rfl rfl ⟨⟨_,rfl,.c (.d _)⟩,trivial⟩ ⟨trivial,trivial,trivial,trivial⟩ trivial rfl rfl rfl rfl) rfl ?_
 refine aN 0 [] (bQ 0 (lY 1 0 100) ox rfl rfl ⟨⟨_,rfl,.c (.d _)⟩,⟨_,rfl,.c (.d _)⟩,⟨_,rfl,.c (.d _)⟩,trivial⟩ ⟨trivial,trivial,trivial,trivial,trivial,trivial,trivial⟩ trivial rfl rfl rfl rfl) rfl ?_
 refine aN 0 [] (bQ 0 (lY 2 0 60) ox rfl rfl ⟨⟨_,rfl,.c (.d _)⟩,⟨_,rfl,.c (.d _)⟩,⟨_,rfl,.c (.d _)⟩,trivial⟩ ⟨trivial,trivial,trivial,trivial,trivial,trivial,trivial⟩ trivial rfl rfl rfl rfl) rfl ?_
 refine aN 0 [] (bQ 0 (ud 3 0 40) DG rfl rfl ⟨⟨_,rfl,.c (.d _)⟩,⟨_,rfl,.c (.d _)⟩,⟨_,rfl,.c (.d _)⟩,trivial⟩ ⟨trivial,trivial,trivial,trivial,trivial,trivial,trivial⟩ trivial rfl rfl rfl rfl) rfl ?_
 refine aN 1 [0] (dy (ys:=[(0,(.g [(cI 0),(cI 1),(cI 0),(cI 0),(cI 0),(cI 100)])),(1,(.g [(cI 0),(cI 2),(cI 0),(cI 0),(cI 0),(cI 60)])),(2,(.g [(cI 0),(cI 3),(cI 0),(cI 0),(cI 3),(cI 40)]))]) (rows:=([(⟨0,1,0,0,0,100⟩:aW),(⟨0,2,0,0,0,60⟩:aW),(⟨0,3,0,0,3,40⟩:aW)]).map cQ) 0 jF rfl (by decide) ⟨⟨rfl,rfl⟩,⟨rfl,rfl⟩,⟨rfl,rfl⟩,trivial⟩ rfl rfl rfl rfl) rfl ?_
 have hr0:jP ([(⟨0,1,0,0,0,100⟩:aW),(⟨0,2,0,0,0,60⟩:aW),(⟨0,3,0,0,3,40⟩:aW)])=(jP ([(⟨0,1,0,0,0,100⟩:aW),(⟨0,2,0,0,0,60⟩:aW),(⟨0,3,0,0,3,40⟩:aW)])):=rfl
 refine aN 2 [1] (cL id (bd [1]) (Hh ([(⟨0,1,0,0,0,100⟩:aW),(⟨0,2,0,0,0,60⟩:aW),(⟨0,3,0,0,3,40⟩:aW)]) 3 (by first|omega|(simp;done)|(simp;omega)) (by first|omega|(simp;done)|(simp;omega)) (jP ([(⟨0,1,0,0,0,100⟩:aW),(⟨0,2,0,0,0,60⟩:aW),(⟨0,3,0,0,3,40⟩:aW)])) hr0) Js rfl rfl ⟨⟨_,rfl,.inl ⟨rfl,rfl⟩⟩,trivial⟩ ⟨rfl,trivial⟩ rfl rfl rfl rfl rfl rfl trivial ⟨(fun _ _ _ _=>trivial),trivial⟩ rfl rfl rfl rfl) rfl ?_
 refine mX (s':=[(0,(aB false)),(5,(aG [(cR 3 (([(⟨1000,30,1000000000000⟩:dw),(⟨1000,30,1000000000000⟩:dw)]).map iK)),(cI 2),(cI 0)])),(6,(aG [(cI 0),(cI 1),(cI 0),(cI 0),(cI 0),(cI 100)])),(7,(aG [(cI 0),(cI 2),(cI 0),(cI 0),(cI 0),(cI 60)])),(8,(aG [(cI 0),(cI 3),(cI 0),(cI 0),(cI 3),(cI 40)])),(10,(aC (uq (jP ([(⟨0,1,0,0,0,100⟩:aW),(⟨0,2,0,0,0,60⟩:aW),(⟨0,3,0,0,3,40⟩:aW)])))))]) (h':=[]) 1 rfl ⟨⟨_,rfl,.inl ⟨rfl,rfl⟩⟩,⟨_,rfl,.inl ⟨rfl,rfl⟩⟩,⟨_,rfl,.inl ⟨rfl,rfl⟩⟩,⟨_,rfl,.inl ⟨rfl,rfl⟩⟩,⟨_,rfl,.inl ⟨rfl,rfl⟩⟩,⟨_,rfl,.inr ⟨_,_,rfl,rfl,.s rfl (by decide) (by first|omega|(simp;done)|(simp;omega))⟩⟩,trivial⟩ trivial rfl ?_
 have hr1:iL (⟨[(⟨1000,30,1000000000000⟩:dw),(⟨1000,30,1000000000000⟩:dw)],2,0⟩:Setup) (jP ([(⟨0,1,0,0,0,100⟩:aW),(⟨0,2,0,0,0,60⟩:aW),(⟨0,3,0,0,3,40⟩:aW)]))=((⟨0,false,[⟨60,0,⟨1000,30,1000000000000⟩,[⟨0,60⟩]⟩,⟨0,0,⟨1000,30,1000000000000⟩,[]⟩],[40,0],[⟨0,0,60,40,0,0,100,true⟩],⟨1,[]⟩,⟨0,[]⟩,0,1,[],[],⟨0,[0,0],[]⟩,[⟨0,0,3,40⟩],[⟨0,-100⟩,⟨10,60⟩,⟨50,40⟩]⟩:Bk),[],(iL (⟨[(⟨1000,30,1000000000000⟩:dw),(⟨1000,30,1000000000000⟩:dw)],2,0⟩:Setup) (jP ([(⟨0,1,0,0,0,100⟩:aW),(⟨0,2,0,0,0,60⟩:aW),(⟨0,3,0,0,3,40⟩:aW)]))).2.2.1,(⟨0,0⟩:dc)):=by kernel_rfl
 refine aN 2 [] (bQ 2 (Fn.frozen (av':=(.t [(.g [(cI 0),(cB false),(FG ([⟨60,0,⟨1000,30,1000000000000⟩,[⟨0,60⟩]⟩,⟨0,0,⟨1000,30,1000000000000⟩,[]⟩])),(fB ([40,0])),(Ax ([⟨0,0,60,40,0,0,100,true⟩])),(cI 1),(dn ([])),(cI 0),(dn ([])),(cI 0),(cI 1),(eD ([])),(eD ([])),(cI 0),(fB ([0,0])),(iz ([])),(iy ([⟨0,0,3,40⟩])),(FE ([])),(eb ([⟨0,-100⟩,⟨10,60⟩,⟨50,40⟩]))]),(.c (FF ((iL (⟨[(⟨1000,30,1000000000000⟩:dw),(⟨1000,30,1000000000000⟩:dw)],2,0⟩:Setup) (jP ([(⟨0,1,0,0,0,100⟩:aW),(⟨0,2,0,0,0,60⟩:aW),(⟨0,3,0,0,3,40⟩:aW)]))).2.2.1))),(.g [(cI 0),(cI 0)])])) (Ch (⟨[(⟨1000,30,1000000000000⟩:dw),(⟨1000,30,1000000000000⟩:dw)],2,0⟩:Setup) (jP ([(⟨0,1,0,0,0,100⟩:aW),(⟨0,2,0,0,0,60⟩:aW),(⟨0,3,0,0,3,40⟩:aW)])) (⟨0,false,[⟨60,0,⟨1000,30,1000000000000⟩,[⟨0,60⟩]⟩,⟨0,0,⟨1000,30,1000000000000⟩,[]⟩],[40,0],[⟨0,0,60,40,0,0,100,true⟩],⟨1,[]⟩,⟨0,[]⟩,0,1,[],[],⟨0,[0,0],[]⟩,[⟨0,0,3,40⟩],[⟨0,-100⟩,⟨10,60⟩,⟨50,40⟩]⟩:Bk) ([]) ((iL (⟨[(⟨1000,30,1000000000000⟩:dw),(⟨1000,30,1000000000000⟩:dw)],2,0⟩:Setup) (jP ([(⟨0,1,0,0,0,100⟩:aW),(⟨0,2,0,0,0,60⟩:aW),(⟨0,3,0,0,3,40⟩:aW)]))).2.2.1) (⟨0,0⟩:dc) hr1) ⟨⟨.inl ⟨_,rfl,rfl⟩,.inl ⟨_,rfl,rfl⟩,.inr ⟨_,_,_,_,_,rfl,rfl,rfl,by simp⟩,.inr ⟨_,_,_,_,_,rfl,rfl,rfl,by simp⟩,.inr ⟨_,_,_,_,_,rfl,rfl,rfl,by simp⟩,.inl ⟨_,rfl,rfl⟩,.inl ⟨_,rfl,rfl⟩,.inl ⟨_,rfl,rfl⟩,.inl ⟨_,rfl,rfl⟩,.inl ⟨_,rfl,rfl⟩,.inl ⟨_,rfl,rfl⟩,.inl ⟨_,rfl,rfl⟩,.inl ⟨_,rfl,rfl⟩,.inl ⟨_,rfl,rfl⟩,.inl ⟨_,rfl,rfl⟩,.inl ⟨_,rfl,rfl⟩,.inr ⟨_,_,_,_,_,rfl,rfl,rfl,by simp⟩,.inr ⟨_,_,_,_,_,rfl,rfl,rfl,by simp⟩,.inl ⟨_,rfl,rfl⟩,trivial⟩,.inr ⟨_,_,_,_,_,rfl,rfl,rfl,by simp⟩,⟨.inl ⟨_,rfl,rfl⟩,.inl ⟨_,rfl,rfl⟩,trivial⟩,trivial⟩) GY rfl rfl ⟨⟨_,rfl,.g ⟨.d _,.d _,.d _,trivial⟩⟩,⟨_,rfl,.c (.d _)⟩,trivial⟩ ⟨⟨trivial,trivial,trivial,trivial,trivial,trivial,trivial,trivial,trivial,trivial,trivial,trivial,trivial,trivial,trivial,trivial,trivial,trivial,trivial,trivial⟩,trivial,⟨trivial,trivial,trivial⟩,trivial⟩ trivial rfl rfl rfl rfl) rfl ?_
 refine ad aa 9 rfl ?_
 refine af ?_
 refine aH aa 2 rfl ?_
 refine aA (aL rfl rfl rfl (show _=some (Value.bool true) from rfl)) rfl ?_
 refine ad aa 3 rfl ?_
 refine dQ (ak.yes rfl rfl rfl) (cM rfl rfl rfl rfl rfl Try.underlying29) rfl rfl ?_
 refine dQ (ak.yes rfl rfl rfl) (aL rfl rfl rfl (show _=some (Value.bool true) from rfl)) rfl rfl ?_
 refine ad aa 4 rfl ?_
 refine dQ (ak.yes rfl rfl rfl) (cM rfl rfl rfl rfl rfl Try.underlying30) rfl rfl ?_
 refine dQ (ak.yes rfl rfl rfl) (aL rfl rfl rfl (show _=some (Value.bool true) from rfl)) rfl rfl ?_
 refine ad aa 4 rfl ?_
 refine dQ (ak.yes rfl rfl rfl) (cH (i:=0) rfl rfl rfl Try.underlying29 jE (by first|omega|(simp;done)|(simp;omega)) (bw (show ([⟨60,0,⟨1000,30,1000000000000⟩,[⟨0,60⟩]⟩,⟨0,0,⟨1000,30,1000000000000⟩,[]⟩]:List bE)[0]?=some (⟨60,0,⟨1000,30,1000000000000⟩,[⟨0,60⟩]⟩:bE) from rfl))) rfl rfl ?_
 refine ad aa 2 rfl ?_
 refine dQ (ak.yes rfl rfl rfl) (aL rfl rfl rfl (show _=some (Value.bool true) from rfl)) rfl rfl ?_
 refine ad aa 4 rfl ?_
 refine dQ (ak.yes rfl rfl rfl) (cH (i:=0) rfl rfl rfl Try.underlying29 jE (by first|omega|(simp;done)|(simp;omega)) (bw (show ([⟨60,0,⟨1000,30,1000000000000⟩,[⟨0,60⟩]⟩,⟨0,0,⟨1000,30,1000000000000⟩,[]⟩]:List bE)[0]?=some (⟨60,0,⟨1000,30,1000000000000⟩,[⟨0,60⟩]⟩:bE) from rfl))) rfl rfl ?_
 refine ad aa 2 rfl ?_
 refine dQ (ak.yes rfl rfl rfl) (aL rfl rfl rfl (show _=some (Value.bool true) from rfl)) rfl rfl ?_
 refine ad aa 4 rfl ?_
 refine dQ (ak.yes rfl rfl rfl) (cH (i:=0) rfl rfl rfl Try.underlying30 fX (by first|omega|(simp;done)|(simp;omega)) (bw (show ([40,0]:List Int)[0]?=some 40 from rfl))) rfl rfl ?_
 refine ad aa 1 rfl ?_
 refine dQ (ak.yes rfl rfl rfl) (aL rfl rfl rfl (show _=some (Value.bool true) from rfl)) rfl rfl ?_
 refine ad aa 2 rfl ?_
 refine af ?_
 refine az ?_
 refine an aa [] 0 rfl rfl rfl rfl rfl rfl ?_ ?_
 all_goals first|rfl|(simp [ay,aY,bf];done)|(simp [ay,aY,bf];omega)
def lh (l:List bE):Prop:=∀ c∈l,0<=c.bx - c.held
theorem qE {l:List bE} {e k h m:Int} (hl:lh l) (hc:∀ c,l[k.toNat]?=some c->h - m<=c.bx - c.held):lh (cG l e k h m).1:=by
 unfold cG
 split
 ·exact hl
 ·rename_i c hk
  split
  ·rename_i h0
   intro z hz
   rcases gF hz with hz|rfl
   ·exact hl z hz
   ·have he:=(gd h0).2
    rcases rp (show ec c h m=((ec c h m).1,(ec c h m).2) from rfl) with ⟨h1,_⟩|h1
    ·exact absurd he h1
    ·have h2:=h1.2.2.2.2.2.2.1
     have h3:=hc c hk
     rw [h2];dsimp only;omega
  ·exact hl
theorem jJ {l:List bE} {e k h m:Int} (hl:lh l) (hm:h<=m):lh (cG l e k h m).1:=qE hl fun c hc=>by have:=hl c (List.mem_of_getElem? hc);omega
theorem BD {a:bF} {t:Int} (h:bG a=0):bB (ew a t) - bB a<=0:=by
 have:=fc h
 unfold bB ew
 cases hs:a.shut<;>cases ht:decide (a.cY<=t)<;>simp<;>omega
theorem sM {time:Int}:∀ (l:List bF) (i:Nat) (aw:List bE) (ax:List bF) (e:Int),(∀ a∈l,bG a=0)->lh aw->lh (gb time l i aw ax e).1
 |[],_,_,_,_,_,h=>h
 |a::l,i,aw,ax,e,hw,h=>sM l (i+1) _ _ _ (fun x hx=>hw x (List.mem_cons_of_mem _ hx)) (jJ h (BD (hw a List.mem_cons_self)))
theorem sN {time:Int} {n:Int}:∀ (l:List bF) (i:Nat) (aw:List bE) (ax:List bF) (e:Int),(∀ a∈l,a.bq=n)->(∀ a∈ax,a.bq=n)->∀ a∈(gb time l i aw ax e).2.1,a.bq=n
 |[],_,_,_,_,_,h=>h
 |a::l,i,aw,ax,e,hl,h=>sN l (i+1) _ _ _ (fun x hx=>hl x (List.mem_cons_of_mem _ hx)) fun x hx=>by
  rcases gF hx with hx|rfl
  ·exact h x hx
  ·exact hl a List.mem_cons_self
structure fi (b:Bk):Prop where
 ok:cv b
 up:b.down=false
 iX:∀ a∈b.ax,a.bq=0
 free:lh b.aw
 k0:∀ t∈b.s0.kept,0<=t.sum
 k1:∀ t∈b.s1.kept,0<=t.sum
 p0:∀ p∈b.w0,0<=p.cD.sum
 p1:∀ p∈b.w1,0<=p.cD.sum
theorem fi.dL {b c:Bk} {e:Int} (h:fi b) (hc:e=0->fi c):fi (dL b c e).1:=by
 unfold Dev.dL;split
 ·exact hc (by assumption)
 ·exact h
theorem fi.late {b:Bk} (h:fi b):fi (iw b):=by
 have hok:=h.ok.late
 unfold iw at hok ⊢
 split
 ·rename_i h0
  rw [if_pos h0] at hok
  exact ⟨hok,h.up,sN _ _ _ _ _ h.iX h.iX,sM _ _ _ _ _ (fun a ha=>(h.ok.perm a ha).1) h.free,h.k0,h.k1,h.p0,h.p1⟩
 ·exact h
theorem fi.start {s:Setup} (h:(eJ s).err=0):fi (iR s):=
 ⟨cv.start h,rfl,fun a ha=>(by cases ha),fun c hc=>(by
  obtain ⟨p,_,rfl⟩:=List.mem_map.1 (show c∈s.dh.map qq from hc)
  exact Int.le_refl _),fun a ha=>(by cases ha),fun a ha=>(by cases ha),fun a ha=>(by cases ha),fun a ha=>(by cases ha)⟩
theorem Ap {c:bE} {n t:Int} (h:(dO c n t).2=0):0<=(dO c n t).1.bx - (dO c n t).1.held:=by
 rcases rT (show dO c n t=((dO c n t).1,(dO c n t).2) from rfl) with ⟨h5,_⟩|⟨h5,h6,h7,h8,h9,h10,h11,l,h12,h13⟩
 ·exact absurd h h5
 ·rw [h13];dsimp only;omega
theorem fi.asks {b:Bk} (h:fi b) (d:aW):fi (dN b d).1:=by
 have hok:=h.ok.asks d
 unfold dN at hok ⊢
 rw [h.up] at hok ⊢
 simp only [Bool.false_eq_true,if_false] at hok ⊢
 split
 ·exact h
 rename_i c1
 rw [if_neg c1] at hok
 split
 ·exact h
 rename_i c2
 rw [if_neg c2] at hok
 split
 ·exact h
 rename_i c3
 rw [if_neg c3] at hok
 obtain ⟨_,w2,_⟩:=py (show (di d.n d.aD d.sum b.time).2=0 by omega)
 split
 ·exact h
 rename_i c hc
 rw [hc] at hok
 dsimp only at hok
 split
 ·exact h
 rename_i c4
 rw [if_neg c4] at hok
 refine ⟨hok,rfl,fun a ha=>?_,fun z hz=>?_,h.k0,h.k1,h.p0,h.p1⟩
 ·rcases List.mem_append.1 ha with ha|ha
  ·exact h.iX a ha
  ·obtain rfl:=List.mem_singleton.1 ha;rw [w2]
 ·rcases gF hz with hz|rfl
  ·exact h.free z hz
  ·exact Ap (by omega)
theorem zJ {a b:bF} {k n:Int} (hw:bG a=0) (h1:1<=n) (hm:kG a k n b):(k=1->bB b - bB a=n)/\(k=2\/k=3->bB b - bB a<=0 - n)/\(k=4->bB b - bB a<=0)/\(k=6\/b.bq<=a.bq):=by
 have hr:=fc hw
 cases hm with
 |more h hs hn=>subst h;unfold bB;rw [hs];simp;omega
 |take h hs hn=>
  unfold bB;rw [hs];dsimp only
  refine ⟨fun h=>by omega,fun _=>?_,fun h=>by omega,.inr (Int.le_refl _)⟩
  split<;>simp at *<;>omega
 |less h hs hn=>
  subst h;unfold bB;rw [hs];dsimp only
  refine ⟨fun h=>by omega,fun h=>by omega,fun _=>?_,.inr (Int.le_refl _)⟩
  split<;>simp at *<;>omega
 |wu h hn=>subst h;exact ⟨fun h=>by omega,fun h=>by omega,fun h=>by omega,.inr (Int.le_refl _)⟩
 |ua h hn=>subst h;exact ⟨fun h=>by omega,fun h=>by omega,fun h=>by omega,.inl rfl⟩
 |tX h hn=>subst h;exact ⟨fun h=>by omega,fun h=>by omega,fun h=>by omega,.inr (by dsimp only;omega)⟩
 |tW h hn=>subst h;exact ⟨fun h=>by omega,fun h=>by omega,fun h=>by omega,.inr (by dsimp only;omega)⟩
theorem zI {a b:bF} {k n:Int} (hm:kG a k n b) (h1:1<=n) (hk:k=7\/k=8):1<=a.bq:=by
 cases hm<;>omega
theorem pc {s:bX} {e:Int} {t:aT} (h:∀ t∈s.kept,0<=t.sum) (ht:0<=t.sum):∀ u∈(eM s e t).1.kept,0<=u.sum:=by
 unfold eM
 split
 ·rename_i h0
  have he:=(gd h0).2
  unfold fL at he
  split at he
  ·rename_i h1;exact absurd he h1
  split at he
  ·rename_i h1;exact absurd he h1
  ·rename_i h1 h2
   have hp:(fL s t).1=mm s t:=by unfold fL;rw [if_neg h1,if_neg h2]
   dsimp only
   rw [hp]
   intro u hu
   rcases List.mem_append.1 hu with hu|hu
   ·exact h u hu
   ·obtain rfl:=List.mem_singleton.1 hu;exact ht
 ·exact h
theorem fi.mz {b:Bk} (h:fi b) (d:aW) (hd:¬d.move=6):fi (dx b d).1:=by
 have hok:=h.ok.mz d
 unfold dx at hok ⊢
 rw [h.up] at hok ⊢
 simp only [Bool.false_eq_true,if_false] at hok ⊢
 split
 ·exact h
 rename_i c1
 rw [if_neg c1] at hok
 split
 ·exact h
 rename_i cC ho
 rw [ho] at hok
 dsimp only at hok
 split
 ·exact h
 rename_i c2
 rw [if_neg c2] at hok
 split
 ·exact h
 rename_i c3
 rw [if_neg c3] at hok
 have hmv:bV cC d.move d.sum=((bV cC d.move d.sum).1,0):=Prod.ext rfl (by dsimp only;omega)
 generalize (bV cC d.move d.sum).1=a at *
 rcases rA hmv with ⟨h4,_⟩|⟨_,hw,hn1,hn2,hm⟩
 ·exact absurd rfl h4
 have hold:=h.iX cC (List.mem_of_getElem? ho)
 have hr:=fc hw
 obtain ⟨m1,m2,m3,m4⟩:=zJ hw hn1 hm
 have hcard:a.aO=cC.aO:=(qK hmv).2.1
 have hra:=fc (qK hmv).1
 unfold mT at hok ⊢
 have hcards:lh (dS b a cC d).1:=by
  unfold dS
  split
  ·rename_i hk
   rcases hk with hk|hk
   ·refine qE h.free fun c hc=>?_
    have hf:¬d.sum > lz b.aw a.aO:=fun hf=>c3 ⟨hk,hf⟩
    unfold lz at hf;rw [hc] at hf;dsimp only at hf
    have:=m1 hk;omega
   ·exact jJ h.free (m3 hk)
  split
  ·rename_i hk;exact jJ h.free (m2 hk)
  split
  ·exact h.free
  split
  ·exact h.free
  split
  ·rename_i hk;have:=zI hm hn1 (.inr hk);omega
  ·exact h.free
 unfold Dev.dL at hok ⊢
 split
 ·rename_i h0
  rw [if_pos h0] at hok
  have hks:(∀ t∈(dS b a cC d).2.2.2.1.kept,0<=t.sum)/\∀ t∈(dS b a cC d).2.2.2.2.1.kept,0<=t.sum:=by
   unfold dS
   split
   ·exact ⟨h.k0,h.k1⟩
   split
   ·exact ⟨pc h.k0 (by dsimp only;omega),h.k1⟩
   split
   ·exact ⟨h.k0,pc h.k1 (by dsimp only;omega)⟩
   split
   ·exact ⟨pc h.k0 (by dsimp only;omega),h.k1⟩
   split
   ·exact ⟨h.k0,h.k1⟩
   ·exact ⟨h.k0,h.k1⟩
  refine ⟨hok,h.up,fun x hx=>?_,hcards,hks.1,hks.2,h.p0,h.p1⟩
  rcases gF hx with hx|rfl
  ·exact h.iX x hx
  ·rcases m4 with h6|h6
   ·exact absurd h6 hd
   ·omega
 ·exact h
theorem sf {ax:List bF} {due:List Int} {aw:List bE} {book:List Entry} {e:Int} {t:aT} (h:lh aw) (ht:0<=t.sum):lh (ef ax due aw book e t).2.1:=by
 unfold ef
 split
 ·exact h
 split
 ·exact h
 split
 ·exact jJ h ht
 split
 ·exact h
 ·exact h
theorem fi.load {b:Bk} (h:fi b) (d:aW):fi (fT b d).1:=by
 have hok:=h.ok.load d
 unfold fT at hok ⊢
 split
 ·exact h
 rename_i c1
 rw [if_neg c1] at hok
 split
 ·exact h
 rename_i c2
 rw [if_neg c2] at hok
 unfold Dev.dL at hok ⊢
 split
 ·rename_i h0;rw [if_pos h0] at hok;exact ⟨hok,h.up,h.iX,jJ h.free (by omega),h.k0,h.k1,h.p0,h.p1⟩
 ·exact h
theorem fi.wy {b:Bk} (h:fi b) (d:aW):fi (iD b d).1:=by
 have hok:=h.ok.wy d
 unfold iD at hok ⊢
 split
 ·exact h
 rename_i c1
 rw [if_neg c1] at hok
 split
 ·exact h
 rename_i c2
 rw [if_neg c2] at hok
 unfold Dev.dL at hok ⊢
 split
 ·rename_i h0;rw [if_pos h0] at hok;exact ⟨hok,h.up,h.iX,h.free,h.k0,h.k1,h.p0,h.p1⟩
 ·exact h
theorem fi.cU {b:Bk} (h:fi b) (d:aW):fi (fF b d).1:=by
 unfold fF
 split
 ·exact h
 ·rw [h.up]
  simp only [Bool.false_eq_true,if_false]
  have h1:fi {b with time:=b.time+d.sum}:=⟨h.ok.tick (by have:=h.ok.time;omega) (by have:=h.ok.time;omega),h.up,h.iX,h.free,h.k0,h.k1,h.p0,h.p1⟩
  have h2:=h1.late
  rwa [show ({b with time:=b.time+d.sum}:Bk)={b with time:=b.time+d.sum,down:=false} by rw [<-h.up]] at h2
theorem uA {w:List cf} {ks:List aT} {n:Int} (h:∀ p∈w,0<=p.cD.sum) (hk:∀ t∈ks,0<=t.sum):∀ p∈(iI w ks n).1,0<=p.cD.sum:=by
 unfold iI
 split
 ·exact h
 ·intro p hp
  rcases uG hp with hp|⟨t,ht,rfl⟩|rfl
  ·exact h p hp
  ·exact hk t ht
  ·exact Int.le_refl _
theorem fi.send {b:Bk} (h:fi b) (d:aW):fi {b with w0:=(eL b.s0 b.s1 b.n0 b.n1 b.w0 b.w1 d).1,w1:=(eL b.s0 b.s1 b.n0 b.n1 b.w0 b.w1 d).2.1}:=by
 refine ⟨h.ok.send d,h.up,h.iX,h.free,h.k0,h.k1,?_,?_⟩
 ·dsimp only;unfold eL
  split
  ·exact h.p0
  split
  ·exact uA h.p0 h.k1
  ·exact h.p0
 ·dsimp only;unfold eL
  split
  ·exact uA h.p1 h.k0
  split
  ·exact h.p1
  ·exact h.p1
theorem vm {s:bX} {n:Int} (h:∀ t∈s.kept,0<=t.sum) (hb:(dT s n).2=0):∀ t∈(dT s n).1.kept,0<=t.sum:=by
 rcases qt (show dT s n=((dT s n).1,(dT s n).2) from rfl) with ⟨h1,_⟩|⟨_,_,_,_,h2⟩
 ·exact absurd hb h1
 ·rw [h2];exact fun t ht=>h t (uQ ht)
theorem fi.mB {b:Bk} (h:fi b) (d:aW):fi (bZ b d).1:=by
 have hok:=h.ok.mB d
 unfold bZ at hok ⊢
 split
 ·rename_i c0
  rw [if_pos c0] at hok
  unfold ft at hok ⊢
  split
  ·exact h
  rename_i p hp
  rw [hp] at hok
  dsimp only at hok
  have hps:=h.p0 p (List.mem_of_getElem? hp)
  have hd:∀ p∈b.w0.drop 1,0<=p.cD.sum:=fun p hp=>h.p0 p (List.mem_of_mem_drop hp)
  split
  ·rename_i c1;rw [if_pos c1] at hok;exact ⟨hok,h.up,h.iX,h.free,h.k0,h.k1,hd,h.p1⟩
  rename_i c1
  rw [if_neg c1] at hok
  split
  ·rename_i c2
   rw [if_pos c2] at hok
   split
   ·rename_i c3;rw [if_pos c3] at hok;exact ⟨hok,h.up,h.iX,h.free,vm h.k0 c3,h.k1,hd,h.p1⟩
   ·exact h
  rename_i c2
  rw [if_neg c2] at hok
  split
  ·rename_i c3
   rw [if_pos c3] at hok
   unfold Dev.dL at hok ⊢
   split
   ·rename_i c4;rw [if_pos c4] at hok;exact ⟨hok,h.up,h.iX,sf h.free hps,h.k0,h.k1,hd,h.p1⟩
   ·exact h
  ·rename_i c3;rw [if_neg c3] at hok;exact ⟨hok,h.up,h.iX,h.free,h.k0,h.k1,hd,h.p1⟩
 rename_i c0
 rw [if_neg c0] at hok
 split
 ·rename_i c01
  rw [if_pos c01] at hok
  unfold fr at hok ⊢
  split
  ·exact h
  rename_i p hp
  rw [hp] at hok
  dsimp only at hok
  have hps:=h.p1 p (List.mem_of_getElem? hp)
  have hd:∀ p∈b.w1.drop 1,0<=p.cD.sum:=fun p hp=>h.p1 p (List.mem_of_mem_drop hp)
  split
  ·rename_i c1;rw [if_pos c1] at hok;exact ⟨hok,h.up,h.iX,h.free,h.k0,h.k1,h.p0,hd⟩
  rename_i c1
  rw [if_neg c1] at hok
  split
  ·rename_i c2
   rw [if_pos c2] at hok
   split
   ·rename_i c3;rw [if_pos c3] at hok;exact ⟨hok,h.up,h.iX,h.free,h.k0,vm h.k1 c3,h.p0,hd⟩
   ·exact h
  rename_i c2
  rw [if_neg c2] at hok
  split
  ·rename_i c3
   rw [if_pos c3] at hok
   unfold Dev.dL at hok ⊢
   split
   ·rename_i c4;rw [if_pos c4] at hok;exact ⟨hok,h.up,h.iX,sf h.free hps,h.k0,h.k1,h.p0,hd⟩
   ·exact h
  ·rename_i c3;rw [if_neg c3] at hok;exact ⟨hok,h.up,h.iX,h.free,h.k0,h.k1,h.p0,hd⟩
 ·exact h
theorem fi.DL {b:Bk} (h:fi b) (y:List (List Int)) (d:aW) (h8:¬d.kind=8) (h6:¬(d.kind=3/\d.move=6)):fi (df b y d).1:=by
 unfold df
 split
 ·exact h.load d
 split
 ·exact h.asks d
 split
 ·rename_i h3;exact h.mz d fun e=>h6 ⟨h3,e⟩
 split
 ·exact h.cU d
 split
 ·exact h.send d
 split
 ·exact h.mB d
 split
 ·have:(jI b).1=b:=by unfold jI;rw [if_pos h.up]
  rw [this];exact h
 split
 ·exact ⟨h.ok.rq (mN (y:=y) h.ok.aR).1,h.up,h.iX,h.free,h.k0,h.k1,h.p0,h.p1⟩
 split
 ·exact h.wy d
 ·exact h
section
def eE (k:Int):List bF->Int
 |[]=>0
 |a::l=>(if a.aO=k then bB a else 0)+eE k l
theorem sP (k:Int) (u v:List bF):eE k (u++v)=eE k u+eE k v:=by
 induction u with
 |nil=>simp [eE]
 |cons a u ih=>simp only [List.cons_append,eE,ih];omega
theorem om (k:Int) (b:bF):∀ {l:List bF} {i:Nat} {a:bF},l[i]?=some a->eE k (l.set i b)=eE k l - (if a.aO=k then bB a else 0)+(if b.aO=k then bB b else 0)
 |x::l,0,a,h=>by
  have:x=a:=by simpa using h
  subst this
  simp only [List.set_cons_zero,eE];omega
 |x::l,i+1,a,h=>by
  have h:l[i]?=some a:=by simpa using h
  simp only [List.set_cons_succ,eE,om k b h];omega
def hZ (aw:List bE) (ax:List bF):Prop:=∀ (k:Nat) (c:bE),aw[k]?=some c->c.held=eE k ax
theorem qD {l:List bE} {e k h m:Int} (hz:(cG l e k h m).2=0):e=0/\((l[k.toNat]?=none/\(cG l e k h m).1=l)\/∃ c,l[k.toNat]?=some c/\(cG l e k h m).1=l.set k.toNat ⟨c.bx+m,c.held+h,c.ch,c.cO⟩):=by
 unfold cG at hz ⊢
 cases hc:l[k.toNat]? with
 |none=>rw [hc] at hz;exact ⟨hz,.inl ⟨rfl,rfl⟩⟩
 |some c=>
  rw [hc] at hz
  dsimp only at hz ⊢
  split at hz
  ·rename_i h0
   obtain ⟨h1,h2⟩:=gd h0
   rcases rp (show ec c h m=((ec c h m).1,(ec c h m).2) from rfl) with ⟨h3,_⟩|h3
   ·exact absurd h2 h3
   ·rw [if_pos h0]
    exact ⟨h1,.inr ⟨c,rfl,by dsimp only;rw [h3.2.2.2.2.2.2.1]⟩⟩
  ·rename_i h0;exact absurd hz h0
theorem hZ.shift {aw:List bE} {ax auths':List bF} {e k h m:Int} (hh:hZ aw ax) (hz:(cG aw e k h m).2=0) (ha:∀ j:Nat,eE j auths'=eE j ax+if j=k.toNat then h else 0):hZ (cG aw e k h m).1 auths':=by
 obtain ⟨_,hz⟩:=qD hz
 intro j c hc
 rcases hz with ⟨h1,h2⟩|⟨c0,h1,h2⟩
 ·rw [h2] at hc
  have:j≠k.toNat:=fun e=>by subst e;rw [h1] at hc;cases hc
  rw [hh j c hc,ha j,if_neg this];omega
 ·rw [h2,List.getElem?_set] at hc
  split at hc
  ·rename_i e
   split at hc
   ·injection hc with hc;subst hc
    have:=hh _ c0 h1
    rw [ha j,if_pos e.symm,<-e];dsimp only;omega
   ·cases hc
  ·rename_i e
   rw [hh j c hc,ha j,if_neg (Ne.symm e)];omega
theorem hZ.same {aw:List bE} {ax:List bF} {e k m:Int} (hh:hZ aw ax) (hz:(cG aw e k 0 m).2=0):hZ (cG aw e k 0 m).1 ax:=hh.shift hz fun j=>by split<;>omega
theorem nT {s:bX} {e:Int} {t:aT} (h:(eM s e t).2=0):e=0/\(fL s t).2=0/\(eM s e t).1=(fL s t).1:=by
 unfold eM at h ⊢
 split at h
 ·rename_i h0;obtain ⟨h1,h2⟩:=gd h0;rw [if_pos h0];exact ⟨h1,h2,rfl⟩
 ·rename_i h0;exact absurd h h0
theorem wx {s:bX} {t:aT} (h:(fL s t).2=0):(ct s).err=0/\(ct (mm s t)).err=0/\(fL s t).1=mm s t:=by
 unfold fL at h ⊢
 split at h
 ·rename_i h1;exact absurd h h1
 split at h
 ·rename_i h1;exact absurd h h1
 ·rename_i h1 h2;rw [if_neg h1,if_neg h2];exact ⟨by omega,by omega,rfl⟩
theorem ze {s:bX} {n:Int} (h:(dT s n).2=0):(ct s).err=0/\0<=n/\n<=s.bL/\(dT s n).1=⟨s.bL,dC (came n) s.kept⟩/\(ct (dT s n).1).err=0:=by
 rcases qt (show dT s n=((dT s n).1,(dT s n).2) from rfl) with ⟨h1,_⟩|⟨_,h1,h2,h3,h4⟩
 ·exact absurd h h1
 ·exact ⟨h1,h2,h3,h4,by rw [h4];exact Am h1 h2 h3⟩
structure ek (b:Bk):Prop where
 ok:cv b
 held:hZ b.aw b.ax
 s0:(ct b.s0).err=0
 s1:(ct b.s1).err=0
 st:cb b.bP=0
 used:b.bP.used.length=b.aw.length
 aR:∀ x∈b.aR,nA x
theorem sK {time:Int}:∀ (l:List bF) (i:Nat) (aw:List bE) (ax:List bF) (e:Int),(gb time l i aw ax e).2.2=0->e=0
 |[],_,_,_,_,h=>h
 |a::l,i,aw,ax,e,h=>(qD (sK l _ _ _ _ h)).1
theorem sL {time:Int}:∀ (l:List bF) (i:Nat) (aw:List bE) (ax:List bF) (e:Int),(gb time l i aw ax e).2.2=0->ax.drop i=l->(∀ a∈l,0<=a.aO)->hZ aw ax->hZ (gb time l i aw ax e).1 (gb time l i aw ax e).2.1
 |[],_,_,_,_,_,_,_,h=>h
 |a::l,i,aw,ax,e,hz,hd,hp,h=>by
  have hat:ax[i]?=some a:=by
   have:(ax.drop i)[0]?=some a:=by rw [hd];rfl
   rwa [List.getElem?_drop,Nat.add_zero] at this
  have hilt:=(List.getElem?_eq_some_iff.1 hat).1
  refine sL l (i+1) _ _ _ hz ?_ (fun x hx=>hp x (List.mem_cons_of_mem _ hx)) (h.shift (sK l _ _ _ _ hz) fun j=>?_)
  ·rw [List.drop_set_of_lt (by omega)]
   have:ax.drop (i+1)=(ax.drop i).drop 1:=by rw [List.drop_drop]
   rw [this,hd];rfl
  ·have hc:=hp a List.mem_cons_self
   rw [om _ _ hat]
   have:(ew a time).aO=a.aO:=rfl
   rw [this]
   by_cases e:a.aO=(j:Int)
   ·rw [if_pos e,if_pos e,if_pos (by omega)];omega
   ·rw [if_neg e,if_neg e,if_neg (by omega)];omega
theorem Bu {time:Int} (l:List bF) (i:Nat) (aw:List bE) (ax:List bF) (e:Int):(gb time l i aw ax e).1.length=aw.length:=by
 induction l generalizing i aw ax e with
 |nil=>rfl
 |cons a l ih=>exact (ih (i+1) _ _ _).trans (fy _ _ _ _ _)
theorem ek.late {b:Bk} (h:ek b):ek (iw b):=by
 have hok:=h.ok.late
 unfold iw at hok ⊢
 split
 ·rename_i h0
  rw [if_pos h0] at hok
  exact ⟨hok,sL _ _ _ _ _ h0 rfl (fun a ha=>(h.ok.perm a ha).2.1) h.held,h.s0,h.s1,h.st,by dsimp only;rw [Bu];exact h.used,h.aR⟩
 ·exact h
theorem ek.start {s:Setup} (h:(eJ s).err=0):ek (iR s):=by
 obtain ⟨h1,h2,h3,h4,h5,h6⟩:=lB h
 have hn:dH s.cap s.dh.length=({cap:=s.cap,used:=List.replicate s.dh.length 0,bg:=[]},0):=qN h1 ⟨h4,h5⟩
 refine ⟨cv.start h,fun k c hc=>?_,rfl,rfl,?_,?_,fun x hx=>by cases hx⟩
 ·have hc:(s.dh.map qq)[k]?=some c:=hc
  rw [List.getElem?_map] at hc
  cases hp:s.dh[k]? with
  |none=>rw [hp] at hc;cases hc
  |some p=>rw [hp] at hc;injection hc with hc;subst hc;rfl
 ·show cb (dH s.cap s.dh.length).1=0
  rw [hn];exact uK _ _ h1 h4 h5
 ·show (dH s.cap s.dh.length).1.used.length=(s.dh.map qq).length
  rw [hn];simp
theorem ek.load {b:Bk} (h:ek b) (d:aW):ek (fT b d).1:=by
 have hok:=h.ok.load d
 unfold fT at hok ⊢
 split
 ·exact h
 rename_i c1
 rw [if_neg c1] at hok
 split
 ·exact h
 rename_i c2
 rw [if_neg c2] at hok
 unfold Dev.dL at hok ⊢
 split
 ·rename_i h0
  rw [if_pos h0] at hok
  exact ⟨hok,h.held.same (ku h0).1,h.s0,h.s1,h.st,by dsimp only;rw [fy];exact h.used,h.aR⟩
 ·exact h
theorem ek.wy {b:Bk} (h:ek b) (d:aW):ek (iD b d).1:=by
 have hok:=h.ok.wy d
 unfold iD at hok ⊢
 split
 ·exact h
 rename_i c1
 rw [if_neg c1] at hok
 split
 ·exact h
 rename_i c2
 rw [if_neg c2] at hok
 unfold Dev.dL at hok ⊢
 split
 ·rename_i h0;rw [if_pos h0] at hok;exact ⟨hok,h.held,h.s0,h.s1,h.st,h.used,h.aR⟩
 ·exact h
theorem ek.cU {b:Bk} (h:ek b) (d:aW):ek (fF b d).1:=by
 unfold fF
 split
 ·exact h
 ·have h1:ek {b with time:=b.time+d.sum}:=⟨h.ok.tick (by have:=h.ok.time;omega) (by have:=h.ok.time;omega),h.held,h.s0,h.s1,h.st,h.used,h.aR⟩
  dsimp only
  split
  ·exact h1
  ·exact h1.late
theorem ek.send {b:Bk} (h:ek b) (d:aW):ek {b with w0:=(eL b.s0 b.s1 b.n0 b.n1 b.w0 b.w1 d).1,w1:=(eL b.s0 b.s1 b.n0 b.n1 b.w0 b.w1 d).2.1}:=
 ⟨h.ok.send d,h.held,h.s0,h.s1,h.st,h.used,h.aR⟩
theorem se {ax:List bF} {due:List Int} {aw:List bE} {book:List Entry} {e:Int} {t:aT} (h:hZ aw ax) (hz:(ef ax due aw book e t).2.2.2=0):hZ (ef ax due aw book e t).2.1 ax/\(ef ax due aw book e t).2.1.length=aw.length:=by
 unfold ef at hz ⊢
 split
 ·exact ⟨h,rfl⟩
 rename_i a ha
 rw [ha] at hz
 dsimp only at hz
 split
 ·exact ⟨h,rfl⟩
 rename_i c1
 rw [if_neg c1] at hz
 split
 ·rename_i c2;rw [if_pos c2] at hz;exact ⟨h.same (ku hz).1,fy _ _ _ _ _⟩
 split
 ·exact ⟨h,rfl⟩
 ·exact ⟨h,rfl⟩
theorem ek.mB {b:Bk} (h:ek b) (d:aW):ek (bZ b d).1:=by
 have hok:=h.ok.mB d
 unfold bZ at hok ⊢
 split
 ·rename_i c0
  rw [if_pos c0] at hok
  unfold ft at hok ⊢
  split
  ·exact h
  rename_i p hp
  rw [hp] at hok
  dsimp only at hok
  split
  ·rename_i c1;rw [if_pos c1] at hok;exact ⟨hok,h.held,h.s0,h.s1,h.st,h.used,h.aR⟩
  rename_i c1
  rw [if_neg c1] at hok
  split
  ·rename_i c2
   rw [if_pos c2] at hok
   split
   ·rename_i c3;rw [if_pos c3] at hok;exact ⟨hok,h.held,(ze c3).2.2.2.2,h.s1,h.st,h.used,h.aR⟩
   ·exact h
  rename_i c2
  rw [if_neg c2] at hok
  split
  ·rename_i c3
   rw [if_pos c3] at hok
   unfold Dev.dL at hok ⊢
   split
   ·rename_i c4;rw [if_pos c4] at hok;obtain ⟨r1,r2⟩:=se h.held c4;exact ⟨hok,r1,h.s0,h.s1,h.st,h.used.trans r2.symm,h.aR⟩
   ·exact h
  ·rename_i c3;rw [if_neg c3] at hok;exact ⟨hok,h.held,h.s0,h.s1,h.st,h.used,h.aR⟩
 rename_i c0
 rw [if_neg c0] at hok
 split
 ·rename_i c01
  rw [if_pos c01] at hok
  unfold fr at hok ⊢
  split
  ·exact h
  rename_i p hp
  rw [hp] at hok
  dsimp only at hok
  split
  ·rename_i c1;rw [if_pos c1] at hok;exact ⟨hok,h.held,h.s0,h.s1,h.st,h.used,h.aR⟩
  rename_i c1
  rw [if_neg c1] at hok
  split
  ·rename_i c2
   rw [if_pos c2] at hok
   split
   ·rename_i c3;rw [if_pos c3] at hok;exact ⟨hok,h.held,h.s0,(ze c3).2.2.2.2,h.st,h.used,h.aR⟩
   ·exact h
  rename_i c2
  rw [if_neg c2] at hok
  split
  ·rename_i c3
   rw [if_pos c3] at hok
   unfold Dev.dL at hok ⊢
   split
   ·rename_i c4;rw [if_pos c4] at hok;obtain ⟨r1,r2⟩:=se h.held c4;exact ⟨hok,r1,h.s0,h.s1,h.st,h.used.trans r2.symm,h.aR⟩
   ·exact h
  ·rename_i c3;rw [if_neg c3] at hok;exact ⟨hok,h.held,h.s0,h.s1,h.st,h.used,h.aR⟩
 ·exact h
theorem BH {s:cF} {a:cm} (h:(cu s a).2=0):(cu s a).1.used.length=s.used.length:=by
 unfold cu at h ⊢
 split at h
 ·rename_i h1;exact absurd h h1
 split at h
 ·cases h
 split at h
 ·cases h
 split at h
 ·cases h
 ·rename_i h1 h2 h3 h4;rw [if_neg h1,if_neg h2,if_neg h3,if_neg h4];exact List.length_set ..
theorem hZ.new {aw:List bE} {ax:List bF} {k:Int} {c c':bE} {a:bF} (hh:hZ aw ax) (hk:0<=k) (hc:aw[k.toNat]?=some c) (ha:a.aO=k) (h':c'.held=c.held+bB a):hZ (aw.set k.toNat c') (ax++[a]):=by
 intro j z hz
 rw [sP]
 have h1:eE j [a]=if a.aO=j then bB a else 0:=by simp [eE]
 rw [h1]
 rw [List.getElem?_set] at hz
 split at hz
 ·rename_i e
  split at hz
  ·injection hz with hz;subst hz
   have:=hh _ c hc
   rw [if_pos (by omega),<-e];omega
  ·cases hz
 ·rename_i e
  rw [hh j z hz,if_neg (by omega)];omega
theorem ek.asks {b:Bk} (h:ek b) (d:aW):ek (dN b d).1:=by
 have hok:=h.ok.asks d
 unfold dN at hok ⊢
 split
 ·exact h
 rename_i c0
 rw [if_neg c0] at hok
 split
 ·rename_i cd
  rw [if_pos cd] at hok
  split
  ·exact h
  rename_i c1
  rw [if_neg c1] at hok
  split
  ·exact h
  rename_i c2
  rw [if_neg c2] at hok
  have he:=sU (show gZ (cu b.bP ⟨d.n,d.aD,d.sum,b.time⟩).2=0 by omega)
  exact ⟨hok,h.held,h.s0,h.s1,(zP h.st he).1,(BH he).trans h.used,h.aR⟩
 rename_i cd
 rw [if_neg cd] at hok
 split
 ·exact h
 rename_i c2
 rw [if_neg c2] at hok
 split
 ·exact h
 rename_i c3
 rw [if_neg c3] at hok
 obtain ⟨_,w2,_⟩:=py (show (di d.n d.aD d.sum b.time).2=0 by omega)
 split
 ·exact h
 rename_i c hc
 rw [hc] at hok
 dsimp only at hok
 split
 ·exact h
 rename_i c4
 rw [if_neg c4] at hok
 refine ⟨hok,h.held.new (by omega) hc (by rw [w2]) ?_,h.s0,h.s1,h.st,by dsimp only;rw [List.length_set];exact h.used,h.aR⟩
 rcases rT (show dO c d.sum b.time=((dO c d.sum b.time).1,(dO c d.sum b.time).2) from rfl) with ⟨h5,_⟩|⟨h5,h6,h7,h8,h9,h10,h11,l,h12,h13⟩
 ·omega
 ·rw [h13,w2];simp [bB]
theorem vO:∀ (l:List cm) (cs:List bE) (xs:List bF),(gJ l cs xs).2.2=0->hZ cs xs->(∀ a∈l,0<=a.aO/\a.aO < cs.length)->hZ (gJ l cs xs).1 (gJ l cs xs).2.1/\(gJ l cs xs).1.length=cs.length
 |[],cs,xs,_,h,_=>⟨h,rfl⟩
 |x::l,cs,xs,hz,h,hl=>by
  unfold gJ at hz ⊢
  split at hz
  ·rename_i h1;exact absurd hz h1
  rename_i h1
  rw [if_neg h1]
  have hx:=hl x List.mem_cons_self
  cases hc:cs[x.aO.toNat]? with
  |none=>have:=List.getElem?_eq_none_iff.1 hc;omega
  |some c=>
   rw [hc] at hz
   dsimp only at hz ⊢
   split at hz
   ·rename_i h2;exact absurd hz h2
   rename_i h2
   rw [if_neg h2]
   obtain ⟨_,w2,_⟩:=py (show (di x.aO x.aD x.sum x.time).2=0 by omega)
   obtain ⟨_,f2,_⟩:=pK (show (fe c x.sum).2=0 by omega)
   have:=vO l _ _ hz (h.new hx.1 hc (by rw [w2]) (by rw [f2,w2];simp [bB])) (fun a ha=>by rw [List.length_set];exact hl a (List.mem_cons_of_mem _ ha))
   rw [List.length_set] at this
   exact this
theorem ek.FH {b:Bk} (h:ek b):ek (jI b).1:=by
 unfold jI
 split
 ·exact h
 split
 ·exact h
 split
 ·exact h
 rename_i c1 c2 c3
 have h0:(da b.bP).2.2=0:=by omega
 obtain ⟨r1,r2,r3⟩:=rP h0
 have hu:=h.ok.CB h0
 have hz:(gJ (da b.bP).2.1 b.aw b.ax).2.2=0:=by omega
 obtain ⟨u1,u2⟩:=vO _ _ _ hz h.held (fun a ha=>by rw [r3] at ha;have:=h.ok.kg a ha;omega)
 have hp:=ig h.st
 refine ek.late ⟨hu,u1,h.s0,h.s1,?_,?_,h.aR⟩
 ·dsimp only;rw [r2]
  have hc:0<=b.bP.cap/\b.bP.cap<=1000000:=by simpa [gG] using hp.2.2.1
  exact uK _ _ hp.1 hc.1 hc.2
 ·dsimp only;rw [r2,u2];simp [h.used]
theorem ek.mz {b:Bk} (h:ek b) (d:aW):ek (dx b d).1:=by
 have hok:=h.ok.mz d
 unfold dx at hok ⊢
 split
 ·exact h
 rename_i cd
 rw [if_neg cd] at hok
 split
 ·exact h
 rename_i c1
 rw [if_neg c1] at hok
 split
 ·exact h
 rename_i cC ho
 rw [ho] at hok
 dsimp only at hok
 split
 ·exact h
 rename_i c2
 rw [if_neg c2] at hok
 split
 ·exact h
 rename_i c3
 rw [if_neg c3] at hok
 have hmv:bV cC d.move d.sum=((bV cC d.move d.sum).1,0):=Prod.ext rfl (by dsimp only;omega)
 generalize (bV cC d.move d.sum).1=a at *
 obtain ⟨_,hwa,hcard,hshop,hk1,hk2,hn1,hn2⟩:=nm hmv
 rcases rA hmv with ⟨h4,_⟩|⟨_,hw,_,_,hm⟩
 ·exact absurd rfl h4
 have hp:=h.ok.perm cC (List.mem_of_getElem? ho)
 have hra:=fc hwa
 have hset:∀ j:Nat,eE j (b.ax.set d.n.toNat a)=eE j b.ax+if j=a.aO.toNat then bB a - bB cC else 0:=fun j=>by
  rw [om _ _ ho,hcard]
  by_cases e:cC.aO=(j:Int)
  ·rw [if_pos e,if_pos e,if_pos (by omega)];omega
  ·rw [if_neg e,if_neg e,if_neg (by omega)];omega
 have hsame:bB a=bB cC->∀ j:Nat,eE j (b.ax.set d.n.toNat a)=eE j b.ax:=fun e j=>by rw [hset j];split<;>omega
 have hh:d.move=5\/d.move=6\/d.move=7\/d.move=8->bB a=bB cC:=fun e=>by
  cases hm with
  |wu _ _=>rfl
  |ua _ _=>rfl
  |tX _ _=>rfl
  |tW _ _=>rfl
  |more h _ _=>omega
  |take h _ _=>omega
  |less h _ _=>omega
 unfold mT Dev.dL at hok ⊢
 split
 rotate_left
 ·exact h
 rename_i h0
 rw [if_pos h0] at hok
 obtain ⟨e0,hl0,hnote⟩:=zD h0
 have key:hZ (dS b a cC d).1 (b.ax.set d.n.toNat a)/\(ct (dS b a cC d).2.2.2.1).err=0/\(ct (dS b a cC d).2.2.2.2.1).err=0/\(dS b a cC d).1.length=b.aw.length:=by
  unfold dS at e0 ⊢
  split at e0
  ·rename_i hk;rw [if_pos hk];exact ⟨h.held.shift e0 hset,h.s0,h.s1,fy _ _ _ _ _⟩
  rename_i k1
  rw [if_neg k1]
  split at e0
  ·rename_i hk;rw [if_pos hk]
   obtain ⟨e1,e2,e3⟩:=nT e0
   obtain ⟨_,p2,p3⟩:=wx e2
   exact ⟨h.held.shift (ku e1).1 hset,by dsimp only;rw [e3,p3];exact p2,h.s1,fy _ _ _ _ _⟩
  rename_i k2
  rw [if_neg k2]
  split at e0
  ·rename_i hk;rw [if_pos hk]
   obtain ⟨e1,e2,e3⟩:=nT e0
   obtain ⟨_,p2,p3⟩:=wx e2
   exact ⟨fun j c hc=>by rw [hsame (hh (.inl hk)) j];exact h.held j c hc,h.s0,by dsimp only;rw [e3,p3];exact p2,rfl⟩
  rename_i k3
  rw [if_neg k3]
  split at e0
  ·rename_i hk;rw [if_pos hk]
   exact ⟨h.held.shift (ku e0).1 fun j=>by rw [hsame (hh (.inr (.inl hk))) j];split<;>omega,h.s0,h.s1,fy _ _ _ _ _⟩
  rename_i k4
  rw [if_neg k4]
  split at e0
  ·rename_i hk;rw [if_pos hk]
   obtain ⟨e1,e2,e3⟩:=nT e0
   obtain ⟨_,p2,p3⟩:=wx e2
   exact ⟨fun j c hc=>by rw [hsame (hh (.inr (.inr (.inl hk)))) j];exact h.held j c hc,by dsimp only;rw [e3,p3];exact p2,h.s1,rfl⟩
  rename_i k5
  rw [if_neg k5]
  split at e0
  ·rename_i hk;rw [if_pos hk]
   exact ⟨h.held.shift (ku e0).1 fun j=>by rw [hsame (hh (.inr (.inr (.inr hk)))) j];split<;>omega,h.s0,h.s1,fy _ _ _ _ _⟩
  ·omega
 refine ⟨hok,key.1,key.2.1,key.2.2.1,h.st,h.used.trans key.2.2.2.symm,fun x hx=>?_⟩
 dsimp only at hx
 rw [hnote] at hx
 rcases List.mem_append.1 hx with hx|hx
 ·exact h.aR x hx
 ·obtain rfl:=List.mem_singleton.1 hx
  have hlen:=h.ok.ax
  constructor
  ·unfold lJ;dsimp only;omega
  ·unfold mA;dsimp only;omega
theorem ek.DL {b:Bk} (h:ek b) (y:List (List Int)) (d:aW):ek (df b y d).1:=by
 unfold df
 split
 ·exact h.load d
 split
 ·exact h.asks d
 split
 ·exact h.mz d
 split
 ·exact h.cU d
 split
 ·exact h.send d
 split
 ·exact h.mB d
 split
 ·split
  ·exact h
  ·exact ⟨⟨h.ok.time,h.ok.aw,h.ok.due,h.ok.ax,h.ok.aR,h.ok.w0,h.ok.w1,h.ok.perm,h.ok.kg,h.ok.k0,h.ok.k1,h.ok.right,h.ok.l0,h.ok.l1,h.ok.p0,h.ok.p1,h.ok.n0,h.ok.n1,fun h=>by cases h⟩,h.held,h.s0,h.s1,h.st,h.used,h.aR⟩
 split
 ·exact h.FH
 split
 ·refine ⟨h.ok.rq (mN (y:=y) h.ok.aR).1,h.held,h.s0,h.s1,h.st,h.used,?_⟩
  unfold iM
  split
  ·exact h.aR
  ·exact fun x hx=>by cases hx
 split
 ·exact h.wy d
 ·exact h
end
section
structure HL (n:Nat) (ax:List bF) (hl:List Int):Prop where
 len:hl.length=n
 at_:∀ k:Nat,k < n->hl[k]?=some (eE k ax)
theorem HL.start (n:Nat):HL n [] (List.replicate n 0):=⟨List.length_replicate,fun k hk=>by rw [List.getElem?_replicate,if_pos hk];rfl⟩
theorem HL.step {n:Nat} {u:List bF} {hl:List Int} {a:bF} {x v:Int} (h:HL n u hl) (ha:0<=a.aO/\a.aO < n) (hx:hl[a.aO.toNat]?=some x) (hv:v=x+bB a):HL n (u++[a]) (hl.set a.aO.toNat v):=by
 refine ⟨(List.length_set ..).trans h.len,fun k hk=>?_⟩
 rw [sP]
 have h1:eE k [a]=if a.aO=k then bB a else 0:=by simp [eE]
 rw [h1,List.getElem?_set]
 have h2:=h.at_ k hk
 split
 ·rename_i e
  rw [e] at hx
  rw [hx] at h2
  injection h2 with h2
  rw [if_pos (by rw [h.len];omega),if_pos (by omega),hv,h2]
 ·rename_i e
  rw [if_neg (by omega),h2];simp
theorem wR (k:Int):∀ {l:List bF},(∀ a∈l,bG a=0)->0<=eE k l/\eE k l<=1000000 * l.length
 |[],_=>by simp [eE]
 |a::l,h=>by
  have:=wR k (l:=l) fun x hx=>h x (List.mem_cons_of_mem _ hx)
  have h2:=pG (h a List.mem_cons_self)
  simp only [eE,List.length_cons]
  split<;>omega
theorem HL.b {n:Nat} {u:List bF} {hl:List Int} {k:Nat} {x:Int} (h:HL n u hl) (hx:hl[k]?=some x) (hu:∀ a∈u,bG a=0) (hl':u.length<=30):0<=x/\x<=30000000:=by
 have hk:=(List.getElem?_eq_some_iff.1 hx).1
 have h2:=h.at_ k (by rw [<-h.len];exact hk)
 rw [hx] at h2;injection h2 with h2
 have:=wR k hu
 omega
end
def fv:List aW->Bk->List (List Int)->List Answer->Bk×List (List Int)×List Answer
 |[],b,y,out=>(b,y,out)
 |d::l,b,y,out=>fv l (df b y d).1 (df b y d).2.1 (out++[(df b y d).2.2])
theorem sH:∀ {l:List aW},(∀ d∈l,d.id=0)->∀ (b:Bk) (y:List (List Int)) (told:List (Int×Answer)) (cl:Nat) (out:List Answer),ld l b y told cl out=fv l b y out
 |[],_,_,_,_,_,_=>rfl
 |d::l,h,b,y,told,cl,out=>by
  have h0:fZ b y told cl d=((df b y d).1,(df b y d).2.1,oV told d.id (df b y d).2.2,if (jj told d.id).isSome then cl else cl+1,(df b y d).2.2):=by
   unfold fZ;rw [if_neg (fun h'=>h'.2 (h d (by simp)))]
  unfold ld fv
  rw [h0]
  exact sH (fun x hx=>h x (by simp [hx])) _ _ _ _ _
theorem eo {d:aW} {l:List aW} {b b':Bk} {y y':List (List Int)} {out:List Answer} {a:Answer} (h:df b y d=(b',y',a)):fv (d::l) b y out=fv l b' y' (out++[a]):=by
 rw [fv,h]
def iA (limit:Int):Bk:=⟨0,false,[⟨0,0,⟨1000,30,1000000000000⟩,[]⟩,⟨0,0,⟨1000,30,1000000000000⟩,[]⟩],[0,0],[],⟨0,[]⟩,⟨0,[]⟩,0,0,[],[],⟨limit,[0,0],[]⟩,[],[]⟩
theorem Fu {n:Int} (h0:0<=n) (h1:n<=1000000):gG n=true:=by
 exact decide_eq_true ⟨h0,h1⟩
theorem Hz {limit:Int} {l:List aW} (h0:0<=limit) (h1:limit<=1000000) (hl:l.length<=150) (hz:∀ d∈l,d.id=0):
  iL ⟨[⟨1000,30,1000000000000⟩,⟨1000,30,1000000000000⟩],2,limit⟩ l=((fv l (iA limit) [] []).1,(fv l (iA limit) [] []).2.1,(fv l (iA limit) [] []).2.2,⟨0,0⟩):=by
 have hw:eJ ⟨[⟨1000,30,1000000000000⟩,⟨1000,30,1000000000000⟩],2,limit⟩=⟨0,0⟩:=by
  unfold eJ
  rw [if_neg (by simp),if_neg (by dsimp only;omega)]
  rfl
 have hs:iR ⟨[⟨1000,30,1000000000000⟩,⟨1000,30,1000000000000⟩],2,limit⟩=iA limit:=by
  unfold iR iA dH
  rw [if_neg (by simp),if_neg (fun h=>h (Fu h0 h1))]
  rfl
 unfold iL
 rw [hw,if_neg (by simp),if_neg (by omega),hs,sH hz]
theorem mo {l:List Entry} {src dst n:Int} (hw:(du l).err=0) (hs:0<=src/\src<=57) (hd:0<=dst/\dst<=57) (hne:src≠dst) (hn:0<=n/\n<=1000000000000)
  (h1:-1000000000000<=cE l src - n) (h2:cE l dst+n<=1000000000000):
  ∃ r,dY l 0 src dst n=(r,0)/\(du r).err=0/\∀ x,cE r x=cE l x+(if x=dst then n else 0) - (if x=src then n else 0):=by
 have hR:=(lR.1 hw).1
 have hbd:∀ a,-1000000000000<=cE l a/\cE l a<=1000000000000:=fun a=>zQ fun x hx=>by
  have:=hR.ok x hx;omega
 have b1:=hbd src;have b2:=hbd dst
 have hp:∃ r,fw l [⟨src,0 - n⟩,⟨dst,n⟩]=some r:=by
  refine ⟨ic (ic l src (cE l src+(0 - n))) dst (cE l dst+n),?_⟩
  unfold fw
  rw [if_pos (mQ.2 ⟨by dsimp only;omega,by dsimp only;omega⟩)]
  unfold fw
  dsimp only
  rw [rE hR.up,if_neg hne,if_pos (mQ.2 ⟨by omega,by omega⟩)]
  rfl
 obtain ⟨r,hr⟩:=hp
 have hpo:gE l [⟨src,0 - n⟩,⟨dst,n⟩]=(r,0):=by
  rw [rz hw (by simp) (fun x hx=>by simp only [List.mem_cons,List.not_mem_nil,or_false] at hx;rcases hx with rfl|rfl<;>(unfold fl;dsimp only;omega)) (by simp only [eC];omega),hr]
 have hm:jw l src dst n=(r,0):=by unfold jw;rw [if_neg (by omega)];exact hpo
 refine ⟨r,?_,(pf hpo 0).1,fun x=>?_⟩
 ·unfold dY;rw [hm];rfl
 ·rw [(pf hpo x).2];simp only [mq]
  have e1:(src=x)=(x=src):=propext ⟨Eq.symm,Eq.symm⟩
  have e2:(dst=x)=(x=dst):=propext ⟨Eq.symm,Eq.symm⟩
  simp only [e1,e2]
  split<;>split<;>omega
theorem Au {c:bE} {m h:Int} (hw:cA c=0) (h1:-1000000000000<=m/\m<=1000000000000) (h2:0<=h/\h<=1000000000000):cA ⟨m,h,c.ch,c.cO⟩=0:=by
 have:=gO hw
 unfold cA;rw [if_neg (by dsimp only;omega),if_neg (fun x=>x this.2.2.2.2.1)];exact this.2.2.2.2.2
theorem pa {l:List bE} {k held bx:Int} {c:bE} (hc:l[k.toNat]?=some c) (hw:cA c=0) (h1:-1000000000000<=c.bx+bx/\c.bx+bx<=1000000000000) (h2:0<=c.held+held/\c.held+held<=1000000000000)
  (h3:-1000000000000<=held/\held<=1000000000000) (h4:-1000000000000<=bx/\bx<=1000000000000):cG l 0 k held bx=(l.set k.toNat ⟨c.bx+bx,c.held+held,c.ch,c.cO⟩,0):=by
 have hs:ec c held bx=(⟨c.bx+bx,c.held+held,c.ch,c.cO⟩,0):=by
  unfold ec;rw [if_neg (fun h=>h hw),if_neg (by omega),if_neg (fun h=>h (Au hw h1 h2))]
 rw [pb hc,hs];rfl
theorem DM {b:Bk} {n s:Int} {c:bE} (hn:0<=n/\n<=7) (hs:1<=s/\s<=1000000) (hc:b.aw[n.toNat]?=some c) (hw:cA c=0) (hm:c.bx+s<=1000000000000) (hb:(du b.book).err=0)
  (h1:-1000000000000<=cE b.book 0 - s) (h2:cE b.book (10+n)+s<=1000000000000):
  ∃ r,(∀ y,df b y ⟨0,1,n,0,0,s⟩=({b with aw:=b.aw.set n.toNat ⟨c.bx+s,c.held,c.ch,c.cO⟩,book:=r},y,⟨0,0⟩))/\(du r).err=0/\∀ x,cE r x=cE b.book x+(if x=10+n then s else 0) - (if x=0 then s else 0):=by
 have hlt:=(List.getElem?_eq_some_iff.1 hc).1
 have hR:=gO hw
 obtain ⟨r,hr,hrw,hrg⟩:=mo (l:=b.book) (src:=0) (dst:=10+n) (n:=s) hb (by omega) (by omega) (by omega) (by omega) h1 h2
 refine ⟨r,fun y=>?_,hrw,hrg⟩
 have hS:=pa (l:=b.aw) (k:=n) (held:=0) (bx:=s) hc hw (by omega) (by omega) (by omega) (by omega)
 have hL:fT b ⟨0,1,n,0,0,s⟩=({b with aw:=b.aw.set n.toNat ⟨c.bx+s,c.held,c.ch,c.cO⟩,book:=r},⟨0,0⟩):=by
  unfold fT
  rw [if_neg (by dsimp only;omega),if_neg (by dsimp only;omega)]
  dsimp only
  rw [hS];dsimp only;rw [hr,Int.add_zero];rfl
 unfold df;rw [if_pos rfl,hL]
theorem Fp {b:Bk} {n p s:Int} {c c':bE} (hd:b.down=false) (hn:0<=n/\n<=7) (hp:0<=p/\p < b.due.length) (hp7:p<=7) (hs:1<=s/\s<=1000000) (ht:0<=b.time/\b.time<=1000000) (ha:b.ax.length < 30) (hc:b.aw[n.toNat]?=some c)
  (hA:dO c s b.time=(c',0)) (y:List (List Int)):
  df b y ⟨0,2,n,p,0,s⟩=({b with aw:=b.aw.set n.toNat c',ax:=b.ax++[⟨n,p,s,0,0,0,b.time+100,false⟩]},y,⟨0,b.ax.length⟩):=by
 have hlt:=(List.getElem?_eq_some_iff.1 hc).1
 have hN:di n p s b.time=(⟨n,p,s,0,0,0,b.time+100,false⟩,0):=by unfold di;rw [if_neg (by omega)]
 have hL:dN b ⟨0,2,n,p,0,s⟩=({b with aw:=b.aw.set n.toNat c',ax:=b.ax++[⟨n,p,s,0,0,0,b.time+100,false⟩]},⟨0,b.ax.length⟩):=by
  unfold dN
  rw [if_neg (by dsimp only;omega),if_neg (by rw [hd];decide)]
  dsimp only
  rw [hN,if_neg (by omega),if_neg (by simp)]
  dsimp only
  rw [hc]
  dsimp only
  rw [hA,if_neg (by simp)]
 unfold df;rw [if_neg (by dsimp only;omega),if_pos rfl,hL]
theorem BO {c:bE} {s t:Int} (hw:cA c=0) (hs:1<=s/\s<=1000000) (ht:0<=t/\t<=1000000) (hm:c.held+s<=c.bx) (hP:c.ch=⟨1000,30,1000000000000⟩) (hu:c.cO=[]):
  dO c s t=(⟨c.bx,c.held+s,⟨1000,30,1000000000000⟩,[⟨t,s⟩]⟩,0):=by
 have hR:=gO hw
 have h1:(fx [⟨t,s⟩]).err=0:=by
  have h0:jD [⟨t,s⟩] 0=0:=by
   unfold jD
   dsimp only [List.getElem?_cons_zero]
   rw [if_neg (by omega),if_neg (by omega)]
  unfold fx cO
  rw [if_neg (by simp)]
  simp [scan,h0]
 have hA:ez ⟨1000,30,1000000000000⟩ [] ⟨t,s⟩=([⟨t,s⟩],0):=by
  unfold ez
  rw [if_neg (by decide),if_neg (by decide),if_neg (by omega),if_neg (by simp [gQ])]
  rw [show dM ⟨1000,30,1000000000000⟩ [] t=[] from rfl]
  rw [if_neg (by simp [ib];omega)];rfl
 unfold dO
 rw [if_neg (by omega),if_neg (by omega),if_neg (by omega),hP,hu,hA,if_neg (by simp)]
theorem Fo {b:Bk} {n m s:Int} {a a':bF} {c:bE} {s':bX} (hd:b.down=false) (hm:m=2\/m=3) (hs:1<=s/\s<=1000000) (hn:0<=n) (ha:b.ax[n.toNat]?=some a) (hM:bV a m s=(a',0)) (hk:0<=a'.aO/\a'.aO<=7)
  (hc:b.aw[a'.aO.toNat]?=some c) (hw:cA c=0) (h1:-1000000000000<=c.bx - s) (h2:0<=c.held+(bB a' - bB a)/\c.held+(bB a' - bB a)<=1000000000000) (h3:-1000000000000<=bB a' - bB a/\bB a' - bB a<=1000000000000)
  (hb:(du b.book).err=0) (h4:-1000000000000<=cE b.book (10+a'.aO) - s) (h5:cE b.book 1+s<=1000000000000) (hP:fL b.s0 ⟨0,1,n,s⟩=(s',0)) (hT:b.aR.length < 100):
  ∃ r,(∀ y,df b y ⟨0,3,n,0,m,s⟩=({b with aw:=b.aw.set a'.aO.toNat ⟨c.bx - s,c.held+(bB a' - bB a),c.ch,c.cO⟩,book:=r,s0:=s',aR:=b.aR++[⟨a'.aD,n,m,s⟩],ax:=b.ax.set n.toNat a'},y,⟨0,0⟩))/\
   (du r).err=0/\∀ x,cE r x=cE b.book x+(if x=1 then s else 0) - (if x=10+a'.aO then s else 0):=by
 have hlt:=(List.getElem?_eq_some_iff.1 ha).1
 have hR:=gO hw
 obtain ⟨r,hr,hrw,hrg⟩:=mo (l:=b.book) (src:=10+a'.aO) (dst:=1) (n:=s) hb (by omega) (by omega) (by omega) (by omega) h4 h5
 refine ⟨r,fun y=>?_,hrw,hrg⟩
 have hS:=pa (l:=b.aw) (k:=a'.aO) (held:=bB a' - bB a) (bx:=0 - s) hc hw (by omega) h2 h3 (by omega)
 rw [show c.bx+(0 - s)=c.bx - s by omega] at hS
 have hL:dx b ⟨0,3,n,0,m,s⟩=({b with aw:=b.aw.set a'.aO.toNat ⟨c.bx - s,c.held+(bB a' - bB a),c.ch,c.cO⟩,book:=r,s0:=s',aR:=b.aR++[⟨a'.aD,n,m,s⟩],ax:=b.ax.set n.toNat a'},⟨0,0⟩):=by
  unfold dx
  rw [if_neg (by rw [hd];decide),if_neg (by dsimp only;omega)]
  dsimp only
  rw [ha]
  dsimp only
  rw [hM,if_neg (by simp),if_neg (by omega)]
  unfold dS
  dsimp only
  rw [if_neg (by omega),if_pos hm,hS]
  dsimp only
  rw [hr]
  unfold eM
  rw [hP]
  unfold mT iO
  dsimp only
  rw [if_pos (show dD 0 0=0 from rfl),if_neg (show ¬b.aR.length=100 by omega)]
  rfl
 unfold df;rw [if_neg (by dsimp only;omega),if_neg (by dsimp only;omega),if_pos rfl,hL]
def PT:dw:=⟨1000,30,1000000000000⟩
theorem yq {m h:Int} (h1:-1000000000000<=m/\m<=1000000000000) (h2:0<=h/\h<=1000000000000):cA ⟨m,h,PT,[]⟩=0:=by
 unfold cA;rw [if_neg (by dsimp only;omega)];rfl
theorem Fl {b:Bk} {n m s e:Int} {a x:bF} (hd:b.down=false) (hn:0<=n) (ha:b.ax[n.toNat]?=some a) (hM:bV a m s=(x,e)) (he:e≠0) (y:List (List Int)):df b y ⟨0,3,n,0,m,s⟩=(b,y,⟨e,0⟩):=by
 have hlt:=(List.getElem?_eq_some_iff.1 ha).1
 have hL:dx b ⟨0,3,n,0,m,s⟩=(b,⟨e,0⟩):=by
  unfold dx
  rw [if_neg (by rw [hd];decide),if_neg (by dsimp only;omega)]
  dsimp only
  rw [ha]
  dsimp only
  rw [hM,if_pos he]
 unfold df;rw [if_neg (by dsimp only;omega),if_neg (by dsimp only;omega),if_pos rfl,hL]
theorem pz {a:bF} {m s:Int} (hw:bG a=0) (hm:1<=m/\m<=4) (hs:1<=s/\s<=1000000):bV a m s=if (de a m s).2≠0 then (gh,(de a m s).2) else de a m s:=by
 unfold bV
 rw [if_neg (fun h=>h hw),if_neg (by omega),if_neg (by omega),if_neg (by omega),if_neg (by omega),if_neg (by omega),if_neg (by omega)]
theorem Bn {a:bF} {m s:Int} (hw:bG a=0) (hm:1<=m/\m<=4) (hs:1<=s/\s<=1000000) (h:a.shut=true):bV a m s=(gh,9):=by
 have:de a m s=(a,9):=by unfold de;rw [if_pos h]
 rw [pz hw hm hs,this,if_pos (by simp)]
theorem Dc {a:bF} {m s:Int} (hw:bG a=0) (hm:m=2\/m=3) (hs:1<=s/\s<=1000000) (h:a.shut=false) (hc:s<=a.sum - a.captured):
  bV a m s=(⟨a.aO,a.aD,a.sum,a.captured+s,a.bD,a.bq,a.cY,decide (m=3)||decide (a.captured+s=a.sum)⟩,0):=by
 have:de a m s=(⟨a.aO,a.aD,a.sum,a.captured+s,a.bD,a.bq,a.cY,decide (m=3)||decide (a.captured+s=a.sum)⟩,0):=by
  unfold de;rw [if_neg (by rw [h];decide),if_neg (by omega),if_neg (by omega),if_neg (by omega)]
 rw [pz hw (by omega) hs,this,if_neg (by simp)]
theorem Cn {b:Bk} (h:b.w0=[]) (y:List (List Int)):df b y ⟨0,6,0,0,0,0⟩=(b,y,⟨6,0⟩):=by
 have hL:bZ b ⟨0,6,0,0,0,0⟩=(b,⟨6,0⟩):=by
  unfold bZ
  rw [if_pos rfl]
  unfold ft
  rw [h]
  rfl
 unfold df;rw [if_neg (by dsimp only;omega),if_neg (by dsimp only;omega),if_neg (by dsimp only;omega),if_neg (by dsimp only;omega),if_neg (by dsimp only;omega),if_pos (Or.inl rfl),hL]

theorem xF {b:Bk} {w:List cf} {t:aT} {n:Int} {s:bX} (h:b.w0=⟨t,n⟩::w) (hn:0<=n) (hb:dT b.s0 n=(s,0)) (y:List (List Int)):df b y ⟨0,6,0,0,0,0⟩=({b with w0:=w,s0:=s},y,⟨0,0⟩):=by
 have hL:bZ b ⟨0,6,0,0,0,0⟩=({b with w0:=w,s0:=s},⟨0,0⟩):=by
  unfold bZ
  rw [if_pos rfl]
  unfold ft
  rw [h]
  dsimp only [List.getElem?_cons_zero]
  rw [if_neg (by omega),if_pos hn,hb,if_pos rfl]
  rfl
 unfold df;rw [if_neg (by dsimp only;omega),if_neg (by dsimp only;omega),if_neg (by dsimp only;omega),if_neg (by dsimp only;omega),if_neg (by dsimp only;omega),if_pos (Or.inl rfl),hL]

theorem Eg {b:Bk} {w:List cf} {t:aT} (h:b.w0=⟨t,-1⟩::w) (hn:t.number≠b.n0+1) (y:List (List Int)):df b y ⟨0,6,0,0,0,0⟩=({b with w0:=w},y,⟨0,0⟩):=by
 have hT:fJ b.n0 t=(b.n0,false):=by unfold fJ;rw [if_pos (by omega)]
 have hL:bZ b ⟨0,6,0,0,0,0⟩=({b with w0:=w},⟨0,0⟩):=by
  unfold bZ
  rw [if_pos rfl]
  unfold ft
  rw [h]
  dsimp only [List.getElem?_cons_zero]
  rw [if_neg (by omega),if_neg (by omega),hT,if_neg (by simp)]
  rfl
 unfold df;rw [if_neg (by dsimp only;omega),if_neg (by dsimp only;omega),if_neg (by dsimp only;omega),if_neg (by dsimp only;omega),if_neg (by dsimp only;omega),if_pos (Or.inl rfl),hL]

theorem Cm {b:Bk} {w:List cf} {t:aT} {due:List Int} {cs:List bE} {bk:List Entry} (h:b.w0=⟨t,-1⟩::w) (hn:t.number=b.n0+1) (h0:0<=b.n0/\b.n0 < 1000000) (hk:ef b.ax b.due b.aw b.book 0 t=(due,cs,bk,0)) (y:List (List Int)):df b y ⟨0,6,0,0,0,0⟩=({b with w0:=w,n0:=b.n0+1,due:=due,aw:=cs,book:=bk},y,⟨0,0⟩):=by
 have hT:fJ b.n0 t=(b.n0+1,true):=by unfold fJ;rw [if_neg (by omega)]
 have hL:bZ b ⟨0,6,0,0,0,0⟩=({b with w0:=w,n0:=b.n0+1,due:=due,aw:=cs,book:=bk},⟨0,0⟩):=by
  unfold bZ
  rw [if_pos rfl]
  unfold ft
  rw [h]
  dsimp only [List.getElem?_cons_zero]
  rw [if_neg (by omega),if_neg (by omega),hT,if_pos rfl,hk]
  rfl
 unfold df;rw [if_neg (by dsimp only;omega),if_neg (by dsimp only;omega),if_neg (by dsimp only;omega),if_neg (by dsimp only;omega),if_neg (by dsimp only;omega),if_pos (Or.inl rfl),hL]

theorem CH {b:Bk} (h:(gY b.w1 b.s0.kept b.n0).length<=60) (y:List (List Int)):df b y ⟨0,5,0,0,0,0⟩=({b with w1:=gY b.w1 b.s0.kept b.n0},y,⟨0,0⟩):=by
 have hQ:iI b.w1 b.s0.kept b.n0=(gY b.w1 b.s0.kept b.n0,⟨0,0⟩):=by unfold iI;rw [if_neg (by omega)]
 have hL:eL b.s0 b.s1 b.n0 b.n1 b.w0 b.w1 ⟨0,5,0,0,0,0⟩=(b.w0,gY b.w1 b.s0.kept b.n0,⟨0,0⟩):=by
  unfold eL
  rw [if_pos rfl,hQ]
 unfold df;rw [if_neg (by dsimp only;omega),if_neg (by dsimp only;omega),if_neg (by dsimp only;omega),if_neg (by dsimp only;omega),if_pos rfl,hL]

theorem Cl {b:Bk} (h:b.w1=[]) (y:List (List Int)):df b y ⟨0,6,1,0,0,0⟩=(b,y,⟨6,0⟩):=by
 have hL:bZ b ⟨0,6,1,0,0,0⟩=(b,⟨6,0⟩):=by
  unfold bZ
  rw [if_neg (by decide),if_pos rfl]
  unfold fr
  rw [h]
  rfl
 unfold df;rw [if_neg (by dsimp only;omega),if_neg (by dsimp only;omega),if_neg (by dsimp only;omega),if_neg (by dsimp only;omega),if_neg (by dsimp only;omega),if_pos (Or.inl rfl),hL]

theorem xE {b:Bk} {w:List cf} {t:aT} {n:Int} {s:bX} (h:b.w1=⟨t,n⟩::w) (hn:0<=n) (hb:dT b.s1 n=(s,0)) (y:List (List Int)):df b y ⟨0,6,1,0,0,0⟩=({b with w1:=w,s1:=s},y,⟨0,0⟩):=by
 have hL:bZ b ⟨0,6,1,0,0,0⟩=({b with w1:=w,s1:=s},⟨0,0⟩):=by
  unfold bZ
  rw [if_neg (by decide),if_pos rfl]
  unfold fr
  rw [h]
  dsimp only [List.getElem?_cons_zero]
  rw [if_neg (by omega),if_pos hn,hb,if_pos rfl]
  rfl
 unfold df;rw [if_neg (by dsimp only;omega),if_neg (by dsimp only;omega),if_neg (by dsimp only;omega),if_neg (by dsimp only;omega),if_neg (by dsimp only;omega),if_pos (Or.inl rfl),hL]

theorem Ef {b:Bk} {w:List cf} {t:aT} (h:b.w1=⟨t,-1⟩::w) (hn:t.number≠b.n1+1) (y:List (List Int)):df b y ⟨0,6,1,0,0,0⟩=({b with w1:=w},y,⟨0,0⟩):=by
 have hT:fJ b.n1 t=(b.n1,false):=by unfold fJ;rw [if_pos (by omega)]
 have hL:bZ b ⟨0,6,1,0,0,0⟩=({b with w1:=w},⟨0,0⟩):=by
  unfold bZ
  rw [if_neg (by decide),if_pos rfl]
  unfold fr
  rw [h]
  dsimp only [List.getElem?_cons_zero]
  rw [if_neg (by omega),if_neg (by omega),hT,if_neg (by simp)]
  rfl
 unfold df;rw [if_neg (by dsimp only;omega),if_neg (by dsimp only;omega),if_neg (by dsimp only;omega),if_neg (by dsimp only;omega),if_neg (by dsimp only;omega),if_pos (Or.inl rfl),hL]

theorem Ck {b:Bk} {w:List cf} {t:aT} {due:List Int} {cs:List bE} {bk:List Entry} (h:b.w1=⟨t,-1⟩::w) (hn:t.number=b.n1+1) (h0:0<=b.n1/\b.n1 < 1000000) (hk:ef b.ax b.due b.aw b.book 0 t=(due,cs,bk,0)) (y:List (List Int)):df b y ⟨0,6,1,0,0,0⟩=({b with w1:=w,n1:=b.n1+1,due:=due,aw:=cs,book:=bk},y,⟨0,0⟩):=by
 have hT:fJ b.n1 t=(b.n1+1,true):=by unfold fJ;rw [if_neg (by omega)]
 have hL:bZ b ⟨0,6,1,0,0,0⟩=({b with w1:=w,n1:=b.n1+1,due:=due,aw:=cs,book:=bk},⟨0,0⟩):=by
  unfold bZ
  rw [if_neg (by decide),if_pos rfl]
  unfold fr
  rw [h]
  dsimp only [List.getElem?_cons_zero]
  rw [if_neg (by omega),if_neg (by omega),hT,if_pos rfl,hk]
  rfl
 unfold df;rw [if_neg (by dsimp only;omega),if_neg (by dsimp only;omega),if_neg (by dsimp only;omega),if_neg (by dsimp only;omega),if_neg (by dsimp only;omega),if_pos (Or.inl rfl),hL]

theorem CG {b:Bk} (h:(gY b.w0 b.s1.kept b.n1).length<=60) (y:List (List Int)):df b y ⟨0,5,1,0,0,0⟩=({b with w0:=gY b.w0 b.s1.kept b.n1},y,⟨0,0⟩):=by
 have hQ:iI b.w0 b.s1.kept b.n1=(gY b.w0 b.s1.kept b.n1,⟨0,0⟩):=by unfold iI;rw [if_neg (by omega)]
 have hL:eL b.s0 b.s1 b.n0 b.n1 b.w0 b.w1 ⟨0,5,1,0,0,0⟩=(gY b.w0 b.s1.kept b.n1,b.w1,⟨0,0⟩):=by
  unfold eL
  rw [if_neg (by decide),if_pos rfl,hQ]
 unfold df;rw [if_neg (by dsimp only;omega),if_neg (by dsimp only;omega),if_neg (by dsimp only;omega),if_neg (by dsimp only;omega),if_pos rfl,hL]
def iC (t:aT):cf:=⟨t,-1⟩
def lM:List aT->Int->Prop
 |[],_=>True
 |t::l,n=>t.number=n+1/\lM l (n+1)
theorem kf (n:Int) (k:Nat):dd n (k+1)=⟨0,6,n,0,0,0⟩::dd n k:=rfl
inductive kF (ax:List bF):List aT->List Int->List bE->List Entry->List Int->List bE->List Entry->Prop
 |nil {d c k}:kF ax [] d c k d c k
 |cons {t l d c k d1 c1 k1 d2 c2 k2}:ef ax d c k 0 t=(d1,c1,k1,0)->kF ax l d1 c1 k1 d2 c2 k2->kF ax (t::l) d c k d2 c2 k2
theorem oE:∀ (k:Nat) {rest:List aW} {b:Bk} {y:List (List Int)} {out:List Answer},b.w0=[]->fv (dd 0 k++rest) b y out=fv rest b y (out++List.replicate k ⟨6,0⟩)
 |0,rest,b,y,out,_=>by simp [dd]
 |k+1,rest,b,y,out,h=>by
  rw [kf,List.cons_append,eo (Cn h y),oE k h,List.replicate_succ,List.append_assoc];rfl
theorem vo:∀ {l:List aT} {w:List cf} {rest:List aW} {b:Bk} {y:List (List Int)} {out:List Answer},b.w0=l.map iC++w->(∀ t∈l,t.number≠b.n0+1)->fv (dd 0 l.length++rest) b y out=fv rest {b with w0:=w} y (out++List.replicate l.length ⟨0,0⟩)
 |[],w,rest,b,y,out,h,_=>by
  have:b.w0=w:=h
  subst this;simp [dd]
 |t::l,w,rest,b,y,out,h,hn=>by
  have ih:=vo (l:=l) (w:=w) (rest:=rest) (b:={b with w0:=l.map iC++w}) (y:=y) (out:=out++[⟨0,0⟩]) rfl (fun x hx=>hn x (by simp [hx]))
  rw [List.length_cons,kf,List.cons_append,eo (Eg (w:=l.map iC++w) (t:=t) h (hn t (by simp)) y)]
  refine ih.trans ?_
  rw [List.replicate_succ,List.append_assoc];rfl
theorem tk:∀ {l:List aT} {w:List cf} {rest:List aW} {b:Bk} {due:List Int} {cs:List bE} {bk:List Entry} {y:List (List Int)} {out:List Answer},b.w0=l.map iC++w->lM l b.n0->0<=b.n0->b.n0+l.length<=1000000->kF b.ax l b.due b.aw b.book due cs bk->
  fv (dd 0 l.length++rest) b y out=fv rest {b with w0:=w,n0:=b.n0+l.length,due:=due,aw:=cs,book:=bk} y (out++List.replicate l.length ⟨0,0⟩)
 |[],w,rest,b,due,cs,bk,y,out,h,_,_,_,hT=>by
  cases hT
  have:b.w0=w:=h
  subst this;simp [dd]
 |t::l,w,rest,b,due,cs,bk,y,out,h,hN,h0,hl,hT=>by
  cases hT with
  |@cons _ _ _ _ _ d1 c1 k1 _ _ _ hk hT=>
  rw [List.length_cons] at hl
  have ih:=tk (l:=l) (w:=w) (rest:=rest) (b:={b with w0:=l.map iC++w,n0:=b.n0+1,due:=d1,aw:=c1,book:=k1}) (y:=y) (out:=out++[⟨0,0⟩]) rfl hN.2 (by dsimp only;omega) (by dsimp only;omega) hT
  rw [List.length_cons,kf,List.cons_append,eo (Cm (w:=l.map iC++w) (t:=t) h hN.1 ⟨h0,by omega⟩ hk y)]
  refine ih.trans ?_
  rw [List.replicate_succ,List.append_assoc]
  rw [show (b.n0+1+(l.length:Int))=b.n0+((l.length+1:Nat):Int) by omega]
  rfl
theorem oD:∀ (k:Nat) {rest:List aW} {b:Bk} {y:List (List Int)} {out:List Answer},b.w1=[]->fv (dd 1 k++rest) b y out=fv rest b y (out++List.replicate k ⟨6,0⟩)
 |0,rest,b,y,out,_=>by simp [dd]
 |k+1,rest,b,y,out,h=>by
  rw [kf,List.cons_append,eo (Cl h y),oD k h,List.replicate_succ,List.append_assoc];rfl
theorem vn:∀ {l:List aT} {w:List cf} {rest:List aW} {b:Bk} {y:List (List Int)} {out:List Answer},b.w1=l.map iC++w->(∀ t∈l,t.number≠b.n1+1)->fv (dd 1 l.length++rest) b y out=fv rest {b with w1:=w} y (out++List.replicate l.length ⟨0,0⟩)
 |[],w,rest,b,y,out,h,_=>by
  have:b.w1=w:=h
  subst this;simp [dd]
 |t::l,w,rest,b,y,out,h,hn=>by
  have ih:=vn (l:=l) (w:=w) (rest:=rest) (b:={b with w1:=l.map iC++w}) (y:=y) (out:=out++[⟨0,0⟩]) rfl (fun x hx=>hn x (by simp [hx]))
  rw [List.length_cons,kf,List.cons_append,eo (Ef (w:=l.map iC++w) (t:=t) h (hn t (by simp)) y)]
  refine ih.trans ?_
  rw [List.replicate_succ,List.append_assoc];rfl
theorem th:∀ {l:List aT} {w:List cf} {rest:List aW} {b:Bk} {due:List Int} {cs:List bE} {bk:List Entry} {y:List (List Int)} {out:List Answer},b.w1=l.map iC++w->lM l b.n1->0<=b.n1->b.n1+l.length<=1000000->kF b.ax l b.due b.aw b.book due cs bk->
  fv (dd 1 l.length++rest) b y out=fv rest {b with w1:=w,n1:=b.n1+l.length,due:=due,aw:=cs,book:=bk} y (out++List.replicate l.length ⟨0,0⟩)
 |[],w,rest,b,due,cs,bk,y,out,h,_,_,_,hT=>by
  cases hT
  have:b.w1=w:=h
  subst this;simp [dd]
 |t::l,w,rest,b,due,cs,bk,y,out,h,hN,h0,hl,hT=>by
  cases hT with
  |@cons _ _ _ _ _ d1 c1 k1 _ _ _ hk hT=>
  rw [List.length_cons] at hl
  have ih:=th (l:=l) (w:=w) (rest:=rest) (b:={b with w1:=l.map iC++w,n1:=b.n1+1,due:=d1,aw:=c1,book:=k1}) (y:=y) (out:=out++[⟨0,0⟩]) rfl hN.2 (by dsimp only;omega) (by dsimp only;omega) hT
  rw [List.length_cons,kf,List.cons_append,eo (Ck (w:=l.map iC++w) (t:=t) h hN.1 ⟨h0,by omega⟩ hk y)]
  refine ih.trans ?_
  rw [List.replicate_succ,List.append_assoc]
  rw [show (b.n1+1+(l.length:Int))=b.n1+((l.length+1:Nat):Int) by omega]
  rfl
theorem hO (n:Int) (a b:Nat):dd n (a+b)=dd n a++dd n b:=by
 unfold dd;rw [List.replicate_append_replicate]
theorem nB:∀ {l:List aT} {n:Int},lM l n->∀ t∈l,n < t.number/\t.number<=n+l.length
 |[],_,_,t,h=>by cases h
 |x::l,n,h,t,ht=>by
  rw [List.length_cons]
  rcases List.mem_cons.1 ht with rfl|ht
  ·have:=h.1;omega
  ·have:=nB h.2 t ht;omega
theorem wK {l:List aT} {n:Int} (h:∀ t∈l,n < t.number):dC (came n) l=l:=by
 unfold dC
 exact List.filter_eq_self.2 fun t ht=>by have:=h t ht;simp [came];omega
theorem uP {l:List aT} {n:Int} (h:∀ t∈l,t.number<=n):dC (came n) l=[]:=by
 unfold dC
 exact List.filter_eq_nil_iff.2 fun t ht=>by have:=h t ht;simp [came];omega
theorem qu {s:bX} {n:Int} (h:(ct s).err=0) (h0:0<=n) (h1:n<=s.bL):dT s n=(⟨s.bL,dC (came n) s.kept⟩,0):=by
 unfold dT;rw [if_neg (fun x=>x h),if_neg (by omega)]
def fb (c:Nat):List aW:=[⟨0,5,0,0,0,0⟩,⟨0,5,1,0,0,0⟩]++dd 0 c++dd 1 c
theorem wz (l:List aT) (n:Int):gY [] l n=l.map iC++[⟨⟨0,0,0,0⟩,n⟩]:=rfl
theorem wi {b:Bk} (hw:b.w1=[]) (h:b.s0.kept.length<=40) (y:List (List Int)):df b y ⟨0,5,0,0,0,0⟩=({b with w1:=b.s0.kept.map iC++[⟨⟨0,0,0,0⟩,b.n0⟩]},y,⟨0,0⟩):=by
 have:=CH (b:=b) (by rw [hw,wz];simp;omega) y
 rw [this,hw];rfl
theorem wh {b:Bk} (hw:b.w0=[]) (h:b.s1.kept.length<=40) (y:List (List Int)):df b y ⟨0,5,1,0,0,0⟩=({b with w0:=b.s1.kept.map iC++[⟨⟨0,0,0,0⟩,b.n1⟩]},y,⟨0,0⟩):=by
 have:=CG (b:=b) (by rw [hw,wz];simp;omega) y
 rw [this,hw];rfl
theorem xR {b:Bk} {c:Nat} {rest:List aW} {y:List (List Int)} {out:List Answer} {d1 d2:List Int} {c1 c2:List bE} {k1 k2:List Entry} (hw0:b.w0=[]) (hw1:b.w1=[]) (hc0:b.s0.kept.length+1<=c) (hc1:b.s1.kept.length+1<=c) (h40:c<=40) (hn0:0<=b.n0) (hn1:0<=b.n1) (hS0:(ct b.s0).err=0) (hS1:(ct b.s1).err=0) (hN0:lM b.s0.kept b.n1) (hN1:lM b.s1.kept b.n0) (ht1:kF b.ax b.s1.kept b.due b.aw b.book d1 c1 k1) (ht0:kF b.ax b.s0.kept d1 c1 k1 d2 c2 k2) (hm0:b.n1+b.s0.kept.length<=b.s0.bL) (hm1:b.n0+b.s1.kept.length<=b.s1.bL) (hx0:b.s0.bL<=1000000) (hx1:b.s1.bL<=1000000):
  ∃ o,fv (fb c++rest) b y out=fv rest {b with n0:=b.n0+b.s1.kept.length,n1:=b.n1+b.s0.kept.length,due:=d2,aw:=c2,book:=k2} y (out++o)/\o.length=2+2 * c:=by
 obtain ⟨q0,hq0⟩:∃ q,c=b.s0.kept.length+(1+q):=⟨c - (b.s0.kept.length+1),by omega⟩
 obtain ⟨q1,hq1⟩:∃ q,c=b.s1.kept.length+(1+q):=⟨c - (b.s1.kept.length+1),by omega⟩
 have hsplit:fb c++rest=⟨0,5,0,0,0,0⟩::⟨0,5,1,0,0,0⟩::(dd 0 b.s1.kept.length++(dd 0 1++(dd 0 q1++(dd 1 b.s0.kept.length++(dd 1 1++(dd 1 q0++rest)))))):=by
  have e0:dd 0 c=dd 0 b.s1.kept.length++(dd 0 1++dd 0 q1):=by rw [hq1,hO,hO]
  have e1:dd 1 c=dd 1 b.s0.kept.length++(dd 1 1++dd 1 q0):=by rw [hq0,hO,hO]
  unfold fb
  rw [e0,e1];simp only [List.append_assoc,List.cons_append,List.nil_append]
 have s0:=wi hw1 (by omega) y
 have s1:=wh (b:={b with w1:=b.s0.kept.map iC++[⟨⟨0,0,0,0⟩,b.n0⟩]}) hw0 (by dsimp only;omega) y
 have t0:=fun (rest:List aW) out=>tk (l:=b.s1.kept) (w:=[⟨⟨0,0,0,0⟩,b.n1⟩]) (rest:=rest) (b:={b with w0:=b.s1.kept.map iC++[⟨⟨0,0,0,0⟩,b.n1⟩],w1:=b.s0.kept.map iC++[⟨⟨0,0,0,0⟩,b.n0⟩]}) (y:=y) (out:=out) rfl hN1 hn0 (by dsimp only;omega) ht1
 have a0:=xF (b:={b with w0:=[⟨⟨0,0,0,0⟩,b.n1⟩],w1:=b.s0.kept.map iC++[⟨⟨0,0,0,0⟩,b.n0⟩],n0:=b.n0+b.s1.kept.length,due:=d1,aw:=c1,book:=k1}) (w:=[]) (t:=⟨0,0,0,0⟩) (n:=b.n1) rfl hn1 (qu hS0 hn1 (by dsimp only;omega)) y
 have u0:=fun (rest:List aW) out=>oE q1 (rest:=rest) (b:={b with w0:=[],w1:=b.s0.kept.map iC++[⟨⟨0,0,0,0⟩,b.n0⟩],n0:=b.n0+b.s1.kept.length,due:=d1,aw:=c1,book:=k1}) (y:=y) (out:=out) rfl
 have t1:=fun (rest:List aW) out=>th (l:=b.s0.kept) (w:=[⟨⟨0,0,0,0⟩,b.n0⟩]) (rest:=rest) (b:={b with w0:=[],w1:=b.s0.kept.map iC++[⟨⟨0,0,0,0⟩,b.n0⟩],n0:=b.n0+b.s1.kept.length,due:=d1,aw:=c1,book:=k1}) (y:=y) (out:=out) rfl hN0 hn1 (by dsimp only;omega) ht0
 have a1:=xE (b:={b with w0:=[],w1:=[⟨⟨0,0,0,0⟩,b.n0⟩],n0:=b.n0+b.s1.kept.length,n1:=b.n1+b.s0.kept.length,due:=d2,aw:=c2,book:=k2}) (w:=[]) (t:=⟨0,0,0,0⟩) (n:=b.n0) rfl hn0 (qu hS1 hn0 (by dsimp only;omega)) y
 have u1:=fun (rest:List aW) out=>oD q0 (rest:=rest) (b:={b with w0:=[],w1:=[],n0:=b.n0+b.s1.kept.length,n1:=b.n1+b.s0.kept.length,due:=d2,aw:=c2,book:=k2}) (y:=y) (out:=out) rfl
 rw [wK fun t ht=>(nB hN0 t ht).1] at a0
 rw [wK fun t ht=>(nB hN1 t ht).1] at a1
 rw [hsplit,eo s0,eo s1]
 refine ⟨[⟨0,0⟩]++[⟨0,0⟩]++List.replicate b.s1.kept.length ⟨0,0⟩++[⟨0,0⟩]++List.replicate q1 ⟨6,0⟩++List.replicate b.s0.kept.length ⟨0,0⟩++[⟨0,0⟩]++List.replicate q0 ⟨6,0⟩,?_,by simp;omega⟩
 refine (t0 _ _).trans ((eo a0).trans ((u0 _ _).trans ((t1 _ _).trans ((eo a1).trans ((u1 _ _).trans ?_)))))
 simp only [List.append_assoc]
 congr 1
 cases b;simp_all
theorem xS {b:Bk} {c:Nat} {rest:List aW} {y:List (List Int)} {out:List Answer} (hw0:b.w0=[]) (hw1:b.w1=[]) (hc0:b.s0.kept.length+1<=c) (hc1:b.s1.kept.length+1<=c) (h40:c<=40) (hn0:0<=b.n0) (hn1:0<=b.n1) (hS0:(ct b.s0).err=0) (hS1:(ct b.s1).err=0) (hN0:∀ t∈b.s0.kept,t.number<=b.n1) (hN1:∀ t∈b.s1.kept,t.number<=b.n0) (hm0:b.n1<=b.s0.bL) (hm1:b.n0<=b.s1.bL):
  ∃ o,fv (fb c++rest) b y out=fv rest {b with s0:=⟨b.s0.bL,[]⟩,s1:=⟨b.s1.bL,[]⟩} y (out++o)/\o.length=2+2 * c:=by
 obtain ⟨q0,hq0⟩:∃ q,c=b.s0.kept.length+(1+q):=⟨c - (b.s0.kept.length+1),by omega⟩
 obtain ⟨q1,hq1⟩:∃ q,c=b.s1.kept.length+(1+q):=⟨c - (b.s1.kept.length+1),by omega⟩
 have hsplit:fb c++rest=⟨0,5,0,0,0,0⟩::⟨0,5,1,0,0,0⟩::(dd 0 b.s1.kept.length++(dd 0 1++(dd 0 q1++(dd 1 b.s0.kept.length++(dd 1 1++(dd 1 q0++rest)))))):=by
  have e0:dd 0 c=dd 0 b.s1.kept.length++(dd 0 1++dd 0 q1):=by rw [hq1,hO,hO]
  have e1:dd 1 c=dd 1 b.s0.kept.length++(dd 1 1++dd 1 q0):=by rw [hq0,hO,hO]
  unfold fb
  rw [e0,e1];simp only [List.append_assoc,List.cons_append,List.nil_append]
 have s0:=wi hw1 (by omega) y
 have s1:=wh (b:={b with w1:=b.s0.kept.map iC++[⟨⟨0,0,0,0⟩,b.n0⟩]}) hw0 (by dsimp only;omega) y
 have t0:=fun (rest:List aW) out=>vo (l:=b.s1.kept) (w:=[⟨⟨0,0,0,0⟩,b.n1⟩]) (rest:=rest) (b:={b with w0:=b.s1.kept.map iC++[⟨⟨0,0,0,0⟩,b.n1⟩],w1:=b.s0.kept.map iC++[⟨⟨0,0,0,0⟩,b.n0⟩]}) (y:=y) (out:=out) rfl (fun t ht=>by have:=hN1 t ht;dsimp only;omega)
 have a0:=xF (b:={b with w0:=[⟨⟨0,0,0,0⟩,b.n1⟩],w1:=b.s0.kept.map iC++[⟨⟨0,0,0,0⟩,b.n0⟩]}) (w:=[]) (t:=⟨0,0,0,0⟩) (n:=b.n1) rfl hn1 (qu hS0 hn1 (by dsimp only;omega)) y
 have u0:=fun (rest:List aW) out=>oE q1 (rest:=rest) (b:={b with w0:=[],w1:=b.s0.kept.map iC++[⟨⟨0,0,0,0⟩,b.n0⟩],s0:=⟨b.s0.bL,[]⟩}) (y:=y) (out:=out) rfl
 have t1:=fun (rest:List aW) out=>vn (l:=b.s0.kept) (w:=[⟨⟨0,0,0,0⟩,b.n0⟩]) (rest:=rest) (b:={b with w0:=[],w1:=b.s0.kept.map iC++[⟨⟨0,0,0,0⟩,b.n0⟩],s0:=⟨b.s0.bL,[]⟩}) (y:=y) (out:=out) rfl (fun t ht=>by have:=hN0 t ht;dsimp only;omega)
 have a1:=xE (b:={b with w0:=[],w1:=[⟨⟨0,0,0,0⟩,b.n0⟩],s0:=⟨b.s0.bL,[]⟩}) (w:=[]) (t:=⟨0,0,0,0⟩) (n:=b.n0) rfl hn0 (qu hS1 hn0 (by dsimp only;omega)) y
 have u1:=fun (rest:List aW) out=>oD q0 (rest:=rest) (b:={b with w0:=[],w1:=[],s0:=⟨b.s0.bL,[]⟩,s1:=⟨b.s1.bL,[]⟩}) (y:=y) (out:=out) rfl
 rw [uP hN0] at a0
 rw [uP hN1] at a1
 rw [hsplit,eo s0,eo s1]
 refine ⟨[⟨0,0⟩]++[⟨0,0⟩]++List.replicate b.s1.kept.length ⟨0,0⟩++[⟨0,0⟩]++List.replicate q1 ⟨6,0⟩++List.replicate b.s0.kept.length ⟨0,0⟩++[⟨0,0⟩]++List.replicate q0 ⟨6,0⟩,?_,by simp;omega⟩
 refine (t0 _ _).trans ((eo a0).trans ((u0 _ _).trans ((t1 _ _).trans ((eo a1).trans ((u1 _ _).trans ?_)))))
 simp only [List.append_assoc]
 congr 1
 cases b;simp_all
theorem DQ {b:Bk} {c:Nat} {rest:List aW} {y:List (List Int)} {out:List Answer} {d1 d2:List Int} {c1 c2:List bE} {k1 k2:List Entry} (hw0:b.w0=[]) (hw1:b.w1=[]) (hc0:b.s0.kept.length+1<=c) (hc1:b.s1.kept.length+1<=c) (h40:c<=40) (hn0:0<=b.n0) (hn1:0<=b.n1) (hS0:(ct b.s0).err=0) (hS1:(ct b.s1).err=0)
  (hN0:lM b.s0.kept b.n1) (hN1:lM b.s1.kept b.n0) (ht1:kF b.ax b.s1.kept b.due b.aw b.book d1 c1 k1) (ht0:kF b.ax b.s0.kept d1 c1 k1 d2 c2 k2) (hm0:b.n1+b.s0.kept.length<=b.s0.bL) (hm1:b.n0+b.s1.kept.length<=b.s1.bL) (hx0:b.s0.bL<=1000000) (hx1:b.s1.bL<=1000000):
  ∃ o,fv (fb c++(fb c++rest)) b y out=fv rest {b with s0:=⟨b.s0.bL,[]⟩,s1:=⟨b.s1.bL,[]⟩,n0:=b.n0+b.s1.kept.length,n1:=b.n1+b.s0.kept.length,due:=d2,aw:=c2,book:=k2} y (out++o)/\o.length=4+4 * c:=by
 obtain ⟨o1,e1,l1⟩:=xR (rest:=fb c++rest) (y:=y) (out:=out) hw0 hw1 hc0 hc1 h40 hn0 hn1 hS0 hS1 hN0 hN1 ht1 ht0 hm0 hm1 hx0 hx1
 obtain ⟨o2,e2,l2⟩:=xS (b:={b with n0:=b.n0+b.s1.kept.length,n1:=b.n1+b.s0.kept.length,due:=d2,aw:=c2,book:=k2}) (rest:=rest) (y:=y) (out:=out++o1) hw0 hw1 hc0 hc1 h40 (by dsimp only;omega) (by dsimp only;omega) hS0 hS1
  (fun t ht=>(nB hN0 t ht).2) (fun t ht=>(nB hN1 t ht).2) hm0 hm1
 exact ⟨o1++o2,by rw [e1,e2,List.append_assoc],by simp;omega⟩
theorem rY {m h t n:Int} (h1:-1000000000000<=m/\m<=1000000000000) (h2:0<=h/\h<=1000000000000) (ht:0<=t/\t<=1000000) (hn:0<=n/\n<=1000000):cA ⟨m,h,PT,[⟨t,n⟩]⟩=0:=by
 unfold cA;rw [if_neg (by dsimp only;omega),if_neg (show ¬fA PT≠0 by decide)]
 have h0:jD [⟨t,n⟩] 0=0:=by
  unfold jD
  dsimp only [List.getElem?_cons_zero]
  rw [if_neg (by omega),if_neg (by omega)]
 unfold fx cO
 rw [if_neg (by simp)]
 simp [scan,h0]
theorem take_one {ax:List bF} {due:List Int} {cs:List bE} {bk:List Entry} {num k s v:Int} {a:bF} (ha:ax[k.toNat]?=some a) (hp:0<=a.aD/\a.aD<=7) (hd:due[a.aD.toNat]?=some v) (hv:-1000000000000<=v/\v<=1000000000000) (hs:1<=s/\s<=1000000) (hb:(du bk).err=0)
  (h3:-1000000000000<=cE bk 1 - s) (h4:cE bk (50+a.aD)+s<=1000000000000):
  ∃ r,ef ax due cs bk 0 ⟨num,1,k,s⟩=(due.set a.aD.toNat (v+s),cs,r,0)/\(du r).err=0/\∀ x,cE r x=cE bk x+(if x=50+a.aD then s else 0) - (if x=1 then s else 0):=by
 obtain ⟨r,hr,hrw,hrg⟩:=mo (l:=bk) (src:=1) (dst:=50+a.aD) (n:=s) hb (by omega) (by omega) (by omega) (by omega) h3 h4
 refine ⟨r,?_,hrw,hrg⟩
 have hD:due.getD a.aD.toNat 0=v:=by rw [List.getD_eq_getElem?_getD,hd];rfl
 unfold ef
 dsimp only
 rw [ha]
 dsimp only
 rw [if_pos rfl,hr,hD,IntWalk.i64_in _ (by omega)]
theorem Ba {s:bX} {k n v:Int} (h:(ct s).err=0) (hl:s.kept.length < 40) (hs:s.bL < 1000000) (hk:1<=k/\k<=3) (ha:0<=n/\n<=29) (hv:1<=v/\v<=1000000):
  fL s ⟨0,k,n,v⟩=(⟨s.bL+1,s.kept++[⟨s.bL+1,k,n,v⟩]⟩,0)/\(ct ⟨s.bL+1,s.kept++[⟨s.bL+1,k,n,v⟩]⟩).err=0:=by
 obtain ⟨h1,h2,h3,h4⟩:=sy h
 have hw:(ct ⟨s.bL+1,s.kept++[⟨s.bL+1,k,n,v⟩]⟩).err=0:=by
  refine yy (by simp;omega) (by simp;omega) (by dsimp only;omega) fun i t ht=>?_
  dsimp only at ht ⊢
  rw [List.length_append,List.length_singleton]
  rcases Nat.lt_or_ge i s.kept.length with hi|hi
  ·rw [List.getElem?_append_left hi] at ht
   have:=h4 i t ht
   refine ⟨this.1,this.2.1,this.2.2.1,this.2.2.2.1,this.2.2.2.2.1,this.2.2.2.2.2.1,?_⟩
   have:=this.2.2.2.2.2.2;omega
  ·rw [List.getElem?_append_right hi] at ht
   obtain ⟨hz,rfl⟩:=List.getElem?_eq_some_iff.1 ht
   simp at hz
   simp only [List.getElem_singleton]
   omega
 refine ⟨?_,hw⟩
 unfold fL
 rw [if_neg (fun z=>z h),if_neg (fun z=>z hw)]
 rfl
theorem Ac {b:Bk} {n s v:Int} {a a':bF} {s':bX} (hd:b.down=false) (hs:1<=s/\s<=1000000) (hn:0<=n) (ha:b.ax[n.toNat]?=some a) (hM:bV a 5 s=(a',0)) (hk:0<=a'.aD/\a'.aD<=7)
  (hv:b.due[a'.aD.toNat]?=some v) (h1:-1000000000000<=v/\v<=1000000000000) (hb:(du b.book).err=0) (h4:-1000000000000<=cE b.book (50+a'.aD) - s) (h5:cE b.book 1+s<=1000000000000) (hP:fL b.s1 ⟨0,2,n,s⟩=(s',0)) (hT:b.aR.length < 100):
  ∃ r,(∀ y,df b y ⟨0,3,n,0,5,s⟩=({b with due:=b.due.set a'.aD.toNat (v - s),book:=r,s1:=s',aR:=b.aR++[⟨a'.aD,n,5,s⟩],ax:=b.ax.set n.toNat a'},y,⟨0,0⟩))/\
   (du r).err=0/\∀ x,cE r x=cE b.book x+(if x=1 then s else 0) - (if x=50+a'.aD then s else 0):=by
 have hlt:=(List.getElem?_eq_some_iff.1 ha).1
 obtain ⟨r,hr,hrw,hrg⟩:=mo (l:=b.book) (src:=50+a'.aD) (dst:=1) (n:=s) hb (by omega) (by omega) (by omega) (by omega) h4 h5
 refine ⟨r,fun y=>?_,hrw,hrg⟩
 have hD:b.due.getD a'.aD.toNat 0=v:=by rw [List.getD_eq_getElem?_getD,hv];rfl
 have hL:dx b ⟨0,3,n,0,5,s⟩=({b with due:=b.due.set a'.aD.toNat (v - s),book:=r,s1:=s',aR:=b.aR++[⟨a'.aD,n,5,s⟩],ax:=b.ax.set n.toNat a'},⟨0,0⟩):=by
  unfold dx
  rw [if_neg (by rw [hd];decide),if_neg (by dsimp only;omega)]
  dsimp only
  rw [ha]
  dsimp only
  rw [hM,if_neg (by simp),if_neg (by omega)]
  unfold dS
  dsimp only
  rw [if_neg (by omega),if_neg (by omega),if_pos rfl,hr,hD,IntWalk.i64_in _ (by omega)]
  dsimp only
  unfold eM
  rw [hP]
  unfold mT iO
  dsimp only
  rw [if_pos (show dD 0 0=0 from rfl),if_neg (show ¬b.aR.length=100 by omega)]
  rfl
 unfold df;rw [if_neg (by dsimp only;omega),if_neg (by dsimp only;omega),if_pos rfl,hL]
theorem AD {ax:List bF} {due:List Int} {cs:List bE} {bk:List Entry} {num k s:Int} {a:bF} {c:bE} (ha:ax[k.toNat]?=some a) (hp:0<=a.aO/\a.aO<=7) (hc:cs[a.aO.toNat]?=some c) (hw:cA c=0) (hm:c.bx+s<=1000000000000) (hs:1<=s/\s<=1000000) (hb:(du bk).err=0)
  (h3:-1000000000000<=cE bk 1 - s) (h4:cE bk (10+a.aO)+s<=1000000000000):
  ∃ r,ef ax due cs bk 0 ⟨num,2,k,s⟩=(due,cs.set a.aO.toNat ⟨c.bx+s,c.held,c.ch,c.cO⟩,r,0)/\(du r).err=0/\∀ x,cE r x=cE bk x+(if x=10+a.aO then s else 0) - (if x=1 then s else 0):=by
 have hR:=gO hw
 obtain ⟨r,hr,hrw,hrg⟩:=mo (l:=bk) (src:=1) (dst:=10+a.aO) (n:=s) hb (by omega) (by omega) (by omega) (by omega) h3 h4
 refine ⟨r,?_,hrw,hrg⟩
 have hS:=pa (l:=cs) (k:=a.aO) (held:=0) (bx:=s) hc hw (by omega) (by omega) (by omega) (by omega)
 unfold ef
 dsimp only
 rw [ha]
 dsimp only
 rw [if_neg (by omega),if_pos rfl,hS]
 dsimp only
 rw [hr,Int.add_zero]
theorem Db {a:bF} {n:Int} (hw:bG a=0) (hs:1<=n/\n<=1000000) (h:n<=a.captured - a.bD - a.bq):bV a 5 n=(⟨a.aO,a.aD,a.sum,a.captured,a.bD+n,a.bq,a.cY,a.shut⟩,0):=by
 unfold bV
 rw [if_neg (fun h=>h hw),if_neg (by omega),if_neg (by omega),if_pos rfl,if_neg (by omega)]
structure GT (r:List Entry) (a0 a1 a2 xL xK:Int):Prop where
 right:(du r).err=0
 e0:cE r 0=a0
 e1:cE r 1=a1
 e2:cE r 2=a2
 JF:cE r 10=xL
 JE:cE r 50=xK
 z:∀ x,x≠0->x≠1->x≠2->x≠10->x≠50->cE r x=0
def dE (x dst src s:Int):Int:=(if x=dst then s else 0) - (if x=src then s else 0)
theorem GT.step {r r':List Entry} {a0 a1 a2 xL xK:Int} (H:GT r a0 a1 a2 xL xK) {dst src s:Int} (hw:(du r').err=0) (hg:∀ x,cE r' x=cE r x+(if x=dst then s else 0) - (if x=src then s else 0))
  (hd:dst=0\/dst=1\/dst=2\/dst=10\/dst=50) (hs:src=0\/src=1\/src=2\/src=10\/src=50):GT r' (a0+dE 0 dst src s) (a1+dE 1 dst src s) (a2+dE 2 dst src s) (xL+dE 10 dst src s) (xK+dE 50 dst src s):=by
 have hg':∀ x,cE r' x=cE r x+dE x dst src s:=fun x=>by rw [hg];unfold dE;omega
 refine ⟨hw,by rw [hg',H.e0],by rw [hg',H.e1],by rw [hg',H.e2],by rw [hg',H.JF],by rw [hg',H.JE],fun x h0 h1 h2 h3 h4=>?_⟩
 rw [hg',H.z x h0 h1 h2 h3 h4]
 unfold dE
 rw [if_neg (by omega),if_neg (by omega)];rfl
theorem GT.cast {r:List Entry} {a0 a1 a2 xL xK b0 b1 b2 b10 b50:Int} (H:GT r a0 a1 a2 xL xK) (h0:a0=b0) (h1:a1=b1) (h2:a2=b2) (h10:xL=b10) (h50:xK=b50):GT r b0 b1 b2 b10 b50:=by
 subst h0 h1 h2 h10 h50;exact H
def eY:List aT->Int
 |[]=>0
 |t::l=>t.sum+eY l
theorem ux (l:List aT) (t:aT):eY (l++[t])=eY l+t.sum:=by
 induction l with
 |nil=>simp [eY]
 |cons x l ih=>simp only [List.cons_append,eY,ih];omega
theorem pv:∀ {l:List aT} {n:Int} {t:aT},lM l n->t.number=n+l.length+1->lM (l++[t]) n
 |[],n,t,_,h=>⟨by simp at h;omega,trivial⟩
 |x::l,n,t,hn,h=>⟨hn.1,pv hn.2 (by rw [List.length_cons] at h;omega)⟩
structure KT (k:List aT) (m:Int):Prop where
 all:∀ t∈k,t.kind=2/\t.bc=0/\1<=t.sum/\t.sum<=1000000
 wA:lM k 0
 sum:eY k=m
 right:(ct ⟨k.length,k⟩).err=0
def kS (k:List aT) (n:Int):List aT:=k++[⟨(k.length:Int)+1,2,0,n⟩]
theorem Ge (k:List aT) (n:Int):(kS k n).length=k.length+1:=by simp [kS]
theorem KT.snoc {k:List aT} {m n:Int} (H:KT k m) (hl:k.length < 40) (hn:1<=n/\n<=1000000):fL ⟨k.length,k⟩ ⟨0,2,0,n⟩=(⟨(kS k n).length,kS k n⟩,0)/\KT (kS k n) (m+n):=by
 obtain ⟨h1,h2⟩:=Ba (k:=2) (n:=0) (v:=n) H.right hl (by dsimp only;omega) (by omega) (by omega) hn
 have e:((kS k n).length:Int)=k.length+1:=by rw [Ge];rfl
 refine ⟨by rw [e];exact h1,fun t ht=>?_,pv H.wA (by dsimp only;omega),by unfold kS;rw [ux,H.sum],by rw [e];exact h2⟩
 rcases List.mem_append.1 ht with ht|ht
 ·exact H.all t ht
 ·rw [List.mem_singleton.1 ht];exact ⟨rfl,rfl,hn⟩
end Go.Proofs.Ytegepioggeggaaa.Dev
