/- paytop.TopDays. -/
import Derived.Test.YtegepioggeggaaaD16
set_option linter.unusedVariables false
set_option linter.unusedSimpArgs false
set_option maxHeartbeats 16000000
set_option maxRecDepth 100000
namespace Go.Proofs.Ytegepioggeggaaa.Dev
open Go.RowKit

theorem Cf (has:Int) (l:List Int):Fn Try.prog 16 [(.c (cI has)),(.c (fB l))] (aB true) []:=by
 refine Fn.mk' 115 [(0,(aI has)),(1,(aC (fB l)))] Try.func16 rfl rfl rfl rfl ?_
 intro W0 T0
 refine dr 1 rfl (fun hlen1=>?_)
 refine ae aa 1 rfl ?_
 refine ag ?_
 refine eB ?_
 refine aN 0 [] (bQ 0 (DZ) Ju rfl rfl trivial trivial trivial rfl rfl rfl rfl) rfl ?_
 refine ad aa 1 rfl ?_
 refine af ?_
 refine ah rfl (fun hno=>by cases hno) (fun _=>?_)
 refine aQ ?_
 refine ag ?_
 refine aH aa 1 rfl ?_
 refine aN 1 [0] (dy (ys:=[(0,(.c (cI has)))]) (rows:=([has]).map rI) 0 nh rfl (by decide) ⟨⟨rfl,rfl⟩,trivial⟩ rfl rfl rfl rfl) rfl ?_
 refine mX (s':=[(0,(aI has)),(1,(aC (fB l))),(4,(aB false)),(14,(aB true)),(15,(aB false)),(16,(aI has)),(17,(aC (fB ([has]))))]) (h':=[]) 0 rfl ⟨⟨_,rfl,.inl ⟨rfl,rfl⟩⟩,⟨_,rfl,.inl ⟨rfl,rfl⟩⟩,⟨_,rfl,.inl ⟨rfl,rfl⟩⟩,⟨_,rfl,.inl ⟨rfl,rfl⟩⟩,⟨_,rfl,.inl ⟨rfl,rfl⟩⟩,⟨_,rfl,.inl ⟨rfl,rfl⟩⟩,⟨_,rfl,.inr ⟨_,_,rfl,rfl,.s rfl (by decide) (by first|omega|(simp;done)|(simp;omega))⟩⟩,trivial⟩ trivial rfl ?_
 obtain ⟨r0,hr0⟩:∃ (r0:Bool),nv ([has])=r0:=⟨_,rfl⟩
 refine aN 1 [] (bQ 1 (Fx ([has]) r0 hr0) Jt rfl rfl ⟨⟨_,rfl,.c (.d _)⟩,trivial⟩ trivial trivial rfl rfl rfl rfl) rfl ?_
 refine ad aa 2 rfl ?_
 refine bI (t:=20) rfl (fun hb2=>?_) (fun hb2=>?_)
 ·
  have hb2':=hb2;try simp only [bu,bU] at hb2'
  refine ad aa 4 rfl ?_
  refine af ?_
  refine ah rfl (fun _=>?_) (fun hno=>by cases hno)
  refine ae aa 1 rfl ?_
  refine az ?_
  refine aq ?_
  refine an aa [] 0 rfl rfl rfl rfl rfl rfl ?_ ?_
  ·rfl
  ·rfl
 have hb2':=hb2;try simp only [bu,bU] at hb2'
 refine ad aa 1 rfl ?_
 refine dQ (ak.yes rfl rfl rfl) (cM rfl rfl rfl rfl rfl Try.underlying30) rfl rfl ?_
 refine ad aa 2 rfl ?_
 refine af ?_
 refine ah rfl (fun hc4=>?_) (fun hc4=>?_)
 ·
  have hc4':=of_decide_eq_true hc4
  refine ae aa 1 rfl ?_
  refine az ?_
  refine aq ?_
  refine an aa [] 0 rfl rfl rfl rfl rfl rfl ?_ ?_
  ·rfl
  ·rfl
 have hc4':=of_decide_eq_false hc4
 refine aQ ?_
 have hsm:=FL hr0 (by assumption)
 refine aH aa 1 rfl ?_
 refine aN 1 [] (bQ 1 (lY 1 0 has) ox rfl rfl ⟨⟨_,rfl,.c (.d _)⟩,⟨_,rfl,.c (.d _)⟩,⟨_,rfl,.c (.d _)⟩,trivial⟩ ⟨trivial,trivial,trivial,trivial,trivial,trivial,trivial⟩ trivial rfl rfl rfl rfl) rfl ?_
 refine ad aa 2 rfl ?_
 refine aN 2 [1] (dy (ys:=[(0,(.g [(cI 0),(cI 1),(cI 0),(cI 0),(cI 0),(cI has)])),(1,(.g [(cI 0),(cI 2),(cI 0),(cI 1),(cI 0),(cI has)]))]) (rows:=([(⟨0,1,0,0,0,has⟩:aW),(⟨0,2,0,1,0,has⟩:aW)]).map cQ) 1 jF rfl (by decide) ⟨⟨rfl,rfl⟩,⟨rfl,rfl⟩,trivial⟩ rfl rfl rfl rfl) rfl ?_
 refine ad aa 1 rfl ?_
 refine af ?_
 refine ag ?_
 refine aH aa 1 rfl ?_
 refine aA (cM rfl rfl rfl rfl rfl Try.underlying30) rfl ?_
 refine ad aa 1 rfl ?_
 refine af ?_
 refine aX ?_
 refine cw (β:=Nat×List aW) (fun (p:Nat×List aW)=>match p with|(q,m0)=>⟨[(4,(aB false)),(5,(aC (.s 1 0 6 m0.length))),(30,(aC (fB l))),(31,(aI (↑l.length:Int))),(32,(aI (↑q:Int)))],[(1,(ra m0))],2⟩) (fun (p:Nat×List aW)=>match p with|(q,m0)=>q<=l.length/\m0=[(⟨0,1,0,0,0,has⟩:aW),⟨0,2,0,1,0,has⟩]++(l.take q).map kC/\m0.length=2+q) (fun (p:Nat×List aW)=>match p with|(q,m0)=>l.length - q) (0,[(⟨0,1,0,0,0,has⟩:aW),(⟨0,2,0,1,0,has⟩:aW)]) ?_ ?_ ?_
 ·exact ⟨by omega,by simp,rfl⟩
 ·exact aF.bW id (by refine ⟨?_,?_,?_,?_,?_,trivial⟩<;>first|rfl|(simp only [bm];done)|(congr 3;omega)|(congr 4;omega)|(simp only [bn];rfl)|(first|exact cz rfl (by omega)|exact fD rfl (by first|omega|(simp only [List.length_append,List.length_cons,List.length_nil] at *;omega)))) (⟨by first|rfl|(simp only [bm];done)|(congr 3;omega)|(congr 4;omega)|(simp only [bn];rfl),trivial⟩) rfl
 rintro ⟨q,m0⟩ ⟨hi0_0,hi0_1,hi0_2⟩
 refine ae aa 1 rfl ?_
 refine ag ?_
 refine ah rfl (fun hc5=>?_) (fun hc5=>?_)
 ·
  have hc5':=of_decide_eq_true hc5
  refine aQ ?_
  refine ag ?_
  refine aX ?_
  refine eB ?_
  obtain ⟨x1,hx1⟩:=ck (xs:=l) (i:=q) (by first|omega|(simp;done)|(simp;omega))
  refine aA (cH (i:=q) rfl rfl rfl Try.underlying30 fX (by first|omega|(simp;done)|(simp;omega)) (bw hx1)) rfl ?_
  refine ad aa 2 rfl ?_
  refine af ?_
  refine ae aa 2 rfl ?_
  refine ah rfl (fun hc6=>?_) (fun hc6=>?_)
  ·
   have hc6':=of_decide_eq_true hc6
   refine au ?_
   refine ad aa 2 rfl ?_
   refine aN 2 [1] (bQ 2 (ud 2 0 x1) DG rfl rfl ⟨⟨_,rfl,.c (.d _)⟩,⟨_,rfl,.c (.d _)⟩,⟨_,rfl,.c (.d _)⟩,trivial⟩ ⟨trivial,trivial,trivial,trivial,trivial,trivial,trivial⟩ trivial rfl rfl rfl rfl) rfl ?_
   refine aN 3 [2,1] (dy (ys:=[(0,(.g [(cI 0),(cI 3),(cI 0),(cI 0),(cI 2),(cI x1)]))]) (rows:=([(⟨0,3,0,0,2,x1⟩:aW)]).map cQ) 2 jF rfl (by decide) ⟨⟨rfl,rfl⟩,trivial⟩ rfl rfl rfl rfl) rfl ?_
   refine aN 4 [3,2] (cX (m:=1) (N:=m0.length+1) (k2:=3) (ys:=([(⟨0,3,0,0,2,x1⟩:aW)]).map cQ) jF rfl rfl rfl rfl rfl rfl (by first|omega|(simp;done)|(simp;omega)) rfl (.s rfl (by first|omega|(simp;done)|(simp;omega))) (by first|omega|(simp;done)|(simp;omega)) (by first|omega|(simp;done)|(simp;omega)) eH (by decide) (by first|omega|(simp;done)|(simp;omega)) (by first|omega|(simp;done)|(simp;omega))) rfl ?_
   refine ad aa 1 rfl ?_
   refine bY ?_
   refine bh ?_
   refine then_ok ?_
   refine au ?_
   refine aA (aL rfl rfl rfl (aJ (by first|omega|(simp;done)|(simp;omega)))) rfl ?_
   refine ad aa 1 rfl ?_
   refine af ?_
   refine ⟨(q+1,m0++([(⟨0,3,0,0,2,x1⟩:aW)])),⟨by omega,by first|exact yZ hi0_1 hx1 (by omega)|exact za hi0_1 hx1 (by omega),by (first|omega|(simp only [List.length_append,List.length_cons,List.length_nil] at *;omega))⟩,by first|omega|(simp;done)|(simp;omega),aF.bW (fun k=>if k=1 then 3 else k) (by refine ⟨?_,?_,?_,?_,?_,trivial⟩<;>first|rfl|(simp only [bm];done)|(congr 3;omega)|(congr 4;omega)|(simp only [bn];rfl)|(first|exact cz rfl (by omega)|exact fD rfl (by first|omega|(simp only [List.length_append,List.length_cons,List.length_nil] at *;omega)))) (⟨by first|rfl|(simp only [bm];done)|(congr 3;omega)|(congr 4;omega)|(simp only [bn];rfl),trivial⟩) rfl⟩
  have hc6':=of_decide_eq_false hc6
  refine au ?_
  refine ad aa 2 rfl ?_
  refine aA (Gr rfl rfl rfl rfl rfl) rfl ?_
  refine aA (pJ rfl rfl (aJ (by first|omega|(simp;done)|(simp;omega)))) rfl ?_
  refine aN 2 [1] (bQ 2 (ud 5 0 (0 - (if (-1000000) > x1 then (-1000000) else x1))) DG rfl rfl ⟨⟨_,rfl,.c (.d _)⟩,⟨_,rfl,.c (.d _)⟩,⟨_,rfl,.c (.d _)⟩,trivial⟩ ⟨trivial,trivial,trivial,trivial,trivial,trivial,trivial⟩ trivial rfl rfl rfl rfl) rfl ?_
  refine aN 3 [2,1] (dy (ys:=[(0,(.g [(cI 0),(cI 3),(cI 0),(cI 0),(cI 5),(cI (0 - (if (-1000000) > x1 then (-1000000) else x1)))]))]) (rows:=([(⟨0,3,0,0,5,0 - (if (-1000000) > x1 then (-1000000) else x1)⟩:aW)]).map cQ) 2 jF rfl (by decide) ⟨⟨rfl,rfl⟩,trivial⟩ rfl rfl rfl rfl) rfl ?_
  refine aN 4 [3,2] (cX (m:=1) (N:=m0.length+1) (k2:=3) (ys:=([(⟨0,3,0,0,5,0 - (if (-1000000) > x1 then (-1000000) else x1)⟩:aW)]).map cQ) jF rfl rfl rfl rfl rfl rfl (by first|omega|(simp;done)|(simp;omega)) rfl (.s rfl (by first|omega|(simp;done)|(simp;omega))) (by first|omega|(simp;done)|(simp;omega)) (by first|omega|(simp;done)|(simp;omega)) eH (by decide) (by first|omega|(simp;done)|(simp;omega)) (by first|omega|(simp;done)|(simp;omega))) rfl ?_
  refine ad aa 1 rfl ?_
  refine bY ?_
  refine bh ?_
  refine then_ok ?_
  refine au ?_
  refine aA (aL rfl rfl rfl (aJ (by first|omega|(simp;done)|(simp;omega)))) rfl ?_
  refine ad aa 1 rfl ?_
  refine af ?_
  refine ⟨(q+1,m0++([(⟨0,3,0,0,5,0 - (if (-1000000) > x1 then (-1000000) else x1)⟩:aW)])),⟨by omega,by first|exact yZ hi0_1 hx1 (by omega)|exact za hi0_1 hx1 (by omega),by (first|omega|(simp only [List.length_append,List.length_cons,List.length_nil] at *;omega))⟩,by first|omega|(simp;done)|(simp;omega),aF.bW (fun k=>if k=1 then 3 else k) (by refine ⟨?_,?_,?_,?_,?_,trivial⟩<;>first|rfl|(simp only [bm];done)|(congr 3;omega)|(congr 4;omega)|(simp only [bn];rfl)|(first|exact cz rfl (by omega)|exact fD rfl (by first|omega|(simp only [List.length_append,List.length_cons,List.length_nil] at *;omega)))) (⟨by first|rfl|(simp only [bm];done)|(congr 3;omega)|(congr 4;omega)|(simp only [bn];rfl),trivial⟩) rfl⟩
 have hc5':=of_decide_eq_false hc5
 refine cj ?_
 refine aP ?_
 refine aP ?_
 refine bK ?_
 refine then_ok ?_
 refine aH aa 2 rfl ?_
 refine aN 3 [2,1] (dy (ys:=[(0,(.g [(cI 0),(cI 10),(cI 0),(cI 0),(cI 0),(cI 0)]))]) (rows:=([(⟨0,10,0,0,0,0⟩:aW)]).map cQ) 2 jF rfl (by decide) ⟨⟨rfl,rfl⟩,trivial⟩ rfl rfl rfl rfl) rfl ?_
 refine aN 4 [3,2] (cX (m:=1) (N:=m0.length+1) (k2:=3) (ys:=([(⟨0,10,0,0,0,0⟩:aW)]).map cQ) jF rfl rfl rfl rfl rfl rfl (by first|omega|(simp;done)|(simp;omega)) rfl (.s rfl (by first|omega|(simp;done)|(simp;omega))) (by first|omega|(simp;done)|(simp;omega)) (by first|omega|(simp;done)|(simp;omega)) eH (by decide) (by first|omega|(simp;done)|(simp;omega)) (by first|omega|(simp;done)|(simp;omega))) rfl ?_
 refine ad aa 1 rfl ?_
 refine af ?_
 refine ag ?_
 refine ae aa 1 rfl ?_
 refine aX ?_
 refine cw (β:=Nat×List aW) (fun (p:Nat×List aW)=>match p with|(i,m1)=>⟨[(4,(aB false)),(5,(aC (.s 3 0 6 m1.length))),(30,(aC (fB l))),(31,(aI (↑l.length:Int))),(32,(aI (↑q:Int))),(55,(aI (↑i:Int)))],[(3,(ra m1))],4⟩) (fun (p:Nat×List aW)=>match p with|(i,m1)=>i<=2/\m1++oB (2 - i)=m0++[(⟨0,10,0,0,0,0⟩:aW)]++oB 2/\m1.length+18 * (2 - i)=m0.length+37) (fun (p:Nat×List aW)=>match p with|(i,m1)=>2 - i) (0,m0++([(⟨0,10,0,0,0,0⟩:aW)])) ?_ ?_ ?_
 ·exact ⟨by omega,rfl,by simp⟩
 ·exact aF.bW id (by refine ⟨?_,?_,?_,?_,?_,?_,trivial⟩<;>first|rfl|(simp only [bm];done)|(congr 3;omega)|(congr 4;omega)|(simp only [bn];rfl)|(first|exact cz rfl (by omega)|exact fD rfl (by first|omega|(simp only [List.length_append,List.length_cons,List.length_nil] at *;omega)))) (⟨by first|rfl|(simp only [bm];done)|(congr 3;omega)|(congr 4;omega)|(simp only [bn];rfl),trivial⟩) rfl
 rintro ⟨i,m1⟩ ⟨hi1_0,hi1_1,hi1_2⟩
 refine ae aa 1 rfl ?_
 refine ag ?_
 refine ah rfl (fun hc7=>?_) (fun hc7=>?_)
 ·
  have hc7':=of_decide_eq_true hc7
  refine aQ ?_
  refine ag ?_
  refine aX ?_
  refine aH aa 1 rfl ?_
  refine aN 4 [3] (bQ 4 (lY 5 0 0) ox rfl rfl ⟨⟨_,rfl,.c (.d _)⟩,⟨_,rfl,.c (.d _)⟩,⟨_,rfl,.c (.d _)⟩,trivial⟩ ⟨trivial,trivial,trivial,trivial,trivial,trivial,trivial⟩ trivial rfl rfl rfl rfl) rfl ?_
  refine aN 4 [3] (bQ 4 (lY 5 1 0) ox rfl rfl ⟨⟨_,rfl,.c (.d _)⟩,⟨_,rfl,.c (.d _)⟩,⟨_,rfl,.c (.d _)⟩,trivial⟩ ⟨trivial,trivial,trivial,trivial,trivial,trivial,trivial⟩ trivial rfl rfl rfl rfl) rfl ?_
  refine aN 5 [4,3] (dy (ys:=[(0,(.g [(cI 0),(cI 5),(cI 0),(cI 0),(cI 0),(cI 0)])),(1,(.g [(cI 0),(cI 5),(cI 1),(cI 0),(cI 0),(cI 0)]))]) (rows:=([(⟨0,5,0,0,0,0⟩:aW),(⟨0,5,1,0,0,0⟩:aW)]).map cQ) 4 jF rfl (by decide) ⟨⟨rfl,rfl⟩,⟨rfl,rfl⟩,trivial⟩ rfl rfl rfl rfl) rfl ?_
  refine aN 6 [5,4] (cX (m:=2) (N:=m1.length+2) (k2:=5) (ys:=([(⟨0,5,0,0,0,0⟩:aW),(⟨0,5,1,0,0,0⟩:aW)]).map cQ) jF rfl rfl rfl rfl rfl rfl (by first|omega|(simp;done)|(simp;omega)) rfl (.s rfl (by first|omega|(simp;done)|(simp;omega))) (by first|omega|(simp;done)|(simp;omega)) (by first|omega|(simp;done)|(simp;omega)) eH (by decide) (by first|omega|(simp;done)|(simp;omega)) (by first|omega|(simp;done)|(simp;omega))) rfl ?_
  refine ad aa 1 rfl ?_
  refine af ?_
  refine ae aa 1 rfl ?_
  refine aX ?_
  refine cw (β:=Nat×List aW) (fun (p:Nat×List aW)=>match p with|(j,m2)=>⟨[(4,(aB false)),(5,(aC (.s 5 0 6 m2.length))),(30,(aC (fB l))),(31,(aI (↑l.length:Int))),(32,(aI (↑q:Int))),(55,(aI (↑i:Int))),(62,(aI (↑j:Int)))],[(5,(ra m2))],6⟩) (fun (p:Nat×List aW)=>match p with|(j,m2)=>j<=2/\m2++sl j=m1++fb 8/\m2.length+8 * (2 - j)=m1.length+18) (fun (p:Nat×List aW)=>match p with|(j,m2)=>2 - j) (0,m1++([(⟨0,5,0,0,0,0⟩:aW),(⟨0,5,1,0,0,0⟩:aW)])) ?_ ?_ ?_
  ·exact ⟨by omega,by simp [fb,sl],by simp⟩
  ·exact aF.bW id (by refine ⟨?_,?_,?_,?_,?_,?_,?_,trivial⟩<;>first|rfl|(simp only [bm];done)|(congr 3;omega)|(congr 4;omega)|(simp only [bn];rfl)|(first|exact cz rfl (by omega)|exact fD rfl (by first|omega|(simp only [List.length_append,List.length_cons,List.length_nil] at *;omega)))) (⟨by first|rfl|(simp only [bm];done)|(congr 3;omega)|(congr 4;omega)|(simp only [bn];rfl),trivial⟩) rfl
  rintro ⟨j,m2⟩ ⟨hi2_0,hi2_1,hi2_2⟩
  refine ae aa 1 rfl ?_
  refine ag ?_
  refine ah rfl (fun hc8=>?_) (fun hc8=>?_)
  ·
   have hc8':=of_decide_eq_true hc8
   refine aQ ?_
   refine ag ?_
   refine aX ?_
   refine ae aa 2 rfl ?_
   refine ae aa 1 rfl ?_
   refine aX ?_
   refine cw (β:=Nat×List aW) (fun (p:Nat×List aW)=>match p with|(k,m3)=>⟨[(4,(aB false)),(5,(aC (.s 5 0 6 m3.length))),(30,(aC (fB l))),(31,(aI (↑l.length:Int))),(32,(aI (↑q:Int))),(55,(aI (↑i:Int))),(62,(aI (↑j:Int))),(8,(aI (↑j:Int))),(65,(aI (↑k:Int)))],[(5,(ra m3))],6⟩) (fun (p:Nat×List aW)=>match p with|(k,m3)=>k<=8/\m3++dd (↑j) (8 - k)=m2++dd (↑j) 8/\m3.length+(8 - k)=m2.length+8) (fun (p:Nat×List aW)=>match p with|(k,m3)=>8 - k) (0,m2) ?_ ?_ ?_
   ·exact ⟨by omega,rfl,by omega⟩
   ·exact aF.bW id (by refine ⟨?_,?_,?_,?_,?_,?_,?_,?_,?_,trivial⟩<;>first|rfl|(simp only [bm];done)|(congr 3;omega)|(congr 4;omega)|(simp only [bn];rfl)|(first|exact cz rfl (by omega)|exact fD rfl (by first|omega|(simp only [List.length_append,List.length_cons,List.length_nil] at *;omega)))) (⟨by first|rfl|(simp only [bm];done)|(congr 3;omega)|(congr 4;omega)|(simp only [bn];rfl),trivial⟩) rfl
   rintro ⟨k,m3⟩ ⟨hi3_0,hi3_1,hi3_2⟩
   refine ae aa 1 rfl ?_
   refine ag ?_
   refine ah rfl (fun hc9=>?_) (fun hc9=>?_)
   ·
    have hc9':=of_decide_eq_true hc9
    refine aQ ?_
    refine ag ?_
    refine aX ?_
    refine au ?_
    refine ad aa 2 rfl ?_
    refine aN 6 [5] (bQ 6 (lY 6 (↑j:Int) 0) ox rfl rfl ⟨⟨_,rfl,.c (.d _)⟩,⟨_,rfl,.c (.d _)⟩,⟨_,rfl,.c (.d _)⟩,trivial⟩ ⟨trivial,trivial,trivial,trivial,trivial,trivial,trivial⟩ trivial rfl rfl rfl rfl) rfl ?_
    refine aN 7 [6,5] (dy (ys:=[(0,(.g [(cI 0),(cI 6),(cI (↑j:Int)),(cI 0),(cI 0),(cI 0)]))]) (rows:=([(⟨0,6,(↑j:Int),0,0,0⟩:aW)]).map cQ) 6 jF rfl (by decide) ⟨⟨rfl,rfl⟩,trivial⟩ rfl rfl rfl rfl) rfl ?_
    refine aN 8 [7,6] (cX (m:=1) (N:=m3.length+1) (k2:=7) (ys:=([(⟨0,6,(↑j:Int),0,0,0⟩:aW)]).map cQ) jF rfl rfl rfl rfl rfl rfl (by first|omega|(simp;done)|(simp;omega)) rfl (.s rfl (by first|omega|(simp;done)|(simp;omega))) (by first|omega|(simp;done)|(simp;omega)) (by first|omega|(simp;done)|(simp;omega)) eH (by decide) (by first|omega|(simp;done)|(simp;omega)) (by first|omega|(simp;done)|(simp;omega))) rfl ?_
    refine ad aa 1 rfl ?_
    refine bY ?_
    refine bh ?_
    refine then_ok ?_
    refine au ?_
    refine aA (aL rfl rfl rfl (aJ (by first|omega|(simp;done)|(simp;omega)))) rfl ?_
    refine ad aa 1 rfl ?_
    refine af ?_
    refine ⟨(k+1,m3++([(⟨0,6,(↑j:Int),0,0,0⟩:aW)])),⟨by omega,by rw [<-hi3_1,An (m:=8) (k:=k) (by omega),List.append_assoc],by simp only [List.length_append,List.length_cons,List.length_nil];omega⟩,by first|omega|(simp;done)|(simp;omega),aF.bW (fun k=>if k=5 then 7 else k) (by refine ⟨?_,?_,?_,?_,?_,?_,?_,?_,?_,trivial⟩<;>first|rfl|(simp only [bm];done)|(congr 3;omega)|(congr 4;omega)|(simp only [bn];rfl)|(first|exact cz rfl (by omega)|exact fD rfl (by first|omega|(simp only [List.length_append,List.length_cons,List.length_nil] at *;omega)))) (⟨by first|rfl|(simp only [bm];done)|(congr 3;omega)|(congr 4;omega)|(simp only [bn];rfl),trivial⟩) rfl⟩
   have hc9':=of_decide_eq_false hc9
   refine cj ?_
   refine aP ?_
   refine aP ?_
   refine bK ?_
   refine bh ?_
   refine then_ok ?_
   refine au ?_
   refine aA (aL rfl rfl rfl (aJ (by first|omega|(simp;done)|(simp;omega)))) rfl ?_
   refine ad aa 1 rfl ?_
   refine af ?_
   refine ⟨(j+1,m3),⟨by omega,by rw [<-hi2_1,zt (j:=j) (by omega),<-List.append_assoc,<-hi3_1,(show 8 - k=0 by omega)];simp [dd],by omega⟩,by first|omega|(simp;done)|(simp;omega),aF.bW id (by refine ⟨?_,?_,?_,?_,?_,?_,?_,trivial⟩<;>first|rfl|(simp only [bm];done)|(congr 3;omega)|(congr 4;omega)|(simp only [bn];rfl)|(first|exact cz rfl (by omega)|exact fD rfl (by first|omega|(simp only [List.length_append,List.length_cons,List.length_nil] at *;omega)))) (⟨by first|rfl|(simp only [bm];done)|(congr 3;omega)|(congr 4;omega)|(simp only [bn];rfl),trivial⟩) rfl⟩
  have hc8':=of_decide_eq_false hc8
  refine cj ?_
  refine aP ?_
  refine aP ?_
  refine bK ?_
  refine bh ?_
  refine then_ok ?_
  refine au ?_
  refine aA (aL rfl rfl rfl (aJ (by first|omega|(simp;done)|(simp;omega)))) rfl ?_
  refine ad aa 1 rfl ?_
  refine af ?_
  refine ⟨(i+1,m2),⟨by omega,by rw [<-hi1_1,Ae (i:=i) (by omega),<-List.append_assoc,<-hi2_1,(show j=2 by omega)];simp [sl],by omega⟩,by first|omega|(simp;done)|(simp;omega),aF.bW (fun k=>if k=3 then 5 else k) (by refine ⟨?_,?_,?_,?_,?_,?_,trivial⟩<;>first|rfl|(simp only [bm];done)|(congr 3;omega)|(congr 4;omega)|(simp only [bn];rfl)|(first|exact cz rfl (by omega)|exact fD rfl (by first|omega|(simp only [List.length_append,List.length_cons,List.length_nil] at *;omega)))) (⟨by first|rfl|(simp only [bm];done)|(congr 3;omega)|(congr 4;omega)|(simp only [bn];rfl),trivial⟩) rfl⟩
 have hc7':=of_decide_eq_false hc7
 refine cj ?_
 refine aP ?_
 refine aP ?_
 refine bK ?_
 refine then_ok ?_
 have hml:m1=kB has l:=by
  have e1:2 - i=0:=by omega
  rw [e1] at hi1_1
  have e2:l.take q=l:=List.take_of_length_le (by omega)
  rw [e2] at hi0_1
  have e3:m1=m0++[(⟨0,10,0,0,0,0⟩:aW)]++oB 2:=by simpa [oB] using hi1_1
  rw [e3,hi0_1];simp [kB,oB]
 refine eB ?_
 refine aN 4 [3] (bQ 4 (Fn.frozen (av':=(aG [(cR 3 (([(⟨1000,30,1000000000000⟩:dw),(⟨1000,30,1000000000000⟩:dw)]).map iK)),(cI 2),(cI 0)])) (xn 0) ⟨.inr ⟨_,_,_,_,_,rfl,rfl,rfl,by simp⟩,.inl ⟨_,rfl,rfl⟩,.inl ⟨_,rfl,rfl⟩,trivial⟩) GX rfl rfl ⟨⟨_,rfl,.c (.d _)⟩,trivial⟩ ⟨trivial,trivial,trivial,trivial⟩ trivial rfl rfl rfl rfl) rfl ?_
 refine ad aa 1 rfl ?_
 refine mX (s':=[(4,(aB false)),(5,(aC (uq m1))),(30,(aC (fB l))),(31,(aI (↑l.length:Int))),(32,(aI (↑q:Int))),(55,(aI (↑i:Int))),(56,(aB (decide ((↑i:Int) < 2)))),(76,(aG [(cR 3 (([(⟨1000,30,1000000000000⟩:dw),(⟨1000,30,1000000000000⟩:dw)]).map iK)),(cI 2),(cI 0)])),(77,(aC (uq m1)))]) (h':=[]) 3 rfl ⟨⟨_,rfl,.inl ⟨rfl,rfl⟩⟩,⟨_,rfl,.inr ⟨_,_,rfl,rfl,.s rfl (by decide) (by first|omega|(simp;done)|(simp;omega))⟩⟩,⟨_,rfl,.inl ⟨rfl,rfl⟩⟩,⟨_,rfl,.inl ⟨rfl,rfl⟩⟩,⟨_,rfl,.inl ⟨rfl,rfl⟩⟩,⟨_,rfl,.inl ⟨rfl,rfl⟩⟩,⟨_,rfl,.inl ⟨rfl,rfl⟩⟩,⟨_,rfl,.inl ⟨rfl,rfl⟩⟩,⟨_,rfl,.inr ⟨_,_,rfl,rfl,.s rfl (by decide) (by first|omega|(simp;done)|(simp;omega))⟩⟩,trivial⟩ trivial rfl ?_
 obtain ⟨b21,y21,o21,f21,hr1⟩:∃ (b21:Bk) (y21:List (List Int)) (o21:List Answer) (f21:dc),iL (⟨[(⟨1000,30,1000000000000⟩:dw),(⟨1000,30,1000000000000⟩:dw)],2,0⟩:Setup) m1=(b21,y21,o21,f21):=⟨_,_,_,_,rfl⟩
 obtain ⟨ho1,ho2,ho3,ho4⟩:=DO (has:=has) (l:=l) (b:=b21) (y:=y21) (o:=o21) (f:=f21) (by omega) (by omega) (by rw [<-hml];exact hr1)
 refine aN 4 [] (bQ 4 (Fn.frozen (av':=(.t [(.g [(cI b21.time),(cB b21.down),(FG b21.aw),(fB b21.due),(Ax b21.ax),(cI b21.s0.bL),(dn b21.s0.kept),(cI b21.s1.bL),(dn b21.s1.kept),(cI b21.n0),(cI b21.n1),(eD b21.w0),(eD b21.w1),(cI b21.bP.cap),(fB b21.bP.used),(iz b21.bP.bg),(iy b21.aR),(FE y21),(eb b21.book)]),(.c (FF o21)),(.g [(cI f21.err),(cI f21.at_)])])) (Ch (⟨[(⟨1000,30,1000000000000⟩:dw),(⟨1000,30,1000000000000⟩:dw)],2,0⟩:Setup) m1 b21 y21 o21 f21 hr1) ⟨⟨.inl ⟨_,rfl,rfl⟩,.inl ⟨_,rfl,rfl⟩,.inr ⟨_,_,_,_,_,rfl,rfl,rfl,by simp⟩,.inr ⟨_,_,_,_,_,rfl,rfl,rfl,by simp⟩,.inr ⟨_,_,_,_,_,rfl,rfl,rfl,by simp⟩,.inl ⟨_,rfl,rfl⟩,.inl ⟨_,rfl,rfl⟩,.inl ⟨_,rfl,rfl⟩,.inl ⟨_,rfl,rfl⟩,.inl ⟨_,rfl,rfl⟩,.inl ⟨_,rfl,rfl⟩,.inl ⟨_,rfl,rfl⟩,.inl ⟨_,rfl,rfl⟩,.inl ⟨_,rfl,rfl⟩,.inl ⟨_,rfl,rfl⟩,.inl ⟨_,rfl,rfl⟩,.inr ⟨_,_,_,_,_,rfl,rfl,rfl,by simp⟩,.inr ⟨_,_,_,_,_,rfl,rfl,rfl,by simp⟩,.inl ⟨_,rfl,rfl⟩,trivial⟩,.inr ⟨_,_,_,_,_,rfl,rfl,rfl,by simp⟩,⟨.inl ⟨_,rfl,rfl⟩,.inl ⟨_,rfl,rfl⟩,trivial⟩,trivial⟩) GY rfl rfl ⟨⟨_,rfl,.g ⟨.d _,.d _,.d _,trivial⟩⟩,⟨_,rfl,.c (.d _)⟩,trivial⟩ ⟨⟨trivial,trivial,trivial,trivial,trivial,trivial,trivial,trivial,trivial,trivial,trivial,trivial,trivial,trivial,trivial,trivial,trivial,trivial,trivial,trivial⟩,trivial,⟨trivial,trivial,trivial⟩,trivial⟩ trivial rfl rfl rfl rfl) rfl ?_
 refine ad aa 9 rfl ?_
 refine af ?_
 refine ag ?_
 refine cx 90 ((decide (¬f21.err=0))||(decide (¬(↑y21.length:Int)=1))) ?_ ?_
 ·
  refine au ?_
  refine ad aa 4 rfl ?_
  refine bI (t:=85) rfl (fun hb10=>?_) (fun hb10=>?_)
  ·
   have hb10':=of_decide_eq_true hb10
   refine ad aa 5 rfl ?_
   refine af ?_
   exact aF.bH 10 rfl rfl (by first|(simp [hb10];done)|(simp_all;done)|(exfalso;simp_all;done)|(simp_all;omega)) rfl
  have hb10':=of_decide_eq_false hb10
  refine ad aa 2 rfl ?_
  refine dQ (ak.yes rfl rfl rfl) (cM rfl rfl rfl rfl rfl Try.underlying43) rfl rfl ?_
  refine ad aa 2 rfl ?_
  refine af ?_
  exact aF.bH 10 rfl rfl (by first|(simp [hb10];done)|(simp_all;done)|(exfalso;simp_all;done)|(simp_all;omega)) rfl
 refine ah rfl (fun hc11=>?_) (fun hc11=>?_)
 ·
  have hc11':=hc11;try simp only [bu,bU] at hc11'
  refine ae aa 1 rfl ?_
  refine az ?_
  refine aq ?_
  refine an aa [] 0 rfl rfl rfl rfl rfl rfl ?_ ?_
  ·exact congrArg aB (show (false)=true by (first|(exfalso;omega)|exact decide_eq_true (by omega)|(simp only [Bool.and_eq_true,decide_eq_true_eq];omega)|(simp at *;omega)))
  ·rfl
 have hc11':=hc11;try simp only [bu,bU] at hc11'
 refine aQ ?_
 refine aH aa 2 rfl ?_
 obtain ⟨x1,hx1⟩:=ck (xs:=y21) (i:=0) (by first|omega|(simp;done)|(simp;omega))
 obtain ⟨rs,v,hp1,hp2,hp3,hp4,hp5,hp6,hp7,hp8⟩:=ho4 x1 hx1
 refine aA (cH (i:=0) rfl rfl rfl Try.underlying43 Iv (by first|omega|(simp;done)|(simp;omega)) (bw hx1)) rfl ?_
 refine ad aa 1 rfl ?_
 obtain ⟨r2,e2,hr2⟩:∃ (r2:List aj) (e2:Int),gz x1=(r2,e2):=⟨_,_,rfl⟩
 obtain ⟨hq1,hq2⟩:=Prod.mk.inj (hp1.symm.trans hr2)
 rw [hq1] at hp3 hp4 hp5 hp6
 refine aN 7 [6,5,4] (bQ 6 (yi x1 (by first|assumption|decide) (by first|omega|(simp;done)) r2 e2 hr2) Jq rfl rfl ⟨⟨_,rfl,.c (.d _)⟩,trivial⟩ ⟨trivial,trivial,trivial⟩ ⟨(fun _ _ _ _=>trivial),trivial⟩ rfl rfl rfl rfl) rfl ?_
 refine ad aa 5 rfl ?_
 refine af ?_
 refine ag ?_
 rcases Bool.eq_false_or_eq_true (decide (e2=0)) with hb12|hb12
 ·
  have hb12':=of_decide_eq_true hb12
  obtain ⟨n4,hr4⟩:∃ (n4:Int),fH r2 1=n4:=⟨_,rfl⟩
  obtain ⟨x2,hx2⟩:=ck (xs:=b21.due) (i:=1) (by first|omega|(simp;done)|(simp;omega))
  have hx2K:x2=v:=Option.some.inj (hx2.symm.trans hp2)
  rcases Bool.eq_false_or_eq_true (decide (n4=x2)) with hb13|hb13
  ·
   have hb13':=of_decide_eq_true hb13
   obtain ⟨n5,hr5⟩:∃ (n5:Int),fH r2 0=n5:=⟨_,rfl⟩
   refine ba [5,30,31,32,55,9,12,13] [6,4] mixed rfl rfl ?_
   refine aE (kn:=[(100,true)]) aa 4 rfl ⟨hb12,trivial⟩ ?_
   refine aU (n':=7) [102,101] [6] rfl rfl (.inl ⟨(ak.yes rfl rfl rfl),aM.cast (ff 7 [6] (pS r2 1 (by first|assumption|decide) (by first|omega|(simp;done)) n4 hr4) DE rfl rfl ⟨⟨_,rfl,.c (.s rfl (by decide) (by first|omega|(simp;done)|(simp;omega)))⟩,⟨_,rfl,.c (.d _)⟩,trivial⟩ rfl trivial rfl rfl rfl rfl) rfl⟩) rfl ?_
   refine aE (kn:=[]) aa 2 rfl trivial ?_
   refine aU (n':=7) [105,101] [] rfl rfl (.inl ⟨(ak.yes rfl rfl rfl),aM.cast (cH (i:=1) rfl rfl rfl Try.underlying30 fX (by first|omega|(simp;done)|(simp;omega)) (bw hx2)) rfl⟩) rfl ?_
   refine aE (kn:=[(108,true)]) aa 5 rfl ⟨hb13,trivial⟩ ?_
   refine aU (n':=7) [111,110] [6] rfl rfl (.inl ⟨(ak.yes rfl rfl rfl),aM.cast (ff 7 [6] (pS r2 0 (by first|assumption|decide) (by first|omega|(simp;done)) n5 hr5) DE rfl rfl ⟨⟨_,rfl,.c (.s rfl (by decide) (by first|omega|(simp;done)|(simp;omega)))⟩,⟨_,rfl,.c (.d _)⟩,trivial⟩ rfl trivial rfl rfl rfl rfl) rfl⟩) rfl ?_
   refine aE (kn:=[]) aa 3 rfl trivial ?_
   refine bC [6,4] rfl rfl rfl rfl (by kernel_rfl) ?_
   refine af ?_
   refine az ?_
   refine an aa [] 0 rfl rfl rfl rfl rfl rfl ?_ ?_
   ·exact congrArg aB (show (decide (n5=0))=true by (first|(exfalso;omega)|exact decide_eq_true (by omega)|(simp only [Bool.and_eq_true,decide_eq_true_eq];omega)|(simp at *;omega)))
   ·rfl
  have hb13':=of_decide_eq_false hb13
  refine ba [5,30,31,32,55,9,12,13] [6,4] mixed rfl rfl ?_
  refine aE (kn:=[(100,true)]) aa 4 rfl ⟨hb12,trivial⟩ ?_
  refine aU (n':=7) [102,101] [6] rfl rfl (.inl ⟨(ak.yes rfl rfl rfl),aM.cast (ff 7 [6] (pS r2 1 (by first|assumption|decide) (by first|omega|(simp;done)) n4 hr4) DE rfl rfl ⟨⟨_,rfl,.c (.s rfl (by decide) (by first|omega|(simp;done)|(simp;omega)))⟩,⟨_,rfl,.c (.d _)⟩,trivial⟩ rfl trivial rfl rfl rfl rfl) rfl⟩) rfl ?_
  refine aE (kn:=[]) aa 2 rfl trivial ?_
  refine aU (n':=7) [105,101] [] rfl rfl (.inl ⟨(ak.yes rfl rfl rfl),aM.cast (cH (i:=1) rfl rfl rfl Try.underlying30 fX (by first|omega|(simp;done)|(simp;omega)) (bw hx2)) rfl⟩) rfl ?_
  refine aE (kn:=[(108,false)]) aa 9 rfl ⟨hb13,trivial⟩ ?_
  refine bC [6,4] rfl rfl rfl rfl (by kernel_rfl) ?_
  refine af ?_
  refine az ?_
  refine an aa [] 0 rfl rfl rfl rfl rfl rfl ?_ ?_
  ·exact congrArg aB (show (false)=true by (first|(exfalso;omega)|exact decide_eq_true (by omega)|(simp only [Bool.and_eq_true,decide_eq_true_eq];omega)|(simp at *;omega)))
  ·rfl
 have hb12':=of_decide_eq_false hb12
 refine ba [5,30,31,32,55,9,12,13] [6,4] mixed rfl rfl ?_
 refine aE (kn:=[(100,false)]) aa 17 rfl ⟨hb12,trivial⟩ ?_
 refine bC [6,4] rfl rfl rfl rfl (by kernel_rfl) ?_
 refine af ?_
 refine az ?_
 refine an aa [] 0 rfl rfl rfl rfl rfl rfl ?_ ?_
 ·exact congrArg aB (show (false)=true by (first|(exfalso;omega)|exact decide_eq_true (by omega)|(simp only [Bool.and_eq_true,decide_eq_true_eq];omega)|(simp at *;omega)))
 ·rfl
end Go.Proofs.Ytegepioggeggaaa.Dev
