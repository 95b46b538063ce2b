/- A part of the proof: Bank7, Bank10, Bank11, Bank5. No condition. -/
import Derived.Test.YtegepioggeggaaaD11
set_option linter.unusedVariables false
set_option linter.unusedSimpArgs false
set_option maxHeartbeats 8000000
set_option maxRecDepth 100000
namespace Go.Proofs.Ytegepioggeggaaa.Dev
open Go.RowKit

theorem De (x:Nat->Value) (hx:∀ i,(x i).oneCell'=true) (s0 s1:bY) (n0 n1:Int) (w0 w1:List cp) (idn kind aE move sum:Int) (l0:w0.length<=60) (l1:w1.length<=60) (m0:s0.kept.length<=40) (m1:s1.kept.length<=40) (v0:List cp) (v1:List cp) (a2:Answer) (hr:ei s0 s1 n0 n1 w0 w1 (⟨idn,kind,0,aE,move,sum⟩:bx)=(v0,v1,a2)):cJ Try.prog 66 [(.c (.p 0 0 0 0)),(.c (.q (dg (⟨idn,kind,0,aE,move,sum⟩:bx)) 0))] [(0,(.box 98 (((((((((bh x).set 5 (cI s0.bX)).set 6 (dj s0.kept)).set 7 (cI s1.bX)).set 8 (dj s1.kept)).set 9 (cI n0)).set 10 (cI n1)).set 11 (eu w0)).set 12 (eu w1))))] [0] (.v (.g [cI a2.err,cI a2.ba])) [(0,(.box 98 (((((((((bh x).set 5 (cI s0.bX)).set 6 (dj s0.kept)).set 7 (cI s1.bX)).set 8 (dj s1.kept)).set 9 (cI n0)).set 10 (cI n1)).set 11 (eu v0)).set 12 (eu v1))))]:=by
 refine cJ.Fc 83 [(0,(aC (.p 0 0 0 0))),(1,(aC (.q (dg (⟨idn,kind,0,aE,move,sum⟩:bx)) 0)))] 1 Try.func66 rfl rfl rfl rfl rfl rfl rfl rfl rfl ?_
 intro W0 F0 T0 pg hF
 have hF0:∀ b,F0 b->(pg 0).g=b:=fun b hb=>by obtain ⟨k,hk,h⟩:=hF b hb;rw [List.mem_singleton.1 hk] at h;exact h
 refine ae aa 1 rfl ?_
 refine ag ?_
 refine cw 20 (false) ?_ ?_
 ·
  refine ax ?_
  refine ad aa 4 rfl ?_
  refine aA (aM rfl rfl rfl (show _=some (Value.bool false) from rfl)) rfl ?_
  refine ad aa 7 rfl ?_
  refine af ?_
  exact aH.bD 12 rfl rfl (by first|(simp [];done)|(simp_all;done)|(exfalso;simp_all;done)|(simp_all;omega)) rfl
 refine aj rfl (fun hno=>by cases hno) (fun _=>?_)
 refine aS ?_
 refine ae aa 6 rfl ?_
 refine aF aa 5 rfl ?_
 refine aA (dv (i:=1) rfl rfl rfl Try.underlying38 lu rfl (by decide)) rfl ?_
 refine ad aa 1 rfl ?_
 refine aQ 3 [2,1,0] (cb 2 (na w1 (by first|omega|(simp;done)|(simp;omega))) FK rfl rfl ⟨⟨_,rfl,.c (.d _)⟩,trivial⟩ trivial ⟨(fun _ _ _ _=>trivial),trivial⟩ rfl rfl rfl rfl) rfl ?_
 refine ad aa 1 rfl ?_
 refine af ?_
 refine ag ?_
 refine ag ?_
 refine aX [0,1,4,5,6] [2,1,0] mixed rfl rfl ?_
 refine aD (kn:=[]) aa 8 rfl trivial ?_
 refine aT (n':=3) [42,39] [0] rfl rfl (.inl ⟨(ak.plain rfl),aK.cast (dv (i:=0) rfl rfl rfl Try.underlying35 mG rfl (by decide)) rfl⟩) rfl ?_
 refine aD (kn:=[]) aa 2 rfl trivial ?_
 refine aT (n':=3) [45] [] rfl rfl (.inl ⟨(ak.plain rfl),aK.cast (cF rfl rfl rfl rfl rfl Try.underlying32) rfl⟩) rfl ?_
 refine aD (kn:=[]) aa 1 rfl trivial ?_
 refine bA [2,1,0] rfl rfl rfl rfl (by kernel_rfl) ?_
 refine af ?_
 refine aY ?_
 refine cE (β:=Nat×List cp) (fun (p:Nat×List cp)=>match p with|(q,m)=>⟨[(0,(aC (.p 0 0 0 0))),(1,(aC (.q (dg (⟨idn,kind,0,aE,move,sum⟩:bx)) 0))),(4,(aC (.p 1 0 0 0))),(5,(aI 1)),(6,(aC (.s 2 0 5 m.length))),(45,(aC (dj s0.kept))),(46,(aI (↑s0.kept.length:Int))),(47,(aI (↑q:Int)))],[(2,(Gq m)),(1,(.box 65 [(cI 0),(cI 0)])),(0,(.box 98 (((((((((bh x).set 5 (cI s0.bX)).set 6 (dj s0.kept)).set 7 (cI s1.bX)).set 8 (dj s1.kept)).set 9 (cI n0)).set 10 (cI n1)).set 11 (eu w0)).set 12 (eu w1))))],3⟩) (fun (p:Nat×List cp)=>match p with|(q,m)=>q<=s0.kept.length/\m=w1++(s0.kept.take q).map (fun t=>(⟨t,-1⟩:cp))) (fun (p:Nat×List cp)=>match p with|(q,m)=>s0.kept.length - q) (0,w1) ?_ ?_ ?_
 ·exact ⟨by omega,by simp⟩
 ·exact aH.ca id (by refine ⟨?_,?_,?_,?_,?_,?_,?_,?_,trivial⟩<;>first|rfl|(simp only [bu];done)|(congr 3;omega)|(congr 4;omega)|(simp only [bw];rfl)) (by refine ⟨?_,?_,?_,trivial⟩<;>first|rfl|(simp only [bu];done)|(congr 3;omega)|(congr 4;omega)|(simp only [bw];rfl)) rfl
 rintro ⟨q,m⟩ ⟨hi0_0,hi0_1⟩
 have hml:m.length=w1.length+q:=by rw [hi0_1];simp;omega
 refine ae aa 1 rfl ?_
 refine ag ?_
 refine aj rfl (fun hc2=>?_) (fun hc2=>?_)
 ·
  have hc2':=of_decide_eq_true hc2
  refine aS ?_
  refine ag ?_
  refine aY ?_
  refine eR ?_
  obtain ⟨x1,hx1⟩:=cf (xs:=s0.kept) (i:=q) (by first|omega|(simp;done)|(simp;omega))
  refine aA (cD (i:=q) rfl rfl rfl Try.underlying32 mF (by first|omega|(simp;done)|(simp;omega)) (bp hx1)) rfl ?_
  refine ad aa 3 rfl ?_
  refine af ?_
  refine ax ?_
  refine ad aa 3 rfl ?_
  refine aQ 5 [4,3,2,1,0] (dV (ys:=[(0,(.g [(cI x1.number),(cI x1.kind),(cI x1.ba),(cI x1.sum),(cI (-1))]))]) (rows:=([(⟨x1,(-1)⟩:cp)]).map fy) 4 mH rfl (by decide) ⟨⟨rfl,rfl⟩,trivial⟩ rfl rfl rfl rfl) rfl ?_
  refine aQ 6 [5,4,3,1,0] (dw (m:=1) (N:=m.length+1) (k2:=5) (ys:=([(⟨x1,(-1)⟩:cp)]).map fy) mH rfl rfl rfl rfl rfl rfl (by first|omega|(simp;done)|(simp;omega)) rfl (.s rfl (by first|omega|(simp;done)|(simp;omega))) (by first|omega|(simp;done)|(simp;omega)) (by first|omega|(simp;done)|(simp;omega)) fz (by decide) (by first|omega|(simp;done)|(simp;omega)) (by first|omega|(simp;done)|(simp;omega))) rfl ?_
  refine ad aa 1 rfl ?_
  refine bZ ?_
  refine bm ?_
  refine then_ok ?_
  refine ax ?_
  refine aA (aM rfl rfl rfl (aL (by first|omega|(simp;done)|(simp;omega)))) rfl ?_
  refine ad aa 1 rfl ?_
  refine af ?_
  refine ⟨(q+1,m++([(⟨x1,(-1)⟩:cp)])),⟨by omega,by rw [List.take_add_one,hx1,List.map_append,<-List.append_assoc,<-hi0_1];rfl⟩,by first|omega|(simp;done)|(simp;omega),aH.ca (fun k=>if k=2 then 5 else k) (by refine ⟨?_,?_,?_,?_,?_,?_,?_,?_,trivial⟩<;>first|rfl|(simp only [bu];done)|(congr 3;omega)|(congr 4;omega)|(simp only [bw];rfl)|(first|exact cK rfl (by omega)|exact ja rfl (by simp only [List.length_append,List.length_cons,List.length_nil];omega))) (by refine ⟨?_,?_,?_,trivial⟩<;>first|rfl|(simp only [bu];done)|(congr 3;omega)|(congr 4;omega)|(simp only [bw];rfl)) rfl⟩
 have hc2':=of_decide_eq_false hc2
 refine cv ?_
 refine aU ?_
 refine aU ?_
 refine bS ?_
 refine then_ok ?_
 refine ag ?_
 refine aX [0,1,4,5,6,45,46,47] [2,1,0] mixed rfl rfl ?_
 refine aD (kn:=[]) aa 9 rfl trivial ?_
 refine aT (n':=3) [65,62] [0] rfl rfl (.inl ⟨(ak.plain rfl),aK.cast (dv (i:=0) rfl rfl rfl Try.underlying36 gF rfl (by decide)) rfl⟩) rfl ?_
 refine aD (kn:=[]) aa 2 rfl trivial ?_
 refine aT (n':=4) [68] [] rfl rfl (.inl ⟨(ak.plain rfl),aK.cast (dV (ys:=[(0,(.g [(cI 0),(cI 0),(cI 0),(cI 0),(cI n0)]))]) (rows:=([(⟨(⟨0,0,0,0⟩:bo),n0⟩:cp)]).map fy) 3 mH rfl (by decide) ⟨⟨rfl,rfl⟩,trivial⟩ rfl rfl rfl rfl) rfl⟩) rfl ?_
 refine aT (n':=5) [57,69] [3,2] rfl rfl (.inl ⟨(ak.plain rfl),aK.cast (dw (m:=1) (N:=m.length+1) (k2:=4) (ys:=([(⟨(⟨0,0,0,0⟩:bo),n0⟩:cp)]).map fy) mH rfl rfl rfl rfl rfl rfl (by first|omega|(simp;done)|(simp;omega)) rfl (.s rfl (by first|omega|(simp;done)|(simp;omega))) (by first|omega|(simp;done)|(simp;omega)) (by first|omega|(simp;done)|(simp;omega)) fz (by decide) (by first|omega|(simp;done)|(simp;omega)) (by first|omega|(simp;done)|(simp;omega))) rfl⟩) rfl ?_
 refine bA [4,1,0] rfl rfl rfl rfl (by kernel_rfl) ?_
 refine ad aa 1 rfl ?_
 refine af ?_
 refine ag ?_
 refine aF aa 1 rfl ?_
 refine aA (dz rfl rfl rfl rfl rfl Try.underlying37) rfl ?_
 refine ad aa 1 rfl ?_
 refine af ?_
 refine aj rfl (fun hc3=>?_) (fun hc3=>?_)
 ·
  have hc3':=of_decide_eq_true hc3
  refine ae aa 2 rfl ?_
  refine az ?_
  refine an ?_
  have hX:ei s0 s1 n0 n1 w0 w1 (⟨idn,kind,0,aE,move,sum⟩:bx)=(w0,w1,(⟨5,0⟩:Answer)):=by
    (have ht:s0.kept.take q=s0.kept:=List.take_of_length_le (by omega));rw [ht] at hi0_1;unfold ei;dsimp only;rw [if_pos rfl];unfold jz mr;rw [<-hi0_1];first|rw [if_pos (by simp;omega)]|rw [if_neg (by simp;omega)]
  rw [hX] at hr;clear hX
  simp only [Prod.mk.injEq] at hr;obtain ⟨rfl,rfl,rfl⟩:=hr
  refine al aa [0,1] 1 rfl rfl rfl rfl rfl rfl ?_ ?_
  all_goals first|rfl|(simp [aw,aW,bh];done)|(simp [aw,aW,bh];omega)
 have hc3':=of_decide_eq_false hc3
 refine aS ?_
 refine sJ (s':=[(0,(aC (.p 0 0 0 0))),(1,(aC (.q (dg (⟨idn,kind,0,aE,move,sum⟩:bx)) 0))),(4,(aC (.p 1 0 0 0))),(5,(aI 1)),(6,(aC (eu (m++([(⟨(⟨0,0,0,0⟩:bo),n0⟩:cp)]))))),(45,(aC (dj s0.kept))),(46,(aI (↑s0.kept.length:Int))),(47,(aI (↑q:Int))),(70,(aC (eu (m++([(⟨(⟨0,0,0,0⟩:bo),n0⟩:cp)]))))),(71,(aC (eu (m++([(⟨(⟨0,0,0,0⟩:bo),n0⟩:cp)]))))),(72,(aI (↑(m.length+1):Int))),(73,(aB (decide ((↑(m.length+1):Int) > 60))))]) (h':=[(1,(.box 65 [(cI 0),(cI 0)])),(0,(.box 98 (((((((((bh x).set 5 (cI s0.bX)).set 6 (dj s0.kept)).set 7 (cI s1.bX)).set 8 (dj s1.kept)).set 9 (cI n0)).set 10 (cI n1)).set 11 (eu w0)).set 12 (eu w1))))]) hF0 4 rfl rfl ⟨⟨_,rfl,.inl ⟨rfl,rfl⟩⟩,⟨_,rfl,.inl ⟨rfl,rfl⟩⟩,⟨_,rfl,.inl ⟨rfl,rfl⟩⟩,⟨_,rfl,.inl ⟨rfl,rfl⟩⟩,⟨_,rfl,.inr ⟨_,_,rfl,rfl,.s rfl (by decide) (by first|omega|(simp;done)|(simp;omega))⟩⟩,⟨_,rfl,.inl ⟨rfl,rfl⟩⟩,⟨_,rfl,.inl ⟨rfl,rfl⟩⟩,⟨_,rfl,.inl ⟨rfl,rfl⟩⟩,⟨_,rfl,.inr ⟨_,_,rfl,rfl,.s rfl (by decide) (by first|omega|(simp;done)|(simp;omega))⟩⟩,⟨_,rfl,.inr ⟨_,_,rfl,rfl,.s rfl (by decide) (by first|omega|(simp;done)|(simp;omega))⟩⟩,⟨_,rfl,.inl ⟨rfl,rfl⟩⟩,⟨_,rfl,.inl ⟨rfl,rfl⟩⟩,trivial⟩ ⟨rfl,rfl,trivial⟩ rfl ?_
 refine aF aa 6 rfl ?_
 refine aA (dv (i:=1) rfl rfl rfl Try.underlying38 lu rfl (by decide)) rfl ?_
 refine ad aa 1 rfl ?_
 refine af ?_
 refine ae aa 2 rfl ?_
 refine az ?_
 have hX:ei s0 s1 n0 n1 w0 w1 (⟨idn,kind,0,aE,move,sum⟩:bx)=(w0,m++([(⟨(⟨0,0,0,0⟩:bo),n0⟩:cp)]),(⟨0,0⟩:Answer)):=by
   (have ht:s0.kept.take q=s0.kept:=List.take_of_length_le (by omega));rw [ht] at hi0_1;unfold ei;dsimp only;rw [if_pos rfl];unfold jz mr;rw [<-hi0_1];first|rw [if_pos (by simp;omega)]|rw [if_neg (by simp;omega)]
 rw [hX] at hr;clear hX
 simp only [Prod.mk.injEq] at hr;obtain ⟨rfl,rfl,rfl⟩:=hr
 refine al aa [0,1] 1 rfl rfl rfl rfl rfl rfl ?_ ?_
 all_goals first|rfl|(simp [aw,aW,bh];done)|(simp [aw,aW,bh];omega)
theorem Dd (x:Nat->Value) (hx:∀ i,(x i).oneCell'=true) (s0 s1:bY) (n0 n1:Int) (w0 w1:List cp) (idn kind aE move sum:Int) (l0:w0.length<=60) (l1:w1.length<=60) (m0:s0.kept.length<=40) (m1:s1.kept.length<=40) (v0:List cp) (v1:List cp) (a2:Answer) (hr:ei s0 s1 n0 n1 w0 w1 (⟨idn,kind,1,aE,move,sum⟩:bx)=(v0,v1,a2)):cJ Try.prog 66 [(.c (.p 0 0 0 0)),(.c (.q (dg (⟨idn,kind,1,aE,move,sum⟩:bx)) 0))] [(0,(.box 98 (((((((((bh x).set 5 (cI s0.bX)).set 6 (dj s0.kept)).set 7 (cI s1.bX)).set 8 (dj s1.kept)).set 9 (cI n0)).set 10 (cI n1)).set 11 (eu w0)).set 12 (eu w1))))] [0] (.v (.g [cI a2.err,cI a2.ba])) [(0,(.box 98 (((((((((bh x).set 5 (cI s0.bX)).set 6 (dj s0.kept)).set 7 (cI s1.bX)).set 8 (dj s1.kept)).set 9 (cI n0)).set 10 (cI n1)).set 11 (eu v0)).set 12 (eu v1))))]:=by
 refine cJ.Fc 83 [(0,(aC (.p 0 0 0 0))),(1,(aC (.q (dg (⟨idn,kind,1,aE,move,sum⟩:bx)) 0)))] 1 Try.func66 rfl rfl rfl rfl rfl rfl rfl rfl rfl ?_
 intro W0 F0 T0 pg hF
 have hF0:∀ b,F0 b->(pg 0).g=b:=fun b hb=>by obtain ⟨k,hk,h⟩:=hF b hb;rw [List.mem_singleton.1 hk] at h;exact h
 refine ae aa 1 rfl ?_
 refine ag ?_
 refine cw 20 (false) ?_ ?_
 ·
  refine ax ?_
  refine ad aa 4 rfl ?_
  refine aA (aM rfl rfl rfl (show _=some (Value.bool true) from rfl)) rfl ?_
  refine ad aa 5 rfl ?_
  refine dA (ak.yes rfl rfl rfl) (aM rfl rfl rfl (show _=some (Value.bool false) from rfl)) rfl rfl ?_
  refine ad aa 1 rfl ?_
  refine af ?_
  exact aH.bD 12 rfl rfl (by first|(simp [];done)|(simp_all;done)|(exfalso;simp_all;done)|(simp_all;omega)) rfl
 refine aj rfl (fun hno=>by cases hno) (fun _=>?_)
 refine aS ?_
 refine ae aa 6 rfl ?_
 refine aF aa 5 rfl ?_
 refine aA (dv (i:=0) rfl rfl rfl Try.underlying38 lu rfl (by decide)) rfl ?_
 refine ad aa 1 rfl ?_
 refine aQ 3 [2,1,0] (cb 2 (na w0 (by first|omega|(simp;done)|(simp;omega))) FK rfl rfl ⟨⟨_,rfl,.c (.d _)⟩,trivial⟩ trivial ⟨(fun _ _ _ _=>trivial),trivial⟩ rfl rfl rfl rfl) rfl ?_
 refine ad aa 1 rfl ?_
 refine af ?_
 refine ag ?_
 refine ag ?_
 refine aX [0,1,4,5,6] [2,1,0] mixed rfl rfl ?_
 refine aD (kn:=[]) aa 8 rfl trivial ?_
 refine aT (n':=3) [42,39] [0] rfl rfl (.inl ⟨(ak.plain rfl),aK.cast (dv (i:=1) rfl rfl rfl Try.underlying35 mG rfl (by decide)) rfl⟩) rfl ?_
 refine aD (kn:=[]) aa 2 rfl trivial ?_
 refine aT (n':=3) [45] [] rfl rfl (.inl ⟨(ak.plain rfl),aK.cast (cF rfl rfl rfl rfl rfl Try.underlying32) rfl⟩) rfl ?_
 refine aD (kn:=[]) aa 1 rfl trivial ?_
 refine bA [2,1,0] rfl rfl rfl rfl (by kernel_rfl) ?_
 refine af ?_
 refine aY ?_
 refine cE (β:=Nat×List cp) (fun (p:Nat×List cp)=>match p with|(q,m)=>⟨[(0,(aC (.p 0 0 0 0))),(1,(aC (.q (dg (⟨idn,kind,1,aE,move,sum⟩:bx)) 0))),(4,(aC (.p 1 0 0 0))),(5,(aI 0)),(6,(aC (.s 2 0 5 m.length))),(45,(aC (dj s1.kept))),(46,(aI (↑s1.kept.length:Int))),(47,(aI (↑q:Int)))],[(2,(Gq m)),(1,(.box 65 [(cI 0),(cI 0)])),(0,(.box 98 (((((((((bh x).set 5 (cI s0.bX)).set 6 (dj s0.kept)).set 7 (cI s1.bX)).set 8 (dj s1.kept)).set 9 (cI n0)).set 10 (cI n1)).set 11 (eu w0)).set 12 (eu w1))))],3⟩) (fun (p:Nat×List cp)=>match p with|(q,m)=>q<=s1.kept.length/\m=w0++(s1.kept.take q).map (fun t=>(⟨t,-1⟩:cp))) (fun (p:Nat×List cp)=>match p with|(q,m)=>s1.kept.length - q) (0,w0) ?_ ?_ ?_
 ·exact ⟨by omega,by simp⟩
 ·exact aH.ca id (by refine ⟨?_,?_,?_,?_,?_,?_,?_,?_,trivial⟩<;>first|rfl|(simp only [bu];done)|(congr 3;omega)|(congr 4;omega)|(simp only [bw];rfl)) (by refine ⟨?_,?_,?_,trivial⟩<;>first|rfl|(simp only [bu];done)|(congr 3;omega)|(congr 4;omega)|(simp only [bw];rfl)) rfl
 rintro ⟨q,m⟩ ⟨hi0_0,hi0_1⟩
 have hml:m.length=w0.length+q:=by rw [hi0_1];simp;omega
 refine ae aa 1 rfl ?_
 refine ag ?_
 refine aj rfl (fun hc2=>?_) (fun hc2=>?_)
 ·
  have hc2':=of_decide_eq_true hc2
  refine aS ?_
  refine ag ?_
  refine aY ?_
  refine eR ?_
  obtain ⟨x1,hx1⟩:=cf (xs:=s1.kept) (i:=q) (by first|omega|(simp;done)|(simp;omega))
  refine aA (cD (i:=q) rfl rfl rfl Try.underlying32 mF (by first|omega|(simp;done)|(simp;omega)) (bp hx1)) rfl ?_
  refine ad aa 3 rfl ?_
  refine af ?_
  refine ax ?_
  refine ad aa 3 rfl ?_
  refine aQ 5 [4,3,2,1,0] (dV (ys:=[(0,(.g [(cI x1.number),(cI x1.kind),(cI x1.ba),(cI x1.sum),(cI (-1))]))]) (rows:=([(⟨x1,(-1)⟩:cp)]).map fy) 4 mH rfl (by decide) ⟨⟨rfl,rfl⟩,trivial⟩ rfl rfl rfl rfl) rfl ?_
  refine aQ 6 [5,4,3,1,0] (dw (m:=1) (N:=m.length+1) (k2:=5) (ys:=([(⟨x1,(-1)⟩:cp)]).map fy) mH rfl rfl rfl rfl rfl rfl (by first|omega|(simp;done)|(simp;omega)) rfl (.s rfl (by first|omega|(simp;done)|(simp;omega))) (by first|omega|(simp;done)|(simp;omega)) (by first|omega|(simp;done)|(simp;omega)) fz (by decide) (by first|omega|(simp;done)|(simp;omega)) (by first|omega|(simp;done)|(simp;omega))) rfl ?_
  refine ad aa 1 rfl ?_
  refine bZ ?_
  refine bm ?_
  refine then_ok ?_
  refine ax ?_
  refine aA (aM rfl rfl rfl (aL (by first|omega|(simp;done)|(simp;omega)))) rfl ?_
  refine ad aa 1 rfl ?_
  refine af ?_
  refine ⟨(q+1,m++([(⟨x1,(-1)⟩:cp)])),⟨by omega,by rw [List.take_add_one,hx1,List.map_append,<-List.append_assoc,<-hi0_1];rfl⟩,by first|omega|(simp;done)|(simp;omega),aH.ca (fun k=>if k=2 then 5 else k) (by refine ⟨?_,?_,?_,?_,?_,?_,?_,?_,trivial⟩<;>first|rfl|(simp only [bu];done)|(congr 3;omega)|(congr 4;omega)|(simp only [bw];rfl)|(first|exact cK rfl (by omega)|exact ja rfl (by simp only [List.length_append,List.length_cons,List.length_nil];omega))) (by refine ⟨?_,?_,?_,trivial⟩<;>first|rfl|(simp only [bu];done)|(congr 3;omega)|(congr 4;omega)|(simp only [bw];rfl)) rfl⟩
 have hc2':=of_decide_eq_false hc2
 refine cv ?_
 refine aU ?_
 refine aU ?_
 refine bS ?_
 refine then_ok ?_
 refine ag ?_
 refine aX [0,1,4,5,6,45,46,47] [2,1,0] mixed rfl rfl ?_
 refine aD (kn:=[]) aa 9 rfl trivial ?_
 refine aT (n':=3) [65,62] [0] rfl rfl (.inl ⟨(ak.plain rfl),aK.cast (dv (i:=1) rfl rfl rfl Try.underlying36 gF rfl (by decide)) rfl⟩) rfl ?_
 refine aD (kn:=[]) aa 2 rfl trivial ?_
 refine aT (n':=4) [68] [] rfl rfl (.inl ⟨(ak.plain rfl),aK.cast (dV (ys:=[(0,(.g [(cI 0),(cI 0),(cI 0),(cI 0),(cI n1)]))]) (rows:=([(⟨(⟨0,0,0,0⟩:bo),n1⟩:cp)]).map fy) 3 mH rfl (by decide) ⟨⟨rfl,rfl⟩,trivial⟩ rfl rfl rfl rfl) rfl⟩) rfl ?_
 refine aT (n':=5) [57,69] [3,2] rfl rfl (.inl ⟨(ak.plain rfl),aK.cast (dw (m:=1) (N:=m.length+1) (k2:=4) (ys:=([(⟨(⟨0,0,0,0⟩:bo),n1⟩:cp)]).map fy) mH rfl rfl rfl rfl rfl rfl (by first|omega|(simp;done)|(simp;omega)) rfl (.s rfl (by first|omega|(simp;done)|(simp;omega))) (by first|omega|(simp;done)|(simp;omega)) (by first|omega|(simp;done)|(simp;omega)) fz (by decide) (by first|omega|(simp;done)|(simp;omega)) (by first|omega|(simp;done)|(simp;omega))) rfl⟩) rfl ?_
 refine bA [4,1,0] rfl rfl rfl rfl (by kernel_rfl) ?_
 refine ad aa 1 rfl ?_
 refine af ?_
 refine ag ?_
 refine aF aa 1 rfl ?_
 refine aA (dz rfl rfl rfl rfl rfl Try.underlying37) rfl ?_
 refine ad aa 1 rfl ?_
 refine af ?_
 refine aj rfl (fun hc3=>?_) (fun hc3=>?_)
 ·
  have hc3':=of_decide_eq_true hc3
  refine ae aa 2 rfl ?_
  refine az ?_
  refine an ?_
  have hX:ei s0 s1 n0 n1 w0 w1 (⟨idn,kind,1,aE,move,sum⟩:bx)=(w0,w1,(⟨5,0⟩:Answer)):=by
    (have ht:s1.kept.take q=s1.kept:=List.take_of_length_le (by omega));rw [ht] at hi0_1;unfold ei;dsimp only;rw [if_neg (by decide),if_pos rfl];unfold jz mr;rw [<-hi0_1];first|rw [if_pos (by simp;omega)]|rw [if_neg (by simp;omega)]
  rw [hX] at hr;clear hX
  simp only [Prod.mk.injEq] at hr;obtain ⟨rfl,rfl,rfl⟩:=hr
  refine al aa [0,1] 1 rfl rfl rfl rfl rfl rfl ?_ ?_
  all_goals first|rfl|(simp [aw,aW,bh];done)|(simp [aw,aW,bh];omega)
 have hc3':=of_decide_eq_false hc3
 refine aS ?_
 refine sJ (s':=[(0,(aC (.p 0 0 0 0))),(1,(aC (.q (dg (⟨idn,kind,1,aE,move,sum⟩:bx)) 0))),(4,(aC (.p 1 0 0 0))),(5,(aI 0)),(6,(aC (eu (m++([(⟨(⟨0,0,0,0⟩:bo),n1⟩:cp)]))))),(45,(aC (dj s1.kept))),(46,(aI (↑s1.kept.length:Int))),(47,(aI (↑q:Int))),(70,(aC (eu (m++([(⟨(⟨0,0,0,0⟩:bo),n1⟩:cp)]))))),(71,(aC (eu (m++([(⟨(⟨0,0,0,0⟩:bo),n1⟩:cp)]))))),(72,(aI (↑(m.length+1):Int))),(73,(aB (decide ((↑(m.length+1):Int) > 60))))]) (h':=[(1,(.box 65 [(cI 0),(cI 0)])),(0,(.box 98 (((((((((bh x).set 5 (cI s0.bX)).set 6 (dj s0.kept)).set 7 (cI s1.bX)).set 8 (dj s1.kept)).set 9 (cI n0)).set 10 (cI n1)).set 11 (eu w0)).set 12 (eu w1))))]) hF0 4 rfl rfl ⟨⟨_,rfl,.inl ⟨rfl,rfl⟩⟩,⟨_,rfl,.inl ⟨rfl,rfl⟩⟩,⟨_,rfl,.inl ⟨rfl,rfl⟩⟩,⟨_,rfl,.inl ⟨rfl,rfl⟩⟩,⟨_,rfl,.inr ⟨_,_,rfl,rfl,.s rfl (by decide) (by first|omega|(simp;done)|(simp;omega))⟩⟩,⟨_,rfl,.inl ⟨rfl,rfl⟩⟩,⟨_,rfl,.inl ⟨rfl,rfl⟩⟩,⟨_,rfl,.inl ⟨rfl,rfl⟩⟩,⟨_,rfl,.inr ⟨_,_,rfl,rfl,.s rfl (by decide) (by first|omega|(simp;done)|(simp;omega))⟩⟩,⟨_,rfl,.inr ⟨_,_,rfl,rfl,.s rfl (by decide) (by first|omega|(simp;done)|(simp;omega))⟩⟩,⟨_,rfl,.inl ⟨rfl,rfl⟩⟩,⟨_,rfl,.inl ⟨rfl,rfl⟩⟩,trivial⟩ ⟨rfl,rfl,trivial⟩ rfl ?_
 refine aF aa 6 rfl ?_
 refine aA (dv (i:=0) rfl rfl rfl Try.underlying38 lu rfl (by decide)) rfl ?_
 refine ad aa 1 rfl ?_
 refine af ?_
 refine ae aa 2 rfl ?_
 refine az ?_
 have hX:ei s0 s1 n0 n1 w0 w1 (⟨idn,kind,1,aE,move,sum⟩:bx)=(m++([(⟨(⟨0,0,0,0⟩:bo),n1⟩:cp)]),w1,(⟨0,0⟩:Answer)):=by
   (have ht:s1.kept.take q=s1.kept:=List.take_of_length_le (by omega));rw [ht] at hi0_1;unfold ei;dsimp only;rw [if_neg (by decide),if_pos rfl];unfold jz mr;rw [<-hi0_1];first|rw [if_pos (by simp;omega)]|rw [if_neg (by simp;omega)]
 rw [hX] at hr;clear hX
 simp only [Prod.mk.injEq] at hr;obtain ⟨rfl,rfl,rfl⟩:=hr
 refine al aa [0,1] 1 rfl rfl rfl rfl rfl rfl ?_ ?_
 all_goals first|rfl|(simp [aw,aW,bh];done)|(simp [aw,aW,bh];omega)
theorem Dc (x:Nat->Value) (hx:∀ i,(x i).oneCell'=true) (s0 s1:bY) (n0 n1:Int) (w0 w1:List cp) (d:bx) (l0:w0.length<=60) (l1:w1.length<=60) (m0:s0.kept.length<=40) (m1:s1.kept.length<=40) (hn:¬d.n=0/\¬d.n=1) (v0:List cp) (v1:List cp) (a2:Answer) (hr:ei s0 s1 n0 n1 w0 w1 d=(v0,v1,a2)):cJ Try.prog 66 [(.c (.p 0 0 0 0)),(.c (.q (dg d) 0))] [(0,(.box 98 (((((((((bh x).set 5 (cI s0.bX)).set 6 (dj s0.kept)).set 7 (cI s1.bX)).set 8 (dj s1.kept)).set 9 (cI n0)).set 10 (cI n1)).set 11 (eu w0)).set 12 (eu w1))))] [0] (.v (.g [cI a2.err,cI a2.ba])) [(0,(.box 98 (((((((((bh x).set 5 (cI s0.bX)).set 6 (dj s0.kept)).set 7 (cI s1.bX)).set 8 (dj s1.kept)).set 9 (cI n0)).set 10 (cI n1)).set 11 (eu v0)).set 12 (eu v1))))]:=by
 refine cJ.Fc 83 [(0,(aC (.p 0 0 0 0))),(1,(aC (.q (dg d) 0)))] 1 Try.func66 rfl rfl rfl rfl rfl rfl rfl rfl rfl ?_
 intro W0 F0 T0 pg hF
 have hF0:∀ b,F0 b->(pg 0).g=b:=fun b hb=>by obtain ⟨k,hk,h⟩:=hF b hb;rw [List.mem_singleton.1 hk] at h;exact h
 refine ae aa 1 rfl ?_
 refine ag ?_
 refine cw 20 ((decide (¬d.n=0)) && (decide (¬d.n=1))) ?_ ?_
 ·
  refine ax ?_
  refine ad aa 6 rfl ?_
  refine bE (t:=14) rfl (fun hb1=>?_) (fun hb1=>?_)
  ·
   have hb1':=of_decide_eq_true hb1
   refine ad aa 6 rfl ?_
   refine af ?_
   exact aH.bD 13 rfl rfl (by first|(simp [hb1];done)|(simp_all;done)|(exfalso;simp_all;done)|(simp_all;omega)) rfl
  have hb1':=of_decide_eq_false hb1
  refine ad aa 6 rfl ?_
  refine af ?_
  exact aH.bD 13 rfl rfl (by first|(simp [hb1];done)|(simp_all;done)|(exfalso;simp_all;done)|(simp_all;omega)) rfl
 refine aj rfl (fun hc2=>?_) (fun hc2=>?_)
 ·
  have hc2':=hc2;try simp only [br,bR] at hc2'
  refine ae aa 2 rfl ?_
  refine az ?_
  refine an ?_
  have hX:ei s0 s1 n0 n1 w0 w1 d=(w0,w1,(⟨6,0⟩:Answer)):=by
    unfold ei;rw [if_neg hn.1,if_neg hn.2]
  rw [hX] at hr;clear hX
  simp only [Prod.mk.injEq] at hr;obtain ⟨rfl,rfl,rfl⟩:=hr
  refine al aa [0,1] 1 rfl rfl rfl rfl rfl rfl ?_ ?_
  all_goals first|rfl|(simp [aw,aW,bh];done)|(simp [aw,aW,bh];omega)
 have hc2':=hc2;try simp only [br,bR] at hc2'
 (exfalso;simp at *;omega)
theorem Ge (x:Nat->Value) (hx:∀ i,(x i).oneCell'=true) (aP:List ah) (days:List (List Int)) (l0:aP.length<=100) (l1:days.length<=1000) (today2:List ah) (days2:List (List Int)) (a2:Answer) (hr:fZ aP days=(today2,days2,a2)):cJ Try.prog 69 [(.c (.p 0 0 0 0))] [(0,(.box 98 (((bh x).set 16 (.s 1 0 4 aP.length)).set 17 (.s 2 0 1 days.length)))),(1,(cM aP)),(2,(qC days))] [0] (.v (.g [cI a2.err,cI a2.ba])) [(0,(.box 98 (((bh x).set 16 (.s 1 0 4 today2.length)).set 17 (.s 2 0 1 days2.length)))),(1,(cM today2)),(2,(qC days2))]:=by
 refine cJ.mk 37 [(0,(aC (.p 0 0 0 0)))] 3 Try.func69 rfl rfl rfl rfl rfl rfl rfl rfl rfl ?_
 intro W0 F0 T0 pg
 refine ae aa 1 rfl ?_
 refine aF aa 5 rfl ?_
 obtain ⟨xr0,f0,hr0⟩:∃ (xr0:List Int) (f0:cW),fu aP=(xr0,f0):=⟨_,_,rfl⟩
 refine Gw (av':=(.t [(.c (pV xr0)),(.g [(cI f0.err),(cI f0.at_)])])) (ak.plain rfl) (fe 4 [1] (xr aP (by first|omega|(simp;done)|(simp;omega)) xr0 f0 hr0) HQ rfl rfl ⟨⟨_,rfl,.c (.s rfl (by decide) (by first|omega|(simp;done)|(simp;omega)))⟩,trivial⟩ ⟨trivial,⟨rfl,rfl,trivial⟩,trivial⟩ ⟨(Ek _),trivial⟩ rfl rfl rfl rfl) ⟨.inr ⟨_,_,_,_,_,rfl,rfl,rfl,by simp⟩,⟨.inl ⟨_,rfl,rfl⟩,.inl ⟨_,rfl,rfl⟩,trivial⟩,trivial⟩ rfl rfl rfl ?_
 refine ad aa 6 rfl ?_
 refine af ?_
 refine ag ?_
 refine ae aa 3 rfl ?_
 refine aj rfl (fun hc1=>?_) (fun hc1=>?_)
 ·
  have hc1':=of_decide_eq_true hc1
  refine ae aa 4 rfl ?_
  refine az ?_
  refine an ?_
  have hX:fZ aP days=(aP,days,(⟨f0.err,0⟩:Answer)):=by
    unfold fZ;simp only [hr0];(repeat' split)<;>first|rfl|omega|(simp_all;done)
  rw [hX] at hr;clear hX
  simp only [Prod.mk.injEq] at hr;obtain ⟨rfl,rfl,rfl⟩:=hr
  refine al aa [0,1,2,3] 3 rfl rfl rfl rfl rfl rfl ?_ ?_
  all_goals first|rfl|(simp [aw,aW,bh];done)|(simp [aw,aW,bh];omega)
 have hc1':=of_decide_eq_false hc1
 refine aS ?_
 refine aF aa 7 rfl ?_
 refine aQ 6 [5,4,3,0,1,2] (dV (ys:=[(0,(.c (pV xr0)))]) (rows:=([xr0]).map sU) 5 EO rfl (by decide) ⟨⟨rfl,rfl⟩,trivial⟩ rfl rfl rfl rfl) rfl ?_
 refine aQ 7 [6,5,4,3,0,1] (dw (m:=1) (N:=days.length+1) (k2:=6) (ys:=([xr0]).map sU) EO rfl rfl rfl rfl rfl rfl (by first|omega|(simp;done)|(simp;omega)) rfl (.s rfl (by first|omega|(simp;done)|(simp;omega))) (by first|omega|(simp;done)|(simp;omega)) (by first|omega|(simp;done)|(simp;omega)) fz (by decide) (by first|omega|(simp;done)|(simp;omega)) (by first|omega|(simp;done)|(simp;omega))) rfl ?_
 refine ad aa 4 rfl ?_
 refine af ?_
 refine fN (k:=0) (q:=17) (c':=(.s 6 0 1 ((days++([xr0])).length))) rfl rfl (by first|rfl|(simp;done)|(congr 1;omega)) rfl ?_
 refine ae aa 5 rfl ?_
 refine ae aa 2 rfl ?_
 refine az ?_
 refine cm 0 16 83 4 rfl rfl rfl ?_
 have hX:fZ aP days=(([]:List ah),days++([xr0]),(⟨0,0⟩:Answer)):=by
   unfold fZ;simp only [hr0];(repeat' split)<;>first|rfl|omega|(simp_all;done)
 rw [hX] at hr;clear hX
 simp only [Prod.mk.injEq] at hr;obtain ⟨rfl,rfl,rfl⟩:=hr
 refine al aa [0,7,6,3] 3 rfl rfl rfl rfl rfl rfl ?_ ?_
 all_goals first|rfl|(simp [aw,aW,bh];done)|(simp [aw,aW,bh];omega)

theorem Br (x:Nat->Value) (hx:∀ i,(x i).oneCell'=true) (b:Bk) (idn kind aE move sum:Int) (ok:cu b) (b2:Bk) (a2:Answer) (hr:cj b (⟨idn,kind,0,aE,move,sum⟩:bx)=(b2,a2)):cJ Try.prog 67 [(.c (.p 0 0 0 0)),(.c (.q (dg (⟨idn,kind,0,aE,move,sum⟩:bx)) 0))] [(0,(.box 98 (aW b 1 2 3 4 (.d (.v (x 17))) (.d (.v (x 19)))))),(1,(dT b.ay)),(2,(dM b.due)),(3,(ea b.au)),(4,(cM b.aP))] [0] (.v (.g [cI a2.err,cI a2.ba])) [(0,(.box 98 (aW b2 1 2 3 4 (.d (.v (x 17))) (.d (.v (x 19)))))),(1,(dT b2.ay)),(2,(dM b2.due)),(3,(ea b2.au)),(4,(cM b2.aP))]:=by
 refine cJ.mk 153 [(0,(aC (.p 0 0 0 0))),(1,(aC (.q (dg (⟨idn,kind,0,aE,move,sum⟩:bx)) 0)))] 5 Try.func67 rfl rfl rfl rfl rfl rfl rfl rfl rfl ?_
 intro W0 F0 T0 pg
 obtain ⟨okt,okc,okd,oka,oky,okw0,okw1,okp,okv,okk0,okk1,okg,okl0,okl1,okp0,okp1,okn0,okn1,okq⟩:=id ok
 refine ae aa 1 rfl ?_
 refine ag ?_
 refine ag ?_
 refine aX [0,1,4] [5,0,1,2,3,4] mixed rfl rfl ?_
 refine aD (kn:=[(15,false)]) aa 21 rfl ⟨rfl,trivial⟩ ?_
 refine aT (n':=6) [31,28,23] [0] rfl rfl (.inl ⟨(ak.yes rfl rfl rfl),aK.cast (dv (i:=0) rfl rfl rfl Try.underlying38 lu rfl (by decide)) rfl⟩) rfl ?_
 refine aD (kn:=[]) aa 1 rfl trivial ?_
 refine aT (n':=6) [33,23] [] rfl rfl (.inl ⟨(ak.yes rfl rfl rfl),aK.cast (cF rfl rfl rfl rfl rfl Try.underlying37) rfl⟩) rfl ?_
 refine aD (kn:=[]) aa 2 rfl trivial ?_
 refine bA [5,0,1,2,3,4] rfl rfl rfl rfl (by kernel_rfl) ?_
 refine af ?_
 refine aj rfl (fun hc1=>?_) (fun hc1=>?_)
 ·
  have hc1':=of_decide_eq_true hc1
  refine ae aa 2 rfl ?_
  refine az ?_
  refine an ?_
  have hX:cj b (⟨idn,kind,0,aE,move,sum⟩:bx)=(b,(⟨6,0⟩:Answer)):=by
    unfold cj;dsimp only;rw [if_pos rfl];unfold fL;rw [List.getElem?_eq_none (by omega)]
  rw [hX] at hr;clear hX
  simp only [Prod.mk.injEq] at hr;obtain ⟨rfl,rfl⟩:=hr
  refine al aa [0,1,2,3,4,5] 5 rfl rfl rfl rfl rfl rfl ?_ ?_
  all_goals first|rfl|(simp [aw,aW,bh];done)|(simp [aw,aW,bh];omega)
 have hc1':=of_decide_eq_false hc1
 refine aS ?_
 refine ag ?_
 obtain ⟨x1,hx1⟩:=cf (xs:=b.w0) (i:=0) (by first|omega|(simp;done)|(simp;omega))
 refine aX [0,1,4] [5,0,1,2,3,4] mixed rfl rfl ?_
 refine aD (kn:=[]) aa 8 rfl trivial ?_
 refine aT (n':=6) [45,42] [0] rfl rfl (.inl ⟨(ak.plain rfl),aK.cast (dv (i:=0) rfl rfl rfl Try.underlying38 lu rfl (by decide)) rfl⟩) rfl ?_
 refine aD (kn:=[]) aa 1 rfl trivial ?_
 refine aT (n':=6) [47] [] rfl rfl (.inl ⟨(ak.plain rfl),aK.cast (cD (i:=0) rfl rfl rfl Try.underlying37 uR (by first|omega|(simp;done)|(simp;omega)) (bp hx1)) rfl⟩) rfl ?_
 refine aD (n':=7) (kn:=[]) aa 2 rfl trivial ?_
 refine bA [6,5,0,1,2,3,4] rfl rfl rfl rfl (by kernel_rfl) ?_
 refine ad aa 1 rfl ?_
 refine af ?_
 have hpk:=okp0 x1 (List.mem_of_getElem? hx1)
 have hI0:∀ t∈b.s0.kept,fj t.number:=fun t ht=>(okk0 t ht).1
 have hI1:∀ t∈b.s1.kept,fj t.number:=fun t ht=>(okk1 t ht).1
 have hA:∀ a∈b.au,0<=a.aO/\a.aO < b.ay.length/\0<=a.aE/\a.aE < b.due.length:=fun a ha=>(okp a ha).2
 refine aF aa 1 rfl ?_
 refine aQ 16 [0,7,8,9,10,11,12,13,14,15,6,5] (cL id (bf [0,7,8,9,10,11,12,13,14,15]) (kK (x 17) (x 19) b (by first|omega|(simp;done)|(simp;omega)) (by first|omega|(simp;done)|(simp;omega)) (by first|omega|(simp;done)|(simp;omega)) (by first|omega|(simp;done)|(simp;omega))) ra rfl rfl ⟨⟨_,rfl,.inl ⟨rfl,rfl⟩⟩,trivial⟩ ⟨rfl,rfl,rfl,rfl,rfl,trivial⟩ rfl rfl rfl rfl rfl rfl trivial ⟨⟨trivial,trivial,trivial,trivial,trivial,trivial,trivial,trivial,trivial,trivial,trivial,trivial,trivial,trivial,trivial,trivial,trivial,trivial,trivial,trivial,trivial⟩,⟨trivial,trivial,trivial,trivial,trivial,trivial,trivial,trivial,trivial,trivial,trivial,trivial,trivial,trivial,trivial,trivial,trivial,trivial,trivial,trivial,trivial⟩,(fun _ _ _ _=>trivial),(fun _ _ _ _=>trivial),(fun _ _ _ _=>trivial),(fun _ _ _ _=>trivial),(fun _ _ _ _=>trivial),(fun _ _ _ _=>trivial),(fun _ _ _ _=>trivial),(fun _ _ _ _=>trivial),trivial⟩ rfl rfl rfl rfl) rfl ?_
 refine ad aa 1 rfl ?_
 refine af ?_
 refine ag ?_
 refine aX [0,1,4,5,6] [0,7,8,9,10,11,12,13,14,15,6,5] mixed rfl rfl ?_
 refine aD (kn:=[]) aa 13 rfl trivial ?_
 refine aT (n':=16) [64,61] [0] rfl rfl (.inl ⟨(ak.plain rfl),aK.cast (dv (i:=0) rfl rfl rfl Try.underlying38 lu rfl (by decide)) rfl⟩) rfl ?_
 refine aD (kn:=[]) aa 1 rfl trivial ?_
 refine aT (n':=16) [66] [] rfl rfl (.inl ⟨(ak.plain rfl),aK.cast (kH (l:=1) (h:=b.w0.length) (ys:=((b.w0).drop 1).map fy) rfl Try.underlying37 uR rfl (.inr ⟨_,rfl,rfl⟩) (.inl ⟨rfl,by simp⟩) (by first|omega|(simp;done)|(simp;omega)) (by first|omega|(simp;done)|(simp;omega)) (by first|(simp;done)|(rw [List.map_drop];exact List.take_of_length_le (by simp)))) rfl⟩) rfl ?_
 refine aD (kn:=[]) aa 3 rfl trivial ?_
 refine aT (n':=16) [70,56] [7] rfl rfl (.inl ⟨(ak.plain rfl),aK.cast (dv (i:=0) rfl rfl rfl Try.underlying38 lu rfl (by decide)) rfl⟩) rfl ?_
 refine bA [0,7,8,9,10,11,12,13,14,15,6,5] rfl rfl rfl rfl (by kernel_rfl) ?_
 refine ad aa 1 rfl ?_
 refine af ?_
 refine ag ?_
 refine ae aa 5 rfl ?_
 refine aj rfl (fun hc2=>?_) (fun hc2=>?_)
 ·
  have hc2':=of_decide_eq_true hc2
  refine aF aa 2 rfl ?_
  refine aQ 20 [0,16,17,18,19,6,5] (cL (bf [0,7,8,9,10,11,12,13,14,15]) (bf [0,16,17,18,19]) (fw (x 17) (x 19) b (⟨b.time,b.down,b.ay,b.due,b.au,b.s0,b.s1,b.n0,b.n1,(b.w0).drop 1,b.w1,b.bG,b.aP,b.book⟩:Bk) 0 (by first|assumption|omega)) fW rfl rfl ⟨⟨_,rfl,.inl ⟨rfl,rfl⟩⟩,⟨_,rfl,.inl ⟨rfl,rfl⟩⟩,trivial⟩ ⟨rfl,rfl,rfl,rfl,rfl,rfl,rfl,rfl,rfl,rfl,trivial⟩ rfl rfl rfl rfl rfl rfl trivial ⟨⟨trivial,trivial,trivial,trivial,trivial,trivial,trivial,trivial,trivial,trivial,trivial,trivial,trivial,trivial,trivial,trivial,trivial,trivial,trivial,trivial,trivial⟩,(fun _ _ _ _=>trivial),(fun _ _ _ _=>trivial),(fun _ _ _ _=>trivial),(fun _ _ _ _=>trivial),trivial⟩ rfl rfl rfl rfl) rfl ?_
  refine ad aa 2 rfl ?_
  refine af ?_
  refine az ?_
  refine an ?_
  have hX:cj b (⟨idn,kind,0,aE,move,sum⟩:bx)=((⟨b.time,b.down,b.ay,b.due,b.au,b.s0,b.s1,b.n0,b.n1,(b.w0).drop 1,b.w1,b.bG,b.aP,b.book⟩:Bk),(⟨0,0⟩:Answer)):=by
    unfold cj;dsimp only;rw [if_pos rfl];unfold fL;rw [hx1];dsimp only;(try simp only [dd]);(try unfold dd);(repeat' split)<;>first|rfl|omega|(exfalso;omega)|(simp_all;done)|(simp_all;omega)
  rw [hX] at hr;clear hX
  simp only [Prod.mk.injEq] at hr;obtain ⟨rfl,rfl⟩:=hr
  refine al aa [0,16,17,18,19,5] 5 rfl rfl rfl rfl rfl rfl ?_ ?_
  all_goals first|rfl|(simp [aw,aW,bh];done)|(simp [aw,aW,bh];omega)
 have hc2':=of_decide_eq_false hc2
 refine aS ?_
 refine ag ?_
 refine ae aa 3 rfl ?_
 refine aj rfl (fun hc3=>?_) (fun hc3=>?_)
 ·
  have hc3':=of_decide_eq_true hc3
  refine ag ?_
  obtain ⟨xr0,e0,hr0⟩:∃ (xr0:bY) (e0:Int),ej b.s0 x1.seen=(xr0,e0):=⟨_,_,rfl⟩
  refine df [0,1,4,5,6] [0,7,8,9,10,11,12,13,14,15,6,5] mixed rfl rfl ?_
  refine bT (kn:=[]) aa 8 rfl trivial ?_
  refine bW (n':=16) [92,89] [7] rfl rfl (.inl ⟨(ak.plain rfl),aK.cast (dv (i:=0) rfl rfl rfl Try.underlying35 mG rfl (by decide)) rfl⟩) rfl ?_
  refine bT (kn:=[]) aa 3 rfl trivial ?_
  refine bW (n':=16) [94,96] [] rfl rfl (.inl ⟨(ak.plain rfl),aK.cast (cb 16 (Fn.frozen (av':=(.t [(.g [(cI xr0.bX),(dj xr0.kept)]),(.c (cI e0))])) (qv b.s0 x1.seen (by first|assumption|exact kG (by assumption) (by omega)|exact jG (by assumption) (by assumption)|(simp [fj];done)) xr0 e0 hr0) ⟨⟨.inl ⟨_,rfl,rfl⟩,.inr ⟨_,_,_,_,_,rfl,rfl,rfl,by simp⟩,trivial⟩,.inl ⟨_,rfl,rfl⟩,trivial⟩) FI rfl rfl ⟨⟨_,rfl,.g ⟨.d _,.d _,trivial⟩⟩,⟨_,rfl,.c (.d _)⟩,trivial⟩ ⟨⟨trivial,trivial,trivial⟩,trivial,trivial⟩ trivial rfl rfl rfl rfl) rfl⟩) rfl ?_
  refine bT (n':=17) (kn:=[]) aa 6 rfl trivial ?_
  refine dU [0,1,4,5,6,7,8] [16,0,7,8,9,10,11,12,13,14,15,6,5] rfl rfl (by kernel_rfl) ?_
  refine then_ok ?_
  refine ag ?_
  refine aF aa 2 rfl ?_
  obtain ⟨e21,hr1⟩:∃ (e21:Int),dK 0 e0=e21:=⟨_,rfl⟩
  refine aQ 17 [7,16,0,8,9,10,11,12,13,14,15,6,5] (cr (bf [7]) (bf [7]) (ms:=(dE.set 19 (some (cI 0)))) (ms':=(dE.set 19 (some (cI e21)))) (fun x hx=>kl x hx 0 e0 e21 hr1) nI rfl rfl ⟨⟨_,rfl,.inl ⟨rfl,rfl⟩⟩,⟨_,rfl,.inr (.c (.d _))⟩,trivial⟩ rfl rfl rfl rfl rfl rfl rfl trivial rfl rfl rfl rfl rfl rfl rfl rfl rfl rfl rfl rfl rfl) rfl ?_
  refine ad aa 1 rfl ?_
  refine af ?_
  refine aj rfl (fun hc4=>?_) (fun hc4=>?_)
  ·
   have hc4':=hc4;try simp only [br,bR] at hc4'
   refine aX [0,1,4,5,6,7] [7,16,0,8,9,10,11,12,13,14,15,6,5] mixed rfl rfl ?_
   refine aD (kn:=[]) aa 9 rfl trivial ?_
   refine aT (n':=17) [112,108] [7] rfl rfl (.inl ⟨(ak.plain rfl),aK.cast (dv (i:=0) rfl rfl rfl Try.underlying35 mG rfl (by decide)) rfl⟩) rfl ?_
   refine bA [7,16,0,8,9,10,11,12,13,14,15,6,5] rfl rfl rfl rfl (by kernel_rfl) ?_
   refine ad aa 1 rfl ?_
   refine af ?_
   rcases (show e21=0\/¬e21=0 from by omega) with hs5|hs5
   ·
    refine aF aa 2 rfl ?_
    refine aQ 21 [0,17,18,19,20,16,6,5] (cL (bf [0,7,8,9,10,11,12,13,14,15]) (bf [0,17,18,19,20]) (fw (x 17) (x 19) b (⟨b.time,b.down,b.ay,b.due,b.au,xr0,b.s1,b.n0,b.n1,(b.w0).drop 1,b.w1,b.bG,b.aP,b.book⟩:Bk) e21 (by first|assumption|omega)) fW rfl rfl ⟨⟨_,rfl,.inl ⟨rfl,rfl⟩⟩,⟨_,rfl,.inl ⟨rfl,rfl⟩⟩,trivial⟩ ⟨rfl,rfl,rfl,rfl,rfl,rfl,rfl,rfl,rfl,rfl,trivial⟩ rfl rfl rfl rfl rfl rfl trivial ⟨⟨trivial,trivial,trivial,trivial,trivial,trivial,trivial,trivial,trivial,trivial,trivial,trivial,trivial,trivial,trivial,trivial,trivial,trivial,trivial,trivial,trivial⟩,(fun _ _ _ _=>trivial),(fun _ _ _ _=>trivial),(fun _ _ _ _=>trivial),(fun _ _ _ _=>trivial),trivial⟩ rfl rfl rfl rfl) rfl ?_
    refine ad aa 2 rfl ?_
    refine af ?_
    refine az ?_
    refine an ?_
    have hX:cj b (⟨idn,kind,0,aE,move,sum⟩:bx)=((⟨b.time,b.down,b.ay,b.due,b.au,xr0,b.s1,b.n0,b.n1,(b.w0).drop 1,b.w1,b.bG,b.aP,b.book⟩:Bk),(⟨e21,0⟩:Answer)):=by
      unfold cj;dsimp only;rw [if_pos rfl];unfold fL;rw [hx1];dsimp only;unfold dK at hr1;simp only [if_true] at hr1;(try simp only [hr0]);(try unfold dd);(repeat' split)<;>first|rfl|omega|(exfalso;omega)|(simp_all;done)|(simp_all;omega)
    rw [hX] at hr;clear hX
    simp only [Prod.mk.injEq] at hr;obtain ⟨rfl,rfl⟩:=hr
    refine al aa [0,17,18,19,20,5] 5 rfl rfl rfl rfl rfl rfl ?_ ?_
    all_goals first|rfl|(simp [aw,aW,bh];done)|(simp [aw,aW,bh];omega)
   refine aF aa 2 rfl ?_
   refine aQ 21 [0,17,18,19,20,16,6,5] (cL (bf [0,7,8,9,10,11,12,13,14,15]) (bf [0,17,18,19,20]) (gp (x 17) (x 19) b (⟨b.time,b.down,b.ay,b.due,b.au,xr0,b.s1,b.n0,b.n1,(b.w0).drop 1,b.w1,b.bG,b.aP,b.book⟩:Bk) e21 (by first|assumption|omega)) fW rfl rfl ⟨⟨_,rfl,.inl ⟨rfl,rfl⟩⟩,⟨_,rfl,.inl ⟨rfl,rfl⟩⟩,trivial⟩ ⟨rfl,rfl,rfl,rfl,rfl,rfl,rfl,rfl,rfl,rfl,trivial⟩ rfl rfl rfl rfl rfl rfl trivial ⟨⟨trivial,trivial,trivial,trivial,trivial,trivial,trivial,trivial,trivial,trivial,trivial,trivial,trivial,trivial,trivial,trivial,trivial,trivial,trivial,trivial,trivial⟩,(fun _ _ _ _=>trivial),(fun _ _ _ _=>trivial),(fun _ _ _ _=>trivial),(fun _ _ _ _=>trivial),trivial⟩ rfl rfl rfl rfl) rfl ?_
   refine ad aa 2 rfl ?_
   refine af ?_
   refine az ?_
   refine an ?_
   have hX:cj b (⟨idn,kind,0,aE,move,sum⟩:bx)=(b,(⟨e21,0⟩:Answer)):=by
     unfold cj;dsimp only;rw [if_pos rfl];unfold fL;rw [hx1];dsimp only;unfold dK at hr1;simp only [if_true] at hr1;(try simp only [hr0]);(try unfold dd);(repeat' split)<;>first|rfl|omega|(exfalso;omega)|(simp_all;done)|(simp_all;omega)
   rw [hX] at hr;clear hX
   simp only [Prod.mk.injEq] at hr;obtain ⟨rfl,rfl⟩:=hr
   refine al aa [0,17,18,19,20,5] 5 rfl rfl rfl rfl rfl rfl ?_ ?_
   all_goals first|rfl|(simp [aw,aW,bh];done)|(simp [aw,aW,bh];omega)
  have hc4':=hc4;try simp only [br,bR] at hc4'
  refine aS ?_
  rcases (show e21=0\/¬e21=0 from by omega) with hs6|hs6
  ·
   refine aF aa 2 rfl ?_
   refine aQ 21 [0,17,18,19,20,16,6,5] (cL (bf [0,7,8,9,10,11,12,13,14,15]) (bf [0,17,18,19,20]) (fw (x 17) (x 19) b (⟨b.time,b.down,b.ay,b.due,b.au,b.s0,b.s1,b.n0,b.n1,(b.w0).drop 1,b.w1,b.bG,b.aP,b.book⟩:Bk) e21 (by first|assumption|omega)) fW rfl rfl ⟨⟨_,rfl,.inl ⟨rfl,rfl⟩⟩,⟨_,rfl,.inl ⟨rfl,rfl⟩⟩,trivial⟩ ⟨rfl,rfl,rfl,rfl,rfl,rfl,rfl,rfl,rfl,rfl,trivial⟩ rfl rfl rfl rfl rfl rfl trivial ⟨⟨trivial,trivial,trivial,trivial,trivial,trivial,trivial,trivial,trivial,trivial,trivial,trivial,trivial,trivial,trivial,trivial,trivial,trivial,trivial,trivial,trivial⟩,(fun _ _ _ _=>trivial),(fun _ _ _ _=>trivial),(fun _ _ _ _=>trivial),(fun _ _ _ _=>trivial),trivial⟩ rfl rfl rfl rfl) rfl ?_
   refine ad aa 2 rfl ?_
   refine af ?_
   refine az ?_
   refine an ?_
   have hX:cj b (⟨idn,kind,0,aE,move,sum⟩:bx)=((⟨b.time,b.down,b.ay,b.due,b.au,b.s0,b.s1,b.n0,b.n1,(b.w0).drop 1,b.w1,b.bG,b.aP,b.book⟩:Bk),(⟨e21,0⟩:Answer)):=by
     unfold cj;dsimp only;rw [if_pos rfl];unfold fL;rw [hx1];dsimp only;unfold dK at hr1;simp only [if_true] at hr1;(try simp only [hr0]);(try unfold dd);(repeat' split)<;>first|rfl|omega|(exfalso;omega)|(simp_all;done)|(simp_all;omega)
   rw [hX] at hr;clear hX
   simp only [Prod.mk.injEq] at hr;obtain ⟨rfl,rfl⟩:=hr
   refine al aa [0,17,18,19,20,5] 5 rfl rfl rfl rfl rfl rfl ?_ ?_
   all_goals first|rfl|(simp [aw,aW,bh];done)|(simp [aw,aW,bh];omega)
  refine aF aa 2 rfl ?_
  refine aQ 21 [0,17,18,19,20,16,6,5] (cL (bf [0,7,8,9,10,11,12,13,14,15]) (bf [0,17,18,19,20]) (gp (x 17) (x 19) b (⟨b.time,b.down,b.ay,b.due,b.au,b.s0,b.s1,b.n0,b.n1,(b.w0).drop 1,b.w1,b.bG,b.aP,b.book⟩:Bk) e21 (by first|assumption|omega)) fW rfl rfl ⟨⟨_,rfl,.inl ⟨rfl,rfl⟩⟩,⟨_,rfl,.inl ⟨rfl,rfl⟩⟩,trivial⟩ ⟨rfl,rfl,rfl,rfl,rfl,rfl,rfl,rfl,rfl,rfl,trivial⟩ rfl rfl rfl rfl rfl rfl trivial ⟨⟨trivial,trivial,trivial,trivial,trivial,trivial,trivial,trivial,trivial,trivial,trivial,trivial,trivial,trivial,trivial,trivial,trivial,trivial,trivial,trivial,trivial⟩,(fun _ _ _ _=>trivial),(fun _ _ _ _=>trivial),(fun _ _ _ _=>trivial),(fun _ _ _ _=>trivial),trivial⟩ rfl rfl rfl rfl) rfl ?_
  refine ad aa 2 rfl ?_
  refine af ?_
  refine az ?_
  refine an ?_
  have hX:cj b (⟨idn,kind,0,aE,move,sum⟩:bx)=(b,(⟨e21,0⟩:Answer)):=by
    unfold cj;dsimp only;rw [if_pos rfl];unfold fL;rw [hx1];dsimp only;unfold dK at hr1;simp only [if_true] at hr1;(try simp only [hr0]);(try unfold dd);(repeat' split)<;>first|rfl|omega|(exfalso;omega)|(simp_all;done)|(simp_all;omega)
  rw [hX] at hr;clear hX
  simp only [Prod.mk.injEq] at hr;obtain ⟨rfl,rfl⟩:=hr
  refine al aa [0,17,18,19,20,5] 5 rfl rfl rfl rfl rfl rfl ?_ ?_
  all_goals first|rfl|(simp [aw,aW,bh];done)|(simp [aw,aW,bh];omega)
 have hc3':=of_decide_eq_false hc3
 refine aS ?_
 refine ag ?_
 obtain ⟨n2,ok2,hr2⟩:∃ (n2:Int) (ok2:Bool),iB b.n0 x1.cA=(n2,ok2):=⟨_,_,rfl⟩
 refine aX [0,1,4,5,6] [0,7,8,9,10,11,12,13,14,15,6,5] mixed rfl rfl ?_
 refine aD (kn:=[]) aa 8 rfl trivial ?_
 refine aT (n':=16) [126,123] [7] rfl rfl (.inl ⟨(ak.plain rfl),aK.cast (dv (i:=0) rfl rfl rfl Try.underlying36 gF rfl (by decide)) rfl⟩) rfl ?_
 refine aD (kn:=[]) aa 3 rfl trivial ?_
 refine aT (n':=16) [128,130] [] rfl rfl (.inl ⟨(ak.plain rfl),aK.cast (cb 16 (qu b.n0 x1.cA n2 ok2 hr2) FH rfl rfl ⟨⟨_,rfl,.c (.d _)⟩,⟨_,rfl,.g ⟨.d _,.d _,.d _,.d _,trivial⟩⟩,trivial⟩ ⟨trivial,trivial,trivial⟩ trivial rfl rfl rfl rfl) rfl⟩) rfl ?_
 refine aD (kn:=[]) aa 5 rfl trivial ?_
 refine bA [0,7,8,9,10,11,12,13,14,15,6,5] rfl rfl rfl rfl (by kernel_rfl) ?_
 refine af ?_
 refine ag ?_
 refine aX [0,1,4,5,6,9,10] [0,7,8,9,10,11,12,13,14,15,6,5] mixed rfl rfl ?_
 refine aD (kn:=[]) aa 9 rfl trivial ?_
 refine aT (n':=16) [142,138] [7] rfl rfl (.inl ⟨(ak.plain rfl),aK.cast (dv (i:=0) rfl rfl rfl Try.underlying36 gF rfl (by decide)) rfl⟩) rfl ?_
 refine bA [0,7,8,9,10,11,12,13,14,15,6,5] rfl rfl rfl rfl (by kernel_rfl) ?_
 refine ad aa 1 rfl ?_
 refine af ?_
 refine ag ?_
 refine ae aa 1 rfl ?_
 refine aj rfl (fun hc7=>?_) (fun hc7=>?_)
 ·
  have hc7':=hc7;try simp only [br,bR] at hc7'
  have hpk2:=hpk (by omega)
  refine ax ?_
  refine ad aa 3 rfl ?_
  obtain ⟨due23,cards23,book23,e23,hr3⟩:∃ (due23:List Int) (cards23:List bI) (book23:List Entry) (e23:Int),eO b.au b.due b.ay b.book 0 x1.cA=(due23,cards23,book23,e23):=⟨_,_,_,_,rfl⟩
  refine aQ 19 [7,16,17,18,0,8,9,10,11,15,6,5] (cr (bf [7,12,13,14]) (bf [7,16,17,18]) (ms:=(((((dE.set 2 (some (.s 1 0 6 b.ay.length))).set 3 (some (.s 2 0 1 b.due.length))).set 4 (some (.s 3 0 8 b.au.length))).set 18 (some (dW b.book))).set 19 (some (cI 0)))) (ms':=(((((dE.set 2 (some (.s 1 0 6 cards23.length))).set 3 (some (.s 2 0 1 due23.length))).set 4 (some (.s 3 0 8 b.au.length))).set 18 (some (dW book23))).set 19 (some (cI e23)))) (fun x hx=>Bh x hx b.au b.due b.ay b.book 0 x1.cA (by first|omega|(simp;done)|(simp;omega)) (by assumption) (by first|omega|(simp;done)|(simp;omega)) (by first|omega|(simp;done)|(simp;omega)) due23 cards23 book23 e23 hr3) FG rfl rfl ⟨⟨_,rfl,.inl ⟨rfl,rfl⟩⟩,⟨_,rfl,.inr (.g ⟨.d _,.d _,.d _,.d _,trivial⟩)⟩,trivial⟩ rfl rfl rfl rfl rfl rfl rfl ⟨rfl,rfl,rfl,trivial⟩ rfl rfl rfl rfl rfl rfl rfl rfl rfl rfl rfl rfl rfl) rfl ?_
  refine af ?_
  rcases (show e23=0\/¬e23=0 from by omega) with hs8|hs8
  ·
   refine aF aa 2 rfl ?_
   refine aQ 23 [0,19,20,21,22,6,5] (cL (bf [0,7,8,9,10,11,16,17,18,15]) (bf [0,19,20,21,22]) (fw (x 17) (x 19) b (⟨b.time,b.down,cards23,due23,b.au,b.s0,b.s1,n2,b.n1,(b.w0).drop 1,b.w1,b.bG,b.aP,book23⟩:Bk) e23 (by first|assumption|omega)) fW rfl rfl ⟨⟨_,rfl,.inl ⟨rfl,rfl⟩⟩,⟨_,rfl,.inl ⟨rfl,rfl⟩⟩,trivial⟩ ⟨rfl,rfl,rfl,rfl,rfl,rfl,rfl,rfl,rfl,rfl,trivial⟩ rfl rfl rfl rfl rfl rfl trivial ⟨⟨trivial,trivial,trivial,trivial,trivial,trivial,trivial,trivial,trivial,trivial,trivial,trivial,trivial,trivial,trivial,trivial,trivial,trivial,trivial,trivial,trivial⟩,(fun _ _ _ _=>trivial),(fun _ _ _ _=>trivial),(fun _ _ _ _=>trivial),(fun _ _ _ _=>trivial),trivial⟩ rfl rfl rfl rfl) rfl ?_
   refine ad aa 2 rfl ?_
   refine af ?_
   refine az ?_
   have hX:cj b (⟨idn,kind,0,aE,move,sum⟩:bx)=((⟨b.time,b.down,cards23,due23,b.au,b.s0,b.s1,n2,b.n1,(b.w0).drop 1,b.w1,b.bG,b.aP,book23⟩:Bk),(⟨e23,0⟩:Answer)):=by
     unfold cj;dsimp only;rw [if_pos rfl];unfold fL;rw [hx1];dsimp only;(try simp only [hr2,hr3]);(try unfold dd);(repeat' split)<;>first|rfl|omega|(exfalso;omega)|(simp_all;done)|(simp_all;omega)
   rw [hX] at hr;clear hX
   simp only [Prod.mk.injEq] at hr;obtain ⟨rfl,rfl⟩:=hr
   refine al aa [0,19,20,21,22,5] 5 rfl rfl rfl rfl rfl rfl ?_ ?_
   all_goals first|rfl|(simp [aw,aW,bh];done)|(simp [aw,aW,bh];omega)
  refine aF aa 2 rfl ?_
  refine aQ 23 [0,19,20,21,22,6,5] (cL (bf [0,7,8,9,10,11,16,17,18,15]) (bf [0,19,20,21,22]) (gp (x 17) (x 19) b (⟨b.time,b.down,cards23,due23,b.au,b.s0,b.s1,n2,b.n1,(b.w0).drop 1,b.w1,b.bG,b.aP,book23⟩:Bk) e23 (by first|assumption|omega)) fW rfl rfl ⟨⟨_,rfl,.inl ⟨rfl,rfl⟩⟩,⟨_,rfl,.inl ⟨rfl,rfl⟩⟩,trivial⟩ ⟨rfl,rfl,rfl,rfl,rfl,rfl,rfl,rfl,rfl,rfl,trivial⟩ rfl rfl rfl rfl rfl rfl trivial ⟨⟨trivial,trivial,trivial,trivial,trivial,trivial,trivial,trivial,trivial,trivial,trivial,trivial,trivial,trivial,trivial,trivial,trivial,trivial,trivial,trivial,trivial⟩,(fun _ _ _ _=>trivial),(fun _ _ _ _=>trivial),(fun _ _ _ _=>trivial),(fun _ _ _ _=>trivial),trivial⟩ rfl rfl rfl rfl) rfl ?_
  refine ad aa 2 rfl ?_
  refine af ?_
  refine az ?_
  have hX:cj b (⟨idn,kind,0,aE,move,sum⟩:bx)=(b,(⟨e23,0⟩:Answer)):=by
    unfold cj;dsimp only;rw [if_pos rfl];unfold fL;rw [hx1];dsimp only;(try simp only [hr2,hr3]);(try unfold dd);(repeat' split)<;>first|rfl|omega|(exfalso;omega)|(simp_all;done)|(simp_all;omega)
  rw [hX] at hr;clear hX
  simp only [Prod.mk.injEq] at hr;obtain ⟨rfl,rfl⟩:=hr
  refine al aa [0,19,20,21,22,5] 5 rfl rfl rfl rfl rfl rfl ?_ ?_
  all_goals first|rfl|(simp [aw,aW,bh];done)|(simp [aw,aW,bh];omega)
 have hc7':=hc7;try simp only [br,bR] at hc7'
 refine aS ?_
 refine aF aa 2 rfl ?_
 refine aQ 20 [0,16,17,18,19,6,5] (cL (bf [0,7,8,9,10,11,12,13,14,15]) (bf [0,16,17,18,19]) (fw (x 17) (x 19) b (⟨b.time,b.down,b.ay,b.due,b.au,b.s0,b.s1,n2,b.n1,(b.w0).drop 1,b.w1,b.bG,b.aP,b.book⟩:Bk) 0 (by first|assumption|omega)) fW rfl rfl ⟨⟨_,rfl,.inl ⟨rfl,rfl⟩⟩,⟨_,rfl,.inl ⟨rfl,rfl⟩⟩,trivial⟩ ⟨rfl,rfl,rfl,rfl,rfl,rfl,rfl,rfl,rfl,rfl,trivial⟩ rfl rfl rfl rfl rfl rfl trivial ⟨⟨trivial,trivial,trivial,trivial,trivial,trivial,trivial,trivial,trivial,trivial,trivial,trivial,trivial,trivial,trivial,trivial,trivial,trivial,trivial,trivial,trivial⟩,(fun _ _ _ _=>trivial),(fun _ _ _ _=>trivial),(fun _ _ _ _=>trivial),(fun _ _ _ _=>trivial),trivial⟩ rfl rfl rfl rfl) rfl ?_
 refine ad aa 2 rfl ?_
 refine af ?_
 refine az ?_
 have hX:cj b (⟨idn,kind,0,aE,move,sum⟩:bx)=((⟨b.time,b.down,b.ay,b.due,b.au,b.s0,b.s1,n2,b.n1,(b.w0).drop 1,b.w1,b.bG,b.aP,b.book⟩:Bk),(⟨0,0⟩:Answer)):=by
   unfold cj;dsimp only;rw [if_pos rfl];unfold fL;rw [hx1];dsimp only;(try simp only [hr2]);(try unfold dd);(repeat' split)<;>first|rfl|omega|(exfalso;omega)|(simp_all;done)|(simp_all;omega)
 rw [hX] at hr;clear hX
 simp only [Prod.mk.injEq] at hr;obtain ⟨rfl,rfl⟩:=hr
 refine al aa [0,16,17,18,19,5] 5 rfl rfl rfl rfl rfl rfl ?_ ?_
 all_goals first|rfl|(simp [aw,aW,bh];done)|(simp [aw,aW,bh];omega)
theorem Bq (x:Nat->Value) (hx:∀ i,(x i).oneCell'=true) (b:Bk) (idn kind aE move sum:Int) (ok:cu b) (b2:Bk) (a2:Answer) (hr:cj b (⟨idn,kind,1,aE,move,sum⟩:bx)=(b2,a2)):cJ Try.prog 67 [(.c (.p 0 0 0 0)),(.c (.q (dg (⟨idn,kind,1,aE,move,sum⟩:bx)) 0))] [(0,(.box 98 (aW b 1 2 3 4 (.d (.v (x 17))) (.d (.v (x 19)))))),(1,(dT b.ay)),(2,(dM b.due)),(3,(ea b.au)),(4,(cM b.aP))] [0] (.v (.g [cI a2.err,cI a2.ba])) [(0,(.box 98 (aW b2 1 2 3 4 (.d (.v (x 17))) (.d (.v (x 19)))))),(1,(dT b2.ay)),(2,(dM b2.due)),(3,(ea b2.au)),(4,(cM b2.aP))]:=by
 refine cJ.mk 153 [(0,(aC (.p 0 0 0 0))),(1,(aC (.q (dg (⟨idn,kind,1,aE,move,sum⟩:bx)) 0)))] 5 Try.func67 rfl rfl rfl rfl rfl rfl rfl rfl rfl ?_
 intro W0 F0 T0 pg
 obtain ⟨okt,okc,okd,oka,oky,okw0,okw1,okp,okv,okk0,okk1,okg,okl0,okl1,okp0,okp1,okn0,okn1,okq⟩:=id ok
 refine ae aa 1 rfl ?_
 refine ag ?_
 refine ag ?_
 refine aX [0,1,4] [5,0,1,2,3,4] mixed rfl rfl ?_
 refine aD (kn:=[(15,true),(21,false)]) aa 21 rfl ⟨rfl,rfl,trivial⟩ ?_
 refine aT (n':=6) [31,28,23] [0] rfl rfl (.inl ⟨(ak.yes rfl rfl rfl),aK.cast (dv (i:=1) rfl rfl rfl Try.underlying38 lu rfl (by decide)) rfl⟩) rfl ?_
 refine aD (kn:=[]) aa 1 rfl trivial ?_
 refine aT (n':=6) [33,23] [] rfl rfl (.inl ⟨(ak.yes rfl rfl rfl),aK.cast (cF rfl rfl rfl rfl rfl Try.underlying37) rfl⟩) rfl ?_
 refine aD (kn:=[]) aa 2 rfl trivial ?_
 refine bA [5,0,1,2,3,4] rfl rfl rfl rfl (by kernel_rfl) ?_
 refine af ?_
 refine aj rfl (fun hc1=>?_) (fun hc1=>?_)
 ·
  have hc1':=of_decide_eq_true hc1
  refine ae aa 2 rfl ?_
  refine az ?_
  refine an ?_
  have hX:cj b (⟨idn,kind,1,aE,move,sum⟩:bx)=(b,(⟨6,0⟩:Answer)):=by
    unfold cj;dsimp only;rw [if_neg (by decide),if_pos rfl];unfold fK;rw [List.getElem?_eq_none (by omega)]
  rw [hX] at hr;clear hX
  simp only [Prod.mk.injEq] at hr;obtain ⟨rfl,rfl⟩:=hr
  refine al aa [0,1,2,3,4,5] 5 rfl rfl rfl rfl rfl rfl ?_ ?_
  all_goals first|rfl|(simp [aw,aW,bh];done)|(simp [aw,aW,bh];omega)
 have hc1':=of_decide_eq_false hc1
 refine aS ?_
 refine ag ?_
 obtain ⟨x1,hx1⟩:=cf (xs:=b.w1) (i:=0) (by first|omega|(simp;done)|(simp;omega))
 refine aX [0,1,4] [5,0,1,2,3,4] mixed rfl rfl ?_
 refine aD (kn:=[]) aa 8 rfl trivial ?_
 refine aT (n':=6) [45,42] [0] rfl rfl (.inl ⟨(ak.plain rfl),aK.cast (dv (i:=1) rfl rfl rfl Try.underlying38 lu rfl (by decide)) rfl⟩) rfl ?_
 refine aD (kn:=[]) aa 1 rfl trivial ?_
 refine aT (n':=6) [47] [] rfl rfl (.inl ⟨(ak.plain rfl),aK.cast (cD (i:=0) rfl rfl rfl Try.underlying37 uR (by first|omega|(simp;done)|(simp;omega)) (bp hx1)) rfl⟩) rfl ?_
 refine aD (n':=7) (kn:=[]) aa 2 rfl trivial ?_
 refine bA [6,5,0,1,2,3,4] rfl rfl rfl rfl (by kernel_rfl) ?_
 refine ad aa 1 rfl ?_
 refine af ?_
 have hpk:=okp1 x1 (List.mem_of_getElem? hx1)
 have hI0:∀ t∈b.s0.kept,fj t.number:=fun t ht=>(okk0 t ht).1
 have hI1:∀ t∈b.s1.kept,fj t.number:=fun t ht=>(okk1 t ht).1
 have hA:∀ a∈b.au,0<=a.aO/\a.aO < b.ay.length/\0<=a.aE/\a.aE < b.due.length:=fun a ha=>(okp a ha).2
 refine aF aa 1 rfl ?_
 refine aQ 16 [0,7,8,9,10,11,12,13,14,15,6,5] (cL id (bf [0,7,8,9,10,11,12,13,14,15]) (kK (x 17) (x 19) b (by first|omega|(simp;done)|(simp;omega)) (by first|omega|(simp;done)|(simp;omega)) (by first|omega|(simp;done)|(simp;omega)) (by first|omega|(simp;done)|(simp;omega))) ra rfl rfl ⟨⟨_,rfl,.inl ⟨rfl,rfl⟩⟩,trivial⟩ ⟨rfl,rfl,rfl,rfl,rfl,trivial⟩ rfl rfl rfl rfl rfl rfl trivial ⟨⟨trivial,trivial,trivial,trivial,trivial,trivial,trivial,trivial,trivial,trivial,trivial,trivial,trivial,trivial,trivial,trivial,trivial,trivial,trivial,trivial,trivial⟩,⟨trivial,trivial,trivial,trivial,trivial,trivial,trivial,trivial,trivial,trivial,trivial,trivial,trivial,trivial,trivial,trivial,trivial,trivial,trivial,trivial,trivial⟩,(fun _ _ _ _=>trivial),(fun _ _ _ _=>trivial),(fun _ _ _ _=>trivial),(fun _ _ _ _=>trivial),(fun _ _ _ _=>trivial),(fun _ _ _ _=>trivial),(fun _ _ _ _=>trivial),(fun _ _ _ _=>trivial),trivial⟩ rfl rfl rfl rfl) rfl ?_
 refine ad aa 1 rfl ?_
 refine af ?_
 refine ag ?_
 refine aX [0,1,4,5,6] [0,7,8,9,10,11,12,13,14,15,6,5] mixed rfl rfl ?_
 refine aD (kn:=[]) aa 13 rfl trivial ?_
 refine aT (n':=16) [64,61] [0] rfl rfl (.inl ⟨(ak.plain rfl),aK.cast (dv (i:=1) rfl rfl rfl Try.underlying38 lu rfl (by decide)) rfl⟩) rfl ?_
 refine aD (kn:=[]) aa 1 rfl trivial ?_
 refine aT (n':=16) [66] [] rfl rfl (.inl ⟨(ak.plain rfl),aK.cast (kH (l:=1) (h:=b.w1.length) (ys:=((b.w1).drop 1).map fy) rfl Try.underlying37 uR rfl (.inr ⟨_,rfl,rfl⟩) (.inl ⟨rfl,by simp⟩) (by first|omega|(simp;done)|(simp;omega)) (by first|omega|(simp;done)|(simp;omega)) (by first|(simp;done)|(rw [List.map_drop];exact List.take_of_length_le (by simp)))) rfl⟩) rfl ?_
 refine aD (kn:=[]) aa 3 rfl trivial ?_
 refine aT (n':=16) [70,56] [7] rfl rfl (.inl ⟨(ak.plain rfl),aK.cast (dv (i:=1) rfl rfl rfl Try.underlying38 lu rfl (by decide)) rfl⟩) rfl ?_
 refine bA [0,7,8,9,10,11,12,13,14,15,6,5] rfl rfl rfl rfl (by kernel_rfl) ?_
 refine ad aa 1 rfl ?_
 refine af ?_
 refine ag ?_
 refine ae aa 5 rfl ?_
 refine aj rfl (fun hc2=>?_) (fun hc2=>?_)
 ·
  have hc2':=of_decide_eq_true hc2
  refine aF aa 2 rfl ?_
  refine aQ 20 [0,16,17,18,19,6,5] (cL (bf [0,7,8,9,10,11,12,13,14,15]) (bf [0,16,17,18,19]) (fw (x 17) (x 19) b (⟨b.time,b.down,b.ay,b.due,b.au,b.s0,b.s1,b.n0,b.n1,b.w0,(b.w1).drop 1,b.bG,b.aP,b.book⟩:Bk) 0 (by first|assumption|omega)) fW rfl rfl ⟨⟨_,rfl,.inl ⟨rfl,rfl⟩⟩,⟨_,rfl,.inl ⟨rfl,rfl⟩⟩,trivial⟩ ⟨rfl,rfl,rfl,rfl,rfl,rfl,rfl,rfl,rfl,rfl,trivial⟩ rfl rfl rfl rfl rfl rfl trivial ⟨⟨trivial,trivial,trivial,trivial,trivial,trivial,trivial,trivial,trivial,trivial,trivial,trivial,trivial,trivial,trivial,trivial,trivial,trivial,trivial,trivial,trivial⟩,(fun _ _ _ _=>trivial),(fun _ _ _ _=>trivial),(fun _ _ _ _=>trivial),(fun _ _ _ _=>trivial),trivial⟩ rfl rfl rfl rfl) rfl ?_
  refine ad aa 2 rfl ?_
  refine af ?_
  refine az ?_
  refine an ?_
  have hX:cj b (⟨idn,kind,1,aE,move,sum⟩:bx)=((⟨b.time,b.down,b.ay,b.due,b.au,b.s0,b.s1,b.n0,b.n1,b.w0,(b.w1).drop 1,b.bG,b.aP,b.book⟩:Bk),(⟨0,0⟩:Answer)):=by
    unfold cj;dsimp only;rw [if_neg (by decide),if_pos rfl];unfold fK;rw [hx1];dsimp only;(try simp only [dd]);(try unfold dd);(repeat' split)<;>first|rfl|omega|(exfalso;omega)|(simp_all;done)|(simp_all;omega)
  rw [hX] at hr;clear hX
  simp only [Prod.mk.injEq] at hr;obtain ⟨rfl,rfl⟩:=hr
  refine al aa [0,16,17,18,19,5] 5 rfl rfl rfl rfl rfl rfl ?_ ?_
  all_goals first|rfl|(simp [aw,aW,bh];done)|(simp [aw,aW,bh];omega)
 have hc2':=of_decide_eq_false hc2
 refine aS ?_
 refine ag ?_
 refine ae aa 3 rfl ?_
 refine aj rfl (fun hc3=>?_) (fun hc3=>?_)
 ·
  have hc3':=of_decide_eq_true hc3
  refine ag ?_
  obtain ⟨xr0,e0,hr0⟩:∃ (xr0:bY) (e0:Int),ej b.s1 x1.seen=(xr0,e0):=⟨_,_,rfl⟩
  refine df [0,1,4,5,6] [0,7,8,9,10,11,12,13,14,15,6,5] mixed rfl rfl ?_
  refine bT (kn:=[]) aa 8 rfl trivial ?_
  refine bW (n':=16) [92,89] [7] rfl rfl (.inl ⟨(ak.plain rfl),aK.cast (dv (i:=1) rfl rfl rfl Try.underlying35 mG rfl (by decide)) rfl⟩) rfl ?_
  refine bT (kn:=[]) aa 3 rfl trivial ?_
  refine bW (n':=16) [94,96] [] rfl rfl (.inl ⟨(ak.plain rfl),aK.cast (cb 16 (Fn.frozen (av':=(.t [(.g [(cI xr0.bX),(dj xr0.kept)]),(.c (cI e0))])) (qv b.s1 x1.seen (by first|assumption|exact kG (by assumption) (by omega)|exact jG (by assumption) (by assumption)|(simp [fj];done)) xr0 e0 hr0) ⟨⟨.inl ⟨_,rfl,rfl⟩,.inr ⟨_,_,_,_,_,rfl,rfl,rfl,by simp⟩,trivial⟩,.inl ⟨_,rfl,rfl⟩,trivial⟩) FI rfl rfl ⟨⟨_,rfl,.g ⟨.d _,.d _,trivial⟩⟩,⟨_,rfl,.c (.d _)⟩,trivial⟩ ⟨⟨trivial,trivial,trivial⟩,trivial,trivial⟩ trivial rfl rfl rfl rfl) rfl⟩) rfl ?_
  refine bT (n':=17) (kn:=[]) aa 6 rfl trivial ?_
  refine dU [0,1,4,5,6,7,8] [16,0,7,8,9,10,11,12,13,14,15,6,5] rfl rfl (by kernel_rfl) ?_
  refine then_ok ?_
  refine ag ?_
  refine aF aa 2 rfl ?_
  obtain ⟨e21,hr1⟩:∃ (e21:Int),dK 0 e0=e21:=⟨_,rfl⟩
  refine aQ 17 [7,16,0,8,9,10,11,12,13,14,15,6,5] (cr (bf [7]) (bf [7]) (ms:=(dE.set 19 (some (cI 0)))) (ms':=(dE.set 19 (some (cI e21)))) (fun x hx=>kl x hx 0 e0 e21 hr1) nI rfl rfl ⟨⟨_,rfl,.inl ⟨rfl,rfl⟩⟩,⟨_,rfl,.inr (.c (.d _))⟩,trivial⟩ rfl rfl rfl rfl rfl rfl rfl trivial rfl rfl rfl rfl rfl rfl rfl rfl rfl rfl rfl rfl rfl) rfl ?_
  refine ad aa 1 rfl ?_
  refine af ?_
  refine aj rfl (fun hc4=>?_) (fun hc4=>?_)
  ·
   have hc4':=hc4;try simp only [br,bR] at hc4'
   refine aX [0,1,4,5,6,7] [7,16,0,8,9,10,11,12,13,14,15,6,5] mixed rfl rfl ?_
   refine aD (kn:=[]) aa 9 rfl trivial ?_
   refine aT (n':=17) [112,108] [7] rfl rfl (.inl ⟨(ak.plain rfl),aK.cast (dv (i:=1) rfl rfl rfl Try.underlying35 mG rfl (by decide)) rfl⟩) rfl ?_
   refine bA [7,16,0,8,9,10,11,12,13,14,15,6,5] rfl rfl rfl rfl (by kernel_rfl) ?_
   refine ad aa 1 rfl ?_
   refine af ?_
   rcases (show e21=0\/¬e21=0 from by omega) with hs5|hs5
   ·
    refine aF aa 2 rfl ?_
    refine aQ 21 [0,17,18,19,20,16,6,5] (cL (bf [0,7,8,9,10,11,12,13,14,15]) (bf [0,17,18,19,20]) (fw (x 17) (x 19) b (⟨b.time,b.down,b.ay,b.due,b.au,b.s0,xr0,b.n0,b.n1,b.w0,(b.w1).drop 1,b.bG,b.aP,b.book⟩:Bk) e21 (by first|assumption|omega)) fW rfl rfl ⟨⟨_,rfl,.inl ⟨rfl,rfl⟩⟩,⟨_,rfl,.inl ⟨rfl,rfl⟩⟩,trivial⟩ ⟨rfl,rfl,rfl,rfl,rfl,rfl,rfl,rfl,rfl,rfl,trivial⟩ rfl rfl rfl rfl rfl rfl trivial ⟨⟨trivial,trivial,trivial,trivial,trivial,trivial,trivial,trivial,trivial,trivial,trivial,trivial,trivial,trivial,trivial,trivial,trivial,trivial,trivial,trivial,trivial⟩,(fun _ _ _ _=>trivial),(fun _ _ _ _=>trivial),(fun _ _ _ _=>trivial),(fun _ _ _ _=>trivial),trivial⟩ rfl rfl rfl rfl) rfl ?_
    refine ad aa 2 rfl ?_
    refine af ?_
    refine az ?_
    refine an ?_
    have hX:cj b (⟨idn,kind,1,aE,move,sum⟩:bx)=((⟨b.time,b.down,b.ay,b.due,b.au,b.s0,xr0,b.n0,b.n1,b.w0,(b.w1).drop 1,b.bG,b.aP,b.book⟩:Bk),(⟨e21,0⟩:Answer)):=by
      unfold cj;dsimp only;rw [if_neg (by decide),if_pos rfl];unfold fK;rw [hx1];dsimp only;unfold dK at hr1;simp only [if_true] at hr1;(try simp only [hr0]);(try unfold dd);(repeat' split)<;>first|rfl|omega|(exfalso;omega)|(simp_all;done)|(simp_all;omega)
    rw [hX] at hr;clear hX
    simp only [Prod.mk.injEq] at hr;obtain ⟨rfl,rfl⟩:=hr
    refine al aa [0,17,18,19,20,5] 5 rfl rfl rfl rfl rfl rfl ?_ ?_
    all_goals first|rfl|(simp [aw,aW,bh];done)|(simp [aw,aW,bh];omega)
   refine aF aa 2 rfl ?_
   refine aQ 21 [0,17,18,19,20,16,6,5] (cL (bf [0,7,8,9,10,11,12,13,14,15]) (bf [0,17,18,19,20]) (gp (x 17) (x 19) b (⟨b.time,b.down,b.ay,b.due,b.au,b.s0,xr0,b.n0,b.n1,b.w0,(b.w1).drop 1,b.bG,b.aP,b.book⟩:Bk) e21 (by first|assumption|omega)) fW rfl rfl ⟨⟨_,rfl,.inl ⟨rfl,rfl⟩⟩,⟨_,rfl,.inl ⟨rfl,rfl⟩⟩,trivial⟩ ⟨rfl,rfl,rfl,rfl,rfl,rfl,rfl,rfl,rfl,rfl,trivial⟩ rfl rfl rfl rfl rfl rfl trivial ⟨⟨trivial,trivial,trivial,trivial,trivial,trivial,trivial,trivial,trivial,trivial,trivial,trivial,trivial,trivial,trivial,trivial,trivial,trivial,trivial,trivial,trivial⟩,(fun _ _ _ _=>trivial),(fun _ _ _ _=>trivial),(fun _ _ _ _=>trivial),(fun _ _ _ _=>trivial),trivial⟩ rfl rfl rfl rfl) rfl ?_
   refine ad aa 2 rfl ?_
   refine af ?_
   refine az ?_
   refine an ?_
   have hX:cj b (⟨idn,kind,1,aE,move,sum⟩:bx)=(b,(⟨e21,0⟩:Answer)):=by
     unfold cj;dsimp only;rw [if_neg (by decide),if_pos rfl];unfold fK;rw [hx1];dsimp only;unfold dK at hr1;simp only [if_true] at hr1;(try simp only [hr0]);(try unfold dd);(repeat' split)<;>first|rfl|omega|(exfalso;omega)|(simp_all;done)|(simp_all;omega)
   rw [hX] at hr;clear hX
   simp only [Prod.mk.injEq] at hr;obtain ⟨rfl,rfl⟩:=hr
   refine al aa [0,17,18,19,20,5] 5 rfl rfl rfl rfl rfl rfl ?_ ?_
   all_goals first|rfl|(simp [aw,aW,bh];done)|(simp [aw,aW,bh];omega)
  have hc4':=hc4;try simp only [br,bR] at hc4'
  refine aS ?_
  rcases (show e21=0\/¬e21=0 from by omega) with hs6|hs6
  ·
   refine aF aa 2 rfl ?_
   refine aQ 21 [0,17,18,19,20,16,6,5] (cL (bf [0,7,8,9,10,11,12,13,14,15]) (bf [0,17,18,19,20]) (fw (x 17) (x 19) b (⟨b.time,b.down,b.ay,b.due,b.au,b.s0,b.s1,b.n0,b.n1,b.w0,(b.w1).drop 1,b.bG,b.aP,b.book⟩:Bk) e21 (by first|assumption|omega)) fW rfl rfl ⟨⟨_,rfl,.inl ⟨rfl,rfl⟩⟩,⟨_,rfl,.inl ⟨rfl,rfl⟩⟩,trivial⟩ ⟨rfl,rfl,rfl,rfl,rfl,rfl,rfl,rfl,rfl,rfl,trivial⟩ rfl rfl rfl rfl rfl rfl trivial ⟨⟨trivial,trivial,trivial,trivial,trivial,trivial,trivial,trivial,trivial,trivial,trivial,trivial,trivial,trivial,trivial,trivial,trivial,trivial,trivial,trivial,trivial⟩,(fun _ _ _ _=>trivial),(fun _ _ _ _=>trivial),(fun _ _ _ _=>trivial),(fun _ _ _ _=>trivial),trivial⟩ rfl rfl rfl rfl) rfl ?_
   refine ad aa 2 rfl ?_
   refine af ?_
   refine az ?_
   refine an ?_
   have hX:cj b (⟨idn,kind,1,aE,move,sum⟩:bx)=((⟨b.time,b.down,b.ay,b.due,b.au,b.s0,b.s1,b.n0,b.n1,b.w0,(b.w1).drop 1,b.bG,b.aP,b.book⟩:Bk),(⟨e21,0⟩:Answer)):=by
     unfold cj;dsimp only;rw [if_neg (by decide),if_pos rfl];unfold fK;rw [hx1];dsimp only;unfold dK at hr1;simp only [if_true] at hr1;(try simp only [hr0]);(try unfold dd);(repeat' split)<;>first|rfl|omega|(exfalso;omega)|(simp_all;done)|(simp_all;omega)
   rw [hX] at hr;clear hX
   simp only [Prod.mk.injEq] at hr;obtain ⟨rfl,rfl⟩:=hr
   refine al aa [0,17,18,19,20,5] 5 rfl rfl rfl rfl rfl rfl ?_ ?_
   all_goals first|rfl|(simp [aw,aW,bh];done)|(simp [aw,aW,bh];omega)
  refine aF aa 2 rfl ?_
  refine aQ 21 [0,17,18,19,20,16,6,5] (cL (bf [0,7,8,9,10,11,12,13,14,15]) (bf [0,17,18,19,20]) (gp (x 17) (x 19) b (⟨b.time,b.down,b.ay,b.due,b.au,b.s0,b.s1,b.n0,b.n1,b.w0,(b.w1).drop 1,b.bG,b.aP,b.book⟩:Bk) e21 (by first|assumption|omega)) fW rfl rfl ⟨⟨_,rfl,.inl ⟨rfl,rfl⟩⟩,⟨_,rfl,.inl ⟨rfl,rfl⟩⟩,trivial⟩ ⟨rfl,rfl,rfl,rfl,rfl,rfl,rfl,rfl,rfl,rfl,trivial⟩ rfl rfl rfl rfl rfl rfl trivial ⟨⟨trivial,trivial,trivial,trivial,trivial,trivial,trivial,trivial,trivial,trivial,trivial,trivial,trivial,trivial,trivial,trivial,trivial,trivial,trivial,trivial,trivial⟩,(fun _ _ _ _=>trivial),(fun _ _ _ _=>trivial),(fun _ _ _ _=>trivial),(fun _ _ _ _=>trivial),trivial⟩ rfl rfl rfl rfl) rfl ?_
  refine ad aa 2 rfl ?_
  refine af ?_
  refine az ?_
  refine an ?_
  have hX:cj b (⟨idn,kind,1,aE,move,sum⟩:bx)=(b,(⟨e21,0⟩:Answer)):=by
    unfold cj;dsimp only;rw [if_neg (by decide),if_pos rfl];unfold fK;rw [hx1];dsimp only;unfold dK at hr1;simp only [if_true] at hr1;(try simp only [hr0]);(try unfold dd);(repeat' split)<;>first|rfl|omega|(exfalso;omega)|(simp_all;done)|(simp_all;omega)
  rw [hX] at hr;clear hX
  simp only [Prod.mk.injEq] at hr;obtain ⟨rfl,rfl⟩:=hr
  refine al aa [0,17,18,19,20,5] 5 rfl rfl rfl rfl rfl rfl ?_ ?_
  all_goals first|rfl|(simp [aw,aW,bh];done)|(simp [aw,aW,bh];omega)
 have hc3':=of_decide_eq_false hc3
 refine aS ?_
 refine ag ?_
 obtain ⟨n2,ok2,hr2⟩:∃ (n2:Int) (ok2:Bool),iB b.n1 x1.cA=(n2,ok2):=⟨_,_,rfl⟩
 refine aX [0,1,4,5,6] [0,7,8,9,10,11,12,13,14,15,6,5] mixed rfl rfl ?_
 refine aD (kn:=[]) aa 8 rfl trivial ?_
 refine aT (n':=16) [126,123] [7] rfl rfl (.inl ⟨(ak.plain rfl),aK.cast (dv (i:=1) rfl rfl rfl Try.underlying36 gF rfl (by decide)) rfl⟩) rfl ?_
 refine aD (kn:=[]) aa 3 rfl trivial ?_
 refine aT (n':=16) [128,130] [] rfl rfl (.inl ⟨(ak.plain rfl),aK.cast (cb 16 (qu b.n1 x1.cA n2 ok2 hr2) FH rfl rfl ⟨⟨_,rfl,.c (.d _)⟩,⟨_,rfl,.g ⟨.d _,.d _,.d _,.d _,trivial⟩⟩,trivial⟩ ⟨trivial,trivial,trivial⟩ trivial rfl rfl rfl rfl) rfl⟩) rfl ?_
 refine aD (kn:=[]) aa 5 rfl trivial ?_
 refine bA [0,7,8,9,10,11,12,13,14,15,6,5] rfl rfl rfl rfl (by kernel_rfl) ?_
 refine af ?_
 refine ag ?_
 refine aX [0,1,4,5,6,9,10] [0,7,8,9,10,11,12,13,14,15,6,5] mixed rfl rfl ?_
 refine aD (kn:=[]) aa 9 rfl trivial ?_
 refine aT (n':=16) [142,138] [7] rfl rfl (.inl ⟨(ak.plain rfl),aK.cast (dv (i:=1) rfl rfl rfl Try.underlying36 gF rfl (by decide)) rfl⟩) rfl ?_
 refine bA [0,7,8,9,10,11,12,13,14,15,6,5] rfl rfl rfl rfl (by kernel_rfl) ?_
 refine ad aa 1 rfl ?_
 refine af ?_
 refine ag ?_
 refine ae aa 1 rfl ?_
 refine aj rfl (fun hc7=>?_) (fun hc7=>?_)
 ·
  have hc7':=hc7;try simp only [br,bR] at hc7'
  have hpk2:=hpk (by omega)
  refine ax ?_
  refine ad aa 3 rfl ?_
  obtain ⟨due23,cards23,book23,e23,hr3⟩:∃ (due23:List Int) (cards23:List bI) (book23:List Entry) (e23:Int),eO b.au b.due b.ay b.book 0 x1.cA=(due23,cards23,book23,e23):=⟨_,_,_,_,rfl⟩
  refine aQ 19 [7,16,17,18,0,8,9,10,11,15,6,5] (cr (bf [7,12,13,14]) (bf [7,16,17,18]) (ms:=(((((dE.set 2 (some (.s 1 0 6 b.ay.length))).set 3 (some (.s 2 0 1 b.due.length))).set 4 (some (.s 3 0 8 b.au.length))).set 18 (some (dW b.book))).set 19 (some (cI 0)))) (ms':=(((((dE.set 2 (some (.s 1 0 6 cards23.length))).set 3 (some (.s 2 0 1 due23.length))).set 4 (some (.s 3 0 8 b.au.length))).set 18 (some (dW book23))).set 19 (some (cI e23)))) (fun x hx=>Bh x hx b.au b.due b.ay b.book 0 x1.cA (by first|omega|(simp;done)|(simp;omega)) (by assumption) (by first|omega|(simp;done)|(simp;omega)) (by first|omega|(simp;done)|(simp;omega)) due23 cards23 book23 e23 hr3) FG rfl rfl ⟨⟨_,rfl,.inl ⟨rfl,rfl⟩⟩,⟨_,rfl,.inr (.g ⟨.d _,.d _,.d _,.d _,trivial⟩)⟩,trivial⟩ rfl rfl rfl rfl rfl rfl rfl ⟨rfl,rfl,rfl,trivial⟩ rfl rfl rfl rfl rfl rfl rfl rfl rfl rfl rfl rfl rfl) rfl ?_
  refine af ?_
  rcases (show e23=0\/¬e23=0 from by omega) with hs8|hs8
  ·
   refine aF aa 2 rfl ?_
   refine aQ 23 [0,19,20,21,22,6,5] (cL (bf [0,7,8,9,10,11,16,17,18,15]) (bf [0,19,20,21,22]) (fw (x 17) (x 19) b (⟨b.time,b.down,cards23,due23,b.au,b.s0,b.s1,b.n0,n2,b.w0,(b.w1).drop 1,b.bG,b.aP,book23⟩:Bk) e23 (by first|assumption|omega)) fW rfl rfl ⟨⟨_,rfl,.inl ⟨rfl,rfl⟩⟩,⟨_,rfl,.inl ⟨rfl,rfl⟩⟩,trivial⟩ ⟨rfl,rfl,rfl,rfl,rfl,rfl,rfl,rfl,rfl,rfl,trivial⟩ rfl rfl rfl rfl rfl rfl trivial ⟨⟨trivial,trivial,trivial,trivial,trivial,trivial,trivial,trivial,trivial,trivial,trivial,trivial,trivial,trivial,trivial,trivial,trivial,trivial,trivial,trivial,trivial⟩,(fun _ _ _ _=>trivial),(fun _ _ _ _=>trivial),(fun _ _ _ _=>trivial),(fun _ _ _ _=>trivial),trivial⟩ rfl rfl rfl rfl) rfl ?_
   refine ad aa 2 rfl ?_
   refine af ?_
   refine az ?_
   have hX:cj b (⟨idn,kind,1,aE,move,sum⟩:bx)=((⟨b.time,b.down,cards23,due23,b.au,b.s0,b.s1,b.n0,n2,b.w0,(b.w1).drop 1,b.bG,b.aP,book23⟩:Bk),(⟨e23,0⟩:Answer)):=by
     unfold cj;dsimp only;rw [if_neg (by decide),if_pos rfl];unfold fK;rw [hx1];dsimp only;(try simp only [hr2,hr3]);(try unfold dd);(repeat' split)<;>first|rfl|omega|(exfalso;omega)|(simp_all;done)|(simp_all;omega)
   rw [hX] at hr;clear hX
   simp only [Prod.mk.injEq] at hr;obtain ⟨rfl,rfl⟩:=hr
   refine al aa [0,19,20,21,22,5] 5 rfl rfl rfl rfl rfl rfl ?_ ?_
   all_goals first|rfl|(simp [aw,aW,bh];done)|(simp [aw,aW,bh];omega)
  refine aF aa 2 rfl ?_
  refine aQ 23 [0,19,20,21,22,6,5] (cL (bf [0,7,8,9,10,11,16,17,18,15]) (bf [0,19,20,21,22]) (gp (x 17) (x 19) b (⟨b.time,b.down,cards23,due23,b.au,b.s0,b.s1,b.n0,n2,b.w0,(b.w1).drop 1,b.bG,b.aP,book23⟩:Bk) e23 (by first|assumption|omega)) fW rfl rfl ⟨⟨_,rfl,.inl ⟨rfl,rfl⟩⟩,⟨_,rfl,.inl ⟨rfl,rfl⟩⟩,trivial⟩ ⟨rfl,rfl,rfl,rfl,rfl,rfl,rfl,rfl,rfl,rfl,trivial⟩ rfl rfl rfl rfl rfl rfl trivial ⟨⟨trivial,trivial,trivial,trivial,trivial,trivial,trivial,trivial,trivial,trivial,trivial,trivial,trivial,trivial,trivial,trivial,trivial,trivial,trivial,trivial,trivial⟩,(fun _ _ _ _=>trivial),(fun _ _ _ _=>trivial),(fun _ _ _ _=>trivial),(fun _ _ _ _=>trivial),trivial⟩ rfl rfl rfl rfl) rfl ?_
  refine ad aa 2 rfl ?_
  refine af ?_
  refine az ?_
  have hX:cj b (⟨idn,kind,1,aE,move,sum⟩:bx)=(b,(⟨e23,0⟩:Answer)):=by
    unfold cj;dsimp only;rw [if_neg (by decide),if_pos rfl];unfold fK;rw [hx1];dsimp only;(try simp only [hr2,hr3]);(try unfold dd);(repeat' split)<;>first|rfl|omega|(exfalso;omega)|(simp_all;done)|(simp_all;omega)
  rw [hX] at hr;clear hX
  simp only [Prod.mk.injEq] at hr;obtain ⟨rfl,rfl⟩:=hr
  refine al aa [0,19,20,21,22,5] 5 rfl rfl rfl rfl rfl rfl ?_ ?_
  all_goals first|rfl|(simp [aw,aW,bh];done)|(simp [aw,aW,bh];omega)
 have hc7':=hc7;try simp only [br,bR] at hc7'
 refine aS ?_
 refine aF aa 2 rfl ?_
 refine aQ 20 [0,16,17,18,19,6,5] (cL (bf [0,7,8,9,10,11,12,13,14,15]) (bf [0,16,17,18,19]) (fw (x 17) (x 19) b (⟨b.time,b.down,b.ay,b.due,b.au,b.s0,b.s1,b.n0,n2,b.w0,(b.w1).drop 1,b.bG,b.aP,b.book⟩:Bk) 0 (by first|assumption|omega)) fW rfl rfl ⟨⟨_,rfl,.inl ⟨rfl,rfl⟩⟩,⟨_,rfl,.inl ⟨rfl,rfl⟩⟩,trivial⟩ ⟨rfl,rfl,rfl,rfl,rfl,rfl,rfl,rfl,rfl,rfl,trivial⟩ rfl rfl rfl rfl rfl rfl trivial ⟨⟨trivial,trivial,trivial,trivial,trivial,trivial,trivial,trivial,trivial,trivial,trivial,trivial,trivial,trivial,trivial,trivial,trivial,trivial,trivial,trivial,trivial⟩,(fun _ _ _ _=>trivial),(fun _ _ _ _=>trivial),(fun _ _ _ _=>trivial),(fun _ _ _ _=>trivial),trivial⟩ rfl rfl rfl rfl) rfl ?_
 refine ad aa 2 rfl ?_
 refine af ?_
 refine az ?_
 have hX:cj b (⟨idn,kind,1,aE,move,sum⟩:bx)=((⟨b.time,b.down,b.ay,b.due,b.au,b.s0,b.s1,b.n0,n2,b.w0,(b.w1).drop 1,b.bG,b.aP,b.book⟩:Bk),(⟨0,0⟩:Answer)):=by
   unfold cj;dsimp only;rw [if_neg (by decide),if_pos rfl];unfold fK;rw [hx1];dsimp only;(try simp only [hr2]);(try unfold dd);(repeat' split)<;>first|rfl|omega|(exfalso;omega)|(simp_all;done)|(simp_all;omega)
 rw [hX] at hr;clear hX
 simp only [Prod.mk.injEq] at hr;obtain ⟨rfl,rfl⟩:=hr
 refine al aa [0,16,17,18,19,5] 5 rfl rfl rfl rfl rfl rfl ?_ ?_
 all_goals first|rfl|(simp [aw,aW,bh];done)|(simp [aw,aW,bh];omega)
theorem Bp (x:Nat->Value) (hx:∀ i,(x i).oneCell'=true) (b:Bk) (d:bx) (ok:cu b) (hn:¬d.n=0/\¬d.n=1) (b2:Bk) (a2:Answer) (hr:cj b d=(b2,a2)):cJ Try.prog 67 [(.c (.p 0 0 0 0)),(.c (.q (dg d) 0))] [(0,(.box 98 (aW b 1 2 3 4 (.d (.v (x 17))) (.d (.v (x 19)))))),(1,(dT b.ay)),(2,(dM b.due)),(3,(ea b.au)),(4,(cM b.aP))] [0] (.v (.g [cI a2.err,cI a2.ba])) [(0,(.box 98 (aW b2 1 2 3 4 (.d (.v (x 17))) (.d (.v (x 19)))))),(1,(dT b2.ay)),(2,(dM b2.due)),(3,(ea b2.au)),(4,(cM b2.aP))]:=by
 refine cJ.mk 153 [(0,(aC (.p 0 0 0 0))),(1,(aC (.q (dg d) 0)))] 5 Try.func67 rfl rfl rfl rfl rfl rfl rfl rfl rfl ?_
 intro W0 F0 T0 pg
 obtain ⟨okt,okc,okd,oka,oky,okw0,okw1,okp,okv,okk0,okk1,okg,okl0,okl1,okp0,okp1,okn0,okn1,okq⟩:=id ok
 refine ae aa 1 rfl ?_
 refine ag ?_
 refine ag ?_
 rcases Bool.eq_false_or_eq_true (decide (¬d.n=0)) with hb1|hb1
 ·
  have hb1':=of_decide_eq_true hb1
  rcases Bool.eq_false_or_eq_true (decide (¬d.n=1)) with hb2|hb2
  ·
   have hb2':=of_decide_eq_true hb2
   refine aX [0,1,4] [5,0,1,2,3,4] mixed rfl rfl ?_
   refine aD (kn:=[(15,true),(21,true)]) aa 26 rfl ⟨hb1,hb2,trivial⟩ ?_
   refine bA [5,0,1,2,3,4] rfl rfl rfl rfl (by kernel_rfl) ?_
   refine af ?_
   refine aj rfl (fun _=>?_) (fun hno=>by cases hno)
   refine ae aa 2 rfl ?_
   refine az ?_
   refine an ?_
   have hX:cj b d=(b,(⟨6,0⟩:Answer)):=by
     unfold cj;rw [if_neg hn.1,if_neg hn.2]
   rw [hX] at hr;clear hX
   simp only [Prod.mk.injEq] at hr;obtain ⟨rfl,rfl⟩:=hr
   refine al aa [0,1,2,3,4,5] 5 rfl rfl rfl rfl rfl rfl ?_ ?_
   all_goals first|rfl|(simp [aw,aW,bh];done)|(simp [aw,aW,bh];omega)
  have hb2':=of_decide_eq_false hb2
  (exfalso;simp_all;done)
 have hb1':=of_decide_eq_false hb1
 (exfalso;simp_all;done)

theorem wI (x:Nat->Value) (hx:∀ i,(x i).oneCell'=true) (b:Bk) (d:bx) (ok:cu b) (b2:Bk) (a2:Answer) (hr:cj b d=(b2,a2)):cJ Try.prog 67 [(.c (.p 0 0 0 0)),(.c (.q (dg d) 0))] [(0,(.box 98 (aW b 1 2 3 4 (.d (.v (x 17))) (.d (.v (x 19)))))),(1,(dT b.ay)),(2,(dM b.due)),(3,(ea b.au)),(4,(cM b.aP))] [0] (.v (.g [cI a2.err,cI a2.ba])) [(0,(.box 98 (aW b2 1 2 3 4 (.d (.v (x 17))) (.d (.v (x 19)))))),(1,(dT b2.ay)),(2,(dM b2.due)),(3,(ea b2.au)),(4,(cM b2.aP))]:=by
  obtain ⟨idn,kind,n,aE,move,sum⟩:=d
  by_cases h0:n=0
  ·subst h0;exact Br x hx b idn kind aE move sum ok b2 a2 hr
  by_cases h1:n=1
  ·subst h1;exact Bq x hx b idn kind aE move sum ok b2 a2 hr
  ·exact Bp x hx b _ ok ⟨h0,h1⟩ b2 a2 hr
theorem Ez (x:Nat->Value) (hx:∀ i,(x i).oneCell'=true) (s0 s1:bY) (n0 n1:Int) (w0 w1:List cp) (d:bx) (l0:w0.length<=60) (l1:w1.length<=60) (m0:s0.kept.length<=40) (m1:s1.kept.length<=40) (v0 v1:List cp) (a2:Answer) (hr:ei s0 s1 n0 n1 w0 w1 d=(v0,v1,a2)):cJ Try.prog 66 [(.c (.p 0 0 0 0)),(.c (.q (dg d) 0))] [(0,(.box 98 (((((((((bh x).set 5 (cI s0.bX)).set 6 (dj s0.kept)).set 7 (cI s1.bX)).set 8 (dj s1.kept)).set 9 (cI n0)).set 10 (cI n1)).set 11 (eu w0)).set 12 (eu w1))))] [0] (.v (.g [cI a2.err,cI a2.ba])) [(0,(.box 98 (((((((((bh x).set 5 (cI s0.bX)).set 6 (dj s0.kept)).set 7 (cI s1.bX)).set 8 (dj s1.kept)).set 9 (cI n0)).set 10 (cI n1)).set 11 (eu v0)).set 12 (eu v1))))]:=by
  obtain ⟨idn,kind,n,aE,move,sum⟩:=d
  by_cases h0:n=0
  ·subst h0;exact De x hx s0 s1 n0 n1 w0 w1 idn kind aE move sum l0 l1 m0 m1 v0 v1 a2 hr
  by_cases h1:n=1
  ·subst h1;exact Dd x hx s0 s1 n0 n1 w0 w1 idn kind aE move sum l0 l1 m0 m1 v0 v1 a2 hr
  ·exact Dc x hx s0 s1 n0 n1 w0 w1 _ l0 l1 m0 m1 ⟨h0,h1⟩ v0 v1 a2 hr

theorem Gh (x:Nat->Value) (hx:∀ i,(x i).oneCell'=true) (b:Bk) (d:bx) (ok:cu b) (b2:Bk) (a2:Answer) (hr:fc b d=(b2,a2)):cJ Try.prog 62 [(.c (.p 0 0 0 0)),(.c (.q (dg d) 0))] [(0,(.box 98 (aW b 1 2 3 4 (.d (.v (x 17))) (.d (.v (x 19)))))),(1,(dT b.ay)),(2,(dM b.due)),(3,(ea b.au)),(4,(cM b.aP))] [0] (.v (.g [cI a2.err,cI a2.ba])) [(0,(.box 98 (aW b2 1 2 3 4 (.d (.v (x 17))) (.d (.v (x 19)))))),(1,(dT b2.ay)),(2,(dM b2.due)),(3,(ea b2.au)),(4,(cM b2.aP))]:=by
 refine cJ.mk 65 [(0,(aC (.p 0 0 0 0))),(1,(aC (.q (dg d) 0)))] 5 Try.func62 rfl rfl rfl rfl rfl rfl rfl rfl rfl ?_
 intro W0 F0 T0 pg
 obtain ⟨okt,okc,okd,oka,oky,okw0,okw1,okp,okv,okk0,okk1,okg,okl0,okl1,okp0,okp1,okn0,okn1,okq⟩:=id ok
 refine ae aa 1 rfl ?_
 refine ag ?_
 refine ag ?_
 rcases Bool.eq_false_or_eq_true (decide (d.n < 0)) with hb1|hb1
 ·
  have hb1':=of_decide_eq_true hb1
  refine aX [0,1,4] [5,0,1,2,3,4] mixed rfl rfl ?_
  refine aD (kn:=[(10,true)]) aa 18 rfl ⟨hb1,trivial⟩ ?_
  refine bA [5,0,1,2,3,4] rfl rfl rfl rfl (by kernel_rfl) ?_
  refine af ?_
  refine aj rfl (fun _=>?_) (fun hno=>by cases hno)
  refine ae aa 2 rfl ?_
  refine az ?_
  refine an ?_
  have hX:fc b d=(b,(⟨6,0⟩:Answer)):=by
    unfold fc;(repeat' split)<;>first|rfl|omega|(exfalso;omega)|(simp_all;done)|(simp_all;omega)
  rw [hX] at hr;clear hX
  simp only [Prod.mk.injEq] at hr;obtain ⟨rfl,rfl⟩:=hr
  refine al aa [0,1,2,3,4,5] 5 rfl rfl rfl rfl rfl rfl ?_ ?_
  all_goals first|rfl|(simp [aw,aW,bh];done)|(simp [aw,aW,bh];omega)
 have hb1':=of_decide_eq_false hb1
 refine aX [0,1,4] [5,0,1,2,3,4] mixed rfl rfl ?_
 refine aD (kn:=[(10,false)]) aa 15 rfl ⟨hb1,trivial⟩ ?_
 refine aT (n':=6) [20,11] [1] rfl rfl (.inl ⟨(ak.yes rfl rfl rfl),aK.cast (dz rfl rfl rfl rfl rfl Try.underlying29) rfl⟩) rfl ?_
 refine aD (kn:=[]) aa 2 rfl trivial ?_
 refine bA [5,0,1,2,3,4] rfl rfl rfl rfl (by kernel_rfl) ?_
 refine af ?_
 refine aj rfl (fun hc3=>?_) (fun hc3=>?_)
 ·
  have hc3':=of_decide_eq_true hc3
  refine ae aa 2 rfl ?_
  refine az ?_
  refine an ?_
  have hX:fc b d=(b,(⟨6,0⟩:Answer)):=by
    unfold fc;(repeat' split)<;>first|rfl|omega|(exfalso;omega)|(simp_all;done)|(simp_all;omega)
  rw [hX] at hr;clear hX
  simp only [Prod.mk.injEq] at hr;obtain ⟨rfl,rfl⟩:=hr
  refine al aa [0,1,2,3,4,5] 5 rfl rfl rfl rfl rfl rfl ?_ ?_
  all_goals first|rfl|(simp [aw,aW,bh];done)|(simp [aw,aW,bh];omega)
 have hc3':=of_decide_eq_false hc3
 refine aS ?_
 refine ag ?_
 refine cw 36 ((decide (d.sum < 1))||(decide (d.sum > 1000000))) ?_ ?_
 ·
  refine ax ?_
  refine ad aa 6 rfl ?_
  refine bE (t:=30) rfl (fun hb4=>?_) (fun hb4=>?_)
  ·
   have hb4':=of_decide_eq_true hb4
   refine ad aa 6 rfl ?_
   refine af ?_
   exact aH.bD 13 rfl rfl (by first|(simp [hb4];done)|(simp_all;done)|(exfalso;simp_all;done)|(simp_all;omega)) rfl
  have hb4':=of_decide_eq_false hb4
  refine ad aa 6 rfl ?_
  refine af ?_
  exact aH.bD 13 rfl rfl (by first|(simp [hb4];done)|(simp_all;done)|(exfalso;simp_all;done)|(simp_all;omega)) rfl
 refine aj rfl (fun hc5=>?_) (fun hc5=>?_)
 ·
  have hc5':=hc5;try simp only [br,bR] at hc5'
  refine ae aa 2 rfl ?_
  refine az ?_
  refine an ?_
  have hX:fc b d=(b,(⟨3,0⟩:Answer)):=by
    unfold fc;(repeat' split)<;>first|rfl|omega|(exfalso;omega)|(simp_all;done)|(simp_all;omega)
  rw [hX] at hr;clear hX
  simp only [Prod.mk.injEq] at hr;obtain ⟨rfl,rfl⟩:=hr
  refine al aa [0,1,2,3,4,5] 5 rfl rfl rfl rfl rfl rfl ?_ ?_
  all_goals first|rfl|(simp [aw,aW,bh];done)|(simp [aw,aW,bh];omega)
 have hc5':=hc5;try simp only [br,bR] at hc5'
 refine aS ?_
 refine aF aa 1 rfl ?_
 refine aQ 15 [0,6,7,8,9,10,11,12,13,14,5] (cL id (bf [0,6,7,8,9,10,11,12,13,14]) (kK (x 17) (x 19) b (by first|omega|(simp;done)|(simp;omega)) (by first|omega|(simp;done)|(simp;omega)) (by first|omega|(simp;done)|(simp;omega)) (by first|omega|(simp;done)|(simp;omega))) ra rfl rfl ⟨⟨_,rfl,.inl ⟨rfl,rfl⟩⟩,trivial⟩ ⟨rfl,rfl,rfl,rfl,rfl,trivial⟩ rfl rfl rfl rfl rfl rfl trivial ⟨⟨trivial,trivial,trivial,trivial,trivial,trivial,trivial,trivial,trivial,trivial,trivial,trivial,trivial,trivial,trivial,trivial,trivial,trivial,trivial,trivial,trivial⟩,⟨trivial,trivial,trivial,trivial,trivial,trivial,trivial,trivial,trivial,trivial,trivial,trivial,trivial,trivial,trivial,trivial,trivial,trivial,trivial,trivial,trivial⟩,(fun _ _ _ _=>trivial),(fun _ _ _ _=>trivial),(fun _ _ _ _=>trivial),(fun _ _ _ _=>trivial),(fun _ _ _ _=>trivial),(fun _ _ _ _=>trivial),(fun _ _ _ _=>trivial),(fun _ _ _ _=>trivial),trivial⟩ rfl rfl rfl rfl) rfl ?_
 refine ad aa 1 rfl ?_
 refine af ?_
 refine ag ?_
 obtain ⟨l20,e20,hr0⟩:∃ (l20:List bI) (e20:Int),cH b.ay 0 d.n 0 d.sum=(l20,e20):=⟨_,_,rfl⟩
 refine df [0,1,4,5] [0,6,7,8,9,10,11,12,13,14,5] mixed rfl rfl ?_
 refine bT (kn:=[]) aa 9 rfl trivial ?_
 refine bW (n':=16) [40,44,48] [11,6] rfl rfl (.inl ⟨(ak.plain rfl),aK.cast (cr (bf [6,11]) (bf [6,15]) (ms:=((dE.set 2 (some (.s 1 0 6 b.ay.length))).set 19 (some (cI 0)))) (ms':=((dE.set 2 (some (.s 1 0 6 l20.length))).set 19 (some (cI e20)))) (fun x hx=>jj x hx b.ay 0 d.n 0 d.sum (by first|omega|(simp;done)|(simp;omega)) l20 e20 hr0) nJ rfl rfl ⟨⟨_,rfl,.inl ⟨rfl,rfl⟩⟩,⟨_,rfl,.inr (.c (.d _))⟩,⟨_,rfl,.inr (.c (.d _))⟩,⟨_,rfl,.inr (.c (.d _))⟩,trivial⟩ rfl rfl rfl rfl rfl rfl rfl ⟨rfl,trivial⟩ rfl rfl rfl rfl rfl rfl rfl rfl rfl rfl rfl rfl rfl) rfl⟩) rfl ?_
 refine dU [0,1,4,5] [15,6,0,7,8,9,10,12,13,14,5] rfl rfl (by kernel_rfl) ?_
 refine then_ok ?_
 refine ag ?_
 obtain ⟨l21,e21,hr1⟩:∃ (l21:List Entry) (e21:Int),ed b.book e20 0 (10+d.n) d.sum=(l21,e21):=⟨_,_,rfl⟩
 refine df [0,1,4,5] [15,6,0,7,8,9,10,12,13,14,5] mixed rfl rfl ?_
 refine bT (kn:=[]) aa 5 rfl trivial ?_
 refine bW (n':=16) [54] [] rfl rfl (.inl ⟨(ak.plain rfl),aK.cast (aM rfl rfl rfl (aL (by first|omega|(simp;done)|(simp;omega)))) rfl⟩) rfl ?_
 refine bT (kn:=[]) aa 4 rfl trivial ?_
 refine bW (n':=16) [50,55,59] [6] rfl rfl (.inl ⟨(ak.plain rfl),aK.cast (cr (bf [6]) (bf [6]) (ms:=((dE.set 18 (some (dW b.book))).set 19 (some (cI e20)))) (ms':=((dE.set 18 (some (dW l21))).set 19 (some (cI e21)))) (fun x hx=>jx x hx b.book e20 0 (10+d.n) d.sum l21 e21 hr1) mK rfl rfl ⟨⟨_,rfl,.inl ⟨rfl,rfl⟩⟩,⟨_,rfl,.inr (.c (.d _))⟩,⟨_,rfl,.inr (.c (.d _))⟩,⟨_,rfl,.inr (.c (.d _))⟩,trivial⟩ rfl rfl rfl rfl rfl rfl rfl trivial rfl rfl rfl rfl rfl rfl rfl rfl rfl rfl rfl rfl rfl) rfl⟩) rfl ?_
 refine dU [0,4,5] [6,15,0,7,8,9,10,12,13,14,5] rfl rfl (by kernel_rfl) ?_
 refine then_ok ?_
 rcases (show e21=0\/¬e21=0 from by omega) with hs6|hs6
 ·
  refine aF aa 2 rfl ?_
  refine aQ 20 [0,16,17,18,19,5] (cL (bf [0,6,7,8,9,10,15,12,13,14]) (bf [0,16,17,18,19]) (fw (x 17) (x 19) b (⟨b.time,b.down,l20,b.due,b.au,b.s0,b.s1,b.n0,b.n1,b.w0,b.w1,b.bG,b.aP,l21⟩:Bk) e21 (by first|assumption|omega)) fW rfl rfl ⟨⟨_,rfl,.inl ⟨rfl,rfl⟩⟩,⟨_,rfl,.inl ⟨rfl,rfl⟩⟩,trivial⟩ ⟨rfl,rfl,rfl,rfl,rfl,rfl,rfl,rfl,rfl,rfl,trivial⟩ rfl rfl rfl rfl rfl rfl trivial ⟨⟨trivial,trivial,trivial,trivial,trivial,trivial,trivial,trivial,trivial,trivial,trivial,trivial,trivial,trivial,trivial,trivial,trivial,trivial,trivial,trivial,trivial⟩,(fun _ _ _ _=>trivial),(fun _ _ _ _=>trivial),(fun _ _ _ _=>trivial),(fun _ _ _ _=>trivial),trivial⟩ rfl rfl rfl rfl) rfl ?_
  refine ad aa 2 rfl ?_
  refine af ?_
  refine az ?_
  have hX:fc b d=((⟨b.time,b.down,l20,b.due,b.au,b.s0,b.s1,b.n0,b.n1,b.w0,b.w1,b.bG,b.aP,l21⟩:Bk),(⟨e21,0⟩:Answer)):=by
    unfold fc;simp only [dd,hr0,hr1];(repeat' split)<;>first|rfl|omega|(exfalso;omega)|(simp_all;done)|(simp_all;omega)
  rw [hX] at hr;clear hX
  simp only [Prod.mk.injEq] at hr;obtain ⟨rfl,rfl⟩:=hr
  refine al aa [0,16,17,18,19,5] 5 rfl rfl rfl rfl rfl rfl ?_ ?_
  all_goals first|rfl|(simp [aw,aW,bh];done)|(simp [aw,aW,bh];omega)
 refine aF aa 2 rfl ?_
 refine aQ 20 [0,16,17,18,19,5] (cL (bf [0,6,7,8,9,10,15,12,13,14]) (bf [0,16,17,18,19]) (gp (x 17) (x 19) b (⟨b.time,b.down,l20,b.due,b.au,b.s0,b.s1,b.n0,b.n1,b.w0,b.w1,b.bG,b.aP,l21⟩:Bk) e21 (by first|assumption|omega)) fW rfl rfl ⟨⟨_,rfl,.inl ⟨rfl,rfl⟩⟩,⟨_,rfl,.inl ⟨rfl,rfl⟩⟩,trivial⟩ ⟨rfl,rfl,rfl,rfl,rfl,rfl,rfl,rfl,rfl,rfl,trivial⟩ rfl rfl rfl rfl rfl rfl trivial ⟨⟨trivial,trivial,trivial,trivial,trivial,trivial,trivial,trivial,trivial,trivial,trivial,trivial,trivial,trivial,trivial,trivial,trivial,trivial,trivial,trivial,trivial⟩,(fun _ _ _ _=>trivial),(fun _ _ _ _=>trivial),(fun _ _ _ _=>trivial),(fun _ _ _ _=>trivial),trivial⟩ rfl rfl rfl rfl) rfl ?_
 refine ad aa 2 rfl ?_
 refine af ?_
 refine az ?_
 have hX:fc b d=(b,(⟨e21,0⟩:Answer)):=by
   unfold fc;simp only [dd,hr0,hr1];(repeat' split)<;>first|rfl|omega|(exfalso;omega)|(simp_all;done)|(simp_all;omega)
 rw [hX] at hr;clear hX
 simp only [Prod.mk.injEq] at hr;obtain ⟨rfl,rfl⟩:=hr
 refine al aa [0,16,17,18,19,5] 5 rfl rfl rfl rfl rfl rfl ?_ ?_
 all_goals first|rfl|(simp [aw,aW,bh];done)|(simp [aw,aW,bh];omega)
theorem Hl (x:Nat->Value) (hx:∀ i,(x i).oneCell'=true) (b:Bk) (d:bx) (ok:cu b) (b2:Bk) (a2:Answer) (hr:fT b d=(b2,a2)):cJ Try.prog 70 [(.c (.p 0 0 0 0)),(.c (.q (dg d) 0))] [(0,(.box 98 (aW b 1 2 3 4 (.d (.v (x 17))) (.d (.v (x 19)))))),(1,(dT b.ay)),(2,(dM b.due)),(3,(ea b.au)),(4,(cM b.aP))] [0] (.v (.g [cI a2.err,cI a2.ba])) [(0,(.box 98 (aW b2 1 2 3 4 (.d (.v (x 17))) (.d (.v (x 19)))))),(1,(dT b2.ay)),(2,(dM b2.due)),(3,(ea b2.au)),(4,(cM b2.aP))]:=by
 refine cJ.mk 64 [(0,(aC (.p 0 0 0 0))),(1,(aC (.q (dg d) 0)))] 5 Try.func70 rfl rfl rfl rfl rfl rfl rfl rfl rfl ?_
 intro W0 F0 T0 pg
 obtain ⟨okt,okc,okd,oka,oky,okw0,okw1,okp,okv,okk0,okk1,okg,okl0,okl1,okp0,okp1,okn0,okn1,okq⟩:=id ok
 refine ae aa 1 rfl ?_
 refine ag ?_
 refine ag ?_
 rcases Bool.eq_false_or_eq_true (decide (d.n < 0)) with hb1|hb1
 ·
  have hb1':=of_decide_eq_true hb1
  refine aX [0,1,4] [5,0,1,2,3,4] mixed rfl rfl ?_
  refine aD (kn:=[(11,true)]) aa 18 rfl ⟨hb1,trivial⟩ ?_
  refine bA [5,0,1,2,3,4] rfl rfl rfl rfl (by kernel_rfl) ?_
  refine af ?_
  refine aj rfl (fun _=>?_) (fun hno=>by cases hno)
  refine ae aa 2 rfl ?_
  refine az ?_
  refine an ?_
  have hX:fT b d=(b,(⟨6,0⟩:Answer)):=by
    unfold fT;(repeat' split)<;>first|rfl|omega|(exfalso;omega)|(simp_all;done)|(simp_all;omega)
  rw [hX] at hr;clear hX
  simp only [Prod.mk.injEq] at hr;obtain ⟨rfl,rfl⟩:=hr
  refine al aa [0,1,2,3,4,5] 5 rfl rfl rfl rfl rfl rfl ?_ ?_
  all_goals first|rfl|(simp [aw,aW,bh];done)|(simp [aw,aW,bh];omega)
 have hb1':=of_decide_eq_false hb1
 refine aX [0,1,4] [5,0,1,2,3,4] mixed rfl rfl ?_
 refine aD (kn:=[(11,false)]) aa 15 rfl ⟨hb1,trivial⟩ ?_
 refine aT (n':=6) [21,12] [2] rfl rfl (.inl ⟨(ak.yes rfl rfl rfl),aK.cast (dz rfl rfl rfl rfl rfl Try.underlying30) rfl⟩) rfl ?_
 refine aD (kn:=[]) aa 2 rfl trivial ?_
 refine bA [5,0,1,2,3,4] rfl rfl rfl rfl (by kernel_rfl) ?_
 refine af ?_
 refine aj rfl (fun hc3=>?_) (fun hc3=>?_)
 ·
  have hc3':=of_decide_eq_true hc3
  refine ae aa 2 rfl ?_
  refine az ?_
  refine an ?_
  have hX:fT b d=(b,(⟨6,0⟩:Answer)):=by
    unfold fT;(repeat' split)<;>first|rfl|omega|(exfalso;omega)|(simp_all;done)|(simp_all;omega)
  rw [hX] at hr;clear hX
  simp only [Prod.mk.injEq] at hr;obtain ⟨rfl,rfl⟩:=hr
  refine al aa [0,1,2,3,4,5] 5 rfl rfl rfl rfl rfl rfl ?_ ?_
  all_goals first|rfl|(simp [aw,aW,bh];done)|(simp [aw,aW,bh];omega)
 have hc3':=of_decide_eq_false hc3
 refine aS ?_
 refine ag ?_
 obtain ⟨x1,hx1⟩:=cf (xs:=b.due) (i:=Int.toNat (d.n)) (by first|omega|(simp;done)|(simp;omega))
 refine aX [0,1,4] [5,0,1,2,3,4] mixed rfl rfl ?_
 refine aD (kn:=[]) aa 9 rfl trivial ?_
 refine aT (n':=6) [30,34] [2] rfl rfl (.inl ⟨(ak.plain rfl),aK.cast (bz (i:=Int.toNat (d.n)) rfl rfl rfl Try.underlying30 gF (by first|omega|(simp;done)|(simp;omega)) (by first|omega|(simp;done)|(simp;omega))) rfl⟩) rfl ?_
 refine aT (n':=6) [35] [2] rfl rfl (.inl ⟨(ak.plain rfl),aK.cast (eS rfl rfl rfl Try.underlying3 rfl (bp hx1) rfl) rfl⟩) rfl ?_
 refine aD (kn:=[]) aa 1 rfl trivial ?_
 refine bA [5,0,1,2,3,4] rfl rfl rfl rfl (by kernel_rfl) ?_
 refine af ?_
 refine ag ?_
 refine ae aa 2 rfl ?_
 refine aj rfl (fun hc4=>?_) (fun hc4=>?_)
 ·
  have hc4':=of_decide_eq_true hc4
  refine ae aa 2 rfl ?_
  refine az ?_
  refine an ?_
  have hX:fT b d=(b,(⟨10,0⟩:Answer)):=by
    unfold fT;simp only [dd,List.getD_eq_getElem?_getD,hx1,Option.getD_some,];(repeat' split)<;>first|rfl|omega|(exfalso;omega)|(simp_all;done)|(simp_all;omega)
  rw [hX] at hr;clear hX
  simp only [Prod.mk.injEq] at hr;obtain ⟨rfl,rfl⟩:=hr
  refine al aa [0,1,2,3,4,5] 5 rfl rfl rfl rfl rfl rfl ?_ ?_
  all_goals first|rfl|(simp [aw,aW,bh];done)|(simp [aw,aW,bh];omega)
 have hc4':=of_decide_eq_false hc4
 refine aS ?_
 refine aF aa 1 rfl ?_
 refine aQ 15 [0,6,7,8,9,10,11,12,13,14,5] (cL id (bf [0,6,7,8,9,10,11,12,13,14]) (kK (x 17) (x 19) b (by first|omega|(simp;done)|(simp;omega)) (by first|omega|(simp;done)|(simp;omega)) (by first|omega|(simp;done)|(simp;omega)) (by first|omega|(simp;done)|(simp;omega))) ra rfl rfl ⟨⟨_,rfl,.inl ⟨rfl,rfl⟩⟩,trivial⟩ ⟨rfl,rfl,rfl,rfl,rfl,trivial⟩ rfl rfl rfl rfl rfl rfl trivial ⟨⟨trivial,trivial,trivial,trivial,trivial,trivial,trivial,trivial,trivial,trivial,trivial,trivial,trivial,trivial,trivial,trivial,trivial,trivial,trivial,trivial,trivial⟩,⟨trivial,trivial,trivial,trivial,trivial,trivial,trivial,trivial,trivial,trivial,trivial,trivial,trivial,trivial,trivial,trivial,trivial,trivial,trivial,trivial,trivial⟩,(fun _ _ _ _=>trivial),(fun _ _ _ _=>trivial),(fun _ _ _ _=>trivial),(fun _ _ _ _=>trivial),(fun _ _ _ _=>trivial),(fun _ _ _ _=>trivial),(fun _ _ _ _=>trivial),(fun _ _ _ _=>trivial),trivial⟩ rfl rfl rfl rfl) rfl ?_
 refine ad aa 1 rfl ?_
 refine af ?_
 refine ag ?_
 refine aX [0,1,4,5,6] [0,6,7,8,9,10,11,12,13,14,5] mixed rfl rfl ?_
 refine aD (kn:=[]) aa 9 rfl trivial ?_
 refine aT (n':=15) [46,50] [12] rfl rfl (.inl ⟨(ak.plain rfl),aK.cast (bz (i:=Int.toNat (d.n)) rfl rfl rfl Try.underlying30 gF (by first|omega|(simp;done)|(simp;omega)) (by first|omega|(simp;done)|(simp;omega))) rfl⟩) rfl ?_
 refine bA [0,6,7,8,9,10,11,12,13,14,5] rfl rfl rfl rfl (by kernel_rfl) ?_
 refine gj [0,6,7,8,9,10,11,12,13,14,5] (dR (ds:=[(dI 0)]) rfl rfl rfl rfl rfl gF rfl (Nat.le_of_ble_eq_true rfl) (bp hx1) rfl (eX (x':=0) rfl)) rfl ?_
 refine af ?_
 refine fN (k:=6) (q:=3) (c':=(.s 12 0 1 (((b.due).set (Int.toNat (d.n)) 0).length))) rfl rfl (by first|rfl|(simp;done)|(congr 1;omega)) rfl ?_
 refine aF aa 5 rfl ?_
 refine aA (aM rfl rfl rfl (aL (by first|omega|(simp;done)|(simp;omega)))) rfl ?_
 refine ad aa 1 rfl ?_
 obtain ⟨l20,e20,hr0⟩:∃ (l20:List Entry) (e20:Int),ed b.book 0 (50+d.n) 0 x1=(l20,e20):=⟨_,_,rfl⟩
 refine aQ 15 [6,0,7,8,9,10,11,12,13,14,5] (cr (bf [6]) (bf [6]) (ms:=((dE.set 18 (some (dW b.book))).set 19 (some (cI 0)))) (ms':=((dE.set 18 (some (dW l20))).set 19 (some (cI e20)))) (fun x hx=>jx x hx b.book 0 (50+d.n) 0 x1 l20 e20 hr0) mK rfl rfl ⟨⟨_,rfl,.inl ⟨rfl,rfl⟩⟩,⟨_,rfl,.inr (.c (.d _))⟩,⟨_,rfl,.inr (.c (.d _))⟩,⟨_,rfl,.inr (.c (.d _))⟩,trivial⟩ rfl rfl rfl rfl rfl rfl rfl trivial rfl rfl rfl rfl rfl rfl rfl rfl rfl rfl rfl rfl rfl) rfl ?_
 refine af ?_
 rcases (show e20=0\/¬e20=0 from by omega) with hs5|hs5
 ·
  refine aF aa 2 rfl ?_
  refine aQ 19 [0,15,16,17,18,5] (cL (bf [0,6,7,8,9,10,11,12,13,14]) (bf [0,15,16,17,18]) (fw (x 17) (x 19) b (⟨b.time,b.down,b.ay,(b.due).set (Int.toNat (d.n)) 0,b.au,b.s0,b.s1,b.n0,b.n1,b.w0,b.w1,b.bG,b.aP,l20⟩:Bk) e20 (by first|assumption|omega)) fW rfl rfl ⟨⟨_,rfl,.inl ⟨rfl,rfl⟩⟩,⟨_,rfl,.inl ⟨rfl,rfl⟩⟩,trivial⟩ ⟨rfl,rfl,rfl,rfl,rfl,rfl,rfl,rfl,rfl,rfl,trivial⟩ rfl rfl rfl rfl rfl rfl trivial ⟨⟨trivial,trivial,trivial,trivial,trivial,trivial,trivial,trivial,trivial,trivial,trivial,trivial,trivial,trivial,trivial,trivial,trivial,trivial,trivial,trivial,trivial⟩,(fun _ _ _ _=>trivial),(fun _ _ _ _=>trivial),(fun _ _ _ _=>trivial),(fun _ _ _ _=>trivial),trivial⟩ rfl rfl rfl rfl) rfl ?_
  refine ad aa 2 rfl ?_
  refine af ?_
  refine az ?_
  have hX:fT b d=((⟨b.time,b.down,b.ay,(b.due).set (Int.toNat (d.n)) 0,b.au,b.s0,b.s1,b.n0,b.n1,b.w0,b.w1,b.bG,b.aP,l20⟩:Bk),(⟨e20,0⟩:Answer)):=by
    unfold fT;simp only [dd,List.getD_eq_getElem?_getD,hx1,Option.getD_some,hr0];(repeat' split)<;>first|rfl|omega|(exfalso;omega)|(simp_all;done)|(simp_all;omega)
  rw [hX] at hr;clear hX
  simp only [Prod.mk.injEq] at hr;obtain ⟨rfl,rfl⟩:=hr
  refine al aa [0,15,16,17,18,5] 5 rfl rfl rfl rfl rfl rfl ?_ ?_
  all_goals first|rfl|(simp [aw,aW,bh];done)|(simp [aw,aW,bh];omega)
 refine aF aa 2 rfl ?_
 refine aQ 19 [0,15,16,17,18,5] (cL (bf [0,6,7,8,9,10,11,12,13,14]) (bf [0,15,16,17,18]) (gp (x 17) (x 19) b (⟨b.time,b.down,b.ay,(b.due).set (Int.toNat (d.n)) 0,b.au,b.s0,b.s1,b.n0,b.n1,b.w0,b.w1,b.bG,b.aP,l20⟩:Bk) e20 (by first|assumption|omega)) fW rfl rfl ⟨⟨_,rfl,.inl ⟨rfl,rfl⟩⟩,⟨_,rfl,.inl ⟨rfl,rfl⟩⟩,trivial⟩ ⟨rfl,rfl,rfl,rfl,rfl,rfl,rfl,rfl,rfl,rfl,trivial⟩ rfl rfl rfl rfl rfl rfl trivial ⟨⟨trivial,trivial,trivial,trivial,trivial,trivial,trivial,trivial,trivial,trivial,trivial,trivial,trivial,trivial,trivial,trivial,trivial,trivial,trivial,trivial,trivial⟩,(fun _ _ _ _=>trivial),(fun _ _ _ _=>trivial),(fun _ _ _ _=>trivial),(fun _ _ _ _=>trivial),trivial⟩ rfl rfl rfl rfl) rfl ?_
 refine ad aa 2 rfl ?_
 refine af ?_
 refine az ?_
 have hX:fT b d=(b,(⟨e20,0⟩:Answer)):=by
   unfold fT;simp only [dd,List.getD_eq_getElem?_getD,hx1,Option.getD_some,hr0];(repeat' split)<;>first|rfl|omega|(exfalso;omega)|(simp_all;done)|(simp_all;omega)
 rw [hX] at hr;clear hX
 simp only [Prod.mk.injEq] at hr;obtain ⟨rfl,rfl⟩:=hr
 refine al aa [0,15,16,17,18,5] 5 rfl rfl rfl rfl rfl rfl ?_ ?_
 all_goals first|rfl|(simp [aw,aW,bh];done)|(simp [aw,aW,bh];omega)
end Go.Proofs.Ytegepioggeggaaa.Dev
