/- A part of the proof: Bank7, Bank10, Bank11, Bank5. No condition. -/
import Derived.Test.YtegepioggeggaaaD11
set_option linter.unusedVariables false
set_option linter.unusedSimpArgs false
set_option maxHeartbeats 8000000
set_option maxRecDepth 100000
namespace Go.Proofs.Ytegepioggeggaaa.Dev
open Go.RowKit

theorem DX (x:Nat->Value) (hx:∀ i,(x i).oneCell'=true) (s0 s1:bX) (n0 n1:Int) (w0 w1:List cf) (idn kind aD move sum:Int) (l0:w0.length<=60) (l1:w1.length<=60) (m0:s0.kept.length<=40) (m1:s1.kept.length<=40) (v0:List cf) (v1:List cf) (a2:Answer) (hr:eL s0 s1 n0 n1 w0 w1 (⟨idn,kind,0,aD,move,sum⟩:aW)=(v0,v1,a2)):cJ Try.prog 66 [(.c (.p 0 0 0 0)),(.c (.q (cQ (⟨idn,kind,0,aD,move,sum⟩:aW)) 0))] [(0,(.box 98 (((((((((bf x).set 5 (cI s0.bL)).set 6 (dn s0.kept)).set 7 (cI s1.bL)).set 8 (dn s1.kept)).set 9 (cI n0)).set 10 (cI n1)).set 11 (eD w0)).set 12 (eD w1))))] [0] (.v (.g [cI a2.err,cI a2.bc])) [(0,(.box 98 (((((((((bf x).set 5 (cI s0.bL)).set 6 (dn s0.kept)).set 7 (cI s1.bL)).set 8 (dn s1.kept)).set 9 (cI n0)).set 10 (cI n1)).set 11 (eD v0)).set 12 (eD v1))))]:=by
 refine cJ.Gb 83 [(0,(aC (.p 0 0 0 0))),(1,(aC (.q (cQ (⟨idn,kind,0,aD,move,sum⟩:aW)) 0)))] 1 Try.func66 rfl rfl rfl rfl rfl rfl rfl rfl rfl ?_
 intro W0 F0 T0 pg hF
 have hF0:∀ b,F0 b->(pg 0).g=b:=fun b hb=>by obtain ⟨k,hk,h⟩:=hF b hb;rw [List.mem_singleton.1 hk] at h;exact h
 refine ae aa 1 rfl ?_
 refine ag ?_
 refine cx 20 (false) ?_ ?_
 ·
  refine au ?_
  refine ad aa 4 rfl ?_
  refine aA (aL rfl rfl rfl (show _=some (Value.bool false) from rfl)) rfl ?_
  refine ad aa 7 rfl ?_
  refine af ?_
  exact aF.bH 12 rfl rfl (by first|(simp [];done)|(simp_all;done)|(exfalso;simp_all;done)|(simp_all;omega)) rfl
 refine ah rfl (fun hno=>by cases hno) (fun _=>?_)
 refine aQ ?_
 refine ae aa 6 rfl ?_
 refine aH aa 5 rfl ?_
 refine aA (dv (i:=1) rfl rfl rfl Try.underlying38 lE rfl (by decide)) rfl ?_
 refine ad aa 1 rfl ?_
 refine aN 3 [2,1,0] (bQ 2 (nH w1 (by first|omega|(simp;done)|(simp;omega))) GJ rfl rfl ⟨⟨_,rfl,.c (.d _)⟩,trivial⟩ trivial ⟨(fun _ _ _ _=>trivial),trivial⟩ rfl rfl rfl rfl) rfl ?_
 refine ad aa 1 rfl ?_
 refine af ?_
 refine ag ?_
 refine ag ?_
 refine ba [0,1,4,5,6] [2,1,0] mixed rfl rfl ?_
 refine aE (kn:=[]) aa 8 rfl trivial ?_
 refine aU (n':=3) [42,39] [0] rfl rfl (.inl ⟨(ak.plain rfl),aM.cast (dv (i:=0) rfl rfl rfl Try.underlying35 nd rfl (by decide)) rfl⟩) rfl ?_
 refine aE (kn:=[]) aa 2 rfl trivial ?_
 refine aU (n':=3) [45] [] rfl rfl (.inl ⟨(ak.plain rfl),aM.cast (cM rfl rfl rfl rfl rfl Try.underlying32) rfl⟩) rfl ?_
 refine aE (kn:=[]) aa 1 rfl trivial ?_
 refine bC [2,1,0] rfl rfl rfl rfl (by kernel_rfl) ?_
 refine af ?_
 refine aX ?_
 refine cw (β:=Nat×List cf) (fun (p:Nat×List cf)=>match p with|(q,m)=>⟨[(0,(aC (.p 0 0 0 0))),(1,(aC (.q (cQ (⟨idn,kind,0,aD,move,sum⟩:aW)) 0))),(4,(aC (.p 1 0 0 0))),(5,(aI 1)),(6,(aC (.s 2 0 5 m.length))),(45,(aC (dn s0.kept))),(46,(aI (↑s0.kept.length:Int))),(47,(aI (↑q:Int)))],[(2,(Hn m)),(1,(.box 65 [(cI 0),(cI 0)])),(0,(.box 98 (((((((((bf x).set 5 (cI s0.bL)).set 6 (dn s0.kept)).set 7 (cI s1.bL)).set 8 (dn s1.kept)).set 9 (cI n0)).set 10 (cI n1)).set 11 (eD w0)).set 12 (eD w1))))],3⟩) (fun (p:Nat×List cf)=>match p with|(q,m)=>q<=s0.kept.length/\m=w1++(s0.kept.take q).map (fun t=>(⟨t,-1⟩:cf))) (fun (p:Nat×List cf)=>match p with|(q,m)=>s0.kept.length - q) (0,w1) ?_ ?_ ?_
 ·exact ⟨by omega,by simp⟩
 ·exact aF.bW id (by refine ⟨?_,?_,?_,?_,?_,?_,?_,?_,trivial⟩<;>first|rfl|(simp only [bm];done)|(congr 3;omega)|(congr 4;omega)|(simp only [bn];rfl)) (by refine ⟨?_,?_,?_,trivial⟩<;>first|rfl|(simp only [bm];done)|(congr 3;omega)|(congr 4;omega)|(simp only [bn];rfl)) rfl
 rintro ⟨q,m⟩ ⟨hi0_0,hi0_1⟩
 have hml:m.length=w1.length+q:=by rw [hi0_1];simp;omega
 refine ae aa 1 rfl ?_
 refine ag ?_
 refine ah rfl (fun hc2=>?_) (fun hc2=>?_)
 ·
  have hc2':=of_decide_eq_true hc2
  refine aQ ?_
  refine ag ?_
  refine aX ?_
  refine eB ?_
  obtain ⟨x1,hx1⟩:=ck (xs:=s0.kept) (i:=q) (by first|omega|(simp;done)|(simp;omega))
  refine aA (cH (i:=q) rfl rfl rfl Try.underlying32 na (by first|omega|(simp;done)|(simp;omega)) (bw hx1)) rfl ?_
  refine ad aa 3 rfl ?_
  refine af ?_
  refine au ?_
  refine ad aa 3 rfl ?_
  refine aN 5 [4,3,2,1,0] (dy (ys:=[(0,(.g [(cI x1.number),(cI x1.kind),(cI x1.bc),(cI x1.sum),(cI (-1))]))]) (rows:=([(⟨x1,(-1)⟩:cf)]).map fC) 4 ng rfl (by decide) ⟨⟨rfl,rfl⟩,trivial⟩ rfl rfl rfl rfl) rfl ?_
  refine aN 6 [5,4,3,1,0] (cX (m:=1) (N:=m.length+1) (k2:=5) (ys:=([(⟨x1,(-1)⟩:cf)]).map fC) ng rfl rfl rfl rfl rfl rfl (by first|omega|(simp;done)|(simp;omega)) rfl (.s rfl (by first|omega|(simp;done)|(simp;omega))) (by first|omega|(simp;done)|(simp;omega)) (by first|omega|(simp;done)|(simp;omega)) eH (by decide) (by first|omega|(simp;done)|(simp;omega)) (by first|omega|(simp;done)|(simp;omega))) rfl ?_
  refine ad aa 1 rfl ?_
  refine bY ?_
  refine bh ?_
  refine then_ok ?_
  refine au ?_
  refine aA (aL rfl rfl rfl (aJ (by first|omega|(simp;done)|(simp;omega)))) rfl ?_
  refine ad aa 1 rfl ?_
  refine af ?_
  refine ⟨(q+1,m++([(⟨x1,(-1)⟩:cf)])),⟨by omega,by rw [List.take_add_one,hx1,List.map_append,<-List.append_assoc,<-hi0_1];rfl⟩,by first|omega|(simp;done)|(simp;omega),aF.bW (fun k=>if k=2 then 5 else k) (by refine ⟨?_,?_,?_,?_,?_,?_,?_,?_,trivial⟩<;>first|rfl|(simp only [bm];done)|(congr 3;omega)|(congr 4;omega)|(simp only [bn];rfl)|(first|exact cz rfl (by omega)|exact fD rfl (by simp only [List.length_append,List.length_cons,List.length_nil];omega))) (by refine ⟨?_,?_,?_,trivial⟩<;>first|rfl|(simp only [bm];done)|(congr 3;omega)|(congr 4;omega)|(simp only [bn];rfl)) rfl⟩
 have hc2':=of_decide_eq_false hc2
 refine cj ?_
 refine aP ?_
 refine aP ?_
 refine bK ?_
 refine then_ok ?_
 refine ag ?_
 refine ba [0,1,4,5,6,45,46,47] [2,1,0] mixed rfl rfl ?_
 refine aE (kn:=[]) aa 9 rfl trivial ?_
 refine aU (n':=3) [65,62] [0] rfl rfl (.inl ⟨(ak.plain rfl),aM.cast (dv (i:=0) rfl rfl rfl Try.underlying36 fX rfl (by decide)) rfl⟩) rfl ?_
 refine aE (kn:=[]) aa 2 rfl trivial ?_
 refine aU (n':=4) [68] [] rfl rfl (.inl ⟨(ak.plain rfl),aM.cast (dy (ys:=[(0,(.g [(cI 0),(cI 0),(cI 0),(cI 0),(cI n0)]))]) (rows:=([(⟨(⟨0,0,0,0⟩:aT),n0⟩:cf)]).map fC) 3 ng rfl (by decide) ⟨⟨rfl,rfl⟩,trivial⟩ rfl rfl rfl rfl) rfl⟩) rfl ?_
 refine aU (n':=5) [57,69] [3,2] rfl rfl (.inl ⟨(ak.plain rfl),aM.cast (cX (m:=1) (N:=m.length+1) (k2:=4) (ys:=([(⟨(⟨0,0,0,0⟩:aT),n0⟩:cf)]).map fC) ng rfl rfl rfl rfl rfl rfl (by first|omega|(simp;done)|(simp;omega)) rfl (.s rfl (by first|omega|(simp;done)|(simp;omega))) (by first|omega|(simp;done)|(simp;omega)) (by first|omega|(simp;done)|(simp;omega)) eH (by decide) (by first|omega|(simp;done)|(simp;omega)) (by first|omega|(simp;done)|(simp;omega))) rfl⟩) rfl ?_
 refine bC [4,1,0] rfl rfl rfl rfl (by kernel_rfl) ?_
 refine ad aa 1 rfl ?_
 refine af ?_
 refine ag ?_
 refine aH aa 1 rfl ?_
 refine aA (dz rfl rfl rfl rfl rfl Try.underlying37) rfl ?_
 refine ad aa 1 rfl ?_
 refine af ?_
 refine ah rfl (fun hc3=>?_) (fun hc3=>?_)
 ·
  have hc3':=of_decide_eq_true hc3
  refine ae aa 2 rfl ?_
  refine az ?_
  refine aq ?_
  have hX:eL s0 s1 n0 n1 w0 w1 (⟨idn,kind,0,aD,move,sum⟩:aW)=(w0,w1,(⟨5,0⟩:Answer)):=by
    (have ht:s0.kept.take q=s0.kept:=List.take_of_length_le (by omega));rw [ht] at hi0_1;unfold eL;dsimp only;rw [if_pos rfl];unfold iI gY;rw [<-hi0_1];first|rw [if_pos (by simp;omega)]|rw [if_neg (by simp;omega)]
  rw [hX] at hr;clear hX
  simp only [Prod.mk.injEq] at hr;obtain ⟨rfl,rfl,rfl⟩:=hr
  refine an aa [0,1] 1 rfl rfl rfl rfl rfl rfl ?_ ?_
  all_goals first|rfl|(simp [ay,aY,bf];done)|(simp [ay,aY,bf];omega)
 have hc3':=of_decide_eq_false hc3
 refine aQ ?_
 refine tx (s':=[(0,(aC (.p 0 0 0 0))),(1,(aC (.q (cQ (⟨idn,kind,0,aD,move,sum⟩:aW)) 0))),(4,(aC (.p 1 0 0 0))),(5,(aI 1)),(6,(aC (eD (m++([(⟨(⟨0,0,0,0⟩:aT),n0⟩:cf)]))))),(45,(aC (dn s0.kept))),(46,(aI (↑s0.kept.length:Int))),(47,(aI (↑q:Int))),(70,(aC (eD (m++([(⟨(⟨0,0,0,0⟩:aT),n0⟩:cf)]))))),(71,(aC (eD (m++([(⟨(⟨0,0,0,0⟩:aT),n0⟩:cf)]))))),(72,(aI (↑(m.length+1):Int))),(73,(aB (decide ((↑(m.length+1):Int) > 60))))]) (h':=[(1,(.box 65 [(cI 0),(cI 0)])),(0,(.box 98 (((((((((bf x).set 5 (cI s0.bL)).set 6 (dn s0.kept)).set 7 (cI s1.bL)).set 8 (dn s1.kept)).set 9 (cI n0)).set 10 (cI n1)).set 11 (eD w0)).set 12 (eD w1))))]) hF0 4 rfl rfl ⟨⟨_,rfl,.inl ⟨rfl,rfl⟩⟩,⟨_,rfl,.inl ⟨rfl,rfl⟩⟩,⟨_,rfl,.inl ⟨rfl,rfl⟩⟩,⟨_,rfl,.inl ⟨rfl,rfl⟩⟩,⟨_,rfl,.inr ⟨_,_,rfl,rfl,.s rfl (by decide) (by first|omega|(simp;done)|(simp;omega))⟩⟩,⟨_,rfl,.inl ⟨rfl,rfl⟩⟩,⟨_,rfl,.inl ⟨rfl,rfl⟩⟩,⟨_,rfl,.inl ⟨rfl,rfl⟩⟩,⟨_,rfl,.inr ⟨_,_,rfl,rfl,.s rfl (by decide) (by first|omega|(simp;done)|(simp;omega))⟩⟩,⟨_,rfl,.inr ⟨_,_,rfl,rfl,.s rfl (by decide) (by first|omega|(simp;done)|(simp;omega))⟩⟩,⟨_,rfl,.inl ⟨rfl,rfl⟩⟩,⟨_,rfl,.inl ⟨rfl,rfl⟩⟩,trivial⟩ ⟨rfl,rfl,trivial⟩ rfl ?_
 refine aH aa 6 rfl ?_
 refine aA (dv (i:=1) rfl rfl rfl Try.underlying38 lE rfl (by decide)) rfl ?_
 refine ad aa 1 rfl ?_
 refine af ?_
 refine ae aa 2 rfl ?_
 refine az ?_
 have hX:eL s0 s1 n0 n1 w0 w1 (⟨idn,kind,0,aD,move,sum⟩:aW)=(w0,m++([(⟨(⟨0,0,0,0⟩:aT),n0⟩:cf)]),(⟨0,0⟩:Answer)):=by
   (have ht:s0.kept.take q=s0.kept:=List.take_of_length_le (by omega));rw [ht] at hi0_1;unfold eL;dsimp only;rw [if_pos rfl];unfold iI gY;rw [<-hi0_1];first|rw [if_pos (by simp;omega)]|rw [if_neg (by simp;omega)]
 rw [hX] at hr;clear hX
 simp only [Prod.mk.injEq] at hr;obtain ⟨rfl,rfl,rfl⟩:=hr
 refine an aa [0,1] 1 rfl rfl rfl rfl rfl rfl ?_ ?_
 all_goals first|rfl|(simp [ay,aY,bf];done)|(simp [ay,aY,bf];omega)
theorem DW (x:Nat->Value) (hx:∀ i,(x i).oneCell'=true) (s0 s1:bX) (n0 n1:Int) (w0 w1:List cf) (idn kind aD move sum:Int) (l0:w0.length<=60) (l1:w1.length<=60) (m0:s0.kept.length<=40) (m1:s1.kept.length<=40) (v0:List cf) (v1:List cf) (a2:Answer) (hr:eL s0 s1 n0 n1 w0 w1 (⟨idn,kind,1,aD,move,sum⟩:aW)=(v0,v1,a2)):cJ Try.prog 66 [(.c (.p 0 0 0 0)),(.c (.q (cQ (⟨idn,kind,1,aD,move,sum⟩:aW)) 0))] [(0,(.box 98 (((((((((bf x).set 5 (cI s0.bL)).set 6 (dn s0.kept)).set 7 (cI s1.bL)).set 8 (dn s1.kept)).set 9 (cI n0)).set 10 (cI n1)).set 11 (eD w0)).set 12 (eD w1))))] [0] (.v (.g [cI a2.err,cI a2.bc])) [(0,(.box 98 (((((((((bf x).set 5 (cI s0.bL)).set 6 (dn s0.kept)).set 7 (cI s1.bL)).set 8 (dn s1.kept)).set 9 (cI n0)).set 10 (cI n1)).set 11 (eD v0)).set 12 (eD v1))))]:=by
 refine cJ.Gb 83 [(0,(aC (.p 0 0 0 0))),(1,(aC (.q (cQ (⟨idn,kind,1,aD,move,sum⟩:aW)) 0)))] 1 Try.func66 rfl rfl rfl rfl rfl rfl rfl rfl rfl ?_
 intro W0 F0 T0 pg hF
 have hF0:∀ b,F0 b->(pg 0).g=b:=fun b hb=>by obtain ⟨k,hk,h⟩:=hF b hb;rw [List.mem_singleton.1 hk] at h;exact h
 refine ae aa 1 rfl ?_
 refine ag ?_
 refine cx 20 (false) ?_ ?_
 ·
  refine au ?_
  refine ad aa 4 rfl ?_
  refine aA (aL rfl rfl rfl (show _=some (Value.bool true) from rfl)) rfl ?_
  refine ad aa 5 rfl ?_
  refine dQ (ak.yes rfl rfl rfl) (aL rfl rfl rfl (show _=some (Value.bool false) from rfl)) rfl rfl ?_
  refine ad aa 1 rfl ?_
  refine af ?_
  exact aF.bH 12 rfl rfl (by first|(simp [];done)|(simp_all;done)|(exfalso;simp_all;done)|(simp_all;omega)) rfl
 refine ah rfl (fun hno=>by cases hno) (fun _=>?_)
 refine aQ ?_
 refine ae aa 6 rfl ?_
 refine aH aa 5 rfl ?_
 refine aA (dv (i:=0) rfl rfl rfl Try.underlying38 lE rfl (by decide)) rfl ?_
 refine ad aa 1 rfl ?_
 refine aN 3 [2,1,0] (bQ 2 (nH w0 (by first|omega|(simp;done)|(simp;omega))) GJ rfl rfl ⟨⟨_,rfl,.c (.d _)⟩,trivial⟩ trivial ⟨(fun _ _ _ _=>trivial),trivial⟩ rfl rfl rfl rfl) rfl ?_
 refine ad aa 1 rfl ?_
 refine af ?_
 refine ag ?_
 refine ag ?_
 refine ba [0,1,4,5,6] [2,1,0] mixed rfl rfl ?_
 refine aE (kn:=[]) aa 8 rfl trivial ?_
 refine aU (n':=3) [42,39] [0] rfl rfl (.inl ⟨(ak.plain rfl),aM.cast (dv (i:=1) rfl rfl rfl Try.underlying35 nd rfl (by decide)) rfl⟩) rfl ?_
 refine aE (kn:=[]) aa 2 rfl trivial ?_
 refine aU (n':=3) [45] [] rfl rfl (.inl ⟨(ak.plain rfl),aM.cast (cM rfl rfl rfl rfl rfl Try.underlying32) rfl⟩) rfl ?_
 refine aE (kn:=[]) aa 1 rfl trivial ?_
 refine bC [2,1,0] rfl rfl rfl rfl (by kernel_rfl) ?_
 refine af ?_
 refine aX ?_
 refine cw (β:=Nat×List cf) (fun (p:Nat×List cf)=>match p with|(q,m)=>⟨[(0,(aC (.p 0 0 0 0))),(1,(aC (.q (cQ (⟨idn,kind,1,aD,move,sum⟩:aW)) 0))),(4,(aC (.p 1 0 0 0))),(5,(aI 0)),(6,(aC (.s 2 0 5 m.length))),(45,(aC (dn s1.kept))),(46,(aI (↑s1.kept.length:Int))),(47,(aI (↑q:Int)))],[(2,(Hn m)),(1,(.box 65 [(cI 0),(cI 0)])),(0,(.box 98 (((((((((bf x).set 5 (cI s0.bL)).set 6 (dn s0.kept)).set 7 (cI s1.bL)).set 8 (dn s1.kept)).set 9 (cI n0)).set 10 (cI n1)).set 11 (eD w0)).set 12 (eD w1))))],3⟩) (fun (p:Nat×List cf)=>match p with|(q,m)=>q<=s1.kept.length/\m=w0++(s1.kept.take q).map (fun t=>(⟨t,-1⟩:cf))) (fun (p:Nat×List cf)=>match p with|(q,m)=>s1.kept.length - q) (0,w0) ?_ ?_ ?_
 ·exact ⟨by omega,by simp⟩
 ·exact aF.bW id (by refine ⟨?_,?_,?_,?_,?_,?_,?_,?_,trivial⟩<;>first|rfl|(simp only [bm];done)|(congr 3;omega)|(congr 4;omega)|(simp only [bn];rfl)) (by refine ⟨?_,?_,?_,trivial⟩<;>first|rfl|(simp only [bm];done)|(congr 3;omega)|(congr 4;omega)|(simp only [bn];rfl)) rfl
 rintro ⟨q,m⟩ ⟨hi0_0,hi0_1⟩
 have hml:m.length=w0.length+q:=by rw [hi0_1];simp;omega
 refine ae aa 1 rfl ?_
 refine ag ?_
 refine ah rfl (fun hc2=>?_) (fun hc2=>?_)
 ·
  have hc2':=of_decide_eq_true hc2
  refine aQ ?_
  refine ag ?_
  refine aX ?_
  refine eB ?_
  obtain ⟨x1,hx1⟩:=ck (xs:=s1.kept) (i:=q) (by first|omega|(simp;done)|(simp;omega))
  refine aA (cH (i:=q) rfl rfl rfl Try.underlying32 na (by first|omega|(simp;done)|(simp;omega)) (bw hx1)) rfl ?_
  refine ad aa 3 rfl ?_
  refine af ?_
  refine au ?_
  refine ad aa 3 rfl ?_
  refine aN 5 [4,3,2,1,0] (dy (ys:=[(0,(.g [(cI x1.number),(cI x1.kind),(cI x1.bc),(cI x1.sum),(cI (-1))]))]) (rows:=([(⟨x1,(-1)⟩:cf)]).map fC) 4 ng rfl (by decide) ⟨⟨rfl,rfl⟩,trivial⟩ rfl rfl rfl rfl) rfl ?_
  refine aN 6 [5,4,3,1,0] (cX (m:=1) (N:=m.length+1) (k2:=5) (ys:=([(⟨x1,(-1)⟩:cf)]).map fC) ng rfl rfl rfl rfl rfl rfl (by first|omega|(simp;done)|(simp;omega)) rfl (.s rfl (by first|omega|(simp;done)|(simp;omega))) (by first|omega|(simp;done)|(simp;omega)) (by first|omega|(simp;done)|(simp;omega)) eH (by decide) (by first|omega|(simp;done)|(simp;omega)) (by first|omega|(simp;done)|(simp;omega))) rfl ?_
  refine ad aa 1 rfl ?_
  refine bY ?_
  refine bh ?_
  refine then_ok ?_
  refine au ?_
  refine aA (aL rfl rfl rfl (aJ (by first|omega|(simp;done)|(simp;omega)))) rfl ?_
  refine ad aa 1 rfl ?_
  refine af ?_
  refine ⟨(q+1,m++([(⟨x1,(-1)⟩:cf)])),⟨by omega,by rw [List.take_add_one,hx1,List.map_append,<-List.append_assoc,<-hi0_1];rfl⟩,by first|omega|(simp;done)|(simp;omega),aF.bW (fun k=>if k=2 then 5 else k) (by refine ⟨?_,?_,?_,?_,?_,?_,?_,?_,trivial⟩<;>first|rfl|(simp only [bm];done)|(congr 3;omega)|(congr 4;omega)|(simp only [bn];rfl)|(first|exact cz rfl (by omega)|exact fD rfl (by simp only [List.length_append,List.length_cons,List.length_nil];omega))) (by refine ⟨?_,?_,?_,trivial⟩<;>first|rfl|(simp only [bm];done)|(congr 3;omega)|(congr 4;omega)|(simp only [bn];rfl)) rfl⟩
 have hc2':=of_decide_eq_false hc2
 refine cj ?_
 refine aP ?_
 refine aP ?_
 refine bK ?_
 refine then_ok ?_
 refine ag ?_
 refine ba [0,1,4,5,6,45,46,47] [2,1,0] mixed rfl rfl ?_
 refine aE (kn:=[]) aa 9 rfl trivial ?_
 refine aU (n':=3) [65,62] [0] rfl rfl (.inl ⟨(ak.plain rfl),aM.cast (dv (i:=1) rfl rfl rfl Try.underlying36 fX rfl (by decide)) rfl⟩) rfl ?_
 refine aE (kn:=[]) aa 2 rfl trivial ?_
 refine aU (n':=4) [68] [] rfl rfl (.inl ⟨(ak.plain rfl),aM.cast (dy (ys:=[(0,(.g [(cI 0),(cI 0),(cI 0),(cI 0),(cI n1)]))]) (rows:=([(⟨(⟨0,0,0,0⟩:aT),n1⟩:cf)]).map fC) 3 ng rfl (by decide) ⟨⟨rfl,rfl⟩,trivial⟩ rfl rfl rfl rfl) rfl⟩) rfl ?_
 refine aU (n':=5) [57,69] [3,2] rfl rfl (.inl ⟨(ak.plain rfl),aM.cast (cX (m:=1) (N:=m.length+1) (k2:=4) (ys:=([(⟨(⟨0,0,0,0⟩:aT),n1⟩:cf)]).map fC) ng rfl rfl rfl rfl rfl rfl (by first|omega|(simp;done)|(simp;omega)) rfl (.s rfl (by first|omega|(simp;done)|(simp;omega))) (by first|omega|(simp;done)|(simp;omega)) (by first|omega|(simp;done)|(simp;omega)) eH (by decide) (by first|omega|(simp;done)|(simp;omega)) (by first|omega|(simp;done)|(simp;omega))) rfl⟩) rfl ?_
 refine bC [4,1,0] rfl rfl rfl rfl (by kernel_rfl) ?_
 refine ad aa 1 rfl ?_
 refine af ?_
 refine ag ?_
 refine aH aa 1 rfl ?_
 refine aA (dz rfl rfl rfl rfl rfl Try.underlying37) rfl ?_
 refine ad aa 1 rfl ?_
 refine af ?_
 refine ah rfl (fun hc3=>?_) (fun hc3=>?_)
 ·
  have hc3':=of_decide_eq_true hc3
  refine ae aa 2 rfl ?_
  refine az ?_
  refine aq ?_
  have hX:eL s0 s1 n0 n1 w0 w1 (⟨idn,kind,1,aD,move,sum⟩:aW)=(w0,w1,(⟨5,0⟩:Answer)):=by
    (have ht:s1.kept.take q=s1.kept:=List.take_of_length_le (by omega));rw [ht] at hi0_1;unfold eL;dsimp only;rw [if_neg (by decide),if_pos rfl];unfold iI gY;rw [<-hi0_1];first|rw [if_pos (by simp;omega)]|rw [if_neg (by simp;omega)]
  rw [hX] at hr;clear hX
  simp only [Prod.mk.injEq] at hr;obtain ⟨rfl,rfl,rfl⟩:=hr
  refine an aa [0,1] 1 rfl rfl rfl rfl rfl rfl ?_ ?_
  all_goals first|rfl|(simp [ay,aY,bf];done)|(simp [ay,aY,bf];omega)
 have hc3':=of_decide_eq_false hc3
 refine aQ ?_
 refine tx (s':=[(0,(aC (.p 0 0 0 0))),(1,(aC (.q (cQ (⟨idn,kind,1,aD,move,sum⟩:aW)) 0))),(4,(aC (.p 1 0 0 0))),(5,(aI 0)),(6,(aC (eD (m++([(⟨(⟨0,0,0,0⟩:aT),n1⟩:cf)]))))),(45,(aC (dn s1.kept))),(46,(aI (↑s1.kept.length:Int))),(47,(aI (↑q:Int))),(70,(aC (eD (m++([(⟨(⟨0,0,0,0⟩:aT),n1⟩:cf)]))))),(71,(aC (eD (m++([(⟨(⟨0,0,0,0⟩:aT),n1⟩:cf)]))))),(72,(aI (↑(m.length+1):Int))),(73,(aB (decide ((↑(m.length+1):Int) > 60))))]) (h':=[(1,(.box 65 [(cI 0),(cI 0)])),(0,(.box 98 (((((((((bf x).set 5 (cI s0.bL)).set 6 (dn s0.kept)).set 7 (cI s1.bL)).set 8 (dn s1.kept)).set 9 (cI n0)).set 10 (cI n1)).set 11 (eD w0)).set 12 (eD w1))))]) hF0 4 rfl rfl ⟨⟨_,rfl,.inl ⟨rfl,rfl⟩⟩,⟨_,rfl,.inl ⟨rfl,rfl⟩⟩,⟨_,rfl,.inl ⟨rfl,rfl⟩⟩,⟨_,rfl,.inl ⟨rfl,rfl⟩⟩,⟨_,rfl,.inr ⟨_,_,rfl,rfl,.s rfl (by decide) (by first|omega|(simp;done)|(simp;omega))⟩⟩,⟨_,rfl,.inl ⟨rfl,rfl⟩⟩,⟨_,rfl,.inl ⟨rfl,rfl⟩⟩,⟨_,rfl,.inl ⟨rfl,rfl⟩⟩,⟨_,rfl,.inr ⟨_,_,rfl,rfl,.s rfl (by decide) (by first|omega|(simp;done)|(simp;omega))⟩⟩,⟨_,rfl,.inr ⟨_,_,rfl,rfl,.s rfl (by decide) (by first|omega|(simp;done)|(simp;omega))⟩⟩,⟨_,rfl,.inl ⟨rfl,rfl⟩⟩,⟨_,rfl,.inl ⟨rfl,rfl⟩⟩,trivial⟩ ⟨rfl,rfl,trivial⟩ rfl ?_
 refine aH aa 6 rfl ?_
 refine aA (dv (i:=0) rfl rfl rfl Try.underlying38 lE rfl (by decide)) rfl ?_
 refine ad aa 1 rfl ?_
 refine af ?_
 refine ae aa 2 rfl ?_
 refine az ?_
 have hX:eL s0 s1 n0 n1 w0 w1 (⟨idn,kind,1,aD,move,sum⟩:aW)=(m++([(⟨(⟨0,0,0,0⟩:aT),n1⟩:cf)]),w1,(⟨0,0⟩:Answer)):=by
   (have ht:s1.kept.take q=s1.kept:=List.take_of_length_le (by omega));rw [ht] at hi0_1;unfold eL;dsimp only;rw [if_neg (by decide),if_pos rfl];unfold iI gY;rw [<-hi0_1];first|rw [if_pos (by simp;omega)]|rw [if_neg (by simp;omega)]
 rw [hX] at hr;clear hX
 simp only [Prod.mk.injEq] at hr;obtain ⟨rfl,rfl,rfl⟩:=hr
 refine an aa [0,1] 1 rfl rfl rfl rfl rfl rfl ?_ ?_
 all_goals first|rfl|(simp [ay,aY,bf];done)|(simp [ay,aY,bf];omega)
theorem DV (x:Nat->Value) (hx:∀ i,(x i).oneCell'=true) (s0 s1:bX) (n0 n1:Int) (w0 w1:List cf) (d:aW) (l0:w0.length<=60) (l1:w1.length<=60) (m0:s0.kept.length<=40) (m1:s1.kept.length<=40) (hn:¬d.n=0/\¬d.n=1) (v0:List cf) (v1:List cf) (a2:Answer) (hr:eL s0 s1 n0 n1 w0 w1 d=(v0,v1,a2)):cJ Try.prog 66 [(.c (.p 0 0 0 0)),(.c (.q (cQ d) 0))] [(0,(.box 98 (((((((((bf x).set 5 (cI s0.bL)).set 6 (dn s0.kept)).set 7 (cI s1.bL)).set 8 (dn s1.kept)).set 9 (cI n0)).set 10 (cI n1)).set 11 (eD w0)).set 12 (eD w1))))] [0] (.v (.g [cI a2.err,cI a2.bc])) [(0,(.box 98 (((((((((bf x).set 5 (cI s0.bL)).set 6 (dn s0.kept)).set 7 (cI s1.bL)).set 8 (dn s1.kept)).set 9 (cI n0)).set 10 (cI n1)).set 11 (eD v0)).set 12 (eD v1))))]:=by
 refine cJ.Gb 83 [(0,(aC (.p 0 0 0 0))),(1,(aC (.q (cQ d) 0)))] 1 Try.func66 rfl rfl rfl rfl rfl rfl rfl rfl rfl ?_
 intro W0 F0 T0 pg hF
 have hF0:∀ b,F0 b->(pg 0).g=b:=fun b hb=>by obtain ⟨k,hk,h⟩:=hF b hb;rw [List.mem_singleton.1 hk] at h;exact h
 refine ae aa 1 rfl ?_
 refine ag ?_
 refine cx 20 ((decide (¬d.n=0)) && (decide (¬d.n=1))) ?_ ?_
 ·
  refine au ?_
  refine ad aa 6 rfl ?_
  refine bI (t:=14) rfl (fun hb1=>?_) (fun hb1=>?_)
  ·
   have hb1':=of_decide_eq_true hb1
   refine ad aa 6 rfl ?_
   refine af ?_
   exact aF.bH 13 rfl rfl (by first|(simp [hb1];done)|(simp_all;done)|(exfalso;simp_all;done)|(simp_all;omega)) rfl
  have hb1':=of_decide_eq_false hb1
  refine ad aa 6 rfl ?_
  refine af ?_
  exact aF.bH 13 rfl rfl (by first|(simp [hb1];done)|(simp_all;done)|(exfalso;simp_all;done)|(simp_all;omega)) rfl
 refine ah rfl (fun hc2=>?_) (fun hc2=>?_)
 ·
  have hc2':=hc2;try simp only [bu,bU] at hc2'
  refine ae aa 2 rfl ?_
  refine az ?_
  refine aq ?_
  have hX:eL s0 s1 n0 n1 w0 w1 d=(w0,w1,(⟨6,0⟩:Answer)):=by
    unfold eL;rw [if_neg hn.1,if_neg hn.2]
  rw [hX] at hr;clear hX
  simp only [Prod.mk.injEq] at hr;obtain ⟨rfl,rfl,rfl⟩:=hr
  refine an aa [0,1] 1 rfl rfl rfl rfl rfl rfl ?_ ?_
  all_goals first|rfl|(simp [ay,aY,bf];done)|(simp [ay,aY,bf];omega)
 have hc2':=hc2;try simp only [bu,bU] at hc2'
 (exfalso;simp at *;omega)
theorem Hd (x:Nat->Value) (hx:∀ i,(x i).oneCell'=true) (aR:List aj) (days:List (List Int)) (l0:aR.length<=100) (l1:days.length<=1000) (today2:List aj) (days2:List (List Int)) (a2:Answer) (hr:iM aR days=(today2,days2,a2)):cJ Try.prog 69 [(.c (.p 0 0 0 0))] [(0,(.box 98 (((bf x).set 16 (.s 1 0 4 aR.length)).set 17 (.s 2 0 1 days.length)))),(1,(cS aR)),(2,(qZ days))] [0] (.v (.g [cI a2.err,cI a2.bc])) [(0,(.box 98 (((bf x).set 16 (.s 1 0 4 today2.length)).set 17 (.s 2 0 1 days2.length)))),(1,(cS today2)),(2,(qZ days2))]:=by
 refine cJ.mk 37 [(0,(aC (.p 0 0 0 0)))] 3 Try.func69 rfl rfl rfl rfl rfl rfl rfl rfl rfl ?_
 intro W0 F0 T0 pg
 refine ae aa 1 rfl ?_
 refine aH aa 5 rfl ?_
 obtain ⟨xr0,f0,hr0⟩:∃ (xr0:List Int) (f0:dc),ei aR=(xr0,f0):=⟨_,_,rfl⟩
 refine Hs (av':=(.t [(.c (qB xr0)),(.g [(cI f0.err),(cI f0.at_)])])) (ak.plain rfl) (ff 4 [1] (yj aR (by first|omega|(simp;done)|(simp;omega)) xr0 f0 hr0) IP rfl rfl ⟨⟨_,rfl,.c (.s rfl (by decide) (by first|omega|(simp;done)|(simp;omega)))⟩,trivial⟩ ⟨trivial,⟨rfl,rfl,trivial⟩,trivial⟩ ⟨(EZ _),trivial⟩ rfl rfl rfl rfl) ⟨.inr ⟨_,_,_,_,_,rfl,rfl,rfl,by simp⟩,⟨.inl ⟨_,rfl,rfl⟩,.inl ⟨_,rfl,rfl⟩,trivial⟩,trivial⟩ rfl rfl rfl ?_
 refine ad aa 6 rfl ?_
 refine af ?_
 refine ag ?_
 refine ae aa 3 rfl ?_
 refine ah rfl (fun hc1=>?_) (fun hc1=>?_)
 ·
  have hc1':=of_decide_eq_true hc1
  refine ae aa 4 rfl ?_
  refine az ?_
  refine aq ?_
  have hX:iM aR days=(aR,days,(⟨f0.err,0⟩:Answer)):=by
    unfold iM;simp only [hr0];(repeat' split)<;>first|rfl|omega|(simp_all;done)
  rw [hX] at hr;clear hX
  simp only [Prod.mk.injEq] at hr;obtain ⟨rfl,rfl,rfl⟩:=hr
  refine an aa [0,1,2,3] 3 rfl rfl rfl rfl rfl rfl ?_ ?_
  all_goals first|rfl|(simp [ay,aY,bf];done)|(simp [ay,aY,bf];omega)
 have hc1':=of_decide_eq_false hc1
 refine aQ ?_
 refine aH aa 7 rfl ?_
 refine aN 6 [5,4,3,0,1,2] (dy (ys:=[(0,(.c (qB xr0)))]) (rows:=([xr0]).map tO) 5 FN rfl (by decide) ⟨⟨rfl,rfl⟩,trivial⟩ rfl rfl rfl rfl) rfl ?_
 refine aN 7 [6,5,4,3,0,1] (cX (m:=1) (N:=days.length+1) (k2:=6) (ys:=([xr0]).map tO) FN rfl rfl rfl rfl rfl rfl (by first|omega|(simp;done)|(simp;omega)) rfl (.s rfl (by first|omega|(simp;done)|(simp;omega))) (by first|omega|(simp;done)|(simp;omega)) (by first|omega|(simp;done)|(simp;omega)) eH (by decide) (by first|omega|(simp;done)|(simp;omega)) (by first|omega|(simp;done)|(simp;omega))) rfl ?_
 refine ad aa 4 rfl ?_
 refine af ?_
 refine fP (k:=0) (q:=17) (c':=(.s 6 0 1 ((days++([xr0])).length))) rfl rfl (by first|rfl|(simp;done)|(congr 1;omega)) rfl ?_
 refine ae aa 5 rfl ?_
 refine ae aa 2 rfl ?_
 refine az ?_
 refine cp 0 16 83 4 rfl rfl rfl ?_
 have hX:iM aR days=(([]:List aj),days++([xr0]),(⟨0,0⟩:Answer)):=by
   unfold iM;simp only [hr0];(repeat' split)<;>first|rfl|omega|(simp_all;done)
 rw [hX] at hr;clear hX
 simp only [Prod.mk.injEq] at hr;obtain ⟨rfl,rfl,rfl⟩:=hr
 refine an aa [0,7,6,3] 3 rfl rfl rfl rfl rfl rfl ?_ ?_
 all_goals first|rfl|(simp [ay,aY,bf];done)|(simp [ay,aY,bf];omega)

theorem Ce (x:Nat->Value) (hx:∀ i,(x i).oneCell'=true) (b:Bk) (idn kind aD move sum:Int) (ok:cv b) (b2:Bk) (a2:Answer) (hr:bZ b (⟨idn,kind,0,aD,move,sum⟩:aW)=(b2,a2)):cJ Try.prog 67 [(.c (.p 0 0 0 0)),(.c (.q (cQ (⟨idn,kind,0,aD,move,sum⟩:aW)) 0))] [(0,(.box 98 (aY b 1 2 3 4 (.d (.v (x 17))) (.d (.v (x 19)))))),(1,(dW b.aw)),(2,(dP b.due)),(3,(ed b.ax)),(4,(cS b.aR))] [0] (.v (.g [cI a2.err,cI a2.bc])) [(0,(.box 98 (aY b2 1 2 3 4 (.d (.v (x 17))) (.d (.v (x 19)))))),(1,(dW b2.aw)),(2,(dP b2.due)),(3,(ed b2.ax)),(4,(cS b2.aR))]:=by
 refine cJ.mk 153 [(0,(aC (.p 0 0 0 0))),(1,(aC (.q (cQ (⟨idn,kind,0,aD,move,sum⟩:aW)) 0)))] 5 Try.func67 rfl rfl rfl rfl rfl rfl rfl rfl rfl ?_
 intro W0 F0 T0 pg
 obtain ⟨okt,okc,okd,oka,oky,okw0,okw1,okp,okv,okk0,okk1,okg,okl0,okl1,okp0,okp1,okn0,okn1,okq⟩:=id ok
 refine ae aa 1 rfl ?_
 refine ag ?_
 refine ag ?_
 refine ba [0,1,4] [5,0,1,2,3,4] mixed rfl rfl ?_
 refine aE (kn:=[(15,false)]) aa 21 rfl ⟨rfl,trivial⟩ ?_
 refine aU (n':=6) [31,28,23] [0] rfl rfl (.inl ⟨(ak.yes rfl rfl rfl),aM.cast (dv (i:=0) rfl rfl rfl Try.underlying38 lE rfl (by decide)) rfl⟩) rfl ?_
 refine aE (kn:=[]) aa 1 rfl trivial ?_
 refine aU (n':=6) [33,23] [] rfl rfl (.inl ⟨(ak.yes rfl rfl rfl),aM.cast (cM rfl rfl rfl rfl rfl Try.underlying37) rfl⟩) rfl ?_
 refine aE (kn:=[]) aa 2 rfl trivial ?_
 refine bC [5,0,1,2,3,4] rfl rfl rfl rfl (by kernel_rfl) ?_
 refine af ?_
 refine ah rfl (fun hc1=>?_) (fun hc1=>?_)
 ·
  have hc1':=of_decide_eq_true hc1
  refine ae aa 2 rfl ?_
  refine az ?_
  refine aq ?_
  have hX:bZ b (⟨idn,kind,0,aD,move,sum⟩:aW)=(b,(⟨6,0⟩:Answer)):=by
    unfold bZ;dsimp only;rw [if_pos rfl];unfold ft;rw [List.getElem?_eq_none (by omega)]
  rw [hX] at hr;clear hX
  simp only [Prod.mk.injEq] at hr;obtain ⟨rfl,rfl⟩:=hr
  refine an aa [0,1,2,3,4,5] 5 rfl rfl rfl rfl rfl rfl ?_ ?_
  all_goals first|rfl|(simp [ay,aY,bf];done)|(simp [ay,aY,bf];omega)
 have hc1':=of_decide_eq_false hc1
 refine aQ ?_
 refine ag ?_
 obtain ⟨x1,hx1⟩:=ck (xs:=b.w0) (i:=0) (by first|omega|(simp;done)|(simp;omega))
 refine ba [0,1,4] [5,0,1,2,3,4] mixed rfl rfl ?_
 refine aE (kn:=[]) aa 8 rfl trivial ?_
 refine aU (n':=6) [45,42] [0] rfl rfl (.inl ⟨(ak.plain rfl),aM.cast (dv (i:=0) rfl rfl rfl Try.underlying38 lE rfl (by decide)) rfl⟩) rfl ?_
 refine aE (kn:=[]) aa 1 rfl trivial ?_
 refine aU (n':=6) [47] [] rfl rfl (.inl ⟨(ak.plain rfl),aM.cast (cH (i:=0) rfl rfl rfl Try.underlying37 vE (by first|omega|(simp;done)|(simp;omega)) (bw hx1)) rfl⟩) rfl ?_
 refine aE (n':=7) (kn:=[]) aa 2 rfl trivial ?_
 refine bC [6,5,0,1,2,3,4] rfl rfl rfl rfl (by kernel_rfl) ?_
 refine ad aa 1 rfl ?_
 refine af ?_
 have hpk:=okp0 x1 (List.mem_of_getElem? hx1)
 have hI0:∀ t∈b.s0.kept,gi t.number:=fun t ht=>(okk0 t ht).1
 have hI1:∀ t∈b.s1.kept,gi t.number:=fun t ht=>(okk1 t ht).1
 have hA:∀ a∈b.ax,0<=a.aO/\a.aO < b.aw.length/\0<=a.aD/\a.aD < b.due.length:=fun a ha=>(okp a ha).2
 refine aH aa 1 rfl ?_
 refine aN 16 [0,7,8,9,10,11,12,13,14,15,6,5] (cL id (bd [0,7,8,9,10,11,12,13,14,15]) (kW (x 17) (x 19) b (by first|omega|(simp;done)|(simp;omega)) (by first|omega|(simp;done)|(simp;omega)) (by first|omega|(simp;done)|(simp;omega)) (by first|omega|(simp;done)|(simp;omega))) rL rfl rfl ⟨⟨_,rfl,.inl ⟨rfl,rfl⟩⟩,trivial⟩ ⟨rfl,rfl,rfl,rfl,rfl,trivial⟩ rfl rfl rfl rfl rfl rfl trivial ⟨⟨trivial,trivial,trivial,trivial,trivial,trivial,trivial,trivial,trivial,trivial,trivial,trivial,trivial,trivial,trivial,trivial,trivial,trivial,trivial,trivial,trivial⟩,⟨trivial,trivial,trivial,trivial,trivial,trivial,trivial,trivial,trivial,trivial,trivial,trivial,trivial,trivial,trivial,trivial,trivial,trivial,trivial,trivial,trivial⟩,(fun _ _ _ _=>trivial),(fun _ _ _ _=>trivial),(fun _ _ _ _=>trivial),(fun _ _ _ _=>trivial),(fun _ _ _ _=>trivial),(fun _ _ _ _=>trivial),(fun _ _ _ _=>trivial),(fun _ _ _ _=>trivial),trivial⟩ rfl rfl rfl rfl) rfl ?_
 refine ad aa 1 rfl ?_
 refine af ?_
 refine ag ?_
 refine ba [0,1,4,5,6] [0,7,8,9,10,11,12,13,14,15,6,5] mixed rfl rfl ?_
 refine aE (kn:=[]) aa 13 rfl trivial ?_
 refine aU (n':=16) [64,61] [0] rfl rfl (.inl ⟨(ak.plain rfl),aM.cast (dv (i:=0) rfl rfl rfl Try.underlying38 lE rfl (by decide)) rfl⟩) rfl ?_
 refine aE (kn:=[]) aa 1 rfl trivial ?_
 refine aU (n':=16) [66] [] rfl rfl (.inl ⟨(ak.plain rfl),aM.cast (kT (l:=1) (h:=b.w0.length) (ys:=((b.w0).drop 1).map fC) rfl Try.underlying37 vE rfl (.inr ⟨_,rfl,rfl⟩) (.inl ⟨rfl,by simp⟩) (by first|omega|(simp;done)|(simp;omega)) (by first|omega|(simp;done)|(simp;omega)) (by first|(simp;done)|(rw [List.map_drop];exact List.take_of_length_le (by simp)))) rfl⟩) rfl ?_
 refine aE (kn:=[]) aa 3 rfl trivial ?_
 refine aU (n':=16) [70,56] [7] rfl rfl (.inl ⟨(ak.plain rfl),aM.cast (dv (i:=0) rfl rfl rfl Try.underlying38 lE rfl (by decide)) rfl⟩) rfl ?_
 refine bC [0,7,8,9,10,11,12,13,14,15,6,5] rfl rfl rfl rfl (by kernel_rfl) ?_
 refine ad aa 1 rfl ?_
 refine af ?_
 refine ag ?_
 refine ae aa 5 rfl ?_
 refine ah rfl (fun hc2=>?_) (fun hc2=>?_)
 ·
  have hc2':=of_decide_eq_true hc2
  refine aH aa 2 rfl ?_
  refine aN 20 [0,16,17,18,19,6,5] (cL (bd [0,7,8,9,10,11,12,13,14,15]) (bd [0,16,17,18,19]) (fz (x 17) (x 19) b (⟨b.time,b.down,b.aw,b.due,b.ax,b.s0,b.s1,b.n0,b.n1,(b.w0).drop 1,b.w1,b.bP,b.aR,b.book⟩:Bk) 0 (by first|assumption|omega)) fW rfl rfl ⟨⟨_,rfl,.inl ⟨rfl,rfl⟩⟩,⟨_,rfl,.inl ⟨rfl,rfl⟩⟩,trivial⟩ ⟨rfl,rfl,rfl,rfl,rfl,rfl,rfl,rfl,rfl,rfl,trivial⟩ rfl rfl rfl rfl rfl rfl trivial ⟨⟨trivial,trivial,trivial,trivial,trivial,trivial,trivial,trivial,trivial,trivial,trivial,trivial,trivial,trivial,trivial,trivial,trivial,trivial,trivial,trivial,trivial⟩,(fun _ _ _ _=>trivial),(fun _ _ _ _=>trivial),(fun _ _ _ _=>trivial),(fun _ _ _ _=>trivial),trivial⟩ rfl rfl rfl rfl) rfl ?_
  refine ad aa 2 rfl ?_
  refine af ?_
  refine az ?_
  refine aq ?_
  have hX:bZ b (⟨idn,kind,0,aD,move,sum⟩:aW)=((⟨b.time,b.down,b.aw,b.due,b.ax,b.s0,b.s1,b.n0,b.n1,(b.w0).drop 1,b.w1,b.bP,b.aR,b.book⟩:Bk),(⟨0,0⟩:Answer)):=by
    unfold bZ;dsimp only;rw [if_pos rfl];unfold ft;rw [hx1];dsimp only;(try simp only [dL]);(try unfold dL);(repeat' split)<;>first|rfl|omega|(exfalso;omega)|(simp_all;done)|(simp_all;omega)
  rw [hX] at hr;clear hX
  simp only [Prod.mk.injEq] at hr;obtain ⟨rfl,rfl⟩:=hr
  refine an aa [0,16,17,18,19,5] 5 rfl rfl rfl rfl rfl rfl ?_ ?_
  all_goals first|rfl|(simp [ay,aY,bf];done)|(simp [ay,aY,bf];omega)
 have hc2':=of_decide_eq_false hc2
 refine aQ ?_
 refine ag ?_
 refine ae aa 3 rfl ?_
 refine ah rfl (fun hc3=>?_) (fun hc3=>?_)
 ·
  have hc3':=of_decide_eq_true hc3
  refine ag ?_
  obtain ⟨xr0,e0,hr0⟩:∃ (xr0:bX) (e0:Int),dT b.s0 x1.seen=(xr0,e0):=⟨_,_,rfl⟩
  refine dg [0,1,4,5,6] [0,7,8,9,10,11,12,13,14,15,6,5] mixed rfl rfl ?_
  refine ca (kn:=[]) aa 8 rfl trivial ?_
  refine cg (n':=16) [92,89] [7] rfl rfl (.inl ⟨(ak.plain rfl),aM.cast (dv (i:=0) rfl rfl rfl Try.underlying35 nd rfl (by decide)) rfl⟩) rfl ?_
  refine ca (kn:=[]) aa 3 rfl trivial ?_
  refine cg (n':=16) [94,96] [] rfl rfl (.inl ⟨(ak.plain rfl),aM.cast (bQ 16 (Fn.frozen (av':=(.t [(.g [(cI xr0.bL),(dn xr0.kept)]),(.c (cI e0))])) (qS b.s0 x1.seen (by first|assumption|exact kR (by assumption) (by omega)|exact jT (by assumption) (by assumption)|(simp [gi];done)) xr0 e0 hr0) ⟨⟨.inl ⟨_,rfl,rfl⟩,.inr ⟨_,_,_,_,_,rfl,rfl,rfl,by simp⟩,trivial⟩,.inl ⟨_,rfl,rfl⟩,trivial⟩) GI rfl rfl ⟨⟨_,rfl,.g ⟨.d _,.d _,trivial⟩⟩,⟨_,rfl,.c (.d _)⟩,trivial⟩ ⟨⟨trivial,trivial,trivial⟩,trivial,trivial⟩ trivial rfl rfl rfl rfl) rfl⟩) rfl ?_
  refine ca (n':=17) (kn:=[]) aa 6 rfl trivial ?_
  refine dX [0,1,4,5,6,7,8] [16,0,7,8,9,10,11,12,13,14,15,6,5] rfl rfl (by kernel_rfl) ?_
  refine then_ok ?_
  refine ag ?_
  refine aH aa 2 rfl ?_
  obtain ⟨e21,hr1⟩:∃ (e21:Int),dD 0 e0=e21:=⟨_,rfl⟩
  refine aN 17 [7,16,0,8,9,10,11,12,13,14,15,6,5] (cr (bd [7]) (bd [7]) (ms:=(dG.set 19 (some (cI 0)))) (ms':=(dG.set 19 (some (cI e21)))) (fun x hx=>kD x hx 0 e0 e21 hr1) ov rfl rfl ⟨⟨_,rfl,.inl ⟨rfl,rfl⟩⟩,⟨_,rfl,.inr (.c (.d _))⟩,trivial⟩ rfl rfl rfl rfl rfl rfl rfl trivial rfl rfl rfl rfl rfl rfl rfl rfl rfl rfl rfl rfl rfl) rfl ?_
  refine ad aa 1 rfl ?_
  refine af ?_
  refine ah rfl (fun hc4=>?_) (fun hc4=>?_)
  ·
   have hc4':=hc4;try simp only [bu,bU] at hc4'
   refine ba [0,1,4,5,6,7] [7,16,0,8,9,10,11,12,13,14,15,6,5] mixed rfl rfl ?_
   refine aE (kn:=[]) aa 9 rfl trivial ?_
   refine aU (n':=17) [112,108] [7] rfl rfl (.inl ⟨(ak.plain rfl),aM.cast (dv (i:=0) rfl rfl rfl Try.underlying35 nd rfl (by decide)) rfl⟩) rfl ?_
   refine bC [7,16,0,8,9,10,11,12,13,14,15,6,5] rfl rfl rfl rfl (by kernel_rfl) ?_
   refine ad aa 1 rfl ?_
   refine af ?_
   rcases (show e21=0\/¬e21=0 from by omega) with hs5|hs5
   ·
    refine aH aa 2 rfl ?_
    refine aN 21 [0,17,18,19,20,16,6,5] (cL (bd [0,7,8,9,10,11,12,13,14,15]) (bd [0,17,18,19,20]) (fz (x 17) (x 19) b (⟨b.time,b.down,b.aw,b.due,b.ax,xr0,b.s1,b.n0,b.n1,(b.w0).drop 1,b.w1,b.bP,b.aR,b.book⟩:Bk) e21 (by first|assumption|omega)) fW rfl rfl ⟨⟨_,rfl,.inl ⟨rfl,rfl⟩⟩,⟨_,rfl,.inl ⟨rfl,rfl⟩⟩,trivial⟩ ⟨rfl,rfl,rfl,rfl,rfl,rfl,rfl,rfl,rfl,rfl,trivial⟩ rfl rfl rfl rfl rfl rfl trivial ⟨⟨trivial,trivial,trivial,trivial,trivial,trivial,trivial,trivial,trivial,trivial,trivial,trivial,trivial,trivial,trivial,trivial,trivial,trivial,trivial,trivial,trivial⟩,(fun _ _ _ _=>trivial),(fun _ _ _ _=>trivial),(fun _ _ _ _=>trivial),(fun _ _ _ _=>trivial),trivial⟩ rfl rfl rfl rfl) rfl ?_
    refine ad aa 2 rfl ?_
    refine af ?_
    refine az ?_
    refine aq ?_
    have hX:bZ b (⟨idn,kind,0,aD,move,sum⟩:aW)=((⟨b.time,b.down,b.aw,b.due,b.ax,xr0,b.s1,b.n0,b.n1,(b.w0).drop 1,b.w1,b.bP,b.aR,b.book⟩:Bk),(⟨e21,0⟩:Answer)):=by
      unfold bZ;dsimp only;rw [if_pos rfl];unfold ft;rw [hx1];dsimp only;unfold dD at hr1;simp only [if_true] at hr1;(try simp only [hr0]);(try unfold dL);(repeat' split)<;>first|rfl|omega|(exfalso;omega)|(simp_all;done)|(simp_all;omega)
    rw [hX] at hr;clear hX
    simp only [Prod.mk.injEq] at hr;obtain ⟨rfl,rfl⟩:=hr
    refine an aa [0,17,18,19,20,5] 5 rfl rfl rfl rfl rfl rfl ?_ ?_
    all_goals first|rfl|(simp [ay,aY,bf];done)|(simp [ay,aY,bf];omega)
   refine aH aa 2 rfl ?_
   refine aN 21 [0,17,18,19,20,16,6,5] (cL (bd [0,7,8,9,10,11,12,13,14,15]) (bd [0,17,18,19,20]) (gu (x 17) (x 19) b (⟨b.time,b.down,b.aw,b.due,b.ax,xr0,b.s1,b.n0,b.n1,(b.w0).drop 1,b.w1,b.bP,b.aR,b.book⟩:Bk) e21 (by first|assumption|omega)) fW rfl rfl ⟨⟨_,rfl,.inl ⟨rfl,rfl⟩⟩,⟨_,rfl,.inl ⟨rfl,rfl⟩⟩,trivial⟩ ⟨rfl,rfl,rfl,rfl,rfl,rfl,rfl,rfl,rfl,rfl,trivial⟩ rfl rfl rfl rfl rfl rfl trivial ⟨⟨trivial,trivial,trivial,trivial,trivial,trivial,trivial,trivial,trivial,trivial,trivial,trivial,trivial,trivial,trivial,trivial,trivial,trivial,trivial,trivial,trivial⟩,(fun _ _ _ _=>trivial),(fun _ _ _ _=>trivial),(fun _ _ _ _=>trivial),(fun _ _ _ _=>trivial),trivial⟩ rfl rfl rfl rfl) rfl ?_
   refine ad aa 2 rfl ?_
   refine af ?_
   refine az ?_
   refine aq ?_
   have hX:bZ b (⟨idn,kind,0,aD,move,sum⟩:aW)=(b,(⟨e21,0⟩:Answer)):=by
     unfold bZ;dsimp only;rw [if_pos rfl];unfold ft;rw [hx1];dsimp only;unfold dD at hr1;simp only [if_true] at hr1;(try simp only [hr0]);(try unfold dL);(repeat' split)<;>first|rfl|omega|(exfalso;omega)|(simp_all;done)|(simp_all;omega)
   rw [hX] at hr;clear hX
   simp only [Prod.mk.injEq] at hr;obtain ⟨rfl,rfl⟩:=hr
   refine an aa [0,17,18,19,20,5] 5 rfl rfl rfl rfl rfl rfl ?_ ?_
   all_goals first|rfl|(simp [ay,aY,bf];done)|(simp [ay,aY,bf];omega)
  have hc4':=hc4;try simp only [bu,bU] at hc4'
  refine aQ ?_
  rcases (show e21=0\/¬e21=0 from by omega) with hs6|hs6
  ·
   refine aH aa 2 rfl ?_
   refine aN 21 [0,17,18,19,20,16,6,5] (cL (bd [0,7,8,9,10,11,12,13,14,15]) (bd [0,17,18,19,20]) (fz (x 17) (x 19) b (⟨b.time,b.down,b.aw,b.due,b.ax,b.s0,b.s1,b.n0,b.n1,(b.w0).drop 1,b.w1,b.bP,b.aR,b.book⟩:Bk) e21 (by first|assumption|omega)) fW rfl rfl ⟨⟨_,rfl,.inl ⟨rfl,rfl⟩⟩,⟨_,rfl,.inl ⟨rfl,rfl⟩⟩,trivial⟩ ⟨rfl,rfl,rfl,rfl,rfl,rfl,rfl,rfl,rfl,rfl,trivial⟩ rfl rfl rfl rfl rfl rfl trivial ⟨⟨trivial,trivial,trivial,trivial,trivial,trivial,trivial,trivial,trivial,trivial,trivial,trivial,trivial,trivial,trivial,trivial,trivial,trivial,trivial,trivial,trivial⟩,(fun _ _ _ _=>trivial),(fun _ _ _ _=>trivial),(fun _ _ _ _=>trivial),(fun _ _ _ _=>trivial),trivial⟩ rfl rfl rfl rfl) rfl ?_
   refine ad aa 2 rfl ?_
   refine af ?_
   refine az ?_
   refine aq ?_
   have hX:bZ b (⟨idn,kind,0,aD,move,sum⟩:aW)=((⟨b.time,b.down,b.aw,b.due,b.ax,b.s0,b.s1,b.n0,b.n1,(b.w0).drop 1,b.w1,b.bP,b.aR,b.book⟩:Bk),(⟨e21,0⟩:Answer)):=by
     unfold bZ;dsimp only;rw [if_pos rfl];unfold ft;rw [hx1];dsimp only;unfold dD at hr1;simp only [if_true] at hr1;(try simp only [hr0]);(try unfold dL);(repeat' split)<;>first|rfl|omega|(exfalso;omega)|(simp_all;done)|(simp_all;omega)
   rw [hX] at hr;clear hX
   simp only [Prod.mk.injEq] at hr;obtain ⟨rfl,rfl⟩:=hr
   refine an aa [0,17,18,19,20,5] 5 rfl rfl rfl rfl rfl rfl ?_ ?_
   all_goals first|rfl|(simp [ay,aY,bf];done)|(simp [ay,aY,bf];omega)
  refine aH aa 2 rfl ?_
  refine aN 21 [0,17,18,19,20,16,6,5] (cL (bd [0,7,8,9,10,11,12,13,14,15]) (bd [0,17,18,19,20]) (gu (x 17) (x 19) b (⟨b.time,b.down,b.aw,b.due,b.ax,b.s0,b.s1,b.n0,b.n1,(b.w0).drop 1,b.w1,b.bP,b.aR,b.book⟩:Bk) e21 (by first|assumption|omega)) fW rfl rfl ⟨⟨_,rfl,.inl ⟨rfl,rfl⟩⟩,⟨_,rfl,.inl ⟨rfl,rfl⟩⟩,trivial⟩ ⟨rfl,rfl,rfl,rfl,rfl,rfl,rfl,rfl,rfl,rfl,trivial⟩ rfl rfl rfl rfl rfl rfl trivial ⟨⟨trivial,trivial,trivial,trivial,trivial,trivial,trivial,trivial,trivial,trivial,trivial,trivial,trivial,trivial,trivial,trivial,trivial,trivial,trivial,trivial,trivial⟩,(fun _ _ _ _=>trivial),(fun _ _ _ _=>trivial),(fun _ _ _ _=>trivial),(fun _ _ _ _=>trivial),trivial⟩ rfl rfl rfl rfl) rfl ?_
  refine ad aa 2 rfl ?_
  refine af ?_
  refine az ?_
  refine aq ?_
  have hX:bZ b (⟨idn,kind,0,aD,move,sum⟩:aW)=(b,(⟨e21,0⟩:Answer)):=by
    unfold bZ;dsimp only;rw [if_pos rfl];unfold ft;rw [hx1];dsimp only;unfold dD at hr1;simp only [if_true] at hr1;(try simp only [hr0]);(try unfold dL);(repeat' split)<;>first|rfl|omega|(exfalso;omega)|(simp_all;done)|(simp_all;omega)
  rw [hX] at hr;clear hX
  simp only [Prod.mk.injEq] at hr;obtain ⟨rfl,rfl⟩:=hr
  refine an aa [0,17,18,19,20,5] 5 rfl rfl rfl rfl rfl rfl ?_ ?_
  all_goals first|rfl|(simp [ay,aY,bf];done)|(simp [ay,aY,bf];omega)
 have hc3':=of_decide_eq_false hc3
 refine aQ ?_
 refine ag ?_
 obtain ⟨n2,ok2,hr2⟩:∃ (n2:Int) (ok2:Bool),fJ b.n0 x1.cD=(n2,ok2):=⟨_,_,rfl⟩
 refine ba [0,1,4,5,6] [0,7,8,9,10,11,12,13,14,15,6,5] mixed rfl rfl ?_
 refine aE (kn:=[]) aa 8 rfl trivial ?_
 refine aU (n':=16) [126,123] [7] rfl rfl (.inl ⟨(ak.plain rfl),aM.cast (dv (i:=0) rfl rfl rfl Try.underlying36 fX rfl (by decide)) rfl⟩) rfl ?_
 refine aE (kn:=[]) aa 3 rfl trivial ?_
 refine aU (n':=16) [128,130] [] rfl rfl (.inl ⟨(ak.plain rfl),aM.cast (bQ 16 (qR b.n0 x1.cD n2 ok2 hr2) GH rfl rfl ⟨⟨_,rfl,.c (.d _)⟩,⟨_,rfl,.g ⟨.d _,.d _,.d _,.d _,trivial⟩⟩,trivial⟩ ⟨trivial,trivial,trivial⟩ trivial rfl rfl rfl rfl) rfl⟩) rfl ?_
 refine aE (kn:=[]) aa 5 rfl trivial ?_
 refine bC [0,7,8,9,10,11,12,13,14,15,6,5] rfl rfl rfl rfl (by kernel_rfl) ?_
 refine af ?_
 refine ag ?_
 refine ba [0,1,4,5,6,9,10] [0,7,8,9,10,11,12,13,14,15,6,5] mixed rfl rfl ?_
 refine aE (kn:=[]) aa 9 rfl trivial ?_
 refine aU (n':=16) [142,138] [7] rfl rfl (.inl ⟨(ak.plain rfl),aM.cast (dv (i:=0) rfl rfl rfl Try.underlying36 fX rfl (by decide)) rfl⟩) rfl ?_
 refine bC [0,7,8,9,10,11,12,13,14,15,6,5] rfl rfl rfl rfl (by kernel_rfl) ?_
 refine ad aa 1 rfl ?_
 refine af ?_
 refine ag ?_
 refine ae aa 1 rfl ?_
 refine ah rfl (fun hc7=>?_) (fun hc7=>?_)
 ·
  have hc7':=hc7;try simp only [bu,bU] at hc7'
  have hpk2:=hpk (by omega)
  refine au ?_
  refine ad aa 3 rfl ?_
  obtain ⟨due23,cards23,book23,e23,hr3⟩:∃ (due23:List Int) (cards23:List bE) (book23:List Entry) (e23:Int),ef b.ax b.due b.aw b.book 0 x1.cD=(due23,cards23,book23,e23):=⟨_,_,_,_,rfl⟩
  refine aN 19 [7,16,17,18,0,8,9,10,11,15,6,5] (cr (bd [7,12,13,14]) (bd [7,16,17,18]) (ms:=(((((dG.set 2 (some (.s 1 0 6 b.aw.length))).set 3 (some (.s 2 0 1 b.due.length))).set 4 (some (.s 3 0 8 b.ax.length))).set 18 (some (eb b.book))).set 19 (some (cI 0)))) (ms':=(((((dG.set 2 (some (.s 1 0 6 cards23.length))).set 3 (some (.s 2 0 1 due23.length))).set 4 (some (.s 3 0 8 b.ax.length))).set 18 (some (eb book23))).set 19 (some (cI e23)))) (fun x hx=>BU x hx b.ax b.due b.aw b.book 0 x1.cD (by first|omega|(simp;done)|(simp;omega)) (by assumption) (by first|omega|(simp;done)|(simp;omega)) (by first|omega|(simp;done)|(simp;omega)) due23 cards23 book23 e23 hr3) GG rfl rfl ⟨⟨_,rfl,.inl ⟨rfl,rfl⟩⟩,⟨_,rfl,.inr (.g ⟨.d _,.d _,.d _,.d _,trivial⟩)⟩,trivial⟩ rfl rfl rfl rfl rfl rfl rfl ⟨rfl,rfl,rfl,trivial⟩ rfl rfl rfl rfl rfl rfl rfl rfl rfl rfl rfl rfl rfl) rfl ?_
  refine af ?_
  rcases (show e23=0\/¬e23=0 from by omega) with hs8|hs8
  ·
   refine aH aa 2 rfl ?_
   refine aN 23 [0,19,20,21,22,6,5] (cL (bd [0,7,8,9,10,11,16,17,18,15]) (bd [0,19,20,21,22]) (fz (x 17) (x 19) b (⟨b.time,b.down,cards23,due23,b.ax,b.s0,b.s1,n2,b.n1,(b.w0).drop 1,b.w1,b.bP,b.aR,book23⟩:Bk) e23 (by first|assumption|omega)) fW rfl rfl ⟨⟨_,rfl,.inl ⟨rfl,rfl⟩⟩,⟨_,rfl,.inl ⟨rfl,rfl⟩⟩,trivial⟩ ⟨rfl,rfl,rfl,rfl,rfl,rfl,rfl,rfl,rfl,rfl,trivial⟩ rfl rfl rfl rfl rfl rfl trivial ⟨⟨trivial,trivial,trivial,trivial,trivial,trivial,trivial,trivial,trivial,trivial,trivial,trivial,trivial,trivial,trivial,trivial,trivial,trivial,trivial,trivial,trivial⟩,(fun _ _ _ _=>trivial),(fun _ _ _ _=>trivial),(fun _ _ _ _=>trivial),(fun _ _ _ _=>trivial),trivial⟩ rfl rfl rfl rfl) rfl ?_
   refine ad aa 2 rfl ?_
   refine af ?_
   refine az ?_
   have hX:bZ b (⟨idn,kind,0,aD,move,sum⟩:aW)=((⟨b.time,b.down,cards23,due23,b.ax,b.s0,b.s1,n2,b.n1,(b.w0).drop 1,b.w1,b.bP,b.aR,book23⟩:Bk),(⟨e23,0⟩:Answer)):=by
     unfold bZ;dsimp only;rw [if_pos rfl];unfold ft;rw [hx1];dsimp only;(try simp only [hr2,hr3]);(try unfold dL);(repeat' split)<;>first|rfl|omega|(exfalso;omega)|(simp_all;done)|(simp_all;omega)
   rw [hX] at hr;clear hX
   simp only [Prod.mk.injEq] at hr;obtain ⟨rfl,rfl⟩:=hr
   refine an aa [0,19,20,21,22,5] 5 rfl rfl rfl rfl rfl rfl ?_ ?_
   all_goals first|rfl|(simp [ay,aY,bf];done)|(simp [ay,aY,bf];omega)
  refine aH aa 2 rfl ?_
  refine aN 23 [0,19,20,21,22,6,5] (cL (bd [0,7,8,9,10,11,16,17,18,15]) (bd [0,19,20,21,22]) (gu (x 17) (x 19) b (⟨b.time,b.down,cards23,due23,b.ax,b.s0,b.s1,n2,b.n1,(b.w0).drop 1,b.w1,b.bP,b.aR,book23⟩:Bk) e23 (by first|assumption|omega)) fW rfl rfl ⟨⟨_,rfl,.inl ⟨rfl,rfl⟩⟩,⟨_,rfl,.inl ⟨rfl,rfl⟩⟩,trivial⟩ ⟨rfl,rfl,rfl,rfl,rfl,rfl,rfl,rfl,rfl,rfl,trivial⟩ rfl rfl rfl rfl rfl rfl trivial ⟨⟨trivial,trivial,trivial,trivial,trivial,trivial,trivial,trivial,trivial,trivial,trivial,trivial,trivial,trivial,trivial,trivial,trivial,trivial,trivial,trivial,trivial⟩,(fun _ _ _ _=>trivial),(fun _ _ _ _=>trivial),(fun _ _ _ _=>trivial),(fun _ _ _ _=>trivial),trivial⟩ rfl rfl rfl rfl) rfl ?_
  refine ad aa 2 rfl ?_
  refine af ?_
  refine az ?_
  have hX:bZ b (⟨idn,kind,0,aD,move,sum⟩:aW)=(b,(⟨e23,0⟩:Answer)):=by
    unfold bZ;dsimp only;rw [if_pos rfl];unfold ft;rw [hx1];dsimp only;(try simp only [hr2,hr3]);(try unfold dL);(repeat' split)<;>first|rfl|omega|(exfalso;omega)|(simp_all;done)|(simp_all;omega)
  rw [hX] at hr;clear hX
  simp only [Prod.mk.injEq] at hr;obtain ⟨rfl,rfl⟩:=hr
  refine an aa [0,19,20,21,22,5] 5 rfl rfl rfl rfl rfl rfl ?_ ?_
  all_goals first|rfl|(simp [ay,aY,bf];done)|(simp [ay,aY,bf];omega)
 have hc7':=hc7;try simp only [bu,bU] at hc7'
 refine aQ ?_
 refine aH aa 2 rfl ?_
 refine aN 20 [0,16,17,18,19,6,5] (cL (bd [0,7,8,9,10,11,12,13,14,15]) (bd [0,16,17,18,19]) (fz (x 17) (x 19) b (⟨b.time,b.down,b.aw,b.due,b.ax,b.s0,b.s1,n2,b.n1,(b.w0).drop 1,b.w1,b.bP,b.aR,b.book⟩:Bk) 0 (by first|assumption|omega)) fW rfl rfl ⟨⟨_,rfl,.inl ⟨rfl,rfl⟩⟩,⟨_,rfl,.inl ⟨rfl,rfl⟩⟩,trivial⟩ ⟨rfl,rfl,rfl,rfl,rfl,rfl,rfl,rfl,rfl,rfl,trivial⟩ rfl rfl rfl rfl rfl rfl trivial ⟨⟨trivial,trivial,trivial,trivial,trivial,trivial,trivial,trivial,trivial,trivial,trivial,trivial,trivial,trivial,trivial,trivial,trivial,trivial,trivial,trivial,trivial⟩,(fun _ _ _ _=>trivial),(fun _ _ _ _=>trivial),(fun _ _ _ _=>trivial),(fun _ _ _ _=>trivial),trivial⟩ rfl rfl rfl rfl) rfl ?_
 refine ad aa 2 rfl ?_
 refine af ?_
 refine az ?_
 have hX:bZ b (⟨idn,kind,0,aD,move,sum⟩:aW)=((⟨b.time,b.down,b.aw,b.due,b.ax,b.s0,b.s1,n2,b.n1,(b.w0).drop 1,b.w1,b.bP,b.aR,b.book⟩:Bk),(⟨0,0⟩:Answer)):=by
   unfold bZ;dsimp only;rw [if_pos rfl];unfold ft;rw [hx1];dsimp only;(try simp only [hr2]);(try unfold dL);(repeat' split)<;>first|rfl|omega|(exfalso;omega)|(simp_all;done)|(simp_all;omega)
 rw [hX] at hr;clear hX
 simp only [Prod.mk.injEq] at hr;obtain ⟨rfl,rfl⟩:=hr
 refine an aa [0,16,17,18,19,5] 5 rfl rfl rfl rfl rfl rfl ?_ ?_
 all_goals first|rfl|(simp [ay,aY,bf];done)|(simp [ay,aY,bf];omega)
theorem Cd (x:Nat->Value) (hx:∀ i,(x i).oneCell'=true) (b:Bk) (idn kind aD move sum:Int) (ok:cv b) (b2:Bk) (a2:Answer) (hr:bZ b (⟨idn,kind,1,aD,move,sum⟩:aW)=(b2,a2)):cJ Try.prog 67 [(.c (.p 0 0 0 0)),(.c (.q (cQ (⟨idn,kind,1,aD,move,sum⟩:aW)) 0))] [(0,(.box 98 (aY b 1 2 3 4 (.d (.v (x 17))) (.d (.v (x 19)))))),(1,(dW b.aw)),(2,(dP b.due)),(3,(ed b.ax)),(4,(cS b.aR))] [0] (.v (.g [cI a2.err,cI a2.bc])) [(0,(.box 98 (aY b2 1 2 3 4 (.d (.v (x 17))) (.d (.v (x 19)))))),(1,(dW b2.aw)),(2,(dP b2.due)),(3,(ed b2.ax)),(4,(cS b2.aR))]:=by
 refine cJ.mk 153 [(0,(aC (.p 0 0 0 0))),(1,(aC (.q (cQ (⟨idn,kind,1,aD,move,sum⟩:aW)) 0)))] 5 Try.func67 rfl rfl rfl rfl rfl rfl rfl rfl rfl ?_
 intro W0 F0 T0 pg
 obtain ⟨okt,okc,okd,oka,oky,okw0,okw1,okp,okv,okk0,okk1,okg,okl0,okl1,okp0,okp1,okn0,okn1,okq⟩:=id ok
 refine ae aa 1 rfl ?_
 refine ag ?_
 refine ag ?_
 refine ba [0,1,4] [5,0,1,2,3,4] mixed rfl rfl ?_
 refine aE (kn:=[(15,true),(21,false)]) aa 21 rfl ⟨rfl,rfl,trivial⟩ ?_
 refine aU (n':=6) [31,28,23] [0] rfl rfl (.inl ⟨(ak.yes rfl rfl rfl),aM.cast (dv (i:=1) rfl rfl rfl Try.underlying38 lE rfl (by decide)) rfl⟩) rfl ?_
 refine aE (kn:=[]) aa 1 rfl trivial ?_
 refine aU (n':=6) [33,23] [] rfl rfl (.inl ⟨(ak.yes rfl rfl rfl),aM.cast (cM rfl rfl rfl rfl rfl Try.underlying37) rfl⟩) rfl ?_
 refine aE (kn:=[]) aa 2 rfl trivial ?_
 refine bC [5,0,1,2,3,4] rfl rfl rfl rfl (by kernel_rfl) ?_
 refine af ?_
 refine ah rfl (fun hc1=>?_) (fun hc1=>?_)
 ·
  have hc1':=of_decide_eq_true hc1
  refine ae aa 2 rfl ?_
  refine az ?_
  refine aq ?_
  have hX:bZ b (⟨idn,kind,1,aD,move,sum⟩:aW)=(b,(⟨6,0⟩:Answer)):=by
    unfold bZ;dsimp only;rw [if_neg (by decide),if_pos rfl];unfold fr;rw [List.getElem?_eq_none (by omega)]
  rw [hX] at hr;clear hX
  simp only [Prod.mk.injEq] at hr;obtain ⟨rfl,rfl⟩:=hr
  refine an aa [0,1,2,3,4,5] 5 rfl rfl rfl rfl rfl rfl ?_ ?_
  all_goals first|rfl|(simp [ay,aY,bf];done)|(simp [ay,aY,bf];omega)
 have hc1':=of_decide_eq_false hc1
 refine aQ ?_
 refine ag ?_
 obtain ⟨x1,hx1⟩:=ck (xs:=b.w1) (i:=0) (by first|omega|(simp;done)|(simp;omega))
 refine ba [0,1,4] [5,0,1,2,3,4] mixed rfl rfl ?_
 refine aE (kn:=[]) aa 8 rfl trivial ?_
 refine aU (n':=6) [45,42] [0] rfl rfl (.inl ⟨(ak.plain rfl),aM.cast (dv (i:=1) rfl rfl rfl Try.underlying38 lE rfl (by decide)) rfl⟩) rfl ?_
 refine aE (kn:=[]) aa 1 rfl trivial ?_
 refine aU (n':=6) [47] [] rfl rfl (.inl ⟨(ak.plain rfl),aM.cast (cH (i:=0) rfl rfl rfl Try.underlying37 vE (by first|omega|(simp;done)|(simp;omega)) (bw hx1)) rfl⟩) rfl ?_
 refine aE (n':=7) (kn:=[]) aa 2 rfl trivial ?_
 refine bC [6,5,0,1,2,3,4] rfl rfl rfl rfl (by kernel_rfl) ?_
 refine ad aa 1 rfl ?_
 refine af ?_
 have hpk:=okp1 x1 (List.mem_of_getElem? hx1)
 have hI0:∀ t∈b.s0.kept,gi t.number:=fun t ht=>(okk0 t ht).1
 have hI1:∀ t∈b.s1.kept,gi t.number:=fun t ht=>(okk1 t ht).1
 have hA:∀ a∈b.ax,0<=a.aO/\a.aO < b.aw.length/\0<=a.aD/\a.aD < b.due.length:=fun a ha=>(okp a ha).2
 refine aH aa 1 rfl ?_
 refine aN 16 [0,7,8,9,10,11,12,13,14,15,6,5] (cL id (bd [0,7,8,9,10,11,12,13,14,15]) (kW (x 17) (x 19) b (by first|omega|(simp;done)|(simp;omega)) (by first|omega|(simp;done)|(simp;omega)) (by first|omega|(simp;done)|(simp;omega)) (by first|omega|(simp;done)|(simp;omega))) rL rfl rfl ⟨⟨_,rfl,.inl ⟨rfl,rfl⟩⟩,trivial⟩ ⟨rfl,rfl,rfl,rfl,rfl,trivial⟩ rfl rfl rfl rfl rfl rfl trivial ⟨⟨trivial,trivial,trivial,trivial,trivial,trivial,trivial,trivial,trivial,trivial,trivial,trivial,trivial,trivial,trivial,trivial,trivial,trivial,trivial,trivial,trivial⟩,⟨trivial,trivial,trivial,trivial,trivial,trivial,trivial,trivial,trivial,trivial,trivial,trivial,trivial,trivial,trivial,trivial,trivial,trivial,trivial,trivial,trivial⟩,(fun _ _ _ _=>trivial),(fun _ _ _ _=>trivial),(fun _ _ _ _=>trivial),(fun _ _ _ _=>trivial),(fun _ _ _ _=>trivial),(fun _ _ _ _=>trivial),(fun _ _ _ _=>trivial),(fun _ _ _ _=>trivial),trivial⟩ rfl rfl rfl rfl) rfl ?_
 refine ad aa 1 rfl ?_
 refine af ?_
 refine ag ?_
 refine ba [0,1,4,5,6] [0,7,8,9,10,11,12,13,14,15,6,5] mixed rfl rfl ?_
 refine aE (kn:=[]) aa 13 rfl trivial ?_
 refine aU (n':=16) [64,61] [0] rfl rfl (.inl ⟨(ak.plain rfl),aM.cast (dv (i:=1) rfl rfl rfl Try.underlying38 lE rfl (by decide)) rfl⟩) rfl ?_
 refine aE (kn:=[]) aa 1 rfl trivial ?_
 refine aU (n':=16) [66] [] rfl rfl (.inl ⟨(ak.plain rfl),aM.cast (kT (l:=1) (h:=b.w1.length) (ys:=((b.w1).drop 1).map fC) rfl Try.underlying37 vE rfl (.inr ⟨_,rfl,rfl⟩) (.inl ⟨rfl,by simp⟩) (by first|omega|(simp;done)|(simp;omega)) (by first|omega|(simp;done)|(simp;omega)) (by first|(simp;done)|(rw [List.map_drop];exact List.take_of_length_le (by simp)))) rfl⟩) rfl ?_
 refine aE (kn:=[]) aa 3 rfl trivial ?_
 refine aU (n':=16) [70,56] [7] rfl rfl (.inl ⟨(ak.plain rfl),aM.cast (dv (i:=1) rfl rfl rfl Try.underlying38 lE rfl (by decide)) rfl⟩) rfl ?_
 refine bC [0,7,8,9,10,11,12,13,14,15,6,5] rfl rfl rfl rfl (by kernel_rfl) ?_
 refine ad aa 1 rfl ?_
 refine af ?_
 refine ag ?_
 refine ae aa 5 rfl ?_
 refine ah rfl (fun hc2=>?_) (fun hc2=>?_)
 ·
  have hc2':=of_decide_eq_true hc2
  refine aH aa 2 rfl ?_
  refine aN 20 [0,16,17,18,19,6,5] (cL (bd [0,7,8,9,10,11,12,13,14,15]) (bd [0,16,17,18,19]) (fz (x 17) (x 19) b (⟨b.time,b.down,b.aw,b.due,b.ax,b.s0,b.s1,b.n0,b.n1,b.w0,(b.w1).drop 1,b.bP,b.aR,b.book⟩:Bk) 0 (by first|assumption|omega)) fW rfl rfl ⟨⟨_,rfl,.inl ⟨rfl,rfl⟩⟩,⟨_,rfl,.inl ⟨rfl,rfl⟩⟩,trivial⟩ ⟨rfl,rfl,rfl,rfl,rfl,rfl,rfl,rfl,rfl,rfl,trivial⟩ rfl rfl rfl rfl rfl rfl trivial ⟨⟨trivial,trivial,trivial,trivial,trivial,trivial,trivial,trivial,trivial,trivial,trivial,trivial,trivial,trivial,trivial,trivial,trivial,trivial,trivial,trivial,trivial⟩,(fun _ _ _ _=>trivial),(fun _ _ _ _=>trivial),(fun _ _ _ _=>trivial),(fun _ _ _ _=>trivial),trivial⟩ rfl rfl rfl rfl) rfl ?_
  refine ad aa 2 rfl ?_
  refine af ?_
  refine az ?_
  refine aq ?_
  have hX:bZ b (⟨idn,kind,1,aD,move,sum⟩:aW)=((⟨b.time,b.down,b.aw,b.due,b.ax,b.s0,b.s1,b.n0,b.n1,b.w0,(b.w1).drop 1,b.bP,b.aR,b.book⟩:Bk),(⟨0,0⟩:Answer)):=by
    unfold bZ;dsimp only;rw [if_neg (by decide),if_pos rfl];unfold fr;rw [hx1];dsimp only;(try simp only [dL]);(try unfold dL);(repeat' split)<;>first|rfl|omega|(exfalso;omega)|(simp_all;done)|(simp_all;omega)
  rw [hX] at hr;clear hX
  simp only [Prod.mk.injEq] at hr;obtain ⟨rfl,rfl⟩:=hr
  refine an aa [0,16,17,18,19,5] 5 rfl rfl rfl rfl rfl rfl ?_ ?_
  all_goals first|rfl|(simp [ay,aY,bf];done)|(simp [ay,aY,bf];omega)
 have hc2':=of_decide_eq_false hc2
 refine aQ ?_
 refine ag ?_
 refine ae aa 3 rfl ?_
 refine ah rfl (fun hc3=>?_) (fun hc3=>?_)
 ·
  have hc3':=of_decide_eq_true hc3
  refine ag ?_
  obtain ⟨xr0,e0,hr0⟩:∃ (xr0:bX) (e0:Int),dT b.s1 x1.seen=(xr0,e0):=⟨_,_,rfl⟩
  refine dg [0,1,4,5,6] [0,7,8,9,10,11,12,13,14,15,6,5] mixed rfl rfl ?_
  refine ca (kn:=[]) aa 8 rfl trivial ?_
  refine cg (n':=16) [92,89] [7] rfl rfl (.inl ⟨(ak.plain rfl),aM.cast (dv (i:=1) rfl rfl rfl Try.underlying35 nd rfl (by decide)) rfl⟩) rfl ?_
  refine ca (kn:=[]) aa 3 rfl trivial ?_
  refine cg (n':=16) [94,96] [] rfl rfl (.inl ⟨(ak.plain rfl),aM.cast (bQ 16 (Fn.frozen (av':=(.t [(.g [(cI xr0.bL),(dn xr0.kept)]),(.c (cI e0))])) (qS b.s1 x1.seen (by first|assumption|exact kR (by assumption) (by omega)|exact jT (by assumption) (by assumption)|(simp [gi];done)) xr0 e0 hr0) ⟨⟨.inl ⟨_,rfl,rfl⟩,.inr ⟨_,_,_,_,_,rfl,rfl,rfl,by simp⟩,trivial⟩,.inl ⟨_,rfl,rfl⟩,trivial⟩) GI rfl rfl ⟨⟨_,rfl,.g ⟨.d _,.d _,trivial⟩⟩,⟨_,rfl,.c (.d _)⟩,trivial⟩ ⟨⟨trivial,trivial,trivial⟩,trivial,trivial⟩ trivial rfl rfl rfl rfl) rfl⟩) rfl ?_
  refine ca (n':=17) (kn:=[]) aa 6 rfl trivial ?_
  refine dX [0,1,4,5,6,7,8] [16,0,7,8,9,10,11,12,13,14,15,6,5] rfl rfl (by kernel_rfl) ?_
  refine then_ok ?_
  refine ag ?_
  refine aH aa 2 rfl ?_
  obtain ⟨e21,hr1⟩:∃ (e21:Int),dD 0 e0=e21:=⟨_,rfl⟩
  refine aN 17 [7,16,0,8,9,10,11,12,13,14,15,6,5] (cr (bd [7]) (bd [7]) (ms:=(dG.set 19 (some (cI 0)))) (ms':=(dG.set 19 (some (cI e21)))) (fun x hx=>kD x hx 0 e0 e21 hr1) ov rfl rfl ⟨⟨_,rfl,.inl ⟨rfl,rfl⟩⟩,⟨_,rfl,.inr (.c (.d _))⟩,trivial⟩ rfl rfl rfl rfl rfl rfl rfl trivial rfl rfl rfl rfl rfl rfl rfl rfl rfl rfl rfl rfl rfl) rfl ?_
  refine ad aa 1 rfl ?_
  refine af ?_
  refine ah rfl (fun hc4=>?_) (fun hc4=>?_)
  ·
   have hc4':=hc4;try simp only [bu,bU] at hc4'
   refine ba [0,1,4,5,6,7] [7,16,0,8,9,10,11,12,13,14,15,6,5] mixed rfl rfl ?_
   refine aE (kn:=[]) aa 9 rfl trivial ?_
   refine aU (n':=17) [112,108] [7] rfl rfl (.inl ⟨(ak.plain rfl),aM.cast (dv (i:=1) rfl rfl rfl Try.underlying35 nd rfl (by decide)) rfl⟩) rfl ?_
   refine bC [7,16,0,8,9,10,11,12,13,14,15,6,5] rfl rfl rfl rfl (by kernel_rfl) ?_
   refine ad aa 1 rfl ?_
   refine af ?_
   rcases (show e21=0\/¬e21=0 from by omega) with hs5|hs5
   ·
    refine aH aa 2 rfl ?_
    refine aN 21 [0,17,18,19,20,16,6,5] (cL (bd [0,7,8,9,10,11,12,13,14,15]) (bd [0,17,18,19,20]) (fz (x 17) (x 19) b (⟨b.time,b.down,b.aw,b.due,b.ax,b.s0,xr0,b.n0,b.n1,b.w0,(b.w1).drop 1,b.bP,b.aR,b.book⟩:Bk) e21 (by first|assumption|omega)) fW rfl rfl ⟨⟨_,rfl,.inl ⟨rfl,rfl⟩⟩,⟨_,rfl,.inl ⟨rfl,rfl⟩⟩,trivial⟩ ⟨rfl,rfl,rfl,rfl,rfl,rfl,rfl,rfl,rfl,rfl,trivial⟩ rfl rfl rfl rfl rfl rfl trivial ⟨⟨trivial,trivial,trivial,trivial,trivial,trivial,trivial,trivial,trivial,trivial,trivial,trivial,trivial,trivial,trivial,trivial,trivial,trivial,trivial,trivial,trivial⟩,(fun _ _ _ _=>trivial),(fun _ _ _ _=>trivial),(fun _ _ _ _=>trivial),(fun _ _ _ _=>trivial),trivial⟩ rfl rfl rfl rfl) rfl ?_
    refine ad aa 2 rfl ?_
    refine af ?_
    refine az ?_
    refine aq ?_
    have hX:bZ b (⟨idn,kind,1,aD,move,sum⟩:aW)=((⟨b.time,b.down,b.aw,b.due,b.ax,b.s0,xr0,b.n0,b.n1,b.w0,(b.w1).drop 1,b.bP,b.aR,b.book⟩:Bk),(⟨e21,0⟩:Answer)):=by
      unfold bZ;dsimp only;rw [if_neg (by decide),if_pos rfl];unfold fr;rw [hx1];dsimp only;unfold dD at hr1;simp only [if_true] at hr1;(try simp only [hr0]);(try unfold dL);(repeat' split)<;>first|rfl|omega|(exfalso;omega)|(simp_all;done)|(simp_all;omega)
    rw [hX] at hr;clear hX
    simp only [Prod.mk.injEq] at hr;obtain ⟨rfl,rfl⟩:=hr
    refine an aa [0,17,18,19,20,5] 5 rfl rfl rfl rfl rfl rfl ?_ ?_
    all_goals first|rfl|(simp [ay,aY,bf];done)|(simp [ay,aY,bf];omega)
   refine aH aa 2 rfl ?_
   refine aN 21 [0,17,18,19,20,16,6,5] (cL (bd [0,7,8,9,10,11,12,13,14,15]) (bd [0,17,18,19,20]) (gu (x 17) (x 19) b (⟨b.time,b.down,b.aw,b.due,b.ax,b.s0,xr0,b.n0,b.n1,b.w0,(b.w1).drop 1,b.bP,b.aR,b.book⟩:Bk) e21 (by first|assumption|omega)) fW rfl rfl ⟨⟨_,rfl,.inl ⟨rfl,rfl⟩⟩,⟨_,rfl,.inl ⟨rfl,rfl⟩⟩,trivial⟩ ⟨rfl,rfl,rfl,rfl,rfl,rfl,rfl,rfl,rfl,rfl,trivial⟩ rfl rfl rfl rfl rfl rfl trivial ⟨⟨trivial,trivial,trivial,trivial,trivial,trivial,trivial,trivial,trivial,trivial,trivial,trivial,trivial,trivial,trivial,trivial,trivial,trivial,trivial,trivial,trivial⟩,(fun _ _ _ _=>trivial),(fun _ _ _ _=>trivial),(fun _ _ _ _=>trivial),(fun _ _ _ _=>trivial),trivial⟩ rfl rfl rfl rfl) rfl ?_
   refine ad aa 2 rfl ?_
   refine af ?_
   refine az ?_
   refine aq ?_
   have hX:bZ b (⟨idn,kind,1,aD,move,sum⟩:aW)=(b,(⟨e21,0⟩:Answer)):=by
     unfold bZ;dsimp only;rw [if_neg (by decide),if_pos rfl];unfold fr;rw [hx1];dsimp only;unfold dD at hr1;simp only [if_true] at hr1;(try simp only [hr0]);(try unfold dL);(repeat' split)<;>first|rfl|omega|(exfalso;omega)|(simp_all;done)|(simp_all;omega)
   rw [hX] at hr;clear hX
   simp only [Prod.mk.injEq] at hr;obtain ⟨rfl,rfl⟩:=hr
   refine an aa [0,17,18,19,20,5] 5 rfl rfl rfl rfl rfl rfl ?_ ?_
   all_goals first|rfl|(simp [ay,aY,bf];done)|(simp [ay,aY,bf];omega)
  have hc4':=hc4;try simp only [bu,bU] at hc4'
  refine aQ ?_
  rcases (show e21=0\/¬e21=0 from by omega) with hs6|hs6
  ·
   refine aH aa 2 rfl ?_
   refine aN 21 [0,17,18,19,20,16,6,5] (cL (bd [0,7,8,9,10,11,12,13,14,15]) (bd [0,17,18,19,20]) (fz (x 17) (x 19) b (⟨b.time,b.down,b.aw,b.due,b.ax,b.s0,b.s1,b.n0,b.n1,b.w0,(b.w1).drop 1,b.bP,b.aR,b.book⟩:Bk) e21 (by first|assumption|omega)) fW rfl rfl ⟨⟨_,rfl,.inl ⟨rfl,rfl⟩⟩,⟨_,rfl,.inl ⟨rfl,rfl⟩⟩,trivial⟩ ⟨rfl,rfl,rfl,rfl,rfl,rfl,rfl,rfl,rfl,rfl,trivial⟩ rfl rfl rfl rfl rfl rfl trivial ⟨⟨trivial,trivial,trivial,trivial,trivial,trivial,trivial,trivial,trivial,trivial,trivial,trivial,trivial,trivial,trivial,trivial,trivial,trivial,trivial,trivial,trivial⟩,(fun _ _ _ _=>trivial),(fun _ _ _ _=>trivial),(fun _ _ _ _=>trivial),(fun _ _ _ _=>trivial),trivial⟩ rfl rfl rfl rfl) rfl ?_
   refine ad aa 2 rfl ?_
   refine af ?_
   refine az ?_
   refine aq ?_
   have hX:bZ b (⟨idn,kind,1,aD,move,sum⟩:aW)=((⟨b.time,b.down,b.aw,b.due,b.ax,b.s0,b.s1,b.n0,b.n1,b.w0,(b.w1).drop 1,b.bP,b.aR,b.book⟩:Bk),(⟨e21,0⟩:Answer)):=by
     unfold bZ;dsimp only;rw [if_neg (by decide),if_pos rfl];unfold fr;rw [hx1];dsimp only;unfold dD at hr1;simp only [if_true] at hr1;(try simp only [hr0]);(try unfold dL);(repeat' split)<;>first|rfl|omega|(exfalso;omega)|(simp_all;done)|(simp_all;omega)
   rw [hX] at hr;clear hX
   simp only [Prod.mk.injEq] at hr;obtain ⟨rfl,rfl⟩:=hr
   refine an aa [0,17,18,19,20,5] 5 rfl rfl rfl rfl rfl rfl ?_ ?_
   all_goals first|rfl|(simp [ay,aY,bf];done)|(simp [ay,aY,bf];omega)
  refine aH aa 2 rfl ?_
  refine aN 21 [0,17,18,19,20,16,6,5] (cL (bd [0,7,8,9,10,11,12,13,14,15]) (bd [0,17,18,19,20]) (gu (x 17) (x 19) b (⟨b.time,b.down,b.aw,b.due,b.ax,b.s0,b.s1,b.n0,b.n1,b.w0,(b.w1).drop 1,b.bP,b.aR,b.book⟩:Bk) e21 (by first|assumption|omega)) fW rfl rfl ⟨⟨_,rfl,.inl ⟨rfl,rfl⟩⟩,⟨_,rfl,.inl ⟨rfl,rfl⟩⟩,trivial⟩ ⟨rfl,rfl,rfl,rfl,rfl,rfl,rfl,rfl,rfl,rfl,trivial⟩ rfl rfl rfl rfl rfl rfl trivial ⟨⟨trivial,trivial,trivial,trivial,trivial,trivial,trivial,trivial,trivial,trivial,trivial,trivial,trivial,trivial,trivial,trivial,trivial,trivial,trivial,trivial,trivial⟩,(fun _ _ _ _=>trivial),(fun _ _ _ _=>trivial),(fun _ _ _ _=>trivial),(fun _ _ _ _=>trivial),trivial⟩ rfl rfl rfl rfl) rfl ?_
  refine ad aa 2 rfl ?_
  refine af ?_
  refine az ?_
  refine aq ?_
  have hX:bZ b (⟨idn,kind,1,aD,move,sum⟩:aW)=(b,(⟨e21,0⟩:Answer)):=by
    unfold bZ;dsimp only;rw [if_neg (by decide),if_pos rfl];unfold fr;rw [hx1];dsimp only;unfold dD at hr1;simp only [if_true] at hr1;(try simp only [hr0]);(try unfold dL);(repeat' split)<;>first|rfl|omega|(exfalso;omega)|(simp_all;done)|(simp_all;omega)
  rw [hX] at hr;clear hX
  simp only [Prod.mk.injEq] at hr;obtain ⟨rfl,rfl⟩:=hr
  refine an aa [0,17,18,19,20,5] 5 rfl rfl rfl rfl rfl rfl ?_ ?_
  all_goals first|rfl|(simp [ay,aY,bf];done)|(simp [ay,aY,bf];omega)
 have hc3':=of_decide_eq_false hc3
 refine aQ ?_
 refine ag ?_
 obtain ⟨n2,ok2,hr2⟩:∃ (n2:Int) (ok2:Bool),fJ b.n1 x1.cD=(n2,ok2):=⟨_,_,rfl⟩
 refine ba [0,1,4,5,6] [0,7,8,9,10,11,12,13,14,15,6,5] mixed rfl rfl ?_
 refine aE (kn:=[]) aa 8 rfl trivial ?_
 refine aU (n':=16) [126,123] [7] rfl rfl (.inl ⟨(ak.plain rfl),aM.cast (dv (i:=1) rfl rfl rfl Try.underlying36 fX rfl (by decide)) rfl⟩) rfl ?_
 refine aE (kn:=[]) aa 3 rfl trivial ?_
 refine aU (n':=16) [128,130] [] rfl rfl (.inl ⟨(ak.plain rfl),aM.cast (bQ 16 (qR b.n1 x1.cD n2 ok2 hr2) GH rfl rfl ⟨⟨_,rfl,.c (.d _)⟩,⟨_,rfl,.g ⟨.d _,.d _,.d _,.d _,trivial⟩⟩,trivial⟩ ⟨trivial,trivial,trivial⟩ trivial rfl rfl rfl rfl) rfl⟩) rfl ?_
 refine aE (kn:=[]) aa 5 rfl trivial ?_
 refine bC [0,7,8,9,10,11,12,13,14,15,6,5] rfl rfl rfl rfl (by kernel_rfl) ?_
 refine af ?_
 refine ag ?_
 refine ba [0,1,4,5,6,9,10] [0,7,8,9,10,11,12,13,14,15,6,5] mixed rfl rfl ?_
 refine aE (kn:=[]) aa 9 rfl trivial ?_
 refine aU (n':=16) [142,138] [7] rfl rfl (.inl ⟨(ak.plain rfl),aM.cast (dv (i:=1) rfl rfl rfl Try.underlying36 fX rfl (by decide)) rfl⟩) rfl ?_
 refine bC [0,7,8,9,10,11,12,13,14,15,6,5] rfl rfl rfl rfl (by kernel_rfl) ?_
 refine ad aa 1 rfl ?_
 refine af ?_
 refine ag ?_
 refine ae aa 1 rfl ?_
 refine ah rfl (fun hc7=>?_) (fun hc7=>?_)
 ·
  have hc7':=hc7;try simp only [bu,bU] at hc7'
  have hpk2:=hpk (by omega)
  refine au ?_
  refine ad aa 3 rfl ?_
  obtain ⟨due23,cards23,book23,e23,hr3⟩:∃ (due23:List Int) (cards23:List bE) (book23:List Entry) (e23:Int),ef b.ax b.due b.aw b.book 0 x1.cD=(due23,cards23,book23,e23):=⟨_,_,_,_,rfl⟩
  refine aN 19 [7,16,17,18,0,8,9,10,11,15,6,5] (cr (bd [7,12,13,14]) (bd [7,16,17,18]) (ms:=(((((dG.set 2 (some (.s 1 0 6 b.aw.length))).set 3 (some (.s 2 0 1 b.due.length))).set 4 (some (.s 3 0 8 b.ax.length))).set 18 (some (eb b.book))).set 19 (some (cI 0)))) (ms':=(((((dG.set 2 (some (.s 1 0 6 cards23.length))).set 3 (some (.s 2 0 1 due23.length))).set 4 (some (.s 3 0 8 b.ax.length))).set 18 (some (eb book23))).set 19 (some (cI e23)))) (fun x hx=>BU x hx b.ax b.due b.aw b.book 0 x1.cD (by first|omega|(simp;done)|(simp;omega)) (by assumption) (by first|omega|(simp;done)|(simp;omega)) (by first|omega|(simp;done)|(simp;omega)) due23 cards23 book23 e23 hr3) GG rfl rfl ⟨⟨_,rfl,.inl ⟨rfl,rfl⟩⟩,⟨_,rfl,.inr (.g ⟨.d _,.d _,.d _,.d _,trivial⟩)⟩,trivial⟩ rfl rfl rfl rfl rfl rfl rfl ⟨rfl,rfl,rfl,trivial⟩ rfl rfl rfl rfl rfl rfl rfl rfl rfl rfl rfl rfl rfl) rfl ?_
  refine af ?_
  rcases (show e23=0\/¬e23=0 from by omega) with hs8|hs8
  ·
   refine aH aa 2 rfl ?_
   refine aN 23 [0,19,20,21,22,6,5] (cL (bd [0,7,8,9,10,11,16,17,18,15]) (bd [0,19,20,21,22]) (fz (x 17) (x 19) b (⟨b.time,b.down,cards23,due23,b.ax,b.s0,b.s1,b.n0,n2,b.w0,(b.w1).drop 1,b.bP,b.aR,book23⟩:Bk) e23 (by first|assumption|omega)) fW rfl rfl ⟨⟨_,rfl,.inl ⟨rfl,rfl⟩⟩,⟨_,rfl,.inl ⟨rfl,rfl⟩⟩,trivial⟩ ⟨rfl,rfl,rfl,rfl,rfl,rfl,rfl,rfl,rfl,rfl,trivial⟩ rfl rfl rfl rfl rfl rfl trivial ⟨⟨trivial,trivial,trivial,trivial,trivial,trivial,trivial,trivial,trivial,trivial,trivial,trivial,trivial,trivial,trivial,trivial,trivial,trivial,trivial,trivial,trivial⟩,(fun _ _ _ _=>trivial),(fun _ _ _ _=>trivial),(fun _ _ _ _=>trivial),(fun _ _ _ _=>trivial),trivial⟩ rfl rfl rfl rfl) rfl ?_
   refine ad aa 2 rfl ?_
   refine af ?_
   refine az ?_
   have hX:bZ b (⟨idn,kind,1,aD,move,sum⟩:aW)=((⟨b.time,b.down,cards23,due23,b.ax,b.s0,b.s1,b.n0,n2,b.w0,(b.w1).drop 1,b.bP,b.aR,book23⟩:Bk),(⟨e23,0⟩:Answer)):=by
     unfold bZ;dsimp only;rw [if_neg (by decide),if_pos rfl];unfold fr;rw [hx1];dsimp only;(try simp only [hr2,hr3]);(try unfold dL);(repeat' split)<;>first|rfl|omega|(exfalso;omega)|(simp_all;done)|(simp_all;omega)
   rw [hX] at hr;clear hX
   simp only [Prod.mk.injEq] at hr;obtain ⟨rfl,rfl⟩:=hr
   refine an aa [0,19,20,21,22,5] 5 rfl rfl rfl rfl rfl rfl ?_ ?_
   all_goals first|rfl|(simp [ay,aY,bf];done)|(simp [ay,aY,bf];omega)
  refine aH aa 2 rfl ?_
  refine aN 23 [0,19,20,21,22,6,5] (cL (bd [0,7,8,9,10,11,16,17,18,15]) (bd [0,19,20,21,22]) (gu (x 17) (x 19) b (⟨b.time,b.down,cards23,due23,b.ax,b.s0,b.s1,b.n0,n2,b.w0,(b.w1).drop 1,b.bP,b.aR,book23⟩:Bk) e23 (by first|assumption|omega)) fW rfl rfl ⟨⟨_,rfl,.inl ⟨rfl,rfl⟩⟩,⟨_,rfl,.inl ⟨rfl,rfl⟩⟩,trivial⟩ ⟨rfl,rfl,rfl,rfl,rfl,rfl,rfl,rfl,rfl,rfl,trivial⟩ rfl rfl rfl rfl rfl rfl trivial ⟨⟨trivial,trivial,trivial,trivial,trivial,trivial,trivial,trivial,trivial,trivial,trivial,trivial,trivial,trivial,trivial,trivial,trivial,trivial,trivial,trivial,trivial⟩,(fun _ _ _ _=>trivial),(fun _ _ _ _=>trivial),(fun _ _ _ _=>trivial),(fun _ _ _ _=>trivial),trivial⟩ rfl rfl rfl rfl) rfl ?_
  refine ad aa 2 rfl ?_
  refine af ?_
  refine az ?_
  have hX:bZ b (⟨idn,kind,1,aD,move,sum⟩:aW)=(b,(⟨e23,0⟩:Answer)):=by
    unfold bZ;dsimp only;rw [if_neg (by decide),if_pos rfl];unfold fr;rw [hx1];dsimp only;(try simp only [hr2,hr3]);(try unfold dL);(repeat' split)<;>first|rfl|omega|(exfalso;omega)|(simp_all;done)|(simp_all;omega)
  rw [hX] at hr;clear hX
  simp only [Prod.mk.injEq] at hr;obtain ⟨rfl,rfl⟩:=hr
  refine an aa [0,19,20,21,22,5] 5 rfl rfl rfl rfl rfl rfl ?_ ?_
  all_goals first|rfl|(simp [ay,aY,bf];done)|(simp [ay,aY,bf];omega)
 have hc7':=hc7;try simp only [bu,bU] at hc7'
 refine aQ ?_
 refine aH aa 2 rfl ?_
 refine aN 20 [0,16,17,18,19,6,5] (cL (bd [0,7,8,9,10,11,12,13,14,15]) (bd [0,16,17,18,19]) (fz (x 17) (x 19) b (⟨b.time,b.down,b.aw,b.due,b.ax,b.s0,b.s1,b.n0,n2,b.w0,(b.w1).drop 1,b.bP,b.aR,b.book⟩:Bk) 0 (by first|assumption|omega)) fW rfl rfl ⟨⟨_,rfl,.inl ⟨rfl,rfl⟩⟩,⟨_,rfl,.inl ⟨rfl,rfl⟩⟩,trivial⟩ ⟨rfl,rfl,rfl,rfl,rfl,rfl,rfl,rfl,rfl,rfl,trivial⟩ rfl rfl rfl rfl rfl rfl trivial ⟨⟨trivial,trivial,trivial,trivial,trivial,trivial,trivial,trivial,trivial,trivial,trivial,trivial,trivial,trivial,trivial,trivial,trivial,trivial,trivial,trivial,trivial⟩,(fun _ _ _ _=>trivial),(fun _ _ _ _=>trivial),(fun _ _ _ _=>trivial),(fun _ _ _ _=>trivial),trivial⟩ rfl rfl rfl rfl) rfl ?_
 refine ad aa 2 rfl ?_
 refine af ?_
 refine az ?_
 have hX:bZ b (⟨idn,kind,1,aD,move,sum⟩:aW)=((⟨b.time,b.down,b.aw,b.due,b.ax,b.s0,b.s1,b.n0,n2,b.w0,(b.w1).drop 1,b.bP,b.aR,b.book⟩:Bk),(⟨0,0⟩:Answer)):=by
   unfold bZ;dsimp only;rw [if_neg (by decide),if_pos rfl];unfold fr;rw [hx1];dsimp only;(try simp only [hr2]);(try unfold dL);(repeat' split)<;>first|rfl|omega|(exfalso;omega)|(simp_all;done)|(simp_all;omega)
 rw [hX] at hr;clear hX
 simp only [Prod.mk.injEq] at hr;obtain ⟨rfl,rfl⟩:=hr
 refine an aa [0,16,17,18,19,5] 5 rfl rfl rfl rfl rfl rfl ?_ ?_
 all_goals first|rfl|(simp [ay,aY,bf];done)|(simp [ay,aY,bf];omega)
theorem Cc (x:Nat->Value) (hx:∀ i,(x i).oneCell'=true) (b:Bk) (d:aW) (ok:cv b) (hn:¬d.n=0/\¬d.n=1) (b2:Bk) (a2:Answer) (hr:bZ b d=(b2,a2)):cJ Try.prog 67 [(.c (.p 0 0 0 0)),(.c (.q (cQ d) 0))] [(0,(.box 98 (aY b 1 2 3 4 (.d (.v (x 17))) (.d (.v (x 19)))))),(1,(dW b.aw)),(2,(dP b.due)),(3,(ed b.ax)),(4,(cS b.aR))] [0] (.v (.g [cI a2.err,cI a2.bc])) [(0,(.box 98 (aY b2 1 2 3 4 (.d (.v (x 17))) (.d (.v (x 19)))))),(1,(dW b2.aw)),(2,(dP b2.due)),(3,(ed b2.ax)),(4,(cS b2.aR))]:=by
 refine cJ.mk 153 [(0,(aC (.p 0 0 0 0))),(1,(aC (.q (cQ d) 0)))] 5 Try.func67 rfl rfl rfl rfl rfl rfl rfl rfl rfl ?_
 intro W0 F0 T0 pg
 obtain ⟨okt,okc,okd,oka,oky,okw0,okw1,okp,okv,okk0,okk1,okg,okl0,okl1,okp0,okp1,okn0,okn1,okq⟩:=id ok
 refine ae aa 1 rfl ?_
 refine ag ?_
 refine ag ?_
 rcases Bool.eq_false_or_eq_true (decide (¬d.n=0)) with hb1|hb1
 ·
  have hb1':=of_decide_eq_true hb1
  rcases Bool.eq_false_or_eq_true (decide (¬d.n=1)) with hb2|hb2
  ·
   have hb2':=of_decide_eq_true hb2
   refine ba [0,1,4] [5,0,1,2,3,4] mixed rfl rfl ?_
   refine aE (kn:=[(15,true),(21,true)]) aa 26 rfl ⟨hb1,hb2,trivial⟩ ?_
   refine bC [5,0,1,2,3,4] rfl rfl rfl rfl (by kernel_rfl) ?_
   refine af ?_
   refine ah rfl (fun _=>?_) (fun hno=>by cases hno)
   refine ae aa 2 rfl ?_
   refine az ?_
   refine aq ?_
   have hX:bZ b d=(b,(⟨6,0⟩:Answer)):=by
     unfold bZ;rw [if_neg hn.1,if_neg hn.2]
   rw [hX] at hr;clear hX
   simp only [Prod.mk.injEq] at hr;obtain ⟨rfl,rfl⟩:=hr
   refine an aa [0,1,2,3,4,5] 5 rfl rfl rfl rfl rfl rfl ?_ ?_
   all_goals first|rfl|(simp [ay,aY,bf];done)|(simp [ay,aY,bf];omega)
  have hb2':=of_decide_eq_false hb2
  (exfalso;simp_all;done)
 have hb1':=of_decide_eq_false hb1
 (exfalso;simp_all;done)

theorem xx (x:Nat->Value) (hx:∀ i,(x i).oneCell'=true) (b:Bk) (d:aW) (ok:cv b) (b2:Bk) (a2:Answer) (hr:bZ b d=(b2,a2)):cJ Try.prog 67 [(.c (.p 0 0 0 0)),(.c (.q (cQ d) 0))] [(0,(.box 98 (aY b 1 2 3 4 (.d (.v (x 17))) (.d (.v (x 19)))))),(1,(dW b.aw)),(2,(dP b.due)),(3,(ed b.ax)),(4,(cS b.aR))] [0] (.v (.g [cI a2.err,cI a2.bc])) [(0,(.box 98 (aY b2 1 2 3 4 (.d (.v (x 17))) (.d (.v (x 19)))))),(1,(dW b2.aw)),(2,(dP b2.due)),(3,(ed b2.ax)),(4,(cS b2.aR))]:=by
  obtain ⟨idn,kind,n,aD,move,sum⟩:=d
  by_cases h0:n=0
  ·subst h0;exact Ce x hx b idn kind aD move sum ok b2 a2 hr
  by_cases h1:n=1
  ·subst h1;exact Cd x hx b idn kind aD move sum ok b2 a2 hr
  ·exact Cc x hx b _ ok ⟨h0,h1⟩ b2 a2 hr
theorem Fz (x:Nat->Value) (hx:∀ i,(x i).oneCell'=true) (s0 s1:bX) (n0 n1:Int) (w0 w1:List cf) (d:aW) (l0:w0.length<=60) (l1:w1.length<=60) (m0:s0.kept.length<=40) (m1:s1.kept.length<=40) (v0 v1:List cf) (a2:Answer) (hr:eL s0 s1 n0 n1 w0 w1 d=(v0,v1,a2)):cJ Try.prog 66 [(.c (.p 0 0 0 0)),(.c (.q (cQ d) 0))] [(0,(.box 98 (((((((((bf x).set 5 (cI s0.bL)).set 6 (dn s0.kept)).set 7 (cI s1.bL)).set 8 (dn s1.kept)).set 9 (cI n0)).set 10 (cI n1)).set 11 (eD w0)).set 12 (eD w1))))] [0] (.v (.g [cI a2.err,cI a2.bc])) [(0,(.box 98 (((((((((bf x).set 5 (cI s0.bL)).set 6 (dn s0.kept)).set 7 (cI s1.bL)).set 8 (dn s1.kept)).set 9 (cI n0)).set 10 (cI n1)).set 11 (eD v0)).set 12 (eD v1))))]:=by
  obtain ⟨idn,kind,n,aD,move,sum⟩:=d
  by_cases h0:n=0
  ·subst h0;exact DX x hx s0 s1 n0 n1 w0 w1 idn kind aD move sum l0 l1 m0 m1 v0 v1 a2 hr
  by_cases h1:n=1
  ·subst h1;exact DW x hx s0 s1 n0 n1 w0 w1 idn kind aD move sum l0 l1 m0 m1 v0 v1 a2 hr
  ·exact DV x hx s0 s1 n0 n1 w0 w1 _ l0 l1 m0 m1 ⟨h0,h1⟩ v0 v1 a2 hr

theorem Hg (x:Nat->Value) (hx:∀ i,(x i).oneCell'=true) (b:Bk) (d:aW) (ok:cv b) (b2:Bk) (a2:Answer) (hr:fT b d=(b2,a2)):cJ Try.prog 62 [(.c (.p 0 0 0 0)),(.c (.q (cQ d) 0))] [(0,(.box 98 (aY b 1 2 3 4 (.d (.v (x 17))) (.d (.v (x 19)))))),(1,(dW b.aw)),(2,(dP b.due)),(3,(ed b.ax)),(4,(cS b.aR))] [0] (.v (.g [cI a2.err,cI a2.bc])) [(0,(.box 98 (aY b2 1 2 3 4 (.d (.v (x 17))) (.d (.v (x 19)))))),(1,(dW b2.aw)),(2,(dP b2.due)),(3,(ed b2.ax)),(4,(cS b2.aR))]:=by
 refine cJ.mk 65 [(0,(aC (.p 0 0 0 0))),(1,(aC (.q (cQ d) 0)))] 5 Try.func62 rfl rfl rfl rfl rfl rfl rfl rfl rfl ?_
 intro W0 F0 T0 pg
 obtain ⟨okt,okc,okd,oka,oky,okw0,okw1,okp,okv,okk0,okk1,okg,okl0,okl1,okp0,okp1,okn0,okn1,okq⟩:=id ok
 refine ae aa 1 rfl ?_
 refine ag ?_
 refine ag ?_
 rcases Bool.eq_false_or_eq_true (decide (d.n < 0)) with hb1|hb1
 ·
  have hb1':=of_decide_eq_true hb1
  refine ba [0,1,4] [5,0,1,2,3,4] mixed rfl rfl ?_
  refine aE (kn:=[(10,true)]) aa 18 rfl ⟨hb1,trivial⟩ ?_
  refine bC [5,0,1,2,3,4] rfl rfl rfl rfl (by kernel_rfl) ?_
  refine af ?_
  refine ah rfl (fun _=>?_) (fun hno=>by cases hno)
  refine ae aa 2 rfl ?_
  refine az ?_
  refine aq ?_
  have hX:fT b d=(b,(⟨6,0⟩:Answer)):=by
    unfold fT;(repeat' split)<;>first|rfl|omega|(exfalso;omega)|(simp_all;done)|(simp_all;omega)
  rw [hX] at hr;clear hX
  simp only [Prod.mk.injEq] at hr;obtain ⟨rfl,rfl⟩:=hr
  refine an aa [0,1,2,3,4,5] 5 rfl rfl rfl rfl rfl rfl ?_ ?_
  all_goals first|rfl|(simp [ay,aY,bf];done)|(simp [ay,aY,bf];omega)
 have hb1':=of_decide_eq_false hb1
 refine ba [0,1,4] [5,0,1,2,3,4] mixed rfl rfl ?_
 refine aE (kn:=[(10,false)]) aa 15 rfl ⟨hb1,trivial⟩ ?_
 refine aU (n':=6) [20,11] [1] rfl rfl (.inl ⟨(ak.yes rfl rfl rfl),aM.cast (dz rfl rfl rfl rfl rfl Try.underlying29) rfl⟩) rfl ?_
 refine aE (kn:=[]) aa 2 rfl trivial ?_
 refine bC [5,0,1,2,3,4] rfl rfl rfl rfl (by kernel_rfl) ?_
 refine af ?_
 refine ah rfl (fun hc3=>?_) (fun hc3=>?_)
 ·
  have hc3':=of_decide_eq_true hc3
  refine ae aa 2 rfl ?_
  refine az ?_
  refine aq ?_
  have hX:fT b d=(b,(⟨6,0⟩:Answer)):=by
    unfold fT;(repeat' split)<;>first|rfl|omega|(exfalso;omega)|(simp_all;done)|(simp_all;omega)
  rw [hX] at hr;clear hX
  simp only [Prod.mk.injEq] at hr;obtain ⟨rfl,rfl⟩:=hr
  refine an aa [0,1,2,3,4,5] 5 rfl rfl rfl rfl rfl rfl ?_ ?_
  all_goals first|rfl|(simp [ay,aY,bf];done)|(simp [ay,aY,bf];omega)
 have hc3':=of_decide_eq_false hc3
 refine aQ ?_
 refine ag ?_
 refine cx 36 ((decide (d.sum < 1))||(decide (d.sum > 1000000))) ?_ ?_
 ·
  refine au ?_
  refine ad aa 6 rfl ?_
  refine bI (t:=30) rfl (fun hb4=>?_) (fun hb4=>?_)
  ·
   have hb4':=of_decide_eq_true hb4
   refine ad aa 6 rfl ?_
   refine af ?_
   exact aF.bH 13 rfl rfl (by first|(simp [hb4];done)|(simp_all;done)|(exfalso;simp_all;done)|(simp_all;omega)) rfl
  have hb4':=of_decide_eq_false hb4
  refine ad aa 6 rfl ?_
  refine af ?_
  exact aF.bH 13 rfl rfl (by first|(simp [hb4];done)|(simp_all;done)|(exfalso;simp_all;done)|(simp_all;omega)) rfl
 refine ah rfl (fun hc5=>?_) (fun hc5=>?_)
 ·
  have hc5':=hc5;try simp only [bu,bU] at hc5'
  refine ae aa 2 rfl ?_
  refine az ?_
  refine aq ?_
  have hX:fT b d=(b,(⟨3,0⟩:Answer)):=by
    unfold fT;(repeat' split)<;>first|rfl|omega|(exfalso;omega)|(simp_all;done)|(simp_all;omega)
  rw [hX] at hr;clear hX
  simp only [Prod.mk.injEq] at hr;obtain ⟨rfl,rfl⟩:=hr
  refine an aa [0,1,2,3,4,5] 5 rfl rfl rfl rfl rfl rfl ?_ ?_
  all_goals first|rfl|(simp [ay,aY,bf];done)|(simp [ay,aY,bf];omega)
 have hc5':=hc5;try simp only [bu,bU] at hc5'
 refine aQ ?_
 refine aH aa 1 rfl ?_
 refine aN 15 [0,6,7,8,9,10,11,12,13,14,5] (cL id (bd [0,6,7,8,9,10,11,12,13,14]) (kW (x 17) (x 19) b (by first|omega|(simp;done)|(simp;omega)) (by first|omega|(simp;done)|(simp;omega)) (by first|omega|(simp;done)|(simp;omega)) (by first|omega|(simp;done)|(simp;omega))) rL rfl rfl ⟨⟨_,rfl,.inl ⟨rfl,rfl⟩⟩,trivial⟩ ⟨rfl,rfl,rfl,rfl,rfl,trivial⟩ rfl rfl rfl rfl rfl rfl trivial ⟨⟨trivial,trivial,trivial,trivial,trivial,trivial,trivial,trivial,trivial,trivial,trivial,trivial,trivial,trivial,trivial,trivial,trivial,trivial,trivial,trivial,trivial⟩,⟨trivial,trivial,trivial,trivial,trivial,trivial,trivial,trivial,trivial,trivial,trivial,trivial,trivial,trivial,trivial,trivial,trivial,trivial,trivial,trivial,trivial⟩,(fun _ _ _ _=>trivial),(fun _ _ _ _=>trivial),(fun _ _ _ _=>trivial),(fun _ _ _ _=>trivial),(fun _ _ _ _=>trivial),(fun _ _ _ _=>trivial),(fun _ _ _ _=>trivial),(fun _ _ _ _=>trivial),trivial⟩ rfl rfl rfl rfl) rfl ?_
 refine ad aa 1 rfl ?_
 refine af ?_
 refine ag ?_
 obtain ⟨l20,e20,hr0⟩:∃ (l20:List bE) (e20:Int),cG b.aw 0 d.n 0 d.sum=(l20,e20):=⟨_,_,rfl⟩
 refine dg [0,1,4,5] [0,6,7,8,9,10,11,12,13,14,5] mixed rfl rfl ?_
 refine ca (kn:=[]) aa 9 rfl trivial ?_
 refine cg (n':=16) [40,44,48] [11,6] rfl rfl (.inl ⟨(ak.plain rfl),aM.cast (cr (bd [6,11]) (bd [6,15]) (ms:=((dG.set 2 (some (.s 1 0 6 b.aw.length))).set 19 (some (cI 0)))) (ms':=((dG.set 2 (some (.s 1 0 6 l20.length))).set 19 (some (cI e20)))) (fun x hx=>jy x hx b.aw 0 d.n 0 d.sum (by first|omega|(simp;done)|(simp;omega)) l20 e20 hr0) ow rfl rfl ⟨⟨_,rfl,.inl ⟨rfl,rfl⟩⟩,⟨_,rfl,.inr (.c (.d _))⟩,⟨_,rfl,.inr (.c (.d _))⟩,⟨_,rfl,.inr (.c (.d _))⟩,trivial⟩ rfl rfl rfl rfl rfl rfl rfl ⟨rfl,trivial⟩ rfl rfl rfl rfl rfl rfl rfl rfl rfl rfl rfl rfl rfl) rfl⟩) rfl ?_
 refine dX [0,1,4,5] [15,6,0,7,8,9,10,12,13,14,5] rfl rfl (by kernel_rfl) ?_
 refine then_ok ?_
 refine ag ?_
 obtain ⟨l21,e21,hr1⟩:∃ (l21:List Entry) (e21:Int),dY b.book e20 0 (10+d.n) d.sum=(l21,e21):=⟨_,_,rfl⟩
 refine dg [0,1,4,5] [15,6,0,7,8,9,10,12,13,14,5] mixed rfl rfl ?_
 refine ca (kn:=[]) aa 5 rfl trivial ?_
 refine cg (n':=16) [54] [] rfl rfl (.inl ⟨(ak.plain rfl),aM.cast (aL rfl rfl rfl (aJ (by first|omega|(simp;done)|(simp;omega)))) rfl⟩) rfl ?_
 refine ca (kn:=[]) aa 4 rfl trivial ?_
 refine cg (n':=16) [50,55,59] [6] rfl rfl (.inl ⟨(ak.plain rfl),aM.cast (cr (bd [6]) (bd [6]) (ms:=((dG.set 18 (some (eb b.book))).set 19 (some (cI e20)))) (ms':=((dG.set 18 (some (eb l21))).set 19 (some (cI e21)))) (fun x hx=>jM x hx b.book e20 0 (10+d.n) d.sum l21 e21 hr1) nn rfl rfl ⟨⟨_,rfl,.inl ⟨rfl,rfl⟩⟩,⟨_,rfl,.inr (.c (.d _))⟩,⟨_,rfl,.inr (.c (.d _))⟩,⟨_,rfl,.inr (.c (.d _))⟩,trivial⟩ rfl rfl rfl rfl rfl rfl rfl trivial rfl rfl rfl rfl rfl rfl rfl rfl rfl rfl rfl rfl rfl) rfl⟩) rfl ?_
 refine dX [0,4,5] [6,15,0,7,8,9,10,12,13,14,5] rfl rfl (by kernel_rfl) ?_
 refine then_ok ?_
 rcases (show e21=0\/¬e21=0 from by omega) with hs6|hs6
 ·
  refine aH aa 2 rfl ?_
  refine aN 20 [0,16,17,18,19,5] (cL (bd [0,6,7,8,9,10,15,12,13,14]) (bd [0,16,17,18,19]) (fz (x 17) (x 19) b (⟨b.time,b.down,l20,b.due,b.ax,b.s0,b.s1,b.n0,b.n1,b.w0,b.w1,b.bP,b.aR,l21⟩:Bk) e21 (by first|assumption|omega)) fW rfl rfl ⟨⟨_,rfl,.inl ⟨rfl,rfl⟩⟩,⟨_,rfl,.inl ⟨rfl,rfl⟩⟩,trivial⟩ ⟨rfl,rfl,rfl,rfl,rfl,rfl,rfl,rfl,rfl,rfl,trivial⟩ rfl rfl rfl rfl rfl rfl trivial ⟨⟨trivial,trivial,trivial,trivial,trivial,trivial,trivial,trivial,trivial,trivial,trivial,trivial,trivial,trivial,trivial,trivial,trivial,trivial,trivial,trivial,trivial⟩,(fun _ _ _ _=>trivial),(fun _ _ _ _=>trivial),(fun _ _ _ _=>trivial),(fun _ _ _ _=>trivial),trivial⟩ rfl rfl rfl rfl) rfl ?_
  refine ad aa 2 rfl ?_
  refine af ?_
  refine az ?_
  have hX:fT b d=((⟨b.time,b.down,l20,b.due,b.ax,b.s0,b.s1,b.n0,b.n1,b.w0,b.w1,b.bP,b.aR,l21⟩:Bk),(⟨e21,0⟩:Answer)):=by
    unfold fT;simp only [dL,hr0,hr1];(repeat' split)<;>first|rfl|omega|(exfalso;omega)|(simp_all;done)|(simp_all;omega)
  rw [hX] at hr;clear hX
  simp only [Prod.mk.injEq] at hr;obtain ⟨rfl,rfl⟩:=hr
  refine an aa [0,16,17,18,19,5] 5 rfl rfl rfl rfl rfl rfl ?_ ?_
  all_goals first|rfl|(simp [ay,aY,bf];done)|(simp [ay,aY,bf];omega)
 refine aH aa 2 rfl ?_
 refine aN 20 [0,16,17,18,19,5] (cL (bd [0,6,7,8,9,10,15,12,13,14]) (bd [0,16,17,18,19]) (gu (x 17) (x 19) b (⟨b.time,b.down,l20,b.due,b.ax,b.s0,b.s1,b.n0,b.n1,b.w0,b.w1,b.bP,b.aR,l21⟩:Bk) e21 (by first|assumption|omega)) fW rfl rfl ⟨⟨_,rfl,.inl ⟨rfl,rfl⟩⟩,⟨_,rfl,.inl ⟨rfl,rfl⟩⟩,trivial⟩ ⟨rfl,rfl,rfl,rfl,rfl,rfl,rfl,rfl,rfl,rfl,trivial⟩ rfl rfl rfl rfl rfl rfl trivial ⟨⟨trivial,trivial,trivial,trivial,trivial,trivial,trivial,trivial,trivial,trivial,trivial,trivial,trivial,trivial,trivial,trivial,trivial,trivial,trivial,trivial,trivial⟩,(fun _ _ _ _=>trivial),(fun _ _ _ _=>trivial),(fun _ _ _ _=>trivial),(fun _ _ _ _=>trivial),trivial⟩ rfl rfl rfl rfl) rfl ?_
 refine ad aa 2 rfl ?_
 refine af ?_
 refine az ?_
 have hX:fT b d=(b,(⟨e21,0⟩:Answer)):=by
   unfold fT;simp only [dL,hr0,hr1];(repeat' split)<;>first|rfl|omega|(exfalso;omega)|(simp_all;done)|(simp_all;omega)
 rw [hX] at hr;clear hX
 simp only [Prod.mk.injEq] at hr;obtain ⟨rfl,rfl⟩:=hr
 refine an aa [0,16,17,18,19,5] 5 rfl rfl rfl rfl rfl rfl ?_ ?_
 all_goals first|rfl|(simp [ay,aY,bf];done)|(simp [ay,aY,bf];omega)
theorem Ig (x:Nat->Value) (hx:∀ i,(x i).oneCell'=true) (b:Bk) (d:aW) (ok:cv b) (b2:Bk) (a2:Answer) (hr:iD b d=(b2,a2)):cJ Try.prog 70 [(.c (.p 0 0 0 0)),(.c (.q (cQ d) 0))] [(0,(.box 98 (aY b 1 2 3 4 (.d (.v (x 17))) (.d (.v (x 19)))))),(1,(dW b.aw)),(2,(dP b.due)),(3,(ed b.ax)),(4,(cS b.aR))] [0] (.v (.g [cI a2.err,cI a2.bc])) [(0,(.box 98 (aY b2 1 2 3 4 (.d (.v (x 17))) (.d (.v (x 19)))))),(1,(dW b2.aw)),(2,(dP b2.due)),(3,(ed b2.ax)),(4,(cS b2.aR))]:=by
 refine cJ.mk 64 [(0,(aC (.p 0 0 0 0))),(1,(aC (.q (cQ d) 0)))] 5 Try.func70 rfl rfl rfl rfl rfl rfl rfl rfl rfl ?_
 intro W0 F0 T0 pg
 obtain ⟨okt,okc,okd,oka,oky,okw0,okw1,okp,okv,okk0,okk1,okg,okl0,okl1,okp0,okp1,okn0,okn1,okq⟩:=id ok
 refine ae aa 1 rfl ?_
 refine ag ?_
 refine ag ?_
 rcases Bool.eq_false_or_eq_true (decide (d.n < 0)) with hb1|hb1
 ·
  have hb1':=of_decide_eq_true hb1
  refine ba [0,1,4] [5,0,1,2,3,4] mixed rfl rfl ?_
  refine aE (kn:=[(11,true)]) aa 18 rfl ⟨hb1,trivial⟩ ?_
  refine bC [5,0,1,2,3,4] rfl rfl rfl rfl (by kernel_rfl) ?_
  refine af ?_
  refine ah rfl (fun _=>?_) (fun hno=>by cases hno)
  refine ae aa 2 rfl ?_
  refine az ?_
  refine aq ?_
  have hX:iD b d=(b,(⟨6,0⟩:Answer)):=by
    unfold iD;(repeat' split)<;>first|rfl|omega|(exfalso;omega)|(simp_all;done)|(simp_all;omega)
  rw [hX] at hr;clear hX
  simp only [Prod.mk.injEq] at hr;obtain ⟨rfl,rfl⟩:=hr
  refine an aa [0,1,2,3,4,5] 5 rfl rfl rfl rfl rfl rfl ?_ ?_
  all_goals first|rfl|(simp [ay,aY,bf];done)|(simp [ay,aY,bf];omega)
 have hb1':=of_decide_eq_false hb1
 refine ba [0,1,4] [5,0,1,2,3,4] mixed rfl rfl ?_
 refine aE (kn:=[(11,false)]) aa 15 rfl ⟨hb1,trivial⟩ ?_
 refine aU (n':=6) [21,12] [2] rfl rfl (.inl ⟨(ak.yes rfl rfl rfl),aM.cast (dz rfl rfl rfl rfl rfl Try.underlying30) rfl⟩) rfl ?_
 refine aE (kn:=[]) aa 2 rfl trivial ?_
 refine bC [5,0,1,2,3,4] rfl rfl rfl rfl (by kernel_rfl) ?_
 refine af ?_
 refine ah rfl (fun hc3=>?_) (fun hc3=>?_)
 ·
  have hc3':=of_decide_eq_true hc3
  refine ae aa 2 rfl ?_
  refine az ?_
  refine aq ?_
  have hX:iD b d=(b,(⟨6,0⟩:Answer)):=by
    unfold iD;(repeat' split)<;>first|rfl|omega|(exfalso;omega)|(simp_all;done)|(simp_all;omega)
  rw [hX] at hr;clear hX
  simp only [Prod.mk.injEq] at hr;obtain ⟨rfl,rfl⟩:=hr
  refine an aa [0,1,2,3,4,5] 5 rfl rfl rfl rfl rfl rfl ?_ ?_
  all_goals first|rfl|(simp [ay,aY,bf];done)|(simp [ay,aY,bf];omega)
 have hc3':=of_decide_eq_false hc3
 refine aQ ?_
 refine ag ?_
 obtain ⟨x1,hx1⟩:=ck (xs:=b.due) (i:=Int.toNat (d.n)) (by first|omega|(simp;done)|(simp;omega))
 refine ba [0,1,4] [5,0,1,2,3,4] mixed rfl rfl ?_
 refine aE (kn:=[]) aa 9 rfl trivial ?_
 refine aU (n':=6) [30,34] [2] rfl rfl (.inl ⟨(ak.plain rfl),aM.cast (bA (i:=Int.toNat (d.n)) rfl rfl rfl Try.underlying30 fX (by first|omega|(simp;done)|(simp;omega)) (by first|omega|(simp;done)|(simp;omega))) rfl⟩) rfl ?_
 refine aU (n':=6) [35] [2] rfl rfl (.inl ⟨(ak.plain rfl),aM.cast (eU rfl rfl rfl Try.underlying3 rfl (bw hx1) rfl) rfl⟩) rfl ?_
 refine aE (kn:=[]) aa 1 rfl trivial ?_
 refine bC [5,0,1,2,3,4] rfl rfl rfl rfl (by kernel_rfl) ?_
 refine af ?_
 refine ag ?_
 refine ae aa 2 rfl ?_
 refine ah rfl (fun hc4=>?_) (fun hc4=>?_)
 ·
  have hc4':=of_decide_eq_true hc4
  refine ae aa 2 rfl ?_
  refine az ?_
  refine aq ?_
  have hX:iD b d=(b,(⟨10,0⟩:Answer)):=by
    unfold iD;simp only [dL,List.getD_eq_getElem?_getD,hx1,Option.getD_some,];(repeat' split)<;>first|rfl|omega|(exfalso;omega)|(simp_all;done)|(simp_all;omega)
  rw [hX] at hr;clear hX
  simp only [Prod.mk.injEq] at hr;obtain ⟨rfl,rfl⟩:=hr
  refine an aa [0,1,2,3,4,5] 5 rfl rfl rfl rfl rfl rfl ?_ ?_
  all_goals first|rfl|(simp [ay,aY,bf];done)|(simp [ay,aY,bf];omega)
 have hc4':=of_decide_eq_false hc4
 refine aQ ?_
 refine aH aa 1 rfl ?_
 refine aN 15 [0,6,7,8,9,10,11,12,13,14,5] (cL id (bd [0,6,7,8,9,10,11,12,13,14]) (kW (x 17) (x 19) b (by first|omega|(simp;done)|(simp;omega)) (by first|omega|(simp;done)|(simp;omega)) (by first|omega|(simp;done)|(simp;omega)) (by first|omega|(simp;done)|(simp;omega))) rL rfl rfl ⟨⟨_,rfl,.inl ⟨rfl,rfl⟩⟩,trivial⟩ ⟨rfl,rfl,rfl,rfl,rfl,trivial⟩ rfl rfl rfl rfl rfl rfl trivial ⟨⟨trivial,trivial,trivial,trivial,trivial,trivial,trivial,trivial,trivial,trivial,trivial,trivial,trivial,trivial,trivial,trivial,trivial,trivial,trivial,trivial,trivial⟩,⟨trivial,trivial,trivial,trivial,trivial,trivial,trivial,trivial,trivial,trivial,trivial,trivial,trivial,trivial,trivial,trivial,trivial,trivial,trivial,trivial,trivial⟩,(fun _ _ _ _=>trivial),(fun _ _ _ _=>trivial),(fun _ _ _ _=>trivial),(fun _ _ _ _=>trivial),(fun _ _ _ _=>trivial),(fun _ _ _ _=>trivial),(fun _ _ _ _=>trivial),(fun _ _ _ _=>trivial),trivial⟩ rfl rfl rfl rfl) rfl ?_
 refine ad aa 1 rfl ?_
 refine af ?_
 refine ag ?_
 refine ba [0,1,4,5,6] [0,6,7,8,9,10,11,12,13,14,5] mixed rfl rfl ?_
 refine aE (kn:=[]) aa 9 rfl trivial ?_
 refine aU (n':=15) [46,50] [12] rfl rfl (.inl ⟨(ak.plain rfl),aM.cast (bA (i:=Int.toNat (d.n)) rfl rfl rfl Try.underlying30 fX (by first|omega|(simp;done)|(simp;omega)) (by first|omega|(simp;done)|(simp;omega))) rfl⟩) rfl ?_
 refine bC [0,6,7,8,9,10,11,12,13,14,5] rfl rfl rfl rfl (by kernel_rfl) ?_
 refine gI [0,6,7,8,9,10,11,12,13,14,5] (dU (ds:=[(dI 0)]) rfl rfl rfl rfl rfl fX rfl (Nat.le_of_ble_eq_true rfl) (bw hx1) rfl (eZ (x':=0) rfl)) rfl ?_
 refine af ?_
 refine fP (k:=6) (q:=3) (c':=(.s 12 0 1 (((b.due).set (Int.toNat (d.n)) 0).length))) rfl rfl (by first|rfl|(simp;done)|(congr 1;omega)) rfl ?_
 refine aH aa 5 rfl ?_
 refine aA (aL rfl rfl rfl (aJ (by first|omega|(simp;done)|(simp;omega)))) rfl ?_
 refine ad aa 1 rfl ?_
 obtain ⟨l20,e20,hr0⟩:∃ (l20:List Entry) (e20:Int),dY b.book 0 (50+d.n) 0 x1=(l20,e20):=⟨_,_,rfl⟩
 refine aN 15 [6,0,7,8,9,10,11,12,13,14,5] (cr (bd [6]) (bd [6]) (ms:=((dG.set 18 (some (eb b.book))).set 19 (some (cI 0)))) (ms':=((dG.set 18 (some (eb l20))).set 19 (some (cI e20)))) (fun x hx=>jM x hx b.book 0 (50+d.n) 0 x1 l20 e20 hr0) nn rfl rfl ⟨⟨_,rfl,.inl ⟨rfl,rfl⟩⟩,⟨_,rfl,.inr (.c (.d _))⟩,⟨_,rfl,.inr (.c (.d _))⟩,⟨_,rfl,.inr (.c (.d _))⟩,trivial⟩ rfl rfl rfl rfl rfl rfl rfl trivial rfl rfl rfl rfl rfl rfl rfl rfl rfl rfl rfl rfl rfl) rfl ?_
 refine af ?_
 rcases (show e20=0\/¬e20=0 from by omega) with hs5|hs5
 ·
  refine aH aa 2 rfl ?_
  refine aN 19 [0,15,16,17,18,5] (cL (bd [0,6,7,8,9,10,11,12,13,14]) (bd [0,15,16,17,18]) (fz (x 17) (x 19) b (⟨b.time,b.down,b.aw,(b.due).set (Int.toNat (d.n)) 0,b.ax,b.s0,b.s1,b.n0,b.n1,b.w0,b.w1,b.bP,b.aR,l20⟩:Bk) e20 (by first|assumption|omega)) fW rfl rfl ⟨⟨_,rfl,.inl ⟨rfl,rfl⟩⟩,⟨_,rfl,.inl ⟨rfl,rfl⟩⟩,trivial⟩ ⟨rfl,rfl,rfl,rfl,rfl,rfl,rfl,rfl,rfl,rfl,trivial⟩ rfl rfl rfl rfl rfl rfl trivial ⟨⟨trivial,trivial,trivial,trivial,trivial,trivial,trivial,trivial,trivial,trivial,trivial,trivial,trivial,trivial,trivial,trivial,trivial,trivial,trivial,trivial,trivial⟩,(fun _ _ _ _=>trivial),(fun _ _ _ _=>trivial),(fun _ _ _ _=>trivial),(fun _ _ _ _=>trivial),trivial⟩ rfl rfl rfl rfl) rfl ?_
  refine ad aa 2 rfl ?_
  refine af ?_
  refine az ?_
  have hX:iD b d=((⟨b.time,b.down,b.aw,(b.due).set (Int.toNat (d.n)) 0,b.ax,b.s0,b.s1,b.n0,b.n1,b.w0,b.w1,b.bP,b.aR,l20⟩:Bk),(⟨e20,0⟩:Answer)):=by
    unfold iD;simp only [dL,List.getD_eq_getElem?_getD,hx1,Option.getD_some,hr0];(repeat' split)<;>first|rfl|omega|(exfalso;omega)|(simp_all;done)|(simp_all;omega)
  rw [hX] at hr;clear hX
  simp only [Prod.mk.injEq] at hr;obtain ⟨rfl,rfl⟩:=hr
  refine an aa [0,15,16,17,18,5] 5 rfl rfl rfl rfl rfl rfl ?_ ?_
  all_goals first|rfl|(simp [ay,aY,bf];done)|(simp [ay,aY,bf];omega)
 refine aH aa 2 rfl ?_
 refine aN 19 [0,15,16,17,18,5] (cL (bd [0,6,7,8,9,10,11,12,13,14]) (bd [0,15,16,17,18]) (gu (x 17) (x 19) b (⟨b.time,b.down,b.aw,(b.due).set (Int.toNat (d.n)) 0,b.ax,b.s0,b.s1,b.n0,b.n1,b.w0,b.w1,b.bP,b.aR,l20⟩:Bk) e20 (by first|assumption|omega)) fW rfl rfl ⟨⟨_,rfl,.inl ⟨rfl,rfl⟩⟩,⟨_,rfl,.inl ⟨rfl,rfl⟩⟩,trivial⟩ ⟨rfl,rfl,rfl,rfl,rfl,rfl,rfl,rfl,rfl,rfl,trivial⟩ rfl rfl rfl rfl rfl rfl trivial ⟨⟨trivial,trivial,trivial,trivial,trivial,trivial,trivial,trivial,trivial,trivial,trivial,trivial,trivial,trivial,trivial,trivial,trivial,trivial,trivial,trivial,trivial⟩,(fun _ _ _ _=>trivial),(fun _ _ _ _=>trivial),(fun _ _ _ _=>trivial),(fun _ _ _ _=>trivial),trivial⟩ rfl rfl rfl rfl) rfl ?_
 refine ad aa 2 rfl ?_
 refine af ?_
 refine az ?_
 have hX:iD b d=(b,(⟨e20,0⟩:Answer)):=by
   unfold iD;simp only [dL,List.getD_eq_getElem?_getD,hx1,Option.getD_some,hr0];(repeat' split)<;>first|rfl|omega|(exfalso;omega)|(simp_all;done)|(simp_all;omega)
 rw [hX] at hr;clear hX
 simp only [Prod.mk.injEq] at hr;obtain ⟨rfl,rfl⟩:=hr
 refine an aa [0,15,16,17,18,5] 5 rfl rfl rfl rfl rfl rfl ?_ ?_
 all_goals first|rfl|(simp [ay,aY,bf];done)|(simp [ay,aY,bf];omega)
end Go.Proofs.Ytegepioggeggaaa.Dev
