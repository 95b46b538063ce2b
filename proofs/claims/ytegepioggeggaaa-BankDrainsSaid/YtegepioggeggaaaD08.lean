/- A part of the proof: Pace5, Card1, Card2, Card3, Del2, Post1, Post2, Post3, Auth1. No condition. -/
import Derived.Test.YtegepioggeggaaaD07
set_option linter.unusedVariables false
set_option linter.unusedSimpArgs false
set_option maxHeartbeats 1000000
set_option maxRecDepth 100000
namespace Go.Proofs.Ytegepioggeggaaa.Dev
open Go.RowKit

theorem AH (p:eP) (l:List di) (x:di) (r:List di) (e:Int) (hr:ez p l x=(r,e)):Fn Try.prog 100 [(.g [(cI p.cM),(cI p.count),(cI p.sum)]),(.c (fU l)),(.g [(cI x.time),(cI x.sum)])] (.t [(.c (.s 0 0 2 r.length)),(.c (cI e))]) [(0,(ql r))]:=by
 refine Fn.mk' 87 [(0,(aG [(cI p.cM),(cI p.count),(cI p.sum)])),(1,(aC (fU l))),(2,(aG [(cI x.time),(cI x.sum)]))] Try.func100 rfl rfl rfl rfl ?_
 intro W0 T0
 refine dU 1 rfl (fun hlen1=>?_)
 have hrp:=@pF p
 have hru:(fo l).err=0->l.length<=30:=fun h=>(kf h).1
 have hrx:(fo [x]).err=0->0<=x.time/\x.time<=1000000/\0<=x.sum/\x.sum<=1000000:=fun h=>(@kf [x] h).2 x (by simp)
 refine ae aa 4 rfl ?_
 refine ah ?_
 refine aH aa 1 rfl ?_
 obtain ⟨e0,hr0⟩:∃ (e0:Int),fI p=e0:=⟨_,rfl⟩
 refine aP 2 [1,0] (ch 2 (lL p e0 hr0) Ew rfl rfl ⟨⟨_,rfl,.g ⟨.d _,.d _,.d _,trivial⟩⟩,trivial⟩ trivial trivial rfl rfl rfl rfl) rfl ?_
 refine ad aa 1 rfl ?_
 refine af ?_
 refine ae aa 2 rfl ?_
 refine an rfl (fun hc1=>?_) (fun hc1=>?_)
 ·
  have hc1':=of_decide_eq_true hc1
  refine ae aa 3 rfl ?_
  refine aA ?_
  refine ax ?_
  refine dm (aJ.nil 6 125 2 (by decide) rfl) ?_
  have hX:ez p l x=(([]:List di),e0):=by
    unfold ez;rw [if_pos (by omega),hr0]
  rw [hX] at hr;clear hX
  simp only [Prod.mk.injEq] at hr;obtain ⟨rfl,rfl⟩:=hr
  refine aw aa [2] 1 rfl rfl rfl rfl rfl rfl ?_ ?_
  all_goals first|rfl|(simp [aD];done)|(simp [aD];omega)
 have hc1':=of_decide_eq_false hc1
 refine aU ?_
 refine ah ?_
 refine aH aa 2 rfl ?_
 refine aP 3 [2,1,0] (ec (ys:=[(0,(.g [(cI x.time),(cI x.sum)]))]) (rows:=([x]).map iz) 2 py rfl (by decide) ⟨⟨rfl,rfl⟩,trivial⟩ rfl rfl rfl rfl) rfl ?_
 refine qo (s':=[(0,(aG [(cI p.cM),(cI p.count),(cI p.sum)])),(1,(aC (fU l))),(2,(aG [(cI x.time),(cI x.sum)])),(3,(aC (.p 0 0 0 0))),(5,(aC (.p 1 0 0 0))),(6,(aC cN)),(7,(aI 0)),(17,(aG [(cI p.cM),(cI p.count),(cI p.sum)])),(18,(aI e0)),(8,(aI e0)),(19,(aI e0)),(20,(aB (decide (¬e0=0)))),(22,(aC (fU l))),(23,(aG [(cI x.time),(cI x.sum)])),(24,(aC (fU ([x]))))]) (h':=[(1,(.box 125 [(cI x.time),(cI x.sum)])),(0,(.box 58 [(cI p.cM),(cI p.count),(cI p.sum)]))]) 2 rfl ⟨⟨_,rfl,.inl ⟨rfl,rfl⟩⟩,⟨_,rfl,.inl ⟨rfl,rfl⟩⟩,⟨_,rfl,.inl ⟨rfl,rfl⟩⟩,⟨_,rfl,.inl ⟨rfl,rfl⟩⟩,⟨_,rfl,.inl ⟨rfl,rfl⟩⟩,⟨_,rfl,.inl ⟨rfl,rfl⟩⟩,⟨_,rfl,.inl ⟨rfl,rfl⟩⟩,⟨_,rfl,.inl ⟨rfl,rfl⟩⟩,⟨_,rfl,.inl ⟨rfl,rfl⟩⟩,⟨_,rfl,.inl ⟨rfl,rfl⟩⟩,⟨_,rfl,.inl ⟨rfl,rfl⟩⟩,⟨_,rfl,.inl ⟨rfl,rfl⟩⟩,⟨_,rfl,.inl ⟨rfl,rfl⟩⟩,⟨_,rfl,.inl ⟨rfl,rfl⟩⟩,⟨_,rfl,.inr ⟨_,_,rfl,rfl,.s rfl (by decide) (by first|omega|(simp;done)|(simp;omega))⟩⟩,trivial⟩ ⟨rfl,rfl,trivial⟩ rfl ?_
 refine aP 4 [3,1,0] (ec (ys:=[(0,(.c (fU l))),(1,(.c (fU ([x]))))]) (rows:=([l,[x]]).map vN) 3 Il rfl (by decide) ⟨⟨rfl,rfl⟩,⟨rfl,rfl⟩,trivial⟩ rfl rfl rfl rfl) rfl ?_
 refine aE (dH rfl rfl rfl rfl rfl Try.underlying181) rfl ?_
 refine ad aa 1 rfl ?_
 refine af ?_
 refine aY ?_
 refine cz (β:=Nat) (fun (q:Nat)=>⟨[(1,(aC (fU l))),(3,(aC (.p 0 0 0 0))),(5,(aC (.p 1 0 0 0))),(25,(aC (.s 3 0 1 2))),(26,(aI 2)),(27,(aI (↑q:Int)))],[(3,(.arr 59 1 (([l,[x]]).map vN))),(1,(.box 125 [(cI x.time),(cI x.sum)])),(0,(.box 58 [(cI p.cM),(cI p.count),(cI p.sum)]))],4⟩) (fun (q:Nat)=>q<=2/\(0 < q->(fo l).err=0)/\(1 < q->(fo [x]).err=0)) (fun (q:Nat)=>2 - q) 0 ?_ ?_ ?_
 ·exact ⟨by omega,by omega,by omega⟩
 ·exact aJ.cc id (by refine ⟨?_,?_,?_,?_,?_,?_,trivial⟩<;>first|rfl|(simp only [bn];done)|(congr 3;omega)|(congr 4;omega)|(simp only [bo];rfl)) (by refine ⟨?_,?_,?_,trivial⟩<;>first|rfl|(simp only [bn];done)|(congr 3;omega)|(congr 4;omega)|(simp only [bo];rfl)) rfl
 rintro q ⟨hi0_0,hi0_1,hi0_2⟩
 refine ae aa 1 rfl ?_
 refine ah ?_
 refine an rfl (fun hc2=>?_) (fun hc2=>?_)
 ·
  have hc2':=of_decide_eq_true hc2
  refine aU ?_
  refine ah ?_
  refine aY ?_
  refine eZ ?_
  refine aE (br (i:=q) rfl rfl rfl Try.underlying181 Jp (by first|omega|(simp;done)|(simp;omega)) (by first|omega|(simp;done)|(simp;omega))) rfl ?_
  obtain ⟨x1,hx1⟩:=cr (xs:=([l,[x]]:List (List di))) (i:=q) (by first|omega|(simp;done)|(simp;omega))
  have hx1v:=GY hx1
  refine aE (eJ rfl rfl rfl Try.underlying59 rfl (bz hx1) rfl) rfl ?_
  refine ad aa 1 rfl ?_
  refine af ?_
  refine aH aa 1 rfl ?_
  obtain ⟨f1,hr1⟩:∃ (f1:cV),fo x1=f1:=⟨_,rfl⟩
  refine aP 4 [3,1,0] (ch 4 (qf x1 f1 hr1) HC rfl rfl ⟨⟨_,rfl,.c (.d _)⟩,trivial⟩ ⟨trivial,trivial,trivial⟩ trivial rfl rfl rfl rfl) rfl ?_
  refine ad aa 2 rfl ?_
  refine af ?_
  refine ae aa 3 rfl ?_
  refine an rfl (fun hc3=>?_) (fun hc3=>?_)
  ·
   have hc3':=of_decide_eq_true hc3
   refine ah ?_
   refine bd [1,3,5,25,26,27,11] [4,3,1,0] mixed rfl rfl ?_
   refine aF (kn:=[]) aa 4 rfl trivial ?_
   refine bF [4,3,1,0] rfl rfl rfl rfl (by kernel_rfl) ?_
   refine af ?_
   refine aA ?_
   refine bm ?_
   refine ax ?_
   refine ax ?_
   refine bm ?_
   refine ax ?_
   refine dm (aJ.nil 6 125 2 (by decide) rfl) ?_
   have hX:ez p l x=(([]:List di),f1.err):=by
     unfold ez;rcases hx1v with ⟨hq,hx⟩|⟨hq,hx⟩<;>subst hx
     ·rw [if_neg (by omega),if_pos (by rw [hr1];omega),hr1]
     ·rw [if_neg (by omega),if_neg (by have:=hi0_1 (by omega);omega),if_pos (by rw [hr1];omega),hr1]
   rw [hX] at hr;clear hX
   simp only [Prod.mk.injEq] at hr;obtain ⟨rfl,rfl⟩:=hr
   refine aw aa [5] 1 rfl rfl rfl rfl rfl rfl ?_ ?_
   all_goals first|rfl|(simp [aD];done)|(simp [aD];omega)
  have hc3':=of_decide_eq_false hc3
  refine dg ?_
  refine bq ?_
  refine then_ok ?_
  refine ay ?_
  refine aE (aN rfl rfl rfl (aK (by first|omega|(simp;done)|(simp;omega)))) rfl ?_
  refine ad aa 1 rfl ?_
  refine af ?_
  refine ⟨q+1,⟨by omega,(fun h=>by rcases hx1v with ⟨hq,hx⟩|⟨hq,hx⟩<;>first|(exact hi0_1 (by omega))|(subst hx;rw [hr1];omega)),(fun h=>by rcases hx1v with ⟨hq,hx⟩|⟨hq,hx⟩<;>first|(exfalso;omega)|(subst hx;rw [hr1];omega))⟩,by first|omega|(simp;done)|(simp;omega),aJ.cc id (by refine ⟨?_,?_,?_,?_,?_,?_,trivial⟩<;>first|rfl|(simp only [bn];done)|(congr 3;omega)|(congr 4;omega)|(simp only [bo];rfl)) (by refine ⟨?_,?_,?_,trivial⟩<;>first|rfl|(simp only [bn];done)|(congr 3;omega)|(congr 4;omega)|(simp only [bo];rfl)) rfl⟩
 have hc2':=of_decide_eq_false hc2
 refine cp ?_
 refine aR ?_
 refine aR ?_
 refine bM ?_
 refine then_ok ?_
 refine ah ?_
 refine aH aa 1 rfl ?_
 refine aE (cJ rfl rfl rfl rfl rfl Try.underlying59) rfl ?_
 refine aE (aN rfl rfl rfl (aK (by first|omega|(simp;done)|(simp;omega)))) rfl ?_
 refine ad aa 1 rfl ?_
 refine af ?_
 refine ah ?_
 rcases Bool.eq_false_or_eq_true (decide (((↑l.length:Int) - 1)>=0)) with hb4|hb4
 ·
  have hb4':=of_decide_eq_true hb4
  obtain ⟨x1,hx1⟩:=cr (xs:=l) (i:=(l.length) - 1) (by first|omega|(simp;done)|(simp;omega))
  refine bd [1,3,5,25,26,27,12] [3,1,0] mixed rfl rfl ?_
  refine aF (kn:=[(43,true)]) aa 5 rfl ⟨hb4,trivial⟩ ?_
  refine aX (n':=4) [45,46,44] [] rfl rfl (.inl ⟨(aq.yes rfl rfl rfl),aM.cast (db (i:=(l.length) - 1) rfl rfl rfl Try.underlying59 iW (by first|omega|(simp;done)|(simp;omega)) (bz hx1)) rfl⟩) rfl ?_
  refine aF (kn:=[]) aa 6 rfl trivial ?_
  refine bF [3,1,0] rfl rfl rfl rfl (by kernel_rfl) ?_
  refine af ?_
  refine an rfl (fun hc5=>?_) (fun hc5=>?_)
  ·
   have hc5':=of_decide_eq_true hc5
   refine ae aa 2 rfl ?_
   refine aA ?_
   refine ax ?_
   refine dm (aJ.nil 6 125 2 (by decide) rfl) ?_
   have hX:ez p l x=(([]:List di),2):=by
     unfold ez;rw [if_neg (by omega),if_neg (by have:=hi0_1 (by omega);omega),if_neg (by have:=hi0_2 (by omega);omega),if_pos (by rw [nJ hx1,decide_eq_true_eq];omega)]
   rw [hX] at hr;clear hX
   simp only [Prod.mk.injEq] at hr;obtain ⟨rfl,rfl⟩:=hr
   refine aw aa [4] 1 rfl rfl rfl rfl rfl rfl ?_ ?_
   all_goals first|rfl|(simp [aD];done)|(simp [aD];omega)
  have hc5':=of_decide_eq_false hc5
  refine aU ?_
  refine aH aa 4 rfl ?_
  obtain ⟨r2,hr2⟩:∃ (r2:List di),dY p l x.time=r2:=⟨_,rfl⟩
  refine aP 5 [4,3,1,0] (ch 4 (pj p l x.time (by first|assumption|omega|(have q1:=pF (hr2.trans (by omega));have q2:=uses1 (x:=x) (by simp_all);omega)) (by first|assumption|omega) r2 hr2) Fq rfl rfl ⟨⟨_,rfl,.g ⟨.d _,.d _,.d _,trivial⟩⟩,⟨_,rfl,.c (.d _)⟩,⟨_,rfl,.c (.d _)⟩,trivial⟩ trivial ⟨(fun _ _ _ _=>trivial),trivial⟩ rfl rfl rfl rfl) rfl ?_
  refine ad aa 1 rfl ?_
  refine af ?_
  refine ae aa 3 rfl ?_
  refine ah ?_
  refine aH aa 1 rfl ?_
  refine aE (dH rfl rfl rfl rfl rfl Try.underlying59) rfl ?_
  refine ad aa 1 rfl ?_
  refine af ?_
  refine aY ?_
  refine cz (β:=Nat) (fun (k:Nat)=>⟨[(1,(aC (fU l))),(3,(aC (.p 0 0 0 0))),(5,(aC (.p 1 0 0 0))),(25,(aC (.s 3 0 1 2))),(26,(aI 2)),(27,(aI (↑q:Int))),(13,(aC (.s 4 0 2 r2.length))),(14,(aI (x.sum+ix ((r2).take k)))),(61,(aC (.s 4 0 2 r2.length))),(62,(aI (↑r2.length:Int))),(63,(aI (↑k:Int)))],[(4,(ql r2)),(3,(.arr 59 1 (([l,[x]]).map vN))),(1,(.box 125 [(cI x.time),(cI x.sum)])),(0,(.box 58 [(cI p.cM),(cI p.count),(cI p.sum)]))],5⟩) (fun (k:Nat)=>k<=(r2).length) (fun (k:Nat)=>(r2).length - k) 0 ?_ ?_ ?_
  ·exact (by omega)
  ·exact aJ.cc id (by refine ⟨?_,?_,?_,?_,?_,?_,?_,?_,?_,?_,?_,trivial⟩<;>first|rfl|(simp only [bn];done)|(congr 3;omega)|(congr 4;omega)|(simp only [bo];rfl)|((rw [List.take_zero,ix,Int.add_zero];rfl))) (by refine ⟨?_,?_,?_,?_,trivial⟩<;>first|rfl|(simp only [bn];done)|(congr 3;omega)|(congr 4;omega)|(simp only [bo];rfl)) rfl
  rintro k hi1_0
  have hsb:=qN (p:=p) (l:=l) (t:=x.time) (k:=k) (hi0_1 (by omega))
  rw [hr2] at hsb
  have hrl:(r2).length<=30:=by rw [<-hr2];exact Nat.le_trans (pR _ _) (hru (hi0_1 (by omega)))
  refine ae aa 1 rfl ?_
  refine ah ?_
  refine an rfl (fun hc6=>?_) (fun hc6=>?_)
  ·
   have hc6':=of_decide_eq_true hc6
   refine aU ?_
   refine ah ?_
   refine aY ?_
   refine eZ ?_
   refine aE (br (i:=k) rfl rfl rfl Try.underlying59 iW (by first|omega|(simp;done)|(simp;omega)) (by first|omega|(simp;done)|(simp;omega))) rfl ?_
   obtain ⟨x2,hx2⟩:=cr (xs:=r2) (i:=k) (by first|omega|(simp;done)|(simp;omega))
   have hx2v:=(kf (hi0_1 (by omega))).2 x2 (kM (hr2.symm▸List.mem_of_getElem? hx2:x2∈dY p l x.time))
   refine aE (dy rfl rfl rfl Try.underlying125 rfl iW (bz hx2) rfl) rfl ?_
   refine ad aa 2 rfl ?_
   refine af ?_
   refine ay ?_
   refine ad aa 3 rfl ?_
   refine aE (aN rfl rfl rfl (aK (by first|omega|(simp;done)|(simp;omega)))) rfl ?_
   refine ad aa 1 rfl ?_
   refine cf ?_
   refine bq ?_
   refine then_ok ?_
   refine ay ?_
   refine aE (aN rfl rfl rfl (aK (by first|omega|(simp;done)|(simp;omega)))) rfl ?_
   refine ad aa 1 rfl ?_
   refine af ?_
   refine ⟨k+1,by first|omega|trivial,by first|omega|(simp;done)|(simp;omega),aJ.cc id (by refine ⟨?_,?_,?_,?_,?_,?_,?_,?_,?_,?_,?_,trivial⟩<;>first|rfl|(simp only [bn];done)|(congr 3;omega)|(congr 4;omega)|(simp only [bo];rfl)|(first|(rw [ie hx2,ll,<-Int.add_assoc];rfl)|(rw [ie hx1,ll,<-Int.add_assoc];rfl))) (by refine ⟨?_,?_,?_,?_,trivial⟩<;>first|rfl|(simp only [bn];done)|(congr 3;omega)|(congr 4;omega)|(simp only [bo];rfl)) rfl⟩
  have hc6':=of_decide_eq_false hc6
  refine cp ?_
  refine aR ?_
  refine aR ?_
  refine bM ?_
  refine then_ok ?_
  refine ah ?_
  refine cA 82 ((decide ((↑r2.length:Int)>=p.count))||(decide ((x.sum+ix ((r2).take k)) > p.sum))) ?_ ?_
  ·
   refine ay ?_
   refine ad aa 1 rfl ?_
   refine aE (dH rfl rfl rfl rfl rfl Try.underlying59) rfl ?_
   refine ad aa 4 rfl ?_
   refine bH (t:=77) rfl (fun hb7=>?_) (fun hb7=>?_)
   ·
    have hb7':=of_decide_eq_true hb7
    refine ad aa 5 rfl ?_
    refine af ?_
    exact aJ.bK 12 rfl rfl (by first|(simp [hb7];done)|(simp_all;done)|(exfalso;simp_all;done)|(simp_all;omega)) rfl
   have hb7':=of_decide_eq_false hb7
   refine ad aa 5 rfl ?_
   refine af ?_
   exact aJ.bK 12 rfl rfl (by first|(simp [hb7];done)|(simp_all;done)|(exfalso;simp_all;done)|(simp_all;omega)) rfl
  refine an rfl (fun hc8=>?_) (fun hc8=>?_)
  ·
   have hc8':=hc8;try simp only [bA,bW] at hc8'
   refine ae aa 2 rfl ?_
   refine aA ?_
   refine ax ?_
   refine dm (aJ.nil 6 125 2 (by decide) rfl) ?_
   have hX:ez p l x=(([]:List di),11):=by
     have hlate:im l x.time=false:=by first|(rw [nJ hx1];simp;omega)|(have:l=[]:=List.eq_nil_of_length_eq_zero (by omega);subst this;rfl)
     have hk:(r2).take k=r2:=List.take_of_length_le (by omega)
     rw [hk] at hc8'
     unfold ez;rw [if_neg (by omega),if_neg (by have:=hi0_1 (by omega);omega),if_neg (by have:=hi0_2 (by omega);omega),if_neg (by rw [hlate];simp),hr2,if_pos (by omega)]
   rw [hX] at hr;clear hX
   simp only [Prod.mk.injEq] at hr;obtain ⟨rfl,rfl⟩:=hr
   refine aw aa [5] 1 rfl rfl rfl rfl rfl rfl ?_ ?_
   all_goals first|rfl|(simp [aD];done)|(simp [aD];omega)
  have hc8':=hc8;try simp only [bA,bW] at hc8'
  refine aU ?_
  refine aH aa 2 rfl ?_
  refine aP 6 [5,4,3,1,0] (ec (ys:=[(0,(.g [(cI x.time),(cI x.sum)]))]) (rows:=([x]).map iz) 5 py rfl (by decide) ⟨⟨rfl,rfl⟩,trivial⟩ rfl rfl rfl rfl) rfl ?_
  refine aP 7 [6,5,3,1,0] (dA (m:=1) (N:=r2.length+1) (k2:=6) (ys:=([x]).map iz) py rfl rfl rfl rfl rfl rfl (by first|omega|(simp;done)|(simp;omega)) rfl (.s rfl (by first|omega|(simp;done)|(simp;omega))) (by first|omega|(simp;done)|(simp;omega)) (by first|omega|(simp;done)|(simp;omega)) fK (by decide) (by first|omega|(simp;done)|(simp;omega)) (by first|omega|(simp;done)|(simp;omega))) rfl ?_
  refine ad aa 2 rfl ?_
  refine af ?_
  refine aA ?_
  have hX:ez p l x=(r2++([x]),0):=by
    have hlate:im l x.time=false:=by first|(rw [nJ hx1];simp;omega)|(have:l=[]:=List.eq_nil_of_length_eq_zero (by omega);subst this;rfl)
    have hk:(r2).take k=r2:=List.take_of_length_le (by omega)
    rw [hk] at hc8'
    unfold ez;rw [if_neg (by omega),if_neg (by have:=hi0_1 (by omega);omega),if_neg (by have:=hi0_2 (by omega);omega),if_neg (by rw [hlate];simp),hr2,if_neg (by omega)]
  rw [hX] at hr;clear hX
  simp only [Prod.mk.injEq] at hr;obtain ⟨rfl,rfl⟩:=hr
  refine aw aa [6] 1 rfl rfl rfl rfl rfl rfl ?_ ?_
  all_goals first|rfl|(simp [aD];done)|(simp [aD];omega)
 have hb4':=of_decide_eq_false hb4
 refine bd [1,3,5,25,26,27,12] [3,1,0] mixed rfl rfl ?_
 refine aF (kn:=[(43,false)]) aa 12 rfl ⟨hb4,trivial⟩ ?_
 refine bF [3,1,0] rfl rfl rfl rfl (by kernel_rfl) ?_
 refine af ?_
 refine an rfl (fun hno=>by cases hno) (fun _=>?_)
 refine aU ?_
 refine aH aa 4 rfl ?_
 obtain ⟨r3,hr3⟩:∃ (r3:List di),dY p l x.time=r3:=⟨_,rfl⟩
 refine aP 5 [4,3,1,0] (ch 4 (pj p l x.time (by first|assumption|omega|(have q1:=pF (hr2.trans (by omega));have q2:=uses1 (x:=x) (by simp_all);omega)) (by first|assumption|omega) r3 hr3) Fq rfl rfl ⟨⟨_,rfl,.g ⟨.d _,.d _,.d _,trivial⟩⟩,⟨_,rfl,.c (.d _)⟩,⟨_,rfl,.c (.d _)⟩,trivial⟩ trivial ⟨(fun _ _ _ _=>trivial),trivial⟩ rfl rfl rfl rfl) rfl ?_
 refine ad aa 1 rfl ?_
 refine af ?_
 refine ae aa 3 rfl ?_
 refine ah ?_
 refine aH aa 1 rfl ?_
 refine aE (dH rfl rfl rfl rfl rfl Try.underlying59) rfl ?_
 refine ad aa 1 rfl ?_
 refine af ?_
 refine aY ?_
 refine cz (β:=Nat) (fun (k:Nat)=>⟨[(1,(aC (fU l))),(3,(aC (.p 0 0 0 0))),(5,(aC (.p 1 0 0 0))),(25,(aC (.s 3 0 1 2))),(26,(aI 2)),(27,(aI (↑q:Int))),(13,(aC (.s 4 0 2 r3.length))),(14,(aI (x.sum+ix ((r3).take k)))),(61,(aC (.s 4 0 2 r3.length))),(62,(aI (↑r3.length:Int))),(63,(aI (↑k:Int)))],[(4,(ql r3)),(3,(.arr 59 1 (([l,[x]]).map vN))),(1,(.box 125 [(cI x.time),(cI x.sum)])),(0,(.box 58 [(cI p.cM),(cI p.count),(cI p.sum)]))],5⟩) (fun (k:Nat)=>k<=(r3).length) (fun (k:Nat)=>(r3).length - k) 0 ?_ ?_ ?_
 ·exact (by omega)
 ·exact aJ.cc id (by refine ⟨?_,?_,?_,?_,?_,?_,?_,?_,?_,?_,?_,trivial⟩<;>first|rfl|(simp only [bn];done)|(congr 3;omega)|(congr 4;omega)|(simp only [bo];rfl)|((rw [List.take_zero,ix,Int.add_zero];rfl))) (by refine ⟨?_,?_,?_,?_,trivial⟩<;>first|rfl|(simp only [bn];done)|(congr 3;omega)|(congr 4;omega)|(simp only [bo];rfl)) rfl
 rintro k hi1_0
 have hsb:=qN (p:=p) (l:=l) (t:=x.time) (k:=k) (hi0_1 (by omega))
 rw [hr3] at hsb
 have hrl:(r3).length<=30:=by rw [<-hr3];exact Nat.le_trans (pR _ _) (hru (hi0_1 (by omega)))
 refine ae aa 1 rfl ?_
 refine ah ?_
 refine an rfl (fun hc10=>?_) (fun hc10=>?_)
 ·
  have hc10':=of_decide_eq_true hc10
  refine aU ?_
  refine ah ?_
  refine aY ?_
  refine eZ ?_
  refine aE (br (i:=k) rfl rfl rfl Try.underlying59 iW (by first|omega|(simp;done)|(simp;omega)) (by first|omega|(simp;done)|(simp;omega))) rfl ?_
  obtain ⟨x1,hx1⟩:=cr (xs:=r3) (i:=k) (by first|omega|(simp;done)|(simp;omega))
  have hx1v:=(kf (hi0_1 (by omega))).2 x1 (kM (hr3.symm▸List.mem_of_getElem? hx1:x1∈dY p l x.time))
  refine aE (dy rfl rfl rfl Try.underlying125 rfl iW (bz hx1) rfl) rfl ?_
  refine ad aa 2 rfl ?_
  refine af ?_
  refine ay ?_
  refine ad aa 3 rfl ?_
  refine aE (aN rfl rfl rfl (aK (by first|omega|(simp;done)|(simp;omega)))) rfl ?_
  refine ad aa 1 rfl ?_
  refine cf ?_
  refine bq ?_
  refine then_ok ?_
  refine ay ?_
  refine aE (aN rfl rfl rfl (aK (by first|omega|(simp;done)|(simp;omega)))) rfl ?_
  refine ad aa 1 rfl ?_
  refine af ?_
  refine ⟨k+1,by first|omega|trivial,by first|omega|(simp;done)|(simp;omega),aJ.cc id (by refine ⟨?_,?_,?_,?_,?_,?_,?_,?_,?_,?_,?_,trivial⟩<;>first|rfl|(simp only [bn];done)|(congr 3;omega)|(congr 4;omega)|(simp only [bo];rfl)|(first|(rw [ie hx2,ll,<-Int.add_assoc];rfl)|(rw [ie hx1,ll,<-Int.add_assoc];rfl))) (by refine ⟨?_,?_,?_,?_,trivial⟩<;>first|rfl|(simp only [bn];done)|(congr 3;omega)|(congr 4;omega)|(simp only [bo];rfl)) rfl⟩
 have hc10':=of_decide_eq_false hc10
 refine cp ?_
 refine aR ?_
 refine aR ?_
 refine bM ?_
 refine then_ok ?_
 refine ah ?_
 refine cA 82 ((decide ((↑r3.length:Int)>=p.count))||(decide ((x.sum+ix ((r3).take k)) > p.sum))) ?_ ?_
 ·
  refine ay ?_
  refine ad aa 1 rfl ?_
  refine aE (dH rfl rfl rfl rfl rfl Try.underlying59) rfl ?_
  refine ad aa 4 rfl ?_
  refine bH (t:=77) rfl (fun hb11=>?_) (fun hb11=>?_)
  ·
   have hb11':=of_decide_eq_true hb11
   refine ad aa 5 rfl ?_
   refine af ?_
   exact aJ.bK 12 rfl rfl (by first|(simp [hb11];done)|(simp_all;done)|(exfalso;simp_all;done)|(simp_all;omega)) rfl
  have hb11':=of_decide_eq_false hb11
  refine ad aa 5 rfl ?_
  refine af ?_
  exact aJ.bK 12 rfl rfl (by first|(simp [hb11];done)|(simp_all;done)|(exfalso;simp_all;done)|(simp_all;omega)) rfl
 refine an rfl (fun hc12=>?_) (fun hc12=>?_)
 ·
  have hc12':=hc12;try simp only [bA,bW] at hc12'
  refine ae aa 2 rfl ?_
  refine aA ?_
  refine ax ?_
  refine dm (aJ.nil 6 125 2 (by decide) rfl) ?_
  have hX:ez p l x=(([]:List di),11):=by
    have hlate:im l x.time=false:=by first|(rw [nJ hx1];simp;omega)|(have:l=[]:=List.eq_nil_of_length_eq_zero (by omega);subst this;rfl)
    have hk:(r3).take k=r3:=List.take_of_length_le (by omega)
    rw [hk] at hc12'
    unfold ez;rw [if_neg (by omega),if_neg (by have:=hi0_1 (by omega);omega),if_neg (by have:=hi0_2 (by omega);omega),if_neg (by rw [hlate];simp),hr3,if_pos (by omega)]
  rw [hX] at hr;clear hX
  simp only [Prod.mk.injEq] at hr;obtain ⟨rfl,rfl⟩:=hr
  refine aw aa [5] 1 rfl rfl rfl rfl rfl rfl ?_ ?_
  all_goals first|rfl|(simp [aD];done)|(simp [aD];omega)
 have hc12':=hc12;try simp only [bA,bW] at hc12'
 refine aU ?_
 refine aH aa 2 rfl ?_
 refine aP 6 [5,4,3,1,0] (ec (ys:=[(0,(.g [(cI x.time),(cI x.sum)]))]) (rows:=([x]).map iz) 5 py rfl (by decide) ⟨⟨rfl,rfl⟩,trivial⟩ rfl rfl rfl rfl) rfl ?_
 refine aP 7 [6,5,3,1,0] (dA (m:=1) (N:=r3.length+1) (k2:=6) (ys:=([x]).map iz) py rfl rfl rfl rfl rfl rfl (by first|omega|(simp;done)|(simp;omega)) rfl (.s rfl (by first|omega|(simp;done)|(simp;omega))) (by first|omega|(simp;done)|(simp;omega)) (by first|omega|(simp;done)|(simp;omega)) fK (by decide) (by first|omega|(simp;done)|(simp;omega)) (by first|omega|(simp;done)|(simp;omega))) rfl ?_
 refine ad aa 2 rfl ?_
 refine af ?_
 refine aA ?_
 have hX:ez p l x=(r3++([x]),0):=by
   have hlate:im l x.time=false:=by first|(rw [nJ hx1];simp;omega)|(have:l=[]:=List.eq_nil_of_length_eq_zero (by omega);subst this;rfl)
   have hk:(r3).take k=r3:=List.take_of_length_le (by omega)
   rw [hk] at hc12'
   unfold ez;rw [if_neg (by omega),if_neg (by have:=hi0_1 (by omega);omega),if_neg (by have:=hi0_2 (by omega);omega),if_neg (by rw [hlate];simp),hr3,if_neg (by omega)]
 rw [hX] at hr;clear hX
 simp only [Prod.mk.injEq] at hr;obtain ⟨rfl,rfl⟩:=hr
 refine aw aa [6] 1 rfl rfl rfl rfl rfl rfl ?_ ?_
 all_goals first|rfl|(simp [aD];done)|(simp [aD];omega)

theorem kA (c:bD) (e:Int) (hr:cH c=e):Fn Try.prog 28 [(.g [(cI c.bB),(cI c.held),(cI c.cv.cM),(cI c.cv.count),(cI c.cv.sum),(fU c.de)])] (.v (.c (cI e))) []:=by
 refine Fn.mk' 32 [(0,(aG [(cI c.bB),(cI c.held),(cI c.cv.cM),(cI c.cv.count),(cI c.cv.sum),(fU c.de)]))] Try.func28 rfl rfl rfl rfl ?_
 intro W0 T0
 refine fH 0 5 rfl rfl (fun hlen0_5=>?_)
 refine ae aa 2 rfl ?_
 refine ah ?_
 refine cA 21 ((((decide (c.bB < (-1000000000000)))||(decide (c.bB > 1000000000000)))||(decide (c.held < 0)))||(decide (c.held > 1000000000000))) ?_ ?_
 ·
  refine ay ?_
  refine ad aa 4 rfl ?_
  refine bH (t:=7) rfl (fun hb1=>?_) (fun hb1=>?_)
  ·
   have hb1':=of_decide_eq_true hb1
   refine ad aa 14 rfl ?_
   refine af ?_
   exact aJ.bK 19 rfl rfl (by first|(simp [hb1];done)|(simp_all;done)|(exfalso;simp_all;done)|(simp_all;omega)) rfl
  have hb1':=of_decide_eq_false hb1
  refine ad aa 5 rfl ?_
  refine bH (t:=12) rfl (fun hb2=>?_) (fun hb2=>?_)
  ·
   have hb2':=of_decide_eq_true hb2
   refine ad aa 9 rfl ?_
   refine af ?_
   exact aJ.bK 20 rfl rfl (by first|(simp [hb1,hb2];done)|(simp_all;done)|(exfalso;simp_all;done)|(simp_all;omega)) rfl
  have hb2':=of_decide_eq_false hb2
  refine ad aa 5 rfl ?_
  refine bH (t:=17) rfl (fun hb3=>?_) (fun hb3=>?_)
  ·
   have hb3':=of_decide_eq_true hb3
   refine ad aa 4 rfl ?_
   refine af ?_
   exact aJ.bK 21 rfl rfl (by first|(simp [hb1,hb2,hb3];done)|(simp_all;done)|(exfalso;simp_all;done)|(simp_all;omega)) rfl
  have hb3':=of_decide_eq_false hb3
  refine ad aa 4 rfl ?_
  refine af ?_
  exact aJ.bK 21 rfl rfl (by first|(simp [hb1,hb2,hb3];done)|(simp_all;done)|(exfalso;simp_all;done)|(simp_all;omega)) rfl
 refine an rfl (fun hc4=>?_) (fun hc4=>?_)
 ·
  have hc4':=hc4;try simp only [bA,bW] at hc4'
  refine ae aa 1 rfl ?_
  refine aA ?_
  refine ax ?_
  have hX:cH c=3:=by
    unfold cH;rw [if_pos (by omega)]
  rw [hX] at hr;clear hX
  subst hr
  refine aw aa [] 0 rfl rfl rfl rfl rfl rfl ?_ ?_
  all_goals first|rfl|(simp [aD];done)|(simp [aD];omega)
 have hc4':=hc4;try simp only [bA,bW] at hc4'
 refine aU ?_
 refine ah ?_
 refine aH aa 2 rfl ?_
 obtain ⟨e0,hr0⟩:∃ (e0:Int),fI c.cv=e0:=⟨_,rfl⟩
 refine aP 1 [0] (ch 1 (lL c.cv e0 hr0) Ew rfl rfl ⟨⟨_,rfl,.g ⟨.d _,.d _,.d _,trivial⟩⟩,trivial⟩ trivial trivial rfl rfl rfl rfl) rfl ?_
 refine ad aa 1 rfl ?_
 refine af ?_
 refine ae aa 2 rfl ?_
 refine an rfl (fun hc5=>?_) (fun hc5=>?_)
 ·
  have hc5':=of_decide_eq_true hc5
  refine ae aa 2 rfl ?_
  refine aA ?_
  refine ax ?_
  have hX:cH c=e0:=by
    unfold cH;rw [if_neg (by omega),if_pos (by omega),hr0]
  rw [hX] at hr;clear hX
  subst hr
  refine aw aa [] 0 rfl rfl rfl rfl rfl rfl ?_ ?_
  all_goals first|rfl|(simp [aD];done)|(simp [aD];omega)
 have hc5':=of_decide_eq_false hc5
 refine aU ?_
 refine aH aa 2 rfl ?_
 obtain ⟨f1,hr1⟩:∃ (f1:cV),fo c.de=f1:=⟨_,rfl⟩
 refine aP 1 [0] (ch 1 (qf c.de f1 hr1) HC rfl rfl ⟨⟨_,rfl,.c (.d _)⟩,trivial⟩ ⟨trivial,trivial,trivial⟩ trivial rfl rfl rfl rfl) rfl ?_
 refine aE (En rfl rfl Try.underlying50 rfl Try.underlying48 rfl rfl) rfl ?_
 refine ad aa 1 rfl ?_
 refine af ?_
 refine aA ?_
 have hX:cH c=f1.err:=by
   unfold cH;rw [if_neg (by omega),if_neg (by omega),hr1]
 rw [hX] at hr;clear hX
 subst hr
 refine aw aa [] 0 rfl rfl rfl rfl rfl rfl ?_ ?_
 all_goals first|rfl|(simp [aD];done)|(simp [aD];omega)
theorem rl (c:bD) (hb:-9223372036854775808<=c.bB - c.held/\c.bB - c.held<=9223372036854775807):Fn Try.prog 24 [(.g [(cI c.bB),(cI c.held),(cI c.cv.cM),(cI c.cv.count),(cI c.cv.sum),(fU c.de)])] (aI (c.bB - c.held)) []:=by
 refine Fn.mk' 8 [(0,(aG [(cI c.bB),(cI c.held),(cI c.cv.cM),(cI c.cv.count),(cI c.cv.sum),(fU c.de)]))] Try.func24 rfl rfl rfl rfl ?_
 intro W0 T0
 refine fH 0 5 rfl rfl (fun hlen0_5=>?_)
 obtain ⟨hb1,hb2⟩:=hb
 refine ae aa 2 rfl ?_
 refine aH aa 4 rfl ?_
 refine aE (aN rfl rfl rfl (aK (by first|omega|(simp;done)|(simp;omega)))) rfl ?_
 refine ad aa 1 rfl ?_
 refine af ?_
 refine aA ?_
 refine aw aa [] 0 rfl rfl rfl rfl rfl rfl ?_ ?_
 all_goals first|rfl|(simp [aD];done)|(simp [aD];omega)
theorem tx (c:bD) (hl:c.de.length<=1048576):Fn Try.prog 108 [(.g [(cI c.bB),(cI c.held),(cI c.cv.cM),(cI c.cv.count),(cI c.cv.sum),(fU c.de)])] (.v (.g [cI c.bB,cI c.held,cI c.cv.cM,cI c.cv.count,cI c.cv.sum,.s 0 0 2 c.de.length])) [(0,.arr 125 2 (c.de.map iz))]:=by
 refine Fn.mk' 8 [(0,(aG [(cI c.bB),(cI c.held),(cI c.cv.cM),(cI c.cv.count),(cI c.cv.sum),(fU c.de)]))] Try.func108 rfl rfl rfl rfl ?_
 intro W0 T0
 refine fH 0 5 rfl rfl (fun hlen0_5=>?_)
 refine ae aa 2 rfl ?_
 refine aH aa 2 rfl ?_
 refine aP 3 [2,1,0] (ch 2 (rp c.de (by first|omega|(simp;done)|(simp;omega))) Fp rfl rfl ⟨⟨_,rfl,.c (.d _)⟩,trivial⟩ trivial ⟨(fun _ _ _ _=>trivial),trivial⟩ rfl rfl rfl rfl) rfl ?_
 refine ad aa 2 rfl ?_
 refine af ?_
 refine ae aa 2 rfl ?_
 refine aA ?_
 refine aw aa [2,1] 1 rfl rfl rfl rfl rfl rfl ?_ ?_
 all_goals first|rfl|(simp [aD];done)|(simp [aD];omega)

theorem xx (c:bD) (n time:Int) (x:bD) (e:Int) (hr:dE c n time=(x,e)):Fn Try.prog 80 [(.g [(cI c.bB),(cI c.held),(cI c.cv.cM),(cI c.cv.count),(cI c.cv.sum),(fU c.de)]),(.c (cI n)),(.c (cI time))] (.t [(.g [(cI x.bB),(cI x.held),(cI x.cv.cM),(cI x.cv.count),(cI x.cv.sum),(.s 0 0 2 x.de.length)]),(.c (cI e))]) [(0,(ql x.de))]:=by
 refine Fn.mk' 60 [(0,(aG [(cI c.bB),(cI c.held),(cI c.cv.cM),(cI c.cv.count),(cI c.cv.sum),(fU c.de)])),(1,(aI n)),(2,(aI time))] Try.func80 rfl rfl rfl rfl ?_
 intro W0 T0
 refine fH 0 5 rfl rfl (fun hlen0_5=>?_)
 have hrc:=@iy c
 have hrl:=@ow c
 refine ae aa 3 rfl ?_
 refine ah ?_
 refine aH aa 1 rfl ?_
 obtain ⟨e0,hr0⟩:∃ (e0:Int),cH c=e0:=⟨_,rfl⟩
 refine aP 2 [1,0] (ch 2 (kA c e0 hr0) Av rfl rfl ⟨⟨_,rfl,.g ⟨.d _,.d _,.d _,.d _,.d _,.d _,trivial⟩⟩,trivial⟩ trivial trivial rfl rfl rfl rfl) rfl ?_
 refine ad aa 1 rfl ?_
 refine af ?_
 refine ae aa 2 rfl ?_
 refine an rfl (fun hc1=>?_) (fun hc1=>?_)
 ·
  have hc1':=of_decide_eq_true hc1
  refine ae aa 4 rfl ?_
  refine aA ?_
  refine ax ?_
  refine cu 1 5 125 2 rfl rfl rfl ?_
  have hX:dE c n time=((⟨0,0,(⟨0,0,0⟩:eP),([]:List di)⟩:bD),e0):=by
    unfold dE;rw [if_pos (by omega),hr0];rfl
  rw [hX] at hr;clear hX
  simp only [Prod.mk.injEq] at hr;obtain ⟨rfl,rfl⟩:=hr
  refine aw aa [2,1] 1 rfl rfl rfl rfl rfl rfl ?_ ?_
  all_goals first|rfl|(simp [aD];done)|(simp [aD];omega)
 have hc1':=of_decide_eq_false hc1
 refine aU ?_
 refine ah ?_
 refine cA 30 ((((decide (n < 1))||(decide (n > 1000000)))||(decide (time < 0)))||(decide (time > 1000000))) ?_ ?_
 ·
  refine ay ?_
  refine ad aa 3 rfl ?_
  refine bH (t:=19) rfl (fun hb2=>?_) (fun hb2=>?_)
  ·
   have hb2':=of_decide_eq_true hb2
   refine ad aa 11 rfl ?_
   refine af ?_
   exact aJ.bK 15 rfl rfl (by first|(simp [hb2];done)|(simp_all;done)|(exfalso;simp_all;done)|(simp_all;omega)) rfl
  have hb2':=of_decide_eq_false hb2
  refine ad aa 4 rfl ?_
  refine bH (t:=23) rfl (fun hb3=>?_) (fun hb3=>?_)
  ·
   have hb3':=of_decide_eq_true hb3
   refine ad aa 7 rfl ?_
   refine af ?_
   exact aJ.bK 16 rfl rfl (by first|(simp [hb2,hb3];done)|(simp_all;done)|(exfalso;simp_all;done)|(simp_all;omega)) rfl
  have hb3':=of_decide_eq_false hb3
  refine ad aa 4 rfl ?_
  refine bH (t:=27) rfl (fun hb4=>?_) (fun hb4=>?_)
  ·
   have hb4':=of_decide_eq_true hb4
   refine ad aa 3 rfl ?_
   refine af ?_
   exact aJ.bK 17 rfl rfl (by first|(simp [hb2,hb3,hb4];done)|(simp_all;done)|(exfalso;simp_all;done)|(simp_all;omega)) rfl
  have hb4':=of_decide_eq_false hb4
  refine ad aa 3 rfl ?_
  refine af ?_
  exact aJ.bK 17 rfl rfl (by first|(simp [hb2,hb3,hb4];done)|(simp_all;done)|(exfalso;simp_all;done)|(simp_all;omega)) rfl
 refine an rfl (fun hc5=>?_) (fun hc5=>?_)
 ·
  have hc5':=hc5;try simp only [bA,bW] at hc5'
  refine ae aa 3 rfl ?_
  refine aA ?_
  refine ax ?_
  refine cu 1 5 125 2 rfl rfl rfl ?_
  have hX:dE c n time=((⟨0,0,(⟨0,0,0⟩:eP),([]:List di)⟩:bD),3):=by
    unfold dE;rw [if_neg (by omega),if_pos (by omega)];rfl
  rw [hX] at hr;clear hX
  simp only [Prod.mk.injEq] at hr;obtain ⟨rfl,rfl⟩:=hr
  refine aw aa [2,1] 1 rfl rfl rfl rfl rfl rfl ?_ ?_
  all_goals first|rfl|(simp [aD];done)|(simp [aD];omega)
 have hc5':=hc5;try simp only [bA,bW] at hc5'
 refine aU ?_
 refine ah ?_
 refine aH aa 2 rfl ?_
 refine aP 2 [1,0] (ch 2 (rl c (by first|assumption|omega|(constructor<;>decide)|(have hz:=iy (by first|assumption|omega);omega))) HE rfl rfl ⟨⟨_,rfl,.g ⟨.d _,.d _,.d _,.d _,.d _,.d _,trivial⟩⟩,trivial⟩ trivial trivial rfl rfl rfl rfl) rfl ?_
 refine ad aa 1 rfl ?_
 refine af ?_
 refine an rfl (fun hc6=>?_) (fun hc6=>?_)
 ·
  have hc6':=of_decide_eq_true hc6
  refine ae aa 3 rfl ?_
  refine aA ?_
  refine ax ?_
  refine cu 1 5 125 2 rfl rfl rfl ?_
  have hX:dE c n time=((⟨0,0,(⟨0,0,0⟩:eP),([]:List di)⟩:bD),10):=by
    unfold dE;rw [if_neg (by omega),if_neg (by omega),if_pos (by omega)];rfl
  rw [hX] at hr;clear hX
  simp only [Prod.mk.injEq] at hr;obtain ⟨rfl,rfl⟩:=hr
  refine aw aa [2,1] 1 rfl rfl rfl rfl rfl rfl ?_ ?_
  all_goals first|rfl|(simp [aD];done)|(simp [aD];omega)
 have hc6':=of_decide_eq_false hc6
 refine aU ?_
 refine aH aa 7 rfl ?_
 obtain ⟨r1,e1,hr1⟩:∃ (r1:List di) (e1:Int),ez c.cv c.de (⟨time,n⟩:di)=(r1,e1):=⟨_,_,rfl⟩
 refine aP 3 [2,1,0] (ch 2 (AH c.cv c.de (⟨time,n⟩:di) r1 e1 hr1) IU rfl rfl ⟨⟨_,rfl,.g ⟨.d _,.d _,.d _,trivial⟩⟩,⟨_,rfl,.c (.d _)⟩,⟨_,rfl,.g ⟨.d _,.d _,trivial⟩⟩,trivial⟩ ⟨trivial,trivial,trivial⟩ ⟨(fun _ _ _ _=>trivial),trivial⟩ rfl rfl rfl rfl) rfl ?_
 refine ad aa 5 rfl ?_
 refine af ?_
 refine ah ?_
 refine ae aa 2 rfl ?_
 refine an rfl (fun hc7=>?_) (fun hc7=>?_)
 ·
  have hc7':=of_decide_eq_true hc7
  refine ae aa 4 rfl ?_
  refine aA ?_
  refine ax ?_
  refine cu 1 5 125 2 rfl rfl rfl ?_
  have hX:dE c n time=((⟨0,0,(⟨0,0,0⟩:eP),([]:List di)⟩:bD),e1):=by
    have ha:=hr1
    unfold dE;rw [if_neg (by omega),if_neg (by omega),if_neg (by omega),if_pos (by rw [ha];dsimp only;omega),ha];rfl
  rw [hX] at hr;clear hX
  simp only [Prod.mk.injEq] at hr;obtain ⟨rfl,rfl⟩:=hr
  refine aw aa [3,1] 1 rfl rfl rfl rfl rfl rfl ?_ ?_
  all_goals first|rfl|(simp [aD];done)|(simp [aD];omega)
 have hc7':=of_decide_eq_false hc7
 refine aU ?_
 refine ae aa 3 rfl ?_
 refine aH aa 3 rfl ?_
 refine aE (aN rfl rfl rfl (aK (by first|omega|(simp;done)|(simp;omega)))) rfl ?_
 refine ad aa 2 rfl ?_
 refine af ?_
 refine ae aa 3 rfl ?_
 refine aA ?_
 have hX:dE c n time=((⟨c.bB,c.held+n,c.cv,r1⟩:bD),0):=by
   have ha:=hr1
   unfold dE;rw [if_neg (by omega),if_neg (by omega),if_neg (by omega),if_neg (by rw [ha];dsimp only;omega),ha]
 rw [hX] at hr;clear hX
 simp only [Prod.mk.injEq] at hr;obtain ⟨rfl,rfl⟩:=hr
 refine aw aa [2,1] 1 rfl rfl rfl rfl rfl rfl ?_ ?_
 all_goals first|rfl|(simp [aD];done)|(simp [aD];omega)
theorem xw (c:bD) (n:Int) (x:bD) (e:Int) (hr:eW c n=(x,e)):Fn Try.prog 91 [(.g [(cI c.bB),(cI c.held),(cI c.cv.cM),(cI c.cv.count),(cI c.cv.sum),(fU c.de)]),(.c (cI n))] (.t [(.g [(cI x.bB),(cI x.held),(cI x.cv.cM),(cI x.cv.count),(cI x.cv.sum),(.s 0 0 2 x.de.length)]),(.c (cI e))]) [(0,(ql x.de))]:=by
 refine Fn.mk' 35 [(0,(aG [(cI c.bB),(cI c.held),(cI c.cv.cM),(cI c.cv.count),(cI c.cv.sum),(fU c.de)])),(1,(aI n))] Try.func91 rfl rfl rfl rfl ?_
 intro W0 T0
 refine fH 0 5 rfl rfl (fun hlen0_5=>?_)
 have hrc:=@iy c
 have hrl:=@ow c
 refine ae aa 3 rfl ?_
 refine ah ?_
 refine aH aa 1 rfl ?_
 obtain ⟨e0,hr0⟩:∃ (e0:Int),cH c=e0:=⟨_,rfl⟩
 refine aP 2 [1,0] (ch 2 (kA c e0 hr0) Av rfl rfl ⟨⟨_,rfl,.g ⟨.d _,.d _,.d _,.d _,.d _,.d _,trivial⟩⟩,trivial⟩ trivial trivial rfl rfl rfl rfl) rfl ?_
 refine ad aa 1 rfl ?_
 refine af ?_
 refine ae aa 2 rfl ?_
 refine an rfl (fun hc1=>?_) (fun hc1=>?_)
 ·
  have hc1':=of_decide_eq_true hc1
  refine ae aa 4 rfl ?_
  refine aA ?_
  refine ax ?_
  refine cu 1 5 125 2 rfl rfl rfl ?_
  have hX:eW c n=((⟨0,0,(⟨0,0,0⟩:eP),([]:List di)⟩:bD),e0):=by
    unfold eW;rw [if_pos (by omega),hr0];rfl
  rw [hX] at hr;clear hX
  simp only [Prod.mk.injEq] at hr;obtain ⟨rfl,rfl⟩:=hr
  refine aw aa [2,1] 1 rfl rfl rfl rfl rfl rfl ?_ ?_
  all_goals first|rfl|(simp [aD];done)|(simp [aD];omega)
 have hc1':=of_decide_eq_false hc1
 refine aU ?_
 refine ah ?_
 refine cA 25 (((decide (n < 1))||(decide (n > 1000000)))||(decide (n > (1000000000000 - c.held)))) ?_ ?_
 ·
  refine ay ?_
  refine ad aa 3 rfl ?_
  refine bH (t:=15) rfl (fun hb2=>?_) (fun hb2=>?_)
  ·
   have hb2':=of_decide_eq_true hb2
   refine ad aa 10 rfl ?_
   refine af ?_
   exact aJ.bK 14 rfl rfl (by first|(simp [hb2];done)|(simp_all;done)|(exfalso;simp_all;done)|(simp_all;omega)) rfl
  have hb2':=of_decide_eq_false hb2
  refine ad aa 4 rfl ?_
  refine bH (t:=19) rfl (fun hb3=>?_) (fun hb3=>?_)
  ·
   have hb3':=of_decide_eq_true hb3
   refine ad aa 6 rfl ?_
   refine af ?_
   exact aJ.bK 15 rfl rfl (by first|(simp [hb2,hb3];done)|(simp_all;done)|(exfalso;simp_all;done)|(simp_all;omega)) rfl
  have hb3':=of_decide_eq_false hb3
  refine ad aa 3 rfl ?_
  refine dG (aq.yes rfl rfl rfl) (aN rfl rfl rfl (aK (by first|omega|(simp;done)|(simp;omega)))) rfl rfl ?_
  refine ad aa 2 rfl ?_
  refine af ?_
  exact aJ.bK 15 rfl rfl (by first|(simp [hb2,hb3];done)|(simp_all;done)|(exfalso;simp_all;done)|(simp_all;omega)) rfl
 refine an rfl (fun hc4=>?_) (fun hc4=>?_)
 ·
  have hc4':=hc4;try simp only [bA,bW] at hc4'
  refine ae aa 3 rfl ?_
  refine aA ?_
  refine ax ?_
  refine cu 1 5 125 2 rfl rfl rfl ?_
  have hX:eW c n=((⟨0,0,(⟨0,0,0⟩:eP),([]:List di)⟩:bD),3):=by
    unfold eW;rw [if_neg (by omega),if_pos (by omega)];rfl
  rw [hX] at hr;clear hX
  simp only [Prod.mk.injEq] at hr;obtain ⟨rfl,rfl⟩:=hr
  refine aw aa [2,1] 1 rfl rfl rfl rfl rfl rfl ?_ ?_
  all_goals first|rfl|(simp [aD];done)|(simp [aD];omega)
 have hc4':=hc4;try simp only [bA,bW] at hc4'
 refine aU ?_
 refine aH aa 1 rfl ?_
 refine aP 3 [2,1,0] (ch 2 (tx c (by first|assumption|omega)) Ft rfl rfl ⟨⟨_,rfl,.g ⟨.d _,.d _,.d _,.d _,.d _,.d _,trivial⟩⟩,trivial⟩ ⟨trivial,trivial,trivial,trivial,trivial,trivial,trivial⟩ ⟨(fun _ _ _ _=>trivial),trivial⟩ rfl rfl rfl rfl) rfl ?_
 refine ad aa 1 rfl ?_
 refine af ?_
 refine aH aa 3 rfl ?_
 refine aE (aN rfl rfl rfl (aK (by first|omega|(simp;done)|(simp;omega)))) rfl ?_
 refine ad aa 2 rfl ?_
 refine af ?_
 refine ae aa 3 rfl ?_
 refine aA ?_
 have hX:eW c n=((⟨c.bB,c.held+n,c.cv,c.de⟩:bD),0):=by
   unfold eW;rw [if_neg (by omega),if_neg (by omega)]
 rw [hX] at hr;clear hX
 simp only [Prod.mk.injEq] at hr;obtain ⟨rfl,rfl⟩:=hr
 refine aw aa [2,1] 1 rfl rfl rfl rfl rfl rfl ?_ ?_
 all_goals first|rfl|(simp [aD];done)|(simp [aD];omega)

theorem xv (c:bD) (held bB:Int) (x:bD) (e:Int) (hr:eo c held bB=(x,e)):Fn Try.prog 97 [(.g [(cI c.bB),(cI c.held),(cI c.cv.cM),(cI c.cv.count),(cI c.cv.sum),(fU c.de)]),(.c (cI held)),(.c (cI bB))] (.t [(.g [(cI x.bB),(cI x.held),(cI x.cv.cM),(cI x.cv.count),(cI x.cv.sum),(.s 0 0 2 x.de.length)]),(.c (cI e))]) [(0,(ql x.de))]:=by
 refine Fn.mk' 52 [(0,(aG [(cI c.bB),(cI c.held),(cI c.cv.cM),(cI c.cv.count),(cI c.cv.sum),(fU c.de)])),(1,(aI held)),(2,(aI bB))] Try.func97 rfl rfl rfl rfl ?_
 intro W0 T0
 refine fH 0 5 rfl rfl (fun hlen0_5=>?_)
 have hrc:=@iy c
 have hrl:=@ow c
 refine ae aa 3 rfl ?_
 refine ah ?_
 refine aH aa 1 rfl ?_
 obtain ⟨e0,hr0⟩:∃ (e0:Int),cH c=e0:=⟨_,rfl⟩
 refine aP 2 [1,0] (ch 2 (kA c e0 hr0) Av rfl rfl ⟨⟨_,rfl,.g ⟨.d _,.d _,.d _,.d _,.d _,.d _,trivial⟩⟩,trivial⟩ trivial trivial rfl rfl rfl rfl) rfl ?_
 refine ad aa 1 rfl ?_
 refine af ?_
 refine ae aa 2 rfl ?_
 refine an rfl (fun hc1=>?_) (fun hc1=>?_)
 ·
  have hc1':=of_decide_eq_true hc1
  refine ae aa 4 rfl ?_
  refine aA ?_
  refine ax ?_
  refine cu 1 5 125 2 rfl rfl rfl ?_
  have hX:eo c held bB=((⟨0,0,(⟨0,0,0⟩:eP),([]:List di)⟩:bD),e0):=by
    unfold eo;rw [if_pos (by omega),hr0];rfl
  rw [hX] at hr;clear hX
  simp only [Prod.mk.injEq] at hr;obtain ⟨rfl,rfl⟩:=hr
  refine aw aa [2,1] 1 rfl rfl rfl rfl rfl rfl ?_ ?_
  all_goals first|rfl|(simp [aD];done)|(simp [aD];omega)
 have hc1':=of_decide_eq_false hc1
 refine aU ?_
 refine ah ?_
 refine aH aa 2 rfl ?_
 refine aP 3 [2,1,0] (ec (ys:=[(0,(.c (cI held))),(1,(.c (cI bB)))]) (rows:=([held,bB]).map rI) 2 nt rfl (by decide) ⟨⟨rfl,rfl⟩,⟨rfl,rfl⟩,trivial⟩ rfl rfl rfl rfl) rfl ?_
 refine aE (dH rfl rfl rfl rfl rfl Try.underlying30) rfl ?_
 refine ad aa 1 rfl ?_
 refine af ?_
 refine aY ?_
 refine cz (β:=Nat) (fun (q:Nat)=>⟨[(1,(aI held)),(2,(aI bB)),(3,(aC (.p 0 0 0 0))),(6,(aC (.p 1 0 0 0))),(20,(aC (.s 2 0 1 2))),(21,(aI 2)),(22,(aI (↑q:Int)))],[(2,(dS ([held,bB]))),(1,(.box 61 [(cI 0),(cI 0),(cI 0),(cI 0),(cI 0),cN])),(0,(.box 61 [(cI c.bB),(cI c.held),(cI c.cv.cM),(cI c.cv.count),(cI c.cv.sum),(fU c.de)]))],3⟩) (fun (q:Nat)=>q<=2/\(0 < q->-1000000000000<=held/\held<=1000000000000)/\(1 < q->-1000000000000<=bB/\bB<=1000000000000)) (fun (q:Nat)=>2 - q) 0 ?_ ?_ ?_
 ·exact ⟨by omega,by omega,by omega⟩
 ·exact aJ.cc id (by refine ⟨?_,?_,?_,?_,?_,?_,?_,trivial⟩<;>first|rfl|(simp only [bn];done)|(congr 3;omega)|(congr 4;omega)|(simp only [bo];rfl)) (by refine ⟨?_,?_,?_,trivial⟩<;>first|rfl|(simp only [bn];done)|(congr 3;omega)|(congr 4;omega)|(simp only [bo];rfl)) rfl
 rintro q ⟨hi0_0,hi0_1,hi0_2⟩
 refine ae aa 1 rfl ?_
 refine ah ?_
 refine an rfl (fun hc2=>?_) (fun hc2=>?_)
 ·
  have hc2':=of_decide_eq_true hc2
  refine aU ?_
  refine ah ?_
  refine aY ?_
  refine eZ ?_
  refine aE (br (i:=q) rfl rfl rfl Try.underlying30 fO (by first|omega|(simp;done)|(simp;omega)) (by first|omega|(simp;done)|(simp;omega))) rfl ?_
  obtain ⟨x1,hx1⟩:=cr (xs:=([held,bB]:List Int)) (i:=q) (by first|omega|(simp;done)|(simp;omega))
  have hx1v:=GY hx1
  refine aE (eJ rfl rfl rfl Try.underlying3 rfl (bz hx1) rfl) rfl ?_
  refine ad aa 1 rfl ?_
  refine af ?_
  refine cA 31 ((decide (x1 < (-1000000000000)))||(decide (x1 > 1000000000000))) ?_ ?_
  ·
   refine ay ?_
   refine ad aa 3 rfl ?_
   refine bH (t:=28) rfl (fun hb3=>?_) (fun hb3=>?_)
   ·
    have hb3':=of_decide_eq_true hb3
    refine ad aa 3 rfl ?_
    refine af ?_
    exact aJ.bK 7 rfl rfl (by first|(simp [hb3];done)|(simp_all;done)|(exfalso;simp_all;done)|(simp_all;omega)) rfl
   have hb3':=of_decide_eq_false hb3
   refine ad aa 3 rfl ?_
   refine af ?_
   exact aJ.bK 7 rfl rfl (by first|(simp [hb3];done)|(simp_all;done)|(exfalso;simp_all;done)|(simp_all;omega)) rfl
  refine an rfl (fun hc4=>?_) (fun hc4=>?_)
  ·
   have hc4':=hc4;try simp only [bA,bW] at hc4'
   refine ae aa 3 rfl ?_
   refine aA ?_
   refine bm ?_
   refine ax ?_
   refine ax ?_
   refine bm ?_
   refine ax ?_
   refine cu 1 5 125 2 rfl rfl rfl ?_
   have hX:eo c held bB=((⟨0,0,(⟨0,0,0⟩:eP),([]:List di)⟩:bD),3):=by
     unfold eo;rw [if_neg (by omega),if_pos (by omega)];rfl
   rw [hX] at hr;clear hX
   simp only [Prod.mk.injEq] at hr;obtain ⟨rfl,rfl⟩:=hr
   refine aw aa [3,1] 1 rfl rfl rfl rfl rfl rfl ?_ ?_
   all_goals first|rfl|(simp [aD];done)|(simp [aD];omega)
  have hc4':=hc4;try simp only [bA,bW] at hc4'
  refine dg ?_
  refine bq ?_
  refine then_ok ?_
  refine ay ?_
  refine aE (aN rfl rfl rfl (aK (by first|omega|(simp;done)|(simp;omega)))) rfl ?_
  refine ad aa 1 rfl ?_
  refine af ?_
  refine ⟨q+1,⟨by omega,by omega,by omega⟩,by first|omega|(simp;done)|(simp;omega),aJ.cc id (by refine ⟨?_,?_,?_,?_,?_,?_,?_,trivial⟩<;>first|rfl|(simp only [bn];done)|(congr 3;omega)|(congr 4;omega)|(simp only [bo];rfl)) (by refine ⟨?_,?_,?_,trivial⟩<;>first|rfl|(simp only [bn];done)|(congr 3;omega)|(congr 4;omega)|(simp only [bo];rfl)) rfl⟩
 have hc2':=of_decide_eq_false hc2
 refine cp ?_
 refine aR ?_
 refine aR ?_
 refine bM ?_
 refine then_ok ?_
 refine aH aa 1 rfl ?_
 refine aP 4 [3,2,1,0] (ch 3 (tx c (by first|assumption|omega)) Ft rfl rfl ⟨⟨_,rfl,.g ⟨.d _,.d _,.d _,.d _,.d _,.d _,trivial⟩⟩,trivial⟩ ⟨trivial,trivial,trivial,trivial,trivial,trivial,trivial⟩ ⟨(fun _ _ _ _=>trivial),trivial⟩ rfl rfl rfl rfl) rfl ?_
 refine ad aa 1 rfl ?_
 refine af ?_
 refine aH aa 3 rfl ?_
 refine aE (aN rfl rfl rfl (aK (by first|omega|(simp;done)|(simp;omega)))) rfl ?_
 refine ad aa 2 rfl ?_
 refine af ?_
 refine aH aa 3 rfl ?_
 refine aE (aN rfl rfl rfl (aK (by first|omega|(simp;done)|(simp;omega)))) rfl ?_
 refine ad aa 2 rfl ?_
 refine af ?_
 refine ah ?_
 refine aH aa 1 rfl ?_
 obtain ⟨e1,hr1⟩:∃ (e1:Int),cH (⟨c.bB+bB,c.held+held,c.cv,c.de⟩:bD)=e1:=⟨_,rfl⟩
 refine aP 4 [3,2,1,0] (gF 4 [3] (kA (⟨c.bB+bB,c.held+held,c.cv,c.de⟩:bD) e1 hr1) Av rfl rfl ⟨⟨_,rfl,.g ⟨.d _,.d _,.d _,.d _,.d _,.s rfl (by decide) (by first|omega|(simp;done)|(simp;omega)),trivial⟩⟩,trivial⟩ rfl trivial rfl rfl rfl rfl) rfl ?_
 refine ad aa 1 rfl ?_
 refine af ?_
 refine ae aa 2 rfl ?_
 refine an rfl (fun hc5=>?_) (fun hc5=>?_)
 ·
  have hc5':=of_decide_eq_true hc5
  refine ae aa 3 rfl ?_
  refine aA ?_
  refine ax ?_
  refine cu 1 5 125 2 rfl rfl rfl ?_
  have hX:eo c held bB=((⟨0,0,(⟨0,0,0⟩:eP),([]:List di)⟩:bD),10):=by
    unfold eo;rw [if_neg (by omega),if_neg (by omega),if_pos (by first|omega|(intro hz;have hy:=iy hz;dsimp only at hy;omega))];rfl
  rw [hX] at hr;clear hX
  simp only [Prod.mk.injEq] at hr;obtain ⟨rfl,rfl⟩:=hr
  refine aw aa [4,1] 1 rfl rfl rfl rfl rfl rfl ?_ ?_
  all_goals first|rfl|(simp [aD];done)|(simp [aD];omega)
 have hc5':=of_decide_eq_false hc5
 refine aU ?_
 refine ae aa 3 rfl ?_
 refine aA ?_
 have hX:eo c held bB=((⟨c.bB+bB,c.held+held,c.cv,c.de⟩:bD),0):=by
   unfold eo;rw [if_neg (by omega),if_neg (by omega),if_neg (by first|omega|(have hz:=nH (c:=⟨c.bB+bB,c.held+held,c.cv,c.de⟩) (by dsimp only;omega) (hrc (by omega)).2.2.2.2.1 (hrc (by omega)).2.2.2.2.2;omega))]
 rw [hX] at hr;clear hX
 simp only [Prod.mk.injEq] at hr;obtain ⟨rfl,rfl⟩:=hr
 refine aw aa [3,1] 1 rfl rfl rfl rfl rfl rfl ?_ ?_
 all_goals first|rfl|(simp [aD];done)|(simp [aD];omega)

theorem sm (l:List aS) (fn:FuncId) (bh:List (List D)) (pr:aS->Bool) (hp:∀ x:aS,Fn Try.prog fn ([.g [cI x.number,cI x.kind,cI x.ba,cI x.sum]]++bh.map fun r=>GV.c (.q r 0)) (aB (pr x)) []) (hen:bp Try.prog fn) (r:Int) (hr:iq pr l=r):Fn Try.prog 113 [(.c (dh l)),(.c (.d (.f fn bh)))] (.v (.c (cI r))) []:=by
 refine Fn.mk' 19 [(0,(aC (dh l))),(1,(aC (.d (.f fn bh))))] Try.func113 rfl rfl rfl rfl ?_
 intro W0 T0
 refine dU 0 rfl (fun hlen0=>?_)
 refine ae aa 1 rfl ?_
 refine ah ?_
 refine aH aa 1 rfl ?_
 refine aE (cJ rfl rfl rfl rfl rfl Try.underlying32) rfl ?_
 refine ad aa 1 rfl ?_
 refine af ?_
 refine aY ?_
 refine cz (β:=Nat) (fun (q:Nat)=>⟨[(0,(aC (dh l))),(1,(aC (.d (.f fn bh)))),(7,(aI (↑l.length:Int))),(8,(aI (↑q:Int)))],[],0⟩) (fun (q:Nat)=>q<=l.length/\(l.take q).all (fun y=>!pr y)=true) (fun (q:Nat)=>l.length - q) 0 ?_ ?_ ?_
 ·exact ⟨by omega,by simp⟩
 ·exact aJ.cc id (by refine ⟨?_,?_,?_,?_,trivial⟩<;>first|rfl|(simp only [bn];done)|(congr 3;omega)|(congr 4;omega)|(simp only [bo];rfl)) (trivial) rfl
 rintro q ⟨hi0_0,hi0_1⟩
 refine ae aa 1 rfl ?_
 refine ah ?_
 refine an rfl (fun hc1=>?_) (fun hc1=>?_)
 ·
  have hc1':=of_decide_eq_true hc1
  refine aU ?_
  refine ah ?_
  refine aY ?_
  refine ae aa 2 rfl ?_
  refine aH aa 3 rfl ?_
  obtain ⟨x1,hx1⟩:=cr (xs:=l) (i:=q) (by first|omega|(simp;done)|(simp;omega))
  refine aE (db (i:=q) rfl rfl rfl Try.underlying32 np (by first|omega|(simp;done)|(simp;omega)) (bz hx1)) rfl ?_
  refine ad aa 1 rfl ?_
  refine aE (iD 0 (hp x1) hen rfl rfl rfl ⟨⟨_,rfl,.g ⟨.d _,.d _,.d _,.d _,trivial⟩⟩,trivial⟩ trivial trivial rfl rfl rfl rfl) rfl ?_
  refine af ?_
  refine an rfl (fun hc2=>?_) (fun hc2=>?_)
  ·
   have hc2':=hc2;try simp only [bA,bW] at hc2'
   refine ae aa 2 rfl ?_
   refine aA ?_
   refine bm ?_
   refine ax ?_
   refine ax ?_
   refine bm ?_
   refine ax ?_
   have hX:iq pr l=(↑q:Int):=by
     exact ve hi0_1 hx1 hc2
   rw [hX] at hr;clear hX
   subst hr
   refine aw aa [] 0 rfl rfl rfl rfl rfl rfl ?_ ?_
   all_goals first|rfl|(simp [aD];done)|(simp [aD];omega)
  have hc2':=hc2;try simp only [bA,bW] at hc2'
  refine dg ?_
  refine bq ?_
  refine then_ok ?_
  refine ay ?_
  refine aE (aN rfl rfl rfl (aK (by first|omega|(simp;done)|(simp;omega)))) rfl ?_
  refine ad aa 1 rfl ?_
  refine af ?_
  refine ⟨q+1,⟨by omega,xM hi0_1 hx1 hc2⟩,by first|omega|(simp;done)|(simp;omega),aJ.cc id (by refine ⟨?_,?_,?_,?_,trivial⟩<;>first|rfl|(simp only [bn];done)|(congr 3;omega)|(congr 4;omega)|(simp only [bo];rfl)) (trivial) rfl⟩
 have hc1':=of_decide_eq_false hc1
 refine cp ?_
 refine aR ?_
 refine aR ?_
 refine bM ?_
 refine then_ok ?_
 refine ae aa 1 rfl ?_
 refine aA ?_
 have hX:iq pr l=(-1):=by
   exact wV (by rw [<-List.take_of_length_le (l:=l) (i:=q) (by omega)];exact hi0_1)
 rw [hX] at hr;clear hX
 subst hr
 refine aw aa [] 0 rfl rfl rfl rfl rfl rfl ?_ ?_
 all_goals first|rfl|(simp [aD];done)|(simp [aD];omega)
theorem qL (l:List aS) (fn:FuncId) (bh:List (List D)) (pr:aS->Bool) (hp:∀ x:aS,Fn Try.prog fn ([.g [cI x.number,cI x.kind,cI x.ba,cI x.sum]]++bh.map fun r=>GV.c (.q r 0)) (aB (pr x)) []) (hen:bp Try.prog fn) (r:List aS) (hr:dj pr l=r):cL Try.prog 105 [(.c (.s 0 0 4 l.length)),(.c (.d (.f fn bh)))] [(0,(zr l))] [] (.v (.c (.s 0 0 4 r.length))) [(0,(zr r))]:=by
 refine cL.mk 42 [(0,(aC (.s 0 0 4 l.length))),(1,(aC (.d (.f fn bh))))] 1 Try.func105 rfl rfl rfl rfl rfl rfl rfl rfl rfl ?_
 intro W0 F0 T0 pg
 refine gU 0 rfl (fun hlen0=>?_)
 have hic:=vf pr l
 have hib:iq pr l<=l.length/\-1<=iq pr l:=by rcases hic with ⟨h,_⟩|⟨i,h,h1,_⟩<;>omega
 refine ae aa 1 rfl ?_
 refine aH aa 2 rfl ?_
 obtain ⟨r0,hr0⟩:∃ (r0:Int),iq pr l=r0:=⟨_,rfl⟩
 refine aP 1 [0] (gF 1 [0] (sm l fn bh pr hp hen r0 hr0) IJ rfl rfl ⟨⟨_,rfl,.c (.s rfl (by decide) (by first|omega|(simp;done)|(simp;omega)))⟩,⟨_,rfl,.c (.d _)⟩,trivial⟩ rfl trivial rfl rfl rfl rfl) rfl ?_
 refine ad aa 1 rfl ?_
 refine af ?_
 refine ah ?_
 refine ae aa 2 rfl ?_
 refine an rfl (fun hc1=>?_) (fun hc1=>?_)
 ·
  have hc1':=of_decide_eq_true hc1
  refine ae aa 2 rfl ?_
  refine aA ?_
  refine ax ?_
  have hX:dj pr l=l:=by
    rcases hic with ⟨_,h⟩|⟨i0,h,_⟩
    ·exact h
    ·exfalso;omega
  rw [hX] at hr;clear hX
  subst hr
  refine aw aa [0] 1 rfl rfl rfl rfl rfl rfl ?_ ?_
  all_goals first|rfl|(simp [aD];done)|(simp [aD];omega)
 have hc1':=of_decide_eq_false hc1
 refine aU ?_
 refine ah ?_
 refine aH aa 1 rfl ?_
 refine aE (aN rfl rfl rfl (aK (by first|omega|(simp;done)|(simp;omega)))) rfl ?_
 refine ad aa 1 rfl ?_
 refine af ?_
 refine aY ?_
 obtain ⟨i0,hi0,hil,x0,hx0,hp0,hk0⟩:∃ i:Nat,iq pr l=i/\i < l.length/\∃ x,l[i]?=some x/\pr x=true/\dj pr (l.take i)=l.take i:=by
     rcases hic with ⟨h,_⟩|h
     ·exfalso;omega
     ·exact h
 obtain rfl:r0=(i0:Int):=by omega
 refine cz (β:=Nat×Nat×List aS) (fun (p:Nat×Nat×List aS)=>match p with|(j,i,c)=>⟨[(0,(aC (.s 0 0 4 l.length))),(1,(aC (.d (.f fn bh)))),(4,(aC cN)),(5,(aI (↑i:Int))),(6,(aI (↑j:Int)))],[(0,(zr c))],1⟩) (fun (p:Nat×Nat×List aS)=>match p with|(j,i,c)=>lR pr l c i j) (fun (p:Nat×Nat×List aS)=>match p with|(j,i,c)=>l.length - j) (i0+1,i0,l) ?_ ?_ ?_
 ·exact lR.start hx0 hp0 hk0
 ·exact aJ.cc id (by refine ⟨?_,?_,?_,?_,?_,trivial⟩<;>first|rfl|(simp only [bn];done)|(congr 3;omega)|(congr 4;omega)|(simp only [bo];rfl)) (⟨by first|rfl|(simp only [bn];done)|(congr 3;omega)|(congr 4;omega)|(simp only [bo];rfl),trivial⟩) rfl
 rintro ⟨j,i,c⟩ hd
 have hdl:=hd.len;have hdi:=hd.ij;have hdj:=hd.jl
 refine ah ?_
 refine aH aa 2 rfl ?_
 refine aE (dH rfl rfl rfl rfl rfl Try.underlying32) rfl ?_
 refine ad aa 1 rfl ?_
 refine af ?_
 refine an rfl (fun hc2=>?_) (fun hc2=>?_)
 ·
  have hc2':=of_decide_eq_true hc2
  refine aU ?_
  refine ah ?_
  refine aY ?_
  refine aH aa 2 rfl ?_
  refine aE (br (i:=j) rfl rfl rfl Try.underlying32 np (by first|omega|(simp;done)|(simp;omega)) (by first|omega|(simp;done)|(simp;omega))) rfl ?_
  obtain ⟨x1,hx1⟩:=cr (xs:=c) (i:=j) (by first|omega|(simp;done)|(simp;omega))
  refine aE (dy rfl rfl rfl Try.underlying80 rfl np (bz hx1) rfl) rfl ?_
  refine ad aa 2 rfl ?_
  refine af ?_
  refine aH aa 2 rfl ?_
  refine aE (iD 2 (hp x1) hen rfl rfl rfl ⟨⟨_,rfl,.g ⟨.d _,.d _,.d _,.d _,trivial⟩⟩,trivial⟩ trivial trivial rfl rfl rfl rfl) rfl ?_
  refine ad aa 1 rfl ?_
  refine af ?_
  refine an rfl (fun hc3=>?_) (fun hc3=>?_)
  ·
   have hc3':=hc3;try simp only [bA,bW] at hc3'
   refine aH aa 3 rfl ?_
   refine aE (br (i:=i) rfl rfl rfl Try.underlying32 np (by first|omega|(simp;done)|(simp;omega)) (by first|omega|(simp;done)|(simp;omega))) rfl ?_
   obtain ⟨x2,hx2⟩:=cr (xs:=c) (i:=i) (by first|omega|(simp;done)|(simp;omega))
   refine gj [1,0] (dW (ds:=[(dI x1.number),(dI x1.kind),(dI x1.ba),(dI x1.sum)]) rfl rfl rfl rfl rfl np rfl (Nat.le_of_ble_eq_true rfl) (bz hx2) rfl (eU (x':=x1) rfl)) rfl ?_
   refine af ?_
   refine ay ?_
   refine ad aa 1 rfl ?_
   refine aE (aN rfl rfl rfl (aK (by first|omega|(simp;done)|(simp;omega)))) rfl ?_
   refine ad aa 1 rfl ?_
   refine cf ?_
   refine bq ?_
   refine then_ok ?_
   refine ay ?_
   refine ad aa 1 rfl ?_
   refine aE (aN rfl rfl rfl (aK (by first|omega|(simp;done)|(simp;omega)))) rfl ?_
   refine ad aa 1 rfl ?_
   refine af ?_
   refine ⟨(j+1,(i)+1,(c).set i x1),hd.cS hx1 (by simpa using hc3),by first|omega|(simp;done)|(simp;omega),aJ.cc id (by refine ⟨?_,?_,?_,?_,?_,trivial⟩<;>first|rfl|(simp only [bn];done)|(congr 3;omega)|(congr 4;omega)|(simp only [bo];rfl)) (⟨by first|rfl|(simp only [bn];done)|(congr 3;omega)|(congr 4;omega)|(simp only [bo];rfl),trivial⟩) rfl⟩
  have hc3':=hc3;try simp only [bA,bW] at hc3'
  refine dg ?_
  refine bq ?_
  refine then_ok ?_
  refine ay ?_
  refine ad aa 1 rfl ?_
  refine aE (aN rfl rfl rfl (aK (by first|omega|(simp;done)|(simp;omega)))) rfl ?_
  refine ad aa 1 rfl ?_
  refine af ?_
  refine ⟨(j+1,i,c),hd.skip hx1 (by simpa using hc3),by first|omega|(simp;done)|(simp;omega),aJ.cc id (by refine ⟨?_,?_,?_,?_,?_,trivial⟩<;>first|rfl|(simp only [bn];done)|(congr 3;omega)|(congr 4;omega)|(simp only [bo];rfl)) (⟨by first|rfl|(simp only [bn];done)|(congr 3;omega)|(congr 4;omega)|(simp only [bo];rfl),trivial⟩) rfl⟩
 have hc2':=of_decide_eq_false hc2
 refine cp ?_
 refine aR ?_
 refine aR ?_
 refine bM ?_
 refine then_ok ?_
 refine aH aa 2 rfl ?_
 refine aE (oH (l:=i) (h:=l.length) rfl Try.underlying32 np rfl (.inr ⟨_,rfl,rfl⟩) (.inl ⟨rfl,rfl⟩) (by first|omega|(simp;done)|(simp;omega)) (by first|omega|(simp;done)|(simp;omega)) (by first|omega|(simp;done)|(simp;omega)) rfl) rfl ?_
 refine gj [0] (ud (rows':=(c.take i).map fZ) wj Jn rfl rfl rfl rfl rfl rfl rfl rfl rfl (by simp [List.map_take])) rfl ?_
 refine af ?_
 refine aH aa 2 rfl ?_
 refine aE (oH (l:=0) (h:=i) rfl Try.underlying32 np rfl (.inl ⟨rfl,rfl⟩) (.inr ⟨_,rfl,rfl⟩) (by first|omega|(simp;done)|(simp;omega)) (by first|omega|(simp;done)|(simp;omega)) (by first|omega|(simp;done)|(simp;omega)) rfl) rfl ?_
 refine ad aa 1 rfl ?_
 refine af ?_
 refine aA ?_
 have hX:dj pr l=(c.take i):=by
   have hdone:=hd.done (by omega)
   rw [<-hdone]
 rw [hX] at hr;clear hX
 subst hr
 refine aw aa [0] 1 rfl rfl rfl rfl rfl rfl ?_ ?_
 all_goals first|rfl|(simp [aD];done)|(simp [aD];omega)


theorem kQ {s : bO} {t : aS} (hI : ∀ t ∈ s.kept, fA t.number) (h : 0 ≤ s.bG ∧ s.bG ≤ 1000000) : ∀ u ∈ s.kept ++ [(⟨s.bG + 1, t.kind, t.ba, t.sum⟩ : aS)], fA u.number := by
  intro u hu
  rcases List.mem_append.1 hu with hu | hu
  · exact hI u hu
  · have : u = ⟨s.bG + 1, t.kind, t.ba, t.sum⟩ := by simpa using hu
    subst this; unfold fA; dsimp only; omega
theorem jO {s x:bO} {seen e:Int} (hI:∀ t∈s.kept,fA t.number) (h:eg s seen=(x,e)):∀ u∈x.kept,fA u.number:=by
  intro u hu
  rcases qG h with ⟨_,rfl⟩|⟨_,_,_,_,rfl⟩
  ·simp [yQ] at hu
  ·exact hI u (kM hu)

theorem mE (s:bO) (hI:∀ t∈s.kept,fA t.number) (f:cV) (hr:cF s=f):Fn Try.prog 29 [(.g [(cI s.bG),(dh s.kept)])] (.v (.g [(cI f.err),(cI f.at_)])) []:=by
 refine Fn.mk' 79 [(0,(aG [(cI s.bG),(dh s.kept)]))] Try.func29 rfl rfl rfl rfl ?_
 intro W0 T0
 refine fH 0 1 rfl rfl (fun hlen0_1=>?_)
 refine ae aa 2 rfl ?_
 refine ah ?_
 refine aH aa 2 rfl ?_
 refine aE (cJ rfl rfl rfl rfl rfl Try.underlying32) rfl ?_
 refine ad aa 1 rfl ?_
 refine af ?_
 refine an rfl (fun hc1=>?_) (fun hc1=>?_)
 ·
  have hc1':=of_decide_eq_true hc1
  refine ae aa 2 rfl ?_
  refine aA ?_
  refine ax ?_
  have hX:cF s=(⟨5,0⟩:cV):=by
    unfold cF jX;rw [if_pos (by omega)]
  rw [hX] at hr;clear hX
  subst hr
  refine aw aa [1] 0 rfl rfl rfl rfl rfl rfl ?_ ?_
  all_goals first|rfl|(simp [aD];done)|(simp [aD];omega)
 have hc1':=of_decide_eq_false hc1
 refine aU ?_
 refine ah ?_
 refine cA 20 ((decide (s.bG < (↑s.kept.length:Int)))||(decide (s.bG > 1000000))) ?_ ?_
 ·
  refine ay ?_
  refine ad aa 4 rfl ?_
  refine aE (cJ rfl rfl rfl rfl rfl Try.underlying32) rfl ?_
  refine ad aa 2 rfl ?_
  refine bH (t:=16) rfl (fun hb2=>?_) (fun hb2=>?_)
  ·
   have hb2':=of_decide_eq_true hb2
   refine ad aa 4 rfl ?_
   refine af ?_
   exact aJ.bK 12 rfl rfl (by first|(simp [hb2];done)|(simp_all;done)|(exfalso;simp_all;done)|(simp_all;omega)) rfl
  have hb2':=of_decide_eq_false hb2
  refine ad aa 4 rfl ?_
  refine af ?_
  exact aJ.bK 12 rfl rfl (by first|(simp [hb2];done)|(simp_all;done)|(exfalso;simp_all;done)|(simp_all;omega)) rfl
 refine an rfl (fun hc3=>?_) (fun hc3=>?_)
 ·
  have hc3':=hc3;try simp only [bA,bW] at hc3'
  refine ae aa 2 rfl ?_
  refine aA ?_
  refine ax ?_
  have hX:cF s=(⟨3,0⟩:cV):=by
    unfold cF jX;rw [if_neg (by omega),if_pos (by omega)]
  rw [hX] at hr;clear hX
  subst hr
  refine aw aa [1] 0 rfl rfl rfl rfl rfl rfl ?_ ?_
  all_goals first|rfl|(simp [aD];done)|(simp [aD];omega)
 have hc3':=hc3;try simp only [bA,bW] at hc3'
 refine aU ?_
 refine ah ?_
 refine aH aa 2 rfl ?_
 refine aE (cJ rfl rfl rfl rfl rfl Try.underlying32) rfl ?_
 refine ad aa 1 rfl ?_
 refine af ?_
 refine aY ?_
 refine cz (β:=Nat) (fun (q:Nat)=>⟨[(1,(aC (.p 0 0 0 0))),(2,(aC (.p 1 0 0 0))),(23,(aC (dh s.kept))),(24,(aI (↑s.kept.length:Int))),(25,(aI (↑q:Int)))],[(1,(.box 50 [(cI 0),(cI 0)])),(0,(.box 34 [(cI s.bG),(dh s.kept)]))],2⟩) (fun (q:Nat)=>q<=s.kept.length/\scan (nn s) 0 s.kept.length=scan (nn s) q (s.kept.length - q)) (fun (q:Nat)=>s.kept.length - q) 0 ?_ ?_ ?_
 ·exact ⟨by omega,rfl⟩
 ·exact aJ.cc id (by refine ⟨?_,?_,?_,?_,?_,trivial⟩<;>first|rfl|(simp only [bn];done)|(congr 3;omega)|(congr 4;omega)|(simp only [bo];rfl)) (by refine ⟨?_,?_,trivial⟩<;>first|rfl|(simp only [bn];done)|(congr 3;omega)|(congr 4;omega)|(simp only [bo];rfl)) rfl
 rintro q ⟨hi0_0,hi0_1⟩
 refine ae aa 1 rfl ?_
 refine ah ?_
 refine an rfl (fun hc4=>?_) (fun hc4=>?_)
 ·
  have hc4':=of_decide_eq_true hc4
  refine aU ?_
  refine ah ?_
  refine aY ?_
  refine aH aa 1 rfl ?_
  obtain ⟨x1,hx1⟩:=cr (xs:=s.kept) (i:=q) (by first|omega|(simp;done)|(simp;omega))
  have hx1b:=hI x1 (List.mem_of_getElem? hx1)
  unfold fA at hx1b
  refine aE (db (i:=q) rfl rfl rfl Try.underlying32 np (by first|omega|(simp;done)|(simp;omega)) (bz hx1)) rfl ?_
  refine ad aa 4 rfl ?_
  refine af ?_
  refine aY ?_
  refine cA 30 ((decide (x1.kind < 1))||(decide (x1.kind > 3))) ?_ ?_
  ·
   refine ay ?_
   refine ad aa 4 rfl ?_
   refine bH (t:=34) rfl (fun hb5=>?_) (fun hb5=>?_)
   ·
    have hb5':=of_decide_eq_true hb5
    refine ad aa 5 rfl ?_
    refine af ?_
    exact aJ.bK 10 rfl rfl (by first|(simp [hb5];done)|(simp_all;done)|(exfalso;simp_all;done)|(simp_all;omega)) rfl
   have hb5':=of_decide_eq_false hb5
   refine ad aa 5 rfl ?_
   refine af ?_
   exact aJ.bK 10 rfl rfl (by first|(simp [hb5];done)|(simp_all;done)|(exfalso;simp_all;done)|(simp_all;omega)) rfl
  refine an rfl (fun hc6=>?_) (fun hc6=>?_)
  ·
   have hc6':=hc6;try simp only [bA,bW] at hc6'
   refine ae aa 3 rfl ?_
   refine aA ?_
   refine bm ?_
   refine bm ?_
   refine ax ?_
   refine ax ?_
   refine bm ?_
   refine ax ?_
   have hX:cF s=(⟨1,(↑q:Int)⟩:cV):=by
     unfold cF jX;rw [if_neg (by omega),if_neg (by omega),hi0_1,iI (c:=1) (by omega) (by unfold nn;simp only [hx1];rw [if_pos (by omega)]) (by decide)]
   rw [hX] at hr;clear hX
   subst hr
   refine aw aa [1] 0 rfl rfl rfl rfl rfl rfl ?_ ?_
   all_goals first|rfl|(simp [aD];done)|(simp [aD];omega)
  have hc6':=hc6;try simp only [bA,bW] at hc6'
  refine cA 41 ((((decide (x1.ba < 0))||(decide (x1.ba>=30)))||(decide (x1.sum < 1)))||(decide (x1.sum > 1000000))) ?_ ?_
  ·
   refine ay ?_
   refine ad aa 4 rfl ?_
   refine bH (t:=45) rfl (fun hb7=>?_) (fun hb7=>?_)
   ·
    have hb7':=of_decide_eq_true hb7
    refine ad aa 15 rfl ?_
    refine af ?_
    exact aJ.bK 20 rfl rfl (by first|(simp [hb7];done)|(simp_all;done)|(exfalso;simp_all;done)|(simp_all;omega)) rfl
   have hb7':=of_decide_eq_false hb7
   refine ad aa 5 rfl ?_
   refine bH (t:=50) rfl (fun hb8=>?_) (fun hb8=>?_)
   ·
    have hb8':=of_decide_eq_true hb8
    refine ad aa 10 rfl ?_
    refine af ?_
    exact aJ.bK 21 rfl rfl (by first|(simp [hb7,hb8];done)|(simp_all;done)|(exfalso;simp_all;done)|(simp_all;omega)) rfl
   have hb8':=of_decide_eq_false hb8
   refine ad aa 5 rfl ?_
   refine bH (t:=55) rfl (fun hb9=>?_) (fun hb9=>?_)
   ·
    have hb9':=of_decide_eq_true hb9
    refine ad aa 5 rfl ?_
    refine af ?_
    exact aJ.bK 22 rfl rfl (by first|(simp [hb7,hb8,hb9];done)|(simp_all;done)|(exfalso;simp_all;done)|(simp_all;omega)) rfl
   have hb9':=of_decide_eq_false hb9
   refine ad aa 5 rfl ?_
   refine af ?_
   exact aJ.bK 22 rfl rfl (by first|(simp [hb7,hb8,hb9];done)|(simp_all;done)|(exfalso;simp_all;done)|(simp_all;omega)) rfl
  refine an rfl (fun hc10=>?_) (fun hc10=>?_)
  ·
   have hc10':=hc10;try simp only [bA,bW] at hc10'
   refine ae aa 3 rfl ?_
   refine aA ?_
   refine bm ?_
   refine bm ?_
   refine ax ?_
   refine ax ?_
   refine bm ?_
   refine ax ?_
   have hX:cF s=(⟨3,(↑q:Int)⟩:cV):=by
     unfold cF jX;rw [if_neg (by omega),if_neg (by omega),hi0_1,iI (c:=3) (by omega) (by unfold nn;simp only [hx1];rw [if_neg (by omega),if_pos (by omega)]) (by decide)]
   rw [hX] at hr;clear hX
   subst hr
   refine aw aa [1] 0 rfl rfl rfl rfl rfl rfl ?_ ?_
   all_goals first|rfl|(simp [aD];done)|(simp [aD];omega)
  have hc10':=hc10;try simp only [bA,bW] at hc10'
  refine aH aa 6 rfl ?_
  refine aE (cJ rfl rfl rfl rfl rfl Try.underlying32) rfl ?_
  refine aE (aN rfl rfl rfl (aK (by first|omega|(simp;done)|(simp;omega)))) rfl ?_
  refine aE (aN rfl rfl rfl (aK (by first|omega|(simp;done)|(simp;omega)))) rfl ?_
  refine ad aa 1 rfl ?_
  refine aE (aN rfl rfl rfl (aK (by first|omega|(simp;done)|(simp;omega)))) rfl ?_
  refine ad aa 2 rfl ?_
  refine af ?_
  refine an rfl (fun hc11=>?_) (fun hc11=>?_)
  ·
   have hc11':=of_decide_eq_true hc11
   refine ae aa 3 rfl ?_
   refine aA ?_
   refine bm ?_
   refine bm ?_
   refine ax ?_
   refine ax ?_
   refine bm ?_
   refine ax ?_
   have hX:cF s=(⟨2,(↑q:Int)⟩:cV):=by
     unfold cF jX;rw [if_neg (by omega),if_neg (by omega),hi0_1,iI (c:=2) (by omega) (by unfold nn;simp only [hx1];rw [if_neg (by omega),if_neg (by omega),if_pos (by omega)]) (by decide)]
   rw [hX] at hr;clear hX
   subst hr
   refine aw aa [1] 0 rfl rfl rfl rfl rfl rfl ?_ ?_
   all_goals first|rfl|(simp [aD];done)|(simp [aD];omega)
  have hc11':=of_decide_eq_false hc11
  refine dg ?_
  refine bq ?_
  refine bq ?_
  refine then_ok ?_
  refine ay ?_
  refine aE (aN rfl rfl rfl (aK (by first|omega|(simp;done)|(simp;omega)))) rfl ?_
  refine ad aa 1 rfl ?_
  refine af ?_
  refine ⟨q+1,⟨by omega,by rw [hi0_1];exact nF (by omega) (by unfold nn;simp only [hx1];rw [if_neg (by omega),if_neg (by omega),if_neg (by omega)])⟩,by first|omega|(simp;done)|(simp;omega),aJ.cc id (by refine ⟨?_,?_,?_,?_,?_,trivial⟩<;>first|rfl|(simp only [bn];done)|(congr 3;omega)|(congr 4;omega)|(simp only [bo];rfl)) (by refine ⟨?_,?_,trivial⟩<;>first|rfl|(simp only [bn];done)|(congr 3;omega)|(congr 4;omega)|(simp only [bo];rfl)) rfl⟩
 have hc4':=of_decide_eq_false hc4
 refine cp ?_
 refine aR ?_
 refine aR ?_
 refine bM ?_
 refine then_ok ?_
 refine ae aa 2 rfl ?_
 refine aA ?_
 have hX:cF s=(⟨0,0⟩:cV):=by
   unfold cF jX;rw [if_neg (by omega),if_neg (by omega),hi0_1,ot (by omega)]
 rw [hX] at hr;clear hX
 subst hr
 refine aw aa [1] 0 rfl rfl rfl rfl rfl rfl ?_ ?_
 all_goals first|rfl|(simp [aD];done)|(simp [aD];omega)

theorem tw (s:bO) (t:aS) (hI:∀ t∈s.kept,fA t.number) (x:bO) (e:Int) (hr:gX s t=(x,e)):Fn Try.prog 103 [(.g [(cI s.bG),(dh s.kept)]),(.g [(cI t.number),(cI t.kind),(cI t.ba),(cI t.sum)])] (.t [(.g [(cI x.bG),(.s 0 0 4 x.kept.length)]),(.c (cI e))]) [(0,(zr x.kept))]:=by
 refine Fn.mk' 40 [(0,(aG [(cI s.bG),(dh s.kept)])),(1,(aG [(cI t.number),(cI t.kind),(cI t.ba),(cI t.sum)]))] Try.func103 rfl rfl rfl rfl ?_
 intro W0 T0
 refine fH 0 1 rfl rfl (fun hlen0_1=>?_)
 have hrs:=@lS s
 refine ae aa 4 rfl ?_
 refine ah ?_
 refine aH aa 1 rfl ?_
 obtain ⟨f0,hr0⟩:∃ (f0:cV),cF s=f0:=⟨_,rfl⟩
 have hq0:(cF s).err=f0.err:=by rw [hr0]
 refine aP 3 [2,1,0] (ch 3 (mE s (by first|assumption|exact kQ (by assumption) (by omega)|exact jO (by assumption) (by assumption)|(simp [fA];done)) f0 hr0) Ex rfl rfl ⟨⟨_,rfl,.g ⟨.d _,.d _,trivial⟩⟩,trivial⟩ ⟨trivial,trivial,trivial⟩ trivial rfl rfl rfl rfl) rfl ?_
 refine ad aa 2 rfl ?_
 refine af ?_
 refine ae aa 3 rfl ?_
 refine an rfl (fun hc1=>?_) (fun hc1=>?_)
 ·
  have hc1':=of_decide_eq_true hc1
  refine ah ?_
  refine dr [2,3,4,6] [3,2,1,0] mixed rfl rfl ?_
  refine bU (kn:=[]) aa 5 rfl trivial ?_
  refine ef [2,3,4,5] [2,1,0] rfl rfl (by kernel_rfl) ?_
  refine then_ok ?_
  refine aA ?_
  refine ax ?_
  refine cu 2 1 80 4 rfl rfl rfl ?_
  have hX:gX s t=((⟨0,([]:List aS)⟩:bO),f0.err):=by
    unfold gX;rw [if_pos (by omega),hr0];rfl
  rw [hX] at hr;clear hX
  simp only [Prod.mk.injEq] at hr;obtain ⟨rfl,rfl⟩:=hr
  refine aw aa [4,2] 1 rfl rfl rfl rfl rfl rfl ?_ ?_
  all_goals first|rfl|(simp [aD];done)|(simp [aD];omega)
 have hc1':=of_decide_eq_false hc1
 refine aU ?_
 refine aH aa 2 rfl ?_
 refine aE (aN rfl rfl rfl (aK (by first|omega|(simp;done)|(simp;omega)))) rfl ?_
 refine ad aa 2 rfl ?_
 refine af ?_
 refine ah ?_
 refine bd [2,3,4] [2,1,0] mixed rfl rfl ?_
 refine aF (kn:=[]) aa 2 rfl trivial ?_
 refine aX (n':=4) [22] [] rfl rfl (.inl ⟨(aq.plain rfl),aM.cast (aN rfl rfl rfl (aK (by first|omega|(simp;done)|(simp;omega)))) rfl⟩) rfl ?_
 refine aF (kn:=[]) aa 2 rfl trivial ?_
 refine aX (n':=5) [25] [] rfl rfl (.inl ⟨(aq.plain rfl),aM.cast (ch 4 (mF s.kept (by first|omega|(simp;done)|(simp;omega))) Fu rfl rfl ⟨⟨_,rfl,.c (.d _)⟩,trivial⟩ trivial ⟨(fun _ _ _ _=>trivial),trivial⟩ rfl rfl rfl rfl) rfl⟩) rfl ?_
 refine aF (kn:=[]) aa 1 rfl trivial ?_
 refine aX (n':=6) [27] [] rfl rfl (.inl ⟨(aq.plain rfl),aM.cast (ec (ys:=[(0,(.g [(cI (s.bG+1)),(cI t.kind),(cI t.ba),(cI t.sum)]))]) (rows:=([(⟨s.bG+1,t.kind,t.ba,t.sum⟩:aS)]).map fZ) 5 wj rfl (by decide) ⟨⟨rfl,rfl⟩,trivial⟩ rfl rfl rfl rfl) rfl⟩) rfl ?_
 refine aX (n':=7) [26,28] [5,4] rfl rfl (.inl ⟨(aq.plain rfl),aM.cast (dA (m:=1) (N:=s.kept.length+1) (k2:=6) (ys:=([(⟨s.bG+1,t.kind,t.ba,t.sum⟩:aS)]).map fZ) wj rfl rfl rfl rfl rfl rfl (by first|omega|(simp;done)|(simp;omega)) rfl (.s rfl (by first|omega|(simp;done)|(simp;omega))) (by first|omega|(simp;done)|(simp;omega)) (by first|omega|(simp;done)|(simp;omega)) fK (by decide) (by first|omega|(simp;done)|(simp;omega)) (by first|omega|(simp;done)|(simp;omega))) rfl⟩) rfl ?_
 refine aF (n':=8) (kn:=[]) aa 2 rfl trivial ?_
 refine bF [7,6,2,1,0] rfl rfl rfl rfl (by kernel_rfl) ?_
 refine ad aa 1 rfl ?_
 refine af ?_
 refine ah ?_
 refine aH aa 1 rfl ?_
 obtain ⟨f1,hr1⟩:∃ (f1:cV),cF (⟨s.bG+1,s.kept++([(⟨s.bG+1,t.kind,t.ba,t.sum⟩:aS)])⟩:bO)=f1:=⟨_,rfl⟩
 have hq1:(cF (⟨s.bG+1,s.kept++([(⟨s.bG+1,t.kind,t.ba,t.sum⟩:aS)])⟩:bO)).err=f1.err:=by rw [hr1]
 refine aP 8 [7,6,2,1,0] (gF 8 [6] (mE (⟨s.bG+1,s.kept++([(⟨s.bG+1,t.kind,t.ba,t.sum⟩:aS)])⟩:bO) (by first|assumption|exact kQ (by assumption) (by omega)|exact jO (by assumption) (by assumption)|(simp [fA];done)) f1 hr1) Ex rfl rfl ⟨⟨_,rfl,.g ⟨.d _,.s rfl (by decide) (by first|omega|(simp;done)|(simp;omega)),trivial⟩⟩,trivial⟩ ⟨rfl,rfl,trivial⟩ trivial rfl rfl rfl rfl) rfl ?_
 refine ad aa 2 rfl ?_
 refine af ?_
 refine ae aa 3 rfl ?_
 refine an rfl (fun hc2=>?_) (fun hc2=>?_)
 ·
  have hc2':=of_decide_eq_true hc2
  refine ah ?_
  refine dr [4,7,8] [8,7,6,2] mixed rfl rfl ?_
  refine bU (kn:=[]) aa 5 rfl trivial ?_
  refine ef [4,7,5] [2,7,6] rfl rfl (by kernel_rfl) ?_
  refine then_ok ?_
  refine aA ?_
  refine ax ?_
  refine cu 2 1 80 4 rfl rfl rfl ?_
  have hX:gX s t=((⟨0,([]:List aS)⟩:bO),f1.err):=by
    have hout:cF (gO s t)=f1:=hr1
    unfold gX;rw [if_neg (by omega),if_pos (by rw [hout];omega),hout];rfl
  rw [hX] at hr;clear hX
  simp only [Prod.mk.injEq] at hr;obtain ⟨rfl,rfl⟩:=hr
  refine aw aa [9,2] 1 rfl rfl rfl rfl rfl rfl ?_ ?_
  all_goals first|rfl|(simp [aD];done)|(simp [aD];omega)
 have hc2':=of_decide_eq_false hc2
 refine aU ?_
 refine ae aa 3 rfl ?_
 refine aA ?_
 have hX:gX s t=((⟨s.bG+1,s.kept++([(⟨s.bG+1,t.kind,t.ba,t.sum⟩:aS)])⟩:bO),0):=by
   have hout:cF (gO s t)=f1:=hr1
   unfold gX;rw [if_neg (by omega),if_neg (by rw [hout];omega)];rfl
 rw [hX] at hr;clear hX
 simp only [Prod.mk.injEq] at hr;obtain ⟨rfl,rfl⟩:=hr
 refine aw aa [6,2] 1 rfl rfl rfl rfl rfl rfl ?_ ?_
 all_goals first|rfl|(simp [aD];done)|(simp [aD];omega)
theorem rh (seen:Int) (t:aS) (n:Int) (ok:Bool) (hr:fg seen t=(n,ok)):Fn Try.prog 88 [(.c (cI seen)),(.g [(cI t.number),(cI t.kind),(cI t.ba),(cI t.sum)])] (.t [(.c (cI n)),(.c (cB ok))]) []:=by
 refine Fn.mk' 22 [(0,(aI seen)),(1,(aG [(cI t.number),(cI t.kind),(cI t.ba),(cI t.sum)]))] Try.func88 rfl rfl rfl rfl ?_
 intro W0 T0
 refine ae aa 3 rfl ?_
 refine ah ?_
 refine cA 18 (((decide (seen < 0))||(decide (seen>=1000000)))||(decide (¬t.number=(seen+1)))) ?_ ?_
 ·
  refine ay ?_
  refine ad aa 3 rfl ?_
  refine bH (t:=8) rfl (fun hb1=>?_) (fun hb1=>?_)
  ·
   have hb1':=of_decide_eq_true hb1
   refine ad aa 10 rfl ?_
   refine af ?_
   exact aJ.bK 14 rfl rfl (by first|(simp [hb1];done)|(simp_all;done)|(exfalso;simp_all;done)|(simp_all;omega)) rfl
  have hb1':=of_decide_eq_false hb1
  refine ad aa 4 rfl ?_
  refine bH (t:=12) rfl (fun hb2=>?_) (fun hb2=>?_)
  ·
   have hb2':=of_decide_eq_true hb2
   refine ad aa 6 rfl ?_
   refine af ?_
   exact aJ.bK 15 rfl rfl (by first|(simp [hb1,hb2];done)|(simp_all;done)|(exfalso;simp_all;done)|(simp_all;omega)) rfl
  have hb2':=of_decide_eq_false hb2
  refine ad aa 3 rfl ?_
  refine dG (aq.yes rfl rfl rfl) (aN rfl rfl rfl (aK (by first|omega|(simp;done)|(simp;omega)))) rfl rfl ?_
  refine ad aa 2 rfl ?_
  refine af ?_
  exact aJ.bK 15 rfl rfl (by first|(simp [hb1,hb2];done)|(simp_all;done)|(exfalso;simp_all;done)|(simp_all;omega)) rfl
 refine an rfl (fun hc3=>?_) (fun hc3=>?_)
 ·
  have hc3':=hc3;try simp only [bA,bW] at hc3'
  refine ae aa 3 rfl ?_
  refine aA ?_
  refine ax ?_
  have hX:fg seen t=(seen,false):=by
    (unfold fg;try dsimp only);(repeat' split)<;>first|rfl|omega|(exfalso;omega)|(subst_vars;rfl)|(simp_all;done)|(simp_all;omega)
  rw [hX] at hr;clear hX
  simp only [Prod.mk.injEq] at hr;obtain ⟨rfl,rfl⟩:=hr
  refine aw aa [] 0 rfl rfl rfl rfl rfl rfl ?_ ?_
  all_goals first|rfl|(simp [aD];done)|(simp [aD];omega)
 have hc3':=hc3;try simp only [bA,bW] at hc3'
 refine aU ?_
 refine aH aa 1 rfl ?_
 refine aE (aN rfl rfl rfl (aK (by first|omega|(simp;done)|(simp;omega)))) rfl ?_
 refine ad aa 2 rfl ?_
 refine af ?_
 refine aA ?_
 have hX:fg seen t=(seen+1,true):=by
   (unfold fg;try dsimp only);(repeat' split)<;>first|rfl|omega|(exfalso;omega)|(subst_vars;rfl)|(simp_all;done)|(simp_all;omega)
 rw [hX] at hr;clear hX
 simp only [Prod.mk.injEq] at hr;obtain ⟨rfl,rfl⟩:=hr
 refine aw aa [] 0 rfl rfl rfl rfl rfl rfl ?_ ?_
 all_goals first|rfl|(simp [aD];done)|(simp [aD];omega)

theorem Gm (t:aS) (seen:Int):Fn Try.prog 107 [(.g [(cI t.number),(cI t.kind),(cI t.ba),(cI t.sum)]),(.c (.q ([dI seen]) 0))] (aB (came seen t)) []:=by
 refine Fn.mk' 8 [(0,(aG [(cI t.number),(cI t.kind),(cI t.ba),(cI t.sum)])),(1,(aC (.q ([dI seen]) 0)))] Try.func107 rfl rfl rfl rfl ?_
 intro W0 T0
 refine ae aa 2 rfl ?_
 refine ae aa 5 rfl ?_
 refine aA ?_
 refine aw aa [] 0 rfl rfl rfl rfl rfl rfl ?_ ?_
 all_goals first|rfl|(simp [aD];done)|(simp [aD];omega)
theorem rk (s:bO) (seen:Int) (hI:∀ t∈s.kept,fA t.number) (x:bO) (e:Int) (hr:eg s seen=(x,e)):Fn Try.prog 86 [(.g [(cI s.bG),(dh s.kept)]),(.c (cI seen))] (.t [(.g [(cI x.bG),(.s 0 0 4 x.kept.length)]),(.c (cI e))]) [(0,(zr x.kept))]:=by
 refine Fn.mk' 32 [(0,(aG [(cI s.bG),(dh s.kept)])),(1,(aI seen))] Try.func86 rfl rfl rfl rfl ?_
 intro W0 T0
 refine fH 0 1 rfl rfl (fun hlen0_1=>?_)
 have hrs:=@lS s
 refine ae aa 4 rfl ?_
 refine ah ?_
 refine aH aa 1 rfl ?_
 obtain ⟨f0,hr0⟩:∃ (f0:cV),cF s=f0:=⟨_,rfl⟩
 have hq0:(cF s).err=f0.err:=by rw [hr0]
 refine aP 3 [2,1,0] (ch 3 (mE s (by first|assumption|exact kQ (by assumption) (by omega)|exact jO (by assumption) (by assumption)|(simp [fA];done)) f0 hr0) Ex rfl rfl ⟨⟨_,rfl,.g ⟨.d _,.d _,trivial⟩⟩,trivial⟩ ⟨trivial,trivial,trivial⟩ trivial rfl rfl rfl rfl) rfl ?_
 refine ad aa 2 rfl ?_
 refine af ?_
 refine ae aa 3 rfl ?_
 refine an rfl (fun hc1=>?_) (fun hc1=>?_)
 ·
  have hc1':=of_decide_eq_true hc1
  refine ah ?_
  refine dr [2,3,4,6] [3,2,1,0] mixed rfl rfl ?_
  refine bU (kn:=[]) aa 5 rfl trivial ?_
  refine ef [2,3,4,5] [2,1,0] rfl rfl (by kernel_rfl) ?_
  refine then_ok ?_
  refine aA ?_
  refine ax ?_
  refine cu 2 1 80 4 rfl rfl rfl ?_
  have hX:eg s seen=((⟨0,([]:List aS)⟩:bO),f0.err):=by
    unfold eg;rw [if_pos (by omega),hr0];rfl
  rw [hX] at hr;clear hX
  simp only [Prod.mk.injEq] at hr;obtain ⟨rfl,rfl⟩:=hr
  refine aw aa [4,2] 1 rfl rfl rfl rfl rfl rfl ?_ ?_
  all_goals first|rfl|(simp [aD];done)|(simp [aD];omega)
 have hc1':=of_decide_eq_false hc1
 refine aU ?_
 refine ah ?_
 refine cA 22 ((decide (seen < 0))||(decide (seen > s.bG))) ?_ ?_
 ·
  refine ay ?_
  refine ad aa 3 rfl ?_
  refine bH (t:=17) rfl (fun hb2=>?_) (fun hb2=>?_)
  ·
   have hb2':=of_decide_eq_true hb2
   refine ad aa 5 rfl ?_
   refine af ?_
   exact aJ.bK 9 rfl rfl (by first|(simp [hb2];done)|(simp_all;done)|(exfalso;simp_all;done)|(simp_all;omega)) rfl
  have hb2':=of_decide_eq_false hb2
  refine ad aa 5 rfl ?_
  refine af ?_
  exact aJ.bK 9 rfl rfl (by first|(simp [hb2];done)|(simp_all;done)|(exfalso;simp_all;done)|(simp_all;omega)) rfl
 refine an rfl (fun hc3=>?_) (fun hc3=>?_)
 ·
  have hc3':=hc3;try simp only [bA,bW] at hc3'
  refine ae aa 3 rfl ?_
  refine aA ?_
  refine ax ?_
  refine cu 2 1 80 4 rfl rfl rfl ?_
  have hX:eg s seen=((⟨0,([]:List aS)⟩:bO),3):=by
    unfold eg;rw [if_neg (by omega),if_pos (by omega)];rfl
  rw [hX] at hr;clear hX
  simp only [Prod.mk.injEq] at hr;obtain ⟨rfl,rfl⟩:=hr
  refine aw aa [4,2] 1 rfl rfl rfl rfl rfl rfl ?_ ?_
  all_goals first|rfl|(simp [aD];done)|(simp [aD];omega)
 have hc3':=hc3;try simp only [bA,bW] at hc3'
 refine aU ?_
 refine ah ?_
 obtain ⟨r1,hr1⟩:∃ (r1:List aS),dj (came seen) s.kept=r1:=⟨_,rfl⟩
 refine bd [2,3,4] [2,1,0] mixed rfl rfl ?_
 refine aF (kn:=[]) aa 4 rfl trivial ?_
 refine aX (n':=5) [27] [] rfl rfl (.inl ⟨(aq.plain rfl),aM.cast (ch 4 (mF s.kept (by first|omega|(simp;done)|(simp;omega))) Fu rfl rfl ⟨⟨_,rfl,.c (.d _)⟩,trivial⟩ trivial ⟨(fun _ _ _ _=>trivial),trivial⟩ rfl rfl rfl rfl) rfl⟩) rfl ?_
 refine aX (n':=5) [3] [] rfl rfl (.inl ⟨(aq.plain rfl),aM.cast (CA (ks:=[1]) rfl ⟨rfl,trivial⟩) rfl⟩) rfl ?_
 refine aX (n':=6) [28,29] [1,4] rfl rfl (.inl ⟨(aq.plain rfl),aM.cast (xc (bc [4]) (bc [5]) [1] (qL s.kept 107 ([[(dI seen)]]) (came seen) (fun x=>Gm x seen) IL r1 hr1) IM rfl rfl ⟨⟨_,rfl,.inl ⟨rfl,rfl⟩⟩,⟨_,rfl,.inr (.c (.fn ⟨⟨by decide,_,rfl⟩,trivial⟩))⟩,trivial⟩ ⟨rfl,trivial⟩ rfl rfl rfl rfl rfl rfl rfl rfl trivial ⟨(vD _),trivial⟩ rfl rfl rfl rfl) rfl⟩) rfl ?_
 refine aF (kn:=[]) aa 1 rfl trivial ?_
 refine bF [5,2,1,0] rfl rfl rfl rfl (by kernel_rfl) ?_
 refine ad aa 2 rfl ?_
 refine af ?_
 refine aA ?_
 have hX:eg s seen=((⟨s.bG,r1⟩:bO),0):=by
   unfold eg;rw [if_neg (by omega),if_neg (by omega),hr1]
 rw [hX] at hr;clear hX
 simp only [Prod.mk.injEq] at hr;obtain ⟨rfl,rfl⟩:=hr
 refine aw aa [5,2] 1 rfl rfl rfl rfl rfl rfl ?_ ?_
 all_goals first|rfl|(simp [aD];done)|(simp [aD];omega)


theorem Jy {a b c d x:Int} {q:Nat} (h:[a,b,c,d][q]?=some x):(q=0/\x=a)\/(q=1/\x=b)\/(q=2/\x=c)\/(q=3/\x=d):=by
  match q with
  |0=>left;simp_all
  |1=>right;left;simp_all
  |2=>right;right;left;simp_all
  |3=>right;right;right;simp_all
  |q+4=>simp at h

theorem qh (a:bl) (e:Int) (hr:bL a=e):Fn Try.prog 26 [(.g [(cI a.aO),(cI a.az),(cI a.sum),(cI a.captured),(cI a.bC),(cI a.bj),(cI a.dq),(cB a.shut)])] (.v (.c (cI e))) []:=by
 refine Fn.mk' 71 [(0,(aG [(cI a.aO),(cI a.az),(cI a.sum),(cI a.captured),(cI a.bC),(cI a.bj),(cI a.dq),(cB a.shut)]))] Try.func26 rfl rfl rfl rfl ?_
 intro W0 T0
 refine ae aa 2 rfl ?_
 refine ah ?_
 refine aH aa 8 rfl ?_
 refine aP 2 [1,0] (ec (ys:=[(0,(.c (cI a.sum))),(1,(.c (cI a.captured))),(2,(.c (cI a.bC))),(3,(.c (cI a.bj)))]) (rows:=([a.sum,a.captured,a.bC,a.bj]).map rI) 1 nt rfl (by decide) ⟨⟨rfl,rfl⟩,⟨rfl,rfl⟩,⟨rfl,rfl⟩,⟨rfl,rfl⟩,trivial⟩ rfl rfl rfl rfl) rfl ?_
 refine aE (dH rfl rfl rfl rfl rfl Try.underlying30) rfl ?_
 refine ad aa 1 rfl ?_
 refine af ?_
 refine aY ?_
 refine cz (β:=Nat) (fun (q:Nat)=>⟨[(1,(aC (.p 0 0 0 0))),(13,(aC (.s 1 0 1 4))),(14,(aI 4)),(15,(aI (↑q:Int)))],[(1,(dS ([a.sum,a.captured,a.bC,a.bj]))),(0,(.box 67 [(cI a.aO),(cI a.az),(cI a.sum),(cI a.captured),(cI a.bC),(cI a.bj),(cI a.dq),(cB a.shut)]))],2⟩) (fun (q:Nat)=>q<=4/\(0 < q->0<=a.sum/\a.sum<=1000000)/\(1 < q->0<=a.captured/\a.captured<=1000000)/\(2 < q->0<=a.bC/\a.bC<=1000000)/\(3 < q->0<=a.bj/\a.bj<=1000000)) (fun (q:Nat)=>4 - q) 0 ?_ ?_ ?_
 ·exact ⟨by omega,by omega,by omega,by omega,by omega⟩
 ·exact aJ.cc id (by refine ⟨?_,?_,?_,?_,trivial⟩<;>first|rfl|(simp only [bn];done)|(congr 3;omega)|(congr 4;omega)|(simp only [bo];rfl)) (by refine ⟨?_,?_,trivial⟩<;>first|rfl|(simp only [bn];done)|(congr 3;omega)|(congr 4;omega)|(simp only [bo];rfl)) rfl
 rintro q ⟨hi0_0,hi0_1,hi0_2,hi0_3,hi0_4⟩
 refine ae aa 1 rfl ?_
 refine ah ?_
 refine an rfl (fun hc1=>?_) (fun hc1=>?_)
 ·
  have hc1':=of_decide_eq_true hc1
  refine aU ?_
  refine ah ?_
  refine aY ?_
  refine eZ ?_
  refine aE (br (i:=q) rfl rfl rfl Try.underlying30 fO (by first|omega|(simp;done)|(simp;omega)) (by first|omega|(simp;done)|(simp;omega))) rfl ?_
  obtain ⟨x1,hx1⟩:=cr (xs:=([a.sum,a.captured,a.bC,a.bj]:List Int)) (i:=q) (by first|omega|(simp;done)|(simp;omega))
  have hx1v:=Jy hx1
  refine aE (eJ rfl rfl rfl Try.underlying3 rfl (bz hx1) rfl) rfl ?_
  refine ad aa 1 rfl ?_
  refine af ?_
  refine cA 24 ((decide (x1 < 0))||(decide (x1 > 1000000))) ?_ ?_
  ·
   refine ay ?_
   refine ad aa 3 rfl ?_
   refine bH (t:=21) rfl (fun hb2=>?_) (fun hb2=>?_)
   ·
    have hb2':=of_decide_eq_true hb2
    refine ad aa 3 rfl ?_
    refine af ?_
    exact aJ.bK 7 rfl rfl (by first|(simp [hb2];done)|(simp_all;done)|(exfalso;simp_all;done)|(simp_all;omega)) rfl
   have hb2':=of_decide_eq_false hb2
   refine ad aa 3 rfl ?_
   refine af ?_
   exact aJ.bK 7 rfl rfl (by first|(simp [hb2];done)|(simp_all;done)|(exfalso;simp_all;done)|(simp_all;omega)) rfl
  refine an rfl (fun hc3=>?_) (fun hc3=>?_)
  ·
   have hc3':=hc3;try simp only [bA,bW] at hc3'
   refine ae aa 1 rfl ?_
   refine aA ?_
   refine bm ?_
   refine ax ?_
   refine ax ?_
   refine bm ?_
   refine ax ?_
   have hX:bL a=3:=by
     (unfold bL;try dsimp only);(repeat' split)<;>first|rfl|omega|(exfalso;omega)|(subst_vars;rfl)|(simp_all;done)|(simp_all;omega)
   rw [hX] at hr;clear hX
   subst hr
   refine aw aa [] 0 rfl rfl rfl rfl rfl rfl ?_ ?_
   all_goals first|rfl|(simp [aD];done)|(simp [aD];omega)
  have hc3':=hc3;try simp only [bA,bW] at hc3'
  refine dg ?_
  refine bq ?_
  refine then_ok ?_
  refine ay ?_
  refine aE (aN rfl rfl rfl (aK (by first|omega|(simp;done)|(simp;omega)))) rfl ?_
  refine ad aa 1 rfl ?_
  refine af ?_
  refine ⟨q+1,⟨by omega,by omega,by omega,by omega,by omega⟩,by first|omega|(simp;done)|(simp;omega),aJ.cc id (by refine ⟨?_,?_,?_,?_,trivial⟩<;>first|rfl|(simp only [bn];done)|(congr 3;omega)|(congr 4;omega)|(simp only [bo];rfl)) (by refine ⟨?_,?_,trivial⟩<;>first|rfl|(simp only [bn];done)|(congr 3;omega)|(congr 4;omega)|(simp only [bo];rfl)) rfl⟩
 have hc1':=of_decide_eq_false hc1
 refine cp ?_
 refine aR ?_
 refine aR ?_
 refine bM ?_
 refine then_ok ?_
 refine ah ?_
 refine aY ?_
 refine cA 26 ((((((decide (a.aO < 0))||(decide (a.aO>=8)))||(decide (a.az < 0)))||(decide (a.az>=8)))||(decide (a.dq < 0)))||(decide (a.dq > 1000100))) ?_ ?_
 ·
  refine ay ?_
  refine ad aa 4 rfl ?_
  refine bH (t:=30) rfl (fun hb4=>?_) (fun hb4=>?_)
  ·
   have hb4':=of_decide_eq_true hb4
   refine ad aa 25 rfl ?_
   refine af ?_
   exact aJ.bK 30 rfl rfl (by first|(simp [hb4];done)|(simp_all;done)|(exfalso;simp_all;done)|(simp_all;omega)) rfl
  have hb4':=of_decide_eq_false hb4
  refine ad aa 5 rfl ?_
  refine bH (t:=35) rfl (fun hb5=>?_) (fun hb5=>?_)
  ·
   have hb5':=of_decide_eq_true hb5
   refine ad aa 20 rfl ?_
   refine af ?_
   exact aJ.bK 31 rfl rfl (by first|(simp [hb4,hb5];done)|(simp_all;done)|(exfalso;simp_all;done)|(simp_all;omega)) rfl
  have hb5':=of_decide_eq_false hb5
  refine ad aa 5 rfl ?_
  refine bH (t:=40) rfl (fun hb6=>?_) (fun hb6=>?_)
  ·
   have hb6':=of_decide_eq_true hb6
   refine ad aa 15 rfl ?_
   refine af ?_
   exact aJ.bK 32 rfl rfl (by first|(simp [hb4,hb5,hb6];done)|(simp_all;done)|(exfalso;simp_all;done)|(simp_all;omega)) rfl
  have hb6':=of_decide_eq_false hb6
  refine ad aa 5 rfl ?_
  refine bH (t:=45) rfl (fun hb7=>?_) (fun hb7=>?_)
  ·
   have hb7':=of_decide_eq_true hb7
   refine ad aa 10 rfl ?_
   refine af ?_
   exact aJ.bK 33 rfl rfl (by first|(simp [hb4,hb5,hb6,hb7];done)|(simp_all;done)|(exfalso;simp_all;done)|(simp_all;omega)) rfl
  have hb7':=of_decide_eq_false hb7
  refine ad aa 5 rfl ?_
  refine bH (t:=50) rfl (fun hb8=>?_) (fun hb8=>?_)
  ·
   have hb8':=of_decide_eq_true hb8
   refine ad aa 5 rfl ?_
   refine af ?_
   exact aJ.bK 34 rfl rfl (by first|(simp [hb4,hb5,hb6,hb7,hb8];done)|(simp_all;done)|(exfalso;simp_all;done)|(simp_all;omega)) rfl
  have hb8':=of_decide_eq_false hb8
  refine ad aa 5 rfl ?_
  refine af ?_
  exact aJ.bK 34 rfl rfl (by first|(simp [hb4,hb5,hb6,hb7,hb8];done)|(simp_all;done)|(exfalso;simp_all;done)|(simp_all;omega)) rfl
 refine an rfl (fun hc9=>?_) (fun hc9=>?_)
 ·
  have hc9':=hc9;try simp only [bA,bW] at hc9'
  refine ae aa 1 rfl ?_
  refine aA ?_
  refine bm ?_
  refine ax ?_
  have hX:bL a=3:=by
    (unfold bL;try dsimp only);(repeat' split)<;>first|rfl|omega|(exfalso;omega)|(subst_vars;rfl)|(simp_all;done)|(simp_all;omega)
  rw [hX] at hr;clear hX
  subst hr
  refine aw aa [] 0 rfl rfl rfl rfl rfl rfl ?_ ?_
  all_goals first|rfl|(simp [aD];done)|(simp [aD];omega)
 have hc9':=hc9;try simp only [bA,bW] at hc9'
 refine cA 55 ((decide (a.captured > a.sum))||(decide ((a.bC+a.bj) > a.captured))) ?_ ?_
 ·
  refine ay ?_
  refine ad aa 6 rfl ?_
  refine bH (t:=61) rfl (fun hb10=>?_) (fun hb10=>?_)
  ·
   have hb10':=of_decide_eq_true hb10
   refine ad aa 10 rfl ?_
   refine af ?_
   exact aJ.bK 17 rfl rfl (by first|(simp [hb10];done)|(simp_all;done)|(exfalso;simp_all;done)|(simp_all;omega)) rfl
  have hb10':=of_decide_eq_false hb10
  refine ad aa 4 rfl ?_
  refine dG (aq.yes rfl rfl rfl) (aN rfl rfl rfl (aK (by first|omega|(simp;done)|(simp;omega)))) rfl rfl ?_
  refine ad aa 5 rfl ?_
  refine af ?_
  exact aJ.bK 17 rfl rfl (by first|(simp [hb10];done)|(simp_all;done)|(exfalso;simp_all;done)|(simp_all;omega)) rfl
 refine an rfl (fun hc11=>?_) (fun hc11=>?_)
 ·
  have hc11':=hc11;try simp only [bA,bW] at hc11'
  refine ae aa 1 rfl ?_
  refine aA ?_
  refine bm ?_
  refine ax ?_
  have hX:bL a=8:=by
    (unfold bL;try dsimp only);(repeat' split)<;>first|rfl|omega|(exfalso;omega)|(subst_vars;rfl)|(simp_all;done)|(simp_all;omega)
  rw [hX] at hr;clear hX
  subst hr
  refine aw aa [] 0 rfl rfl rfl rfl rfl rfl ?_ ?_
  all_goals first|rfl|(simp [aD];done)|(simp [aD];omega)
 have hc11':=hc11;try simp only [bA,bW] at hc11'
 refine dg ?_
 refine bq ?_
 refine then_ok ?_
 refine ae aa 1 rfl ?_
 refine aA ?_
 have hX:bL a=0:=by
   (unfold bL;try dsimp only);(repeat' split)<;>first|rfl|omega|(exfalso;omega)|(subst_vars;rfl)|(simp_all;done)|(simp_all;omega)
 rw [hX] at hr;clear hX
 subst hr
 refine aw aa [] 0 rfl rfl rfl rfl rfl rfl ?_ ?_
 all_goals first|rfl|(simp [aD];done)|(simp [aD];omega)
theorem tz (aO az n time:Int) (b:bl) (e:Int) (hr:dp aO az n time=(b,e)):Fn Try.prog 79 [(.c (cI aO)),(.c (cI az)),(.c (cI n)),(.c (cI time))] (.t [(.g [(cI b.aO),(cI b.az),(cI b.sum),(cI b.captured),(cI b.bC),(cI b.bj),(cI b.dq),(cB b.shut)]),(.c (cI e))]) []:=by
 refine Fn.mk' 40 [(0,(aI aO)),(1,(aI az)),(2,(aI n)),(3,(aI time))] Try.func79 rfl rfl rfl rfl ?_
 intro W0 T0
 refine ae aa 2 rfl ?_
 refine ah ?_
 refine cA 25 ((((decide (n < 1))||(decide (n > 1000000)))||(decide (time < 0)))||(decide (time > 1000000))) ?_ ?_
 ·
  refine ay ?_
  refine ad aa 3 rfl ?_
  refine bH (t:=14) rfl (fun hb1=>?_) (fun hb1=>?_)
  ·
   have hb1':=of_decide_eq_true hb1
   refine ad aa 11 rfl ?_
   refine af ?_
   exact aJ.bK 15 rfl rfl (by first|(simp [hb1];done)|(simp_all;done)|(exfalso;simp_all;done)|(simp_all;omega)) rfl
  have hb1':=of_decide_eq_false hb1
  refine ad aa 4 rfl ?_
  refine bH (t:=18) rfl (fun hb2=>?_) (fun hb2=>?_)
  ·
   have hb2':=of_decide_eq_true hb2
   refine ad aa 7 rfl ?_
   refine af ?_
   exact aJ.bK 16 rfl rfl (by first|(simp [hb1,hb2];done)|(simp_all;done)|(exfalso;simp_all;done)|(simp_all;omega)) rfl
  have hb2':=of_decide_eq_false hb2
  refine ad aa 4 rfl ?_
  refine bH (t:=22) rfl (fun hb3=>?_) (fun hb3=>?_)
  ·
   have hb3':=of_decide_eq_true hb3
   refine ad aa 3 rfl ?_
   refine af ?_
   exact aJ.bK 17 rfl rfl (by first|(simp [hb1,hb2,hb3];done)|(simp_all;done)|(exfalso;simp_all;done)|(simp_all;omega)) rfl
  have hb3':=of_decide_eq_false hb3
  refine ad aa 3 rfl ?_
  refine af ?_
  exact aJ.bK 17 rfl rfl (by first|(simp [hb1,hb2,hb3];done)|(simp_all;done)|(exfalso;simp_all;done)|(simp_all;omega)) rfl
 refine an rfl (fun hc4=>?_) (fun hc4=>?_)
 ·
  have hc4':=hc4;try simp only [bA,bW] at hc4'
  refine ae aa 3 rfl ?_
  refine aA ?_
  refine ax ?_
  have hX:dp aO az n time=((⟨0,0,0,0,0,0,0,false⟩:bl),3):=by
    (try (unfold bL at hr0;dsimp only at hr0;(repeat' split at hr0)))<;>((unfold dp;try dsimp only);(repeat' split)<;>first|rfl|omega|(exfalso;omega)|(subst_vars;rfl)|(simp_all;done)|(simp_all;omega))
  rw [hX] at hr;clear hX
  simp only [Prod.mk.injEq] at hr;obtain ⟨rfl,rfl⟩:=hr
  refine aw aa [0] 0 rfl rfl rfl rfl rfl rfl ?_ ?_
  all_goals first|rfl|(simp [aD];done)|(simp [aD];omega)
 have hc4':=hc4;try simp only [bA,bW] at hc4'
 refine aU ?_
 refine aH aa 4 rfl ?_
 refine aE (aN rfl rfl rfl (aK (by first|omega|(simp;done)|(simp;omega)))) rfl ?_
 refine ad aa 3 rfl ?_
 refine af ?_
 refine ah ?_
 refine aH aa 1 rfl ?_
 obtain ⟨e0,hr0⟩:∃ (e0:Int),bL (⟨aO,az,n,0,0,0,time+100,false⟩:bl)=e0:=⟨_,rfl⟩
 refine aP 2 [1,0] (ch 2 (qh (⟨aO,az,n,0,0,0,time+100,false⟩:bl) e0 hr0) HD rfl rfl ⟨⟨_,rfl,.g ⟨.d _,.d _,.d _,.d _,.d _,.d _,.d _,.d _,trivial⟩⟩,trivial⟩ trivial trivial rfl rfl rfl rfl) rfl ?_
 refine ad aa 1 rfl ?_
 refine af ?_
 refine ae aa 2 rfl ?_
 refine an rfl (fun hc5=>?_) (fun hc5=>?_)
 ·
  have hc5':=of_decide_eq_true hc5
  refine ae aa 4 rfl ?_
  refine aA ?_
  refine ax ?_
  have hX:dp aO az n time=((⟨0,0,0,0,0,0,0,false⟩:bl),e0):=by
    (try (unfold bL at hr0;dsimp only at hr0;(repeat' split at hr0)))<;>((unfold dp;try dsimp only);(repeat' split)<;>first|rfl|omega|(exfalso;omega)|(subst_vars;rfl)|(simp_all;done)|(simp_all;omega))
  rw [hX] at hr;clear hX
  simp only [Prod.mk.injEq] at hr;obtain ⟨rfl,rfl⟩:=hr
  refine aw aa [0] 0 rfl rfl rfl rfl rfl rfl ?_ ?_
  all_goals first|rfl|(simp [aD];done)|(simp [aD];omega)
 have hc5':=of_decide_eq_false hc5
 refine aU ?_
 refine ae aa 3 rfl ?_
 refine aA ?_
 have hX:dp aO az n time=((⟨aO,az,n,0,0,0,time+100,false⟩:bl),0):=by
   (try (unfold bL at hr0;dsimp only at hr0;(repeat' split at hr0)))<;>((unfold dp;try dsimp only);(repeat' split)<;>first|rfl|omega|(exfalso;omega)|(subst_vars;rfl)|(simp_all;done)|(simp_all;omega))
 rw [hX] at hr;clear hX
 simp only [Prod.mk.injEq] at hr;obtain ⟨rfl,rfl⟩:=hr
 refine aw aa [0] 0 rfl rfl rfl rfl rfl rfl ?_ ?_
 all_goals first|rfl|(simp [aD];done)|(simp [aD];omega)
end Go.Proofs.Ytegepioggeggaaa.Dev
