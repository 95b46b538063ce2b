/- A part of the proof: Pace5, Card1, Card2, Card3, Del2, Post1, Post2, Post3, Auth1. No condition. -/
import Derived.Test.YtegepioggeggaaaD07
set_option linter.unusedVariables false
set_option linter.unusedSimpArgs false
set_option maxHeartbeats 1000000
set_option maxRecDepth 100000
namespace Go.Proofs.Ytegepioggeggaaa.Dev
open Go.RowKit

theorem yZ (p:ew) (l:List de) (x:de) (r:List de) (e:Int) (hr:ed p l x=(r,e)):Fn Try.prog 100 [(.g [(cI p.cG),(cI p.count),(cI p.sum)]),(.c (eL l)),(.g [(cI x.time),(cI x.sum)])] (.t [(.c (.s 0 0 2 r.length)),(.c (cI e))]) [(0,(pA r))]:=by
 refine Fn.mk' 87 [(0,(aG [(cI p.cG),(cI p.count),(cI p.sum)])),(1,(aC (eL l))),(2,(aG [(cI x.time),(cI x.sum)]))] Try.func100 rfl rfl rfl rfl ?_
 intro W0 T0
 refine dq 1 rfl (fun hlen1=>?_)
 have hrp:=@oM p
 have hru:(fa l).err=0->l.length<=30:=fun h=>(jV h).1
 have hrx:(fa [x]).err=0->0<=x.time/\x.time<=1000000/\0<=x.sum/\x.sum<=1000000:=fun h=>(@jV [x] h).2 x (by simp)
 refine ae aa 4 rfl ?_
 refine ag ?_
 refine aH aa 1 rfl ?_
 obtain ⟨e0,hr0⟩:∃ (e0:Int),ft p=e0:=⟨_,rfl⟩
 refine aT 2 [1,0] (bU 2 (lf p e0 hr0) Cf rfl rfl ⟨⟨_,rfl,.g ⟨.d _,.d _,.d _,trivial⟩⟩,trivial⟩ trivial trivial rfl rfl rfl rfl) rfl ?_
 refine ad aa 1 rfl ?_
 refine af ?_
 refine ae aa 2 rfl ?_
 refine aj rfl (fun hc1=>?_) (fun hc1=>?_)
 ·
  have hc1':=of_decide_eq_true hc1
  refine ae aa 3 rfl ?_
  refine aA ?_
  refine ax ?_
  refine dh (aF.nil 6 125 2 (by decide) rfl) ?_
  have hX:ed p l x=(([]:List de),e0):=by
    unfold ed;rw [if_pos (by omega),hr0]
  rw [hX] at hr;clear hX
  simp only [Prod.mk.injEq] at hr;obtain ⟨rfl,rfl⟩:=hr
  refine aq aa [2] 1 rfl rfl rfl rfl rfl rfl ?_ ?_
  all_goals first|rfl|(simp [aD];done)|(simp [aD];omega)
 have hc1':=of_decide_eq_false hc1
 refine aQ ?_
 refine ag ?_
 refine aH aa 2 rfl ?_
 refine aT 3 [2,1,0] (ec (ys:=[(0,(.g [(cI x.time),(cI x.sum)]))]) (rows:=([x]).map ia) 2 oH rfl (by decide) ⟨⟨rfl,rfl⟩,trivial⟩ rfl rfl rfl rfl) rfl ?_
 refine ur (s':=[(0,(aG [(cI p.cG),(cI p.count),(cI p.sum)])),(1,(aC (eL l))),(2,(aG [(cI x.time),(cI x.sum)])),(3,(aC (.p 0 0 0 0))),(5,(aC (.p 1 0 0 0))),(6,(aC cN)),(7,(aI 0)),(17,(aG [(cI p.cG),(cI p.count),(cI p.sum)])),(18,(aI e0)),(8,(aI e0)),(19,(aI e0)),(20,(aB (decide (¬e0=0)))),(22,(aC (eL l))),(23,(aG [(cI x.time),(cI x.sum)])),(24,(aC (eL ([x]))))]) (h':=[(1,(.box 125 [(cI x.time),(cI x.sum)])),(0,(.box 58 [(cI p.cG),(cI p.count),(cI p.sum)]))]) 2 rfl ⟨⟨_,rfl,.inl ⟨rfl,rfl⟩⟩,⟨_,rfl,.inl ⟨rfl,rfl⟩⟩,⟨_,rfl,.inl ⟨rfl,rfl⟩⟩,⟨_,rfl,.inl ⟨rfl,rfl⟩⟩,⟨_,rfl,.inl ⟨rfl,rfl⟩⟩,⟨_,rfl,.inl ⟨rfl,rfl⟩⟩,⟨_,rfl,.inl ⟨rfl,rfl⟩⟩,⟨_,rfl,.inl ⟨rfl,rfl⟩⟩,⟨_,rfl,.inl ⟨rfl,rfl⟩⟩,⟨_,rfl,.inl ⟨rfl,rfl⟩⟩,⟨_,rfl,.inl ⟨rfl,rfl⟩⟩,⟨_,rfl,.inl ⟨rfl,rfl⟩⟩,⟨_,rfl,.inl ⟨rfl,rfl⟩⟩,⟨_,rfl,.inl ⟨rfl,rfl⟩⟩,⟨_,rfl,.inr ⟨_,_,rfl,rfl,.s rfl (by decide) (by first|omega|(simp;done)|(simp;omega))⟩⟩,trivial⟩ ⟨rfl,rfl,trivial⟩ rfl ?_
 refine aT 4 [3,1,0] (ec (ys:=[(0,(.c (eL l))),(1,(.c (eL ([x]))))]) (rows:=([l,[x]]).map uG) 3 FE rfl (by decide) ⟨⟨rfl,rfl⟩,⟨rfl,rfl⟩,trivial⟩ rfl rfl rfl rfl) rfl ?_
 refine az (dy rfl rfl rfl rfl rfl Try.underlying181) rfl ?_
 refine ad aa 1 rfl ?_
 refine af ?_
 refine aR ?_
 refine ch (β:=Nat) (fun (q:Nat)=>⟨[(1,(aC (eL l))),(3,(aC (.p 0 0 0 0))),(5,(aC (.p 1 0 0 0))),(25,(aC (.s 3 0 1 2))),(26,(aI 2)),(27,(aI (↑q:Int)))],[(3,(.arr 59 1 (([l,[x]]).map uG))),(1,(.box 125 [(cI x.time),(cI x.sum)])),(0,(.box 58 [(cI p.cG),(cI p.count),(cI p.sum)]))],4⟩) (fun (q:Nat)=>q<=2/\(0 < q->(fa l).err=0)/\(1 < q->(fa [x]).err=0)) (fun (q:Nat)=>2 - q) 0 ?_ ?_ ?_
 ·exact ⟨by omega,by omega,by omega⟩
 ·exact aF.bL id (by refine ⟨?_,?_,?_,?_,?_,?_,trivial⟩<;>first|rfl|(simp only [ba];done)|(congr 3;omega)|(congr 4;omega)|(simp only [bb];rfl)) (by refine ⟨?_,?_,?_,trivial⟩<;>first|rfl|(simp only [ba];done)|(congr 3;omega)|(congr 4;omega)|(simp only [bb];rfl)) rfl
 rintro q ⟨hi0_0,hi0_1,hi0_2⟩
 refine ae aa 1 rfl ?_
 refine ag ?_
 refine aj rfl (fun hc2=>?_) (fun hc2=>?_)
 ·
  have hc2':=of_decide_eq_true hc2
  refine aQ ?_
  refine ag ?_
  refine aR ?_
  refine eK ?_
  refine az (bz (i:=q) rfl rfl rfl Try.underlying181 GH (by first|omega|(simp;done)|(simp;omega)) (by first|omega|(simp;done)|(simp;omega))) rfl ?_
  obtain ⟨x1,hx1⟩:=cg (xs:=([l,[x]]:List (List de))) (i:=q) (by first|omega|(simp;done)|(simp;omega))
  have hx1v:=Ek hx1
  refine az (eQ rfl rfl rfl Try.underlying59 rfl (bj hx1) rfl) rfl ?_
  refine ad aa 1 rfl ?_
  refine af ?_
  refine aH aa 1 rfl ?_
  obtain ⟨f1,hr1⟩:∃ (f1:dc),fa x1=f1:=⟨_,rfl⟩
  refine aT 4 [3,1,0] (bU 4 (pq x1 f1 hr1) ET rfl rfl ⟨⟨_,rfl,.c (.d _)⟩,trivial⟩ ⟨trivial,trivial,trivial⟩ trivial rfl rfl rfl rfl) rfl ?_
  refine ad aa 2 rfl ?_
  refine af ?_
  refine ae aa 3 rfl ?_
  refine aj rfl (fun hc3=>?_) (fun hc3=>?_)
  ·
   have hc3':=of_decide_eq_true hc3
   refine ag ?_
   refine aX [1,3,5,25,26,27,11] [4,3,1,0] mixed rfl rfl ?_
   refine ay (kn:=[]) aa 4 rfl trivial ?_
   refine bw [4,3,1,0] rfl rfl rfl rfl (by kernel_rfl) ?_
   refine af ?_
   refine aA ?_
   refine bp ?_
   refine ax ?_
   refine ax ?_
   refine bp ?_
   refine ax ?_
   refine dh (aF.nil 6 125 2 (by decide) rfl) ?_
   have hX:ed p l x=(([]:List de),f1.err):=by
     unfold ed;rcases hx1v with ⟨hq,hx⟩|⟨hq,hx⟩<;>subst hx
     ·rw [if_neg (by omega),if_pos (by rw [hr1];omega),hr1]
     ·rw [if_neg (by omega),if_neg (by have:=hi0_1 (by omega);omega),if_pos (by rw [hr1];omega),hr1]
   rw [hX] at hr;clear hX
   simp only [Prod.mk.injEq] at hr;obtain ⟨rfl,rfl⟩:=hr
   refine aq aa [5] 1 rfl rfl rfl rfl rfl rfl ?_ ?_
   all_goals first|rfl|(simp [aD];done)|(simp [aD];omega)
  have hc3':=of_decide_eq_false hc3
  refine cE ?_
  refine bf ?_
  refine then_ok ?_
  refine aw ?_
  refine az (aK rfl rfl rfl (aL (by first|omega|(simp;done)|(simp;omega)))) rfl ?_
  refine ad aa 1 rfl ?_
  refine af ?_
  refine ⟨q+1,⟨by omega,(fun h=>by rcases hx1v with ⟨hq,hx⟩|⟨hq,hx⟩<;>first|(exact hi0_1 (by omega))|(subst hx;rw [hr1];omega)),(fun h=>by rcases hx1v with ⟨hq,hx⟩|⟨hq,hx⟩<;>first|(exfalso;omega)|(subst hx;rw [hr1];omega))⟩,by first|omega|(simp;done)|(simp;omega),aF.bL id (by refine ⟨?_,?_,?_,?_,?_,?_,trivial⟩<;>first|rfl|(simp only [ba];done)|(congr 3;omega)|(congr 4;omega)|(simp only [bb];rfl)) (by refine ⟨?_,?_,?_,trivial⟩<;>first|rfl|(simp only [ba];done)|(congr 3;omega)|(congr 4;omega)|(simp only [bb];rfl)) rfl⟩
 have hc2':=of_decide_eq_false hc2
 refine bT ?_
 refine aN ?_
 refine aN ?_
 refine bA ?_
 refine then_ok ?_
 refine ag ?_
 refine aH aa 1 rfl ?_
 refine az (bP rfl rfl rfl rfl rfl Try.underlying59) rfl ?_
 refine az (aK rfl rfl rfl (aL (by first|omega|(simp;done)|(simp;omega)))) rfl ?_
 refine ad aa 1 rfl ?_
 refine af ?_
 refine ag ?_
 rcases Bool.eq_false_or_eq_true (decide (((↑l.length:Int) - 1)>=0)) with hb4|hb4
 ·
  have hb4':=of_decide_eq_true hb4
  obtain ⟨x1,hx1⟩:=cg (xs:=l) (i:=(l.length) - 1) (by first|omega|(simp;done)|(simp;omega))
  refine aX [1,3,5,25,26,27,12] [3,1,0] mixed rfl rfl ?_
  refine ay (kn:=[(43,true)]) aa 5 rfl ⟨hb4,trivial⟩ ?_
  refine aP (n':=4) [45,46,44] [] rfl rfl (.inl ⟨(ah.yes rfl rfl rfl),aJ.cast (bX (i:=(l.length) - 1) rfl rfl rfl Try.underlying59 hM (by first|omega|(simp;done)|(simp;omega)) (bj hx1)) rfl⟩) rfl ?_
  refine ay (kn:=[]) aa 6 rfl trivial ?_
  refine bw [3,1,0] rfl rfl rfl rfl (by kernel_rfl) ?_
  refine af ?_
  refine aj rfl (fun hc5=>?_) (fun hc5=>?_)
  ·
   have hc5':=of_decide_eq_true hc5
   refine ae aa 2 rfl ?_
   refine aA ?_
   refine ax ?_
   refine dh (aF.nil 6 125 2 (by decide) rfl) ?_
   have hX:ed p l x=(([]:List de),2):=by
     unfold ed;rw [if_neg (by omega),if_neg (by have:=hi0_1 (by omega);omega),if_neg (by have:=hi0_2 (by omega);omega),if_pos (by rw [mU hx1,decide_eq_true_eq];omega)]
   rw [hX] at hr;clear hX
   simp only [Prod.mk.injEq] at hr;obtain ⟨rfl,rfl⟩:=hr
   refine aq aa [4] 1 rfl rfl rfl rfl rfl rfl ?_ ?_
   all_goals first|rfl|(simp [aD];done)|(simp [aD];omega)
  have hc5':=of_decide_eq_false hc5
  refine aQ ?_
  refine aH aa 4 rfl ?_
  obtain ⟨r2,hr2⟩:∃ (r2:List de),dM p l x.time=r2:=⟨_,rfl⟩
  refine aT 5 [4,3,1,0] (bU 4 (oz p l x.time (by first|assumption|omega|(have q1:=oM (hr2.trans (by omega));have q2:=uses1 (x:=x) (by simp_all);omega)) (by first|assumption|omega) r2 hr2) CP rfl rfl ⟨⟨_,rfl,.g ⟨.d _,.d _,.d _,trivial⟩⟩,⟨_,rfl,.c (.d _)⟩,⟨_,rfl,.c (.d _)⟩,trivial⟩ trivial ⟨(fun _ _ _ _=>trivial),trivial⟩ rfl rfl rfl rfl) rfl ?_
  refine ad aa 1 rfl ?_
  refine af ?_
  refine ae aa 3 rfl ?_
  refine ag ?_
  refine aH aa 1 rfl ?_
  refine az (dy rfl rfl rfl rfl rfl Try.underlying59) rfl ?_
  refine ad aa 1 rfl ?_
  refine af ?_
  refine aR ?_
  refine ch (β:=Nat) (fun (k:Nat)=>⟨[(1,(aC (eL l))),(3,(aC (.p 0 0 0 0))),(5,(aC (.p 1 0 0 0))),(25,(aC (.s 3 0 1 2))),(26,(aI 2)),(27,(aI (↑q:Int))),(13,(aC (.s 4 0 2 r2.length))),(14,(aI (x.sum+hZ ((r2).take k)))),(61,(aC (.s 4 0 2 r2.length))),(62,(aI (↑r2.length:Int))),(63,(aI (↑k:Int)))],[(4,(pA r2)),(3,(.arr 59 1 (([l,[x]]).map uG))),(1,(.box 125 [(cI x.time),(cI x.sum)])),(0,(.box 58 [(cI p.cG),(cI p.count),(cI p.sum)]))],5⟩) (fun (k:Nat)=>k<=(r2).length) (fun (k:Nat)=>(r2).length - k) 0 ?_ ?_ ?_
  ·exact (by omega)
  ·exact aF.bL id (by refine ⟨?_,?_,?_,?_,?_,?_,?_,?_,?_,?_,?_,trivial⟩<;>first|rfl|(simp only [ba];done)|(congr 3;omega)|(congr 4;omega)|(simp only [bb];rfl)|((rw [List.take_zero,hZ,Int.add_zero];rfl))) (by refine ⟨?_,?_,?_,?_,trivial⟩<;>first|rfl|(simp only [ba];done)|(congr 3;omega)|(congr 4;omega)|(simp only [bb];rfl)) rfl
  rintro k hi1_0
  have hsb:=qb (p:=p) (l:=l) (t:=x.time) (k:=k) (hi0_1 (by omega))
  rw [hr2] at hsb
  have hrl:(r2).length<=30:=by rw [<-hr2];exact Nat.le_trans (oV _ _) (hru (hi0_1 (by omega)))
  refine ae aa 1 rfl ?_
  refine ag ?_
  refine aj rfl (fun hc6=>?_) (fun hc6=>?_)
  ·
   have hc6':=of_decide_eq_true hc6
   refine aQ ?_
   refine ag ?_
   refine aR ?_
   refine eK ?_
   refine az (bz (i:=k) rfl rfl rfl Try.underlying59 hM (by first|omega|(simp;done)|(simp;omega)) (by first|omega|(simp;done)|(simp;omega))) rfl ?_
   obtain ⟨x2,hx2⟩:=cg (xs:=r2) (i:=k) (by first|omega|(simp;done)|(simp;omega))
   have hx2v:=(jV (hi0_1 (by omega))).2 x2 (ku (hr2.symm▸List.mem_of_getElem? hx2:x2∈dM p l x.time))
   refine az (dr rfl rfl rfl Try.underlying125 rfl hM (bj hx2) rfl) rfl ?_
   refine ad aa 2 rfl ?_
   refine af ?_
   refine aw ?_
   refine ad aa 3 rfl ?_
   refine az (aK rfl rfl rfl (aL (by first|omega|(simp;done)|(simp;omega)))) rfl ?_
   refine ad aa 1 rfl ?_
   refine cf ?_
   refine bf ?_
   refine then_ok ?_
   refine aw ?_
   refine az (aK rfl rfl rfl (aL (by first|omega|(simp;done)|(simp;omega)))) rfl ?_
   refine ad aa 1 rfl ?_
   refine af ?_
   refine ⟨k+1,by first|omega|trivial,by first|omega|(simp;done)|(simp;omega),aF.bL id (by refine ⟨?_,?_,?_,?_,?_,?_,?_,?_,?_,?_,?_,trivial⟩<;>first|rfl|(simp only [ba];done)|(congr 3;omega)|(congr 4;omega)|(simp only [bb];rfl)|(first|(rw [gV hx2,kP,<-Int.add_assoc];rfl)|(rw [gV hx1,kP,<-Int.add_assoc];rfl))) (by refine ⟨?_,?_,?_,?_,trivial⟩<;>first|rfl|(simp only [ba];done)|(congr 3;omega)|(congr 4;omega)|(simp only [bb];rfl)) rfl⟩
  have hc6':=of_decide_eq_false hc6
  refine bT ?_
  refine aN ?_
  refine aN ?_
  refine bA ?_
  refine then_ok ?_
  refine ag ?_
  refine cr 82 ((decide ((↑r2.length:Int)>=p.count))||(decide ((x.sum+hZ ((r2).take k)) > p.sum))) ?_ ?_
  ·
   refine aw ?_
   refine ad aa 1 rfl ?_
   refine az (dy rfl rfl rfl rfl rfl Try.underlying59) rfl ?_
   refine ad aa 4 rfl ?_
   refine bK (t:=77) rfl (fun hb7=>?_) (fun hb7=>?_)
   ·
    have hb7':=of_decide_eq_true hb7
    refine ad aa 5 rfl ?_
    refine af ?_
    exact aF.bF 12 rfl rfl (by first|(simp [hb7];done)|(simp_all;done)|(exfalso;simp_all;done)|(simp_all;omega)) rfl
   have hb7':=of_decide_eq_false hb7
   refine ad aa 5 rfl ?_
   refine af ?_
   exact aF.bF 12 rfl rfl (by first|(simp [hb7];done)|(simp_all;done)|(exfalso;simp_all;done)|(simp_all;omega)) rfl
  refine aj rfl (fun hc8=>?_) (fun hc8=>?_)
  ·
   have hc8':=hc8;try simp only [bx,bV] at hc8'
   refine ae aa 2 rfl ?_
   refine aA ?_
   refine ax ?_
   refine dh (aF.nil 6 125 2 (by decide) rfl) ?_
   have hX:ed p l x=(([]:List de),11):=by
     have hlate:gY l x.time=false:=by first|(rw [mU hx1];simp;omega)|(have:l=[]:=List.eq_nil_of_length_eq_zero (by omega);subst this;rfl)
     have hk:(r2).take k=r2:=List.take_of_length_le (by omega)
     rw [hk] at hc8'
     unfold ed;rw [if_neg (by omega),if_neg (by have:=hi0_1 (by omega);omega),if_neg (by have:=hi0_2 (by omega);omega),if_neg (by rw [hlate];simp),hr2,if_pos (by omega)]
   rw [hX] at hr;clear hX
   simp only [Prod.mk.injEq] at hr;obtain ⟨rfl,rfl⟩:=hr
   refine aq aa [5] 1 rfl rfl rfl rfl rfl rfl ?_ ?_
   all_goals first|rfl|(simp [aD];done)|(simp [aD];omega)
  have hc8':=hc8;try simp only [bx,bV] at hc8'
  refine aQ ?_
  refine aH aa 2 rfl ?_
  refine aT 6 [5,4,3,1,0] (ec (ys:=[(0,(.g [(cI x.time),(cI x.sum)]))]) (rows:=([x]).map ia) 5 oH rfl (by decide) ⟨⟨rfl,rfl⟩,trivial⟩ rfl rfl rfl rfl) rfl ?_
  refine aT 7 [6,5,3,1,0] (dE (m:=1) (N:=r2.length+1) (k2:=6) (ys:=([x]).map ia) oH rfl rfl rfl rfl rfl rfl (by first|omega|(simp;done)|(simp;omega)) rfl (.s rfl (by first|omega|(simp;done)|(simp;omega))) (by first|omega|(simp;done)|(simp;omega)) (by first|omega|(simp;done)|(simp;omega)) fM (by decide) (by first|omega|(simp;done)|(simp;omega)) (by first|omega|(simp;done)|(simp;omega))) rfl ?_
  refine ad aa 2 rfl ?_
  refine af ?_
  refine aA ?_
  have hX:ed p l x=(r2++([x]),0):=by
    have hlate:gY l x.time=false:=by first|(rw [mU hx1];simp;omega)|(have:l=[]:=List.eq_nil_of_length_eq_zero (by omega);subst this;rfl)
    have hk:(r2).take k=r2:=List.take_of_length_le (by omega)
    rw [hk] at hc8'
    unfold ed;rw [if_neg (by omega),if_neg (by have:=hi0_1 (by omega);omega),if_neg (by have:=hi0_2 (by omega);omega),if_neg (by rw [hlate];simp),hr2,if_neg (by omega)]
  rw [hX] at hr;clear hX
  simp only [Prod.mk.injEq] at hr;obtain ⟨rfl,rfl⟩:=hr
  refine aq aa [6] 1 rfl rfl rfl rfl rfl rfl ?_ ?_
  all_goals first|rfl|(simp [aD];done)|(simp [aD];omega)
 have hb4':=of_decide_eq_false hb4
 refine aX [1,3,5,25,26,27,12] [3,1,0] mixed rfl rfl ?_
 refine ay (kn:=[(43,false)]) aa 12 rfl ⟨hb4,trivial⟩ ?_
 refine bw [3,1,0] rfl rfl rfl rfl (by kernel_rfl) ?_
 refine af ?_
 refine aj rfl (fun hno=>by cases hno) (fun _=>?_)
 refine aQ ?_
 refine aH aa 4 rfl ?_
 obtain ⟨r3,hr3⟩:∃ (r3:List de),dM p l x.time=r3:=⟨_,rfl⟩
 refine aT 5 [4,3,1,0] (bU 4 (oz p l x.time (by first|assumption|omega|(have q1:=oM (hr2.trans (by omega));have q2:=uses1 (x:=x) (by simp_all);omega)) (by first|assumption|omega) r3 hr3) CP rfl rfl ⟨⟨_,rfl,.g ⟨.d _,.d _,.d _,trivial⟩⟩,⟨_,rfl,.c (.d _)⟩,⟨_,rfl,.c (.d _)⟩,trivial⟩ trivial ⟨(fun _ _ _ _=>trivial),trivial⟩ rfl rfl rfl rfl) rfl ?_
 refine ad aa 1 rfl ?_
 refine af ?_
 refine ae aa 3 rfl ?_
 refine ag ?_
 refine aH aa 1 rfl ?_
 refine az (dy rfl rfl rfl rfl rfl Try.underlying59) rfl ?_
 refine ad aa 1 rfl ?_
 refine af ?_
 refine aR ?_
 refine ch (β:=Nat) (fun (k:Nat)=>⟨[(1,(aC (eL l))),(3,(aC (.p 0 0 0 0))),(5,(aC (.p 1 0 0 0))),(25,(aC (.s 3 0 1 2))),(26,(aI 2)),(27,(aI (↑q:Int))),(13,(aC (.s 4 0 2 r3.length))),(14,(aI (x.sum+hZ ((r3).take k)))),(61,(aC (.s 4 0 2 r3.length))),(62,(aI (↑r3.length:Int))),(63,(aI (↑k:Int)))],[(4,(pA r3)),(3,(.arr 59 1 (([l,[x]]).map uG))),(1,(.box 125 [(cI x.time),(cI x.sum)])),(0,(.box 58 [(cI p.cG),(cI p.count),(cI p.sum)]))],5⟩) (fun (k:Nat)=>k<=(r3).length) (fun (k:Nat)=>(r3).length - k) 0 ?_ ?_ ?_
 ·exact (by omega)
 ·exact aF.bL id (by refine ⟨?_,?_,?_,?_,?_,?_,?_,?_,?_,?_,?_,trivial⟩<;>first|rfl|(simp only [ba];done)|(congr 3;omega)|(congr 4;omega)|(simp only [bb];rfl)|((rw [List.take_zero,hZ,Int.add_zero];rfl))) (by refine ⟨?_,?_,?_,?_,trivial⟩<;>first|rfl|(simp only [ba];done)|(congr 3;omega)|(congr 4;omega)|(simp only [bb];rfl)) rfl
 rintro k hi1_0
 have hsb:=qb (p:=p) (l:=l) (t:=x.time) (k:=k) (hi0_1 (by omega))
 rw [hr3] at hsb
 have hrl:(r3).length<=30:=by rw [<-hr3];exact Nat.le_trans (oV _ _) (hru (hi0_1 (by omega)))
 refine ae aa 1 rfl ?_
 refine ag ?_
 refine aj rfl (fun hc10=>?_) (fun hc10=>?_)
 ·
  have hc10':=of_decide_eq_true hc10
  refine aQ ?_
  refine ag ?_
  refine aR ?_
  refine eK ?_
  refine az (bz (i:=k) rfl rfl rfl Try.underlying59 hM (by first|omega|(simp;done)|(simp;omega)) (by first|omega|(simp;done)|(simp;omega))) rfl ?_
  obtain ⟨x1,hx1⟩:=cg (xs:=r3) (i:=k) (by first|omega|(simp;done)|(simp;omega))
  have hx1v:=(jV (hi0_1 (by omega))).2 x1 (ku (hr3.symm▸List.mem_of_getElem? hx1:x1∈dM p l x.time))
  refine az (dr rfl rfl rfl Try.underlying125 rfl hM (bj hx1) rfl) rfl ?_
  refine ad aa 2 rfl ?_
  refine af ?_
  refine aw ?_
  refine ad aa 3 rfl ?_
  refine az (aK rfl rfl rfl (aL (by first|omega|(simp;done)|(simp;omega)))) rfl ?_
  refine ad aa 1 rfl ?_
  refine cf ?_
  refine bf ?_
  refine then_ok ?_
  refine aw ?_
  refine az (aK rfl rfl rfl (aL (by first|omega|(simp;done)|(simp;omega)))) rfl ?_
  refine ad aa 1 rfl ?_
  refine af ?_
  refine ⟨k+1,by first|omega|trivial,by first|omega|(simp;done)|(simp;omega),aF.bL id (by refine ⟨?_,?_,?_,?_,?_,?_,?_,?_,?_,?_,?_,trivial⟩<;>first|rfl|(simp only [ba];done)|(congr 3;omega)|(congr 4;omega)|(simp only [bb];rfl)|(first|(rw [gV hx2,kP,<-Int.add_assoc];rfl)|(rw [gV hx1,kP,<-Int.add_assoc];rfl))) (by refine ⟨?_,?_,?_,?_,trivial⟩<;>first|rfl|(simp only [ba];done)|(congr 3;omega)|(congr 4;omega)|(simp only [bb];rfl)) rfl⟩
 have hc10':=of_decide_eq_false hc10
 refine bT ?_
 refine aN ?_
 refine aN ?_
 refine bA ?_
 refine then_ok ?_
 refine ag ?_
 refine cr 82 ((decide ((↑r3.length:Int)>=p.count))||(decide ((x.sum+hZ ((r3).take k)) > p.sum))) ?_ ?_
 ·
  refine aw ?_
  refine ad aa 1 rfl ?_
  refine az (dy rfl rfl rfl rfl rfl Try.underlying59) rfl ?_
  refine ad aa 4 rfl ?_
  refine bK (t:=77) rfl (fun hb11=>?_) (fun hb11=>?_)
  ·
   have hb11':=of_decide_eq_true hb11
   refine ad aa 5 rfl ?_
   refine af ?_
   exact aF.bF 12 rfl rfl (by first|(simp [hb11];done)|(simp_all;done)|(exfalso;simp_all;done)|(simp_all;omega)) rfl
  have hb11':=of_decide_eq_false hb11
  refine ad aa 5 rfl ?_
  refine af ?_
  exact aF.bF 12 rfl rfl (by first|(simp [hb11];done)|(simp_all;done)|(exfalso;simp_all;done)|(simp_all;omega)) rfl
 refine aj rfl (fun hc12=>?_) (fun hc12=>?_)
 ·
  have hc12':=hc12;try simp only [bx,bV] at hc12'
  refine ae aa 2 rfl ?_
  refine aA ?_
  refine ax ?_
  refine dh (aF.nil 6 125 2 (by decide) rfl) ?_
  have hX:ed p l x=(([]:List de),11):=by
    have hlate:gY l x.time=false:=by first|(rw [mU hx1];simp;omega)|(have:l=[]:=List.eq_nil_of_length_eq_zero (by omega);subst this;rfl)
    have hk:(r3).take k=r3:=List.take_of_length_le (by omega)
    rw [hk] at hc12'
    unfold ed;rw [if_neg (by omega),if_neg (by have:=hi0_1 (by omega);omega),if_neg (by have:=hi0_2 (by omega);omega),if_neg (by rw [hlate];simp),hr3,if_pos (by omega)]
  rw [hX] at hr;clear hX
  simp only [Prod.mk.injEq] at hr;obtain ⟨rfl,rfl⟩:=hr
  refine aq aa [5] 1 rfl rfl rfl rfl rfl rfl ?_ ?_
  all_goals first|rfl|(simp [aD];done)|(simp [aD];omega)
 have hc12':=hc12;try simp only [bx,bV] at hc12'
 refine aQ ?_
 refine aH aa 2 rfl ?_
 refine aT 6 [5,4,3,1,0] (ec (ys:=[(0,(.g [(cI x.time),(cI x.sum)]))]) (rows:=([x]).map ia) 5 oH rfl (by decide) ⟨⟨rfl,rfl⟩,trivial⟩ rfl rfl rfl rfl) rfl ?_
 refine aT 7 [6,5,3,1,0] (dE (m:=1) (N:=r3.length+1) (k2:=6) (ys:=([x]).map ia) oH rfl rfl rfl rfl rfl rfl (by first|omega|(simp;done)|(simp;omega)) rfl (.s rfl (by first|omega|(simp;done)|(simp;omega))) (by first|omega|(simp;done)|(simp;omega)) (by first|omega|(simp;done)|(simp;omega)) fM (by decide) (by first|omega|(simp;done)|(simp;omega)) (by first|omega|(simp;done)|(simp;omega))) rfl ?_
 refine ad aa 2 rfl ?_
 refine af ?_
 refine aA ?_
 have hX:ed p l x=(r3++([x]),0):=by
   have hlate:gY l x.time=false:=by first|(rw [mU hx1];simp;omega)|(have:l=[]:=List.eq_nil_of_length_eq_zero (by omega);subst this;rfl)
   have hk:(r3).take k=r3:=List.take_of_length_le (by omega)
   rw [hk] at hc12'
   unfold ed;rw [if_neg (by omega),if_neg (by have:=hi0_1 (by omega);omega),if_neg (by have:=hi0_2 (by omega);omega),if_neg (by rw [hlate];simp),hr3,if_neg (by omega)]
 rw [hX] at hr;clear hX
 simp only [Prod.mk.injEq] at hr;obtain ⟨rfl,rfl⟩:=hr
 refine aq aa [6] 1 rfl rfl rfl rfl rfl rfl ?_ ?_
 all_goals first|rfl|(simp [aD];done)|(simp [aD];omega)

theorem ke (c:bD) (e:Int) (hr:cQ c=e):Fn Try.prog 28 [(.g [(cI c.bE),(cI c.held),(cI c.bZ.cG),(cI c.bZ.count),(cI c.bZ.sum),(eL c.cW)])] (.v (.c (cI e))) []:=by
 refine Fn.mk' 32 [(0,(aG [(cI c.bE),(cI c.held),(cI c.bZ.cG),(cI c.bZ.count),(cI c.bZ.sum),(eL c.cW)]))] Try.func28 rfl rfl rfl rfl ?_
 intro W0 T0
 refine cF 0 5 rfl rfl (fun hlen0_5=>?_)
 refine ae aa 2 rfl ?_
 refine ag ?_
 refine cr 21 ((((decide (c.bE < (-1000000000000)))||(decide (c.bE > 1000000000000)))||(decide (c.held < 0)))||(decide (c.held > 1000000000000))) ?_ ?_
 ·
  refine aw ?_
  refine ad aa 4 rfl ?_
  refine bK (t:=7) rfl (fun hb1=>?_) (fun hb1=>?_)
  ·
   have hb1':=of_decide_eq_true hb1
   refine ad aa 14 rfl ?_
   refine af ?_
   exact aF.bF 19 rfl rfl (by first|(simp [hb1];done)|(simp_all;done)|(exfalso;simp_all;done)|(simp_all;omega)) rfl
  have hb1':=of_decide_eq_false hb1
  refine ad aa 5 rfl ?_
  refine bK (t:=12) rfl (fun hb2=>?_) (fun hb2=>?_)
  ·
   have hb2':=of_decide_eq_true hb2
   refine ad aa 9 rfl ?_
   refine af ?_
   exact aF.bF 20 rfl rfl (by first|(simp [hb1,hb2];done)|(simp_all;done)|(exfalso;simp_all;done)|(simp_all;omega)) rfl
  have hb2':=of_decide_eq_false hb2
  refine ad aa 5 rfl ?_
  refine bK (t:=17) rfl (fun hb3=>?_) (fun hb3=>?_)
  ·
   have hb3':=of_decide_eq_true hb3
   refine ad aa 4 rfl ?_
   refine af ?_
   exact aF.bF 21 rfl rfl (by first|(simp [hb1,hb2,hb3];done)|(simp_all;done)|(exfalso;simp_all;done)|(simp_all;omega)) rfl
  have hb3':=of_decide_eq_false hb3
  refine ad aa 4 rfl ?_
  refine af ?_
  exact aF.bF 21 rfl rfl (by first|(simp [hb1,hb2,hb3];done)|(simp_all;done)|(exfalso;simp_all;done)|(simp_all;omega)) rfl
 refine aj rfl (fun hc4=>?_) (fun hc4=>?_)
 ·
  have hc4':=hc4;try simp only [bx,bV] at hc4'
  refine ae aa 1 rfl ?_
  refine aA ?_
  refine ax ?_
  have hX:cQ c=3:=by
    unfold cQ;rw [if_pos (by omega)]
  rw [hX] at hr;clear hX
  subst hr
  refine aq aa [] 0 rfl rfl rfl rfl rfl rfl ?_ ?_
  all_goals first|rfl|(simp [aD];done)|(simp [aD];omega)
 have hc4':=hc4;try simp only [bx,bV] at hc4'
 refine aQ ?_
 refine ag ?_
 refine aH aa 2 rfl ?_
 obtain ⟨e0,hr0⟩:∃ (e0:Int),ft c.bZ=e0:=⟨_,rfl⟩
 refine aT 1 [0] (bU 1 (lf c.bZ e0 hr0) Cf rfl rfl ⟨⟨_,rfl,.g ⟨.d _,.d _,.d _,trivial⟩⟩,trivial⟩ trivial trivial rfl rfl rfl rfl) rfl ?_
 refine ad aa 1 rfl ?_
 refine af ?_
 refine ae aa 2 rfl ?_
 refine aj rfl (fun hc5=>?_) (fun hc5=>?_)
 ·
  have hc5':=of_decide_eq_true hc5
  refine ae aa 2 rfl ?_
  refine aA ?_
  refine ax ?_
  have hX:cQ c=e0:=by
    unfold cQ;rw [if_neg (by omega),if_pos (by omega),hr0]
  rw [hX] at hr;clear hX
  subst hr
  refine aq aa [] 0 rfl rfl rfl rfl rfl rfl ?_ ?_
  all_goals first|rfl|(simp [aD];done)|(simp [aD];omega)
 have hc5':=of_decide_eq_false hc5
 refine aQ ?_
 refine aH aa 2 rfl ?_
 obtain ⟨f1,hr1⟩:∃ (f1:dc),fa c.cW=f1:=⟨_,rfl⟩
 refine aT 1 [0] (bU 1 (pq c.cW f1 hr1) ET rfl rfl ⟨⟨_,rfl,.c (.d _)⟩,trivial⟩ ⟨trivial,trivial,trivial⟩ trivial rfl rfl rfl rfl) rfl ?_
 refine az (vN rfl rfl Try.underlying50 rfl Try.underlying48 rfl rfl) rfl ?_
 refine ad aa 1 rfl ?_
 refine af ?_
 refine aA ?_
 have hX:cQ c=f1.err:=by
   unfold cQ;rw [if_neg (by omega),if_neg (by omega),hr1]
 rw [hX] at hr;clear hX
 subst hr
 refine aq aa [] 0 rfl rfl rfl rfl rfl rfl ?_ ?_
 all_goals first|rfl|(simp [aD];done)|(simp [aD];omega)
theorem qu (c:bD) (hb:-9223372036854775808<=c.bE - c.held/\c.bE - c.held<=9223372036854775807):Fn Try.prog 24 [(.g [(cI c.bE),(cI c.held),(cI c.bZ.cG),(cI c.bZ.count),(cI c.bZ.sum),(eL c.cW)])] (aI (c.bE - c.held)) []:=by
 refine Fn.mk' 8 [(0,(aG [(cI c.bE),(cI c.held),(cI c.bZ.cG),(cI c.bZ.count),(cI c.bZ.sum),(eL c.cW)]))] Try.func24 rfl rfl rfl rfl ?_
 intro W0 T0
 refine cF 0 5 rfl rfl (fun hlen0_5=>?_)
 obtain ⟨hb1,hb2⟩:=hb
 refine ae aa 2 rfl ?_
 refine aH aa 4 rfl ?_
 refine az (aK rfl rfl rfl (aL (by first|omega|(simp;done)|(simp;omega)))) rfl ?_
 refine ad aa 1 rfl ?_
 refine af ?_
 refine aA ?_
 refine aq aa [] 0 rfl rfl rfl rfl rfl rfl ?_ ?_
 all_goals first|rfl|(simp [aD];done)|(simp [aD];omega)
theorem sb (c:bD) (hl:c.cW.length<=1048576):Fn Try.prog 108 [(.g [(cI c.bE),(cI c.held),(cI c.bZ.cG),(cI c.bZ.count),(cI c.bZ.sum),(eL c.cW)])] (.v (.g [cI c.bE,cI c.held,cI c.bZ.cG,cI c.bZ.count,cI c.bZ.sum,.s 0 0 2 c.cW.length])) [(0,.arr 125 2 (c.cW.map ia))]:=by
 refine Fn.mk' 8 [(0,(aG [(cI c.bE),(cI c.held),(cI c.bZ.cG),(cI c.bZ.count),(cI c.bZ.sum),(eL c.cW)]))] Try.func108 rfl rfl rfl rfl ?_
 intro W0 T0
 refine cF 0 5 rfl rfl (fun hlen0_5=>?_)
 refine ae aa 2 rfl ?_
 refine aH aa 2 rfl ?_
 refine aT 3 [2,1,0] (bU 2 (qx c.cW (by first|omega|(simp;done)|(simp;omega))) CO rfl rfl ⟨⟨_,rfl,.c (.d _)⟩,trivial⟩ trivial ⟨(fun _ _ _ _=>trivial),trivial⟩ rfl rfl rfl rfl) rfl ?_
 refine ad aa 2 rfl ?_
 refine af ?_
 refine ae aa 2 rfl ?_
 refine aA ?_
 refine aq aa [2,1] 1 rfl rfl rfl rfl rfl rfl ?_ ?_
 all_goals first|rfl|(simp [aD];done)|(simp [aD];omega)

theorem wh (c:bD) (n time:Int) (x:bD) (e:Int) (hr:dz c n time=(x,e)):Fn Try.prog 80 [(.g [(cI c.bE),(cI c.held),(cI c.bZ.cG),(cI c.bZ.count),(cI c.bZ.sum),(eL c.cW)]),(.c (cI n)),(.c (cI time))] (.t [(.g [(cI x.bE),(cI x.held),(cI x.bZ.cG),(cI x.bZ.count),(cI x.bZ.sum),(.s 0 0 2 x.cW.length)]),(.c (cI e))]) [(0,(pA x.cW))]:=by
 refine Fn.mk' 60 [(0,(aG [(cI c.bE),(cI c.held),(cI c.bZ.cG),(cI c.bZ.count),(cI c.bZ.sum),(eL c.cW)])),(1,(aI n)),(2,(aI time))] Try.func80 rfl rfl rfl rfl ?_
 intro W0 T0
 refine cF 0 5 rfl rfl (fun hlen0_5=>?_)
 have hrc:=@iD c
 have hrl:=@nB c
 refine ae aa 3 rfl ?_
 refine ag ?_
 refine aH aa 1 rfl ?_
 obtain ⟨e0,hr0⟩:∃ (e0:Int),cQ c=e0:=⟨_,rfl⟩
 refine aT 2 [1,0] (bU 2 (ke c e0 hr0) yT rfl rfl ⟨⟨_,rfl,.g ⟨.d _,.d _,.d _,.d _,.d _,.d _,trivial⟩⟩,trivial⟩ trivial trivial rfl rfl rfl rfl) rfl ?_
 refine ad aa 1 rfl ?_
 refine af ?_
 refine ae aa 2 rfl ?_
 refine aj rfl (fun hc1=>?_) (fun hc1=>?_)
 ·
  have hc1':=of_decide_eq_true hc1
  refine ae aa 4 rfl ?_
  refine aA ?_
  refine ax ?_
  refine ct 1 5 125 2 rfl rfl rfl ?_
  have hX:dz c n time=((⟨0,0,(⟨0,0,0⟩:ew),([]:List de)⟩:bD),e0):=by
    unfold dz;rw [if_pos (by omega),hr0];rfl
  rw [hX] at hr;clear hX
  simp only [Prod.mk.injEq] at hr;obtain ⟨rfl,rfl⟩:=hr
  refine aq aa [2,1] 1 rfl rfl rfl rfl rfl rfl ?_ ?_
  all_goals first|rfl|(simp [aD];done)|(simp [aD];omega)
 have hc1':=of_decide_eq_false hc1
 refine aQ ?_
 refine ag ?_
 refine cr 30 ((((decide (n < 1))||(decide (n > 1000000)))||(decide (time < 0)))||(decide (time > 1000000))) ?_ ?_
 ·
  refine aw ?_
  refine ad aa 3 rfl ?_
  refine bK (t:=19) rfl (fun hb2=>?_) (fun hb2=>?_)
  ·
   have hb2':=of_decide_eq_true hb2
   refine ad aa 11 rfl ?_
   refine af ?_
   exact aF.bF 15 rfl rfl (by first|(simp [hb2];done)|(simp_all;done)|(exfalso;simp_all;done)|(simp_all;omega)) rfl
  have hb2':=of_decide_eq_false hb2
  refine ad aa 4 rfl ?_
  refine bK (t:=23) rfl (fun hb3=>?_) (fun hb3=>?_)
  ·
   have hb3':=of_decide_eq_true hb3
   refine ad aa 7 rfl ?_
   refine af ?_
   exact aF.bF 16 rfl rfl (by first|(simp [hb2,hb3];done)|(simp_all;done)|(exfalso;simp_all;done)|(simp_all;omega)) rfl
  have hb3':=of_decide_eq_false hb3
  refine ad aa 4 rfl ?_
  refine bK (t:=27) rfl (fun hb4=>?_) (fun hb4=>?_)
  ·
   have hb4':=of_decide_eq_true hb4
   refine ad aa 3 rfl ?_
   refine af ?_
   exact aF.bF 17 rfl rfl (by first|(simp [hb2,hb3,hb4];done)|(simp_all;done)|(exfalso;simp_all;done)|(simp_all;omega)) rfl
  have hb4':=of_decide_eq_false hb4
  refine ad aa 3 rfl ?_
  refine af ?_
  exact aF.bF 17 rfl rfl (by first|(simp [hb2,hb3,hb4];done)|(simp_all;done)|(exfalso;simp_all;done)|(simp_all;omega)) rfl
 refine aj rfl (fun hc5=>?_) (fun hc5=>?_)
 ·
  have hc5':=hc5;try simp only [bx,bV] at hc5'
  refine ae aa 3 rfl ?_
  refine aA ?_
  refine ax ?_
  refine ct 1 5 125 2 rfl rfl rfl ?_
  have hX:dz c n time=((⟨0,0,(⟨0,0,0⟩:ew),([]:List de)⟩:bD),3):=by
    unfold dz;rw [if_neg (by omega),if_pos (by omega)];rfl
  rw [hX] at hr;clear hX
  simp only [Prod.mk.injEq] at hr;obtain ⟨rfl,rfl⟩:=hr
  refine aq aa [2,1] 1 rfl rfl rfl rfl rfl rfl ?_ ?_
  all_goals first|rfl|(simp [aD];done)|(simp [aD];omega)
 have hc5':=hc5;try simp only [bx,bV] at hc5'
 refine aQ ?_
 refine ag ?_
 refine aH aa 2 rfl ?_
 refine aT 2 [1,0] (bU 2 (qu c (by first|assumption|omega|(constructor<;>decide)|(have hz:=iD (by first|assumption|omega);omega))) EW rfl rfl ⟨⟨_,rfl,.g ⟨.d _,.d _,.d _,.d _,.d _,.d _,trivial⟩⟩,trivial⟩ trivial trivial rfl rfl rfl rfl) rfl ?_
 refine ad aa 1 rfl ?_
 refine af ?_
 refine aj rfl (fun hc6=>?_) (fun hc6=>?_)
 ·
  have hc6':=of_decide_eq_true hc6
  refine ae aa 3 rfl ?_
  refine aA ?_
  refine ax ?_
  refine ct 1 5 125 2 rfl rfl rfl ?_
  have hX:dz c n time=((⟨0,0,(⟨0,0,0⟩:ew),([]:List de)⟩:bD),10):=by
    unfold dz;rw [if_neg (by omega),if_neg (by omega),if_pos (by omega)];rfl
  rw [hX] at hr;clear hX
  simp only [Prod.mk.injEq] at hr;obtain ⟨rfl,rfl⟩:=hr
  refine aq aa [2,1] 1 rfl rfl rfl rfl rfl rfl ?_ ?_
  all_goals first|rfl|(simp [aD];done)|(simp [aD];omega)
 have hc6':=of_decide_eq_false hc6
 refine aQ ?_
 refine aH aa 7 rfl ?_
 obtain ⟨r1,e1,hr1⟩:∃ (r1:List de) (e1:Int),ed c.bZ c.cW (⟨time,n⟩:de)=(r1,e1):=⟨_,_,rfl⟩
 refine aT 3 [2,1,0] (bU 2 (yZ c.bZ c.cW (⟨time,n⟩:de) r1 e1 hr1) Gi rfl rfl ⟨⟨_,rfl,.g ⟨.d _,.d _,.d _,trivial⟩⟩,⟨_,rfl,.c (.d _)⟩,⟨_,rfl,.g ⟨.d _,.d _,trivial⟩⟩,trivial⟩ ⟨trivial,trivial,trivial⟩ ⟨(fun _ _ _ _=>trivial),trivial⟩ rfl rfl rfl rfl) rfl ?_
 refine ad aa 5 rfl ?_
 refine af ?_
 refine ag ?_
 refine ae aa 2 rfl ?_
 refine aj rfl (fun hc7=>?_) (fun hc7=>?_)
 ·
  have hc7':=of_decide_eq_true hc7
  refine ae aa 4 rfl ?_
  refine aA ?_
  refine ax ?_
  refine ct 1 5 125 2 rfl rfl rfl ?_
  have hX:dz c n time=((⟨0,0,(⟨0,0,0⟩:ew),([]:List de)⟩:bD),e1):=by
    have ha:=hr1
    unfold dz;rw [if_neg (by omega),if_neg (by omega),if_neg (by omega),if_pos (by rw [ha];dsimp only;omega),ha];rfl
  rw [hX] at hr;clear hX
  simp only [Prod.mk.injEq] at hr;obtain ⟨rfl,rfl⟩:=hr
  refine aq aa [3,1] 1 rfl rfl rfl rfl rfl rfl ?_ ?_
  all_goals first|rfl|(simp [aD];done)|(simp [aD];omega)
 have hc7':=of_decide_eq_false hc7
 refine aQ ?_
 refine ae aa 3 rfl ?_
 refine aH aa 3 rfl ?_
 refine az (aK rfl rfl rfl (aL (by first|omega|(simp;done)|(simp;omega)))) rfl ?_
 refine ad aa 2 rfl ?_
 refine af ?_
 refine ae aa 3 rfl ?_
 refine aA ?_
 have hX:dz c n time=((⟨c.bE,c.held+n,c.bZ,r1⟩:bD),0):=by
   have ha:=hr1
   unfold dz;rw [if_neg (by omega),if_neg (by omega),if_neg (by omega),if_neg (by rw [ha];dsimp only;omega),ha]
 rw [hX] at hr;clear hX
 simp only [Prod.mk.injEq] at hr;obtain ⟨rfl,rfl⟩:=hr
 refine aq aa [2,1] 1 rfl rfl rfl rfl rfl rfl ?_ ?_
 all_goals first|rfl|(simp [aD];done)|(simp [aD];omega)
theorem wg (c:bD) (n:Int) (x:bD) (e:Int) (hr:eP c n=(x,e)):Fn Try.prog 91 [(.g [(cI c.bE),(cI c.held),(cI c.bZ.cG),(cI c.bZ.count),(cI c.bZ.sum),(eL c.cW)]),(.c (cI n))] (.t [(.g [(cI x.bE),(cI x.held),(cI x.bZ.cG),(cI x.bZ.count),(cI x.bZ.sum),(.s 0 0 2 x.cW.length)]),(.c (cI e))]) [(0,(pA x.cW))]:=by
 refine Fn.mk' 35 [(0,(aG [(cI c.bE),(cI c.held),(cI c.bZ.cG),(cI c.bZ.count),(cI c.bZ.sum),(eL c.cW)])),(1,(aI n))] Try.func91 rfl rfl rfl rfl ?_
 intro W0 T0
 refine cF 0 5 rfl rfl (fun hlen0_5=>?_)
 have hrc:=@iD c
 have hrl:=@nB c
 refine ae aa 3 rfl ?_
 refine ag ?_
 refine aH aa 1 rfl ?_
 obtain ⟨e0,hr0⟩:∃ (e0:Int),cQ c=e0:=⟨_,rfl⟩
 refine aT 2 [1,0] (bU 2 (ke c e0 hr0) yT rfl rfl ⟨⟨_,rfl,.g ⟨.d _,.d _,.d _,.d _,.d _,.d _,trivial⟩⟩,trivial⟩ trivial trivial rfl rfl rfl rfl) rfl ?_
 refine ad aa 1 rfl ?_
 refine af ?_
 refine ae aa 2 rfl ?_
 refine aj rfl (fun hc1=>?_) (fun hc1=>?_)
 ·
  have hc1':=of_decide_eq_true hc1
  refine ae aa 4 rfl ?_
  refine aA ?_
  refine ax ?_
  refine ct 1 5 125 2 rfl rfl rfl ?_
  have hX:eP c n=((⟨0,0,(⟨0,0,0⟩:ew),([]:List de)⟩:bD),e0):=by
    unfold eP;rw [if_pos (by omega),hr0];rfl
  rw [hX] at hr;clear hX
  simp only [Prod.mk.injEq] at hr;obtain ⟨rfl,rfl⟩:=hr
  refine aq aa [2,1] 1 rfl rfl rfl rfl rfl rfl ?_ ?_
  all_goals first|rfl|(simp [aD];done)|(simp [aD];omega)
 have hc1':=of_decide_eq_false hc1
 refine aQ ?_
 refine ag ?_
 refine cr 25 (((decide (n < 1))||(decide (n > 1000000)))||(decide (n > (1000000000000 - c.held)))) ?_ ?_
 ·
  refine aw ?_
  refine ad aa 3 rfl ?_
  refine bK (t:=15) rfl (fun hb2=>?_) (fun hb2=>?_)
  ·
   have hb2':=of_decide_eq_true hb2
   refine ad aa 10 rfl ?_
   refine af ?_
   exact aF.bF 14 rfl rfl (by first|(simp [hb2];done)|(simp_all;done)|(exfalso;simp_all;done)|(simp_all;omega)) rfl
  have hb2':=of_decide_eq_false hb2
  refine ad aa 4 rfl ?_
  refine bK (t:=19) rfl (fun hb3=>?_) (fun hb3=>?_)
  ·
   have hb3':=of_decide_eq_true hb3
   refine ad aa 6 rfl ?_
   refine af ?_
   exact aF.bF 15 rfl rfl (by first|(simp [hb2,hb3];done)|(simp_all;done)|(exfalso;simp_all;done)|(simp_all;omega)) rfl
  have hb3':=of_decide_eq_false hb3
  refine ad aa 3 rfl ?_
  refine cD (ah.yes rfl rfl rfl) (aK rfl rfl rfl (aL (by first|omega|(simp;done)|(simp;omega)))) rfl rfl ?_
  refine ad aa 2 rfl ?_
  refine af ?_
  exact aF.bF 15 rfl rfl (by first|(simp [hb2,hb3];done)|(simp_all;done)|(exfalso;simp_all;done)|(simp_all;omega)) rfl
 refine aj rfl (fun hc4=>?_) (fun hc4=>?_)
 ·
  have hc4':=hc4;try simp only [bx,bV] at hc4'
  refine ae aa 3 rfl ?_
  refine aA ?_
  refine ax ?_
  refine ct 1 5 125 2 rfl rfl rfl ?_
  have hX:eP c n=((⟨0,0,(⟨0,0,0⟩:ew),([]:List de)⟩:bD),3):=by
    unfold eP;rw [if_neg (by omega),if_pos (by omega)];rfl
  rw [hX] at hr;clear hX
  simp only [Prod.mk.injEq] at hr;obtain ⟨rfl,rfl⟩:=hr
  refine aq aa [2,1] 1 rfl rfl rfl rfl rfl rfl ?_ ?_
  all_goals first|rfl|(simp [aD];done)|(simp [aD];omega)
 have hc4':=hc4;try simp only [bx,bV] at hc4'
 refine aQ ?_
 refine aH aa 1 rfl ?_
 refine aT 3 [2,1,0] (bU 2 (sb c (by first|assumption|omega)) CR rfl rfl ⟨⟨_,rfl,.g ⟨.d _,.d _,.d _,.d _,.d _,.d _,trivial⟩⟩,trivial⟩ ⟨trivial,trivial,trivial,trivial,trivial,trivial,trivial⟩ ⟨(fun _ _ _ _=>trivial),trivial⟩ rfl rfl rfl rfl) rfl ?_
 refine ad aa 1 rfl ?_
 refine af ?_
 refine aH aa 3 rfl ?_
 refine az (aK rfl rfl rfl (aL (by first|omega|(simp;done)|(simp;omega)))) rfl ?_
 refine ad aa 2 rfl ?_
 refine af ?_
 refine ae aa 3 rfl ?_
 refine aA ?_
 have hX:eP c n=((⟨c.bE,c.held+n,c.bZ,c.cW⟩:bD),0):=by
   unfold eP;rw [if_neg (by omega),if_neg (by omega)]
 rw [hX] at hr;clear hX
 simp only [Prod.mk.injEq] at hr;obtain ⟨rfl,rfl⟩:=hr
 refine aq aa [2,1] 1 rfl rfl rfl rfl rfl rfl ?_ ?_
 all_goals first|rfl|(simp [aD];done)|(simp [aD];omega)

theorem we (c:bD) (held bE:Int) (x:bD) (e:Int) (hr:ei c held bE=(x,e)):Fn Try.prog 97 [(.g [(cI c.bE),(cI c.held),(cI c.bZ.cG),(cI c.bZ.count),(cI c.bZ.sum),(eL c.cW)]),(.c (cI held)),(.c (cI bE))] (.t [(.g [(cI x.bE),(cI x.held),(cI x.bZ.cG),(cI x.bZ.count),(cI x.bZ.sum),(.s 0 0 2 x.cW.length)]),(.c (cI e))]) [(0,(pA x.cW))]:=by
 refine Fn.mk' 52 [(0,(aG [(cI c.bE),(cI c.held),(cI c.bZ.cG),(cI c.bZ.count),(cI c.bZ.sum),(eL c.cW)])),(1,(aI held)),(2,(aI bE))] Try.func97 rfl rfl rfl rfl ?_
 intro W0 T0
 refine cF 0 5 rfl rfl (fun hlen0_5=>?_)
 have hrc:=@iD c
 have hrl:=@nB c
 refine ae aa 3 rfl ?_
 refine ag ?_
 refine aH aa 1 rfl ?_
 obtain ⟨e0,hr0⟩:∃ (e0:Int),cQ c=e0:=⟨_,rfl⟩
 refine aT 2 [1,0] (bU 2 (ke c e0 hr0) yT rfl rfl ⟨⟨_,rfl,.g ⟨.d _,.d _,.d _,.d _,.d _,.d _,trivial⟩⟩,trivial⟩ trivial trivial rfl rfl rfl rfl) rfl ?_
 refine ad aa 1 rfl ?_
 refine af ?_
 refine ae aa 2 rfl ?_
 refine aj rfl (fun hc1=>?_) (fun hc1=>?_)
 ·
  have hc1':=of_decide_eq_true hc1
  refine ae aa 4 rfl ?_
  refine aA ?_
  refine ax ?_
  refine ct 1 5 125 2 rfl rfl rfl ?_
  have hX:ei c held bE=((⟨0,0,(⟨0,0,0⟩:ew),([]:List de)⟩:bD),e0):=by
    unfold ei;rw [if_pos (by omega),hr0];rfl
  rw [hX] at hr;clear hX
  simp only [Prod.mk.injEq] at hr;obtain ⟨rfl,rfl⟩:=hr
  refine aq aa [2,1] 1 rfl rfl rfl rfl rfl rfl ?_ ?_
  all_goals first|rfl|(simp [aD];done)|(simp [aD];omega)
 have hc1':=of_decide_eq_false hc1
 refine aQ ?_
 refine ag ?_
 refine aH aa 2 rfl ?_
 refine aT 3 [2,1,0] (ec (ys:=[(0,(.c (cI held))),(1,(.c (cI bE)))]) (rows:=([held,bE]).map rI) 2 ns rfl (by decide) ⟨⟨rfl,rfl⟩,⟨rfl,rfl⟩,trivial⟩ rfl rfl rfl rfl) rfl ?_
 refine az (dy rfl rfl rfl rfl rfl Try.underlying30) rfl ?_
 refine ad aa 1 rfl ?_
 refine af ?_
 refine aR ?_
 refine ch (β:=Nat) (fun (q:Nat)=>⟨[(1,(aI held)),(2,(aI bE)),(3,(aC (.p 0 0 0 0))),(6,(aC (.p 1 0 0 0))),(20,(aC (.s 2 0 1 2))),(21,(aI 2)),(22,(aI (↑q:Int)))],[(2,(dL ([held,bE]))),(1,(.box 61 [(cI 0),(cI 0),(cI 0),(cI 0),(cI 0),cN])),(0,(.box 61 [(cI c.bE),(cI c.held),(cI c.bZ.cG),(cI c.bZ.count),(cI c.bZ.sum),(eL c.cW)]))],3⟩) (fun (q:Nat)=>q<=2/\(0 < q->-1000000000000<=held/\held<=1000000000000)/\(1 < q->-1000000000000<=bE/\bE<=1000000000000)) (fun (q:Nat)=>2 - q) 0 ?_ ?_ ?_
 ·exact ⟨by omega,by omega,by omega⟩
 ·exact aF.bL id (by refine ⟨?_,?_,?_,?_,?_,?_,?_,trivial⟩<;>first|rfl|(simp only [ba];done)|(congr 3;omega)|(congr 4;omega)|(simp only [bb];rfl)) (by refine ⟨?_,?_,?_,trivial⟩<;>first|rfl|(simp only [ba];done)|(congr 3;omega)|(congr 4;omega)|(simp only [bb];rfl)) rfl
 rintro q ⟨hi0_0,hi0_1,hi0_2⟩
 refine ae aa 1 rfl ?_
 refine ag ?_
 refine aj rfl (fun hc2=>?_) (fun hc2=>?_)
 ·
  have hc2':=of_decide_eq_true hc2
  refine aQ ?_
  refine ag ?_
  refine aR ?_
  refine eK ?_
  refine az (bz (i:=q) rfl rfl rfl Try.underlying30 fC (by first|omega|(simp;done)|(simp;omega)) (by first|omega|(simp;done)|(simp;omega))) rfl ?_
  obtain ⟨x1,hx1⟩:=cg (xs:=([held,bE]:List Int)) (i:=q) (by first|omega|(simp;done)|(simp;omega))
  have hx1v:=Ek hx1
  refine az (eQ rfl rfl rfl Try.underlying3 rfl (bj hx1) rfl) rfl ?_
  refine ad aa 1 rfl ?_
  refine af ?_
  refine cr 31 ((decide (x1 < (-1000000000000)))||(decide (x1 > 1000000000000))) ?_ ?_
  ·
   refine aw ?_
   refine ad aa 3 rfl ?_
   refine bK (t:=28) rfl (fun hb3=>?_) (fun hb3=>?_)
   ·
    have hb3':=of_decide_eq_true hb3
    refine ad aa 3 rfl ?_
    refine af ?_
    exact aF.bF 7 rfl rfl (by first|(simp [hb3];done)|(simp_all;done)|(exfalso;simp_all;done)|(simp_all;omega)) rfl
   have hb3':=of_decide_eq_false hb3
   refine ad aa 3 rfl ?_
   refine af ?_
   exact aF.bF 7 rfl rfl (by first|(simp [hb3];done)|(simp_all;done)|(exfalso;simp_all;done)|(simp_all;omega)) rfl
  refine aj rfl (fun hc4=>?_) (fun hc4=>?_)
  ·
   have hc4':=hc4;try simp only [bx,bV] at hc4'
   refine ae aa 3 rfl ?_
   refine aA ?_
   refine bp ?_
   refine ax ?_
   refine ax ?_
   refine bp ?_
   refine ax ?_
   refine ct 1 5 125 2 rfl rfl rfl ?_
   have hX:ei c held bE=((⟨0,0,(⟨0,0,0⟩:ew),([]:List de)⟩:bD),3):=by
     unfold ei;rw [if_neg (by omega),if_pos (by omega)];rfl
   rw [hX] at hr;clear hX
   simp only [Prod.mk.injEq] at hr;obtain ⟨rfl,rfl⟩:=hr
   refine aq aa [3,1] 1 rfl rfl rfl rfl rfl rfl ?_ ?_
   all_goals first|rfl|(simp [aD];done)|(simp [aD];omega)
  have hc4':=hc4;try simp only [bx,bV] at hc4'
  refine cE ?_
  refine bf ?_
  refine then_ok ?_
  refine aw ?_
  refine az (aK rfl rfl rfl (aL (by first|omega|(simp;done)|(simp;omega)))) rfl ?_
  refine ad aa 1 rfl ?_
  refine af ?_
  refine ⟨q+1,⟨by omega,by omega,by omega⟩,by first|omega|(simp;done)|(simp;omega),aF.bL id (by refine ⟨?_,?_,?_,?_,?_,?_,?_,trivial⟩<;>first|rfl|(simp only [ba];done)|(congr 3;omega)|(congr 4;omega)|(simp only [bb];rfl)) (by refine ⟨?_,?_,?_,trivial⟩<;>first|rfl|(simp only [ba];done)|(congr 3;omega)|(congr 4;omega)|(simp only [bb];rfl)) rfl⟩
 have hc2':=of_decide_eq_false hc2
 refine bT ?_
 refine aN ?_
 refine aN ?_
 refine bA ?_
 refine then_ok ?_
 refine aH aa 1 rfl ?_
 refine aT 4 [3,2,1,0] (bU 3 (sb c (by first|assumption|omega)) CR rfl rfl ⟨⟨_,rfl,.g ⟨.d _,.d _,.d _,.d _,.d _,.d _,trivial⟩⟩,trivial⟩ ⟨trivial,trivial,trivial,trivial,trivial,trivial,trivial⟩ ⟨(fun _ _ _ _=>trivial),trivial⟩ rfl rfl rfl rfl) rfl ?_
 refine ad aa 1 rfl ?_
 refine af ?_
 refine aH aa 3 rfl ?_
 refine az (aK rfl rfl rfl (aL (by first|omega|(simp;done)|(simp;omega)))) rfl ?_
 refine ad aa 2 rfl ?_
 refine af ?_
 refine aH aa 3 rfl ?_
 refine az (aK rfl rfl rfl (aL (by first|omega|(simp;done)|(simp;omega)))) rfl ?_
 refine ad aa 2 rfl ?_
 refine af ?_
 refine ag ?_
 refine aH aa 1 rfl ?_
 obtain ⟨e1,hr1⟩:∃ (e1:Int),cQ (⟨c.bE+bE,c.held+held,c.bZ,c.cW⟩:bD)=e1:=⟨_,rfl⟩
 refine aT 4 [3,2,1,0] (ga 4 [3] (ke (⟨c.bE+bE,c.held+held,c.bZ,c.cW⟩:bD) e1 hr1) yT rfl rfl ⟨⟨_,rfl,.g ⟨.d _,.d _,.d _,.d _,.d _,.s rfl (by decide) (by first|omega|(simp;done)|(simp;omega)),trivial⟩⟩,trivial⟩ rfl trivial rfl rfl rfl rfl) rfl ?_
 refine ad aa 1 rfl ?_
 refine af ?_
 refine ae aa 2 rfl ?_
 refine aj rfl (fun hc5=>?_) (fun hc5=>?_)
 ·
  have hc5':=of_decide_eq_true hc5
  refine ae aa 3 rfl ?_
  refine aA ?_
  refine ax ?_
  refine ct 1 5 125 2 rfl rfl rfl ?_
  have hX:ei c held bE=((⟨0,0,(⟨0,0,0⟩:ew),([]:List de)⟩:bD),10):=by
    unfold ei;rw [if_neg (by omega),if_neg (by omega),if_pos (by first|omega|(intro hz;have hy:=iD hz;dsimp only at hy;omega))];rfl
  rw [hX] at hr;clear hX
  simp only [Prod.mk.injEq] at hr;obtain ⟨rfl,rfl⟩:=hr
  refine aq aa [4,1] 1 rfl rfl rfl rfl rfl rfl ?_ ?_
  all_goals first|rfl|(simp [aD];done)|(simp [aD];omega)
 have hc5':=of_decide_eq_false hc5
 refine aQ ?_
 refine ae aa 3 rfl ?_
 refine aA ?_
 have hX:ei c held bE=((⟨c.bE+bE,c.held+held,c.bZ,c.cW⟩:bD),0):=by
   unfold ei;rw [if_neg (by omega),if_neg (by omega),if_neg (by first|omega|(have hz:=mR (c:=⟨c.bE+bE,c.held+held,c.bZ,c.cW⟩) (by dsimp only;omega) (hrc (by omega)).2.2.2.2.1 (hrc (by omega)).2.2.2.2.2;omega))]
 rw [hX] at hr;clear hX
 simp only [Prod.mk.injEq] at hr;obtain ⟨rfl,rfl⟩:=hr
 refine aq aa [3,1] 1 rfl rfl rfl rfl rfl rfl ?_ ?_
 all_goals first|rfl|(simp [aD];done)|(simp [aD];omega)

theorem re (l:List bg) (fn:FuncId) (bn:List (List D)) (pr:bg->Bool) (hp:∀ x:bg,Fn Try.prog fn ([.g [cI x.number,cI x.kind,cI x.bd,cI x.sum]]++bn.map fun r=>GV.c (.q r 0)) (aB (pr x)) []) (hen:bo Try.prog fn) (r:Int) (hr:gZ pr l=r):Fn Try.prog 113 [(.c (ck l)),(.c (.d (.f fn bn)))] (.v (.c (cI r))) []:=by
 refine Fn.mk' 19 [(0,(aC (ck l))),(1,(aC (.d (.f fn bn))))] Try.func113 rfl rfl rfl rfl ?_
 intro W0 T0
 refine dq 0 rfl (fun hlen0=>?_)
 refine ae aa 1 rfl ?_
 refine ag ?_
 refine aH aa 1 rfl ?_
 refine az (bP rfl rfl rfl rfl rfl Try.underlying32) rfl ?_
 refine ad aa 1 rfl ?_
 refine af ?_
 refine aR ?_
 refine ch (β:=Nat) (fun (q:Nat)=>⟨[(0,(aC (ck l))),(1,(aC (.d (.f fn bn)))),(7,(aI (↑l.length:Int))),(8,(aI (↑q:Int)))],[],0⟩) (fun (q:Nat)=>q<=l.length/\(l.take q).all (fun y=>!pr y)=true) (fun (q:Nat)=>l.length - q) 0 ?_ ?_ ?_
 ·exact ⟨by omega,by simp⟩
 ·exact aF.bL id (by refine ⟨?_,?_,?_,?_,trivial⟩<;>first|rfl|(simp only [ba];done)|(congr 3;omega)|(congr 4;omega)|(simp only [bb];rfl)) (trivial) rfl
 rintro q ⟨hi0_0,hi0_1⟩
 refine ae aa 1 rfl ?_
 refine ag ?_
 refine aj rfl (fun hc1=>?_) (fun hc1=>?_)
 ·
  have hc1':=of_decide_eq_true hc1
  refine aQ ?_
  refine ag ?_
  refine aR ?_
  refine ae aa 2 rfl ?_
  refine aH aa 3 rfl ?_
  obtain ⟨x1,hx1⟩:=cg (xs:=l) (i:=q) (by first|omega|(simp;done)|(simp;omega))
  refine az (bX (i:=q) rfl rfl rfl Try.underlying32 jE (by first|omega|(simp;done)|(simp;omega)) (bj hx1)) rfl ?_
  refine ad aa 1 rfl ?_
  refine az (ig 0 (hp x1) hen rfl rfl rfl ⟨⟨_,rfl,.g ⟨.d _,.d _,.d _,.d _,trivial⟩⟩,trivial⟩ trivial trivial rfl rfl rfl rfl) rfl ?_
  refine af ?_
  refine aj rfl (fun hc2=>?_) (fun hc2=>?_)
  ·
   have hc2':=hc2;try simp only [bx,bV] at hc2'
   refine ae aa 2 rfl ?_
   refine aA ?_
   refine bp ?_
   refine ax ?_
   refine ax ?_
   refine bp ?_
   refine ax ?_
   have hX:gZ pr l=(↑q:Int):=by
     exact tS hi0_1 hx1 hc2
   rw [hX] at hr;clear hX
   subst hr
   refine aq aa [] 0 rfl rfl rfl rfl rfl rfl ?_ ?_
   all_goals first|rfl|(simp [aD];done)|(simp [aD];omega)
  have hc2':=hc2;try simp only [bx,bV] at hc2'
  refine cE ?_
  refine bf ?_
  refine then_ok ?_
  refine aw ?_
  refine az (aK rfl rfl rfl (aL (by first|omega|(simp;done)|(simp;omega)))) rfl ?_
  refine ad aa 1 rfl ?_
  refine af ?_
  refine ⟨q+1,⟨by omega,wx hi0_1 hx1 hc2⟩,by first|omega|(simp;done)|(simp;omega),aF.bL id (by refine ⟨?_,?_,?_,?_,trivial⟩<;>first|rfl|(simp only [ba];done)|(congr 3;omega)|(congr 4;omega)|(simp only [bb];rfl)) (trivial) rfl⟩
 have hc1':=of_decide_eq_false hc1
 refine bT ?_
 refine aN ?_
 refine aN ?_
 refine bA ?_
 refine then_ok ?_
 refine ae aa 1 rfl ?_
 refine aA ?_
 have hX:gZ pr l=(-1):=by
   exact vC (by rw [<-List.take_of_length_le (l:=l) (i:=q) (by omega)];exact hi0_1)
 rw [hX] at hr;clear hX
 subst hr
 refine aq aa [] 0 rfl rfl rfl rfl rfl rfl ?_ ?_
 all_goals first|rfl|(simp [aD];done)|(simp [aD];omega)
theorem pY (l:List bg) (fn:FuncId) (bn:List (List D)) (pr:bg->Bool) (hp:∀ x:bg,Fn Try.prog fn ([.g [cI x.number,cI x.kind,cI x.bd,cI x.sum]]++bn.map fun r=>GV.c (.q r 0)) (aB (pr x)) []) (hen:bo Try.prog fn) (r:List bg) (hr:dC pr l=r):cM Try.prog 105 [(.c (.s 0 0 4 l.length)),(.c (.d (.f fn bn)))] [(0,(xX l))] [] (.v (.c (.s 0 0 4 r.length))) [(0,(xX r))]:=by
 refine cM.mk 42 [(0,(aC (.s 0 0 4 l.length))),(1,(aC (.d (.f fn bn))))] 1 Try.func105 rfl rfl rfl rfl rfl rfl rfl rfl rfl ?_
 intro W0 F0 T0 pg
 refine gD 0 rfl (fun hlen0=>?_)
 have hic:=tT pr l
 have hib:gZ pr l<=l.length/\-1<=gZ pr l:=by rcases hic with ⟨h,_⟩|⟨i,h,h1,_⟩<;>omega
 refine ae aa 1 rfl ?_
 refine aH aa 2 rfl ?_
 obtain ⟨r0,hr0⟩:∃ (r0:Int),gZ pr l=r0:=⟨_,rfl⟩
 refine aT 1 [0] (ga 1 [0] (re l fn bn pr hp hen r0 hr0) Gc rfl rfl ⟨⟨_,rfl,.c (.s rfl (by decide) (by first|omega|(simp;done)|(simp;omega)))⟩,⟨_,rfl,.c (.d _)⟩,trivial⟩ rfl trivial rfl rfl rfl rfl) rfl ?_
 refine ad aa 1 rfl ?_
 refine af ?_
 refine ag ?_
 refine ae aa 2 rfl ?_
 refine aj rfl (fun hc1=>?_) (fun hc1=>?_)
 ·
  have hc1':=of_decide_eq_true hc1
  refine ae aa 2 rfl ?_
  refine aA ?_
  refine ax ?_
  have hX:dC pr l=l:=by
    rcases hic with ⟨_,h⟩|⟨i0,h,_⟩
    ·exact h
    ·exfalso;omega
  rw [hX] at hr;clear hX
  subst hr
  refine aq aa [0] 1 rfl rfl rfl rfl rfl rfl ?_ ?_
  all_goals first|rfl|(simp [aD];done)|(simp [aD];omega)
 have hc1':=of_decide_eq_false hc1
 refine aQ ?_
 refine ag ?_
 refine aH aa 1 rfl ?_
 refine az (aK rfl rfl rfl (aL (by first|omega|(simp;done)|(simp;omega)))) rfl ?_
 refine ad aa 1 rfl ?_
 refine af ?_
 refine aR ?_
 obtain ⟨i0,hi0,hil,x0,hx0,hp0,hk0⟩:∃ i:Nat,gZ pr l=i/\i < l.length/\∃ x,l[i]?=some x/\pr x=true/\dC pr (l.take i)=l.take i:=by
     rcases hic with ⟨h,_⟩|h
     ·exfalso;omega
     ·exact h
 obtain rfl:r0=(i0:Int):=by omega
 refine ch (β:=Nat×Nat×List bg) (fun (p:Nat×Nat×List bg)=>match p with|(j,i,c)=>⟨[(0,(aC (.s 0 0 4 l.length))),(1,(aC (.d (.f fn bn)))),(4,(aC cN)),(5,(aI (↑i:Int))),(6,(aI (↑j:Int)))],[(0,(xX c))],1⟩) (fun (p:Nat×Nat×List bg)=>match p with|(j,i,c)=>ll pr l c i j) (fun (p:Nat×Nat×List bg)=>match p with|(j,i,c)=>l.length - j) (i0+1,i0,l) ?_ ?_ ?_
 ·exact ll.start hx0 hp0 hk0
 ·exact aF.bL id (by refine ⟨?_,?_,?_,?_,?_,trivial⟩<;>first|rfl|(simp only [ba];done)|(congr 3;omega)|(congr 4;omega)|(simp only [bb];rfl)) (⟨by first|rfl|(simp only [ba];done)|(congr 3;omega)|(congr 4;omega)|(simp only [bb];rfl),trivial⟩) rfl
 rintro ⟨j,i,c⟩ hd
 have hdl:=hd.len;have hdi:=hd.ij;have hdj:=hd.jl
 refine ag ?_
 refine aH aa 2 rfl ?_
 refine az (dy rfl rfl rfl rfl rfl Try.underlying32) rfl ?_
 refine ad aa 1 rfl ?_
 refine af ?_
 refine aj rfl (fun hc2=>?_) (fun hc2=>?_)
 ·
  have hc2':=of_decide_eq_true hc2
  refine aQ ?_
  refine ag ?_
  refine aR ?_
  refine aH aa 2 rfl ?_
  refine az (bz (i:=j) rfl rfl rfl Try.underlying32 jE (by first|omega|(simp;done)|(simp;omega)) (by first|omega|(simp;done)|(simp;omega))) rfl ?_
  obtain ⟨x1,hx1⟩:=cg (xs:=c) (i:=j) (by first|omega|(simp;done)|(simp;omega))
  refine az (dr rfl rfl rfl Try.underlying80 rfl jE (bj hx1) rfl) rfl ?_
  refine ad aa 2 rfl ?_
  refine af ?_
  refine aH aa 2 rfl ?_
  refine az (ig 2 (hp x1) hen rfl rfl rfl ⟨⟨_,rfl,.g ⟨.d _,.d _,.d _,.d _,trivial⟩⟩,trivial⟩ trivial trivial rfl rfl rfl rfl) rfl ?_
  refine ad aa 1 rfl ?_
  refine af ?_
  refine aj rfl (fun hc3=>?_) (fun hc3=>?_)
  ·
   have hc3':=hc3;try simp only [bx,bV] at hc3'
   refine aH aa 3 rfl ?_
   refine az (bz (i:=i) rfl rfl rfl Try.underlying32 jE (by first|omega|(simp;done)|(simp;omega)) (by first|omega|(simp;done)|(simp;omega))) rfl ?_
   obtain ⟨x2,hx2⟩:=cg (xs:=c) (i:=i) (by first|omega|(simp;done)|(simp;omega))
   refine gw [1,0] (dS (ds:=[(dI x1.number),(dI x1.kind),(dI x1.bd),(dI x1.sum)]) rfl rfl rfl rfl rfl jE rfl (Nat.le_of_ble_eq_true rfl) (bj hx2) rfl (eU (x':=x1) rfl)) rfl ?_
   refine af ?_
   refine aw ?_
   refine ad aa 1 rfl ?_
   refine az (aK rfl rfl rfl (aL (by first|omega|(simp;done)|(simp;omega)))) rfl ?_
   refine ad aa 1 rfl ?_
   refine cf ?_
   refine bf ?_
   refine then_ok ?_
   refine aw ?_
   refine ad aa 1 rfl ?_
   refine az (aK rfl rfl rfl (aL (by first|omega|(simp;done)|(simp;omega)))) rfl ?_
   refine ad aa 1 rfl ?_
   refine af ?_
   refine ⟨(j+1,(i)+1,(c).set i x1),hd.cS hx1 (by simpa using hc3),by first|omega|(simp;done)|(simp;omega),aF.bL id (by refine ⟨?_,?_,?_,?_,?_,trivial⟩<;>first|rfl|(simp only [ba];done)|(congr 3;omega)|(congr 4;omega)|(simp only [bb];rfl)) (⟨by first|rfl|(simp only [ba];done)|(congr 3;omega)|(congr 4;omega)|(simp only [bb];rfl),trivial⟩) rfl⟩
  have hc3':=hc3;try simp only [bx,bV] at hc3'
  refine cE ?_
  refine bf ?_
  refine then_ok ?_
  refine aw ?_
  refine ad aa 1 rfl ?_
  refine az (aK rfl rfl rfl (aL (by first|omega|(simp;done)|(simp;omega)))) rfl ?_
  refine ad aa 1 rfl ?_
  refine af ?_
  refine ⟨(j+1,i,c),hd.skip hx1 (by simpa using hc3),by first|omega|(simp;done)|(simp;omega),aF.bL id (by refine ⟨?_,?_,?_,?_,?_,trivial⟩<;>first|rfl|(simp only [ba];done)|(congr 3;omega)|(congr 4;omega)|(simp only [bb];rfl)) (⟨by first|rfl|(simp only [ba];done)|(congr 3;omega)|(congr 4;omega)|(simp only [bb];rfl),trivial⟩) rfl⟩
 have hc2':=of_decide_eq_false hc2
 refine bT ?_
 refine aN ?_
 refine aN ?_
 refine bA ?_
 refine then_ok ?_
 refine aH aa 2 rfl ?_
 refine az (nO (l:=i) (h:=l.length) rfl Try.underlying32 jE rfl (.inr ⟨_,rfl,rfl⟩) (.inl ⟨rfl,rfl⟩) (by first|omega|(simp;done)|(simp;omega)) (by first|omega|(simp;done)|(simp;omega)) (by first|omega|(simp;done)|(simp;omega)) rfl) rfl ?_
 refine gw [0] (sO (rows':=(c.take i).map fE) uY GD rfl rfl rfl rfl rfl rfl rfl rfl rfl (by simp [List.map_take])) rfl ?_
 refine af ?_
 refine aH aa 2 rfl ?_
 refine az (nO (l:=0) (h:=i) rfl Try.underlying32 jE rfl (.inl ⟨rfl,rfl⟩) (.inr ⟨_,rfl,rfl⟩) (by first|omega|(simp;done)|(simp;omega)) (by first|omega|(simp;done)|(simp;omega)) (by first|omega|(simp;done)|(simp;omega)) rfl) rfl ?_
 refine ad aa 1 rfl ?_
 refine af ?_
 refine aA ?_
 have hX:dC pr l=(c.take i):=by
   have hdone:=hd.done (by omega)
   rw [<-hdone]
 rw [hX] at hr;clear hX
 subst hr
 refine aq aa [0] 1 rfl rfl rfl rfl rfl rfl ?_ ?_
 all_goals first|rfl|(simp [aD];done)|(simp [aD];omega)


theorem kz {s : bS} {t : bg} (hI : ∀ t ∈ s.kept, fj t.number) (h : 0 ≤ s.bq ∧ s.bq ≤ 1000000) : ∀ u ∈ s.kept ++ [(⟨s.bq + 1, t.kind, t.bd, t.sum⟩ : bg)], fj u.number := by
  intro u hu
  rcases List.mem_append.1 hu with hu | hu
  · exact hI u hu
  · have : u = ⟨s.bq + 1, t.kind, t.bd, t.sum⟩ := by simpa using hu
    subst this; unfold fj; dsimp only; omega
theorem jH {s x:bS} {seen e:Int} (hI:∀ t∈s.kept,fj t.number) (h:eh s seen=(x,e)):∀ u∈x.kept,fj u.number:=by
  intro u hu
  rcases pT h with ⟨_,rfl⟩|⟨_,_,_,_,rfl⟩
  ·simp [xy] at hu
  ·exact hI u (ku hu)

theorem lS (s:bS) (hI:∀ t∈s.kept,fj t.number) (f:dc) (hr:cK s=f):Fn Try.prog 29 [(.g [(cI s.bq),(ck s.kept)])] (.v (.g [(cI f.err),(cI f.at_)])) []:=by
 refine Fn.mk' 79 [(0,(aG [(cI s.bq),(ck s.kept)]))] Try.func29 rfl rfl rfl rfl ?_
 intro W0 T0
 refine cF 0 1 rfl rfl (fun hlen0_1=>?_)
 refine ae aa 2 rfl ?_
 refine ag ?_
 refine aH aa 2 rfl ?_
 refine az (bP rfl rfl rfl rfl rfl Try.underlying32) rfl ?_
 refine ad aa 1 rfl ?_
 refine af ?_
 refine aj rfl (fun hc1=>?_) (fun hc1=>?_)
 ·
  have hc1':=of_decide_eq_true hc1
  refine ae aa 2 rfl ?_
  refine aA ?_
  refine ax ?_
  have hX:cK s=(⟨5,0⟩:dc):=by
    unfold cK jQ;rw [if_pos (by omega)]
  rw [hX] at hr;clear hX
  subst hr
  refine aq aa [1] 0 rfl rfl rfl rfl rfl rfl ?_ ?_
  all_goals first|rfl|(simp [aD];done)|(simp [aD];omega)
 have hc1':=of_decide_eq_false hc1
 refine aQ ?_
 refine ag ?_
 refine cr 20 ((decide (s.bq < (↑s.kept.length:Int)))||(decide (s.bq > 1000000))) ?_ ?_
 ·
  refine aw ?_
  refine ad aa 4 rfl ?_
  refine az (bP rfl rfl rfl rfl rfl Try.underlying32) rfl ?_
  refine ad aa 2 rfl ?_
  refine bK (t:=16) rfl (fun hb2=>?_) (fun hb2=>?_)
  ·
   have hb2':=of_decide_eq_true hb2
   refine ad aa 4 rfl ?_
   refine af ?_
   exact aF.bF 12 rfl rfl (by first|(simp [hb2];done)|(simp_all;done)|(exfalso;simp_all;done)|(simp_all;omega)) rfl
  have hb2':=of_decide_eq_false hb2
  refine ad aa 4 rfl ?_
  refine af ?_
  exact aF.bF 12 rfl rfl (by first|(simp [hb2];done)|(simp_all;done)|(exfalso;simp_all;done)|(simp_all;omega)) rfl
 refine aj rfl (fun hc3=>?_) (fun hc3=>?_)
 ·
  have hc3':=hc3;try simp only [bx,bV] at hc3'
  refine ae aa 2 rfl ?_
  refine aA ?_
  refine ax ?_
  have hX:cK s=(⟨3,0⟩:dc):=by
    unfold cK jQ;rw [if_neg (by omega),if_pos (by omega)]
  rw [hX] at hr;clear hX
  subst hr
  refine aq aa [1] 0 rfl rfl rfl rfl rfl rfl ?_ ?_
  all_goals first|rfl|(simp [aD];done)|(simp [aD];omega)
 have hc3':=hc3;try simp only [bx,bV] at hc3'
 refine aQ ?_
 refine ag ?_
 refine aH aa 2 rfl ?_
 refine az (bP rfl rfl rfl rfl rfl Try.underlying32) rfl ?_
 refine ad aa 1 rfl ?_
 refine af ?_
 refine aR ?_
 refine ch (β:=Nat) (fun (q:Nat)=>⟨[(1,(aC (.p 0 0 0 0))),(2,(aC (.p 1 0 0 0))),(23,(aC (ck s.kept))),(24,(aI (↑s.kept.length:Int))),(25,(aI (↑q:Int)))],[(1,(.box 50 [(cI 0),(cI 0)])),(0,(.box 34 [(cI s.bq),(ck s.kept)]))],2⟩) (fun (q:Nat)=>q<=s.kept.length/\scan (mA s) 0 s.kept.length=scan (mA s) q (s.kept.length - q)) (fun (q:Nat)=>s.kept.length - q) 0 ?_ ?_ ?_
 ·exact ⟨by omega,rfl⟩
 ·exact aF.bL id (by refine ⟨?_,?_,?_,?_,?_,trivial⟩<;>first|rfl|(simp only [ba];done)|(congr 3;omega)|(congr 4;omega)|(simp only [bb];rfl)) (by refine ⟨?_,?_,trivial⟩<;>first|rfl|(simp only [ba];done)|(congr 3;omega)|(congr 4;omega)|(simp only [bb];rfl)) rfl
 rintro q ⟨hi0_0,hi0_1⟩
 refine ae aa 1 rfl ?_
 refine ag ?_
 refine aj rfl (fun hc4=>?_) (fun hc4=>?_)
 ·
  have hc4':=of_decide_eq_true hc4
  refine aQ ?_
  refine ag ?_
  refine aR ?_
  refine aH aa 1 rfl ?_
  obtain ⟨x1,hx1⟩:=cg (xs:=s.kept) (i:=q) (by first|omega|(simp;done)|(simp;omega))
  have hx1b:=hI x1 (List.mem_of_getElem? hx1)
  unfold fj at hx1b
  refine az (bX (i:=q) rfl rfl rfl Try.underlying32 jE (by first|omega|(simp;done)|(simp;omega)) (bj hx1)) rfl ?_
  refine ad aa 4 rfl ?_
  refine af ?_
  refine aR ?_
  refine cr 30 ((decide (x1.kind < 1))||(decide (x1.kind > 3))) ?_ ?_
  ·
   refine aw ?_
   refine ad aa 4 rfl ?_
   refine bK (t:=34) rfl (fun hb5=>?_) (fun hb5=>?_)
   ·
    have hb5':=of_decide_eq_true hb5
    refine ad aa 5 rfl ?_
    refine af ?_
    exact aF.bF 10 rfl rfl (by first|(simp [hb5];done)|(simp_all;done)|(exfalso;simp_all;done)|(simp_all;omega)) rfl
   have hb5':=of_decide_eq_false hb5
   refine ad aa 5 rfl ?_
   refine af ?_
   exact aF.bF 10 rfl rfl (by first|(simp [hb5];done)|(simp_all;done)|(exfalso;simp_all;done)|(simp_all;omega)) rfl
  refine aj rfl (fun hc6=>?_) (fun hc6=>?_)
  ·
   have hc6':=hc6;try simp only [bx,bV] at hc6'
   refine ae aa 3 rfl ?_
   refine aA ?_
   refine bp ?_
   refine bp ?_
   refine ax ?_
   refine ax ?_
   refine bp ?_
   refine ax ?_
   have hX:cK s=(⟨1,(↑q:Int)⟩:dc):=by
     unfold cK jQ;rw [if_neg (by omega),if_neg (by omega),hi0_1,iw (c:=1) (by omega) (by unfold mA;simp only [hx1];rw [if_pos (by omega)]) (by decide)]
   rw [hX] at hr;clear hX
   subst hr
   refine aq aa [1] 0 rfl rfl rfl rfl rfl rfl ?_ ?_
   all_goals first|rfl|(simp [aD];done)|(simp [aD];omega)
  have hc6':=hc6;try simp only [bx,bV] at hc6'
  refine cr 41 ((((decide (x1.bd < 0))||(decide (x1.bd>=30)))||(decide (x1.sum < 1)))||(decide (x1.sum > 1000000))) ?_ ?_
  ·
   refine aw ?_
   refine ad aa 4 rfl ?_
   refine bK (t:=45) rfl (fun hb7=>?_) (fun hb7=>?_)
   ·
    have hb7':=of_decide_eq_true hb7
    refine ad aa 15 rfl ?_
    refine af ?_
    exact aF.bF 20 rfl rfl (by first|(simp [hb7];done)|(simp_all;done)|(exfalso;simp_all;done)|(simp_all;omega)) rfl
   have hb7':=of_decide_eq_false hb7
   refine ad aa 5 rfl ?_
   refine bK (t:=50) rfl (fun hb8=>?_) (fun hb8=>?_)
   ·
    have hb8':=of_decide_eq_true hb8
    refine ad aa 10 rfl ?_
    refine af ?_
    exact aF.bF 21 rfl rfl (by first|(simp [hb7,hb8];done)|(simp_all;done)|(exfalso;simp_all;done)|(simp_all;omega)) rfl
   have hb8':=of_decide_eq_false hb8
   refine ad aa 5 rfl ?_
   refine bK (t:=55) rfl (fun hb9=>?_) (fun hb9=>?_)
   ·
    have hb9':=of_decide_eq_true hb9
    refine ad aa 5 rfl ?_
    refine af ?_
    exact aF.bF 22 rfl rfl (by first|(simp [hb7,hb8,hb9];done)|(simp_all;done)|(exfalso;simp_all;done)|(simp_all;omega)) rfl
   have hb9':=of_decide_eq_false hb9
   refine ad aa 5 rfl ?_
   refine af ?_
   exact aF.bF 22 rfl rfl (by first|(simp [hb7,hb8,hb9];done)|(simp_all;done)|(exfalso;simp_all;done)|(simp_all;omega)) rfl
  refine aj rfl (fun hc10=>?_) (fun hc10=>?_)
  ·
   have hc10':=hc10;try simp only [bx,bV] at hc10'
   refine ae aa 3 rfl ?_
   refine aA ?_
   refine bp ?_
   refine bp ?_
   refine ax ?_
   refine ax ?_
   refine bp ?_
   refine ax ?_
   have hX:cK s=(⟨3,(↑q:Int)⟩:dc):=by
     unfold cK jQ;rw [if_neg (by omega),if_neg (by omega),hi0_1,iw (c:=3) (by omega) (by unfold mA;simp only [hx1];rw [if_neg (by omega),if_pos (by omega)]) (by decide)]
   rw [hX] at hr;clear hX
   subst hr
   refine aq aa [1] 0 rfl rfl rfl rfl rfl rfl ?_ ?_
   all_goals first|rfl|(simp [aD];done)|(simp [aD];omega)
  have hc10':=hc10;try simp only [bx,bV] at hc10'
  refine aH aa 6 rfl ?_
  refine az (bP rfl rfl rfl rfl rfl Try.underlying32) rfl ?_
  refine az (aK rfl rfl rfl (aL (by first|omega|(simp;done)|(simp;omega)))) rfl ?_
  refine az (aK rfl rfl rfl (aL (by first|omega|(simp;done)|(simp;omega)))) rfl ?_
  refine ad aa 1 rfl ?_
  refine az (aK rfl rfl rfl (aL (by first|omega|(simp;done)|(simp;omega)))) rfl ?_
  refine ad aa 2 rfl ?_
  refine af ?_
  refine aj rfl (fun hc11=>?_) (fun hc11=>?_)
  ·
   have hc11':=of_decide_eq_true hc11
   refine ae aa 3 rfl ?_
   refine aA ?_
   refine bp ?_
   refine bp ?_
   refine ax ?_
   refine ax ?_
   refine bp ?_
   refine ax ?_
   have hX:cK s=(⟨2,(↑q:Int)⟩:dc):=by
     unfold cK jQ;rw [if_neg (by omega),if_neg (by omega),hi0_1,iw (c:=2) (by omega) (by unfold mA;simp only [hx1];rw [if_neg (by omega),if_neg (by omega),if_pos (by omega)]) (by decide)]
   rw [hX] at hr;clear hX
   subst hr
   refine aq aa [1] 0 rfl rfl rfl rfl rfl rfl ?_ ?_
   all_goals first|rfl|(simp [aD];done)|(simp [aD];omega)
  have hc11':=of_decide_eq_false hc11
  refine cE ?_
  refine bf ?_
  refine bf ?_
  refine then_ok ?_
  refine aw ?_
  refine az (aK rfl rfl rfl (aL (by first|omega|(simp;done)|(simp;omega)))) rfl ?_
  refine ad aa 1 rfl ?_
  refine af ?_
  refine ⟨q+1,⟨by omega,by rw [hi0_1];exact mP (by omega) (by unfold mA;simp only [hx1];rw [if_neg (by omega),if_neg (by omega),if_neg (by omega)])⟩,by first|omega|(simp;done)|(simp;omega),aF.bL id (by refine ⟨?_,?_,?_,?_,?_,trivial⟩<;>first|rfl|(simp only [ba];done)|(congr 3;omega)|(congr 4;omega)|(simp only [bb];rfl)) (by refine ⟨?_,?_,trivial⟩<;>first|rfl|(simp only [ba];done)|(congr 3;omega)|(congr 4;omega)|(simp only [bb];rfl)) rfl⟩
 have hc4':=of_decide_eq_false hc4
 refine bT ?_
 refine aN ?_
 refine aN ?_
 refine bA ?_
 refine then_ok ?_
 refine ae aa 2 rfl ?_
 refine aA ?_
 have hX:cK s=(⟨0,0⟩:dc):=by
   unfold cK jQ;rw [if_neg (by omega),if_neg (by omega),hi0_1,nv (by omega)]
 rw [hX] at hr;clear hX
 subst hr
 refine aq aa [1] 0 rfl rfl rfl rfl rfl rfl ?_ ?_
 all_goals first|rfl|(simp [aD];done)|(simp [aD];omega)

theorem sa (s:bS) (t:bg) (hI:∀ t∈s.kept,fj t.number) (x:bS) (e:Int) (hr:gG s t=(x,e)):Fn Try.prog 103 [(.g [(cI s.bq),(ck s.kept)]),(.g [(cI t.number),(cI t.kind),(cI t.bd),(cI t.sum)])] (.t [(.g [(cI x.bq),(.s 0 0 4 x.kept.length)]),(.c (cI e))]) [(0,(xX x.kept))]:=by
 refine Fn.mk' 40 [(0,(aG [(cI s.bq),(ck s.kept)])),(1,(aG [(cI t.number),(cI t.kind),(cI t.bd),(cI t.sum)]))] Try.func103 rfl rfl rfl rfl ?_
 intro W0 T0
 refine cF 0 1 rfl rfl (fun hlen0_1=>?_)
 have hrs:=@ln s
 refine ae aa 4 rfl ?_
 refine ag ?_
 refine aH aa 1 rfl ?_
 obtain ⟨f0,hr0⟩:∃ (f0:dc),cK s=f0:=⟨_,rfl⟩
 have hq0:(cK s).err=f0.err:=by rw [hr0]
 refine aT 3 [2,1,0] (bU 3 (lS s (by first|assumption|exact kz (by assumption) (by omega)|exact jH (by assumption) (by assumption)|(simp [fj];done)) f0 hr0) Cg rfl rfl ⟨⟨_,rfl,.g ⟨.d _,.d _,trivial⟩⟩,trivial⟩ ⟨trivial,trivial,trivial⟩ trivial rfl rfl rfl rfl) rfl ?_
 refine ad aa 2 rfl ?_
 refine af ?_
 refine ae aa 3 rfl ?_
 refine aj rfl (fun hc1=>?_) (fun hc1=>?_)
 ·
  have hc1':=of_decide_eq_true hc1
  refine ag ?_
  refine di [2,3,4,6] [3,2,1,0] mixed rfl rfl ?_
  refine bW (kn:=[]) aa 5 rfl trivial ?_
  refine dW [2,3,4,5] [2,1,0] rfl rfl (by kernel_rfl) ?_
  refine then_ok ?_
  refine aA ?_
  refine ax ?_
  refine ct 2 1 80 4 rfl rfl rfl ?_
  have hX:gG s t=((⟨0,([]:List bg)⟩:bS),f0.err):=by
    unfold gG;rw [if_pos (by omega),hr0];rfl
  rw [hX] at hr;clear hX
  simp only [Prod.mk.injEq] at hr;obtain ⟨rfl,rfl⟩:=hr
  refine aq aa [4,2] 1 rfl rfl rfl rfl rfl rfl ?_ ?_
  all_goals first|rfl|(simp [aD];done)|(simp [aD];omega)
 have hc1':=of_decide_eq_false hc1
 refine aQ ?_
 refine aH aa 2 rfl ?_
 refine az (aK rfl rfl rfl (aL (by first|omega|(simp;done)|(simp;omega)))) rfl ?_
 refine ad aa 2 rfl ?_
 refine af ?_
 refine ag ?_
 refine aX [2,3,4] [2,1,0] mixed rfl rfl ?_
 refine ay (kn:=[]) aa 2 rfl trivial ?_
 refine aP (n':=4) [22] [] rfl rfl (.inl ⟨(ah.plain rfl),aJ.cast (aK rfl rfl rfl (aL (by first|omega|(simp;done)|(simp;omega)))) rfl⟩) rfl ?_
 refine ay (kn:=[]) aa 2 rfl trivial ?_
 refine aP (n':=5) [25] [] rfl rfl (.inl ⟨(ah.plain rfl),aJ.cast (bU 4 (lT s.kept (by first|omega|(simp;done)|(simp;omega))) CS rfl rfl ⟨⟨_,rfl,.c (.d _)⟩,trivial⟩ trivial ⟨(fun _ _ _ _=>trivial),trivial⟩ rfl rfl rfl rfl) rfl⟩) rfl ?_
 refine ay (kn:=[]) aa 1 rfl trivial ?_
 refine aP (n':=6) [27] [] rfl rfl (.inl ⟨(ah.plain rfl),aJ.cast (ec (ys:=[(0,(.g [(cI (s.bq+1)),(cI t.kind),(cI t.bd),(cI t.sum)]))]) (rows:=([(⟨s.bq+1,t.kind,t.bd,t.sum⟩:bg)]).map fE) 5 uY rfl (by decide) ⟨⟨rfl,rfl⟩,trivial⟩ rfl rfl rfl rfl) rfl⟩) rfl ?_
 refine aP (n':=7) [26,28] [5,4] rfl rfl (.inl ⟨(ah.plain rfl),aJ.cast (dE (m:=1) (N:=s.kept.length+1) (k2:=6) (ys:=([(⟨s.bq+1,t.kind,t.bd,t.sum⟩:bg)]).map fE) uY rfl rfl rfl rfl rfl rfl (by first|omega|(simp;done)|(simp;omega)) rfl (.s rfl (by first|omega|(simp;done)|(simp;omega))) (by first|omega|(simp;done)|(simp;omega)) (by first|omega|(simp;done)|(simp;omega)) fM (by decide) (by first|omega|(simp;done)|(simp;omega)) (by first|omega|(simp;done)|(simp;omega))) rfl⟩) rfl ?_
 refine ay (n':=8) (kn:=[]) aa 2 rfl trivial ?_
 refine bw [7,6,2,1,0] rfl rfl rfl rfl (by kernel_rfl) ?_
 refine ad aa 1 rfl ?_
 refine af ?_
 refine ag ?_
 refine aH aa 1 rfl ?_
 obtain ⟨f1,hr1⟩:∃ (f1:dc),cK (⟨s.bq+1,s.kept++([(⟨s.bq+1,t.kind,t.bd,t.sum⟩:bg)])⟩:bS)=f1:=⟨_,rfl⟩
 have hq1:(cK (⟨s.bq+1,s.kept++([(⟨s.bq+1,t.kind,t.bd,t.sum⟩:bg)])⟩:bS)).err=f1.err:=by rw [hr1]
 refine aT 8 [7,6,2,1,0] (ga 8 [6] (lS (⟨s.bq+1,s.kept++([(⟨s.bq+1,t.kind,t.bd,t.sum⟩:bg)])⟩:bS) (by first|assumption|exact kz (by assumption) (by omega)|exact jH (by assumption) (by assumption)|(simp [fj];done)) f1 hr1) Cg rfl rfl ⟨⟨_,rfl,.g ⟨.d _,.s rfl (by decide) (by first|omega|(simp;done)|(simp;omega)),trivial⟩⟩,trivial⟩ ⟨rfl,rfl,trivial⟩ trivial rfl rfl rfl rfl) rfl ?_
 refine ad aa 2 rfl ?_
 refine af ?_
 refine ae aa 3 rfl ?_
 refine aj rfl (fun hc2=>?_) (fun hc2=>?_)
 ·
  have hc2':=of_decide_eq_true hc2
  refine ag ?_
  refine di [4,7,8] [8,7,6,2] mixed rfl rfl ?_
  refine bW (kn:=[]) aa 5 rfl trivial ?_
  refine dW [4,7,5] [2,7,6] rfl rfl (by kernel_rfl) ?_
  refine then_ok ?_
  refine aA ?_
  refine ax ?_
  refine ct 2 1 80 4 rfl rfl rfl ?_
  have hX:gG s t=((⟨0,([]:List bg)⟩:bS),f1.err):=by
    have hout:cK (gO s t)=f1:=hr1
    unfold gG;rw [if_neg (by omega),if_pos (by rw [hout];omega),hout];rfl
  rw [hX] at hr;clear hX
  simp only [Prod.mk.injEq] at hr;obtain ⟨rfl,rfl⟩:=hr
  refine aq aa [9,2] 1 rfl rfl rfl rfl rfl rfl ?_ ?_
  all_goals first|rfl|(simp [aD];done)|(simp [aD];omega)
 have hc2':=of_decide_eq_false hc2
 refine aQ ?_
 refine ae aa 3 rfl ?_
 refine aA ?_
 have hX:gG s t=((⟨s.bq+1,s.kept++([(⟨s.bq+1,t.kind,t.bd,t.sum⟩:bg)])⟩:bS),0):=by
   have hout:cK (gO s t)=f1:=hr1
   unfold gG;rw [if_neg (by omega),if_neg (by rw [hout];omega)];rfl
 rw [hX] at hr;clear hX
 simp only [Prod.mk.injEq] at hr;obtain ⟨rfl,rfl⟩:=hr
 refine aq aa [6,2] 1 rfl rfl rfl rfl rfl rfl ?_ ?_
 all_goals first|rfl|(simp [aD];done)|(simp [aD];omega)
theorem qq (seen:Int) (t:bg) (n:Int) (ok:Bool) (hr:fV seen t=(n,ok)):Fn Try.prog 88 [(.c (cI seen)),(.g [(cI t.number),(cI t.kind),(cI t.bd),(cI t.sum)])] (.t [(.c (cI n)),(.c (cB ok))]) []:=by
 refine Fn.mk' 22 [(0,(aI seen)),(1,(aG [(cI t.number),(cI t.kind),(cI t.bd),(cI t.sum)]))] Try.func88 rfl rfl rfl rfl ?_
 intro W0 T0
 refine ae aa 3 rfl ?_
 refine ag ?_
 refine cr 18 (((decide (seen < 0))||(decide (seen>=1000000)))||(decide (¬t.number=(seen+1)))) ?_ ?_
 ·
  refine aw ?_
  refine ad aa 3 rfl ?_
  refine bK (t:=8) rfl (fun hb1=>?_) (fun hb1=>?_)
  ·
   have hb1':=of_decide_eq_true hb1
   refine ad aa 10 rfl ?_
   refine af ?_
   exact aF.bF 14 rfl rfl (by first|(simp [hb1];done)|(simp_all;done)|(exfalso;simp_all;done)|(simp_all;omega)) rfl
  have hb1':=of_decide_eq_false hb1
  refine ad aa 4 rfl ?_
  refine bK (t:=12) rfl (fun hb2=>?_) (fun hb2=>?_)
  ·
   have hb2':=of_decide_eq_true hb2
   refine ad aa 6 rfl ?_
   refine af ?_
   exact aF.bF 15 rfl rfl (by first|(simp [hb1,hb2];done)|(simp_all;done)|(exfalso;simp_all;done)|(simp_all;omega)) rfl
  have hb2':=of_decide_eq_false hb2
  refine ad aa 3 rfl ?_
  refine cD (ah.yes rfl rfl rfl) (aK rfl rfl rfl (aL (by first|omega|(simp;done)|(simp;omega)))) rfl rfl ?_
  refine ad aa 2 rfl ?_
  refine af ?_
  exact aF.bF 15 rfl rfl (by first|(simp [hb1,hb2];done)|(simp_all;done)|(exfalso;simp_all;done)|(simp_all;omega)) rfl
 refine aj rfl (fun hc3=>?_) (fun hc3=>?_)
 ·
  have hc3':=hc3;try simp only [bx,bV] at hc3'
  refine ae aa 3 rfl ?_
  refine aA ?_
  refine ax ?_
  have hX:fV seen t=(seen,false):=by
    (unfold fV;try dsimp only);(repeat' split)<;>first|rfl|omega|(exfalso;omega)|(subst_vars;rfl)|(simp_all;done)|(simp_all;omega)
  rw [hX] at hr;clear hX
  simp only [Prod.mk.injEq] at hr;obtain ⟨rfl,rfl⟩:=hr
  refine aq aa [] 0 rfl rfl rfl rfl rfl rfl ?_ ?_
  all_goals first|rfl|(simp [aD];done)|(simp [aD];omega)
 have hc3':=hc3;try simp only [bx,bV] at hc3'
 refine aQ ?_
 refine aH aa 1 rfl ?_
 refine az (aK rfl rfl rfl (aL (by first|omega|(simp;done)|(simp;omega)))) rfl ?_
 refine ad aa 2 rfl ?_
 refine af ?_
 refine aA ?_
 have hX:fV seen t=(seen+1,true):=by
   (unfold fV;try dsimp only);(repeat' split)<;>first|rfl|omega|(exfalso;omega)|(subst_vars;rfl)|(simp_all;done)|(simp_all;omega)
 rw [hX] at hr;clear hX
 simp only [Prod.mk.injEq] at hr;obtain ⟨rfl,rfl⟩:=hr
 refine aq aa [] 0 rfl rfl rfl rfl rfl rfl ?_ ?_
 all_goals first|rfl|(simp [aD];done)|(simp [aD];omega)

theorem DF (t:bg) (seen:Int):Fn Try.prog 107 [(.g [(cI t.number),(cI t.kind),(cI t.bd),(cI t.sum)]),(.c (.q ([dI seen]) 0))] (aB (came seen t)) []:=by
 refine Fn.mk' 8 [(0,(aG [(cI t.number),(cI t.kind),(cI t.bd),(cI t.sum)])),(1,(aC (.q ([dI seen]) 0)))] Try.func107 rfl rfl rfl rfl ?_
 intro W0 T0
 refine ae aa 2 rfl ?_
 refine ae aa 5 rfl ?_
 refine aA ?_
 refine aq aa [] 0 rfl rfl rfl rfl rfl rfl ?_ ?_
 all_goals first|rfl|(simp [aD];done)|(simp [aD];omega)
theorem qt (s:bS) (seen:Int) (hI:∀ t∈s.kept,fj t.number) (x:bS) (e:Int) (hr:eh s seen=(x,e)):Fn Try.prog 86 [(.g [(cI s.bq),(ck s.kept)]),(.c (cI seen))] (.t [(.g [(cI x.bq),(.s 0 0 4 x.kept.length)]),(.c (cI e))]) [(0,(xX x.kept))]:=by
 refine Fn.mk' 32 [(0,(aG [(cI s.bq),(ck s.kept)])),(1,(aI seen))] Try.func86 rfl rfl rfl rfl ?_
 intro W0 T0
 refine cF 0 1 rfl rfl (fun hlen0_1=>?_)
 have hrs:=@ln s
 refine ae aa 4 rfl ?_
 refine ag ?_
 refine aH aa 1 rfl ?_
 obtain ⟨f0,hr0⟩:∃ (f0:dc),cK s=f0:=⟨_,rfl⟩
 have hq0:(cK s).err=f0.err:=by rw [hr0]
 refine aT 3 [2,1,0] (bU 3 (lS s (by first|assumption|exact kz (by assumption) (by omega)|exact jH (by assumption) (by assumption)|(simp [fj];done)) f0 hr0) Cg rfl rfl ⟨⟨_,rfl,.g ⟨.d _,.d _,trivial⟩⟩,trivial⟩ ⟨trivial,trivial,trivial⟩ trivial rfl rfl rfl rfl) rfl ?_
 refine ad aa 2 rfl ?_
 refine af ?_
 refine ae aa 3 rfl ?_
 refine aj rfl (fun hc1=>?_) (fun hc1=>?_)
 ·
  have hc1':=of_decide_eq_true hc1
  refine ag ?_
  refine di [2,3,4,6] [3,2,1,0] mixed rfl rfl ?_
  refine bW (kn:=[]) aa 5 rfl trivial ?_
  refine dW [2,3,4,5] [2,1,0] rfl rfl (by kernel_rfl) ?_
  refine then_ok ?_
  refine aA ?_
  refine ax ?_
  refine ct 2 1 80 4 rfl rfl rfl ?_
  have hX:eh s seen=((⟨0,([]:List bg)⟩:bS),f0.err):=by
    unfold eh;rw [if_pos (by omega),hr0];rfl
  rw [hX] at hr;clear hX
  simp only [Prod.mk.injEq] at hr;obtain ⟨rfl,rfl⟩:=hr
  refine aq aa [4,2] 1 rfl rfl rfl rfl rfl rfl ?_ ?_
  all_goals first|rfl|(simp [aD];done)|(simp [aD];omega)
 have hc1':=of_decide_eq_false hc1
 refine aQ ?_
 refine ag ?_
 refine cr 22 ((decide (seen < 0))||(decide (seen > s.bq))) ?_ ?_
 ·
  refine aw ?_
  refine ad aa 3 rfl ?_
  refine bK (t:=17) rfl (fun hb2=>?_) (fun hb2=>?_)
  ·
   have hb2':=of_decide_eq_true hb2
   refine ad aa 5 rfl ?_
   refine af ?_
   exact aF.bF 9 rfl rfl (by first|(simp [hb2];done)|(simp_all;done)|(exfalso;simp_all;done)|(simp_all;omega)) rfl
  have hb2':=of_decide_eq_false hb2
  refine ad aa 5 rfl ?_
  refine af ?_
  exact aF.bF 9 rfl rfl (by first|(simp [hb2];done)|(simp_all;done)|(exfalso;simp_all;done)|(simp_all;omega)) rfl
 refine aj rfl (fun hc3=>?_) (fun hc3=>?_)
 ·
  have hc3':=hc3;try simp only [bx,bV] at hc3'
  refine ae aa 3 rfl ?_
  refine aA ?_
  refine ax ?_
  refine ct 2 1 80 4 rfl rfl rfl ?_
  have hX:eh s seen=((⟨0,([]:List bg)⟩:bS),3):=by
    unfold eh;rw [if_neg (by omega),if_pos (by omega)];rfl
  rw [hX] at hr;clear hX
  simp only [Prod.mk.injEq] at hr;obtain ⟨rfl,rfl⟩:=hr
  refine aq aa [4,2] 1 rfl rfl rfl rfl rfl rfl ?_ ?_
  all_goals first|rfl|(simp [aD];done)|(simp [aD];omega)
 have hc3':=hc3;try simp only [bx,bV] at hc3'
 refine aQ ?_
 refine ag ?_
 obtain ⟨r1,hr1⟩:∃ (r1:List bg),dC (came seen) s.kept=r1:=⟨_,rfl⟩
 refine aX [2,3,4] [2,1,0] mixed rfl rfl ?_
 refine ay (kn:=[]) aa 4 rfl trivial ?_
 refine aP (n':=5) [27] [] rfl rfl (.inl ⟨(ah.plain rfl),aJ.cast (bU 4 (lT s.kept (by first|omega|(simp;done)|(simp;omega))) CS rfl rfl ⟨⟨_,rfl,.c (.d _)⟩,trivial⟩ trivial ⟨(fun _ _ _ _=>trivial),trivial⟩ rfl rfl rfl rfl) rfl⟩) rfl ?_
 refine aP (n':=5) [3] [] rfl rfl (.inl ⟨(ah.plain rfl),aJ.cast (Ay (ks:=[1]) rfl ⟨rfl,trivial⟩) rfl⟩) rfl ?_
 refine aP (n':=6) [28,29] [1,4] rfl rfl (.inl ⟨(ah.plain rfl),aJ.cast (vO (bh [4]) (bh [5]) [1] (pY s.kept 107 ([[(dI seen)]]) (came seen) (fun x=>DF x seen) Ge r1 hr1) Gf rfl rfl ⟨⟨_,rfl,.inl ⟨rfl,rfl⟩⟩,⟨_,rfl,.inr (.c (.fn ⟨⟨by decide,_,rfl⟩,trivial⟩))⟩,trivial⟩ ⟨rfl,trivial⟩ rfl rfl rfl rfl rfl rfl rfl rfl trivial ⟨(uv _),trivial⟩ rfl rfl rfl rfl) rfl⟩) rfl ?_
 refine ay (kn:=[]) aa 1 rfl trivial ?_
 refine bw [5,2,1,0] rfl rfl rfl rfl (by kernel_rfl) ?_
 refine ad aa 2 rfl ?_
 refine af ?_
 refine aA ?_
 have hX:eh s seen=((⟨s.bq,r1⟩:bS),0):=by
   unfold eh;rw [if_neg (by omega),if_neg (by omega),hr1]
 rw [hX] at hr;clear hX
 simp only [Prod.mk.injEq] at hr;obtain ⟨rfl,rfl⟩:=hr
 refine aq aa [5,2] 1 rfl rfl rfl rfl rfl rfl ?_ ?_
 all_goals first|rfl|(simp [aD];done)|(simp [aD];omega)


theorem GW {a b c d x:Int} {q:Nat} (h:[a,b,c,d][q]?=some x):(q=0/\x=a)\/(q=1/\x=b)\/(q=2/\x=c)\/(q=3/\x=d):=by
  match q with
  |0=>left;simp_all
  |1=>right;left;simp_all
  |2=>right;right;left;simp_all
  |3=>right;right;right;simp_all
  |q+4=>simp at h

theorem pw (a:bC) (e:Int) (hr:bM a=e):Fn Try.prog 26 [(.g [(cI a.aO),(cI a.aE),(cI a.sum),(cI a.captured),(cI a.bB),(cI a.bl),(cI a.dg),(cB a.shut)])] (.v (.c (cI e))) []:=by
 refine Fn.mk' 71 [(0,(aG [(cI a.aO),(cI a.aE),(cI a.sum),(cI a.captured),(cI a.bB),(cI a.bl),(cI a.dg),(cB a.shut)]))] Try.func26 rfl rfl rfl rfl ?_
 intro W0 T0
 refine ae aa 2 rfl ?_
 refine ag ?_
 refine aH aa 8 rfl ?_
 refine aT 2 [1,0] (ec (ys:=[(0,(.c (cI a.sum))),(1,(.c (cI a.captured))),(2,(.c (cI a.bB))),(3,(.c (cI a.bl)))]) (rows:=([a.sum,a.captured,a.bB,a.bl]).map rI) 1 ns rfl (by decide) ⟨⟨rfl,rfl⟩,⟨rfl,rfl⟩,⟨rfl,rfl⟩,⟨rfl,rfl⟩,trivial⟩ rfl rfl rfl rfl) rfl ?_
 refine az (dy rfl rfl rfl rfl rfl Try.underlying30) rfl ?_
 refine ad aa 1 rfl ?_
 refine af ?_
 refine aR ?_
 refine ch (β:=Nat) (fun (q:Nat)=>⟨[(1,(aC (.p 0 0 0 0))),(13,(aC (.s 1 0 1 4))),(14,(aI 4)),(15,(aI (↑q:Int)))],[(1,(dL ([a.sum,a.captured,a.bB,a.bl]))),(0,(.box 67 [(cI a.aO),(cI a.aE),(cI a.sum),(cI a.captured),(cI a.bB),(cI a.bl),(cI a.dg),(cB a.shut)]))],2⟩) (fun (q:Nat)=>q<=4/\(0 < q->0<=a.sum/\a.sum<=1000000)/\(1 < q->0<=a.captured/\a.captured<=1000000)/\(2 < q->0<=a.bB/\a.bB<=1000000)/\(3 < q->0<=a.bl/\a.bl<=1000000)) (fun (q:Nat)=>4 - q) 0 ?_ ?_ ?_
 ·exact ⟨by omega,by omega,by omega,by omega,by omega⟩
 ·exact aF.bL id (by refine ⟨?_,?_,?_,?_,trivial⟩<;>first|rfl|(simp only [ba];done)|(congr 3;omega)|(congr 4;omega)|(simp only [bb];rfl)) (by refine ⟨?_,?_,trivial⟩<;>first|rfl|(simp only [ba];done)|(congr 3;omega)|(congr 4;omega)|(simp only [bb];rfl)) rfl
 rintro q ⟨hi0_0,hi0_1,hi0_2,hi0_3,hi0_4⟩
 refine ae aa 1 rfl ?_
 refine ag ?_
 refine aj rfl (fun hc1=>?_) (fun hc1=>?_)
 ·
  have hc1':=of_decide_eq_true hc1
  refine aQ ?_
  refine ag ?_
  refine aR ?_
  refine eK ?_
  refine az (bz (i:=q) rfl rfl rfl Try.underlying30 fC (by first|omega|(simp;done)|(simp;omega)) (by first|omega|(simp;done)|(simp;omega))) rfl ?_
  obtain ⟨x1,hx1⟩:=cg (xs:=([a.sum,a.captured,a.bB,a.bl]:List Int)) (i:=q) (by first|omega|(simp;done)|(simp;omega))
  have hx1v:=GW hx1
  refine az (eQ rfl rfl rfl Try.underlying3 rfl (bj hx1) rfl) rfl ?_
  refine ad aa 1 rfl ?_
  refine af ?_
  refine cr 24 ((decide (x1 < 0))||(decide (x1 > 1000000))) ?_ ?_
  ·
   refine aw ?_
   refine ad aa 3 rfl ?_
   refine bK (t:=21) rfl (fun hb2=>?_) (fun hb2=>?_)
   ·
    have hb2':=of_decide_eq_true hb2
    refine ad aa 3 rfl ?_
    refine af ?_
    exact aF.bF 7 rfl rfl (by first|(simp [hb2];done)|(simp_all;done)|(exfalso;simp_all;done)|(simp_all;omega)) rfl
   have hb2':=of_decide_eq_false hb2
   refine ad aa 3 rfl ?_
   refine af ?_
   exact aF.bF 7 rfl rfl (by first|(simp [hb2];done)|(simp_all;done)|(exfalso;simp_all;done)|(simp_all;omega)) rfl
  refine aj rfl (fun hc3=>?_) (fun hc3=>?_)
  ·
   have hc3':=hc3;try simp only [bx,bV] at hc3'
   refine ae aa 1 rfl ?_
   refine aA ?_
   refine bp ?_
   refine ax ?_
   refine ax ?_
   refine bp ?_
   refine ax ?_
   have hX:bM a=3:=by
     (unfold bM;try dsimp only);(repeat' split)<;>first|rfl|omega|(exfalso;omega)|(subst_vars;rfl)|(simp_all;done)|(simp_all;omega)
   rw [hX] at hr;clear hX
   subst hr
   refine aq aa [] 0 rfl rfl rfl rfl rfl rfl ?_ ?_
   all_goals first|rfl|(simp [aD];done)|(simp [aD];omega)
  have hc3':=hc3;try simp only [bx,bV] at hc3'
  refine cE ?_
  refine bf ?_
  refine then_ok ?_
  refine aw ?_
  refine az (aK rfl rfl rfl (aL (by first|omega|(simp;done)|(simp;omega)))) rfl ?_
  refine ad aa 1 rfl ?_
  refine af ?_
  refine ⟨q+1,⟨by omega,by omega,by omega,by omega,by omega⟩,by first|omega|(simp;done)|(simp;omega),aF.bL id (by refine ⟨?_,?_,?_,?_,trivial⟩<;>first|rfl|(simp only [ba];done)|(congr 3;omega)|(congr 4;omega)|(simp only [bb];rfl)) (by refine ⟨?_,?_,trivial⟩<;>first|rfl|(simp only [ba];done)|(congr 3;omega)|(congr 4;omega)|(simp only [bb];rfl)) rfl⟩
 have hc1':=of_decide_eq_false hc1
 refine bT ?_
 refine aN ?_
 refine aN ?_
 refine bA ?_
 refine then_ok ?_
 refine ag ?_
 refine aR ?_
 refine cr 26 ((((((decide (a.aO < 0))||(decide (a.aO>=8)))||(decide (a.aE < 0)))||(decide (a.aE>=8)))||(decide (a.dg < 0)))||(decide (a.dg > 1000100))) ?_ ?_
 ·
  refine aw ?_
  refine ad aa 4 rfl ?_
  refine bK (t:=30) rfl (fun hb4=>?_) (fun hb4=>?_)
  ·
   have hb4':=of_decide_eq_true hb4
   refine ad aa 25 rfl ?_
   refine af ?_
   exact aF.bF 30 rfl rfl (by first|(simp [hb4];done)|(simp_all;done)|(exfalso;simp_all;done)|(simp_all;omega)) rfl
  have hb4':=of_decide_eq_false hb4
  refine ad aa 5 rfl ?_
  refine bK (t:=35) rfl (fun hb5=>?_) (fun hb5=>?_)
  ·
   have hb5':=of_decide_eq_true hb5
   refine ad aa 20 rfl ?_
   refine af ?_
   exact aF.bF 31 rfl rfl (by first|(simp [hb4,hb5];done)|(simp_all;done)|(exfalso;simp_all;done)|(simp_all;omega)) rfl
  have hb5':=of_decide_eq_false hb5
  refine ad aa 5 rfl ?_
  refine bK (t:=40) rfl (fun hb6=>?_) (fun hb6=>?_)
  ·
   have hb6':=of_decide_eq_true hb6
   refine ad aa 15 rfl ?_
   refine af ?_
   exact aF.bF 32 rfl rfl (by first|(simp [hb4,hb5,hb6];done)|(simp_all;done)|(exfalso;simp_all;done)|(simp_all;omega)) rfl
  have hb6':=of_decide_eq_false hb6
  refine ad aa 5 rfl ?_
  refine bK (t:=45) rfl (fun hb7=>?_) (fun hb7=>?_)
  ·
   have hb7':=of_decide_eq_true hb7
   refine ad aa 10 rfl ?_
   refine af ?_
   exact aF.bF 33 rfl rfl (by first|(simp [hb4,hb5,hb6,hb7];done)|(simp_all;done)|(exfalso;simp_all;done)|(simp_all;omega)) rfl
  have hb7':=of_decide_eq_false hb7
  refine ad aa 5 rfl ?_
  refine bK (t:=50) rfl (fun hb8=>?_) (fun hb8=>?_)
  ·
   have hb8':=of_decide_eq_true hb8
   refine ad aa 5 rfl ?_
   refine af ?_
   exact aF.bF 34 rfl rfl (by first|(simp [hb4,hb5,hb6,hb7,hb8];done)|(simp_all;done)|(exfalso;simp_all;done)|(simp_all;omega)) rfl
  have hb8':=of_decide_eq_false hb8
  refine ad aa 5 rfl ?_
  refine af ?_
  exact aF.bF 34 rfl rfl (by first|(simp [hb4,hb5,hb6,hb7,hb8];done)|(simp_all;done)|(exfalso;simp_all;done)|(simp_all;omega)) rfl
 refine aj rfl (fun hc9=>?_) (fun hc9=>?_)
 ·
  have hc9':=hc9;try simp only [bx,bV] at hc9'
  refine ae aa 1 rfl ?_
  refine aA ?_
  refine bp ?_
  refine ax ?_
  have hX:bM a=3:=by
    (unfold bM;try dsimp only);(repeat' split)<;>first|rfl|omega|(exfalso;omega)|(subst_vars;rfl)|(simp_all;done)|(simp_all;omega)
  rw [hX] at hr;clear hX
  subst hr
  refine aq aa [] 0 rfl rfl rfl rfl rfl rfl ?_ ?_
  all_goals first|rfl|(simp [aD];done)|(simp [aD];omega)
 have hc9':=hc9;try simp only [bx,bV] at hc9'
 refine cr 55 ((decide (a.captured > a.sum))||(decide ((a.bB+a.bl) > a.captured))) ?_ ?_
 ·
  refine aw ?_
  refine ad aa 6 rfl ?_
  refine bK (t:=61) rfl (fun hb10=>?_) (fun hb10=>?_)
  ·
   have hb10':=of_decide_eq_true hb10
   refine ad aa 10 rfl ?_
   refine af ?_
   exact aF.bF 17 rfl rfl (by first|(simp [hb10];done)|(simp_all;done)|(exfalso;simp_all;done)|(simp_all;omega)) rfl
  have hb10':=of_decide_eq_false hb10
  refine ad aa 4 rfl ?_
  refine cD (ah.yes rfl rfl rfl) (aK rfl rfl rfl (aL (by first|omega|(simp;done)|(simp;omega)))) rfl rfl ?_
  refine ad aa 5 rfl ?_
  refine af ?_
  exact aF.bF 17 rfl rfl (by first|(simp [hb10];done)|(simp_all;done)|(exfalso;simp_all;done)|(simp_all;omega)) rfl
 refine aj rfl (fun hc11=>?_) (fun hc11=>?_)
 ·
  have hc11':=hc11;try simp only [bx,bV] at hc11'
  refine ae aa 1 rfl ?_
  refine aA ?_
  refine bp ?_
  refine ax ?_
  have hX:bM a=8:=by
    (unfold bM;try dsimp only);(repeat' split)<;>first|rfl|omega|(exfalso;omega)|(subst_vars;rfl)|(simp_all;done)|(simp_all;omega)
  rw [hX] at hr;clear hX
  subst hr
  refine aq aa [] 0 rfl rfl rfl rfl rfl rfl ?_ ?_
  all_goals first|rfl|(simp [aD];done)|(simp [aD];omega)
 have hc11':=hc11;try simp only [bx,bV] at hc11'
 refine cE ?_
 refine bf ?_
 refine then_ok ?_
 refine ae aa 1 rfl ?_
 refine aA ?_
 have hX:bM a=0:=by
   (unfold bM;try dsimp only);(repeat' split)<;>first|rfl|omega|(exfalso;omega)|(subst_vars;rfl)|(simp_all;done)|(simp_all;omega)
 rw [hX] at hr;clear hX
 subst hr
 refine aq aa [] 0 rfl rfl rfl rfl rfl rfl ?_ ?_
 all_goals first|rfl|(simp [aD];done)|(simp [aD];omega)
theorem sc (aO aE n time:Int) (b:bC) (e:Int) (hr:dm aO aE n time=(b,e)):Fn Try.prog 79 [(.c (cI aO)),(.c (cI aE)),(.c (cI n)),(.c (cI time))] (.t [(.g [(cI b.aO),(cI b.aE),(cI b.sum),(cI b.captured),(cI b.bB),(cI b.bl),(cI b.dg),(cB b.shut)]),(.c (cI e))]) []:=by
 refine Fn.mk' 40 [(0,(aI aO)),(1,(aI aE)),(2,(aI n)),(3,(aI time))] Try.func79 rfl rfl rfl rfl ?_
 intro W0 T0
 refine ae aa 2 rfl ?_
 refine ag ?_
 refine cr 25 ((((decide (n < 1))||(decide (n > 1000000)))||(decide (time < 0)))||(decide (time > 1000000))) ?_ ?_
 ·
  refine aw ?_
  refine ad aa 3 rfl ?_
  refine bK (t:=14) rfl (fun hb1=>?_) (fun hb1=>?_)
  ·
   have hb1':=of_decide_eq_true hb1
   refine ad aa 11 rfl ?_
   refine af ?_
   exact aF.bF 15 rfl rfl (by first|(simp [hb1];done)|(simp_all;done)|(exfalso;simp_all;done)|(simp_all;omega)) rfl
  have hb1':=of_decide_eq_false hb1
  refine ad aa 4 rfl ?_
  refine bK (t:=18) rfl (fun hb2=>?_) (fun hb2=>?_)
  ·
   have hb2':=of_decide_eq_true hb2
   refine ad aa 7 rfl ?_
   refine af ?_
   exact aF.bF 16 rfl rfl (by first|(simp [hb1,hb2];done)|(simp_all;done)|(exfalso;simp_all;done)|(simp_all;omega)) rfl
  have hb2':=of_decide_eq_false hb2
  refine ad aa 4 rfl ?_
  refine bK (t:=22) rfl (fun hb3=>?_) (fun hb3=>?_)
  ·
   have hb3':=of_decide_eq_true hb3
   refine ad aa 3 rfl ?_
   refine af ?_
   exact aF.bF 17 rfl rfl (by first|(simp [hb1,hb2,hb3];done)|(simp_all;done)|(exfalso;simp_all;done)|(simp_all;omega)) rfl
  have hb3':=of_decide_eq_false hb3
  refine ad aa 3 rfl ?_
  refine af ?_
  exact aF.bF 17 rfl rfl (by first|(simp [hb1,hb2,hb3];done)|(simp_all;done)|(exfalso;simp_all;done)|(simp_all;omega)) rfl
 refine aj rfl (fun hc4=>?_) (fun hc4=>?_)
 ·
  have hc4':=hc4;try simp only [bx,bV] at hc4'
  refine ae aa 3 rfl ?_
  refine aA ?_
  refine ax ?_
  have hX:dm aO aE n time=((⟨0,0,0,0,0,0,0,false⟩:bC),3):=by
    (try (unfold bM at hr0;dsimp only at hr0;(repeat' split at hr0)))<;>((unfold dm;try dsimp only);(repeat' split)<;>first|rfl|omega|(exfalso;omega)|(subst_vars;rfl)|(simp_all;done)|(simp_all;omega))
  rw [hX] at hr;clear hX
  simp only [Prod.mk.injEq] at hr;obtain ⟨rfl,rfl⟩:=hr
  refine aq aa [0] 0 rfl rfl rfl rfl rfl rfl ?_ ?_
  all_goals first|rfl|(simp [aD];done)|(simp [aD];omega)
 have hc4':=hc4;try simp only [bx,bV] at hc4'
 refine aQ ?_
 refine aH aa 4 rfl ?_
 refine az (aK rfl rfl rfl (aL (by first|omega|(simp;done)|(simp;omega)))) rfl ?_
 refine ad aa 3 rfl ?_
 refine af ?_
 refine ag ?_
 refine aH aa 1 rfl ?_
 obtain ⟨e0,hr0⟩:∃ (e0:Int),bM (⟨aO,aE,n,0,0,0,time+100,false⟩:bC)=e0:=⟨_,rfl⟩
 refine aT 2 [1,0] (bU 2 (pw (⟨aO,aE,n,0,0,0,time+100,false⟩:bC) e0 hr0) EV rfl rfl ⟨⟨_,rfl,.g ⟨.d _,.d _,.d _,.d _,.d _,.d _,.d _,.d _,trivial⟩⟩,trivial⟩ trivial trivial rfl rfl rfl rfl) rfl ?_
 refine ad aa 1 rfl ?_
 refine af ?_
 refine ae aa 2 rfl ?_
 refine aj rfl (fun hc5=>?_) (fun hc5=>?_)
 ·
  have hc5':=of_decide_eq_true hc5
  refine ae aa 4 rfl ?_
  refine aA ?_
  refine ax ?_
  have hX:dm aO aE n time=((⟨0,0,0,0,0,0,0,false⟩:bC),e0):=by
    (try (unfold bM at hr0;dsimp only at hr0;(repeat' split at hr0)))<;>((unfold dm;try dsimp only);(repeat' split)<;>first|rfl|omega|(exfalso;omega)|(subst_vars;rfl)|(simp_all;done)|(simp_all;omega))
  rw [hX] at hr;clear hX
  simp only [Prod.mk.injEq] at hr;obtain ⟨rfl,rfl⟩:=hr
  refine aq aa [0] 0 rfl rfl rfl rfl rfl rfl ?_ ?_
  all_goals first|rfl|(simp [aD];done)|(simp [aD];omega)
 have hc5':=of_decide_eq_false hc5
 refine aQ ?_
 refine ae aa 3 rfl ?_
 refine aA ?_
 have hX:dm aO aE n time=((⟨aO,aE,n,0,0,0,time+100,false⟩:bC),0):=by
   (try (unfold bM at hr0;dsimp only at hr0;(repeat' split at hr0)))<;>((unfold dm;try dsimp only);(repeat' split)<;>first|rfl|omega|(exfalso;omega)|(subst_vars;rfl)|(simp_all;done)|(simp_all;omega))
 rw [hX] at hr;clear hX
 simp only [Prod.mk.injEq] at hr;obtain ⟨rfl,rfl⟩:=hr
 refine aq aa [0] 0 rfl rfl rfl rfl rfl rfl ?_ ?_
 all_goals first|rfl|(simp [aD];done)|(simp [aD];omega)
end Go.Proofs.Ytegepioggeggaaa.Dev
