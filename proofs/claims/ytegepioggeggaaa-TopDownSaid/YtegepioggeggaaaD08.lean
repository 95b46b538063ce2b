/- A part of the proof: Pace5, Card1, Card2, Card3, Del2, Post1, Post2, Post3, Auth1. No condition. -/
import Derived.Test.YtegepioggeggaaaD07
set_option linter.unusedVariables false
set_option linter.unusedSimpArgs false
set_option maxHeartbeats 1000000
set_option maxRecDepth 100000
namespace Go.Proofs.Ytegepioggeggaaa.Dev
open Go.RowKit

theorem xY (p:di) (l:List cU) (x:cU) (r:List cU) (e:Int) (hr:ew p l x=(r,e)):Fn Try.prog 100 [(.g [(cI p.cH),(cI p.count),(cI p.sum)]),(.c (fj l)),(.g [(cI x.time),(cI x.sum)])] (.t [(.c (.s 0 0 2 r.length)),(.c (cI e))]) [(0,(oR r))]:=by
 refine Fn.mk' 87 [(0,(aG [(cI p.cH),(cI p.count),(cI p.sum)])),(1,(aC (fj l))),(2,(aG [(cI x.time),(cI x.sum)]))] Try.func100 rfl rfl rfl rfl ?_
 intro W0 T0
 refine dz 1 rfl (fun hlen1=>?_)
 have hrp:=@om p
 have hru:(fw l).err=0->l.length<=30:=fun h=>(jr h).1
 have hrx:(fw [x]).err=0->0<=x.time/\x.time<=1000000/\0<=x.sum/\x.sum<=1000000:=fun h=>(@jr [x] h).2 x (by simp)
 refine ad aa 4 rfl ?_
 refine af ?_
 refine az aa 1 rfl ?_
 obtain ⟨e0,hr0⟩:∃ (e0:Int),fl p=e0:=⟨_,rfl⟩
 refine aL 2 [1,0] (bI 2 (kE p e0 hr0) AW rfl rfl ⟨⟨_,rfl,.g ⟨.d _,.d _,.d _,trivial⟩⟩,trivial⟩ trivial trivial rfl rfl rfl rfl) rfl ?_
 refine ab aa 1 rfl ?_
 refine ae ?_
 refine ad aa 2 rfl ?_
 refine ag rfl (fun hc1=>?_) (fun hc1=>?_)
 ·
  have hc1':=of_decide_eq_true hc1
  refine ad aa 3 rfl ?_
  refine aq ?_
  refine an ?_
  refine cQ (aD.nil 6 125 2 (by decide) rfl) ?_
  have hX:ew p l x=(([]:List cU),e0):=by
    unfold ew;rw [if_pos (by omega),hr0]
  rw [hX] at hr;clear hX
  simp only [Prod.mk.injEq] at hr;obtain ⟨rfl,rfl⟩:=hr
  refine aj aa [2] 1 rfl rfl rfl rfl rfl rfl ?_ ?_
  all_goals first|rfl|(simp [ar];done)|(simp [ar];omega)
 have hc1':=of_decide_eq_false hc1
 refine aN ?_
 refine af ?_
 refine az aa 2 rfl ?_
 refine aL 3 [2,1,0] (dD (ys:=[(0,(.g [(cI x.time),(cI x.sum)]))]) (rows:=([x]).map gJ) 2 nZ rfl (by decide) ⟨⟨rfl,rfl⟩,trivial⟩ rfl rfl rfl rfl) rfl ?_
 refine lU (s':=[(0,(aG [(cI p.cH),(cI p.count),(cI p.sum)])),(1,(aC (fj l))),(2,(aG [(cI x.time),(cI x.sum)])),(3,(aC (.p 0 0 0 0))),(5,(aC (.p 1 0 0 0))),(6,(aC cN)),(7,(aI 0)),(17,(aG [(cI p.cH),(cI p.count),(cI p.sum)])),(18,(aI e0)),(8,(aI e0)),(19,(aI e0)),(20,(aB (decide (¬e0=0)))),(22,(aC (fj l))),(23,(aG [(cI x.time),(cI x.sum)])),(24,(aC (fj ([x]))))]) (h':=[(1,(.box 125 [(cI x.time),(cI x.sum)])),(0,(.box 58 [(cI p.cH),(cI p.count),(cI p.sum)]))]) 2 rfl ⟨⟨_,rfl,.inl ⟨rfl,rfl⟩⟩,⟨_,rfl,.inl ⟨rfl,rfl⟩⟩,⟨_,rfl,.inl ⟨rfl,rfl⟩⟩,⟨_,rfl,.inl ⟨rfl,rfl⟩⟩,⟨_,rfl,.inl ⟨rfl,rfl⟩⟩,⟨_,rfl,.inl ⟨rfl,rfl⟩⟩,⟨_,rfl,.inl ⟨rfl,rfl⟩⟩,⟨_,rfl,.inl ⟨rfl,rfl⟩⟩,⟨_,rfl,.inl ⟨rfl,rfl⟩⟩,⟨_,rfl,.inl ⟨rfl,rfl⟩⟩,⟨_,rfl,.inl ⟨rfl,rfl⟩⟩,⟨_,rfl,.inl ⟨rfl,rfl⟩⟩,⟨_,rfl,.inl ⟨rfl,rfl⟩⟩,⟨_,rfl,.inl ⟨rfl,rfl⟩⟩,⟨_,rfl,.inr ⟨_,_,rfl,rfl,.s rfl (by decide) (by first|omega|(simp;done)|(simp;omega))⟩⟩,trivial⟩ ⟨rfl,rfl,trivial⟩ rfl ?_
 refine aL 4 [3,1,0] (dD (ys:=[(0,(.c (fj l))),(1,(.c (fj ([x]))))]) (rows:=([l,[x]]).map tO) 3 Ev rfl (by decide) ⟨⟨rfl,rfl⟩,⟨rfl,rfl⟩,trivial⟩ rfl rfl rfl rfl) rfl ?_
 refine ax (dk rfl rfl rfl rfl rfl Try.underlying181) rfl ?_
 refine ab aa 1 rfl ?_
 refine ae ?_
 refine aV ?_
 refine cu (β:=Nat) (fun (q:Nat)=>⟨[(1,(aC (fj l))),(3,(aC (.p 0 0 0 0))),(5,(aC (.p 1 0 0 0))),(25,(aC (.s 3 0 1 2))),(26,(aI 2)),(27,(aI (↑q:Int)))],[(3,(.arr 59 1 (([l,[x]]).map tO))),(1,(.box 125 [(cI x.time),(cI x.sum)])),(0,(.box 58 [(cI p.cH),(cI p.count),(cI p.sum)]))],4⟩) (fun (q:Nat)=>q<=2/\(0 < q->(fw l).err=0)/\(1 < q->(fw [x]).err=0)) (fun (q:Nat)=>2 - q) 0 ?_ ?_ ?_
 ·exact ⟨by omega,by omega,by omega⟩
 ·exact aD.bZ id (by refine ⟨?_,?_,?_,?_,?_,?_,trivial⟩<;>first|rfl|(simp only [bq];done)|(congr 3;omega)|(congr 4;omega)|(simp only [br];rfl)) (by refine ⟨?_,?_,?_,trivial⟩<;>first|rfl|(simp only [bq];done)|(congr 3;omega)|(congr 4;omega)|(simp only [br];rfl)) rfl
 rintro q ⟨hi0_0,hi0_1,hi0_2⟩
 refine ad aa 1 rfl ?_
 refine af ?_
 refine ag rfl (fun hc2=>?_) (fun hc2=>?_)
 ·
  have hc2':=of_decide_eq_true hc2
  refine aN ?_
  refine af ?_
  refine aV ?_
  refine eM ?_
  refine ax (bo (i:=q) rfl rfl rfl Try.underlying181 Fv (by first|omega|(simp;done)|(simp;omega)) (by first|omega|(simp;done)|(simp;omega))) rfl ?_
  obtain ⟨x1,hx1⟩:=bY (xs:=([l,[x]]:List (List cU))) (i:=q) (by first|omega|(simp;done)|(simp;omega))
  have hx1v:=Dm hx1
  refine ax (eD rfl rfl rfl Try.underlying59 rfl (bf hx1) rfl) rfl ?_
  refine ab aa 1 rfl ?_
  refine ae ?_
  refine az aa 1 rfl ?_
  obtain ⟨f1,hr1⟩:∃ (f1:cV),fw x1=f1:=⟨_,rfl⟩
  refine aL 4 [3,1,0] (bI 4 (oM x1 f1 hr1) DR rfl rfl ⟨⟨_,rfl,.c (.d _)⟩,trivial⟩ ⟨trivial,trivial,trivial⟩ trivial rfl rfl rfl rfl) rfl ?_
  refine ab aa 2 rfl ?_
  refine ae ?_
  refine ad aa 3 rfl ?_
  refine ag rfl (fun hc3=>?_) (fun hc3=>?_)
  ·
   have hc3':=of_decide_eq_true hc3
   refine af ?_
   refine bb [1,3,5,25,26,27,11] [4,3,1,0] mixed rfl rfl ?_
   refine aA (kn:=[]) aa 4 rfl trivial ?_
   refine bx [4,3,1,0] rfl rfl rfl rfl (by kernel_rfl) ?_
   refine ae ?_
   refine aq ?_
   refine bg ?_
   refine an ?_
   refine an ?_
   refine bg ?_
   refine an ?_
   refine cQ (aD.nil 6 125 2 (by decide) rfl) ?_
   have hX:ew p l x=(([]:List cU),f1.err):=by
     unfold ew;rcases hx1v with ⟨hq,hx⟩|⟨hq,hx⟩<;>subst hx
     ·rw [if_neg (by omega),if_pos (by rw [hr1];omega),hr1]
     ·rw [if_neg (by omega),if_neg (by have:=hi0_1 (by omega);omega),if_pos (by rw [hr1];omega),hr1]
   rw [hX] at hr;clear hX
   simp only [Prod.mk.injEq] at hr;obtain ⟨rfl,rfl⟩:=hr
   refine aj aa [5] 1 rfl rfl rfl rfl rfl rfl ?_ ?_
   all_goals first|rfl|(simp [ar];done)|(simp [ar];omega)
  have hc3':=of_decide_eq_false hc3
  refine cW ?_
  refine bn ?_
  refine then_ok ?_
  refine aw ?_
  refine ax (aJ rfl rfl rfl (aE (by first|omega|(simp;done)|(simp;omega)))) rfl ?_
  refine ab aa 1 rfl ?_
  refine ae ?_
  refine ⟨q+1,⟨by omega,(fun h=>by rcases hx1v with ⟨hq,hx⟩|⟨hq,hx⟩<;>first|(exact hi0_1 (by omega))|(subst hx;rw [hr1];omega)),(fun h=>by rcases hx1v with ⟨hq,hx⟩|⟨hq,hx⟩<;>first|(exfalso;omega)|(subst hx;rw [hr1];omega))⟩,by first|omega|(simp;done)|(simp;omega),aD.bZ id (by refine ⟨?_,?_,?_,?_,?_,?_,trivial⟩<;>first|rfl|(simp only [bq];done)|(congr 3;omega)|(congr 4;omega)|(simp only [br];rfl)) (by refine ⟨?_,?_,?_,trivial⟩<;>first|rfl|(simp only [bq];done)|(congr 3;omega)|(congr 4;omega)|(simp only [br];rfl)) rfl⟩
 have hc2':=of_decide_eq_false hc2
 refine cp ?_
 refine aP ?_
 refine aP ?_
 refine bP ?_
 refine then_ok ?_
 refine af ?_
 refine az aa 1 rfl ?_
 refine ax (cT rfl rfl rfl rfl rfl Try.underlying59) rfl ?_
 refine ax (aJ rfl rfl rfl (aE (by first|omega|(simp;done)|(simp;omega)))) rfl ?_
 refine ab aa 1 rfl ?_
 refine ae ?_
 refine af ?_
 rcases Bool.eq_false_or_eq_true (decide (((↑l.length:Int) - 1)>=0)) with hb4|hb4
 ·
  have hb4':=of_decide_eq_true hb4
  obtain ⟨x1,hx1⟩:=bY (xs:=l) (i:=(l.length) - 1) (by first|omega|(simp;done)|(simp;omega))
  refine bb [1,3,5,25,26,27,12] [3,1,0] mixed rfl rfl ?_
  refine aA (kn:=[(43,true)]) aa 5 rfl ⟨hb4,trivial⟩ ?_
  refine aS (n':=4) [45,46,44] [] rfl rfl (.inl ⟨(ah.yes rfl rfl rfl),aH.cast (cf (i:=(l.length) - 1) rfl rfl rfl Try.underlying59 ia (by first|omega|(simp;done)|(simp;omega)) (bf hx1)) rfl⟩) rfl ?_
  refine aA (kn:=[]) aa 6 rfl trivial ?_
  refine bx [3,1,0] rfl rfl rfl rfl (by kernel_rfl) ?_
  refine ae ?_
  refine ag rfl (fun hc5=>?_) (fun hc5=>?_)
  ·
   have hc5':=of_decide_eq_true hc5
   refine ad aa 2 rfl ?_
   refine aq ?_
   refine an ?_
   refine cQ (aD.nil 6 125 2 (by decide) rfl) ?_
   have hX:ew p l x=(([]:List cU),2):=by
     unfold ew;rw [if_neg (by omega),if_neg (by have:=hi0_1 (by omega);omega),if_neg (by have:=hi0_2 (by omega);omega),if_pos (by rw [mD hx1,decide_eq_true_eq];omega)]
   rw [hX] at hr;clear hX
   simp only [Prod.mk.injEq] at hr;obtain ⟨rfl,rfl⟩:=hr
   refine aj aa [4] 1 rfl rfl rfl rfl rfl rfl ?_ ?_
   all_goals first|rfl|(simp [ar];done)|(simp [ar];omega)
  have hc5':=of_decide_eq_false hc5
  refine aN ?_
  refine az aa 4 rfl ?_
  obtain ⟨r2,hr2⟩:∃ (r2:List cU),dy p l x.time=r2:=⟨_,rfl⟩
  refine aL 5 [4,3,1,0] (bI 4 (nP p l x.time (by first|assumption|omega|(have q1:=om (hr2.trans (by omega));have q2:=uses1 (x:=x) (by simp_all);omega)) (by first|assumption|omega) r2 hr2) BM rfl rfl ⟨⟨_,rfl,.g ⟨.d _,.d _,.d _,trivial⟩⟩,⟨_,rfl,.c (.d _)⟩,⟨_,rfl,.c (.d _)⟩,trivial⟩ trivial ⟨(fun _ _ _ _=>trivial),trivial⟩ rfl rfl rfl rfl) rfl ?_
  refine ab aa 1 rfl ?_
  refine ae ?_
  refine ad aa 3 rfl ?_
  refine af ?_
  refine az aa 1 rfl ?_
  refine ax (dk rfl rfl rfl rfl rfl Try.underlying59) rfl ?_
  refine ab aa 1 rfl ?_
  refine ae ?_
  refine aV ?_
  refine cu (β:=Nat) (fun (k:Nat)=>⟨[(1,(aC (fj l))),(3,(aC (.p 0 0 0 0))),(5,(aC (.p 1 0 0 0))),(25,(aC (.s 3 0 1 2))),(26,(aI 2)),(27,(aI (↑q:Int))),(13,(aC (.s 4 0 2 r2.length))),(14,(aI (x.sum+gI ((r2).take k)))),(61,(aC (.s 4 0 2 r2.length))),(62,(aI (↑r2.length:Int))),(63,(aI (↑k:Int)))],[(4,(oR r2)),(3,(.arr 59 1 (([l,[x]]).map tO))),(1,(.box 125 [(cI x.time),(cI x.sum)])),(0,(.box 58 [(cI p.cH),(cI p.count),(cI p.sum)]))],5⟩) (fun (k:Nat)=>k<=(r2).length) (fun (k:Nat)=>(r2).length - k) 0 ?_ ?_ ?_
  ·exact (by omega)
  ·exact aD.bZ id (by refine ⟨?_,?_,?_,?_,?_,?_,?_,?_,?_,?_,?_,trivial⟩<;>first|rfl|(simp only [bq];done)|(congr 3;omega)|(congr 4;omega)|(simp only [br];rfl)|((rw [List.take_zero,gI,Int.add_zero];rfl))) (by refine ⟨?_,?_,?_,?_,trivial⟩<;>first|rfl|(simp only [bq];done)|(congr 3;omega)|(congr 4;omega)|(simp only [br];rfl)) rfl
  rintro k hi1_0
  have hsb:=pw (p:=p) (l:=l) (t:=x.time) (k:=k) (hi0_1 (by omega))
  rw [hr2] at hsb
  have hrl:(r2).length<=30:=by rw [<-hr2];exact Nat.le_trans (oA _ _) (hru (hi0_1 (by omega)))
  refine ad aa 1 rfl ?_
  refine af ?_
  refine ag rfl (fun hc6=>?_) (fun hc6=>?_)
  ·
   have hc6':=of_decide_eq_true hc6
   refine aN ?_
   refine af ?_
   refine aV ?_
   refine eM ?_
   refine ax (bo (i:=k) rfl rfl rfl Try.underlying59 ia (by first|omega|(simp;done)|(simp;omega)) (by first|omega|(simp;done)|(simp;omega))) rfl ?_
   obtain ⟨x2,hx2⟩:=bY (xs:=r2) (i:=k) (by first|omega|(simp;done)|(simp;omega))
   have hx2v:=(jr (hi0_1 (by omega))).2 x2 (jN (hr2.symm▸List.mem_of_getElem? hx2:x2∈dy p l x.time))
   refine ax (db rfl rfl rfl Try.underlying125 rfl ia (bf hx2) rfl) rfl ?_
   refine ab aa 2 rfl ?_
   refine ae ?_
   refine aw ?_
   refine ab aa 3 rfl ?_
   refine ax (aJ rfl rfl rfl (aE (by first|omega|(simp;done)|(simp;omega)))) rfl ?_
   refine ab aa 1 rfl ?_
   refine bX ?_
   refine bn ?_
   refine then_ok ?_
   refine aw ?_
   refine ax (aJ rfl rfl rfl (aE (by first|omega|(simp;done)|(simp;omega)))) rfl ?_
   refine ab aa 1 rfl ?_
   refine ae ?_
   refine ⟨k+1,by first|omega|trivial,by first|omega|(simp;done)|(simp;omega),aD.bZ id (by refine ⟨?_,?_,?_,?_,?_,?_,?_,?_,?_,?_,?_,trivial⟩<;>first|rfl|(simp only [bq];done)|(congr 3;omega)|(congr 4;omega)|(simp only [br];rfl)|(first|(rw [im hx2,kg,<-Int.add_assoc];rfl)|(rw [im hx1,kg,<-Int.add_assoc];rfl))) (by refine ⟨?_,?_,?_,?_,trivial⟩<;>first|rfl|(simp only [bq];done)|(congr 3;omega)|(congr 4;omega)|(simp only [br];rfl)) rfl⟩
  have hc6':=of_decide_eq_false hc6
  refine cp ?_
  refine aP ?_
  refine aP ?_
  refine bP ?_
  refine then_ok ?_
  refine af ?_
  refine cm 82 ((decide ((↑r2.length:Int)>=p.count))||(decide ((x.sum+gI ((r2).take k)) > p.sum))) ?_ ?_
  ·
   refine aw ?_
   refine ab aa 1 rfl ?_
   refine ax (dk rfl rfl rfl rfl rfl Try.underlying59) rfl ?_
   refine ab aa 4 rfl ?_
   refine bj (t:=77) rfl (fun hb7=>?_) (fun hb7=>?_)
   ·
    have hb7':=of_decide_eq_true hb7
    refine ab aa 5 rfl ?_
    refine ae ?_
    exact aD.bB 12 rfl rfl (by first|(simp [hb7];done)|(simp_all;done)|(exfalso;simp_all;done)|(simp_all;omega)) rfl
   have hb7':=of_decide_eq_false hb7
   refine ab aa 5 rfl ?_
   refine ae ?_
   exact aD.bB 12 rfl rfl (by first|(simp [hb7];done)|(simp_all;done)|(exfalso;simp_all;done)|(simp_all;omega)) rfl
  refine ag rfl (fun hc8=>?_) (fun hc8=>?_)
  ·
   have hc8':=hc8;try simp only [bd,bF] at hc8'
   refine ad aa 2 rfl ?_
   refine aq ?_
   refine an ?_
   refine cQ (aD.nil 6 125 2 (by decide) rfl) ?_
   have hX:ew p l x=(([]:List cU),11):=by
     have hlate:gD l x.time=false:=by first|(rw [mD hx1];simp;omega)|(have:l=[]:=List.eq_nil_of_length_eq_zero (by omega);subst this;rfl)
     have hk:(r2).take k=r2:=List.take_of_length_le (by omega)
     rw [hk] at hc8'
     unfold ew;rw [if_neg (by omega),if_neg (by have:=hi0_1 (by omega);omega),if_neg (by have:=hi0_2 (by omega);omega),if_neg (by rw [hlate];simp),hr2,if_pos (by omega)]
   rw [hX] at hr;clear hX
   simp only [Prod.mk.injEq] at hr;obtain ⟨rfl,rfl⟩:=hr
   refine aj aa [5] 1 rfl rfl rfl rfl rfl rfl ?_ ?_
   all_goals first|rfl|(simp [ar];done)|(simp [ar];omega)
  have hc8':=hc8;try simp only [bd,bF] at hc8'
  refine aN ?_
  refine az aa 2 rfl ?_
  refine aL 6 [5,4,3,1,0] (dD (ys:=[(0,(.g [(cI x.time),(cI x.sum)]))]) (rows:=([x]).map gJ) 5 nZ rfl (by decide) ⟨⟨rfl,rfl⟩,trivial⟩ rfl rfl rfl rfl) rfl ?_
  refine aL 7 [6,5,3,1,0] (dh (m:=1) (N:=r2.length+1) (k2:=6) (ys:=([x]).map gJ) nZ rfl rfl rfl rfl rfl rfl (by first|omega|(simp;done)|(simp;omega)) rfl (.s rfl (by first|omega|(simp;done)|(simp;omega))) (by first|omega|(simp;done)|(simp;omega)) (by first|omega|(simp;done)|(simp;omega)) fb (by decide) (by first|omega|(simp;done)|(simp;omega)) (by first|omega|(simp;done)|(simp;omega))) rfl ?_
  refine ab aa 2 rfl ?_
  refine ae ?_
  refine aq ?_
  have hX:ew p l x=(r2++([x]),0):=by
    have hlate:gD l x.time=false:=by first|(rw [mD hx1];simp;omega)|(have:l=[]:=List.eq_nil_of_length_eq_zero (by omega);subst this;rfl)
    have hk:(r2).take k=r2:=List.take_of_length_le (by omega)
    rw [hk] at hc8'
    unfold ew;rw [if_neg (by omega),if_neg (by have:=hi0_1 (by omega);omega),if_neg (by have:=hi0_2 (by omega);omega),if_neg (by rw [hlate];simp),hr2,if_neg (by omega)]
  rw [hX] at hr;clear hX
  simp only [Prod.mk.injEq] at hr;obtain ⟨rfl,rfl⟩:=hr
  refine aj aa [6] 1 rfl rfl rfl rfl rfl rfl ?_ ?_
  all_goals first|rfl|(simp [ar];done)|(simp [ar];omega)
 have hb4':=of_decide_eq_false hb4
 refine bb [1,3,5,25,26,27,12] [3,1,0] mixed rfl rfl ?_
 refine aA (kn:=[(43,false)]) aa 12 rfl ⟨hb4,trivial⟩ ?_
 refine bx [3,1,0] rfl rfl rfl rfl (by kernel_rfl) ?_
 refine ae ?_
 refine ag rfl (fun hno=>by cases hno) (fun _=>?_)
 refine aN ?_
 refine az aa 4 rfl ?_
 obtain ⟨r3,hr3⟩:∃ (r3:List cU),dy p l x.time=r3:=⟨_,rfl⟩
 refine aL 5 [4,3,1,0] (bI 4 (nP p l x.time (by first|assumption|omega|(have q1:=om (hr2.trans (by omega));have q2:=uses1 (x:=x) (by simp_all);omega)) (by first|assumption|omega) r3 hr3) BM rfl rfl ⟨⟨_,rfl,.g ⟨.d _,.d _,.d _,trivial⟩⟩,⟨_,rfl,.c (.d _)⟩,⟨_,rfl,.c (.d _)⟩,trivial⟩ trivial ⟨(fun _ _ _ _=>trivial),trivial⟩ rfl rfl rfl rfl) rfl ?_
 refine ab aa 1 rfl ?_
 refine ae ?_
 refine ad aa 3 rfl ?_
 refine af ?_
 refine az aa 1 rfl ?_
 refine ax (dk rfl rfl rfl rfl rfl Try.underlying59) rfl ?_
 refine ab aa 1 rfl ?_
 refine ae ?_
 refine aV ?_
 refine cu (β:=Nat) (fun (k:Nat)=>⟨[(1,(aC (fj l))),(3,(aC (.p 0 0 0 0))),(5,(aC (.p 1 0 0 0))),(25,(aC (.s 3 0 1 2))),(26,(aI 2)),(27,(aI (↑q:Int))),(13,(aC (.s 4 0 2 r3.length))),(14,(aI (x.sum+gI ((r3).take k)))),(61,(aC (.s 4 0 2 r3.length))),(62,(aI (↑r3.length:Int))),(63,(aI (↑k:Int)))],[(4,(oR r3)),(3,(.arr 59 1 (([l,[x]]).map tO))),(1,(.box 125 [(cI x.time),(cI x.sum)])),(0,(.box 58 [(cI p.cH),(cI p.count),(cI p.sum)]))],5⟩) (fun (k:Nat)=>k<=(r3).length) (fun (k:Nat)=>(r3).length - k) 0 ?_ ?_ ?_
 ·exact (by omega)
 ·exact aD.bZ id (by refine ⟨?_,?_,?_,?_,?_,?_,?_,?_,?_,?_,?_,trivial⟩<;>first|rfl|(simp only [bq];done)|(congr 3;omega)|(congr 4;omega)|(simp only [br];rfl)|((rw [List.take_zero,gI,Int.add_zero];rfl))) (by refine ⟨?_,?_,?_,?_,trivial⟩<;>first|rfl|(simp only [bq];done)|(congr 3;omega)|(congr 4;omega)|(simp only [br];rfl)) rfl
 rintro k hi1_0
 have hsb:=pw (p:=p) (l:=l) (t:=x.time) (k:=k) (hi0_1 (by omega))
 rw [hr3] at hsb
 have hrl:(r3).length<=30:=by rw [<-hr3];exact Nat.le_trans (oA _ _) (hru (hi0_1 (by omega)))
 refine ad aa 1 rfl ?_
 refine af ?_
 refine ag rfl (fun hc10=>?_) (fun hc10=>?_)
 ·
  have hc10':=of_decide_eq_true hc10
  refine aN ?_
  refine af ?_
  refine aV ?_
  refine eM ?_
  refine ax (bo (i:=k) rfl rfl rfl Try.underlying59 ia (by first|omega|(simp;done)|(simp;omega)) (by first|omega|(simp;done)|(simp;omega))) rfl ?_
  obtain ⟨x1,hx1⟩:=bY (xs:=r3) (i:=k) (by first|omega|(simp;done)|(simp;omega))
  have hx1v:=(jr (hi0_1 (by omega))).2 x1 (jN (hr3.symm▸List.mem_of_getElem? hx1:x1∈dy p l x.time))
  refine ax (db rfl rfl rfl Try.underlying125 rfl ia (bf hx1) rfl) rfl ?_
  refine ab aa 2 rfl ?_
  refine ae ?_
  refine aw ?_
  refine ab aa 3 rfl ?_
  refine ax (aJ rfl rfl rfl (aE (by first|omega|(simp;done)|(simp;omega)))) rfl ?_
  refine ab aa 1 rfl ?_
  refine bX ?_
  refine bn ?_
  refine then_ok ?_
  refine aw ?_
  refine ax (aJ rfl rfl rfl (aE (by first|omega|(simp;done)|(simp;omega)))) rfl ?_
  refine ab aa 1 rfl ?_
  refine ae ?_
  refine ⟨k+1,by first|omega|trivial,by first|omega|(simp;done)|(simp;omega),aD.bZ id (by refine ⟨?_,?_,?_,?_,?_,?_,?_,?_,?_,?_,?_,trivial⟩<;>first|rfl|(simp only [bq];done)|(congr 3;omega)|(congr 4;omega)|(simp only [br];rfl)|(first|(rw [im hx2,kg,<-Int.add_assoc];rfl)|(rw [im hx1,kg,<-Int.add_assoc];rfl))) (by refine ⟨?_,?_,?_,?_,trivial⟩<;>first|rfl|(simp only [bq];done)|(congr 3;omega)|(congr 4;omega)|(simp only [br];rfl)) rfl⟩
 have hc10':=of_decide_eq_false hc10
 refine cp ?_
 refine aP ?_
 refine aP ?_
 refine bP ?_
 refine then_ok ?_
 refine af ?_
 refine cm 82 ((decide ((↑r3.length:Int)>=p.count))||(decide ((x.sum+gI ((r3).take k)) > p.sum))) ?_ ?_
 ·
  refine aw ?_
  refine ab aa 1 rfl ?_
  refine ax (dk rfl rfl rfl rfl rfl Try.underlying59) rfl ?_
  refine ab aa 4 rfl ?_
  refine bj (t:=77) rfl (fun hb11=>?_) (fun hb11=>?_)
  ·
   have hb11':=of_decide_eq_true hb11
   refine ab aa 5 rfl ?_
   refine ae ?_
   exact aD.bB 12 rfl rfl (by first|(simp [hb11];done)|(simp_all;done)|(exfalso;simp_all;done)|(simp_all;omega)) rfl
  have hb11':=of_decide_eq_false hb11
  refine ab aa 5 rfl ?_
  refine ae ?_
  exact aD.bB 12 rfl rfl (by first|(simp [hb11];done)|(simp_all;done)|(exfalso;simp_all;done)|(simp_all;omega)) rfl
 refine ag rfl (fun hc12=>?_) (fun hc12=>?_)
 ·
  have hc12':=hc12;try simp only [bd,bF] at hc12'
  refine ad aa 2 rfl ?_
  refine aq ?_
  refine an ?_
  refine cQ (aD.nil 6 125 2 (by decide) rfl) ?_
  have hX:ew p l x=(([]:List cU),11):=by
    have hlate:gD l x.time=false:=by first|(rw [mD hx1];simp;omega)|(have:l=[]:=List.eq_nil_of_length_eq_zero (by omega);subst this;rfl)
    have hk:(r3).take k=r3:=List.take_of_length_le (by omega)
    rw [hk] at hc12'
    unfold ew;rw [if_neg (by omega),if_neg (by have:=hi0_1 (by omega);omega),if_neg (by have:=hi0_2 (by omega);omega),if_neg (by rw [hlate];simp),hr3,if_pos (by omega)]
  rw [hX] at hr;clear hX
  simp only [Prod.mk.injEq] at hr;obtain ⟨rfl,rfl⟩:=hr
  refine aj aa [5] 1 rfl rfl rfl rfl rfl rfl ?_ ?_
  all_goals first|rfl|(simp [ar];done)|(simp [ar];omega)
 have hc12':=hc12;try simp only [bd,bF] at hc12'
 refine aN ?_
 refine az aa 2 rfl ?_
 refine aL 6 [5,4,3,1,0] (dD (ys:=[(0,(.g [(cI x.time),(cI x.sum)]))]) (rows:=([x]).map gJ) 5 nZ rfl (by decide) ⟨⟨rfl,rfl⟩,trivial⟩ rfl rfl rfl rfl) rfl ?_
 refine aL 7 [6,5,3,1,0] (dh (m:=1) (N:=r3.length+1) (k2:=6) (ys:=([x]).map gJ) nZ rfl rfl rfl rfl rfl rfl (by first|omega|(simp;done)|(simp;omega)) rfl (.s rfl (by first|omega|(simp;done)|(simp;omega))) (by first|omega|(simp;done)|(simp;omega)) (by first|omega|(simp;done)|(simp;omega)) fb (by decide) (by first|omega|(simp;done)|(simp;omega)) (by first|omega|(simp;done)|(simp;omega))) rfl ?_
 refine ab aa 2 rfl ?_
 refine ae ?_
 refine aq ?_
 have hX:ew p l x=(r3++([x]),0):=by
   have hlate:gD l x.time=false:=by first|(rw [mD hx1];simp;omega)|(have:l=[]:=List.eq_nil_of_length_eq_zero (by omega);subst this;rfl)
   have hk:(r3).take k=r3:=List.take_of_length_le (by omega)
   rw [hk] at hc12'
   unfold ew;rw [if_neg (by omega),if_neg (by have:=hi0_1 (by omega);omega),if_neg (by have:=hi0_2 (by omega);omega),if_neg (by rw [hlate];simp),hr3,if_neg (by omega)]
 rw [hX] at hr;clear hX
 simp only [Prod.mk.injEq] at hr;obtain ⟨rfl,rfl⟩:=hr
 refine aj aa [6] 1 rfl rfl rfl rfl rfl rfl ?_ ?_
 all_goals first|rfl|(simp [ar];done)|(simp [ar];omega)

theorem jC (c:bC) (e:Int) (hr:cv c=e):Fn Try.prog 28 [(.g [(cI c.bu),(cI c.held),(cI c.ca.cH),(cI c.ca.count),(cI c.ca.sum),(fj c.cL)])] (.v (.c (cI e))) []:=by
 refine Fn.mk' 32 [(0,(aG [(cI c.bu),(cI c.held),(cI c.ca.cH),(cI c.ca.count),(cI c.ca.sum),(fj c.cL)]))] Try.func28 rfl rfl rfl rfl ?_
 intro W0 T0
 refine fc 0 5 rfl rfl (fun hlen0_5=>?_)
 refine ad aa 2 rfl ?_
 refine af ?_
 refine cm 21 ((((decide (c.bu < (-1000000000000)))||(decide (c.bu > 1000000000000)))||(decide (c.held < 0)))||(decide (c.held > 1000000000000))) ?_ ?_
 ·
  refine aw ?_
  refine ab aa 4 rfl ?_
  refine bj (t:=7) rfl (fun hb1=>?_) (fun hb1=>?_)
  ·
   have hb1':=of_decide_eq_true hb1
   refine ab aa 14 rfl ?_
   refine ae ?_
   exact aD.bB 19 rfl rfl (by first|(simp [hb1];done)|(simp_all;done)|(exfalso;simp_all;done)|(simp_all;omega)) rfl
  have hb1':=of_decide_eq_false hb1
  refine ab aa 5 rfl ?_
  refine bj (t:=12) rfl (fun hb2=>?_) (fun hb2=>?_)
  ·
   have hb2':=of_decide_eq_true hb2
   refine ab aa 9 rfl ?_
   refine ae ?_
   exact aD.bB 20 rfl rfl (by first|(simp [hb1,hb2];done)|(simp_all;done)|(exfalso;simp_all;done)|(simp_all;omega)) rfl
  have hb2':=of_decide_eq_false hb2
  refine ab aa 5 rfl ?_
  refine bj (t:=17) rfl (fun hb3=>?_) (fun hb3=>?_)
  ·
   have hb3':=of_decide_eq_true hb3
   refine ab aa 4 rfl ?_
   refine ae ?_
   exact aD.bB 21 rfl rfl (by first|(simp [hb1,hb2,hb3];done)|(simp_all;done)|(exfalso;simp_all;done)|(simp_all;omega)) rfl
  have hb3':=of_decide_eq_false hb3
  refine ab aa 4 rfl ?_
  refine ae ?_
  exact aD.bB 21 rfl rfl (by first|(simp [hb1,hb2,hb3];done)|(simp_all;done)|(exfalso;simp_all;done)|(simp_all;omega)) rfl
 refine ag rfl (fun hc4=>?_) (fun hc4=>?_)
 ·
  have hc4':=hc4;try simp only [bd,bF] at hc4'
  refine ad aa 1 rfl ?_
  refine aq ?_
  refine an ?_
  have hX:cv c=3:=by
    unfold cv;rw [if_pos (by omega)]
  rw [hX] at hr;clear hX
  subst hr
  refine aj aa [] 0 rfl rfl rfl rfl rfl rfl ?_ ?_
  all_goals first|rfl|(simp [ar];done)|(simp [ar];omega)
 have hc4':=hc4;try simp only [bd,bF] at hc4'
 refine aN ?_
 refine af ?_
 refine az aa 2 rfl ?_
 obtain ⟨e0,hr0⟩:∃ (e0:Int),fl c.ca=e0:=⟨_,rfl⟩
 refine aL 1 [0] (bI 1 (kE c.ca e0 hr0) AW rfl rfl ⟨⟨_,rfl,.g ⟨.d _,.d _,.d _,trivial⟩⟩,trivial⟩ trivial trivial rfl rfl rfl rfl) rfl ?_
 refine ab aa 1 rfl ?_
 refine ae ?_
 refine ad aa 2 rfl ?_
 refine ag rfl (fun hc5=>?_) (fun hc5=>?_)
 ·
  have hc5':=of_decide_eq_true hc5
  refine ad aa 2 rfl ?_
  refine aq ?_
  refine an ?_
  have hX:cv c=e0:=by
    unfold cv;rw [if_neg (by omega),if_pos (by omega),hr0]
  rw [hX] at hr;clear hX
  subst hr
  refine aj aa [] 0 rfl rfl rfl rfl rfl rfl ?_ ?_
  all_goals first|rfl|(simp [ar];done)|(simp [ar];omega)
 have hc5':=of_decide_eq_false hc5
 refine aN ?_
 refine az aa 2 rfl ?_
 obtain ⟨f1,hr1⟩:∃ (f1:cV),fw c.cL=f1:=⟨_,rfl⟩
 refine aL 1 [0] (bI 1 (oM c.cL f1 hr1) DR rfl rfl ⟨⟨_,rfl,.c (.d _)⟩,trivial⟩ ⟨trivial,trivial,trivial⟩ trivial rfl rfl rfl rfl) rfl ?_
 refine ax (AK rfl rfl Try.underlying50 rfl Try.underlying48 rfl rfl) rfl ?_
 refine ab aa 1 rfl ?_
 refine ae ?_
 refine aq ?_
 have hX:cv c=f1.err:=by
   unfold cv;rw [if_neg (by omega),if_neg (by omega),hr1]
 rw [hX] at hr;clear hX
 subst hr
 refine aj aa [] 0 rfl rfl rfl rfl rfl rfl ?_ ?_
 all_goals first|rfl|(simp [ar];done)|(simp [ar];omega)
theorem fk (c:bC) (hb:-9223372036854775808<=c.bu - c.held/\c.bu - c.held<=9223372036854775807):Fn Try.prog 24 [(.g [(cI c.bu),(cI c.held),(cI c.ca.cH),(cI c.ca.count),(cI c.ca.sum),(fj c.cL)])] (aI (c.bu - c.held)) []:=by
 refine Fn.mk' 8 [(0,(aG [(cI c.bu),(cI c.held),(cI c.ca.cH),(cI c.ca.count),(cI c.ca.sum),(fj c.cL)]))] Try.func24 rfl rfl rfl rfl ?_
 intro W0 T0
 refine fc 0 5 rfl rfl (fun hlen0_5=>?_)
 obtain ⟨hb1,hb2⟩:=hb
 refine ad aa 2 rfl ?_
 refine az aa 4 rfl ?_
 refine ax (aJ rfl rfl rfl (aE (by first|omega|(simp;done)|(simp;omega)))) rfl ?_
 refine ab aa 1 rfl ?_
 refine ae ?_
 refine aq ?_
 refine aj aa [] 0 rfl rfl rfl rfl rfl rfl ?_ ?_
 all_goals first|rfl|(simp [ar];done)|(simp [ar];omega)
theorem ru (c:bC) (hl:c.cL.length<=1048576):Fn Try.prog 108 [(.g [(cI c.bu),(cI c.held),(cI c.ca.cH),(cI c.ca.count),(cI c.ca.sum),(fj c.cL)])] (.v (.g [cI c.bu,cI c.held,cI c.ca.cH,cI c.ca.count,cI c.ca.sum,.s 0 0 2 c.cL.length])) [(0,.arr 125 2 (c.cL.map gJ))]:=by
 refine Fn.mk' 8 [(0,(aG [(cI c.bu),(cI c.held),(cI c.ca.cH),(cI c.ca.count),(cI c.ca.sum),(fj c.cL)]))] Try.func108 rfl rfl rfl rfl ?_
 intro W0 T0
 refine fc 0 5 rfl rfl (fun hlen0_5=>?_)
 refine ad aa 2 rfl ?_
 refine az aa 2 rfl ?_
 refine aL 3 [2,1,0] (bI 2 (pM c.cL (by first|omega|(simp;done)|(simp;omega))) BL rfl rfl ⟨⟨_,rfl,.c (.d _)⟩,trivial⟩ trivial ⟨(fun _ _ _ _=>trivial),trivial⟩ rfl rfl rfl rfl) rfl ?_
 refine ab aa 2 rfl ?_
 refine ae ?_
 refine ad aa 2 rfl ?_
 refine aq ?_
 refine aj aa [2,1] 1 rfl rfl rfl rfl rfl rfl ?_ ?_
 all_goals first|rfl|(simp [ar];done)|(simp [ar];omega)

theorem vq (c:bC) (n time:Int) (x:bC) (e:Int) (hr:dQ c n time=(x,e)):Fn Try.prog 80 [(.g [(cI c.bu),(cI c.held),(cI c.ca.cH),(cI c.ca.count),(cI c.ca.sum),(fj c.cL)]),(.c (cI n)),(.c (cI time))] (.t [(.g [(cI x.bu),(cI x.held),(cI x.ca.cH),(cI x.ca.count),(cI x.ca.sum),(.s 0 0 2 x.cL.length)]),(.c (cI e))]) [(0,(oR x.cL))]:=by
 refine Fn.mk' 60 [(0,(aG [(cI c.bu),(cI c.held),(cI c.ca.cH),(cI c.ca.count),(cI c.ca.sum),(fj c.cL)])),(1,(aI n)),(2,(aI time))] Try.func80 rfl rfl rfl rfl ?_
 intro W0 T0
 refine fc 0 5 rfl rfl (fun hlen0_5=>?_)
 have hrc:=@eU c
 have hrl:=@nc c
 refine ad aa 3 rfl ?_
 refine af ?_
 refine az aa 1 rfl ?_
 obtain ⟨e0,hr0⟩:∃ (e0:Int),cv c=e0:=⟨_,rfl⟩
 refine aL 2 [1,0] (bI 2 (jC c e0 hr0) xR rfl rfl ⟨⟨_,rfl,.g ⟨.d _,.d _,.d _,.d _,.d _,.d _,trivial⟩⟩,trivial⟩ trivial trivial rfl rfl rfl rfl) rfl ?_
 refine ab aa 1 rfl ?_
 refine ae ?_
 refine ad aa 2 rfl ?_
 refine ag rfl (fun hc1=>?_) (fun hc1=>?_)
 ·
  have hc1':=of_decide_eq_true hc1
  refine ad aa 4 rfl ?_
  refine aq ?_
  refine an ?_
  refine cb 1 5 125 2 rfl rfl rfl ?_
  have hX:dQ c n time=((⟨0,0,(⟨0,0,0⟩:di),([]:List cU)⟩:bC),e0):=by
    unfold dQ;rw [if_pos (by omega),hr0];rfl
  rw [hX] at hr;clear hX
  simp only [Prod.mk.injEq] at hr;obtain ⟨rfl,rfl⟩:=hr
  refine aj aa [2,1] 1 rfl rfl rfl rfl rfl rfl ?_ ?_
  all_goals first|rfl|(simp [ar];done)|(simp [ar];omega)
 have hc1':=of_decide_eq_false hc1
 refine aN ?_
 refine af ?_
 refine cm 30 ((((decide (n < 1))||(decide (n > 1000000)))||(decide (time < 0)))||(decide (time > 1000000))) ?_ ?_
 ·
  refine aw ?_
  refine ab aa 3 rfl ?_
  refine bj (t:=19) rfl (fun hb2=>?_) (fun hb2=>?_)
  ·
   have hb2':=of_decide_eq_true hb2
   refine ab aa 11 rfl ?_
   refine ae ?_
   exact aD.bB 15 rfl rfl (by first|(simp [hb2];done)|(simp_all;done)|(exfalso;simp_all;done)|(simp_all;omega)) rfl
  have hb2':=of_decide_eq_false hb2
  refine ab aa 4 rfl ?_
  refine bj (t:=23) rfl (fun hb3=>?_) (fun hb3=>?_)
  ·
   have hb3':=of_decide_eq_true hb3
   refine ab aa 7 rfl ?_
   refine ae ?_
   exact aD.bB 16 rfl rfl (by first|(simp [hb2,hb3];done)|(simp_all;done)|(exfalso;simp_all;done)|(simp_all;omega)) rfl
  have hb3':=of_decide_eq_false hb3
  refine ab aa 4 rfl ?_
  refine bj (t:=27) rfl (fun hb4=>?_) (fun hb4=>?_)
  ·
   have hb4':=of_decide_eq_true hb4
   refine ab aa 3 rfl ?_
   refine ae ?_
   exact aD.bB 17 rfl rfl (by first|(simp [hb2,hb3,hb4];done)|(simp_all;done)|(exfalso;simp_all;done)|(simp_all;omega)) rfl
  have hb4':=of_decide_eq_false hb4
  refine ab aa 3 rfl ?_
  refine ae ?_
  exact aD.bB 17 rfl rfl (by first|(simp [hb2,hb3,hb4];done)|(simp_all;done)|(exfalso;simp_all;done)|(simp_all;omega)) rfl
 refine ag rfl (fun hc5=>?_) (fun hc5=>?_)
 ·
  have hc5':=hc5;try simp only [bd,bF] at hc5'
  refine ad aa 3 rfl ?_
  refine aq ?_
  refine an ?_
  refine cb 1 5 125 2 rfl rfl rfl ?_
  have hX:dQ c n time=((⟨0,0,(⟨0,0,0⟩:di),([]:List cU)⟩:bC),3):=by
    unfold dQ;rw [if_neg (by omega),if_pos (by omega)];rfl
  rw [hX] at hr;clear hX
  simp only [Prod.mk.injEq] at hr;obtain ⟨rfl,rfl⟩:=hr
  refine aj aa [2,1] 1 rfl rfl rfl rfl rfl rfl ?_ ?_
  all_goals first|rfl|(simp [ar];done)|(simp [ar];omega)
 have hc5':=hc5;try simp only [bd,bF] at hc5'
 refine aN ?_
 refine af ?_
 refine az aa 2 rfl ?_
 refine aL 2 [1,0] (bI 2 (fk c (by first|assumption|omega|(constructor<;>decide)|(have hz:=eU (by first|assumption|omega);omega))) mo rfl rfl ⟨⟨_,rfl,.g ⟨.d _,.d _,.d _,.d _,.d _,.d _,trivial⟩⟩,trivial⟩ trivial trivial rfl rfl rfl rfl) rfl ?_
 refine ab aa 1 rfl ?_
 refine ae ?_
 refine ag rfl (fun hc6=>?_) (fun hc6=>?_)
 ·
  have hc6':=of_decide_eq_true hc6
  refine ad aa 3 rfl ?_
  refine aq ?_
  refine an ?_
  refine cb 1 5 125 2 rfl rfl rfl ?_
  have hX:dQ c n time=((⟨0,0,(⟨0,0,0⟩:di),([]:List cU)⟩:bC),10):=by
    unfold dQ;rw [if_neg (by omega),if_neg (by omega),if_pos (by omega)];rfl
  rw [hX] at hr;clear hX
  simp only [Prod.mk.injEq] at hr;obtain ⟨rfl,rfl⟩:=hr
  refine aj aa [2,1] 1 rfl rfl rfl rfl rfl rfl ?_ ?_
  all_goals first|rfl|(simp [ar];done)|(simp [ar];omega)
 have hc6':=of_decide_eq_false hc6
 refine aN ?_
 refine az aa 7 rfl ?_
 obtain ⟨r1,e1,hr1⟩:∃ (r1:List cU) (e1:Int),ew c.ca c.cL (⟨time,n⟩:cU)=(r1,e1):=⟨_,_,rfl⟩
 refine aL 3 [2,1,0] (bI 2 (xY c.ca c.cL (⟨time,n⟩:cU) r1 e1 hr1) EZ rfl rfl ⟨⟨_,rfl,.g ⟨.d _,.d _,.d _,trivial⟩⟩,⟨_,rfl,.c (.d _)⟩,⟨_,rfl,.g ⟨.d _,.d _,trivial⟩⟩,trivial⟩ ⟨trivial,trivial,trivial⟩ ⟨(fun _ _ _ _=>trivial),trivial⟩ rfl rfl rfl rfl) rfl ?_
 refine ab aa 5 rfl ?_
 refine ae ?_
 refine af ?_
 refine ad aa 2 rfl ?_
 refine ag rfl (fun hc7=>?_) (fun hc7=>?_)
 ·
  have hc7':=of_decide_eq_true hc7
  refine ad aa 4 rfl ?_
  refine aq ?_
  refine an ?_
  refine cb 1 5 125 2 rfl rfl rfl ?_
  have hX:dQ c n time=((⟨0,0,(⟨0,0,0⟩:di),([]:List cU)⟩:bC),e1):=by
    have ha:=hr1
    unfold dQ;rw [if_neg (by omega),if_neg (by omega),if_neg (by omega),if_pos (by rw [ha];dsimp only;omega),ha];rfl
  rw [hX] at hr;clear hX
  simp only [Prod.mk.injEq] at hr;obtain ⟨rfl,rfl⟩:=hr
  refine aj aa [3,1] 1 rfl rfl rfl rfl rfl rfl ?_ ?_
  all_goals first|rfl|(simp [ar];done)|(simp [ar];omega)
 have hc7':=of_decide_eq_false hc7
 refine aN ?_
 refine ad aa 3 rfl ?_
 refine az aa 3 rfl ?_
 refine ax (aJ rfl rfl rfl (aE (by first|omega|(simp;done)|(simp;omega)))) rfl ?_
 refine ab aa 2 rfl ?_
 refine ae ?_
 refine ad aa 3 rfl ?_
 refine aq ?_
 have hX:dQ c n time=((⟨c.bu,c.held+n,c.ca,r1⟩:bC),0):=by
   have ha:=hr1
   unfold dQ;rw [if_neg (by omega),if_neg (by omega),if_neg (by omega),if_neg (by rw [ha];dsimp only;omega),ha]
 rw [hX] at hr;clear hX
 simp only [Prod.mk.injEq] at hr;obtain ⟨rfl,rfl⟩:=hr
 refine aj aa [2,1] 1 rfl rfl rfl rfl rfl rfl ?_ ?_
 all_goals first|rfl|(simp [ar];done)|(simp [ar];omega)
theorem vp (c:bC) (n:Int) (x:bC) (e:Int) (hr:eu c n=(x,e)):Fn Try.prog 91 [(.g [(cI c.bu),(cI c.held),(cI c.ca.cH),(cI c.ca.count),(cI c.ca.sum),(fj c.cL)]),(.c (cI n))] (.t [(.g [(cI x.bu),(cI x.held),(cI x.ca.cH),(cI x.ca.count),(cI x.ca.sum),(.s 0 0 2 x.cL.length)]),(.c (cI e))]) [(0,(oR x.cL))]:=by
 refine Fn.mk' 35 [(0,(aG [(cI c.bu),(cI c.held),(cI c.ca.cH),(cI c.ca.count),(cI c.ca.sum),(fj c.cL)])),(1,(aI n))] Try.func91 rfl rfl rfl rfl ?_
 intro W0 T0
 refine fc 0 5 rfl rfl (fun hlen0_5=>?_)
 have hrc:=@eU c
 have hrl:=@nc c
 refine ad aa 3 rfl ?_
 refine af ?_
 refine az aa 1 rfl ?_
 obtain ⟨e0,hr0⟩:∃ (e0:Int),cv c=e0:=⟨_,rfl⟩
 refine aL 2 [1,0] (bI 2 (jC c e0 hr0) xR rfl rfl ⟨⟨_,rfl,.g ⟨.d _,.d _,.d _,.d _,.d _,.d _,trivial⟩⟩,trivial⟩ trivial trivial rfl rfl rfl rfl) rfl ?_
 refine ab aa 1 rfl ?_
 refine ae ?_
 refine ad aa 2 rfl ?_
 refine ag rfl (fun hc1=>?_) (fun hc1=>?_)
 ·
  have hc1':=of_decide_eq_true hc1
  refine ad aa 4 rfl ?_
  refine aq ?_
  refine an ?_
  refine cb 1 5 125 2 rfl rfl rfl ?_
  have hX:eu c n=((⟨0,0,(⟨0,0,0⟩:di),([]:List cU)⟩:bC),e0):=by
    unfold eu;rw [if_pos (by omega),hr0];rfl
  rw [hX] at hr;clear hX
  simp only [Prod.mk.injEq] at hr;obtain ⟨rfl,rfl⟩:=hr
  refine aj aa [2,1] 1 rfl rfl rfl rfl rfl rfl ?_ ?_
  all_goals first|rfl|(simp [ar];done)|(simp [ar];omega)
 have hc1':=of_decide_eq_false hc1
 refine aN ?_
 refine af ?_
 refine cm 25 (((decide (n < 1))||(decide (n > 1000000)))||(decide (n > (1000000000000 - c.held)))) ?_ ?_
 ·
  refine aw ?_
  refine ab aa 3 rfl ?_
  refine bj (t:=15) rfl (fun hb2=>?_) (fun hb2=>?_)
  ·
   have hb2':=of_decide_eq_true hb2
   refine ab aa 10 rfl ?_
   refine ae ?_
   exact aD.bB 14 rfl rfl (by first|(simp [hb2];done)|(simp_all;done)|(exfalso;simp_all;done)|(simp_all;omega)) rfl
  have hb2':=of_decide_eq_false hb2
  refine ab aa 4 rfl ?_
  refine bj (t:=19) rfl (fun hb3=>?_) (fun hb3=>?_)
  ·
   have hb3':=of_decide_eq_true hb3
   refine ab aa 6 rfl ?_
   refine ae ?_
   exact aD.bB 15 rfl rfl (by first|(simp [hb2,hb3];done)|(simp_all;done)|(exfalso;simp_all;done)|(simp_all;omega)) rfl
  have hb3':=of_decide_eq_false hb3
  refine ab aa 3 rfl ?_
  refine cJ (ah.yes rfl rfl rfl) (aJ rfl rfl rfl (aE (by first|omega|(simp;done)|(simp;omega)))) rfl rfl ?_
  refine ab aa 2 rfl ?_
  refine ae ?_
  exact aD.bB 15 rfl rfl (by first|(simp [hb2,hb3];done)|(simp_all;done)|(exfalso;simp_all;done)|(simp_all;omega)) rfl
 refine ag rfl (fun hc4=>?_) (fun hc4=>?_)
 ·
  have hc4':=hc4;try simp only [bd,bF] at hc4'
  refine ad aa 3 rfl ?_
  refine aq ?_
  refine an ?_
  refine cb 1 5 125 2 rfl rfl rfl ?_
  have hX:eu c n=((⟨0,0,(⟨0,0,0⟩:di),([]:List cU)⟩:bC),3):=by
    unfold eu;rw [if_neg (by omega),if_pos (by omega)];rfl
  rw [hX] at hr;clear hX
  simp only [Prod.mk.injEq] at hr;obtain ⟨rfl,rfl⟩:=hr
  refine aj aa [2,1] 1 rfl rfl rfl rfl rfl rfl ?_ ?_
  all_goals first|rfl|(simp [ar];done)|(simp [ar];omega)
 have hc4':=hc4;try simp only [bd,bF] at hc4'
 refine aN ?_
 refine az aa 1 rfl ?_
 refine aL 3 [2,1,0] (bI 2 (ru c (by first|assumption|omega)) BO rfl rfl ⟨⟨_,rfl,.g ⟨.d _,.d _,.d _,.d _,.d _,.d _,trivial⟩⟩,trivial⟩ ⟨trivial,trivial,trivial,trivial,trivial,trivial,trivial⟩ ⟨(fun _ _ _ _=>trivial),trivial⟩ rfl rfl rfl rfl) rfl ?_
 refine ab aa 1 rfl ?_
 refine ae ?_
 refine az aa 3 rfl ?_
 refine ax (aJ rfl rfl rfl (aE (by first|omega|(simp;done)|(simp;omega)))) rfl ?_
 refine ab aa 2 rfl ?_
 refine ae ?_
 refine ad aa 3 rfl ?_
 refine aq ?_
 have hX:eu c n=((⟨c.bu,c.held+n,c.ca,c.cL⟩:bC),0):=by
   unfold eu;rw [if_neg (by omega),if_neg (by omega)]
 rw [hX] at hr;clear hX
 simp only [Prod.mk.injEq] at hr;obtain ⟨rfl,rfl⟩:=hr
 refine aj aa [2,1] 1 rfl rfl rfl rfl rfl rfl ?_ ?_
 all_goals first|rfl|(simp [ar];done)|(simp [ar];omega)

theorem vo (c:bC) (held bu:Int) (x:bC) (e:Int) (hr:dP c held bu=(x,e)):Fn Try.prog 97 [(.g [(cI c.bu),(cI c.held),(cI c.ca.cH),(cI c.ca.count),(cI c.ca.sum),(fj c.cL)]),(.c (cI held)),(.c (cI bu))] (.t [(.g [(cI x.bu),(cI x.held),(cI x.ca.cH),(cI x.ca.count),(cI x.ca.sum),(.s 0 0 2 x.cL.length)]),(.c (cI e))]) [(0,(oR x.cL))]:=by
 refine Fn.mk' 52 [(0,(aG [(cI c.bu),(cI c.held),(cI c.ca.cH),(cI c.ca.count),(cI c.ca.sum),(fj c.cL)])),(1,(aI held)),(2,(aI bu))] Try.func97 rfl rfl rfl rfl ?_
 intro W0 T0
 refine fc 0 5 rfl rfl (fun hlen0_5=>?_)
 have hrc:=@eU c
 have hrl:=@nc c
 refine ad aa 3 rfl ?_
 refine af ?_
 refine az aa 1 rfl ?_
 obtain ⟨e0,hr0⟩:∃ (e0:Int),cv c=e0:=⟨_,rfl⟩
 refine aL 2 [1,0] (bI 2 (jC c e0 hr0) xR rfl rfl ⟨⟨_,rfl,.g ⟨.d _,.d _,.d _,.d _,.d _,.d _,trivial⟩⟩,trivial⟩ trivial trivial rfl rfl rfl rfl) rfl ?_
 refine ab aa 1 rfl ?_
 refine ae ?_
 refine ad aa 2 rfl ?_
 refine ag rfl (fun hc1=>?_) (fun hc1=>?_)
 ·
  have hc1':=of_decide_eq_true hc1
  refine ad aa 4 rfl ?_
  refine aq ?_
  refine an ?_
  refine cb 1 5 125 2 rfl rfl rfl ?_
  have hX:dP c held bu=((⟨0,0,(⟨0,0,0⟩:di),([]:List cU)⟩:bC),e0):=by
    unfold dP;rw [if_pos (by omega),hr0];rfl
  rw [hX] at hr;clear hX
  simp only [Prod.mk.injEq] at hr;obtain ⟨rfl,rfl⟩:=hr
  refine aj aa [2,1] 1 rfl rfl rfl rfl rfl rfl ?_ ?_
  all_goals first|rfl|(simp [ar];done)|(simp [ar];omega)
 have hc1':=of_decide_eq_false hc1
 refine aN ?_
 refine af ?_
 refine az aa 2 rfl ?_
 refine aL 3 [2,1,0] (dD (ys:=[(0,(.c (cI held))),(1,(.c (cI bu)))]) (rows:=([held,bu]).map rI) 2 mf rfl (by decide) ⟨⟨rfl,rfl⟩,⟨rfl,rfl⟩,trivial⟩ rfl rfl rfl rfl) rfl ?_
 refine ax (dk rfl rfl rfl rfl rfl Try.underlying30) rfl ?_
 refine ab aa 1 rfl ?_
 refine ae ?_
 refine aV ?_
 refine cu (β:=Nat) (fun (q:Nat)=>⟨[(1,(aI held)),(2,(aI bu)),(3,(aC (.p 0 0 0 0))),(6,(aC (.p 1 0 0 0))),(20,(aC (.s 2 0 1 2))),(21,(aI 2)),(22,(aI (↑q:Int)))],[(2,(dx ([held,bu]))),(1,(.box 61 [(cI 0),(cI 0),(cI 0),(cI 0),(cI 0),cN])),(0,(.box 61 [(cI c.bu),(cI c.held),(cI c.ca.cH),(cI c.ca.count),(cI c.ca.sum),(fj c.cL)]))],3⟩) (fun (q:Nat)=>q<=2/\(0 < q->-1000000000000<=held/\held<=1000000000000)/\(1 < q->-1000000000000<=bu/\bu<=1000000000000)) (fun (q:Nat)=>2 - q) 0 ?_ ?_ ?_
 ·exact ⟨by omega,by omega,by omega⟩
 ·exact aD.bZ id (by refine ⟨?_,?_,?_,?_,?_,?_,?_,trivial⟩<;>first|rfl|(simp only [bq];done)|(congr 3;omega)|(congr 4;omega)|(simp only [br];rfl)) (by refine ⟨?_,?_,?_,trivial⟩<;>first|rfl|(simp only [bq];done)|(congr 3;omega)|(congr 4;omega)|(simp only [br];rfl)) rfl
 rintro q ⟨hi0_0,hi0_1,hi0_2⟩
 refine ad aa 1 rfl ?_
 refine af ?_
 refine ag rfl (fun hc2=>?_) (fun hc2=>?_)
 ·
  have hc2':=of_decide_eq_true hc2
  refine aN ?_
  refine af ?_
  refine aV ?_
  refine eM ?_
  refine ax (bo (i:=q) rfl rfl rfl Try.underlying30 fT (by first|omega|(simp;done)|(simp;omega)) (by first|omega|(simp;done)|(simp;omega))) rfl ?_
  obtain ⟨x1,hx1⟩:=bY (xs:=([held,bu]:List Int)) (i:=q) (by first|omega|(simp;done)|(simp;omega))
  have hx1v:=Dm hx1
  refine ax (eD rfl rfl rfl Try.underlying3 rfl (bf hx1) rfl) rfl ?_
  refine ab aa 1 rfl ?_
  refine ae ?_
  refine cm 31 ((decide (x1 < (-1000000000000)))||(decide (x1 > 1000000000000))) ?_ ?_
  ·
   refine aw ?_
   refine ab aa 3 rfl ?_
   refine bj (t:=28) rfl (fun hb3=>?_) (fun hb3=>?_)
   ·
    have hb3':=of_decide_eq_true hb3
    refine ab aa 3 rfl ?_
    refine ae ?_
    exact aD.bB 7 rfl rfl (by first|(simp [hb3];done)|(simp_all;done)|(exfalso;simp_all;done)|(simp_all;omega)) rfl
   have hb3':=of_decide_eq_false hb3
   refine ab aa 3 rfl ?_
   refine ae ?_
   exact aD.bB 7 rfl rfl (by first|(simp [hb3];done)|(simp_all;done)|(exfalso;simp_all;done)|(simp_all;omega)) rfl
  refine ag rfl (fun hc4=>?_) (fun hc4=>?_)
  ·
   have hc4':=hc4;try simp only [bd,bF] at hc4'
   refine ad aa 3 rfl ?_
   refine aq ?_
   refine bg ?_
   refine an ?_
   refine an ?_
   refine bg ?_
   refine an ?_
   refine cb 1 5 125 2 rfl rfl rfl ?_
   have hX:dP c held bu=((⟨0,0,(⟨0,0,0⟩:di),([]:List cU)⟩:bC),3):=by
     unfold dP;rw [if_neg (by omega),if_pos (by omega)];rfl
   rw [hX] at hr;clear hX
   simp only [Prod.mk.injEq] at hr;obtain ⟨rfl,rfl⟩:=hr
   refine aj aa [3,1] 1 rfl rfl rfl rfl rfl rfl ?_ ?_
   all_goals first|rfl|(simp [ar];done)|(simp [ar];omega)
  have hc4':=hc4;try simp only [bd,bF] at hc4'
  refine cW ?_
  refine bn ?_
  refine then_ok ?_
  refine aw ?_
  refine ax (aJ rfl rfl rfl (aE (by first|omega|(simp;done)|(simp;omega)))) rfl ?_
  refine ab aa 1 rfl ?_
  refine ae ?_
  refine ⟨q+1,⟨by omega,by omega,by omega⟩,by first|omega|(simp;done)|(simp;omega),aD.bZ id (by refine ⟨?_,?_,?_,?_,?_,?_,?_,trivial⟩<;>first|rfl|(simp only [bq];done)|(congr 3;omega)|(congr 4;omega)|(simp only [br];rfl)) (by refine ⟨?_,?_,?_,trivial⟩<;>first|rfl|(simp only [bq];done)|(congr 3;omega)|(congr 4;omega)|(simp only [br];rfl)) rfl⟩
 have hc2':=of_decide_eq_false hc2
 refine cp ?_
 refine aP ?_
 refine aP ?_
 refine bP ?_
 refine then_ok ?_
 refine az aa 1 rfl ?_
 refine aL 4 [3,2,1,0] (bI 3 (ru c (by first|assumption|omega)) BO rfl rfl ⟨⟨_,rfl,.g ⟨.d _,.d _,.d _,.d _,.d _,.d _,trivial⟩⟩,trivial⟩ ⟨trivial,trivial,trivial,trivial,trivial,trivial,trivial⟩ ⟨(fun _ _ _ _=>trivial),trivial⟩ rfl rfl rfl rfl) rfl ?_
 refine ab aa 1 rfl ?_
 refine ae ?_
 refine az aa 3 rfl ?_
 refine ax (aJ rfl rfl rfl (aE (by first|omega|(simp;done)|(simp;omega)))) rfl ?_
 refine ab aa 2 rfl ?_
 refine ae ?_
 refine az aa 3 rfl ?_
 refine ax (aJ rfl rfl rfl (aE (by first|omega|(simp;done)|(simp;omega)))) rfl ?_
 refine ab aa 2 rfl ?_
 refine ae ?_
 refine af ?_
 refine az aa 1 rfl ?_
 obtain ⟨e1,hr1⟩:∃ (e1:Int),cv (⟨c.bu+bu,c.held+held,c.ca,c.cL⟩:bC)=e1:=⟨_,rfl⟩
 refine aL 4 [3,2,1,0] (fK 4 [3] (jC (⟨c.bu+bu,c.held+held,c.ca,c.cL⟩:bC) e1 hr1) xR rfl rfl ⟨⟨_,rfl,.g ⟨.d _,.d _,.d _,.d _,.d _,.s rfl (by decide) (by first|omega|(simp;done)|(simp;omega)),trivial⟩⟩,trivial⟩ rfl trivial rfl rfl rfl rfl) rfl ?_
 refine ab aa 1 rfl ?_
 refine ae ?_
 refine ad aa 2 rfl ?_
 refine ag rfl (fun hc5=>?_) (fun hc5=>?_)
 ·
  have hc5':=of_decide_eq_true hc5
  refine ad aa 3 rfl ?_
  refine aq ?_
  refine an ?_
  refine cb 1 5 125 2 rfl rfl rfl ?_
  have hX:dP c held bu=((⟨0,0,(⟨0,0,0⟩:di),([]:List cU)⟩:bC),10):=by
    unfold dP;rw [if_neg (by omega),if_neg (by omega),if_pos (by first|omega|(intro hz;have hy:=eU hz;dsimp only at hy;omega))];rfl
  rw [hX] at hr;clear hX
  simp only [Prod.mk.injEq] at hr;obtain ⟨rfl,rfl⟩:=hr
  refine aj aa [4,1] 1 rfl rfl rfl rfl rfl rfl ?_ ?_
  all_goals first|rfl|(simp [ar];done)|(simp [ar];omega)
 have hc5':=of_decide_eq_false hc5
 refine aN ?_
 refine ad aa 3 rfl ?_
 refine aq ?_
 have hX:dP c held bu=((⟨c.bu+bu,c.held+held,c.ca,c.cL⟩:bC),0):=by
   unfold dP;rw [if_neg (by omega),if_neg (by omega),if_neg (by first|omega|(have hz:=oX (c:=⟨c.bu+bu,c.held+held,c.ca,c.cL⟩) (by dsimp only;omega) (hrc (by omega)).2.2.2.2.1 (hrc (by omega)).2.2.2.2.2;omega))]
 rw [hX] at hr;clear hX
 simp only [Prod.mk.injEq] at hr;obtain ⟨rfl,rfl⟩:=hr
 refine aj aa [3,1] 1 rfl rfl rfl rfl rfl rfl ?_ ?_
 all_goals first|rfl|(simp [ar];done)|(simp [ar];omega)

theorem qu (l:List bl) (fn:FuncId) (aT:List (List D)) (pr:bl->Bool) (hp:∀ x:bl,Fn Try.prog fn ([.g [cI x.number,cI x.kind,cI x.ba,cI x.sum]]++aT.map fun r=>GV.c (.q r 0)) (aB (pr x)) []) (hen:bc Try.prog fn) (r:Int) (hr:gE pr l=r):Fn Try.prog 113 [(.c (dd l)),(.c (.d (.f fn aT)))] (.v (.c (cI r))) []:=by
 refine Fn.mk' 19 [(0,(aC (dd l))),(1,(aC (.d (.f fn aT))))] Try.func113 rfl rfl rfl rfl ?_
 intro W0 T0
 refine dz 0 rfl (fun hlen0=>?_)
 refine ad aa 1 rfl ?_
 refine af ?_
 refine az aa 1 rfl ?_
 refine ax (cT rfl rfl rfl rfl rfl Try.underlying32) rfl ?_
 refine ab aa 1 rfl ?_
 refine ae ?_
 refine aV ?_
 refine cu (β:=Nat) (fun (q:Nat)=>⟨[(0,(aC (dd l))),(1,(aC (.d (.f fn aT)))),(7,(aI (↑l.length:Int))),(8,(aI (↑q:Int)))],[],0⟩) (fun (q:Nat)=>q<=l.length/\(l.take q).all (fun y=>!pr y)=true) (fun (q:Nat)=>l.length - q) 0 ?_ ?_ ?_
 ·exact ⟨by omega,by simp⟩
 ·exact aD.bZ id (by refine ⟨?_,?_,?_,?_,trivial⟩<;>first|rfl|(simp only [bq];done)|(congr 3;omega)|(congr 4;omega)|(simp only [br];rfl)) (trivial) rfl
 rintro q ⟨hi0_0,hi0_1⟩
 refine ad aa 1 rfl ?_
 refine af ?_
 refine ag rfl (fun hc1=>?_) (fun hc1=>?_)
 ·
  have hc1':=of_decide_eq_true hc1
  refine aN ?_
  refine af ?_
  refine aV ?_
  refine ad aa 2 rfl ?_
  refine az aa 3 rfl ?_
  obtain ⟨x1,hx1⟩:=bY (xs:=l) (i:=q) (by first|omega|(simp;done)|(simp;omega))
  refine ax (cf (i:=q) rfl rfl rfl Try.underlying32 lY (by first|omega|(simp;done)|(simp;omega)) (bf hx1)) rfl ?_
  refine ab aa 1 rfl ?_
  refine ax (gO 0 (hp x1) hen rfl rfl rfl ⟨⟨_,rfl,.g ⟨.d _,.d _,.d _,.d _,trivial⟩⟩,trivial⟩ trivial trivial rfl rfl rfl rfl) rfl ?_
  refine ae ?_
  refine ag rfl (fun hc2=>?_) (fun hc2=>?_)
  ·
   have hc2':=hc2;try simp only [bd,bF] at hc2'
   refine ad aa 2 rfl ?_
   refine aq ?_
   refine bg ?_
   refine an ?_
   refine an ?_
   refine bg ?_
   refine an ?_
   have hX:gE pr l=(↑q:Int):=by
     exact tc hi0_1 hx1 hc2
   rw [hX] at hr;clear hX
   subst hr
   refine aj aa [] 0 rfl rfl rfl rfl rfl rfl ?_ ?_
   all_goals first|rfl|(simp [ar];done)|(simp [ar];omega)
  have hc2':=hc2;try simp only [bd,bF] at hc2'
  refine cW ?_
  refine bn ?_
  refine then_ok ?_
  refine aw ?_
  refine ax (aJ rfl rfl rfl (aE (by first|omega|(simp;done)|(simp;omega)))) rfl ?_
  refine ab aa 1 rfl ?_
  refine ae ?_
  refine ⟨q+1,⟨by omega,vB hi0_1 hx1 hc2⟩,by first|omega|(simp;done)|(simp;omega),aD.bZ id (by refine ⟨?_,?_,?_,?_,trivial⟩<;>first|rfl|(simp only [bq];done)|(congr 3;omega)|(congr 4;omega)|(simp only [br];rfl)) (trivial) rfl⟩
 have hc1':=of_decide_eq_false hc1
 refine cp ?_
 refine aP ?_
 refine aP ?_
 refine bP ?_
 refine then_ok ?_
 refine ad aa 1 rfl ?_
 refine aq ?_
 have hX:gE pr l=(-1):=by
   exact uP (by rw [<-List.take_of_length_le (l:=l) (i:=q) (by omega)];exact hi0_1)
 rw [hX] at hr;clear hX
 subst hr
 refine aj aa [] 0 rfl rfl rfl rfl rfl rfl ?_ ?_
 all_goals first|rfl|(simp [ar];done)|(simp [ar];omega)
theorem pt (l:List bl) (fn:FuncId) (aT:List (List D)) (pr:bl->Bool) (hp:∀ x:bl,Fn Try.prog fn ([.g [cI x.number,cI x.kind,cI x.ba,cI x.sum]]++aT.map fun r=>GV.c (.q r 0)) (aB (pr x)) []) (hen:bc Try.prog fn) (r:List bl) (hr:dE pr l=r):cz Try.prog 105 [(.c (.s 0 0 4 l.length)),(.c (.d (.f fn aT)))] [(0,(wY l))] [] (.v (.c (.s 0 0 4 r.length))) [(0,(wY r))]:=by
 refine cz.mk 42 [(0,(aC (.s 0 0 4 l.length))),(1,(aC (.d (.f fn aT))))] 1 Try.func105 rfl rfl rfl rfl rfl rfl rfl rfl rfl ?_
 intro W0 F0 T0 pg
 refine fO 0 rfl (fun hlen0=>?_)
 have hic:=td pr l
 have hib:gE pr l<=l.length/\-1<=gE pr l:=by rcases hic with ⟨h,_⟩|⟨i,h,h1,_⟩<;>omega
 refine ad aa 1 rfl ?_
 refine az aa 2 rfl ?_
 obtain ⟨r0,hr0⟩:∃ (r0:Int),gE pr l=r0:=⟨_,rfl⟩
 refine aL 1 [0] (fK 1 [0] (qu l fn aT pr hp hen r0 hr0) ET rfl rfl ⟨⟨_,rfl,.c (.s rfl (by decide) (by first|omega|(simp;done)|(simp;omega)))⟩,⟨_,rfl,.c (.d _)⟩,trivial⟩ rfl trivial rfl rfl rfl rfl) rfl ?_
 refine ab aa 1 rfl ?_
 refine ae ?_
 refine af ?_
 refine ad aa 2 rfl ?_
 refine ag rfl (fun hc1=>?_) (fun hc1=>?_)
 ·
  have hc1':=of_decide_eq_true hc1
  refine ad aa 2 rfl ?_
  refine aq ?_
  refine an ?_
  have hX:dE pr l=l:=by
    rcases hic with ⟨_,h⟩|⟨i0,h,_⟩
    ·exact h
    ·exfalso;omega
  rw [hX] at hr;clear hX
  subst hr
  refine aj aa [0] 1 rfl rfl rfl rfl rfl rfl ?_ ?_
  all_goals first|rfl|(simp [ar];done)|(simp [ar];omega)
 have hc1':=of_decide_eq_false hc1
 refine aN ?_
 refine af ?_
 refine az aa 1 rfl ?_
 refine ax (aJ rfl rfl rfl (aE (by first|omega|(simp;done)|(simp;omega)))) rfl ?_
 refine ab aa 1 rfl ?_
 refine ae ?_
 refine aV ?_
 obtain ⟨i0,hi0,hil,x0,hx0,hp0,hk0⟩:∃ i:Nat,gE pr l=i/\i < l.length/\∃ x,l[i]?=some x/\pr x=true/\dE pr (l.take i)=l.take i:=by
     rcases hic with ⟨h,_⟩|h
     ·exfalso;omega
     ·exact h
 obtain rfl:r0=(i0:Int):=by omega
 refine cu (β:=Nat×Nat×List bl) (fun (p:Nat×Nat×List bl)=>match p with|(j,i,c)=>⟨[(0,(aC (.s 0 0 4 l.length))),(1,(aC (.d (.f fn aT)))),(4,(aC cN)),(5,(aI (↑i:Int))),(6,(aI (↑j:Int)))],[(0,(wY c))],1⟩) (fun (p:Nat×Nat×List bl)=>match p with|(j,i,c)=>kI pr l c i j) (fun (p:Nat×Nat×List bl)=>match p with|(j,i,c)=>l.length - j) (i0+1,i0,l) ?_ ?_ ?_
 ·exact kI.start hx0 hp0 hk0
 ·exact aD.bZ id (by refine ⟨?_,?_,?_,?_,?_,trivial⟩<;>first|rfl|(simp only [bq];done)|(congr 3;omega)|(congr 4;omega)|(simp only [br];rfl)) (⟨by first|rfl|(simp only [bq];done)|(congr 3;omega)|(congr 4;omega)|(simp only [br];rfl),trivial⟩) rfl
 rintro ⟨j,i,c⟩ hd
 have hdl:=hd.len;have hdi:=hd.ij;have hdj:=hd.jl
 refine af ?_
 refine az aa 2 rfl ?_
 refine ax (dk rfl rfl rfl rfl rfl Try.underlying32) rfl ?_
 refine ab aa 1 rfl ?_
 refine ae ?_
 refine ag rfl (fun hc2=>?_) (fun hc2=>?_)
 ·
  have hc2':=of_decide_eq_true hc2
  refine aN ?_
  refine af ?_
  refine aV ?_
  refine az aa 2 rfl ?_
  refine ax (bo (i:=j) rfl rfl rfl Try.underlying32 lY (by first|omega|(simp;done)|(simp;omega)) (by first|omega|(simp;done)|(simp;omega))) rfl ?_
  obtain ⟨x1,hx1⟩:=bY (xs:=c) (i:=j) (by first|omega|(simp;done)|(simp;omega))
  refine ax (db rfl rfl rfl Try.underlying80 rfl lY (bf hx1) rfl) rfl ?_
  refine ab aa 2 rfl ?_
  refine ae ?_
  refine az aa 2 rfl ?_
  refine ax (gO 2 (hp x1) hen rfl rfl rfl ⟨⟨_,rfl,.g ⟨.d _,.d _,.d _,.d _,trivial⟩⟩,trivial⟩ trivial trivial rfl rfl rfl rfl) rfl ?_
  refine ab aa 1 rfl ?_
  refine ae ?_
  refine ag rfl (fun hc3=>?_) (fun hc3=>?_)
  ·
   have hc3':=hc3;try simp only [bd,bF] at hc3'
   refine az aa 3 rfl ?_
   refine ax (bo (i:=i) rfl rfl rfl Try.underlying32 lY (by first|omega|(simp;done)|(simp;omega)) (by first|omega|(simp;done)|(simp;omega))) rfl ?_
   obtain ⟨x2,hx2⟩:=bY (xs:=c) (i:=i) (by first|omega|(simp;done)|(simp;omega))
   refine gb [1,0] (dG (ds:=[(dI x1.number),(dI x1.kind),(dI x1.ba),(dI x1.sum)]) rfl rfl rfl rfl rfl lY rfl (Nat.le_of_ble_eq_true rfl) (bf hx2) rfl (eG (x':=x1) rfl)) rfl ?_
   refine ae ?_
   refine aw ?_
   refine ab aa 1 rfl ?_
   refine ax (aJ rfl rfl rfl (aE (by first|omega|(simp;done)|(simp;omega)))) rfl ?_
   refine ab aa 1 rfl ?_
   refine bX ?_
   refine bn ?_
   refine then_ok ?_
   refine aw ?_
   refine ab aa 1 rfl ?_
   refine ax (aJ rfl rfl rfl (aE (by first|omega|(simp;done)|(simp;omega)))) rfl ?_
   refine ab aa 1 rfl ?_
   refine ae ?_
   refine ⟨(j+1,(i)+1,(c).set i x1),hd.cD hx1 (by simpa using hc3),by first|omega|(simp;done)|(simp;omega),aD.bZ id (by refine ⟨?_,?_,?_,?_,?_,trivial⟩<;>first|rfl|(simp only [bq];done)|(congr 3;omega)|(congr 4;omega)|(simp only [br];rfl)) (⟨by first|rfl|(simp only [bq];done)|(congr 3;omega)|(congr 4;omega)|(simp only [br];rfl),trivial⟩) rfl⟩
  have hc3':=hc3;try simp only [bd,bF] at hc3'
  refine cW ?_
  refine bn ?_
  refine then_ok ?_
  refine aw ?_
  refine ab aa 1 rfl ?_
  refine ax (aJ rfl rfl rfl (aE (by first|omega|(simp;done)|(simp;omega)))) rfl ?_
  refine ab aa 1 rfl ?_
  refine ae ?_
  refine ⟨(j+1,i,c),hd.skip hx1 (by simpa using hc3),by first|omega|(simp;done)|(simp;omega),aD.bZ id (by refine ⟨?_,?_,?_,?_,?_,trivial⟩<;>first|rfl|(simp only [bq];done)|(congr 3;omega)|(congr 4;omega)|(simp only [br];rfl)) (⟨by first|rfl|(simp only [bq];done)|(congr 3;omega)|(congr 4;omega)|(simp only [br];rfl),trivial⟩) rfl⟩
 have hc2':=of_decide_eq_false hc2
 refine cp ?_
 refine aP ?_
 refine aP ?_
 refine bP ?_
 refine then_ok ?_
 refine az aa 2 rfl ?_
 refine ax (ns (l:=i) (h:=l.length) rfl Try.underlying32 lY rfl (.inr ⟨_,rfl,rfl⟩) (.inl ⟨rfl,rfl⟩) (by first|omega|(simp;done)|(simp;omega)) (by first|omega|(simp;done)|(simp;omega)) (by first|omega|(simp;done)|(simp;omega)) rfl) rfl ?_
 refine gb [0] (rZ (rows':=(c.take i).map fq) ui Ft rfl rfl rfl rfl rfl rfl rfl rfl rfl (by simp [List.map_take])) rfl ?_
 refine ae ?_
 refine az aa 2 rfl ?_
 refine ax (ns (l:=0) (h:=i) rfl Try.underlying32 lY rfl (.inl ⟨rfl,rfl⟩) (.inr ⟨_,rfl,rfl⟩) (by first|omega|(simp;done)|(simp;omega)) (by first|omega|(simp;done)|(simp;omega)) (by first|omega|(simp;done)|(simp;omega)) rfl) rfl ?_
 refine ab aa 1 rfl ?_
 refine ae ?_
 refine aq ?_
 have hX:dE pr l=(c.take i):=by
   have hdone:=hd.done (by omega)
   rw [<-hdone]
 rw [hX] at hr;clear hX
 subst hr
 refine aj aa [0] 1 rfl rfl rfl rfl rfl rfl ?_ ?_
 all_goals first|rfl|(simp [ar];done)|(simp [ar];omega)


theorem jQ {s : bU} {t : bl} (hI : ∀ t ∈ s.kept, fy t.number) (h : 0 ≤ s.bV ∧ s.bV ≤ 1000000) : ∀ u ∈ s.kept ++ [(⟨s.bV + 1, t.kind, t.ba, t.sum⟩ : bl)], fy u.number := by
  intro u hu
  rcases List.mem_append.1 hu with hu | hu
  · exact hI u hu
  · have : u = ⟨s.bV + 1, t.kind, t.ba, t.sum⟩ := by simpa using hu
    subst this; unfold fy; dsimp only; omega
theorem iZ {s x:bU} {seen e:Int} (hI:∀ t∈s.kept,fy t.number) (h:dX s seen=(x,e)):∀ u∈x.kept,fy u.number:=by
  intro u hu
  rcases pk h with ⟨_,rfl⟩|⟨_,_,_,_,rfl⟩
  ·simp [wA] at hu
  ·exact hI u (jN hu)

theorem ll (s:bU) (hI:∀ t∈s.kept,fy t.number) (f:cV) (hr:cE s=f):Fn Try.prog 29 [(.g [(cI s.bV),(dd s.kept)])] (.v (.g [(cI f.err),(cI f.at_)])) []:=by
 refine Fn.mk' 79 [(0,(aG [(cI s.bV),(dd s.kept)]))] Try.func29 rfl rfl rfl rfl ?_
 intro W0 T0
 refine fc 0 1 rfl rfl (fun hlen0_1=>?_)
 refine ad aa 2 rfl ?_
 refine af ?_
 refine az aa 2 rfl ?_
 refine ax (cT rfl rfl rfl rfl rfl Try.underlying32) rfl ?_
 refine ab aa 1 rfl ?_
 refine ae ?_
 refine ag rfl (fun hc1=>?_) (fun hc1=>?_)
 ·
  have hc1':=of_decide_eq_true hc1
  refine ad aa 2 rfl ?_
  refine aq ?_
  refine an ?_
  have hX:cE s=(⟨5,0⟩:cV):=by
    unfold cE ji;rw [if_pos (by omega)]
  rw [hX] at hr;clear hX
  subst hr
  refine aj aa [1] 0 rfl rfl rfl rfl rfl rfl ?_ ?_
  all_goals first|rfl|(simp [ar];done)|(simp [ar];omega)
 have hc1':=of_decide_eq_false hc1
 refine aN ?_
 refine af ?_
 refine cm 20 ((decide (s.bV < (↑s.kept.length:Int)))||(decide (s.bV > 1000000))) ?_ ?_
 ·
  refine aw ?_
  refine ab aa 4 rfl ?_
  refine ax (cT rfl rfl rfl rfl rfl Try.underlying32) rfl ?_
  refine ab aa 2 rfl ?_
  refine bj (t:=16) rfl (fun hb2=>?_) (fun hb2=>?_)
  ·
   have hb2':=of_decide_eq_true hb2
   refine ab aa 4 rfl ?_
   refine ae ?_
   exact aD.bB 12 rfl rfl (by first|(simp [hb2];done)|(simp_all;done)|(exfalso;simp_all;done)|(simp_all;omega)) rfl
  have hb2':=of_decide_eq_false hb2
  refine ab aa 4 rfl ?_
  refine ae ?_
  exact aD.bB 12 rfl rfl (by first|(simp [hb2];done)|(simp_all;done)|(exfalso;simp_all;done)|(simp_all;omega)) rfl
 refine ag rfl (fun hc3=>?_) (fun hc3=>?_)
 ·
  have hc3':=hc3;try simp only [bd,bF] at hc3'
  refine ad aa 2 rfl ?_
  refine aq ?_
  refine an ?_
  have hX:cE s=(⟨3,0⟩:cV):=by
    unfold cE ji;rw [if_neg (by omega),if_pos (by omega)]
  rw [hX] at hr;clear hX
  subst hr
  refine aj aa [1] 0 rfl rfl rfl rfl rfl rfl ?_ ?_
  all_goals first|rfl|(simp [ar];done)|(simp [ar];omega)
 have hc3':=hc3;try simp only [bd,bF] at hc3'
 refine aN ?_
 refine af ?_
 refine az aa 2 rfl ?_
 refine ax (cT rfl rfl rfl rfl rfl Try.underlying32) rfl ?_
 refine ab aa 1 rfl ?_
 refine ae ?_
 refine aV ?_
 refine cu (β:=Nat) (fun (q:Nat)=>⟨[(1,(aC (.p 0 0 0 0))),(2,(aC (.p 1 0 0 0))),(23,(aC (dd s.kept))),(24,(aI (↑s.kept.length:Int))),(25,(aI (↑q:Int)))],[(1,(.box 50 [(cI 0),(cI 0)])),(0,(.box 34 [(cI s.bV),(dd s.kept)]))],2⟩) (fun (q:Nat)=>q<=s.kept.length/\scan (lX s) 0 s.kept.length=scan (lX s) q (s.kept.length - q)) (fun (q:Nat)=>s.kept.length - q) 0 ?_ ?_ ?_
 ·exact ⟨by omega,rfl⟩
 ·exact aD.bZ id (by refine ⟨?_,?_,?_,?_,?_,trivial⟩<;>first|rfl|(simp only [bq];done)|(congr 3;omega)|(congr 4;omega)|(simp only [br];rfl)) (by refine ⟨?_,?_,trivial⟩<;>first|rfl|(simp only [bq];done)|(congr 3;omega)|(congr 4;omega)|(simp only [br];rfl)) rfl
 rintro q ⟨hi0_0,hi0_1⟩
 refine ad aa 1 rfl ?_
 refine af ?_
 refine ag rfl (fun hc4=>?_) (fun hc4=>?_)
 ·
  have hc4':=of_decide_eq_true hc4
  refine aN ?_
  refine af ?_
  refine aV ?_
  refine az aa 1 rfl ?_
  obtain ⟨x1,hx1⟩:=bY (xs:=s.kept) (i:=q) (by first|omega|(simp;done)|(simp;omega))
  have hx1b:=hI x1 (List.mem_of_getElem? hx1)
  unfold fy at hx1b
  refine ax (cf (i:=q) rfl rfl rfl Try.underlying32 lY (by first|omega|(simp;done)|(simp;omega)) (bf hx1)) rfl ?_
  refine ab aa 4 rfl ?_
  refine ae ?_
  refine aV ?_
  refine cm 30 ((decide (x1.kind < 1))||(decide (x1.kind > 3))) ?_ ?_
  ·
   refine aw ?_
   refine ab aa 4 rfl ?_
   refine bj (t:=34) rfl (fun hb5=>?_) (fun hb5=>?_)
   ·
    have hb5':=of_decide_eq_true hb5
    refine ab aa 5 rfl ?_
    refine ae ?_
    exact aD.bB 10 rfl rfl (by first|(simp [hb5];done)|(simp_all;done)|(exfalso;simp_all;done)|(simp_all;omega)) rfl
   have hb5':=of_decide_eq_false hb5
   refine ab aa 5 rfl ?_
   refine ae ?_
   exact aD.bB 10 rfl rfl (by first|(simp [hb5];done)|(simp_all;done)|(exfalso;simp_all;done)|(simp_all;omega)) rfl
  refine ag rfl (fun hc6=>?_) (fun hc6=>?_)
  ·
   have hc6':=hc6;try simp only [bd,bF] at hc6'
   refine ad aa 3 rfl ?_
   refine aq ?_
   refine bg ?_
   refine bg ?_
   refine an ?_
   refine an ?_
   refine bg ?_
   refine an ?_
   have hX:cE s=(⟨1,(↑q:Int)⟩:cV):=by
     unfold cE ji;rw [if_neg (by omega),if_neg (by omega),hi0_1,gU (c:=1) (by omega) (by unfold lX;simp only [hx1];rw [if_pos (by omega)]) (by decide)]
   rw [hX] at hr;clear hX
   subst hr
   refine aj aa [1] 0 rfl rfl rfl rfl rfl rfl ?_ ?_
   all_goals first|rfl|(simp [ar];done)|(simp [ar];omega)
  have hc6':=hc6;try simp only [bd,bF] at hc6'
  refine cm 41 ((((decide (x1.ba < 0))||(decide (x1.ba>=30)))||(decide (x1.sum < 1)))||(decide (x1.sum > 1000000))) ?_ ?_
  ·
   refine aw ?_
   refine ab aa 4 rfl ?_
   refine bj (t:=45) rfl (fun hb7=>?_) (fun hb7=>?_)
   ·
    have hb7':=of_decide_eq_true hb7
    refine ab aa 15 rfl ?_
    refine ae ?_
    exact aD.bB 20 rfl rfl (by first|(simp [hb7];done)|(simp_all;done)|(exfalso;simp_all;done)|(simp_all;omega)) rfl
   have hb7':=of_decide_eq_false hb7
   refine ab aa 5 rfl ?_
   refine bj (t:=50) rfl (fun hb8=>?_) (fun hb8=>?_)
   ·
    have hb8':=of_decide_eq_true hb8
    refine ab aa 10 rfl ?_
    refine ae ?_
    exact aD.bB 21 rfl rfl (by first|(simp [hb7,hb8];done)|(simp_all;done)|(exfalso;simp_all;done)|(simp_all;omega)) rfl
   have hb8':=of_decide_eq_false hb8
   refine ab aa 5 rfl ?_
   refine bj (t:=55) rfl (fun hb9=>?_) (fun hb9=>?_)
   ·
    have hb9':=of_decide_eq_true hb9
    refine ab aa 5 rfl ?_
    refine ae ?_
    exact aD.bB 22 rfl rfl (by first|(simp [hb7,hb8,hb9];done)|(simp_all;done)|(exfalso;simp_all;done)|(simp_all;omega)) rfl
   have hb9':=of_decide_eq_false hb9
   refine ab aa 5 rfl ?_
   refine ae ?_
   exact aD.bB 22 rfl rfl (by first|(simp [hb7,hb8,hb9];done)|(simp_all;done)|(exfalso;simp_all;done)|(simp_all;omega)) rfl
  refine ag rfl (fun hc10=>?_) (fun hc10=>?_)
  ·
   have hc10':=hc10;try simp only [bd,bF] at hc10'
   refine ad aa 3 rfl ?_
   refine aq ?_
   refine bg ?_
   refine bg ?_
   refine an ?_
   refine an ?_
   refine bg ?_
   refine an ?_
   have hX:cE s=(⟨3,(↑q:Int)⟩:cV):=by
     unfold cE ji;rw [if_neg (by omega),if_neg (by omega),hi0_1,gU (c:=3) (by omega) (by unfold lX;simp only [hx1];rw [if_neg (by omega),if_pos (by omega)]) (by decide)]
   rw [hX] at hr;clear hX
   subst hr
   refine aj aa [1] 0 rfl rfl rfl rfl rfl rfl ?_ ?_
   all_goals first|rfl|(simp [ar];done)|(simp [ar];omega)
  have hc10':=hc10;try simp only [bd,bF] at hc10'
  refine az aa 6 rfl ?_
  refine ax (cT rfl rfl rfl rfl rfl Try.underlying32) rfl ?_
  refine ax (aJ rfl rfl rfl (aE (by first|omega|(simp;done)|(simp;omega)))) rfl ?_
  refine ax (aJ rfl rfl rfl (aE (by first|omega|(simp;done)|(simp;omega)))) rfl ?_
  refine ab aa 1 rfl ?_
  refine ax (aJ rfl rfl rfl (aE (by first|omega|(simp;done)|(simp;omega)))) rfl ?_
  refine ab aa 2 rfl ?_
  refine ae ?_
  refine ag rfl (fun hc11=>?_) (fun hc11=>?_)
  ·
   have hc11':=of_decide_eq_true hc11
   refine ad aa 3 rfl ?_
   refine aq ?_
   refine bg ?_
   refine bg ?_
   refine an ?_
   refine an ?_
   refine bg ?_
   refine an ?_
   have hX:cE s=(⟨2,(↑q:Int)⟩:cV):=by
     unfold cE ji;rw [if_neg (by omega),if_neg (by omega),hi0_1,gU (c:=2) (by omega) (by unfold lX;simp only [hx1];rw [if_neg (by omega),if_neg (by omega),if_pos (by omega)]) (by decide)]
   rw [hX] at hr;clear hX
   subst hr
   refine aj aa [1] 0 rfl rfl rfl rfl rfl rfl ?_ ?_
   all_goals first|rfl|(simp [ar];done)|(simp [ar];omega)
  have hc11':=of_decide_eq_false hc11
  refine cW ?_
  refine bn ?_
  refine bn ?_
  refine then_ok ?_
  refine aw ?_
  refine ax (aJ rfl rfl rfl (aE (by first|omega|(simp;done)|(simp;omega)))) rfl ?_
  refine ab aa 1 rfl ?_
  refine ae ?_
  refine ⟨q+1,⟨by omega,by rw [hi0_1];exact mA (by omega) (by unfold lX;simp only [hx1];rw [if_neg (by omega),if_neg (by omega),if_neg (by omega)])⟩,by first|omega|(simp;done)|(simp;omega),aD.bZ id (by refine ⟨?_,?_,?_,?_,?_,trivial⟩<;>first|rfl|(simp only [bq];done)|(congr 3;omega)|(congr 4;omega)|(simp only [br];rfl)) (by refine ⟨?_,?_,trivial⟩<;>first|rfl|(simp only [bq];done)|(congr 3;omega)|(congr 4;omega)|(simp only [br];rfl)) rfl⟩
 have hc4':=of_decide_eq_false hc4
 refine cp ?_
 refine aP ?_
 refine aP ?_
 refine bP ?_
 refine then_ok ?_
 refine ad aa 2 rfl ?_
 refine aq ?_
 have hX:cE s=(⟨0,0⟩:cV):=by
   unfold cE ji;rw [if_neg (by omega),if_neg (by omega),hi0_1,mY (by omega)]
 rw [hX] at hr;clear hX
 subst hr
 refine aj aa [1] 0 rfl rfl rfl rfl rfl rfl ?_ ?_
 all_goals first|rfl|(simp [ar];done)|(simp [ar];omega)

theorem rr (s:bU) (t:bl) (hI:∀ t∈s.kept,fy t.number) (x:bU) (e:Int) (hr:gl s t=(x,e)):Fn Try.prog 103 [(.g [(cI s.bV),(dd s.kept)]),(.g [(cI t.number),(cI t.kind),(cI t.ba),(cI t.sum)])] (.t [(.g [(cI x.bV),(.s 0 0 4 x.kept.length)]),(.c (cI e))]) [(0,(wY x.kept))]:=by
 refine Fn.mk' 40 [(0,(aG [(cI s.bV),(dd s.kept)])),(1,(aG [(cI t.number),(cI t.kind),(cI t.ba),(cI t.sum)]))] Try.func103 rfl rfl rfl rfl ?_
 intro W0 T0
 refine fc 0 1 rfl rfl (fun hlen0_1=>?_)
 have hrs:=@kJ s
 refine ad aa 4 rfl ?_
 refine af ?_
 refine az aa 1 rfl ?_
 obtain ⟨f0,hr0⟩:∃ (f0:cV),cE s=f0:=⟨_,rfl⟩
 have hq0:(cE s).err=f0.err:=by rw [hr0]
 refine aL 3 [2,1,0] (bI 3 (ll s (by first|assumption|exact jQ (by assumption) (by omega)|exact iZ (by assumption) (by assumption)|(simp [fy];done)) f0 hr0) AX rfl rfl ⟨⟨_,rfl,.g ⟨.d _,.d _,trivial⟩⟩,trivial⟩ ⟨trivial,trivial,trivial⟩ trivial rfl rfl rfl rfl) rfl ?_
 refine ab aa 2 rfl ?_
 refine ae ?_
 refine ad aa 3 rfl ?_
 refine ag rfl (fun hc1=>?_) (fun hc1=>?_)
 ·
  have hc1':=of_decide_eq_true hc1
  refine af ?_
  refine cX [2,3,4,6] [3,2,1,0] mixed rfl rfl ?_
  refine bQ (kn:=[]) aa 5 rfl trivial ?_
  refine dK [2,3,4,5] [2,1,0] rfl rfl (by kernel_rfl) ?_
  refine then_ok ?_
  refine aq ?_
  refine an ?_
  refine cb 2 1 80 4 rfl rfl rfl ?_
  have hX:gl s t=((⟨0,([]:List bl)⟩:bU),f0.err):=by
    unfold gl;rw [if_pos (by omega),hr0];rfl
  rw [hX] at hr;clear hX
  simp only [Prod.mk.injEq] at hr;obtain ⟨rfl,rfl⟩:=hr
  refine aj aa [4,2] 1 rfl rfl rfl rfl rfl rfl ?_ ?_
  all_goals first|rfl|(simp [ar];done)|(simp [ar];omega)
 have hc1':=of_decide_eq_false hc1
 refine aN ?_
 refine az aa 2 rfl ?_
 refine ax (aJ rfl rfl rfl (aE (by first|omega|(simp;done)|(simp;omega)))) rfl ?_
 refine ab aa 2 rfl ?_
 refine ae ?_
 refine af ?_
 refine bb [2,3,4] [2,1,0] mixed rfl rfl ?_
 refine aA (kn:=[]) aa 2 rfl trivial ?_
 refine aS (n':=4) [22] [] rfl rfl (.inl ⟨(ah.plain rfl),aH.cast (aJ rfl rfl rfl (aE (by first|omega|(simp;done)|(simp;omega)))) rfl⟩) rfl ?_
 refine aA (kn:=[]) aa 2 rfl trivial ?_
 refine aS (n':=5) [25] [] rfl rfl (.inl ⟨(ah.plain rfl),aH.cast (bI 4 (ln s.kept (by first|omega|(simp;done)|(simp;omega))) BP rfl rfl ⟨⟨_,rfl,.c (.d _)⟩,trivial⟩ trivial ⟨(fun _ _ _ _=>trivial),trivial⟩ rfl rfl rfl rfl) rfl⟩) rfl ?_
 refine aA (kn:=[]) aa 1 rfl trivial ?_
 refine aS (n':=6) [27] [] rfl rfl (.inl ⟨(ah.plain rfl),aH.cast (dD (ys:=[(0,(.g [(cI (s.bV+1)),(cI t.kind),(cI t.ba),(cI t.sum)]))]) (rows:=([(⟨s.bV+1,t.kind,t.ba,t.sum⟩:bl)]).map fq) 5 ui rfl (by decide) ⟨⟨rfl,rfl⟩,trivial⟩ rfl rfl rfl rfl) rfl⟩) rfl ?_
 refine aS (n':=7) [26,28] [5,4] rfl rfl (.inl ⟨(ah.plain rfl),aH.cast (dh (m:=1) (N:=s.kept.length+1) (k2:=6) (ys:=([(⟨s.bV+1,t.kind,t.ba,t.sum⟩:bl)]).map fq) ui rfl rfl rfl rfl rfl rfl (by first|omega|(simp;done)|(simp;omega)) rfl (.s rfl (by first|omega|(simp;done)|(simp;omega))) (by first|omega|(simp;done)|(simp;omega)) (by first|omega|(simp;done)|(simp;omega)) fb (by decide) (by first|omega|(simp;done)|(simp;omega)) (by first|omega|(simp;done)|(simp;omega))) rfl⟩) rfl ?_
 refine aA (n':=8) (kn:=[]) aa 2 rfl trivial ?_
 refine bx [7,6,2,1,0] rfl rfl rfl rfl (by kernel_rfl) ?_
 refine ab aa 1 rfl ?_
 refine ae ?_
 refine af ?_
 refine az aa 1 rfl ?_
 obtain ⟨f1,hr1⟩:∃ (f1:cV),cE (⟨s.bV+1,s.kept++([(⟨s.bV+1,t.kind,t.ba,t.sum⟩:bl)])⟩:bU)=f1:=⟨_,rfl⟩
 have hq1:(cE (⟨s.bV+1,s.kept++([(⟨s.bV+1,t.kind,t.ba,t.sum⟩:bl)])⟩:bU)).err=f1.err:=by rw [hr1]
 refine aL 8 [7,6,2,1,0] (fK 8 [6] (ll (⟨s.bV+1,s.kept++([(⟨s.bV+1,t.kind,t.ba,t.sum⟩:bl)])⟩:bU) (by first|assumption|exact jQ (by assumption) (by omega)|exact iZ (by assumption) (by assumption)|(simp [fy];done)) f1 hr1) AX rfl rfl ⟨⟨_,rfl,.g ⟨.d _,.s rfl (by decide) (by first|omega|(simp;done)|(simp;omega)),trivial⟩⟩,trivial⟩ ⟨rfl,rfl,trivial⟩ trivial rfl rfl rfl rfl) rfl ?_
 refine ab aa 2 rfl ?_
 refine ae ?_
 refine ad aa 3 rfl ?_
 refine ag rfl (fun hc2=>?_) (fun hc2=>?_)
 ·
  have hc2':=of_decide_eq_true hc2
  refine af ?_
  refine cX [4,7,8] [8,7,6,2] mixed rfl rfl ?_
  refine bQ (kn:=[]) aa 5 rfl trivial ?_
  refine dK [4,7,5] [2,7,6] rfl rfl (by kernel_rfl) ?_
  refine then_ok ?_
  refine aq ?_
  refine an ?_
  refine cb 2 1 80 4 rfl rfl rfl ?_
  have hX:gl s t=((⟨0,([]:List bl)⟩:bU),f1.err):=by
    have hout:cE (lf s t)=f1:=hr1
    unfold gl;rw [if_neg (by omega),if_pos (by rw [hout];omega),hout];rfl
  rw [hX] at hr;clear hX
  simp only [Prod.mk.injEq] at hr;obtain ⟨rfl,rfl⟩:=hr
  refine aj aa [9,2] 1 rfl rfl rfl rfl rfl rfl ?_ ?_
  all_goals first|rfl|(simp [ar];done)|(simp [ar];omega)
 have hc2':=of_decide_eq_false hc2
 refine aN ?_
 refine ad aa 3 rfl ?_
 refine aq ?_
 have hX:gl s t=((⟨s.bV+1,s.kept++([(⟨s.bV+1,t.kind,t.ba,t.sum⟩:bl)])⟩:bU),0):=by
   have hout:cE (lf s t)=f1:=hr1
   unfold gl;rw [if_neg (by omega),if_neg (by rw [hout];omega)];rfl
 rw [hX] at hr;clear hX
 simp only [Prod.mk.injEq] at hr;obtain ⟨rfl,rfl⟩:=hr
 refine aj aa [6,2] 1 rfl rfl rfl rfl rfl rfl ?_ ?_
 all_goals first|rfl|(simp [ar];done)|(simp [ar];omega)
theorem pI (seen:Int) (t:bl) (n:Int) (ok:Bool) (hr:gT seen t=(n,ok)):Fn Try.prog 88 [(.c (cI seen)),(.g [(cI t.number),(cI t.kind),(cI t.ba),(cI t.sum)])] (.t [(.c (cI n)),(.c (cB ok))]) []:=by
 refine Fn.mk' 22 [(0,(aI seen)),(1,(aG [(cI t.number),(cI t.kind),(cI t.ba),(cI t.sum)]))] Try.func88 rfl rfl rfl rfl ?_
 intro W0 T0
 refine ad aa 3 rfl ?_
 refine af ?_
 refine cm 18 (((decide (seen < 0))||(decide (seen>=1000000)))||(decide (¬t.number=(seen+1)))) ?_ ?_
 ·
  refine aw ?_
  refine ab aa 3 rfl ?_
  refine bj (t:=8) rfl (fun hb1=>?_) (fun hb1=>?_)
  ·
   have hb1':=of_decide_eq_true hb1
   refine ab aa 10 rfl ?_
   refine ae ?_
   exact aD.bB 14 rfl rfl (by first|(simp [hb1];done)|(simp_all;done)|(exfalso;simp_all;done)|(simp_all;omega)) rfl
  have hb1':=of_decide_eq_false hb1
  refine ab aa 4 rfl ?_
  refine bj (t:=12) rfl (fun hb2=>?_) (fun hb2=>?_)
  ·
   have hb2':=of_decide_eq_true hb2
   refine ab aa 6 rfl ?_
   refine ae ?_
   exact aD.bB 15 rfl rfl (by first|(simp [hb1,hb2];done)|(simp_all;done)|(exfalso;simp_all;done)|(simp_all;omega)) rfl
  have hb2':=of_decide_eq_false hb2
  refine ab aa 3 rfl ?_
  refine cJ (ah.yes rfl rfl rfl) (aJ rfl rfl rfl (aE (by first|omega|(simp;done)|(simp;omega)))) rfl rfl ?_
  refine ab aa 2 rfl ?_
  refine ae ?_
  exact aD.bB 15 rfl rfl (by first|(simp [hb1,hb2];done)|(simp_all;done)|(exfalso;simp_all;done)|(simp_all;omega)) rfl
 refine ag rfl (fun hc3=>?_) (fun hc3=>?_)
 ·
  have hc3':=hc3;try simp only [bd,bF] at hc3'
  refine ad aa 3 rfl ?_
  refine aq ?_
  refine an ?_
  have hX:gT seen t=(seen,false):=by
    (unfold gT;try dsimp only);(repeat' split)<;>first|rfl|omega|(exfalso;omega)|(subst_vars;rfl)|(simp_all;done)|(simp_all;omega)
  rw [hX] at hr;clear hX
  simp only [Prod.mk.injEq] at hr;obtain ⟨rfl,rfl⟩:=hr
  refine aj aa [] 0 rfl rfl rfl rfl rfl rfl ?_ ?_
  all_goals first|rfl|(simp [ar];done)|(simp [ar];omega)
 have hc3':=hc3;try simp only [bd,bF] at hc3'
 refine aN ?_
 refine az aa 1 rfl ?_
 refine ax (aJ rfl rfl rfl (aE (by first|omega|(simp;done)|(simp;omega)))) rfl ?_
 refine ab aa 2 rfl ?_
 refine ae ?_
 refine aq ?_
 have hX:gT seen t=(seen+1,true):=by
   (unfold gT;try dsimp only);(repeat' split)<;>first|rfl|omega|(exfalso;omega)|(subst_vars;rfl)|(simp_all;done)|(simp_all;omega)
 rw [hX] at hr;clear hX
 simp only [Prod.mk.injEq] at hr;obtain ⟨rfl,rfl⟩:=hr
 refine aj aa [] 0 rfl rfl rfl rfl rfl rfl ?_ ?_
 all_goals first|rfl|(simp [ar];done)|(simp [ar];omega)

theorem CE (t:bl) (seen:Int):Fn Try.prog 107 [(.g [(cI t.number),(cI t.kind),(cI t.ba),(cI t.sum)]),(.c (.q ([dI seen]) 0))] (aB (came seen t)) []:=by
 refine Fn.mk' 8 [(0,(aG [(cI t.number),(cI t.kind),(cI t.ba),(cI t.sum)])),(1,(aC (.q ([dI seen]) 0)))] Try.func107 rfl rfl rfl rfl ?_
 intro W0 T0
 refine ad aa 2 rfl ?_
 refine ad aa 5 rfl ?_
 refine aq ?_
 refine aj aa [] 0 rfl rfl rfl rfl rfl rfl ?_ ?_
 all_goals first|rfl|(simp [ar];done)|(simp [ar];omega)
theorem pJ (s:bU) (seen:Int) (hI:∀ t∈s.kept,fy t.number) (x:bU) (e:Int) (hr:dX s seen=(x,e)):Fn Try.prog 86 [(.g [(cI s.bV),(dd s.kept)]),(.c (cI seen))] (.t [(.g [(cI x.bV),(.s 0 0 4 x.kept.length)]),(.c (cI e))]) [(0,(wY x.kept))]:=by
 refine Fn.mk' 32 [(0,(aG [(cI s.bV),(dd s.kept)])),(1,(aI seen))] Try.func86 rfl rfl rfl rfl ?_
 intro W0 T0
 refine fc 0 1 rfl rfl (fun hlen0_1=>?_)
 have hrs:=@kJ s
 refine ad aa 4 rfl ?_
 refine af ?_
 refine az aa 1 rfl ?_
 obtain ⟨f0,hr0⟩:∃ (f0:cV),cE s=f0:=⟨_,rfl⟩
 have hq0:(cE s).err=f0.err:=by rw [hr0]
 refine aL 3 [2,1,0] (bI 3 (ll s (by first|assumption|exact jQ (by assumption) (by omega)|exact iZ (by assumption) (by assumption)|(simp [fy];done)) f0 hr0) AX rfl rfl ⟨⟨_,rfl,.g ⟨.d _,.d _,trivial⟩⟩,trivial⟩ ⟨trivial,trivial,trivial⟩ trivial rfl rfl rfl rfl) rfl ?_
 refine ab aa 2 rfl ?_
 refine ae ?_
 refine ad aa 3 rfl ?_
 refine ag rfl (fun hc1=>?_) (fun hc1=>?_)
 ·
  have hc1':=of_decide_eq_true hc1
  refine af ?_
  refine cX [2,3,4,6] [3,2,1,0] mixed rfl rfl ?_
  refine bQ (kn:=[]) aa 5 rfl trivial ?_
  refine dK [2,3,4,5] [2,1,0] rfl rfl (by kernel_rfl) ?_
  refine then_ok ?_
  refine aq ?_
  refine an ?_
  refine cb 2 1 80 4 rfl rfl rfl ?_
  have hX:dX s seen=((⟨0,([]:List bl)⟩:bU),f0.err):=by
    unfold dX;rw [if_pos (by omega),hr0];rfl
  rw [hX] at hr;clear hX
  simp only [Prod.mk.injEq] at hr;obtain ⟨rfl,rfl⟩:=hr
  refine aj aa [4,2] 1 rfl rfl rfl rfl rfl rfl ?_ ?_
  all_goals first|rfl|(simp [ar];done)|(simp [ar];omega)
 have hc1':=of_decide_eq_false hc1
 refine aN ?_
 refine af ?_
 refine cm 22 ((decide (seen < 0))||(decide (seen > s.bV))) ?_ ?_
 ·
  refine aw ?_
  refine ab aa 3 rfl ?_
  refine bj (t:=17) rfl (fun hb2=>?_) (fun hb2=>?_)
  ·
   have hb2':=of_decide_eq_true hb2
   refine ab aa 5 rfl ?_
   refine ae ?_
   exact aD.bB 9 rfl rfl (by first|(simp [hb2];done)|(simp_all;done)|(exfalso;simp_all;done)|(simp_all;omega)) rfl
  have hb2':=of_decide_eq_false hb2
  refine ab aa 5 rfl ?_
  refine ae ?_
  exact aD.bB 9 rfl rfl (by first|(simp [hb2];done)|(simp_all;done)|(exfalso;simp_all;done)|(simp_all;omega)) rfl
 refine ag rfl (fun hc3=>?_) (fun hc3=>?_)
 ·
  have hc3':=hc3;try simp only [bd,bF] at hc3'
  refine ad aa 3 rfl ?_
  refine aq ?_
  refine an ?_
  refine cb 2 1 80 4 rfl rfl rfl ?_
  have hX:dX s seen=((⟨0,([]:List bl)⟩:bU),3):=by
    unfold dX;rw [if_neg (by omega),if_pos (by omega)];rfl
  rw [hX] at hr;clear hX
  simp only [Prod.mk.injEq] at hr;obtain ⟨rfl,rfl⟩:=hr
  refine aj aa [4,2] 1 rfl rfl rfl rfl rfl rfl ?_ ?_
  all_goals first|rfl|(simp [ar];done)|(simp [ar];omega)
 have hc3':=hc3;try simp only [bd,bF] at hc3'
 refine aN ?_
 refine af ?_
 obtain ⟨r1,hr1⟩:∃ (r1:List bl),dE (came seen) s.kept=r1:=⟨_,rfl⟩
 refine bb [2,3,4] [2,1,0] mixed rfl rfl ?_
 refine aA (kn:=[]) aa 4 rfl trivial ?_
 refine aS (n':=5) [27] [] rfl rfl (.inl ⟨(ah.plain rfl),aH.cast (bI 4 (ln s.kept (by first|omega|(simp;done)|(simp;omega))) BP rfl rfl ⟨⟨_,rfl,.c (.d _)⟩,trivial⟩ trivial ⟨(fun _ _ _ _=>trivial),trivial⟩ rfl rfl rfl rfl) rfl⟩) rfl ?_
 refine aS (n':=5) [3] [] rfl rfl (.inl ⟨(ah.plain rfl),aH.cast (zo (ks:=[1]) rfl ⟨rfl,trivial⟩) rfl⟩) rfl ?_
 refine aS (n':=6) [28,29] [1,4] rfl rfl (.inl ⟨(ah.plain rfl),aH.cast (uX (aY [4]) (aY [5]) [1] (pt s.kept 107 ([[(dI seen)]]) (came seen) (fun x=>CE x seen) EV r1 hr1) EW rfl rfl ⟨⟨_,rfl,.inl ⟨rfl,rfl⟩⟩,⟨_,rfl,.inr (.c (.fn ⟨⟨by decide,_,rfl⟩,trivial⟩))⟩,trivial⟩ ⟨rfl,trivial⟩ rfl rfl rfl rfl rfl rfl rfl rfl trivial ⟨(tE _),trivial⟩ rfl rfl rfl rfl) rfl⟩) rfl ?_
 refine aA (kn:=[]) aa 1 rfl trivial ?_
 refine bx [5,2,1,0] rfl rfl rfl rfl (by kernel_rfl) ?_
 refine ab aa 2 rfl ?_
 refine ae ?_
 refine aq ?_
 have hX:dX s seen=((⟨s.bV,r1⟩:bU),0):=by
   unfold dX;rw [if_neg (by omega),if_neg (by omega),hr1]
 rw [hX] at hr;clear hX
 simp only [Prod.mk.injEq] at hr;obtain ⟨rfl,rfl⟩:=hr
 refine aj aa [5,2] 1 rfl rfl rfl rfl rfl rfl ?_ ?_
 all_goals first|rfl|(simp [ar];done)|(simp [ar];omega)


theorem FH {a b c d x:Int} {q:Nat} (h:[a,b,c,d][q]?=some x):(q=0/\x=a)\/(q=1/\x=b)\/(q=2/\x=c)\/(q=3/\x=d):=by
  match q with
  |0=>left;simp_all
  |1=>right;left;simp_all
  |2=>right;right;left;simp_all
  |3=>right;right;right;simp_all
  |q+4=>simp at h

theorem oO (a:bz) (e:Int) (hr:bG a=e):Fn Try.prog 26 [(.g [(cI a.aK),(cI a.ay),(cI a.sum),(cI a.captured),(cI a.bw),(cI a.bm),(cI a.cP),(cB a.shut)])] (.v (.c (cI e))) []:=by
 refine Fn.mk' 71 [(0,(aG [(cI a.aK),(cI a.ay),(cI a.sum),(cI a.captured),(cI a.bw),(cI a.bm),(cI a.cP),(cB a.shut)]))] Try.func26 rfl rfl rfl rfl ?_
 intro W0 T0
 refine ad aa 2 rfl ?_
 refine af ?_
 refine az aa 8 rfl ?_
 refine aL 2 [1,0] (dD (ys:=[(0,(.c (cI a.sum))),(1,(.c (cI a.captured))),(2,(.c (cI a.bw))),(3,(.c (cI a.bm)))]) (rows:=([a.sum,a.captured,a.bw,a.bm]).map rI) 1 mf rfl (by decide) ⟨⟨rfl,rfl⟩,⟨rfl,rfl⟩,⟨rfl,rfl⟩,⟨rfl,rfl⟩,trivial⟩ rfl rfl rfl rfl) rfl ?_
 refine ax (dk rfl rfl rfl rfl rfl Try.underlying30) rfl ?_
 refine ab aa 1 rfl ?_
 refine ae ?_
 refine aV ?_
 refine cu (β:=Nat) (fun (q:Nat)=>⟨[(1,(aC (.p 0 0 0 0))),(13,(aC (.s 1 0 1 4))),(14,(aI 4)),(15,(aI (↑q:Int)))],[(1,(dx ([a.sum,a.captured,a.bw,a.bm]))),(0,(.box 67 [(cI a.aK),(cI a.ay),(cI a.sum),(cI a.captured),(cI a.bw),(cI a.bm),(cI a.cP),(cB a.shut)]))],2⟩) (fun (q:Nat)=>q<=4/\(0 < q->0<=a.sum/\a.sum<=1000000)/\(1 < q->0<=a.captured/\a.captured<=1000000)/\(2 < q->0<=a.bw/\a.bw<=1000000)/\(3 < q->0<=a.bm/\a.bm<=1000000)) (fun (q:Nat)=>4 - q) 0 ?_ ?_ ?_
 ·exact ⟨by omega,by omega,by omega,by omega,by omega⟩
 ·exact aD.bZ id (by refine ⟨?_,?_,?_,?_,trivial⟩<;>first|rfl|(simp only [bq];done)|(congr 3;omega)|(congr 4;omega)|(simp only [br];rfl)) (by refine ⟨?_,?_,trivial⟩<;>first|rfl|(simp only [bq];done)|(congr 3;omega)|(congr 4;omega)|(simp only [br];rfl)) rfl
 rintro q ⟨hi0_0,hi0_1,hi0_2,hi0_3,hi0_4⟩
 refine ad aa 1 rfl ?_
 refine af ?_
 refine ag rfl (fun hc1=>?_) (fun hc1=>?_)
 ·
  have hc1':=of_decide_eq_true hc1
  refine aN ?_
  refine af ?_
  refine aV ?_
  refine eM ?_
  refine ax (bo (i:=q) rfl rfl rfl Try.underlying30 fT (by first|omega|(simp;done)|(simp;omega)) (by first|omega|(simp;done)|(simp;omega))) rfl ?_
  obtain ⟨x1,hx1⟩:=bY (xs:=([a.sum,a.captured,a.bw,a.bm]:List Int)) (i:=q) (by first|omega|(simp;done)|(simp;omega))
  have hx1v:=FH hx1
  refine ax (eD rfl rfl rfl Try.underlying3 rfl (bf hx1) rfl) rfl ?_
  refine ab aa 1 rfl ?_
  refine ae ?_
  refine cm 24 ((decide (x1 < 0))||(decide (x1 > 1000000))) ?_ ?_
  ·
   refine aw ?_
   refine ab aa 3 rfl ?_
   refine bj (t:=21) rfl (fun hb2=>?_) (fun hb2=>?_)
   ·
    have hb2':=of_decide_eq_true hb2
    refine ab aa 3 rfl ?_
    refine ae ?_
    exact aD.bB 7 rfl rfl (by first|(simp [hb2];done)|(simp_all;done)|(exfalso;simp_all;done)|(simp_all;omega)) rfl
   have hb2':=of_decide_eq_false hb2
   refine ab aa 3 rfl ?_
   refine ae ?_
   exact aD.bB 7 rfl rfl (by first|(simp [hb2];done)|(simp_all;done)|(exfalso;simp_all;done)|(simp_all;omega)) rfl
  refine ag rfl (fun hc3=>?_) (fun hc3=>?_)
  ·
   have hc3':=hc3;try simp only [bd,bF] at hc3'
   refine ad aa 1 rfl ?_
   refine aq ?_
   refine bg ?_
   refine an ?_
   refine an ?_
   refine bg ?_
   refine an ?_
   have hX:bG a=3:=by
     (unfold bG;try dsimp only);(repeat' split)<;>first|rfl|omega|(exfalso;omega)|(subst_vars;rfl)|(simp_all;done)|(simp_all;omega)
   rw [hX] at hr;clear hX
   subst hr
   refine aj aa [] 0 rfl rfl rfl rfl rfl rfl ?_ ?_
   all_goals first|rfl|(simp [ar];done)|(simp [ar];omega)
  have hc3':=hc3;try simp only [bd,bF] at hc3'
  refine cW ?_
  refine bn ?_
  refine then_ok ?_
  refine aw ?_
  refine ax (aJ rfl rfl rfl (aE (by first|omega|(simp;done)|(simp;omega)))) rfl ?_
  refine ab aa 1 rfl ?_
  refine ae ?_
  refine ⟨q+1,⟨by omega,by omega,by omega,by omega,by omega⟩,by first|omega|(simp;done)|(simp;omega),aD.bZ id (by refine ⟨?_,?_,?_,?_,trivial⟩<;>first|rfl|(simp only [bq];done)|(congr 3;omega)|(congr 4;omega)|(simp only [br];rfl)) (by refine ⟨?_,?_,trivial⟩<;>first|rfl|(simp only [bq];done)|(congr 3;omega)|(congr 4;omega)|(simp only [br];rfl)) rfl⟩
 have hc1':=of_decide_eq_false hc1
 refine cp ?_
 refine aP ?_
 refine aP ?_
 refine bP ?_
 refine then_ok ?_
 refine af ?_
 refine aV ?_
 refine cm 26 ((((((decide (a.aK < 0))||(decide (a.aK>=8)))||(decide (a.ay < 0)))||(decide (a.ay>=8)))||(decide (a.cP < 0)))||(decide (a.cP > 1000100))) ?_ ?_
 ·
  refine aw ?_
  refine ab aa 4 rfl ?_
  refine bj (t:=30) rfl (fun hb4=>?_) (fun hb4=>?_)
  ·
   have hb4':=of_decide_eq_true hb4
   refine ab aa 25 rfl ?_
   refine ae ?_
   exact aD.bB 30 rfl rfl (by first|(simp [hb4];done)|(simp_all;done)|(exfalso;simp_all;done)|(simp_all;omega)) rfl
  have hb4':=of_decide_eq_false hb4
  refine ab aa 5 rfl ?_
  refine bj (t:=35) rfl (fun hb5=>?_) (fun hb5=>?_)
  ·
   have hb5':=of_decide_eq_true hb5
   refine ab aa 20 rfl ?_
   refine ae ?_
   exact aD.bB 31 rfl rfl (by first|(simp [hb4,hb5];done)|(simp_all;done)|(exfalso;simp_all;done)|(simp_all;omega)) rfl
  have hb5':=of_decide_eq_false hb5
  refine ab aa 5 rfl ?_
  refine bj (t:=40) rfl (fun hb6=>?_) (fun hb6=>?_)
  ·
   have hb6':=of_decide_eq_true hb6
   refine ab aa 15 rfl ?_
   refine ae ?_
   exact aD.bB 32 rfl rfl (by first|(simp [hb4,hb5,hb6];done)|(simp_all;done)|(exfalso;simp_all;done)|(simp_all;omega)) rfl
  have hb6':=of_decide_eq_false hb6
  refine ab aa 5 rfl ?_
  refine bj (t:=45) rfl (fun hb7=>?_) (fun hb7=>?_)
  ·
   have hb7':=of_decide_eq_true hb7
   refine ab aa 10 rfl ?_
   refine ae ?_
   exact aD.bB 33 rfl rfl (by first|(simp [hb4,hb5,hb6,hb7];done)|(simp_all;done)|(exfalso;simp_all;done)|(simp_all;omega)) rfl
  have hb7':=of_decide_eq_false hb7
  refine ab aa 5 rfl ?_
  refine bj (t:=50) rfl (fun hb8=>?_) (fun hb8=>?_)
  ·
   have hb8':=of_decide_eq_true hb8
   refine ab aa 5 rfl ?_
   refine ae ?_
   exact aD.bB 34 rfl rfl (by first|(simp [hb4,hb5,hb6,hb7,hb8];done)|(simp_all;done)|(exfalso;simp_all;done)|(simp_all;omega)) rfl
  have hb8':=of_decide_eq_false hb8
  refine ab aa 5 rfl ?_
  refine ae ?_
  exact aD.bB 34 rfl rfl (by first|(simp [hb4,hb5,hb6,hb7,hb8];done)|(simp_all;done)|(exfalso;simp_all;done)|(simp_all;omega)) rfl
 refine ag rfl (fun hc9=>?_) (fun hc9=>?_)
 ·
  have hc9':=hc9;try simp only [bd,bF] at hc9'
  refine ad aa 1 rfl ?_
  refine aq ?_
  refine bg ?_
  refine an ?_
  have hX:bG a=3:=by
    (unfold bG;try dsimp only);(repeat' split)<;>first|rfl|omega|(exfalso;omega)|(subst_vars;rfl)|(simp_all;done)|(simp_all;omega)
  rw [hX] at hr;clear hX
  subst hr
  refine aj aa [] 0 rfl rfl rfl rfl rfl rfl ?_ ?_
  all_goals first|rfl|(simp [ar];done)|(simp [ar];omega)
 have hc9':=hc9;try simp only [bd,bF] at hc9'
 refine cm 55 ((decide (a.captured > a.sum))||(decide ((a.bw+a.bm) > a.captured))) ?_ ?_
 ·
  refine aw ?_
  refine ab aa 6 rfl ?_
  refine bj (t:=61) rfl (fun hb10=>?_) (fun hb10=>?_)
  ·
   have hb10':=of_decide_eq_true hb10
   refine ab aa 10 rfl ?_
   refine ae ?_
   exact aD.bB 17 rfl rfl (by first|(simp [hb10];done)|(simp_all;done)|(exfalso;simp_all;done)|(simp_all;omega)) rfl
  have hb10':=of_decide_eq_false hb10
  refine ab aa 4 rfl ?_
  refine cJ (ah.yes rfl rfl rfl) (aJ rfl rfl rfl (aE (by first|omega|(simp;done)|(simp;omega)))) rfl rfl ?_
  refine ab aa 5 rfl ?_
  refine ae ?_
  exact aD.bB 17 rfl rfl (by first|(simp [hb10];done)|(simp_all;done)|(exfalso;simp_all;done)|(simp_all;omega)) rfl
 refine ag rfl (fun hc11=>?_) (fun hc11=>?_)
 ·
  have hc11':=hc11;try simp only [bd,bF] at hc11'
  refine ad aa 1 rfl ?_
  refine aq ?_
  refine bg ?_
  refine an ?_
  have hX:bG a=8:=by
    (unfold bG;try dsimp only);(repeat' split)<;>first|rfl|omega|(exfalso;omega)|(subst_vars;rfl)|(simp_all;done)|(simp_all;omega)
  rw [hX] at hr;clear hX
  subst hr
  refine aj aa [] 0 rfl rfl rfl rfl rfl rfl ?_ ?_
  all_goals first|rfl|(simp [ar];done)|(simp [ar];omega)
 have hc11':=hc11;try simp only [bd,bF] at hc11'
 refine cW ?_
 refine bn ?_
 refine then_ok ?_
 refine ad aa 1 rfl ?_
 refine aq ?_
 have hX:bG a=0:=by
   (unfold bG;try dsimp only);(repeat' split)<;>first|rfl|omega|(exfalso;omega)|(subst_vars;rfl)|(simp_all;done)|(simp_all;omega)
 rw [hX] at hr;clear hX
 subst hr
 refine aj aa [] 0 rfl rfl rfl rfl rfl rfl ?_ ?_
 all_goals first|rfl|(simp [ar];done)|(simp [ar];omega)
theorem rv (aK ay n time:Int) (b:bz) (e:Int) (hr:cZ aK ay n time=(b,e)):Fn Try.prog 79 [(.c (cI aK)),(.c (cI ay)),(.c (cI n)),(.c (cI time))] (.t [(.g [(cI b.aK),(cI b.ay),(cI b.sum),(cI b.captured),(cI b.bw),(cI b.bm),(cI b.cP),(cB b.shut)]),(.c (cI e))]) []:=by
 refine Fn.mk' 40 [(0,(aI aK)),(1,(aI ay)),(2,(aI n)),(3,(aI time))] Try.func79 rfl rfl rfl rfl ?_
 intro W0 T0
 refine ad aa 2 rfl ?_
 refine af ?_
 refine cm 25 ((((decide (n < 1))||(decide (n > 1000000)))||(decide (time < 0)))||(decide (time > 1000000))) ?_ ?_
 ·
  refine aw ?_
  refine ab aa 3 rfl ?_
  refine bj (t:=14) rfl (fun hb1=>?_) (fun hb1=>?_)
  ·
   have hb1':=of_decide_eq_true hb1
   refine ab aa 11 rfl ?_
   refine ae ?_
   exact aD.bB 15 rfl rfl (by first|(simp [hb1];done)|(simp_all;done)|(exfalso;simp_all;done)|(simp_all;omega)) rfl
  have hb1':=of_decide_eq_false hb1
  refine ab aa 4 rfl ?_
  refine bj (t:=18) rfl (fun hb2=>?_) (fun hb2=>?_)
  ·
   have hb2':=of_decide_eq_true hb2
   refine ab aa 7 rfl ?_
   refine ae ?_
   exact aD.bB 16 rfl rfl (by first|(simp [hb1,hb2];done)|(simp_all;done)|(exfalso;simp_all;done)|(simp_all;omega)) rfl
  have hb2':=of_decide_eq_false hb2
  refine ab aa 4 rfl ?_
  refine bj (t:=22) rfl (fun hb3=>?_) (fun hb3=>?_)
  ·
   have hb3':=of_decide_eq_true hb3
   refine ab aa 3 rfl ?_
   refine ae ?_
   exact aD.bB 17 rfl rfl (by first|(simp [hb1,hb2,hb3];done)|(simp_all;done)|(exfalso;simp_all;done)|(simp_all;omega)) rfl
  have hb3':=of_decide_eq_false hb3
  refine ab aa 3 rfl ?_
  refine ae ?_
  exact aD.bB 17 rfl rfl (by first|(simp [hb1,hb2,hb3];done)|(simp_all;done)|(exfalso;simp_all;done)|(simp_all;omega)) rfl
 refine ag rfl (fun hc4=>?_) (fun hc4=>?_)
 ·
  have hc4':=hc4;try simp only [bd,bF] at hc4'
  refine ad aa 3 rfl ?_
  refine aq ?_
  refine an ?_
  have hX:cZ aK ay n time=((⟨0,0,0,0,0,0,0,false⟩:bz),3):=by
    (try (unfold bG at hr0;dsimp only at hr0;(repeat' split at hr0)))<;>((unfold cZ;try dsimp only);(repeat' split)<;>first|rfl|omega|(exfalso;omega)|(subst_vars;rfl)|(simp_all;done)|(simp_all;omega))
  rw [hX] at hr;clear hX
  simp only [Prod.mk.injEq] at hr;obtain ⟨rfl,rfl⟩:=hr
  refine aj aa [0] 0 rfl rfl rfl rfl rfl rfl ?_ ?_
  all_goals first|rfl|(simp [ar];done)|(simp [ar];omega)
 have hc4':=hc4;try simp only [bd,bF] at hc4'
 refine aN ?_
 refine az aa 4 rfl ?_
 refine ax (aJ rfl rfl rfl (aE (by first|omega|(simp;done)|(simp;omega)))) rfl ?_
 refine ab aa 3 rfl ?_
 refine ae ?_
 refine af ?_
 refine az aa 1 rfl ?_
 obtain ⟨e0,hr0⟩:∃ (e0:Int),bG (⟨aK,ay,n,0,0,0,time+100,false⟩:bz)=e0:=⟨_,rfl⟩
 refine aL 2 [1,0] (bI 2 (oO (⟨aK,ay,n,0,0,0,time+100,false⟩:bz) e0 hr0) DS rfl rfl ⟨⟨_,rfl,.g ⟨.d _,.d _,.d _,.d _,.d _,.d _,.d _,.d _,trivial⟩⟩,trivial⟩ trivial trivial rfl rfl rfl rfl) rfl ?_
 refine ab aa 1 rfl ?_
 refine ae ?_
 refine ad aa 2 rfl ?_
 refine ag rfl (fun hc5=>?_) (fun hc5=>?_)
 ·
  have hc5':=of_decide_eq_true hc5
  refine ad aa 4 rfl ?_
  refine aq ?_
  refine an ?_
  have hX:cZ aK ay n time=((⟨0,0,0,0,0,0,0,false⟩:bz),e0):=by
    (try (unfold bG at hr0;dsimp only at hr0;(repeat' split at hr0)))<;>((unfold cZ;try dsimp only);(repeat' split)<;>first|rfl|omega|(exfalso;omega)|(subst_vars;rfl)|(simp_all;done)|(simp_all;omega))
  rw [hX] at hr;clear hX
  simp only [Prod.mk.injEq] at hr;obtain ⟨rfl,rfl⟩:=hr
  refine aj aa [0] 0 rfl rfl rfl rfl rfl rfl ?_ ?_
  all_goals first|rfl|(simp [ar];done)|(simp [ar];omega)
 have hc5':=of_decide_eq_false hc5
 refine aN ?_
 refine ad aa 3 rfl ?_
 refine aq ?_
 have hX:cZ aK ay n time=((⟨aK,ay,n,0,0,0,time+100,false⟩:bz),0):=by
   (try (unfold bG at hr0;dsimp only at hr0;(repeat' split at hr0)))<;>((unfold cZ;try dsimp only);(repeat' split)<;>first|rfl|omega|(exfalso;omega)|(subst_vars;rfl)|(simp_all;done)|(simp_all;omega))
 rw [hX] at hr;clear hX
 simp only [Prod.mk.injEq] at hr;obtain ⟨rfl,rfl⟩:=hr
 refine aj aa [0] 0 rfl rfl rfl rfl rfl rfl ?_ ?_
 all_goals first|rfl|(simp [ar];done)|(simp [ar];omega)
end Go.Proofs.Ytegepioggeggaaa.Dev
