/- A part of the proof: Pace5, Card1, Card2, Card3, Del2, Post1, Post2, Post3, Auth1. No condition. -/
import Derived.Test.YtegepioggeggaaaD07
set_option linter.unusedVariables false
set_option linter.unusedSimpArgs false
set_option maxHeartbeats 1000000
set_option maxRecDepth 100000
namespace Go.Proofs.Ytegepioggeggaaa.Dev
open Go.RowKit

theorem zq (p:eI) (l:List db) (x:db) (r:List db) (e:Int) (hr:eK p l x=(r,e)):Fn Try.prog 100 [(.g [(cI p.cQ),(cI p.count),(cI p.sum)]),(.c (fB l)),(.g [(cI x.time),(cI x.sum)])] (.t [(.c (.s 0 0 2 r.length)),(.c (cI e))]) [(0,(po r))]:=by
 refine Fn.mk' 87 [(0,(aG [(cI p.cQ),(cI p.count),(cI p.sum)])),(1,(aC (fB l))),(2,(aG [(cI x.time),(cI x.sum)]))] Try.func100 rfl rfl rfl rfl ?_
 intro W0 T0
 refine dt 1 rfl (fun hlen1=>?_)
 have hrp:=@oB p
 have hru:(fP l).err=0->l.length<=30:=fun h=>(jY h).1
 have hrx:(fP [x]).err=0->0<=x.time/\x.time<=1000000/\0<=x.sum/\x.sum<=1000000:=fun h=>(@jY [x] h).2 x (by simp)
 refine ae aa 4 rfl ?_
 refine ag ?_
 refine aF aa 1 rfl ?_
 obtain ⟨e0,hr0⟩:∃ (e0:Int),fC p=e0:=⟨_,rfl⟩
 refine aQ 2 [1,0] (cb 2 (lA p e0 hr0) CO rfl rfl ⟨⟨_,rfl,.g ⟨.d _,.d _,.d _,trivial⟩⟩,trivial⟩ trivial trivial rfl rfl rfl rfl) rfl ?_
 refine ad aa 1 rfl ?_
 refine af ?_
 refine ae aa 2 rfl ?_
 refine aj rfl (fun hc1=>?_) (fun hc1=>?_)
 ·
  have hc1':=of_decide_eq_true hc1
  refine ae aa 3 rfl ?_
  refine az ?_
  refine an ?_
  refine cS (aH.nil 6 125 2 (by decide) rfl) ?_
  have hX:eK p l x=(([]:List db),e0):=by
    unfold eK;rw [if_pos (by omega),hr0]
  rw [hX] at hr;clear hX
  simp only [Prod.mk.injEq] at hr;obtain ⟨rfl,rfl⟩:=hr
  refine al aa [2] 1 rfl rfl rfl rfl rfl rfl ?_ ?_
  all_goals first|rfl|(simp [aw];done)|(simp [aw];omega)
 have hc1':=of_decide_eq_false hc1
 refine aS ?_
 refine ag ?_
 refine aF aa 2 rfl ?_
 refine aQ 3 [2,1,0] (dV (ys:=[(0,(.g [(cI x.time),(cI x.sum)]))]) (rows:=([x]).map ix) 2 ow rfl (by decide) ⟨⟨rfl,rfl⟩,trivial⟩ rfl rfl rfl rfl) rfl ?_
 refine uG (s':=[(0,(aG [(cI p.cQ),(cI p.count),(cI p.sum)])),(1,(aC (fB l))),(2,(aG [(cI x.time),(cI x.sum)])),(3,(aC (.p 0 0 0 0))),(5,(aC (.p 1 0 0 0))),(6,(aC cN)),(7,(aI 0)),(17,(aG [(cI p.cQ),(cI p.count),(cI p.sum)])),(18,(aI e0)),(8,(aI e0)),(19,(aI e0)),(20,(aB (decide (¬e0=0)))),(22,(aC (fB l))),(23,(aG [(cI x.time),(cI x.sum)])),(24,(aC (fB ([x]))))]) (h':=[(1,(.box 125 [(cI x.time),(cI x.sum)])),(0,(.box 58 [(cI p.cQ),(cI p.count),(cI p.sum)]))]) 2 rfl ⟨⟨_,rfl,.inl ⟨rfl,rfl⟩⟩,⟨_,rfl,.inl ⟨rfl,rfl⟩⟩,⟨_,rfl,.inl ⟨rfl,rfl⟩⟩,⟨_,rfl,.inl ⟨rfl,rfl⟩⟩,⟨_,rfl,.inl ⟨rfl,rfl⟩⟩,⟨_,rfl,.inl ⟨rfl,rfl⟩⟩,⟨_,rfl,.inl ⟨rfl,rfl⟩⟩,⟨_,rfl,.inl ⟨rfl,rfl⟩⟩,⟨_,rfl,.inl ⟨rfl,rfl⟩⟩,⟨_,rfl,.inl ⟨rfl,rfl⟩⟩,⟨_,rfl,.inl ⟨rfl,rfl⟩⟩,⟨_,rfl,.inl ⟨rfl,rfl⟩⟩,⟨_,rfl,.inl ⟨rfl,rfl⟩⟩,⟨_,rfl,.inl ⟨rfl,rfl⟩⟩,⟨_,rfl,.inr ⟨_,_,rfl,rfl,.s rfl (by decide) (by first|omega|(simp;done)|(simp;omega))⟩⟩,trivial⟩ ⟨rfl,rfl,trivial⟩ rfl ?_
 refine aQ 4 [3,1,0] (dV (ys:=[(0,(.c (fB l))),(1,(.c (fB ([x]))))]) (rows:=([l,[x]]).map uS) 3 GA rfl (by decide) ⟨⟨rfl,rfl⟩,⟨rfl,rfl⟩,trivial⟩ rfl rfl rfl rfl) rfl ?_
 refine aA (dz rfl rfl rfl rfl rfl Try.underlying181) rfl ?_
 refine ad aa 1 rfl ?_
 refine af ?_
 refine aY ?_
 refine cE (β:=Nat) (fun (q:Nat)=>⟨[(1,(aC (fB l))),(3,(aC (.p 0 0 0 0))),(5,(aC (.p 1 0 0 0))),(25,(aC (.s 3 0 1 2))),(26,(aI 2)),(27,(aI (↑q:Int)))],[(3,(.arr 59 1 (([l,[x]]).map uS))),(1,(.box 125 [(cI x.time),(cI x.sum)])),(0,(.box 58 [(cI p.cQ),(cI p.count),(cI p.sum)]))],4⟩) (fun (q:Nat)=>q<=2/\(0 < q->(fP l).err=0)/\(1 < q->(fP [x]).err=0)) (fun (q:Nat)=>2 - q) 0 ?_ ?_ ?_
 ·exact ⟨by omega,by omega,by omega⟩
 ·exact aH.ca id (by refine ⟨?_,?_,?_,?_,?_,?_,trivial⟩<;>first|rfl|(simp only [bu];done)|(congr 3;omega)|(congr 4;omega)|(simp only [bw];rfl)) (by refine ⟨?_,?_,?_,trivial⟩<;>first|rfl|(simp only [bu];done)|(congr 3;omega)|(congr 4;omega)|(simp only [bw];rfl)) rfl
 rintro q ⟨hi0_0,hi0_1,hi0_2⟩
 refine ae aa 1 rfl ?_
 refine ag ?_
 refine aj rfl (fun hc2=>?_) (fun hc2=>?_)
 ·
  have hc2':=of_decide_eq_true hc2
  refine aS ?_
  refine ag ?_
  refine aY ?_
  refine eR ?_
  refine aA (bz (i:=q) rfl rfl rfl Try.underlying181 Hz (by first|omega|(simp;done)|(simp;omega)) (by first|omega|(simp;done)|(simp;omega))) rfl ?_
  obtain ⟨x1,hx1⟩:=cf (xs:=([l,[x]]:List (List db))) (i:=q) (by first|omega|(simp;done)|(simp;omega))
  have hx1v:=Fl hx1
  refine aA (eS rfl rfl rfl Try.underlying59 rfl (bp hx1) rfl) rfl ?_
  refine ad aa 1 rfl ?_
  refine af ?_
  refine aF aa 1 rfl ?_
  obtain ⟨f1,hr1⟩:∃ (f1:cW),fP x1=f1:=⟨_,rfl⟩
  refine aQ 4 [3,1,0] (cb 4 (pe x1 f1 hr1) FT rfl rfl ⟨⟨_,rfl,.c (.d _)⟩,trivial⟩ ⟨trivial,trivial,trivial⟩ trivial rfl rfl rfl rfl) rfl ?_
  refine ad aa 2 rfl ?_
  refine af ?_
  refine ae aa 3 rfl ?_
  refine aj rfl (fun hc3=>?_) (fun hc3=>?_)
  ·
   have hc3':=of_decide_eq_true hc3
   refine ag ?_
   refine aX [1,3,5,25,26,27,11] [4,3,1,0] mixed rfl rfl ?_
   refine aD (kn:=[]) aa 4 rfl trivial ?_
   refine bA [4,3,1,0] rfl rfl rfl rfl (by kernel_rfl) ?_
   refine af ?_
   refine az ?_
   refine bc ?_
   refine an ?_
   refine an ?_
   refine bc ?_
   refine an ?_
   refine cS (aH.nil 6 125 2 (by decide) rfl) ?_
   have hX:eK p l x=(([]:List db),f1.err):=by
     unfold eK;rcases hx1v with ⟨hq,hx⟩|⟨hq,hx⟩<;>subst hx
     ·rw [if_neg (by omega),if_pos (by rw [hr1];omega),hr1]
     ·rw [if_neg (by omega),if_neg (by have:=hi0_1 (by omega);omega),if_pos (by rw [hr1];omega),hr1]
   rw [hX] at hr;clear hX
   simp only [Prod.mk.injEq] at hr;obtain ⟨rfl,rfl⟩:=hr
   refine al aa [5] 1 rfl rfl rfl rfl rfl rfl ?_ ?_
   all_goals first|rfl|(simp [aw];done)|(simp [aw];omega)
  have hc3':=of_decide_eq_false hc3
  refine da ?_
  refine bm ?_
  refine then_ok ?_
  refine ax ?_
  refine aA (aM rfl rfl rfl (aL (by first|omega|(simp;done)|(simp;omega)))) rfl ?_
  refine ad aa 1 rfl ?_
  refine af ?_
  refine ⟨q+1,⟨by omega,(fun h=>by rcases hx1v with ⟨hq,hx⟩|⟨hq,hx⟩<;>first|(exact hi0_1 (by omega))|(subst hx;rw [hr1];omega)),(fun h=>by rcases hx1v with ⟨hq,hx⟩|⟨hq,hx⟩<;>first|(exfalso;omega)|(subst hx;rw [hr1];omega))⟩,by first|omega|(simp;done)|(simp;omega),aH.ca id (by refine ⟨?_,?_,?_,?_,?_,?_,trivial⟩<;>first|rfl|(simp only [bu];done)|(congr 3;omega)|(congr 4;omega)|(simp only [bw];rfl)) (by refine ⟨?_,?_,?_,trivial⟩<;>first|rfl|(simp only [bu];done)|(congr 3;omega)|(congr 4;omega)|(simp only [bw];rfl)) rfl⟩
 have hc2':=of_decide_eq_false hc2
 refine cv ?_
 refine aU ?_
 refine aU ?_
 refine bS ?_
 refine then_ok ?_
 refine ag ?_
 refine aF aa 1 rfl ?_
 refine aA (cF rfl rfl rfl rfl rfl Try.underlying59) rfl ?_
 refine aA (aM rfl rfl rfl (aL (by first|omega|(simp;done)|(simp;omega)))) rfl ?_
 refine ad aa 1 rfl ?_
 refine af ?_
 refine ag ?_
 rcases Bool.eq_false_or_eq_true (decide (((↑l.length:Int) - 1)>=0)) with hb4|hb4
 ·
  have hb4':=of_decide_eq_true hb4
  obtain ⟨x1,hx1⟩:=cf (xs:=l) (i:=(l.length) - 1) (by first|omega|(simp;done)|(simp;omega))
  refine aX [1,3,5,25,26,27,12] [3,1,0] mixed rfl rfl ?_
  refine aD (kn:=[(43,true)]) aa 5 rfl ⟨hb4,trivial⟩ ?_
  refine aT (n':=4) [45,46,44] [] rfl rfl (.inl ⟨(ak.yes rfl rfl rfl),aK.cast (cD (i:=(l.length) - 1) rfl rfl rfl Try.underlying59 iP (by first|omega|(simp;done)|(simp;omega)) (bp hx1)) rfl⟩) rfl ?_
  refine aD (kn:=[]) aa 6 rfl trivial ?_
  refine bA [3,1,0] rfl rfl rfl rfl (by kernel_rfl) ?_
  refine af ?_
  refine aj rfl (fun hc5=>?_) (fun hc5=>?_)
  ·
   have hc5':=of_decide_eq_true hc5
   refine ae aa 2 rfl ?_
   refine az ?_
   refine an ?_
   refine cS (aH.nil 6 125 2 (by decide) rfl) ?_
   have hX:eK p l x=(([]:List db),2):=by
     unfold eK;rw [if_neg (by omega),if_neg (by have:=hi0_1 (by omega);omega),if_neg (by have:=hi0_2 (by omega);omega),if_pos (by rw [mU hx1,decide_eq_true_eq];omega)]
   rw [hX] at hr;clear hX
   simp only [Prod.mk.injEq] at hr;obtain ⟨rfl,rfl⟩:=hr
   refine al aa [4] 1 rfl rfl rfl rfl rfl rfl ?_ ?_
   all_goals first|rfl|(simp [aw];done)|(simp [aw];omega)
  have hc5':=of_decide_eq_false hc5
  refine aS ?_
  refine aF aa 4 rfl ?_
  obtain ⟨r2,hr2⟩:∃ (r2:List db),dN p l x.time=r2:=⟨_,rfl⟩
  refine aQ 5 [4,3,1,0] (cb 4 (nZ p l x.time (by first|assumption|omega|(have q1:=oB (hr2.trans (by omega));have q2:=uses1 (x:=x) (by simp_all);omega)) (by first|assumption|omega) r2 hr2) DI rfl rfl ⟨⟨_,rfl,.g ⟨.d _,.d _,.d _,trivial⟩⟩,⟨_,rfl,.c (.d _)⟩,⟨_,rfl,.c (.d _)⟩,trivial⟩ trivial ⟨(fun _ _ _ _=>trivial),trivial⟩ rfl rfl rfl rfl) rfl ?_
  refine ad aa 1 rfl ?_
  refine af ?_
  refine ae aa 3 rfl ?_
  refine ag ?_
  refine aF aa 1 rfl ?_
  refine aA (dz rfl rfl rfl rfl rfl Try.underlying59) rfl ?_
  refine ad aa 1 rfl ?_
  refine af ?_
  refine aY ?_
  refine cE (β:=Nat) (fun (k:Nat)=>⟨[(1,(aC (fB l))),(3,(aC (.p 0 0 0 0))),(5,(aC (.p 1 0 0 0))),(25,(aC (.s 3 0 1 2))),(26,(aI 2)),(27,(aI (↑q:Int))),(13,(aC (.s 4 0 2 r2.length))),(14,(aI (x.sum+iw ((r2).take k)))),(61,(aC (.s 4 0 2 r2.length))),(62,(aI (↑r2.length:Int))),(63,(aI (↑k:Int)))],[(4,(po r2)),(3,(.arr 59 1 (([l,[x]]).map uS))),(1,(.box 125 [(cI x.time),(cI x.sum)])),(0,(.box 58 [(cI p.cQ),(cI p.count),(cI p.sum)]))],5⟩) (fun (k:Nat)=>k<=(r2).length) (fun (k:Nat)=>(r2).length - k) 0 ?_ ?_ ?_
  ·exact (by omega)
  ·exact aH.ca id (by refine ⟨?_,?_,?_,?_,?_,?_,?_,?_,?_,?_,?_,trivial⟩<;>first|rfl|(simp only [bu];done)|(congr 3;omega)|(congr 4;omega)|(simp only [bw];rfl)|((rw [List.take_zero,iw,Int.add_zero];rfl))) (by refine ⟨?_,?_,?_,?_,trivial⟩<;>first|rfl|(simp only [bu];done)|(congr 3;omega)|(congr 4;omega)|(simp only [bw];rfl)) rfl
  rintro k hi1_0
  have hsb:=pW (p:=p) (l:=l) (t:=x.time) (k:=k) (hi0_1 (by omega))
  rw [hr2] at hsb
  have hrl:(r2).length<=30:=by rw [<-hr2];exact Nat.le_trans (oO _ _) (hru (hi0_1 (by omega)))
  refine ae aa 1 rfl ?_
  refine ag ?_
  refine aj rfl (fun hc6=>?_) (fun hc6=>?_)
  ·
   have hc6':=of_decide_eq_true hc6
   refine aS ?_
   refine ag ?_
   refine aY ?_
   refine eR ?_
   refine aA (bz (i:=k) rfl rfl rfl Try.underlying59 iP (by first|omega|(simp;done)|(simp;omega)) (by first|omega|(simp;done)|(simp;omega))) rfl ?_
   obtain ⟨x2,hx2⟩:=cf (xs:=r2) (i:=k) (by first|omega|(simp;done)|(simp;omega))
   have hx2v:=(jY (hi0_1 (by omega))).2 x2 (kD (hr2.symm▸List.mem_of_getElem? hx2:x2∈dN p l x.time))
   refine aA (dm rfl rfl rfl Try.underlying125 rfl iP (bp hx2) rfl) rfl ?_
   refine ad aa 2 rfl ?_
   refine af ?_
   refine ax ?_
   refine ad aa 3 rfl ?_
   refine aA (aM rfl rfl rfl (aL (by first|omega|(simp;done)|(simp;omega)))) rfl ?_
   refine ad aa 1 rfl ?_
   refine bZ ?_
   refine bm ?_
   refine then_ok ?_
   refine ax ?_
   refine aA (aM rfl rfl rfl (aL (by first|omega|(simp;done)|(simp;omega)))) rfl ?_
   refine ad aa 1 rfl ?_
   refine af ?_
   refine ⟨k+1,by first|omega|trivial,by first|omega|(simp;done)|(simp;omega),aH.ca id (by refine ⟨?_,?_,?_,?_,?_,?_,?_,?_,?_,?_,?_,trivial⟩<;>first|rfl|(simp only [bu];done)|(congr 3;omega)|(congr 4;omega)|(simp only [bw];rfl)|(first|(rw [gN hx2,kZ,<-Int.add_assoc];rfl)|(rw [gN hx1,kZ,<-Int.add_assoc];rfl))) (by refine ⟨?_,?_,?_,?_,trivial⟩<;>first|rfl|(simp only [bu];done)|(congr 3;omega)|(congr 4;omega)|(simp only [bw];rfl)) rfl⟩
  have hc6':=of_decide_eq_false hc6
  refine cv ?_
  refine aU ?_
  refine aU ?_
  refine bS ?_
  refine then_ok ?_
  refine ag ?_
  refine cw 82 ((decide ((↑r2.length:Int)>=p.count))||(decide ((x.sum+iw ((r2).take k)) > p.sum))) ?_ ?_
  ·
   refine ax ?_
   refine ad aa 1 rfl ?_
   refine aA (dz rfl rfl rfl rfl rfl Try.underlying59) rfl ?_
   refine ad aa 4 rfl ?_
   refine bE (t:=77) rfl (fun hb7=>?_) (fun hb7=>?_)
   ·
    have hb7':=of_decide_eq_true hb7
    refine ad aa 5 rfl ?_
    refine af ?_
    exact aH.bD 12 rfl rfl (by first|(simp [hb7];done)|(simp_all;done)|(exfalso;simp_all;done)|(simp_all;omega)) rfl
   have hb7':=of_decide_eq_false hb7
   refine ad aa 5 rfl ?_
   refine af ?_
   exact aH.bD 12 rfl rfl (by first|(simp [hb7];done)|(simp_all;done)|(exfalso;simp_all;done)|(simp_all;omega)) rfl
  refine aj rfl (fun hc8=>?_) (fun hc8=>?_)
  ·
   have hc8':=hc8;try simp only [br,bR] at hc8'
   refine ae aa 2 rfl ?_
   refine az ?_
   refine an ?_
   refine cS (aH.nil 6 125 2 (by decide) rfl) ?_
   have hX:eK p l x=(([]:List db),11):=by
     have hlate:ig l x.time=false:=by first|(rw [mU hx1];simp;omega)|(have:l=[]:=List.eq_nil_of_length_eq_zero (by omega);subst this;rfl)
     have hk:(r2).take k=r2:=List.take_of_length_le (by omega)
     rw [hk] at hc8'
     unfold eK;rw [if_neg (by omega),if_neg (by have:=hi0_1 (by omega);omega),if_neg (by have:=hi0_2 (by omega);omega),if_neg (by rw [hlate];simp),hr2,if_pos (by omega)]
   rw [hX] at hr;clear hX
   simp only [Prod.mk.injEq] at hr;obtain ⟨rfl,rfl⟩:=hr
   refine al aa [5] 1 rfl rfl rfl rfl rfl rfl ?_ ?_
   all_goals first|rfl|(simp [aw];done)|(simp [aw];omega)
  have hc8':=hc8;try simp only [br,bR] at hc8'
  refine aS ?_
  refine aF aa 2 rfl ?_
  refine aQ 6 [5,4,3,1,0] (dV (ys:=[(0,(.g [(cI x.time),(cI x.sum)]))]) (rows:=([x]).map ix) 5 ow rfl (by decide) ⟨⟨rfl,rfl⟩,trivial⟩ rfl rfl rfl rfl) rfl ?_
  refine aQ 7 [6,5,3,1,0] (dw (m:=1) (N:=r2.length+1) (k2:=6) (ys:=([x]).map ix) ow rfl rfl rfl rfl rfl rfl (by first|omega|(simp;done)|(simp;omega)) rfl (.s rfl (by first|omega|(simp;done)|(simp;omega))) (by first|omega|(simp;done)|(simp;omega)) (by first|omega|(simp;done)|(simp;omega)) fz (by decide) (by first|omega|(simp;done)|(simp;omega)) (by first|omega|(simp;done)|(simp;omega))) rfl ?_
  refine ad aa 2 rfl ?_
  refine af ?_
  refine az ?_
  have hX:eK p l x=(r2++([x]),0):=by
    have hlate:ig l x.time=false:=by first|(rw [mU hx1];simp;omega)|(have:l=[]:=List.eq_nil_of_length_eq_zero (by omega);subst this;rfl)
    have hk:(r2).take k=r2:=List.take_of_length_le (by omega)
    rw [hk] at hc8'
    unfold eK;rw [if_neg (by omega),if_neg (by have:=hi0_1 (by omega);omega),if_neg (by have:=hi0_2 (by omega);omega),if_neg (by rw [hlate];simp),hr2,if_neg (by omega)]
  rw [hX] at hr;clear hX
  simp only [Prod.mk.injEq] at hr;obtain ⟨rfl,rfl⟩:=hr
  refine al aa [6] 1 rfl rfl rfl rfl rfl rfl ?_ ?_
  all_goals first|rfl|(simp [aw];done)|(simp [aw];omega)
 have hb4':=of_decide_eq_false hb4
 refine aX [1,3,5,25,26,27,12] [3,1,0] mixed rfl rfl ?_
 refine aD (kn:=[(43,false)]) aa 12 rfl ⟨hb4,trivial⟩ ?_
 refine bA [3,1,0] rfl rfl rfl rfl (by kernel_rfl) ?_
 refine af ?_
 refine aj rfl (fun hno=>by cases hno) (fun _=>?_)
 refine aS ?_
 refine aF aa 4 rfl ?_
 obtain ⟨r3,hr3⟩:∃ (r3:List db),dN p l x.time=r3:=⟨_,rfl⟩
 refine aQ 5 [4,3,1,0] (cb 4 (nZ p l x.time (by first|assumption|omega|(have q1:=oB (hr2.trans (by omega));have q2:=uses1 (x:=x) (by simp_all);omega)) (by first|assumption|omega) r3 hr3) DI rfl rfl ⟨⟨_,rfl,.g ⟨.d _,.d _,.d _,trivial⟩⟩,⟨_,rfl,.c (.d _)⟩,⟨_,rfl,.c (.d _)⟩,trivial⟩ trivial ⟨(fun _ _ _ _=>trivial),trivial⟩ rfl rfl rfl rfl) rfl ?_
 refine ad aa 1 rfl ?_
 refine af ?_
 refine ae aa 3 rfl ?_
 refine ag ?_
 refine aF aa 1 rfl ?_
 refine aA (dz rfl rfl rfl rfl rfl Try.underlying59) rfl ?_
 refine ad aa 1 rfl ?_
 refine af ?_
 refine aY ?_
 refine cE (β:=Nat) (fun (k:Nat)=>⟨[(1,(aC (fB l))),(3,(aC (.p 0 0 0 0))),(5,(aC (.p 1 0 0 0))),(25,(aC (.s 3 0 1 2))),(26,(aI 2)),(27,(aI (↑q:Int))),(13,(aC (.s 4 0 2 r3.length))),(14,(aI (x.sum+iw ((r3).take k)))),(61,(aC (.s 4 0 2 r3.length))),(62,(aI (↑r3.length:Int))),(63,(aI (↑k:Int)))],[(4,(po r3)),(3,(.arr 59 1 (([l,[x]]).map uS))),(1,(.box 125 [(cI x.time),(cI x.sum)])),(0,(.box 58 [(cI p.cQ),(cI p.count),(cI p.sum)]))],5⟩) (fun (k:Nat)=>k<=(r3).length) (fun (k:Nat)=>(r3).length - k) 0 ?_ ?_ ?_
 ·exact (by omega)
 ·exact aH.ca id (by refine ⟨?_,?_,?_,?_,?_,?_,?_,?_,?_,?_,?_,trivial⟩<;>first|rfl|(simp only [bu];done)|(congr 3;omega)|(congr 4;omega)|(simp only [bw];rfl)|((rw [List.take_zero,iw,Int.add_zero];rfl))) (by refine ⟨?_,?_,?_,?_,trivial⟩<;>first|rfl|(simp only [bu];done)|(congr 3;omega)|(congr 4;omega)|(simp only [bw];rfl)) rfl
 rintro k hi1_0
 have hsb:=pW (p:=p) (l:=l) (t:=x.time) (k:=k) (hi0_1 (by omega))
 rw [hr3] at hsb
 have hrl:(r3).length<=30:=by rw [<-hr3];exact Nat.le_trans (oO _ _) (hru (hi0_1 (by omega)))
 refine ae aa 1 rfl ?_
 refine ag ?_
 refine aj rfl (fun hc10=>?_) (fun hc10=>?_)
 ·
  have hc10':=of_decide_eq_true hc10
  refine aS ?_
  refine ag ?_
  refine aY ?_
  refine eR ?_
  refine aA (bz (i:=k) rfl rfl rfl Try.underlying59 iP (by first|omega|(simp;done)|(simp;omega)) (by first|omega|(simp;done)|(simp;omega))) rfl ?_
  obtain ⟨x1,hx1⟩:=cf (xs:=r3) (i:=k) (by first|omega|(simp;done)|(simp;omega))
  have hx1v:=(jY (hi0_1 (by omega))).2 x1 (kD (hr3.symm▸List.mem_of_getElem? hx1:x1∈dN p l x.time))
  refine aA (dm rfl rfl rfl Try.underlying125 rfl iP (bp hx1) rfl) rfl ?_
  refine ad aa 2 rfl ?_
  refine af ?_
  refine ax ?_
  refine ad aa 3 rfl ?_
  refine aA (aM rfl rfl rfl (aL (by first|omega|(simp;done)|(simp;omega)))) rfl ?_
  refine ad aa 1 rfl ?_
  refine bZ ?_
  refine bm ?_
  refine then_ok ?_
  refine ax ?_
  refine aA (aM rfl rfl rfl (aL (by first|omega|(simp;done)|(simp;omega)))) rfl ?_
  refine ad aa 1 rfl ?_
  refine af ?_
  refine ⟨k+1,by first|omega|trivial,by first|omega|(simp;done)|(simp;omega),aH.ca id (by refine ⟨?_,?_,?_,?_,?_,?_,?_,?_,?_,?_,?_,trivial⟩<;>first|rfl|(simp only [bu];done)|(congr 3;omega)|(congr 4;omega)|(simp only [bw];rfl)|(first|(rw [gN hx2,kZ,<-Int.add_assoc];rfl)|(rw [gN hx1,kZ,<-Int.add_assoc];rfl))) (by refine ⟨?_,?_,?_,?_,trivial⟩<;>first|rfl|(simp only [bu];done)|(congr 3;omega)|(congr 4;omega)|(simp only [bw];rfl)) rfl⟩
 have hc10':=of_decide_eq_false hc10
 refine cv ?_
 refine aU ?_
 refine aU ?_
 refine bS ?_
 refine then_ok ?_
 refine ag ?_
 refine cw 82 ((decide ((↑r3.length:Int)>=p.count))||(decide ((x.sum+iw ((r3).take k)) > p.sum))) ?_ ?_
 ·
  refine ax ?_
  refine ad aa 1 rfl ?_
  refine aA (dz rfl rfl rfl rfl rfl Try.underlying59) rfl ?_
  refine ad aa 4 rfl ?_
  refine bE (t:=77) rfl (fun hb11=>?_) (fun hb11=>?_)
  ·
   have hb11':=of_decide_eq_true hb11
   refine ad aa 5 rfl ?_
   refine af ?_
   exact aH.bD 12 rfl rfl (by first|(simp [hb11];done)|(simp_all;done)|(exfalso;simp_all;done)|(simp_all;omega)) rfl
  have hb11':=of_decide_eq_false hb11
  refine ad aa 5 rfl ?_
  refine af ?_
  exact aH.bD 12 rfl rfl (by first|(simp [hb11];done)|(simp_all;done)|(exfalso;simp_all;done)|(simp_all;omega)) rfl
 refine aj rfl (fun hc12=>?_) (fun hc12=>?_)
 ·
  have hc12':=hc12;try simp only [br,bR] at hc12'
  refine ae aa 2 rfl ?_
  refine az ?_
  refine an ?_
  refine cS (aH.nil 6 125 2 (by decide) rfl) ?_
  have hX:eK p l x=(([]:List db),11):=by
    have hlate:ig l x.time=false:=by first|(rw [mU hx1];simp;omega)|(have:l=[]:=List.eq_nil_of_length_eq_zero (by omega);subst this;rfl)
    have hk:(r3).take k=r3:=List.take_of_length_le (by omega)
    rw [hk] at hc12'
    unfold eK;rw [if_neg (by omega),if_neg (by have:=hi0_1 (by omega);omega),if_neg (by have:=hi0_2 (by omega);omega),if_neg (by rw [hlate];simp),hr3,if_pos (by omega)]
  rw [hX] at hr;clear hX
  simp only [Prod.mk.injEq] at hr;obtain ⟨rfl,rfl⟩:=hr
  refine al aa [5] 1 rfl rfl rfl rfl rfl rfl ?_ ?_
  all_goals first|rfl|(simp [aw];done)|(simp [aw];omega)
 have hc12':=hc12;try simp only [br,bR] at hc12'
 refine aS ?_
 refine aF aa 2 rfl ?_
 refine aQ 6 [5,4,3,1,0] (dV (ys:=[(0,(.g [(cI x.time),(cI x.sum)]))]) (rows:=([x]).map ix) 5 ow rfl (by decide) ⟨⟨rfl,rfl⟩,trivial⟩ rfl rfl rfl rfl) rfl ?_
 refine aQ 7 [6,5,3,1,0] (dw (m:=1) (N:=r3.length+1) (k2:=6) (ys:=([x]).map ix) ow rfl rfl rfl rfl rfl rfl (by first|omega|(simp;done)|(simp;omega)) rfl (.s rfl (by first|omega|(simp;done)|(simp;omega))) (by first|omega|(simp;done)|(simp;omega)) (by first|omega|(simp;done)|(simp;omega)) fz (by decide) (by first|omega|(simp;done)|(simp;omega)) (by first|omega|(simp;done)|(simp;omega))) rfl ?_
 refine ad aa 2 rfl ?_
 refine af ?_
 refine az ?_
 have hX:eK p l x=(r3++([x]),0):=by
   have hlate:ig l x.time=false:=by first|(rw [mU hx1];simp;omega)|(have:l=[]:=List.eq_nil_of_length_eq_zero (by omega);subst this;rfl)
   have hk:(r3).take k=r3:=List.take_of_length_le (by omega)
   rw [hk] at hc12'
   unfold eK;rw [if_neg (by omega),if_neg (by have:=hi0_1 (by omega);omega),if_neg (by have:=hi0_2 (by omega);omega),if_neg (by rw [hlate];simp),hr3,if_neg (by omega)]
 rw [hX] at hr;clear hX
 simp only [Prod.mk.injEq] at hr;obtain ⟨rfl,rfl⟩:=hr
 refine al aa [6] 1 rfl rfl rfl rfl rfl rfl ?_ ?_
 all_goals first|rfl|(simp [aw];done)|(simp [aw];omega)

theorem km (c:bI) (e:Int) (hr:cX c=e):Fn Try.prog 28 [(.g [(cI c.bN),(cI c.held),(cI c.cq.cQ),(cI c.cq.count),(cI c.cq.sum),(fB c.cY)])] (.v (.c (cI e))) []:=by
 refine Fn.mk' 32 [(0,(aG [(cI c.bN),(cI c.held),(cI c.cq.cQ),(cI c.cq.count),(cI c.cq.sum),(fB c.cY)]))] Try.func28 rfl rfl rfl rfl ?_
 intro W0 T0
 refine fr 0 5 rfl rfl (fun hlen0_5=>?_)
 refine ae aa 2 rfl ?_
 refine ag ?_
 refine cw 21 ((((decide (c.bN < (-1000000000000)))||(decide (c.bN > 1000000000000)))||(decide (c.held < 0)))||(decide (c.held > 1000000000000))) ?_ ?_
 ·
  refine ax ?_
  refine ad aa 4 rfl ?_
  refine bE (t:=7) rfl (fun hb1=>?_) (fun hb1=>?_)
  ·
   have hb1':=of_decide_eq_true hb1
   refine ad aa 14 rfl ?_
   refine af ?_
   exact aH.bD 19 rfl rfl (by first|(simp [hb1];done)|(simp_all;done)|(exfalso;simp_all;done)|(simp_all;omega)) rfl
  have hb1':=of_decide_eq_false hb1
  refine ad aa 5 rfl ?_
  refine bE (t:=12) rfl (fun hb2=>?_) (fun hb2=>?_)
  ·
   have hb2':=of_decide_eq_true hb2
   refine ad aa 9 rfl ?_
   refine af ?_
   exact aH.bD 20 rfl rfl (by first|(simp [hb1,hb2];done)|(simp_all;done)|(exfalso;simp_all;done)|(simp_all;omega)) rfl
  have hb2':=of_decide_eq_false hb2
  refine ad aa 5 rfl ?_
  refine bE (t:=17) rfl (fun hb3=>?_) (fun hb3=>?_)
  ·
   have hb3':=of_decide_eq_true hb3
   refine ad aa 4 rfl ?_
   refine af ?_
   exact aH.bD 21 rfl rfl (by first|(simp [hb1,hb2,hb3];done)|(simp_all;done)|(exfalso;simp_all;done)|(simp_all;omega)) rfl
  have hb3':=of_decide_eq_false hb3
  refine ad aa 4 rfl ?_
  refine af ?_
  exact aH.bD 21 rfl rfl (by first|(simp [hb1,hb2,hb3];done)|(simp_all;done)|(exfalso;simp_all;done)|(simp_all;omega)) rfl
 refine aj rfl (fun hc4=>?_) (fun hc4=>?_)
 ·
  have hc4':=hc4;try simp only [br,bR] at hc4'
  refine ae aa 1 rfl ?_
  refine az ?_
  refine an ?_
  have hX:cX c=3:=by
    unfold cX;rw [if_pos (by omega)]
  rw [hX] at hr;clear hX
  subst hr
  refine al aa [] 0 rfl rfl rfl rfl rfl rfl ?_ ?_
  all_goals first|rfl|(simp [aw];done)|(simp [aw];omega)
 have hc4':=hc4;try simp only [br,bR] at hc4'
 refine aS ?_
 refine ag ?_
 refine aF aa 2 rfl ?_
 obtain ⟨e0,hr0⟩:∃ (e0:Int),fC c.cq=e0:=⟨_,rfl⟩
 refine aQ 1 [0] (cb 1 (lA c.cq e0 hr0) CO rfl rfl ⟨⟨_,rfl,.g ⟨.d _,.d _,.d _,trivial⟩⟩,trivial⟩ trivial trivial rfl rfl rfl rfl) rfl ?_
 refine ad aa 1 rfl ?_
 refine af ?_
 refine ae aa 2 rfl ?_
 refine aj rfl (fun hc5=>?_) (fun hc5=>?_)
 ·
  have hc5':=of_decide_eq_true hc5
  refine ae aa 2 rfl ?_
  refine az ?_
  refine an ?_
  have hX:cX c=e0:=by
    unfold cX;rw [if_neg (by omega),if_pos (by omega),hr0]
  rw [hX] at hr;clear hX
  subst hr
  refine al aa [] 0 rfl rfl rfl rfl rfl rfl ?_ ?_
  all_goals first|rfl|(simp [aw];done)|(simp [aw];omega)
 have hc5':=of_decide_eq_false hc5
 refine aS ?_
 refine aF aa 2 rfl ?_
 obtain ⟨f1,hr1⟩:∃ (f1:cW),fP c.cY=f1:=⟨_,rfl⟩
 refine aQ 1 [0] (cb 1 (pe c.cY f1 hr1) FT rfl rfl ⟨⟨_,rfl,.c (.d _)⟩,trivial⟩ ⟨trivial,trivial,trivial⟩ trivial rfl rfl rfl rfl) rfl ?_
 refine aA (CD rfl rfl Try.underlying50 rfl Try.underlying48 rfl rfl) rfl ?_
 refine ad aa 1 rfl ?_
 refine af ?_
 refine az ?_
 have hX:cX c=f1.err:=by
   unfold cX;rw [if_neg (by omega),if_neg (by omega),hr1]
 rw [hX] at hr;clear hX
 subst hr
 refine al aa [] 0 rfl rfl rfl rfl rfl rfl ?_ ?_
 all_goals first|rfl|(simp [aw];done)|(simp [aw];omega)
theorem qx (c:bI) (hb:-9223372036854775808<=c.bN - c.held/\c.bN - c.held<=9223372036854775807):Fn Try.prog 24 [(.g [(cI c.bN),(cI c.held),(cI c.cq.cQ),(cI c.cq.count),(cI c.cq.sum),(fB c.cY)])] (aI (c.bN - c.held)) []:=by
 refine Fn.mk' 8 [(0,(aG [(cI c.bN),(cI c.held),(cI c.cq.cQ),(cI c.cq.count),(cI c.cq.sum),(fB c.cY)]))] Try.func24 rfl rfl rfl rfl ?_
 intro W0 T0
 refine fr 0 5 rfl rfl (fun hlen0_5=>?_)
 obtain ⟨hb1,hb2⟩:=hb
 refine ae aa 2 rfl ?_
 refine aF aa 4 rfl ?_
 refine aA (aM rfl rfl rfl (aL (by first|omega|(simp;done)|(simp;omega)))) rfl ?_
 refine ad aa 1 rfl ?_
 refine af ?_
 refine az ?_
 refine al aa [] 0 rfl rfl rfl rfl rfl rfl ?_ ?_
 all_goals first|rfl|(simp [aw];done)|(simp [aw];omega)
theorem sq (c:bI) (hl:c.cY.length<=1048576):Fn Try.prog 108 [(.g [(cI c.bN),(cI c.held),(cI c.cq.cQ),(cI c.cq.count),(cI c.cq.sum),(fB c.cY)])] (.v (.g [cI c.bN,cI c.held,cI c.cq.cQ,cI c.cq.count,cI c.cq.sum,.s 0 0 2 c.cY.length])) [(0,.arr 125 2 (c.cY.map ix))]:=by
 refine Fn.mk' 8 [(0,(aG [(cI c.bN),(cI c.held),(cI c.cq.cQ),(cI c.cq.count),(cI c.cq.sum),(fB c.cY)]))] Try.func108 rfl rfl rfl rfl ?_
 intro W0 T0
 refine fr 0 5 rfl rfl (fun hlen0_5=>?_)
 refine ae aa 2 rfl ?_
 refine aF aa 2 rfl ?_
 refine aQ 3 [2,1,0] (cb 2 (qA c.cY (by first|omega|(simp;done)|(simp;omega))) DH rfl rfl ⟨⟨_,rfl,.c (.d _)⟩,trivial⟩ trivial ⟨(fun _ _ _ _=>trivial),trivial⟩ rfl rfl rfl rfl) rfl ?_
 refine ad aa 2 rfl ?_
 refine af ?_
 refine ae aa 2 rfl ?_
 refine az ?_
 refine al aa [2,1] 1 rfl rfl rfl rfl rfl rfl ?_ ?_
 all_goals first|rfl|(simp [aw];done)|(simp [aw];omega)

theorem wF (c:bI) (n time:Int) (x:bI) (e:Int) (hr:dZ c n time=(x,e)):Fn Try.prog 80 [(.g [(cI c.bN),(cI c.held),(cI c.cq.cQ),(cI c.cq.count),(cI c.cq.sum),(fB c.cY)]),(.c (cI n)),(.c (cI time))] (.t [(.g [(cI x.bN),(cI x.held),(cI x.cq.cQ),(cI x.cq.count),(cI x.cq.sum),(.s 0 0 2 x.cY.length)]),(.c (cI e))]) [(0,(po x.cY))]:=by
 refine Fn.mk' 60 [(0,(aG [(cI c.bN),(cI c.held),(cI c.cq.cQ),(cI c.cq.count),(cI c.cq.sum),(fB c.cY)])),(1,(aI n)),(2,(aI time))] Try.func80 rfl rfl rfl rfl ?_
 intro W0 T0
 refine fr 0 5 rfl rfl (fun hlen0_5=>?_)
 have hrc:=@jv c
 have hrl:=@nt c
 refine ae aa 3 rfl ?_
 refine ag ?_
 refine aF aa 1 rfl ?_
 obtain ⟨e0,hr0⟩:∃ (e0:Int),cX c=e0:=⟨_,rfl⟩
 refine aQ 2 [1,0] (cb 2 (km c e0 hr0) zk rfl rfl ⟨⟨_,rfl,.g ⟨.d _,.d _,.d _,.d _,.d _,.d _,trivial⟩⟩,trivial⟩ trivial trivial rfl rfl rfl rfl) rfl ?_
 refine ad aa 1 rfl ?_
 refine af ?_
 refine ae aa 2 rfl ?_
 refine aj rfl (fun hc1=>?_) (fun hc1=>?_)
 ·
  have hc1':=of_decide_eq_true hc1
  refine ae aa 4 rfl ?_
  refine az ?_
  refine an ?_
  refine cm 1 5 125 2 rfl rfl rfl ?_
  have hX:dZ c n time=((⟨0,0,(⟨0,0,0⟩:eI),([]:List db)⟩:bI),e0):=by
    unfold dZ;rw [if_pos (by omega),hr0];rfl
  rw [hX] at hr;clear hX
  simp only [Prod.mk.injEq] at hr;obtain ⟨rfl,rfl⟩:=hr
  refine al aa [2,1] 1 rfl rfl rfl rfl rfl rfl ?_ ?_
  all_goals first|rfl|(simp [aw];done)|(simp [aw];omega)
 have hc1':=of_decide_eq_false hc1
 refine aS ?_
 refine ag ?_
 refine cw 30 ((((decide (n < 1))||(decide (n > 1000000)))||(decide (time < 0)))||(decide (time > 1000000))) ?_ ?_
 ·
  refine ax ?_
  refine ad aa 3 rfl ?_
  refine bE (t:=19) rfl (fun hb2=>?_) (fun hb2=>?_)
  ·
   have hb2':=of_decide_eq_true hb2
   refine ad aa 11 rfl ?_
   refine af ?_
   exact aH.bD 15 rfl rfl (by first|(simp [hb2];done)|(simp_all;done)|(exfalso;simp_all;done)|(simp_all;omega)) rfl
  have hb2':=of_decide_eq_false hb2
  refine ad aa 4 rfl ?_
  refine bE (t:=23) rfl (fun hb3=>?_) (fun hb3=>?_)
  ·
   have hb3':=of_decide_eq_true hb3
   refine ad aa 7 rfl ?_
   refine af ?_
   exact aH.bD 16 rfl rfl (by first|(simp [hb2,hb3];done)|(simp_all;done)|(exfalso;simp_all;done)|(simp_all;omega)) rfl
  have hb3':=of_decide_eq_false hb3
  refine ad aa 4 rfl ?_
  refine bE (t:=27) rfl (fun hb4=>?_) (fun hb4=>?_)
  ·
   have hb4':=of_decide_eq_true hb4
   refine ad aa 3 rfl ?_
   refine af ?_
   exact aH.bD 17 rfl rfl (by first|(simp [hb2,hb3,hb4];done)|(simp_all;done)|(exfalso;simp_all;done)|(simp_all;omega)) rfl
  have hb4':=of_decide_eq_false hb4
  refine ad aa 3 rfl ?_
  refine af ?_
  exact aH.bD 17 rfl rfl (by first|(simp [hb2,hb3,hb4];done)|(simp_all;done)|(exfalso;simp_all;done)|(simp_all;omega)) rfl
 refine aj rfl (fun hc5=>?_) (fun hc5=>?_)
 ·
  have hc5':=hc5;try simp only [br,bR] at hc5'
  refine ae aa 3 rfl ?_
  refine az ?_
  refine an ?_
  refine cm 1 5 125 2 rfl rfl rfl ?_
  have hX:dZ c n time=((⟨0,0,(⟨0,0,0⟩:eI),([]:List db)⟩:bI),3):=by
    unfold dZ;rw [if_neg (by omega),if_pos (by omega)];rfl
  rw [hX] at hr;clear hX
  simp only [Prod.mk.injEq] at hr;obtain ⟨rfl,rfl⟩:=hr
  refine al aa [2,1] 1 rfl rfl rfl rfl rfl rfl ?_ ?_
  all_goals first|rfl|(simp [aw];done)|(simp [aw];omega)
 have hc5':=hc5;try simp only [br,bR] at hc5'
 refine aS ?_
 refine ag ?_
 refine aF aa 2 rfl ?_
 refine aQ 2 [1,0] (cb 2 (qx c (by first|assumption|omega|(constructor<;>decide)|(have hz:=jv (by first|assumption|omega);omega))) FY rfl rfl ⟨⟨_,rfl,.g ⟨.d _,.d _,.d _,.d _,.d _,.d _,trivial⟩⟩,trivial⟩ trivial trivial rfl rfl rfl rfl) rfl ?_
 refine ad aa 1 rfl ?_
 refine af ?_
 refine aj rfl (fun hc6=>?_) (fun hc6=>?_)
 ·
  have hc6':=of_decide_eq_true hc6
  refine ae aa 3 rfl ?_
  refine az ?_
  refine an ?_
  refine cm 1 5 125 2 rfl rfl rfl ?_
  have hX:dZ c n time=((⟨0,0,(⟨0,0,0⟩:eI),([]:List db)⟩:bI),10):=by
    unfold dZ;rw [if_neg (by omega),if_neg (by omega),if_pos (by omega)];rfl
  rw [hX] at hr;clear hX
  simp only [Prod.mk.injEq] at hr;obtain ⟨rfl,rfl⟩:=hr
  refine al aa [2,1] 1 rfl rfl rfl rfl rfl rfl ?_ ?_
  all_goals first|rfl|(simp [aw];done)|(simp [aw];omega)
 have hc6':=of_decide_eq_false hc6
 refine aS ?_
 refine aF aa 7 rfl ?_
 obtain ⟨r1,e1,hr1⟩:∃ (r1:List db) (e1:Int),eK c.cq c.cY (⟨time,n⟩:db)=(r1,e1):=⟨_,_,rfl⟩
 refine aQ 3 [2,1,0] (cb 2 (zq c.cq c.cY (⟨time,n⟩:db) r1 e1 hr1) Hg rfl rfl ⟨⟨_,rfl,.g ⟨.d _,.d _,.d _,trivial⟩⟩,⟨_,rfl,.c (.d _)⟩,⟨_,rfl,.g ⟨.d _,.d _,trivial⟩⟩,trivial⟩ ⟨trivial,trivial,trivial⟩ ⟨(fun _ _ _ _=>trivial),trivial⟩ rfl rfl rfl rfl) rfl ?_
 refine ad aa 5 rfl ?_
 refine af ?_
 refine ag ?_
 refine ae aa 2 rfl ?_
 refine aj rfl (fun hc7=>?_) (fun hc7=>?_)
 ·
  have hc7':=of_decide_eq_true hc7
  refine ae aa 4 rfl ?_
  refine az ?_
  refine an ?_
  refine cm 1 5 125 2 rfl rfl rfl ?_
  have hX:dZ c n time=((⟨0,0,(⟨0,0,0⟩:eI),([]:List db)⟩:bI),e1):=by
    have ha:=hr1
    unfold dZ;rw [if_neg (by omega),if_neg (by omega),if_neg (by omega),if_pos (by rw [ha];dsimp only;omega),ha];rfl
  rw [hX] at hr;clear hX
  simp only [Prod.mk.injEq] at hr;obtain ⟨rfl,rfl⟩:=hr
  refine al aa [3,1] 1 rfl rfl rfl rfl rfl rfl ?_ ?_
  all_goals first|rfl|(simp [aw];done)|(simp [aw];omega)
 have hc7':=of_decide_eq_false hc7
 refine aS ?_
 refine ae aa 3 rfl ?_
 refine aF aa 3 rfl ?_
 refine aA (aM rfl rfl rfl (aL (by first|omega|(simp;done)|(simp;omega)))) rfl ?_
 refine ad aa 2 rfl ?_
 refine af ?_
 refine ae aa 3 rfl ?_
 refine az ?_
 have hX:dZ c n time=((⟨c.bN,c.held+n,c.cq,r1⟩:bI),0):=by
   have ha:=hr1
   unfold dZ;rw [if_neg (by omega),if_neg (by omega),if_neg (by omega),if_neg (by rw [ha];dsimp only;omega),ha]
 rw [hX] at hr;clear hX
 simp only [Prod.mk.injEq] at hr;obtain ⟨rfl,rfl⟩:=hr
 refine al aa [2,1] 1 rfl rfl rfl rfl rfl rfl ?_ ?_
 all_goals first|rfl|(simp [aw];done)|(simp [aw];omega)
theorem wE (c:bI) (n:Int) (x:bI) (e:Int) (hr:fa c n=(x,e)):Fn Try.prog 91 [(.g [(cI c.bN),(cI c.held),(cI c.cq.cQ),(cI c.cq.count),(cI c.cq.sum),(fB c.cY)]),(.c (cI n))] (.t [(.g [(cI x.bN),(cI x.held),(cI x.cq.cQ),(cI x.cq.count),(cI x.cq.sum),(.s 0 0 2 x.cY.length)]),(.c (cI e))]) [(0,(po x.cY))]:=by
 refine Fn.mk' 35 [(0,(aG [(cI c.bN),(cI c.held),(cI c.cq.cQ),(cI c.cq.count),(cI c.cq.sum),(fB c.cY)])),(1,(aI n))] Try.func91 rfl rfl rfl rfl ?_
 intro W0 T0
 refine fr 0 5 rfl rfl (fun hlen0_5=>?_)
 have hrc:=@jv c
 have hrl:=@nt c
 refine ae aa 3 rfl ?_
 refine ag ?_
 refine aF aa 1 rfl ?_
 obtain ⟨e0,hr0⟩:∃ (e0:Int),cX c=e0:=⟨_,rfl⟩
 refine aQ 2 [1,0] (cb 2 (km c e0 hr0) zk rfl rfl ⟨⟨_,rfl,.g ⟨.d _,.d _,.d _,.d _,.d _,.d _,trivial⟩⟩,trivial⟩ trivial trivial rfl rfl rfl rfl) rfl ?_
 refine ad aa 1 rfl ?_
 refine af ?_
 refine ae aa 2 rfl ?_
 refine aj rfl (fun hc1=>?_) (fun hc1=>?_)
 ·
  have hc1':=of_decide_eq_true hc1
  refine ae aa 4 rfl ?_
  refine az ?_
  refine an ?_
  refine cm 1 5 125 2 rfl rfl rfl ?_
  have hX:fa c n=((⟨0,0,(⟨0,0,0⟩:eI),([]:List db)⟩:bI),e0):=by
    unfold fa;rw [if_pos (by omega),hr0];rfl
  rw [hX] at hr;clear hX
  simp only [Prod.mk.injEq] at hr;obtain ⟨rfl,rfl⟩:=hr
  refine al aa [2,1] 1 rfl rfl rfl rfl rfl rfl ?_ ?_
  all_goals first|rfl|(simp [aw];done)|(simp [aw];omega)
 have hc1':=of_decide_eq_false hc1
 refine aS ?_
 refine ag ?_
 refine cw 25 (((decide (n < 1))||(decide (n > 1000000)))||(decide (n > (1000000000000 - c.held)))) ?_ ?_
 ·
  refine ax ?_
  refine ad aa 3 rfl ?_
  refine bE (t:=15) rfl (fun hb2=>?_) (fun hb2=>?_)
  ·
   have hb2':=of_decide_eq_true hb2
   refine ad aa 10 rfl ?_
   refine af ?_
   exact aH.bD 14 rfl rfl (by first|(simp [hb2];done)|(simp_all;done)|(exfalso;simp_all;done)|(simp_all;omega)) rfl
  have hb2':=of_decide_eq_false hb2
  refine ad aa 4 rfl ?_
  refine bE (t:=19) rfl (fun hb3=>?_) (fun hb3=>?_)
  ·
   have hb3':=of_decide_eq_true hb3
   refine ad aa 6 rfl ?_
   refine af ?_
   exact aH.bD 15 rfl rfl (by first|(simp [hb2,hb3];done)|(simp_all;done)|(exfalso;simp_all;done)|(simp_all;omega)) rfl
  have hb3':=of_decide_eq_false hb3
  refine ad aa 3 rfl ?_
  refine dA (ak.yes rfl rfl rfl) (aM rfl rfl rfl (aL (by first|omega|(simp;done)|(simp;omega)))) rfl rfl ?_
  refine ad aa 2 rfl ?_
  refine af ?_
  exact aH.bD 15 rfl rfl (by first|(simp [hb2,hb3];done)|(simp_all;done)|(exfalso;simp_all;done)|(simp_all;omega)) rfl
 refine aj rfl (fun hc4=>?_) (fun hc4=>?_)
 ·
  have hc4':=hc4;try simp only [br,bR] at hc4'
  refine ae aa 3 rfl ?_
  refine az ?_
  refine an ?_
  refine cm 1 5 125 2 rfl rfl rfl ?_
  have hX:fa c n=((⟨0,0,(⟨0,0,0⟩:eI),([]:List db)⟩:bI),3):=by
    unfold fa;rw [if_neg (by omega),if_pos (by omega)];rfl
  rw [hX] at hr;clear hX
  simp only [Prod.mk.injEq] at hr;obtain ⟨rfl,rfl⟩:=hr
  refine al aa [2,1] 1 rfl rfl rfl rfl rfl rfl ?_ ?_
  all_goals first|rfl|(simp [aw];done)|(simp [aw];omega)
 have hc4':=hc4;try simp only [br,bR] at hc4'
 refine aS ?_
 refine aF aa 1 rfl ?_
 refine aQ 3 [2,1,0] (cb 2 (sq c (by first|assumption|omega)) DK rfl rfl ⟨⟨_,rfl,.g ⟨.d _,.d _,.d _,.d _,.d _,.d _,trivial⟩⟩,trivial⟩ ⟨trivial,trivial,trivial,trivial,trivial,trivial,trivial⟩ ⟨(fun _ _ _ _=>trivial),trivial⟩ rfl rfl rfl rfl) rfl ?_
 refine ad aa 1 rfl ?_
 refine af ?_
 refine aF aa 3 rfl ?_
 refine aA (aM rfl rfl rfl (aL (by first|omega|(simp;done)|(simp;omega)))) rfl ?_
 refine ad aa 2 rfl ?_
 refine af ?_
 refine ae aa 3 rfl ?_
 refine az ?_
 have hX:fa c n=((⟨c.bN,c.held+n,c.cq,c.cY⟩:bI),0):=by
   unfold fa;rw [if_neg (by omega),if_neg (by omega)]
 rw [hX] at hr;clear hX
 simp only [Prod.mk.injEq] at hr;obtain ⟨rfl,rfl⟩:=hr
 refine al aa [2,1] 1 rfl rfl rfl rfl rfl rfl ?_ ?_
 all_goals first|rfl|(simp [aw];done)|(simp [aw];omega)

theorem wD (c:bI) (held bN:Int) (x:bI) (e:Int) (hr:en c held bN=(x,e)):Fn Try.prog 97 [(.g [(cI c.bN),(cI c.held),(cI c.cq.cQ),(cI c.cq.count),(cI c.cq.sum),(fB c.cY)]),(.c (cI held)),(.c (cI bN))] (.t [(.g [(cI x.bN),(cI x.held),(cI x.cq.cQ),(cI x.cq.count),(cI x.cq.sum),(.s 0 0 2 x.cY.length)]),(.c (cI e))]) [(0,(po x.cY))]:=by
 refine Fn.mk' 52 [(0,(aG [(cI c.bN),(cI c.held),(cI c.cq.cQ),(cI c.cq.count),(cI c.cq.sum),(fB c.cY)])),(1,(aI held)),(2,(aI bN))] Try.func97 rfl rfl rfl rfl ?_
 intro W0 T0
 refine fr 0 5 rfl rfl (fun hlen0_5=>?_)
 have hrc:=@jv c
 have hrl:=@nt c
 refine ae aa 3 rfl ?_
 refine ag ?_
 refine aF aa 1 rfl ?_
 obtain ⟨e0,hr0⟩:∃ (e0:Int),cX c=e0:=⟨_,rfl⟩
 refine aQ 2 [1,0] (cb 2 (km c e0 hr0) zk rfl rfl ⟨⟨_,rfl,.g ⟨.d _,.d _,.d _,.d _,.d _,.d _,trivial⟩⟩,trivial⟩ trivial trivial rfl rfl rfl rfl) rfl ?_
 refine ad aa 1 rfl ?_
 refine af ?_
 refine ae aa 2 rfl ?_
 refine aj rfl (fun hc1=>?_) (fun hc1=>?_)
 ·
  have hc1':=of_decide_eq_true hc1
  refine ae aa 4 rfl ?_
  refine az ?_
  refine an ?_
  refine cm 1 5 125 2 rfl rfl rfl ?_
  have hX:en c held bN=((⟨0,0,(⟨0,0,0⟩:eI),([]:List db)⟩:bI),e0):=by
    unfold en;rw [if_pos (by omega),hr0];rfl
  rw [hX] at hr;clear hX
  simp only [Prod.mk.injEq] at hr;obtain ⟨rfl,rfl⟩:=hr
  refine al aa [2,1] 1 rfl rfl rfl rfl rfl rfl ?_ ?_
  all_goals first|rfl|(simp [aw];done)|(simp [aw];omega)
 have hc1':=of_decide_eq_false hc1
 refine aS ?_
 refine ag ?_
 refine aF aa 2 rfl ?_
 refine aQ 3 [2,1,0] (dV (ys:=[(0,(.c (cI held))),(1,(.c (cI bN)))]) (rows:=([held,bN]).map rI) 2 nm rfl (by decide) ⟨⟨rfl,rfl⟩,⟨rfl,rfl⟩,trivial⟩ rfl rfl rfl rfl) rfl ?_
 refine aA (dz rfl rfl rfl rfl rfl Try.underlying30) rfl ?_
 refine ad aa 1 rfl ?_
 refine af ?_
 refine aY ?_
 refine cE (β:=Nat) (fun (q:Nat)=>⟨[(1,(aI held)),(2,(aI bN)),(3,(aC (.p 0 0 0 0))),(6,(aC (.p 1 0 0 0))),(20,(aC (.s 2 0 1 2))),(21,(aI 2)),(22,(aI (↑q:Int)))],[(2,(dM ([held,bN]))),(1,(.box 61 [(cI 0),(cI 0),(cI 0),(cI 0),(cI 0),cN])),(0,(.box 61 [(cI c.bN),(cI c.held),(cI c.cq.cQ),(cI c.cq.count),(cI c.cq.sum),(fB c.cY)]))],3⟩) (fun (q:Nat)=>q<=2/\(0 < q->-1000000000000<=held/\held<=1000000000000)/\(1 < q->-1000000000000<=bN/\bN<=1000000000000)) (fun (q:Nat)=>2 - q) 0 ?_ ?_ ?_
 ·exact ⟨by omega,by omega,by omega⟩
 ·exact aH.ca id (by refine ⟨?_,?_,?_,?_,?_,?_,?_,trivial⟩<;>first|rfl|(simp only [bu];done)|(congr 3;omega)|(congr 4;omega)|(simp only [bw];rfl)) (by refine ⟨?_,?_,?_,trivial⟩<;>first|rfl|(simp only [bu];done)|(congr 3;omega)|(congr 4;omega)|(simp only [bw];rfl)) rfl
 rintro q ⟨hi0_0,hi0_1,hi0_2⟩
 refine ae aa 1 rfl ?_
 refine ag ?_
 refine aj rfl (fun hc2=>?_) (fun hc2=>?_)
 ·
  have hc2':=of_decide_eq_true hc2
  refine aS ?_
  refine ag ?_
  refine aY ?_
  refine eR ?_
  refine aA (bz (i:=q) rfl rfl rfl Try.underlying30 gF (by first|omega|(simp;done)|(simp;omega)) (by first|omega|(simp;done)|(simp;omega))) rfl ?_
  obtain ⟨x1,hx1⟩:=cf (xs:=([held,bN]:List Int)) (i:=q) (by first|omega|(simp;done)|(simp;omega))
  have hx1v:=Fl hx1
  refine aA (eS rfl rfl rfl Try.underlying3 rfl (bp hx1) rfl) rfl ?_
  refine ad aa 1 rfl ?_
  refine af ?_
  refine cw 31 ((decide (x1 < (-1000000000000)))||(decide (x1 > 1000000000000))) ?_ ?_
  ·
   refine ax ?_
   refine ad aa 3 rfl ?_
   refine bE (t:=28) rfl (fun hb3=>?_) (fun hb3=>?_)
   ·
    have hb3':=of_decide_eq_true hb3
    refine ad aa 3 rfl ?_
    refine af ?_
    exact aH.bD 7 rfl rfl (by first|(simp [hb3];done)|(simp_all;done)|(exfalso;simp_all;done)|(simp_all;omega)) rfl
   have hb3':=of_decide_eq_false hb3
   refine ad aa 3 rfl ?_
   refine af ?_
   exact aH.bD 7 rfl rfl (by first|(simp [hb3];done)|(simp_all;done)|(exfalso;simp_all;done)|(simp_all;omega)) rfl
  refine aj rfl (fun hc4=>?_) (fun hc4=>?_)
  ·
   have hc4':=hc4;try simp only [br,bR] at hc4'
   refine ae aa 3 rfl ?_
   refine az ?_
   refine bc ?_
   refine an ?_
   refine an ?_
   refine bc ?_
   refine an ?_
   refine cm 1 5 125 2 rfl rfl rfl ?_
   have hX:en c held bN=((⟨0,0,(⟨0,0,0⟩:eI),([]:List db)⟩:bI),3):=by
     unfold en;rw [if_neg (by omega),if_pos (by omega)];rfl
   rw [hX] at hr;clear hX
   simp only [Prod.mk.injEq] at hr;obtain ⟨rfl,rfl⟩:=hr
   refine al aa [3,1] 1 rfl rfl rfl rfl rfl rfl ?_ ?_
   all_goals first|rfl|(simp [aw];done)|(simp [aw];omega)
  have hc4':=hc4;try simp only [br,bR] at hc4'
  refine da ?_
  refine bm ?_
  refine then_ok ?_
  refine ax ?_
  refine aA (aM rfl rfl rfl (aL (by first|omega|(simp;done)|(simp;omega)))) rfl ?_
  refine ad aa 1 rfl ?_
  refine af ?_
  refine ⟨q+1,⟨by omega,by omega,by omega⟩,by first|omega|(simp;done)|(simp;omega),aH.ca id (by refine ⟨?_,?_,?_,?_,?_,?_,?_,trivial⟩<;>first|rfl|(simp only [bu];done)|(congr 3;omega)|(congr 4;omega)|(simp only [bw];rfl)) (by refine ⟨?_,?_,?_,trivial⟩<;>first|rfl|(simp only [bu];done)|(congr 3;omega)|(congr 4;omega)|(simp only [bw];rfl)) rfl⟩
 have hc2':=of_decide_eq_false hc2
 refine cv ?_
 refine aU ?_
 refine aU ?_
 refine bS ?_
 refine then_ok ?_
 refine aF aa 1 rfl ?_
 refine aQ 4 [3,2,1,0] (cb 3 (sq c (by first|assumption|omega)) DK rfl rfl ⟨⟨_,rfl,.g ⟨.d _,.d _,.d _,.d _,.d _,.d _,trivial⟩⟩,trivial⟩ ⟨trivial,trivial,trivial,trivial,trivial,trivial,trivial⟩ ⟨(fun _ _ _ _=>trivial),trivial⟩ rfl rfl rfl rfl) rfl ?_
 refine ad aa 1 rfl ?_
 refine af ?_
 refine aF aa 3 rfl ?_
 refine aA (aM rfl rfl rfl (aL (by first|omega|(simp;done)|(simp;omega)))) rfl ?_
 refine ad aa 2 rfl ?_
 refine af ?_
 refine aF aa 3 rfl ?_
 refine aA (aM rfl rfl rfl (aL (by first|omega|(simp;done)|(simp;omega)))) rfl ?_
 refine ad aa 2 rfl ?_
 refine af ?_
 refine ag ?_
 refine aF aa 1 rfl ?_
 obtain ⟨e1,hr1⟩:∃ (e1:Int),cX (⟨c.bN+bN,c.held+held,c.cq,c.cY⟩:bI)=e1:=⟨_,rfl⟩
 refine aQ 4 [3,2,1,0] (fe 4 [3] (km (⟨c.bN+bN,c.held+held,c.cq,c.cY⟩:bI) e1 hr1) zk rfl rfl ⟨⟨_,rfl,.g ⟨.d _,.d _,.d _,.d _,.d _,.s rfl (by decide) (by first|omega|(simp;done)|(simp;omega)),trivial⟩⟩,trivial⟩ rfl trivial rfl rfl rfl rfl) rfl ?_
 refine ad aa 1 rfl ?_
 refine af ?_
 refine ae aa 2 rfl ?_
 refine aj rfl (fun hc5=>?_) (fun hc5=>?_)
 ·
  have hc5':=of_decide_eq_true hc5
  refine ae aa 3 rfl ?_
  refine az ?_
  refine an ?_
  refine cm 1 5 125 2 rfl rfl rfl ?_
  have hX:en c held bN=((⟨0,0,(⟨0,0,0⟩:eI),([]:List db)⟩:bI),10):=by
    unfold en;rw [if_neg (by omega),if_neg (by omega),if_pos (by first|omega|(intro hz;have hy:=jv hz;dsimp only at hy;omega))];rfl
  rw [hX] at hr;clear hX
  simp only [Prod.mk.injEq] at hr;obtain ⟨rfl,rfl⟩:=hr
  refine al aa [4,1] 1 rfl rfl rfl rfl rfl rfl ?_ ?_
  all_goals first|rfl|(simp [aw];done)|(simp [aw];omega)
 have hc5':=of_decide_eq_false hc5
 refine aS ?_
 refine ae aa 3 rfl ?_
 refine az ?_
 have hX:en c held bN=((⟨c.bN+bN,c.held+held,c.cq,c.cY⟩:bI),0):=by
   unfold en;rw [if_neg (by omega),if_neg (by omega),if_neg (by first|omega|(have hz:=pC (c:=⟨c.bN+bN,c.held+held,c.cq,c.cY⟩) (by dsimp only;omega) (hrc (by omega)).2.2.2.2.1 (hrc (by omega)).2.2.2.2.2;omega))]
 rw [hX] at hr;clear hX
 simp only [Prod.mk.injEq] at hr;obtain ⟨rfl,rfl⟩:=hr
 refine al aa [3,1] 1 rfl rfl rfl rfl rfl rfl ?_ ?_
 all_goals first|rfl|(simp [aw];done)|(simp [aw];omega)

theorem rm (l:List bo) (fn:FuncId) (bg:List (List D)) (pr:bo->Bool) (hp:∀ x:bo,Fn Try.prog fn ([.g [cI x.number,cI x.kind,cI x.ba,cI x.sum]]++bg.map fun r=>GV.c (.q r 0)) (aB (pr x)) []) (hen:bl Try.prog fn) (r:Int) (hr:ik pr l=r):Fn Try.prog 113 [(.c (dj l)),(.c (.d (.f fn bg)))] (.v (.c (cI r))) []:=by
 refine Fn.mk' 19 [(0,(aC (dj l))),(1,(aC (.d (.f fn bg))))] Try.func113 rfl rfl rfl rfl ?_
 intro W0 T0
 refine dt 0 rfl (fun hlen0=>?_)
 refine ae aa 1 rfl ?_
 refine ag ?_
 refine aF aa 1 rfl ?_
 refine aA (cF rfl rfl rfl rfl rfl Try.underlying32) rfl ?_
 refine ad aa 1 rfl ?_
 refine af ?_
 refine aY ?_
 refine cE (β:=Nat) (fun (q:Nat)=>⟨[(0,(aC (dj l))),(1,(aC (.d (.f fn bg)))),(7,(aI (↑l.length:Int))),(8,(aI (↑q:Int)))],[],0⟩) (fun (q:Nat)=>q<=l.length/\(l.take q).all (fun y=>!pr y)=true) (fun (q:Nat)=>l.length - q) 0 ?_ ?_ ?_
 ·exact ⟨by omega,by simp⟩
 ·exact aH.ca id (by refine ⟨?_,?_,?_,?_,trivial⟩<;>first|rfl|(simp only [bu];done)|(congr 3;omega)|(congr 4;omega)|(simp only [bw];rfl)) (trivial) rfl
 rintro q ⟨hi0_0,hi0_1⟩
 refine ae aa 1 rfl ?_
 refine ag ?_
 refine aj rfl (fun hc1=>?_) (fun hc1=>?_)
 ·
  have hc1':=of_decide_eq_true hc1
  refine aS ?_
  refine ag ?_
  refine aY ?_
  refine ae aa 2 rfl ?_
  refine aF aa 3 rfl ?_
  obtain ⟨x1,hx1⟩:=cf (xs:=l) (i:=q) (by first|omega|(simp;done)|(simp;omega))
  refine aA (cD (i:=q) rfl rfl rfl Try.underlying32 mF (by first|omega|(simp;done)|(simp;omega)) (bp hx1)) rfl ?_
  refine ad aa 1 rfl ?_
  refine aA (gZ 0 (hp x1) hen rfl rfl rfl ⟨⟨_,rfl,.g ⟨.d _,.d _,.d _,.d _,trivial⟩⟩,trivial⟩ trivial trivial rfl rfl rfl rfl) rfl ?_
  refine af ?_
  refine aj rfl (fun hc2=>?_) (fun hc2=>?_)
  ·
   have hc2':=hc2;try simp only [br,bR] at hc2'
   refine ae aa 2 rfl ?_
   refine az ?_
   refine bc ?_
   refine an ?_
   refine an ?_
   refine bc ?_
   refine an ?_
   have hX:ik pr l=(↑q:Int):=by
     exact uh hi0_1 hx1 hc2
   rw [hX] at hr;clear hX
   subst hr
   refine al aa [] 0 rfl rfl rfl rfl rfl rfl ?_ ?_
   all_goals first|rfl|(simp [aw];done)|(simp [aw];omega)
  have hc2':=hc2;try simp only [br,bR] at hc2'
  refine da ?_
  refine bm ?_
  refine then_ok ?_
  refine ax ?_
  refine aA (aM rfl rfl rfl (aL (by first|omega|(simp;done)|(simp;omega)))) rfl ?_
  refine ad aa 1 rfl ?_
  refine af ?_
  refine ⟨q+1,⟨by omega,wS hi0_1 hx1 hc2⟩,by first|omega|(simp;done)|(simp;omega),aH.ca id (by refine ⟨?_,?_,?_,?_,trivial⟩<;>first|rfl|(simp only [bu];done)|(congr 3;omega)|(congr 4;omega)|(simp only [bw];rfl)) (trivial) rfl⟩
 have hc1':=of_decide_eq_false hc1
 refine cv ?_
 refine aU ?_
 refine aU ?_
 refine bS ?_
 refine then_ok ?_
 refine ae aa 1 rfl ?_
 refine az ?_
 have hX:ik pr l=(-1):=by
   exact vV (by rw [<-List.take_of_length_le (l:=l) (i:=q) (by omega)];exact hi0_1)
 rw [hX] at hr;clear hX
 subst hr
 refine al aa [] 0 rfl rfl rfl rfl rfl rfl ?_ ?_
 all_goals first|rfl|(simp [aw];done)|(simp [aw];omega)
theorem pT (l:List bo) (fn:FuncId) (bg:List (List D)) (pr:bo->Bool) (hp:∀ x:bo,Fn Try.prog fn ([.g [cI x.number,cI x.kind,cI x.ba,cI x.sum]]++bg.map fun r=>GV.c (.q r 0)) (aB (pr x)) []) (hen:bl Try.prog fn) (r:List bo) (hr:dP pr l=r):cJ Try.prog 105 [(.c (.s 0 0 4 l.length)),(.c (.d (.f fn bg)))] [(0,(yn l))] [] (.v (.c (.s 0 0 4 r.length))) [(0,(yn r))]:=by
 refine cJ.mk 42 [(0,(aC (.s 0 0 4 l.length))),(1,(aC (.d (.f fn bg))))] 1 Try.func105 rfl rfl rfl rfl rfl rfl rfl rfl rfl ?_
 intro W0 F0 T0 pg
 refine gJ 0 rfl (fun hlen0=>?_)
 have hic:=ui pr l
 have hib:ik pr l<=l.length/\-1<=ik pr l:=by rcases hic with ⟨h,_⟩|⟨i,h,h1,_⟩<;>omega
 refine ae aa 1 rfl ?_
 refine aF aa 2 rfl ?_
 obtain ⟨r0,hr0⟩:∃ (r0:Int),ik pr l=r0:=⟨_,rfl⟩
 refine aQ 1 [0] (fe 1 [0] (rm l fn bg pr hp hen r0 hr0) Ha rfl rfl ⟨⟨_,rfl,.c (.s rfl (by decide) (by first|omega|(simp;done)|(simp;omega)))⟩,⟨_,rfl,.c (.d _)⟩,trivial⟩ rfl trivial rfl rfl rfl rfl) rfl ?_
 refine ad aa 1 rfl ?_
 refine af ?_
 refine ag ?_
 refine ae aa 2 rfl ?_
 refine aj rfl (fun hc1=>?_) (fun hc1=>?_)
 ·
  have hc1':=of_decide_eq_true hc1
  refine ae aa 2 rfl ?_
  refine az ?_
  refine an ?_
  have hX:dP pr l=l:=by
    rcases hic with ⟨_,h⟩|⟨i0,h,_⟩
    ·exact h
    ·exfalso;omega
  rw [hX] at hr;clear hX
  subst hr
  refine al aa [0] 1 rfl rfl rfl rfl rfl rfl ?_ ?_
  all_goals first|rfl|(simp [aw];done)|(simp [aw];omega)
 have hc1':=of_decide_eq_false hc1
 refine aS ?_
 refine ag ?_
 refine aF aa 1 rfl ?_
 refine aA (aM rfl rfl rfl (aL (by first|omega|(simp;done)|(simp;omega)))) rfl ?_
 refine ad aa 1 rfl ?_
 refine af ?_
 refine aY ?_
 obtain ⟨i0,hi0,hil,x0,hx0,hp0,hk0⟩:∃ i:Nat,ik pr l=i/\i < l.length/\∃ x,l[i]?=some x/\pr x=true/\dP pr (l.take i)=l.take i:=by
     rcases hic with ⟨h,_⟩|h
     ·exfalso;omega
     ·exact h
 obtain rfl:r0=(i0:Int):=by omega
 refine cE (β:=Nat×Nat×List bo) (fun (p:Nat×Nat×List bo)=>match p with|(j,i,c)=>⟨[(0,(aC (.s 0 0 4 l.length))),(1,(aC (.d (.f fn bg)))),(4,(aC cN)),(5,(aI (↑i:Int))),(6,(aI (↑j:Int)))],[(0,(yn c))],1⟩) (fun (p:Nat×Nat×List bo)=>match p with|(j,i,c)=>lE pr l c i j) (fun (p:Nat×Nat×List bo)=>match p with|(j,i,c)=>l.length - j) (i0+1,i0,l) ?_ ?_ ?_
 ·exact lE.start hx0 hp0 hk0
 ·exact aH.ca id (by refine ⟨?_,?_,?_,?_,?_,trivial⟩<;>first|rfl|(simp only [bu];done)|(congr 3;omega)|(congr 4;omega)|(simp only [bw];rfl)) (⟨by first|rfl|(simp only [bu];done)|(congr 3;omega)|(congr 4;omega)|(simp only [bw];rfl),trivial⟩) rfl
 rintro ⟨j,i,c⟩ hd
 have hdl:=hd.len;have hdi:=hd.ij;have hdj:=hd.jl
 refine ag ?_
 refine aF aa 2 rfl ?_
 refine aA (dz rfl rfl rfl rfl rfl Try.underlying32) rfl ?_
 refine ad aa 1 rfl ?_
 refine af ?_
 refine aj rfl (fun hc2=>?_) (fun hc2=>?_)
 ·
  have hc2':=of_decide_eq_true hc2
  refine aS ?_
  refine ag ?_
  refine aY ?_
  refine aF aa 2 rfl ?_
  refine aA (bz (i:=j) rfl rfl rfl Try.underlying32 mF (by first|omega|(simp;done)|(simp;omega)) (by first|omega|(simp;done)|(simp;omega))) rfl ?_
  obtain ⟨x1,hx1⟩:=cf (xs:=c) (i:=j) (by first|omega|(simp;done)|(simp;omega))
  refine aA (dm rfl rfl rfl Try.underlying80 rfl mF (bp hx1) rfl) rfl ?_
  refine ad aa 2 rfl ?_
  refine af ?_
  refine aF aa 2 rfl ?_
  refine aA (gZ 2 (hp x1) hen rfl rfl rfl ⟨⟨_,rfl,.g ⟨.d _,.d _,.d _,.d _,trivial⟩⟩,trivial⟩ trivial trivial rfl rfl rfl rfl) rfl ?_
  refine ad aa 1 rfl ?_
  refine af ?_
  refine aj rfl (fun hc3=>?_) (fun hc3=>?_)
  ·
   have hc3':=hc3;try simp only [br,bR] at hc3'
   refine aF aa 3 rfl ?_
   refine aA (bz (i:=i) rfl rfl rfl Try.underlying32 mF (by first|omega|(simp;done)|(simp;omega)) (by first|omega|(simp;done)|(simp;omega))) rfl ?_
   obtain ⟨x2,hx2⟩:=cf (xs:=c) (i:=i) (by first|omega|(simp;done)|(simp;omega))
   refine gj [1,0] (dR (ds:=[(dI x1.number),(dI x1.kind),(dI x1.ba),(dI x1.sum)]) rfl rfl rfl rfl rfl mF rfl (Nat.le_of_ble_eq_true rfl) (bp hx2) rfl (eX (x':=x1) rfl)) rfl ?_
   refine af ?_
   refine ax ?_
   refine ad aa 1 rfl ?_
   refine aA (aM rfl rfl rfl (aL (by first|omega|(simp;done)|(simp;omega)))) rfl ?_
   refine ad aa 1 rfl ?_
   refine bZ ?_
   refine bm ?_
   refine then_ok ?_
   refine ax ?_
   refine ad aa 1 rfl ?_
   refine aA (aM rfl rfl rfl (aL (by first|omega|(simp;done)|(simp;omega)))) rfl ?_
   refine ad aa 1 rfl ?_
   refine af ?_
   refine ⟨(j+1,(i)+1,(c).set i x1),hd.cG hx1 (by simpa using hc3),by first|omega|(simp;done)|(simp;omega),aH.ca id (by refine ⟨?_,?_,?_,?_,?_,trivial⟩<;>first|rfl|(simp only [bu];done)|(congr 3;omega)|(congr 4;omega)|(simp only [bw];rfl)) (⟨by first|rfl|(simp only [bu];done)|(congr 3;omega)|(congr 4;omega)|(simp only [bw];rfl),trivial⟩) rfl⟩
  have hc3':=hc3;try simp only [br,bR] at hc3'
  refine da ?_
  refine bm ?_
  refine then_ok ?_
  refine ax ?_
  refine ad aa 1 rfl ?_
  refine aA (aM rfl rfl rfl (aL (by first|omega|(simp;done)|(simp;omega)))) rfl ?_
  refine ad aa 1 rfl ?_
  refine af ?_
  refine ⟨(j+1,i,c),hd.skip hx1 (by simpa using hc3),by first|omega|(simp;done)|(simp;omega),aH.ca id (by refine ⟨?_,?_,?_,?_,?_,trivial⟩<;>first|rfl|(simp only [bu];done)|(congr 3;omega)|(congr 4;omega)|(simp only [bw];rfl)) (⟨by first|rfl|(simp only [bu];done)|(congr 3;omega)|(congr 4;omega)|(simp only [bw];rfl),trivial⟩) rfl⟩
 have hc2':=of_decide_eq_false hc2
 refine cv ?_
 refine aU ?_
 refine aU ?_
 refine bS ?_
 refine then_ok ?_
 refine aF aa 2 rfl ?_
 refine aA (nE (l:=i) (h:=l.length) rfl Try.underlying32 mF rfl (.inr ⟨_,rfl,rfl⟩) (.inl ⟨rfl,rfl⟩) (by first|omega|(simp;done)|(simp;omega)) (by first|omega|(simp;done)|(simp;omega)) (by first|omega|(simp;done)|(simp;omega)) rfl) rfl ?_
 refine gj [0] (sZ (rows':=(c.take i).map fM) vp Hw rfl rfl rfl rfl rfl rfl rfl rfl rfl (by simp [List.map_take])) rfl ?_
 refine af ?_
 refine aF aa 2 rfl ?_
 refine aA (nE (l:=0) (h:=i) rfl Try.underlying32 mF rfl (.inl ⟨rfl,rfl⟩) (.inr ⟨_,rfl,rfl⟩) (by first|omega|(simp;done)|(simp;omega)) (by first|omega|(simp;done)|(simp;omega)) (by first|omega|(simp;done)|(simp;omega)) rfl) rfl ?_
 refine ad aa 1 rfl ?_
 refine af ?_
 refine az ?_
 have hX:dP pr l=(c.take i):=by
   have hdone:=hd.done (by omega)
   rw [<-hdone]
 rw [hX] at hr;clear hX
 subst hr
 refine al aa [0] 1 rfl rfl rfl rfl rfl rfl ?_ ?_
 all_goals first|rfl|(simp [aw];done)|(simp [aw];omega)


theorem kG {s : bY} {t : bo} (hI : ∀ t ∈ s.kept, fj t.number) (h : 0 ≤ s.bX ∧ s.bX ≤ 1000000) : ∀ u ∈ s.kept ++ [(⟨s.bX + 1, t.kind, t.ba, t.sum⟩ : bo)], fj u.number := by
  intro u hu
  rcases List.mem_append.1 hu with hu | hu
  · exact hI u hu
  · have : u = ⟨s.bX + 1, t.kind, t.ba, t.sum⟩ := by simpa using hu
    subst this; unfold fj; dsimp only; omega
theorem jG {s x:bY} {seen e:Int} (hI:∀ t∈s.kept,fj t.number) (h:ej s seen=(x,e)):∀ u∈x.kept,fj u.number:=by
  intro u hu
  rcases pP h with ⟨_,rfl⟩|⟨_,_,_,_,rfl⟩
  ·simp [xQ] at hu
  ·exact hI u (kD hu)

theorem lZ (s:bY) (hI:∀ t∈s.kept,fj t.number) (f:cW) (hr:cP s=f):Fn Try.prog 29 [(.g [(cI s.bX),(dj s.kept)])] (.v (.g [(cI f.err),(cI f.at_)])) []:=by
 refine Fn.mk' 79 [(0,(aG [(cI s.bX),(dj s.kept)]))] Try.func29 rfl rfl rfl rfl ?_
 intro W0 T0
 refine fr 0 1 rfl rfl (fun hlen0_1=>?_)
 refine ae aa 2 rfl ?_
 refine ag ?_
 refine aF aa 2 rfl ?_
 refine aA (cF rfl rfl rfl rfl rfl Try.underlying32) rfl ?_
 refine ad aa 1 rfl ?_
 refine af ?_
 refine aj rfl (fun hc1=>?_) (fun hc1=>?_)
 ·
  have hc1':=of_decide_eq_true hc1
  refine ae aa 2 rfl ?_
  refine az ?_
  refine an ?_
  have hX:cP s=(⟨5,0⟩:cW):=by
    unfold cP jS;rw [if_pos (by omega)]
  rw [hX] at hr;clear hX
  subst hr
  refine al aa [1] 0 rfl rfl rfl rfl rfl rfl ?_ ?_
  all_goals first|rfl|(simp [aw];done)|(simp [aw];omega)
 have hc1':=of_decide_eq_false hc1
 refine aS ?_
 refine ag ?_
 refine cw 20 ((decide (s.bX < (↑s.kept.length:Int)))||(decide (s.bX > 1000000))) ?_ ?_
 ·
  refine ax ?_
  refine ad aa 4 rfl ?_
  refine aA (cF rfl rfl rfl rfl rfl Try.underlying32) rfl ?_
  refine ad aa 2 rfl ?_
  refine bE (t:=16) rfl (fun hb2=>?_) (fun hb2=>?_)
  ·
   have hb2':=of_decide_eq_true hb2
   refine ad aa 4 rfl ?_
   refine af ?_
   exact aH.bD 12 rfl rfl (by first|(simp [hb2];done)|(simp_all;done)|(exfalso;simp_all;done)|(simp_all;omega)) rfl
  have hb2':=of_decide_eq_false hb2
  refine ad aa 4 rfl ?_
  refine af ?_
  exact aH.bD 12 rfl rfl (by first|(simp [hb2];done)|(simp_all;done)|(exfalso;simp_all;done)|(simp_all;omega)) rfl
 refine aj rfl (fun hc3=>?_) (fun hc3=>?_)
 ·
  have hc3':=hc3;try simp only [br,bR] at hc3'
  refine ae aa 2 rfl ?_
  refine az ?_
  refine an ?_
  have hX:cP s=(⟨3,0⟩:cW):=by
    unfold cP jS;rw [if_neg (by omega),if_pos (by omega)]
  rw [hX] at hr;clear hX
  subst hr
  refine al aa [1] 0 rfl rfl rfl rfl rfl rfl ?_ ?_
  all_goals first|rfl|(simp [aw];done)|(simp [aw];omega)
 have hc3':=hc3;try simp only [br,bR] at hc3'
 refine aS ?_
 refine ag ?_
 refine aF aa 2 rfl ?_
 refine aA (cF rfl rfl rfl rfl rfl Try.underlying32) rfl ?_
 refine ad aa 1 rfl ?_
 refine af ?_
 refine aY ?_
 refine cE (β:=Nat) (fun (q:Nat)=>⟨[(1,(aC (.p 0 0 0 0))),(2,(aC (.p 1 0 0 0))),(23,(aC (dj s.kept))),(24,(aI (↑s.kept.length:Int))),(25,(aI (↑q:Int)))],[(1,(.box 50 [(cI 0),(cI 0)])),(0,(.box 34 [(cI s.bX),(dj s.kept)]))],2⟩) (fun (q:Nat)=>q<=s.kept.length/\scan (mE s) 0 s.kept.length=scan (mE s) q (s.kept.length - q)) (fun (q:Nat)=>s.kept.length - q) 0 ?_ ?_ ?_
 ·exact ⟨by omega,rfl⟩
 ·exact aH.ca id (by refine ⟨?_,?_,?_,?_,?_,trivial⟩<;>first|rfl|(simp only [bu];done)|(congr 3;omega)|(congr 4;omega)|(simp only [bw];rfl)) (by refine ⟨?_,?_,trivial⟩<;>first|rfl|(simp only [bu];done)|(congr 3;omega)|(congr 4;omega)|(simp only [bw];rfl)) rfl
 rintro q ⟨hi0_0,hi0_1⟩
 refine ae aa 1 rfl ?_
 refine ag ?_
 refine aj rfl (fun hc4=>?_) (fun hc4=>?_)
 ·
  have hc4':=of_decide_eq_true hc4
  refine aS ?_
  refine ag ?_
  refine aY ?_
  refine aF aa 1 rfl ?_
  obtain ⟨x1,hx1⟩:=cf (xs:=s.kept) (i:=q) (by first|omega|(simp;done)|(simp;omega))
  have hx1b:=hI x1 (List.mem_of_getElem? hx1)
  unfold fj at hx1b
  refine aA (cD (i:=q) rfl rfl rfl Try.underlying32 mF (by first|omega|(simp;done)|(simp;omega)) (bp hx1)) rfl ?_
  refine ad aa 4 rfl ?_
  refine af ?_
  refine aY ?_
  refine cw 30 ((decide (x1.kind < 1))||(decide (x1.kind > 3))) ?_ ?_
  ·
   refine ax ?_
   refine ad aa 4 rfl ?_
   refine bE (t:=34) rfl (fun hb5=>?_) (fun hb5=>?_)
   ·
    have hb5':=of_decide_eq_true hb5
    refine ad aa 5 rfl ?_
    refine af ?_
    exact aH.bD 10 rfl rfl (by first|(simp [hb5];done)|(simp_all;done)|(exfalso;simp_all;done)|(simp_all;omega)) rfl
   have hb5':=of_decide_eq_false hb5
   refine ad aa 5 rfl ?_
   refine af ?_
   exact aH.bD 10 rfl rfl (by first|(simp [hb5];done)|(simp_all;done)|(exfalso;simp_all;done)|(simp_all;omega)) rfl
  refine aj rfl (fun hc6=>?_) (fun hc6=>?_)
  ·
   have hc6':=hc6;try simp only [br,bR] at hc6'
   refine ae aa 3 rfl ?_
   refine az ?_
   refine bc ?_
   refine bc ?_
   refine an ?_
   refine an ?_
   refine bc ?_
   refine an ?_
   have hX:cP s=(⟨1,(↑q:Int)⟩:cW):=by
     unfold cP jS;rw [if_neg (by omega),if_neg (by omega),hi0_1,iC (c:=1) (by omega) (by unfold mE;simp only [hx1];rw [if_pos (by omega)]) (by decide)]
   rw [hX] at hr;clear hX
   subst hr
   refine al aa [1] 0 rfl rfl rfl rfl rfl rfl ?_ ?_
   all_goals first|rfl|(simp [aw];done)|(simp [aw];omega)
  have hc6':=hc6;try simp only [br,bR] at hc6'
  refine cw 41 ((((decide (x1.ba < 0))||(decide (x1.ba>=30)))||(decide (x1.sum < 1)))||(decide (x1.sum > 1000000))) ?_ ?_
  ·
   refine ax ?_
   refine ad aa 4 rfl ?_
   refine bE (t:=45) rfl (fun hb7=>?_) (fun hb7=>?_)
   ·
    have hb7':=of_decide_eq_true hb7
    refine ad aa 15 rfl ?_
    refine af ?_
    exact aH.bD 20 rfl rfl (by first|(simp [hb7];done)|(simp_all;done)|(exfalso;simp_all;done)|(simp_all;omega)) rfl
   have hb7':=of_decide_eq_false hb7
   refine ad aa 5 rfl ?_
   refine bE (t:=50) rfl (fun hb8=>?_) (fun hb8=>?_)
   ·
    have hb8':=of_decide_eq_true hb8
    refine ad aa 10 rfl ?_
    refine af ?_
    exact aH.bD 21 rfl rfl (by first|(simp [hb7,hb8];done)|(simp_all;done)|(exfalso;simp_all;done)|(simp_all;omega)) rfl
   have hb8':=of_decide_eq_false hb8
   refine ad aa 5 rfl ?_
   refine bE (t:=55) rfl (fun hb9=>?_) (fun hb9=>?_)
   ·
    have hb9':=of_decide_eq_true hb9
    refine ad aa 5 rfl ?_
    refine af ?_
    exact aH.bD 22 rfl rfl (by first|(simp [hb7,hb8,hb9];done)|(simp_all;done)|(exfalso;simp_all;done)|(simp_all;omega)) rfl
   have hb9':=of_decide_eq_false hb9
   refine ad aa 5 rfl ?_
   refine af ?_
   exact aH.bD 22 rfl rfl (by first|(simp [hb7,hb8,hb9];done)|(simp_all;done)|(exfalso;simp_all;done)|(simp_all;omega)) rfl
  refine aj rfl (fun hc10=>?_) (fun hc10=>?_)
  ·
   have hc10':=hc10;try simp only [br,bR] at hc10'
   refine ae aa 3 rfl ?_
   refine az ?_
   refine bc ?_
   refine bc ?_
   refine an ?_
   refine an ?_
   refine bc ?_
   refine an ?_
   have hX:cP s=(⟨3,(↑q:Int)⟩:cW):=by
     unfold cP jS;rw [if_neg (by omega),if_neg (by omega),hi0_1,iC (c:=3) (by omega) (by unfold mE;simp only [hx1];rw [if_neg (by omega),if_pos (by omega)]) (by decide)]
   rw [hX] at hr;clear hX
   subst hr
   refine al aa [1] 0 rfl rfl rfl rfl rfl rfl ?_ ?_
   all_goals first|rfl|(simp [aw];done)|(simp [aw];omega)
  have hc10':=hc10;try simp only [br,bR] at hc10'
  refine aF aa 6 rfl ?_
  refine aA (cF rfl rfl rfl rfl rfl Try.underlying32) rfl ?_
  refine aA (aM rfl rfl rfl (aL (by first|omega|(simp;done)|(simp;omega)))) rfl ?_
  refine aA (aM rfl rfl rfl (aL (by first|omega|(simp;done)|(simp;omega)))) rfl ?_
  refine ad aa 1 rfl ?_
  refine aA (aM rfl rfl rfl (aL (by first|omega|(simp;done)|(simp;omega)))) rfl ?_
  refine ad aa 2 rfl ?_
  refine af ?_
  refine aj rfl (fun hc11=>?_) (fun hc11=>?_)
  ·
   have hc11':=of_decide_eq_true hc11
   refine ae aa 3 rfl ?_
   refine az ?_
   refine bc ?_
   refine bc ?_
   refine an ?_
   refine an ?_
   refine bc ?_
   refine an ?_
   have hX:cP s=(⟨2,(↑q:Int)⟩:cW):=by
     unfold cP jS;rw [if_neg (by omega),if_neg (by omega),hi0_1,iC (c:=2) (by omega) (by unfold mE;simp only [hx1];rw [if_neg (by omega),if_neg (by omega),if_pos (by omega)]) (by decide)]
   rw [hX] at hr;clear hX
   subst hr
   refine al aa [1] 0 rfl rfl rfl rfl rfl rfl ?_ ?_
   all_goals first|rfl|(simp [aw];done)|(simp [aw];omega)
  have hc11':=of_decide_eq_false hc11
  refine da ?_
  refine bm ?_
  refine bm ?_
  refine then_ok ?_
  refine ax ?_
  refine aA (aM rfl rfl rfl (aL (by first|omega|(simp;done)|(simp;omega)))) rfl ?_
  refine ad aa 1 rfl ?_
  refine af ?_
  refine ⟨q+1,⟨by omega,by rw [hi0_1];exact mR (by omega) (by unfold mE;simp only [hx1];rw [if_neg (by omega),if_neg (by omega),if_neg (by omega)])⟩,by first|omega|(simp;done)|(simp;omega),aH.ca id (by refine ⟨?_,?_,?_,?_,?_,trivial⟩<;>first|rfl|(simp only [bu];done)|(congr 3;omega)|(congr 4;omega)|(simp only [bw];rfl)) (by refine ⟨?_,?_,trivial⟩<;>first|rfl|(simp only [bu];done)|(congr 3;omega)|(congr 4;omega)|(simp only [bw];rfl)) rfl⟩
 have hc4':=of_decide_eq_false hc4
 refine cv ?_
 refine aU ?_
 refine aU ?_
 refine bS ?_
 refine then_ok ?_
 refine ae aa 2 rfl ?_
 refine az ?_
 have hX:cP s=(⟨0,0⟩:cW):=by
   unfold cP jS;rw [if_neg (by omega),if_neg (by omega),hi0_1,np (by omega)]
 rw [hX] at hr;clear hX
 subst hr
 refine al aa [1] 0 rfl rfl rfl rfl rfl rfl ?_ ?_
 all_goals first|rfl|(simp [aw];done)|(simp [aw];omega)

theorem sn (s:bY) (t:bo) (hI:∀ t∈s.kept,fj t.number) (x:bY) (e:Int) (hr:gP s t=(x,e)):Fn Try.prog 103 [(.g [(cI s.bX),(dj s.kept)]),(.g [(cI t.number),(cI t.kind),(cI t.ba),(cI t.sum)])] (.t [(.g [(cI x.bX),(.s 0 0 4 x.kept.length)]),(.c (cI e))]) [(0,(yn x.kept))]:=by
 refine Fn.mk' 40 [(0,(aG [(cI s.bX),(dj s.kept)])),(1,(aG [(cI t.number),(cI t.kind),(cI t.ba),(cI t.sum)]))] Try.func103 rfl rfl rfl rfl ?_
 intro W0 T0
 refine fr 0 1 rfl rfl (fun hlen0_1=>?_)
 have hrs:=@lF s
 refine ae aa 4 rfl ?_
 refine ag ?_
 refine aF aa 1 rfl ?_
 obtain ⟨f0,hr0⟩:∃ (f0:cW),cP s=f0:=⟨_,rfl⟩
 have hq0:(cP s).err=f0.err:=by rw [hr0]
 refine aQ 3 [2,1,0] (cb 3 (lZ s (by first|assumption|exact kG (by assumption) (by omega)|exact jG (by assumption) (by assumption)|(simp [fj];done)) f0 hr0) CP rfl rfl ⟨⟨_,rfl,.g ⟨.d _,.d _,trivial⟩⟩,trivial⟩ ⟨trivial,trivial,trivial⟩ trivial rfl rfl rfl rfl) rfl ?_
 refine ad aa 2 rfl ?_
 refine af ?_
 refine ae aa 3 rfl ?_
 refine aj rfl (fun hc1=>?_) (fun hc1=>?_)
 ·
  have hc1':=of_decide_eq_true hc1
  refine ag ?_
  refine df [2,3,4,6] [3,2,1,0] mixed rfl rfl ?_
  refine bT (kn:=[]) aa 5 rfl trivial ?_
  refine dU [2,3,4,5] [2,1,0] rfl rfl (by kernel_rfl) ?_
  refine then_ok ?_
  refine az ?_
  refine an ?_
  refine cm 2 1 80 4 rfl rfl rfl ?_
  have hX:gP s t=((⟨0,([]:List bo)⟩:bY),f0.err):=by
    unfold gP;rw [if_pos (by omega),hr0];rfl
  rw [hX] at hr;clear hX
  simp only [Prod.mk.injEq] at hr;obtain ⟨rfl,rfl⟩:=hr
  refine al aa [4,2] 1 rfl rfl rfl rfl rfl rfl ?_ ?_
  all_goals first|rfl|(simp [aw];done)|(simp [aw];omega)
 have hc1':=of_decide_eq_false hc1
 refine aS ?_
 refine aF aa 2 rfl ?_
 refine aA (aM rfl rfl rfl (aL (by first|omega|(simp;done)|(simp;omega)))) rfl ?_
 refine ad aa 2 rfl ?_
 refine af ?_
 refine ag ?_
 refine aX [2,3,4] [2,1,0] mixed rfl rfl ?_
 refine aD (kn:=[]) aa 2 rfl trivial ?_
 refine aT (n':=4) [22] [] rfl rfl (.inl ⟨(ak.plain rfl),aK.cast (aM rfl rfl rfl (aL (by first|omega|(simp;done)|(simp;omega)))) rfl⟩) rfl ?_
 refine aD (kn:=[]) aa 2 rfl trivial ?_
 refine aT (n':=5) [25] [] rfl rfl (.inl ⟨(ak.plain rfl),aK.cast (cb 4 (ma s.kept (by first|omega|(simp;done)|(simp;omega))) DL rfl rfl ⟨⟨_,rfl,.c (.d _)⟩,trivial⟩ trivial ⟨(fun _ _ _ _=>trivial),trivial⟩ rfl rfl rfl rfl) rfl⟩) rfl ?_
 refine aD (kn:=[]) aa 1 rfl trivial ?_
 refine aT (n':=6) [27] [] rfl rfl (.inl ⟨(ak.plain rfl),aK.cast (dV (ys:=[(0,(.g [(cI (s.bX+1)),(cI t.kind),(cI t.ba),(cI t.sum)]))]) (rows:=([(⟨s.bX+1,t.kind,t.ba,t.sum⟩:bo)]).map fM) 5 vp rfl (by decide) ⟨⟨rfl,rfl⟩,trivial⟩ rfl rfl rfl rfl) rfl⟩) rfl ?_
 refine aT (n':=7) [26,28] [5,4] rfl rfl (.inl ⟨(ak.plain rfl),aK.cast (dw (m:=1) (N:=s.kept.length+1) (k2:=6) (ys:=([(⟨s.bX+1,t.kind,t.ba,t.sum⟩:bo)]).map fM) vp rfl rfl rfl rfl rfl rfl (by first|omega|(simp;done)|(simp;omega)) rfl (.s rfl (by first|omega|(simp;done)|(simp;omega))) (by first|omega|(simp;done)|(simp;omega)) (by first|omega|(simp;done)|(simp;omega)) fz (by decide) (by first|omega|(simp;done)|(simp;omega)) (by first|omega|(simp;done)|(simp;omega))) rfl⟩) rfl ?_
 refine aD (n':=8) (kn:=[]) aa 2 rfl trivial ?_
 refine bA [7,6,2,1,0] rfl rfl rfl rfl (by kernel_rfl) ?_
 refine ad aa 1 rfl ?_
 refine af ?_
 refine ag ?_
 refine aF aa 1 rfl ?_
 obtain ⟨f1,hr1⟩:∃ (f1:cW),cP (⟨s.bX+1,s.kept++([(⟨s.bX+1,t.kind,t.ba,t.sum⟩:bo)])⟩:bY)=f1:=⟨_,rfl⟩
 have hq1:(cP (⟨s.bX+1,s.kept++([(⟨s.bX+1,t.kind,t.ba,t.sum⟩:bo)])⟩:bY)).err=f1.err:=by rw [hr1]
 refine aQ 8 [7,6,2,1,0] (fe 8 [6] (lZ (⟨s.bX+1,s.kept++([(⟨s.bX+1,t.kind,t.ba,t.sum⟩:bo)])⟩:bY) (by first|assumption|exact kG (by assumption) (by omega)|exact jG (by assumption) (by assumption)|(simp [fj];done)) f1 hr1) CP rfl rfl ⟨⟨_,rfl,.g ⟨.d _,.s rfl (by decide) (by first|omega|(simp;done)|(simp;omega)),trivial⟩⟩,trivial⟩ ⟨rfl,rfl,trivial⟩ trivial rfl rfl rfl rfl) rfl ?_
 refine ad aa 2 rfl ?_
 refine af ?_
 refine ae aa 3 rfl ?_
 refine aj rfl (fun hc2=>?_) (fun hc2=>?_)
 ·
  have hc2':=of_decide_eq_true hc2
  refine ag ?_
  refine df [4,7,8] [8,7,6,2] mixed rfl rfl ?_
  refine bT (kn:=[]) aa 5 rfl trivial ?_
  refine dU [4,7,5] [2,7,6] rfl rfl (by kernel_rfl) ?_
  refine then_ok ?_
  refine az ?_
  refine an ?_
  refine cm 2 1 80 4 rfl rfl rfl ?_
  have hX:gP s t=((⟨0,([]:List bo)⟩:bY),f1.err):=by
    have hout:cP (lV s t)=f1:=hr1
    unfold gP;rw [if_neg (by omega),if_pos (by rw [hout];omega),hout];rfl
  rw [hX] at hr;clear hX
  simp only [Prod.mk.injEq] at hr;obtain ⟨rfl,rfl⟩:=hr
  refine al aa [9,2] 1 rfl rfl rfl rfl rfl rfl ?_ ?_
  all_goals first|rfl|(simp [aw];done)|(simp [aw];omega)
 have hc2':=of_decide_eq_false hc2
 refine aS ?_
 refine ae aa 3 rfl ?_
 refine az ?_
 have hX:gP s t=((⟨s.bX+1,s.kept++([(⟨s.bX+1,t.kind,t.ba,t.sum⟩:bo)])⟩:bY),0):=by
   have hout:cP (lV s t)=f1:=hr1
   unfold gP;rw [if_neg (by omega),if_neg (by rw [hout];omega)];rfl
 rw [hX] at hr;clear hX
 simp only [Prod.mk.injEq] at hr;obtain ⟨rfl,rfl⟩:=hr
 refine al aa [6,2] 1 rfl rfl rfl rfl rfl rfl ?_ ?_
 all_goals first|rfl|(simp [aw];done)|(simp [aw];omega)
theorem qu (seen:Int) (t:bo) (n:Int) (ok:Bool) (hr:iB seen t=(n,ok)):Fn Try.prog 88 [(.c (cI seen)),(.g [(cI t.number),(cI t.kind),(cI t.ba),(cI t.sum)])] (.t [(.c (cI n)),(.c (cB ok))]) []:=by
 refine Fn.mk' 22 [(0,(aI seen)),(1,(aG [(cI t.number),(cI t.kind),(cI t.ba),(cI t.sum)]))] Try.func88 rfl rfl rfl rfl ?_
 intro W0 T0
 refine ae aa 3 rfl ?_
 refine ag ?_
 refine cw 18 (((decide (seen < 0))||(decide (seen>=1000000)))||(decide (¬t.number=(seen+1)))) ?_ ?_
 ·
  refine ax ?_
  refine ad aa 3 rfl ?_
  refine bE (t:=8) rfl (fun hb1=>?_) (fun hb1=>?_)
  ·
   have hb1':=of_decide_eq_true hb1
   refine ad aa 10 rfl ?_
   refine af ?_
   exact aH.bD 14 rfl rfl (by first|(simp [hb1];done)|(simp_all;done)|(exfalso;simp_all;done)|(simp_all;omega)) rfl
  have hb1':=of_decide_eq_false hb1
  refine ad aa 4 rfl ?_
  refine bE (t:=12) rfl (fun hb2=>?_) (fun hb2=>?_)
  ·
   have hb2':=of_decide_eq_true hb2
   refine ad aa 6 rfl ?_
   refine af ?_
   exact aH.bD 15 rfl rfl (by first|(simp [hb1,hb2];done)|(simp_all;done)|(exfalso;simp_all;done)|(simp_all;omega)) rfl
  have hb2':=of_decide_eq_false hb2
  refine ad aa 3 rfl ?_
  refine dA (ak.yes rfl rfl rfl) (aM rfl rfl rfl (aL (by first|omega|(simp;done)|(simp;omega)))) rfl rfl ?_
  refine ad aa 2 rfl ?_
  refine af ?_
  exact aH.bD 15 rfl rfl (by first|(simp [hb1,hb2];done)|(simp_all;done)|(exfalso;simp_all;done)|(simp_all;omega)) rfl
 refine aj rfl (fun hc3=>?_) (fun hc3=>?_)
 ·
  have hc3':=hc3;try simp only [br,bR] at hc3'
  refine ae aa 3 rfl ?_
  refine az ?_
  refine an ?_
  have hX:iB seen t=(seen,false):=by
    (unfold iB;try dsimp only);(repeat' split)<;>first|rfl|omega|(exfalso;omega)|(subst_vars;rfl)|(simp_all;done)|(simp_all;omega)
  rw [hX] at hr;clear hX
  simp only [Prod.mk.injEq] at hr;obtain ⟨rfl,rfl⟩:=hr
  refine al aa [] 0 rfl rfl rfl rfl rfl rfl ?_ ?_
  all_goals first|rfl|(simp [aw];done)|(simp [aw];omega)
 have hc3':=hc3;try simp only [br,bR] at hc3'
 refine aS ?_
 refine aF aa 1 rfl ?_
 refine aA (aM rfl rfl rfl (aL (by first|omega|(simp;done)|(simp;omega)))) rfl ?_
 refine ad aa 2 rfl ?_
 refine af ?_
 refine az ?_
 have hX:iB seen t=(seen+1,true):=by
   (unfold iB;try dsimp only);(repeat' split)<;>first|rfl|omega|(exfalso;omega)|(subst_vars;rfl)|(simp_all;done)|(simp_all;omega)
 rw [hX] at hr;clear hX
 simp only [Prod.mk.injEq] at hr;obtain ⟨rfl,rfl⟩:=hr
 refine al aa [] 0 rfl rfl rfl rfl rfl rfl ?_ ?_
 all_goals first|rfl|(simp [aw];done)|(simp [aw];omega)

theorem EA (t:bo) (seen:Int):Fn Try.prog 107 [(.g [(cI t.number),(cI t.kind),(cI t.ba),(cI t.sum)]),(.c (.q ([dI seen]) 0))] (aB (came seen t)) []:=by
 refine Fn.mk' 8 [(0,(aG [(cI t.number),(cI t.kind),(cI t.ba),(cI t.sum)])),(1,(aC (.q ([dI seen]) 0)))] Try.func107 rfl rfl rfl rfl ?_
 intro W0 T0
 refine ae aa 2 rfl ?_
 refine ae aa 5 rfl ?_
 refine az ?_
 refine al aa [] 0 rfl rfl rfl rfl rfl rfl ?_ ?_
 all_goals first|rfl|(simp [aw];done)|(simp [aw];omega)
theorem qv (s:bY) (seen:Int) (hI:∀ t∈s.kept,fj t.number) (x:bY) (e:Int) (hr:ej s seen=(x,e)):Fn Try.prog 86 [(.g [(cI s.bX),(dj s.kept)]),(.c (cI seen))] (.t [(.g [(cI x.bX),(.s 0 0 4 x.kept.length)]),(.c (cI e))]) [(0,(yn x.kept))]:=by
 refine Fn.mk' 32 [(0,(aG [(cI s.bX),(dj s.kept)])),(1,(aI seen))] Try.func86 rfl rfl rfl rfl ?_
 intro W0 T0
 refine fr 0 1 rfl rfl (fun hlen0_1=>?_)
 have hrs:=@lF s
 refine ae aa 4 rfl ?_
 refine ag ?_
 refine aF aa 1 rfl ?_
 obtain ⟨f0,hr0⟩:∃ (f0:cW),cP s=f0:=⟨_,rfl⟩
 have hq0:(cP s).err=f0.err:=by rw [hr0]
 refine aQ 3 [2,1,0] (cb 3 (lZ s (by first|assumption|exact kG (by assumption) (by omega)|exact jG (by assumption) (by assumption)|(simp [fj];done)) f0 hr0) CP rfl rfl ⟨⟨_,rfl,.g ⟨.d _,.d _,trivial⟩⟩,trivial⟩ ⟨trivial,trivial,trivial⟩ trivial rfl rfl rfl rfl) rfl ?_
 refine ad aa 2 rfl ?_
 refine af ?_
 refine ae aa 3 rfl ?_
 refine aj rfl (fun hc1=>?_) (fun hc1=>?_)
 ·
  have hc1':=of_decide_eq_true hc1
  refine ag ?_
  refine df [2,3,4,6] [3,2,1,0] mixed rfl rfl ?_
  refine bT (kn:=[]) aa 5 rfl trivial ?_
  refine dU [2,3,4,5] [2,1,0] rfl rfl (by kernel_rfl) ?_
  refine then_ok ?_
  refine az ?_
  refine an ?_
  refine cm 2 1 80 4 rfl rfl rfl ?_
  have hX:ej s seen=((⟨0,([]:List bo)⟩:bY),f0.err):=by
    unfold ej;rw [if_pos (by omega),hr0];rfl
  rw [hX] at hr;clear hX
  simp only [Prod.mk.injEq] at hr;obtain ⟨rfl,rfl⟩:=hr
  refine al aa [4,2] 1 rfl rfl rfl rfl rfl rfl ?_ ?_
  all_goals first|rfl|(simp [aw];done)|(simp [aw];omega)
 have hc1':=of_decide_eq_false hc1
 refine aS ?_
 refine ag ?_
 refine cw 22 ((decide (seen < 0))||(decide (seen > s.bX))) ?_ ?_
 ·
  refine ax ?_
  refine ad aa 3 rfl ?_
  refine bE (t:=17) rfl (fun hb2=>?_) (fun hb2=>?_)
  ·
   have hb2':=of_decide_eq_true hb2
   refine ad aa 5 rfl ?_
   refine af ?_
   exact aH.bD 9 rfl rfl (by first|(simp [hb2];done)|(simp_all;done)|(exfalso;simp_all;done)|(simp_all;omega)) rfl
  have hb2':=of_decide_eq_false hb2
  refine ad aa 5 rfl ?_
  refine af ?_
  exact aH.bD 9 rfl rfl (by first|(simp [hb2];done)|(simp_all;done)|(exfalso;simp_all;done)|(simp_all;omega)) rfl
 refine aj rfl (fun hc3=>?_) (fun hc3=>?_)
 ·
  have hc3':=hc3;try simp only [br,bR] at hc3'
  refine ae aa 3 rfl ?_
  refine az ?_
  refine an ?_
  refine cm 2 1 80 4 rfl rfl rfl ?_
  have hX:ej s seen=((⟨0,([]:List bo)⟩:bY),3):=by
    unfold ej;rw [if_neg (by omega),if_pos (by omega)];rfl
  rw [hX] at hr;clear hX
  simp only [Prod.mk.injEq] at hr;obtain ⟨rfl,rfl⟩:=hr
  refine al aa [4,2] 1 rfl rfl rfl rfl rfl rfl ?_ ?_
  all_goals first|rfl|(simp [aw];done)|(simp [aw];omega)
 have hc3':=hc3;try simp only [br,bR] at hc3'
 refine aS ?_
 refine ag ?_
 obtain ⟨r1,hr1⟩:∃ (r1:List bo),dP (came seen) s.kept=r1:=⟨_,rfl⟩
 refine aX [2,3,4] [2,1,0] mixed rfl rfl ?_
 refine aD (kn:=[]) aa 4 rfl trivial ?_
 refine aT (n':=5) [27] [] rfl rfl (.inl ⟨(ak.plain rfl),aK.cast (cb 4 (ma s.kept (by first|omega|(simp;done)|(simp;omega))) DL rfl rfl ⟨⟨_,rfl,.c (.d _)⟩,trivial⟩ trivial ⟨(fun _ _ _ _=>trivial),trivial⟩ rfl rfl rfl rfl) rfl⟩) rfl ?_
 refine aT (n':=5) [3] [] rfl rfl (.inl ⟨(ak.plain rfl),aK.cast (wc (ks:=[1]) rfl ⟨rfl,trivial⟩) rfl⟩) rfl ?_
 refine aT (n':=6) [28,29] [1,4] rfl rfl (.inl ⟨(ak.plain rfl),aK.cast (we (bf [4]) (bf [5]) [1] (pT s.kept 107 ([[(dI seen)]]) (came seen) (fun x=>EA x seen) Hc r1 hr1) Hd rfl rfl ⟨⟨_,rfl,.inl ⟨rfl,rfl⟩⟩,⟨_,rfl,.inr (.c (.fn ⟨⟨by decide,_,rfl⟩,trivial⟩))⟩,trivial⟩ ⟨rfl,trivial⟩ rfl rfl rfl rfl rfl rfl rfl rfl trivial ⟨(uI _),trivial⟩ rfl rfl rfl rfl) rfl⟩) rfl ?_
 refine aD (kn:=[]) aa 1 rfl trivial ?_
 refine bA [5,2,1,0] rfl rfl rfl rfl (by kernel_rfl) ?_
 refine ad aa 2 rfl ?_
 refine af ?_
 refine az ?_
 have hX:ej s seen=((⟨s.bX,r1⟩:bY),0):=by
   unfold ej;rw [if_neg (by omega),if_neg (by omega),hr1]
 rw [hX] at hr;clear hX
 simp only [Prod.mk.injEq] at hr;obtain ⟨rfl,rfl⟩:=hr
 refine al aa [5,2] 1 rfl rfl rfl rfl rfl rfl ?_ ?_
 all_goals first|rfl|(simp [aw];done)|(simp [aw];omega)


theorem HK {a b c d x:Int} {q:Nat} (h:[a,b,c,d][q]?=some x):(q=0/\x=a)\/(q=1/\x=b)\/(q=2/\x=c)\/(q=3/\x=d):=by
  match q with
  |0=>left;simp_all
  |1=>right;left;simp_all
  |2=>right;right;left;simp_all
  |3=>right;right;right;simp_all
  |q+4=>simp at h

theorem ph (a:bC) (e:Int) (hr:bL a=e):Fn Try.prog 26 [(.g [(cI a.aO),(cI a.aE),(cI a.sum),(cI a.captured),(cI a.bB),(cI a.bq),(cI a.dc),(cB a.shut)])] (.v (.c (cI e))) []:=by
 refine Fn.mk' 71 [(0,(aG [(cI a.aO),(cI a.aE),(cI a.sum),(cI a.captured),(cI a.bB),(cI a.bq),(cI a.dc),(cB a.shut)]))] Try.func26 rfl rfl rfl rfl ?_
 intro W0 T0
 refine ae aa 2 rfl ?_
 refine ag ?_
 refine aF aa 8 rfl ?_
 refine aQ 2 [1,0] (dV (ys:=[(0,(.c (cI a.sum))),(1,(.c (cI a.captured))),(2,(.c (cI a.bB))),(3,(.c (cI a.bq)))]) (rows:=([a.sum,a.captured,a.bB,a.bq]).map rI) 1 nm rfl (by decide) ⟨⟨rfl,rfl⟩,⟨rfl,rfl⟩,⟨rfl,rfl⟩,⟨rfl,rfl⟩,trivial⟩ rfl rfl rfl rfl) rfl ?_
 refine aA (dz rfl rfl rfl rfl rfl Try.underlying30) rfl ?_
 refine ad aa 1 rfl ?_
 refine af ?_
 refine aY ?_
 refine cE (β:=Nat) (fun (q:Nat)=>⟨[(1,(aC (.p 0 0 0 0))),(13,(aC (.s 1 0 1 4))),(14,(aI 4)),(15,(aI (↑q:Int)))],[(1,(dM ([a.sum,a.captured,a.bB,a.bq]))),(0,(.box 67 [(cI a.aO),(cI a.aE),(cI a.sum),(cI a.captured),(cI a.bB),(cI a.bq),(cI a.dc),(cB a.shut)]))],2⟩) (fun (q:Nat)=>q<=4/\(0 < q->0<=a.sum/\a.sum<=1000000)/\(1 < q->0<=a.captured/\a.captured<=1000000)/\(2 < q->0<=a.bB/\a.bB<=1000000)/\(3 < q->0<=a.bq/\a.bq<=1000000)) (fun (q:Nat)=>4 - q) 0 ?_ ?_ ?_
 ·exact ⟨by omega,by omega,by omega,by omega,by omega⟩
 ·exact aH.ca id (by refine ⟨?_,?_,?_,?_,trivial⟩<;>first|rfl|(simp only [bu];done)|(congr 3;omega)|(congr 4;omega)|(simp only [bw];rfl)) (by refine ⟨?_,?_,trivial⟩<;>first|rfl|(simp only [bu];done)|(congr 3;omega)|(congr 4;omega)|(simp only [bw];rfl)) rfl
 rintro q ⟨hi0_0,hi0_1,hi0_2,hi0_3,hi0_4⟩
 refine ae aa 1 rfl ?_
 refine ag ?_
 refine aj rfl (fun hc1=>?_) (fun hc1=>?_)
 ·
  have hc1':=of_decide_eq_true hc1
  refine aS ?_
  refine ag ?_
  refine aY ?_
  refine eR ?_
  refine aA (bz (i:=q) rfl rfl rfl Try.underlying30 gF (by first|omega|(simp;done)|(simp;omega)) (by first|omega|(simp;done)|(simp;omega))) rfl ?_
  obtain ⟨x1,hx1⟩:=cf (xs:=([a.sum,a.captured,a.bB,a.bq]:List Int)) (i:=q) (by first|omega|(simp;done)|(simp;omega))
  have hx1v:=HK hx1
  refine aA (eS rfl rfl rfl Try.underlying3 rfl (bp hx1) rfl) rfl ?_
  refine ad aa 1 rfl ?_
  refine af ?_
  refine cw 24 ((decide (x1 < 0))||(decide (x1 > 1000000))) ?_ ?_
  ·
   refine ax ?_
   refine ad aa 3 rfl ?_
   refine bE (t:=21) rfl (fun hb2=>?_) (fun hb2=>?_)
   ·
    have hb2':=of_decide_eq_true hb2
    refine ad aa 3 rfl ?_
    refine af ?_
    exact aH.bD 7 rfl rfl (by first|(simp [hb2];done)|(simp_all;done)|(exfalso;simp_all;done)|(simp_all;omega)) rfl
   have hb2':=of_decide_eq_false hb2
   refine ad aa 3 rfl ?_
   refine af ?_
   exact aH.bD 7 rfl rfl (by first|(simp [hb2];done)|(simp_all;done)|(exfalso;simp_all;done)|(simp_all;omega)) rfl
  refine aj rfl (fun hc3=>?_) (fun hc3=>?_)
  ·
   have hc3':=hc3;try simp only [br,bR] at hc3'
   refine ae aa 1 rfl ?_
   refine az ?_
   refine bc ?_
   refine an ?_
   refine an ?_
   refine bc ?_
   refine an ?_
   have hX:bL a=3:=by
     (unfold bL;try dsimp only);(repeat' split)<;>first|rfl|omega|(exfalso;omega)|(subst_vars;rfl)|(simp_all;done)|(simp_all;omega)
   rw [hX] at hr;clear hX
   subst hr
   refine al aa [] 0 rfl rfl rfl rfl rfl rfl ?_ ?_
   all_goals first|rfl|(simp [aw];done)|(simp [aw];omega)
  have hc3':=hc3;try simp only [br,bR] at hc3'
  refine da ?_
  refine bm ?_
  refine then_ok ?_
  refine ax ?_
  refine aA (aM rfl rfl rfl (aL (by first|omega|(simp;done)|(simp;omega)))) rfl ?_
  refine ad aa 1 rfl ?_
  refine af ?_
  refine ⟨q+1,⟨by omega,by omega,by omega,by omega,by omega⟩,by first|omega|(simp;done)|(simp;omega),aH.ca id (by refine ⟨?_,?_,?_,?_,trivial⟩<;>first|rfl|(simp only [bu];done)|(congr 3;omega)|(congr 4;omega)|(simp only [bw];rfl)) (by refine ⟨?_,?_,trivial⟩<;>first|rfl|(simp only [bu];done)|(congr 3;omega)|(congr 4;omega)|(simp only [bw];rfl)) rfl⟩
 have hc1':=of_decide_eq_false hc1
 refine cv ?_
 refine aU ?_
 refine aU ?_
 refine bS ?_
 refine then_ok ?_
 refine ag ?_
 refine aY ?_
 refine cw 26 ((((((decide (a.aO < 0))||(decide (a.aO>=8)))||(decide (a.aE < 0)))||(decide (a.aE>=8)))||(decide (a.dc < 0)))||(decide (a.dc > 1000100))) ?_ ?_
 ·
  refine ax ?_
  refine ad aa 4 rfl ?_
  refine bE (t:=30) rfl (fun hb4=>?_) (fun hb4=>?_)
  ·
   have hb4':=of_decide_eq_true hb4
   refine ad aa 25 rfl ?_
   refine af ?_
   exact aH.bD 30 rfl rfl (by first|(simp [hb4];done)|(simp_all;done)|(exfalso;simp_all;done)|(simp_all;omega)) rfl
  have hb4':=of_decide_eq_false hb4
  refine ad aa 5 rfl ?_
  refine bE (t:=35) rfl (fun hb5=>?_) (fun hb5=>?_)
  ·
   have hb5':=of_decide_eq_true hb5
   refine ad aa 20 rfl ?_
   refine af ?_
   exact aH.bD 31 rfl rfl (by first|(simp [hb4,hb5];done)|(simp_all;done)|(exfalso;simp_all;done)|(simp_all;omega)) rfl
  have hb5':=of_decide_eq_false hb5
  refine ad aa 5 rfl ?_
  refine bE (t:=40) rfl (fun hb6=>?_) (fun hb6=>?_)
  ·
   have hb6':=of_decide_eq_true hb6
   refine ad aa 15 rfl ?_
   refine af ?_
   exact aH.bD 32 rfl rfl (by first|(simp [hb4,hb5,hb6];done)|(simp_all;done)|(exfalso;simp_all;done)|(simp_all;omega)) rfl
  have hb6':=of_decide_eq_false hb6
  refine ad aa 5 rfl ?_
  refine bE (t:=45) rfl (fun hb7=>?_) (fun hb7=>?_)
  ·
   have hb7':=of_decide_eq_true hb7
   refine ad aa 10 rfl ?_
   refine af ?_
   exact aH.bD 33 rfl rfl (by first|(simp [hb4,hb5,hb6,hb7];done)|(simp_all;done)|(exfalso;simp_all;done)|(simp_all;omega)) rfl
  have hb7':=of_decide_eq_false hb7
  refine ad aa 5 rfl ?_
  refine bE (t:=50) rfl (fun hb8=>?_) (fun hb8=>?_)
  ·
   have hb8':=of_decide_eq_true hb8
   refine ad aa 5 rfl ?_
   refine af ?_
   exact aH.bD 34 rfl rfl (by first|(simp [hb4,hb5,hb6,hb7,hb8];done)|(simp_all;done)|(exfalso;simp_all;done)|(simp_all;omega)) rfl
  have hb8':=of_decide_eq_false hb8
  refine ad aa 5 rfl ?_
  refine af ?_
  exact aH.bD 34 rfl rfl (by first|(simp [hb4,hb5,hb6,hb7,hb8];done)|(simp_all;done)|(exfalso;simp_all;done)|(simp_all;omega)) rfl
 refine aj rfl (fun hc9=>?_) (fun hc9=>?_)
 ·
  have hc9':=hc9;try simp only [br,bR] at hc9'
  refine ae aa 1 rfl ?_
  refine az ?_
  refine bc ?_
  refine an ?_
  have hX:bL a=3:=by
    (unfold bL;try dsimp only);(repeat' split)<;>first|rfl|omega|(exfalso;omega)|(subst_vars;rfl)|(simp_all;done)|(simp_all;omega)
  rw [hX] at hr;clear hX
  subst hr
  refine al aa [] 0 rfl rfl rfl rfl rfl rfl ?_ ?_
  all_goals first|rfl|(simp [aw];done)|(simp [aw];omega)
 have hc9':=hc9;try simp only [br,bR] at hc9'
 refine cw 55 ((decide (a.captured > a.sum))||(decide ((a.bB+a.bq) > a.captured))) ?_ ?_
 ·
  refine ax ?_
  refine ad aa 6 rfl ?_
  refine bE (t:=61) rfl (fun hb10=>?_) (fun hb10=>?_)
  ·
   have hb10':=of_decide_eq_true hb10
   refine ad aa 10 rfl ?_
   refine af ?_
   exact aH.bD 17 rfl rfl (by first|(simp [hb10];done)|(simp_all;done)|(exfalso;simp_all;done)|(simp_all;omega)) rfl
  have hb10':=of_decide_eq_false hb10
  refine ad aa 4 rfl ?_
  refine dA (ak.yes rfl rfl rfl) (aM rfl rfl rfl (aL (by first|omega|(simp;done)|(simp;omega)))) rfl rfl ?_
  refine ad aa 5 rfl ?_
  refine af ?_
  exact aH.bD 17 rfl rfl (by first|(simp [hb10];done)|(simp_all;done)|(exfalso;simp_all;done)|(simp_all;omega)) rfl
 refine aj rfl (fun hc11=>?_) (fun hc11=>?_)
 ·
  have hc11':=hc11;try simp only [br,bR] at hc11'
  refine ae aa 1 rfl ?_
  refine az ?_
  refine bc ?_
  refine an ?_
  have hX:bL a=8:=by
    (unfold bL;try dsimp only);(repeat' split)<;>first|rfl|omega|(exfalso;omega)|(subst_vars;rfl)|(simp_all;done)|(simp_all;omega)
  rw [hX] at hr;clear hX
  subst hr
  refine al aa [] 0 rfl rfl rfl rfl rfl rfl ?_ ?_
  all_goals first|rfl|(simp [aw];done)|(simp [aw];omega)
 have hc11':=hc11;try simp only [br,bR] at hc11'
 refine da ?_
 refine bm ?_
 refine then_ok ?_
 refine ae aa 1 rfl ?_
 refine az ?_
 have hX:bL a=0:=by
   (unfold bL;try dsimp only);(repeat' split)<;>first|rfl|omega|(exfalso;omega)|(subst_vars;rfl)|(simp_all;done)|(simp_all;omega)
 rw [hX] at hr;clear hX
 subst hr
 refine al aa [] 0 rfl rfl rfl rfl rfl rfl ?_ ?_
 all_goals first|rfl|(simp [aw];done)|(simp [aw];omega)
theorem ss (aO aE n time:Int) (b:bC) (e:Int) (hr:dr aO aE n time=(b,e)):Fn Try.prog 79 [(.c (cI aO)),(.c (cI aE)),(.c (cI n)),(.c (cI time))] (.t [(.g [(cI b.aO),(cI b.aE),(cI b.sum),(cI b.captured),(cI b.bB),(cI b.bq),(cI b.dc),(cB b.shut)]),(.c (cI e))]) []:=by
 refine Fn.mk' 40 [(0,(aI aO)),(1,(aI aE)),(2,(aI n)),(3,(aI time))] Try.func79 rfl rfl rfl rfl ?_
 intro W0 T0
 refine ae aa 2 rfl ?_
 refine ag ?_
 refine cw 25 ((((decide (n < 1))||(decide (n > 1000000)))||(decide (time < 0)))||(decide (time > 1000000))) ?_ ?_
 ·
  refine ax ?_
  refine ad aa 3 rfl ?_
  refine bE (t:=14) rfl (fun hb1=>?_) (fun hb1=>?_)
  ·
   have hb1':=of_decide_eq_true hb1
   refine ad aa 11 rfl ?_
   refine af ?_
   exact aH.bD 15 rfl rfl (by first|(simp [hb1];done)|(simp_all;done)|(exfalso;simp_all;done)|(simp_all;omega)) rfl
  have hb1':=of_decide_eq_false hb1
  refine ad aa 4 rfl ?_
  refine bE (t:=18) rfl (fun hb2=>?_) (fun hb2=>?_)
  ·
   have hb2':=of_decide_eq_true hb2
   refine ad aa 7 rfl ?_
   refine af ?_
   exact aH.bD 16 rfl rfl (by first|(simp [hb1,hb2];done)|(simp_all;done)|(exfalso;simp_all;done)|(simp_all;omega)) rfl
  have hb2':=of_decide_eq_false hb2
  refine ad aa 4 rfl ?_
  refine bE (t:=22) rfl (fun hb3=>?_) (fun hb3=>?_)
  ·
   have hb3':=of_decide_eq_true hb3
   refine ad aa 3 rfl ?_
   refine af ?_
   exact aH.bD 17 rfl rfl (by first|(simp [hb1,hb2,hb3];done)|(simp_all;done)|(exfalso;simp_all;done)|(simp_all;omega)) rfl
  have hb3':=of_decide_eq_false hb3
  refine ad aa 3 rfl ?_
  refine af ?_
  exact aH.bD 17 rfl rfl (by first|(simp [hb1,hb2,hb3];done)|(simp_all;done)|(exfalso;simp_all;done)|(simp_all;omega)) rfl
 refine aj rfl (fun hc4=>?_) (fun hc4=>?_)
 ·
  have hc4':=hc4;try simp only [br,bR] at hc4'
  refine ae aa 3 rfl ?_
  refine az ?_
  refine an ?_
  have hX:dr aO aE n time=((⟨0,0,0,0,0,0,0,false⟩:bC),3):=by
    (try (unfold bL at hr0;dsimp only at hr0;(repeat' split at hr0)))<;>((unfold dr;try dsimp only);(repeat' split)<;>first|rfl|omega|(exfalso;omega)|(subst_vars;rfl)|(simp_all;done)|(simp_all;omega))
  rw [hX] at hr;clear hX
  simp only [Prod.mk.injEq] at hr;obtain ⟨rfl,rfl⟩:=hr
  refine al aa [0] 0 rfl rfl rfl rfl rfl rfl ?_ ?_
  all_goals first|rfl|(simp [aw];done)|(simp [aw];omega)
 have hc4':=hc4;try simp only [br,bR] at hc4'
 refine aS ?_
 refine aF aa 4 rfl ?_
 refine aA (aM rfl rfl rfl (aL (by first|omega|(simp;done)|(simp;omega)))) rfl ?_
 refine ad aa 3 rfl ?_
 refine af ?_
 refine ag ?_
 refine aF aa 1 rfl ?_
 obtain ⟨e0,hr0⟩:∃ (e0:Int),bL (⟨aO,aE,n,0,0,0,time+100,false⟩:bC)=e0:=⟨_,rfl⟩
 refine aQ 2 [1,0] (cb 2 (ph (⟨aO,aE,n,0,0,0,time+100,false⟩:bC) e0 hr0) FX rfl rfl ⟨⟨_,rfl,.g ⟨.d _,.d _,.d _,.d _,.d _,.d _,.d _,.d _,trivial⟩⟩,trivial⟩ trivial trivial rfl rfl rfl rfl) rfl ?_
 refine ad aa 1 rfl ?_
 refine af ?_
 refine ae aa 2 rfl ?_
 refine aj rfl (fun hc5=>?_) (fun hc5=>?_)
 ·
  have hc5':=of_decide_eq_true hc5
  refine ae aa 4 rfl ?_
  refine az ?_
  refine an ?_
  have hX:dr aO aE n time=((⟨0,0,0,0,0,0,0,false⟩:bC),e0):=by
    (try (unfold bL at hr0;dsimp only at hr0;(repeat' split at hr0)))<;>((unfold dr;try dsimp only);(repeat' split)<;>first|rfl|omega|(exfalso;omega)|(subst_vars;rfl)|(simp_all;done)|(simp_all;omega))
  rw [hX] at hr;clear hX
  simp only [Prod.mk.injEq] at hr;obtain ⟨rfl,rfl⟩:=hr
  refine al aa [0] 0 rfl rfl rfl rfl rfl rfl ?_ ?_
  all_goals first|rfl|(simp [aw];done)|(simp [aw];omega)
 have hc5':=of_decide_eq_false hc5
 refine aS ?_
 refine ae aa 3 rfl ?_
 refine az ?_
 have hX:dr aO aE n time=((⟨aO,aE,n,0,0,0,time+100,false⟩:bC),0):=by
   (try (unfold bL at hr0;dsimp only at hr0;(repeat' split at hr0)))<;>((unfold dr;try dsimp only);(repeat' split)<;>first|rfl|omega|(exfalso;omega)|(subst_vars;rfl)|(simp_all;done)|(simp_all;omega))
 rw [hX] at hr;clear hX
 simp only [Prod.mk.injEq] at hr;obtain ⟨rfl,rfl⟩:=hr
 refine al aa [0] 0 rfl rfl rfl rfl rfl rfl ?_ ?_
 all_goals first|rfl|(simp [aw];done)|(simp [aw];omega)
end Go.Proofs.Ytegepioggeggaaa.Dev
