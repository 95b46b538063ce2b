/- A part of the proof: Pace5, Pace6, Card1, Card2, Card3, Card4, Del2, Post1, Post2, Post3, Auth1. No condition. -/
import Derived.Test.YtegepioggeggaaaD06
import Derived.Test.YtegepioggeggaaaD04
import Derived.Test.YtegepioggeggaaaD03
import Derived.Test.YtegepioggeggaaaD05
import Derived.Test.YtegepioggeggaaaD01
import Derived.Test.YtegepioggeggaaaD02
set_option linter.unusedVariables false
set_option linter.unusedSimpArgs false
namespace Go.Proofs.Ytegepioggeggaaa.Dev
open Go.RowKit

set_option maxRecDepth 100000 in
set_option maxHeartbeats 1000000 in
theorem c_pace_Add (p:Pace) (l:List Use) (x:Use) (r:List Use) (e:Int) (hr:addUse p l x=(r,e)):Fn Try.prog 100 [(.g [(cI p.ticks),(cI p.count),(cI p.sum)]),(.c (vlU l)),(.g [(cI x.time),(cI x.sum)])] (.t [(.c (.s 0 0 2 r.length)),(.c (cI e))]) [(0,(alU r))]:=by
 refine Fn.mk' 87 [(0,(aG [(cI p.ticks),(cI p.count),(cI p.sum)])),(1,(aC (vlU l))),(2,(aG [(cI x.time),(cI x.sum)]))] Try.func100 rfl rfl rfl rfl ?_
 intro W0 T0
 refine AC.len1 1 rfl (fun hlen1=>?_)
 have hrp:=@rightP p
 have hru:(usesF l).err=0->l.length<=30:=fun h=>(rightU h).1
 have hrx:(usesF [x]).err=0->0<=x.time/\x.time<=1000000/\0<=x.sum/\x.sum<=1000000:=fun h=>(@rightU [x] h).2 x (by simp)
 refine AC.goes ttk 4 rfl ?_
 refine AC.seq ?_
 refine AC.go ttk 1 rfl ?_
 obtain ⟨e0,hr0⟩:∃ (e0:Int),wrongP p=e0:=⟨_,rfl⟩
 refine AL.cn 2 [1,0] (g_call 2 (c_pace_WrongN p e0 hr0) en44 rfl rfl ⟨⟨_,rfl,.g ⟨.d _,.d _,.d _,trivial⟩⟩,trivial⟩ trivial trivial rfl rfl rfl rfl) rfl ?_
 refine AL.runs ttk 1 rfl ?_
 refine AL.nx ?_
 refine AC.goes ttk 2 rfl ?_
 refine AC.cond rfl (fun hc1=>?_) (fun hc1=>?_)
 ·
  have hc1':=of_decide_eq_true hc1
  refine AC.goes ttk 3 rfl ?_
  refine AC.ret ?_
  refine then_ret ?_
  refine retQ_weak (Weak.nil 6 125 2 (by decide) rfl) ?_
  have hX:addUse p l x=(([]:List Use),e0):=by
    unfold addUse;rw [if_pos (by omega),hr0]
  rw [hX] at hr;clear hX
  simp only [Prod.mk.injEq] at hr;obtain ⟨rfl,rfl⟩:=hr
  refine retQ_go ttk [2] 1 rfl rfl rfl rfl rfl rfl ?_ ?_
  all_goals first|rfl|(simp [ufs];done)|(simp [ufs];omega)
 have hc1':=of_decide_eq_false hc1
 refine AC.sk ?_
 refine AC.seq ?_
 refine AC.go ttk 2 rfl ?_
 refine AL.cn 3 [2,1,0] (g_lit (ys:=[(0,(.g [(cI x.time),(cI x.sum)]))]) (rows:=([x]).map rUse) 2 sl59 rfl (by decide) ⟨⟨rfl,rfl⟩,trivial⟩ rfl rfl rfl rfl) rfl ?_
 refine AL.freeze (s':=[(0,(aG [(cI p.ticks),(cI p.count),(cI p.sum)])),(1,(aC (vlU l))),(2,(aG [(cI x.time),(cI x.sum)])),(3,(aC (.p 0 0 0 0))),(5,(aC (.p 1 0 0 0))),(6,(aC cN)),(7,(aI 0)),(17,(aG [(cI p.ticks),(cI p.count),(cI p.sum)])),(18,(aI e0)),(8,(aI e0)),(19,(aI e0)),(20,(aB (decide (¬e0=0)))),(22,(aC (vlU l))),(23,(aG [(cI x.time),(cI x.sum)])),(24,(aC (vlU ([x]))))]) (h':=[(1,(.box 125 [(cI x.time),(cI x.sum)])),(0,(.box 58 [(cI p.ticks),(cI p.count),(cI p.sum)]))]) 2 rfl ⟨⟨_,rfl,.inl ⟨rfl,rfl⟩⟩,⟨_,rfl,.inl ⟨rfl,rfl⟩⟩,⟨_,rfl,.inl ⟨rfl,rfl⟩⟩,⟨_,rfl,.inl ⟨rfl,rfl⟩⟩,⟨_,rfl,.inl ⟨rfl,rfl⟩⟩,⟨_,rfl,.inl ⟨rfl,rfl⟩⟩,⟨_,rfl,.inl ⟨rfl,rfl⟩⟩,⟨_,rfl,.inl ⟨rfl,rfl⟩⟩,⟨_,rfl,.inl ⟨rfl,rfl⟩⟩,⟨_,rfl,.inl ⟨rfl,rfl⟩⟩,⟨_,rfl,.inl ⟨rfl,rfl⟩⟩,⟨_,rfl,.inl ⟨rfl,rfl⟩⟩,⟨_,rfl,.inl ⟨rfl,rfl⟩⟩,⟨_,rfl,.inl ⟨rfl,rfl⟩⟩,⟨_,rfl,.inr ⟨_,_,rfl,rfl,.s rfl (by decide) (by first|omega|(simp;done)|(simp;omega))⟩⟩,trivial⟩ ⟨rfl,rfl,trivial⟩ rfl ?_
 refine AL.cn 4 [3,1,0] (g_lit (ys:=[(0,(.c (vlU l))),(1,(.c (vlU ([x]))))]) (rows:=([l,[x]]).map rLUse) 3 sl181 rfl (by decide) ⟨⟨rfl,rfl⟩,⟨rfl,rfl⟩,trivial⟩ rfl rfl rfl rfl) rfl ?_
 refine AL.vl (g_lenS rfl rfl rfl rfl rfl Try.underlying181) rfl ?_
 refine AL.runs ttk 1 rfl ?_
 refine AL.nx ?_
 refine AC.block ?_
 refine AC.loop (β:=Nat) (fun (q:Nat)=>⟨[(1,(aC (vlU l))),(3,(aC (.p 0 0 0 0))),(5,(aC (.p 1 0 0 0))),(25,(aC (.s 3 0 1 2))),(26,(aI 2)),(27,(aI (↑q:Int)))],[(3,(.arr 59 1 (([l,[x]]).map rLUse))),(1,(.box 125 [(cI x.time),(cI x.sum)])),(0,(.box 58 [(cI p.ticks),(cI p.count),(cI p.sum)]))],4⟩) (fun (q:Nat)=>q<=2/\(0 < q->(usesF l).err=0)/\(1 < q->(usesF [x]).err=0)) (fun (q:Nat)=>2 - q) 0 ?_ ?_ ?_
 ·exact ⟨by omega,by omega,by omega⟩
 ·exact Weak.ren id (by refine ⟨?_,?_,?_,?_,?_,?_,trivial⟩<;>first|rfl|(simp only [mps];done)|(congr 3;omega)|(congr 4;omega)|(simp only [lns];rfl)) (by refine ⟨?_,?_,?_,trivial⟩<;>first|rfl|(simp only [mps];done)|(congr 3;omega)|(congr 4;omega)|(simp only [lns];rfl)) rfl
 rintro q ⟨hi0_0,hi0_1,hi0_2⟩
 refine AC.goes ttk 1 rfl ?_
 refine AC.seq ?_
 refine AC.cond rfl (fun hc2=>?_) (fun hc2=>?_)
 ·
  have hc2':=of_decide_eq_true hc2
  refine AC.sk ?_
  refine AC.seq ?_
  refine AC.block ?_
  refine AC.sr ?_
  refine AL.vl (g_indexP0 (i:=q) rfl rfl rfl Try.underlying181 sz59 (by first|omega|(simp;done)|(simp;omega)) (by first|omega|(simp;done)|(simp;omega))) rfl ?_
  obtain ⟨x1,hx1⟩:=exget (xs:=([l,[x]]:List (List Use))) (i:=q) (by first|omega|(simp;done)|(simp;omega))
  have hx1v:=get2 hx1
  refine AL.vl (g_loadA rfl rfl rfl Try.underlying59 rfl (getmap hx1) rfl) rfl ?_
  refine AL.runs ttk 1 rfl ?_
  refine AL.nx ?_
  refine AC.go ttk 1 rfl ?_
  obtain ⟨f1,hr1⟩:∃ (f1:Fault),usesF x1=f1:=⟨_,rfl⟩
  refine AL.cn 4 [3,1,0] (g_call 4 (c_pace_UsesN x1 f1 hr1) en45 rfl rfl ⟨⟨_,rfl,.c (.d _)⟩,trivial⟩ ⟨trivial,trivial,trivial⟩ trivial rfl rfl rfl rfl) rfl ?_
  refine AL.runs ttk 2 rfl ?_
  refine AL.nx ?_
  refine AC.goes ttk 3 rfl ?_
  refine AC.cond rfl (fun hc3=>?_) (fun hc3=>?_)
  ·
   have hc3':=of_decide_eq_true hc3
   refine AC.seq ?_
   refine AC.drawP [1,3,5,25,26,27,11] [4,3,1,0] mixed rfl rfl ?_
   refine PD.runs (kn:=[]) ttk 4 rfl trivial ?_
   refine PD.fin [4,3,1,0] rfl rfl rfl rfl (by kernel_rfl) ?_
   refine AL.nx ?_
   refine AC.ret ?_
   refine block_ret ?_
   refine then_ret ?_
   refine then_ret ?_
   refine block_ret ?_
   refine then_ret ?_
   refine retQ_weak (Weak.nil 6 125 2 (by decide) rfl) ?_
   have hX:addUse p l x=(([]:List Use),f1.err):=by
     unfold addUse;rcases hx1v with ⟨hq,hx⟩|⟨hq,hx⟩<;>subst hx
     ·rw [if_neg (by omega),if_pos (by rw [hr1];omega),hr1]
     ·rw [if_neg (by omega),if_neg (by have:=hi0_1 (by omega);omega),if_pos (by rw [hr1];omega),hr1]
   rw [hX] at hr;clear hX
   simp only [Prod.mk.injEq] at hr;obtain ⟨rfl,rfl⟩:=hr
   refine retQ_go ttk [5] 1 rfl rfl rfl rfl rfl rfl ?_ ?_
   all_goals first|rfl|(simp [ufs];done)|(simp [ufs];omega)
  have hc3':=of_decide_eq_false hc3
  refine AC.skip ?_
  refine block_ok ?_
  refine then_ok ?_
  refine AC.region ?_
  refine AL.vl (g_binI rfl rfl rfl (wrap_ok (by first|omega|(simp;done)|(simp;omega)))) rfl ?_
  refine AL.runs ttk 1 rfl ?_
  refine AL.nx ?_
  refine ⟨q+1,⟨by omega,(fun h=>by rcases hx1v with ⟨hq,hx⟩|⟨hq,hx⟩<;>first|(exact hi0_1 (by omega))|(subst hx;rw [hr1];omega)),(fun h=>by rcases hx1v with ⟨hq,hx⟩|⟨hq,hx⟩<;>first|(exfalso;omega)|(subst hx;rw [hr1];omega))⟩,by first|omega|(simp;done)|(simp;omega),Weak.ren id (by refine ⟨?_,?_,?_,?_,?_,?_,trivial⟩<;>first|rfl|(simp only [mps];done)|(congr 3;omega)|(congr 4;omega)|(simp only [lns];rfl)) (by refine ⟨?_,?_,?_,trivial⟩<;>first|rfl|(simp only [mps];done)|(congr 3;omega)|(congr 4;omega)|(simp only [lns];rfl)) rfl⟩
 have hc2':=of_decide_eq_false hc2
 refine AC.exit ?_
 refine then_exit ?_
 refine then_exit ?_
 refine block_hit ?_
 refine then_ok ?_
 refine AC.seq ?_
 refine AC.go ttk 1 rfl ?_
 refine AL.vl (g_lenM rfl rfl rfl rfl rfl Try.underlying59) rfl ?_
 refine AL.vl (g_binI rfl rfl rfl (wrap_ok (by first|omega|(simp;done)|(simp;omega)))) rfl ?_
 refine AL.runs ttk 1 rfl ?_
 refine AL.nx ?_
 refine AC.seq ?_
 rcases Bool.eq_false_or_eq_true (decide (((↑l.length:Int) - 1)>=0)) with hb4|hb4
 ·
  have hb4':=of_decide_eq_true hb4
  obtain ⟨x1,hx1⟩:=exget (xs:=l) (i:=(l.length) - 1) (by first|omega|(simp;done)|(simp;omega))
  refine AC.drawP [1,3,5,25,26,27,12] [3,1,0] mixed rfl rfl ?_
  refine PD.runs (kn:=[(43,true)]) ttk 5 rfl ⟨hb4,trivial⟩ ?_
  refine PD.op (n':=4) [45,46,44] [] rfl rfl (.inl ⟨(Wanted.yes rfl rfl rfl),GOp.cast (g_indexQ (i:=(l.length) - 1) rfl rfl rfl Try.underlying59 sz125 (by first|omega|(simp;done)|(simp;omega)) (getmap hx1)) rfl⟩) rfl ?_
  refine PD.runs (kn:=[]) ttk 6 rfl trivial ?_
  refine PD.fin [3,1,0] rfl rfl rfl rfl (by kernel_rfl) ?_
  refine AL.nx ?_
  refine AC.cond rfl (fun hc5=>?_) (fun hc5=>?_)
  ·
   have hc5':=of_decide_eq_true hc5
   refine AC.goes ttk 2 rfl ?_
   refine AC.ret ?_
   refine then_ret ?_
   refine retQ_weak (Weak.nil 6 125 2 (by decide) rfl) ?_
   have hX:addUse p l x=(([]:List Use),2):=by
     unfold addUse;rw [if_neg (by omega),if_neg (by have:=hi0_1 (by omega);omega),if_neg (by have:=hi0_2 (by omega);omega),if_pos (by rw [late_of hx1,decide_eq_true_eq];omega)]
   rw [hX] at hr;clear hX
   simp only [Prod.mk.injEq] at hr;obtain ⟨rfl,rfl⟩:=hr
   refine retQ_go ttk [4] 1 rfl rfl rfl rfl rfl rfl ?_ ?_
   all_goals first|rfl|(simp [ufs];done)|(simp [ufs];omega)
  have hc5':=of_decide_eq_false hc5
  refine AC.sk ?_
  refine AC.go ttk 4 rfl ?_
  obtain ⟨r2,hr2⟩:∃ (r2:List Use),recentP p l x.time=r2:=⟨_,rfl⟩
  refine AL.cn 5 [4,3,1,0] (g_call 4 (c_pace_Recent p l x.time (by first|assumption|omega|(have q1:=rightP (hr2.trans (by omega));have q2:=uses1 (x:=x) (by simp_all);omega)) (by first|assumption|omega) r2 hr2) en112 rfl rfl ⟨⟨_,rfl,.g ⟨.d _,.d _,.d _,trivial⟩⟩,⟨_,rfl,.c (.d _)⟩,⟨_,rfl,.c (.d _)⟩,trivial⟩ trivial ⟨(fun _ _ _ _=>trivial),trivial⟩ rfl rfl rfl rfl) rfl ?_
  refine AL.runs ttk 1 rfl ?_
  refine AL.nx ?_
  refine AC.goes ttk 3 rfl ?_
  refine AC.seq ?_
  refine AC.go ttk 1 rfl ?_
  refine AL.vl (g_lenS rfl rfl rfl rfl rfl Try.underlying59) rfl ?_
  refine AL.runs ttk 1 rfl ?_
  refine AL.nx ?_
  refine AC.block ?_
  refine AC.loop (β:=Nat) (fun (k:Nat)=>⟨[(1,(aC (vlU l))),(3,(aC (.p 0 0 0 0))),(5,(aC (.p 1 0 0 0))),(25,(aC (.s 3 0 1 2))),(26,(aI 2)),(27,(aI (↑q:Int))),(13,(aC (.s 4 0 2 r2.length))),(14,(aI (x.sum+sumU ((r2).take k)))),(61,(aC (.s 4 0 2 r2.length))),(62,(aI (↑r2.length:Int))),(63,(aI (↑k:Int)))],[(4,(alU r2)),(3,(.arr 59 1 (([l,[x]]).map rLUse))),(1,(.box 125 [(cI x.time),(cI x.sum)])),(0,(.box 58 [(cI p.ticks),(cI p.count),(cI p.sum)]))],5⟩) (fun (k:Nat)=>k<=(r2).length) (fun (k:Nat)=>(r2).length - k) 0 ?_ ?_ ?_
  ·exact (by omega)
  ·exact Weak.ren id (by refine ⟨?_,?_,?_,?_,?_,?_,?_,?_,?_,?_,?_,trivial⟩<;>first|rfl|(simp only [mps];done)|(congr 3;omega)|(congr 4;omega)|(simp only [lns];rfl)|((rw [List.take_zero,sumU,Int.add_zero];rfl))) (by refine ⟨?_,?_,?_,?_,trivial⟩<;>first|rfl|(simp only [mps];done)|(congr 3;omega)|(congr 4;omega)|(simp only [lns];rfl)) rfl
  rintro k hi1_0
  have hsb:=sumU_recent (p:=p) (l:=l) (t:=x.time) (k:=k) (hi0_1 (by omega))
  rw [hr2] at hsb
  have hrl:(r2).length<=30:=by rw [<-hr2];exact Nat.le_trans (keepL_len _ _) (hru (hi0_1 (by omega)))
  refine AC.goes ttk 1 rfl ?_
  refine AC.seq ?_
  refine AC.cond rfl (fun hc6=>?_) (fun hc6=>?_)
  ·
   have hc6':=of_decide_eq_true hc6
   refine AC.sk ?_
   refine AC.seq ?_
   refine AC.block ?_
   refine AC.sr ?_
   refine AL.vl (g_indexP0 (i:=k) rfl rfl rfl Try.underlying59 sz125 (by first|omega|(simp;done)|(simp;omega)) (by first|omega|(simp;done)|(simp;omega))) rfl ?_
   obtain ⟨x2,hx2⟩:=exget (xs:=r2) (i:=k) (by first|omega|(simp;done)|(simp;omega))
   have hx2v:=(rightU (hi0_1 (by omega))).2 x2 (mem_keep (hr2.symm▸List.mem_of_getElem? hx2:x2∈recentP p l x.time))
   refine AL.vl (g_loadAs rfl rfl rfl Try.underlying125 rfl sz125 (getmap hx2) rfl) rfl ?_
   refine AL.runs ttk 2 rfl ?_
   refine AL.nx ?_
   refine AC.region ?_
   refine AL.runs ttk 3 rfl ?_
   refine AL.vl (g_binI rfl rfl rfl (wrap_ok (by first|omega|(simp;done)|(simp;omega)))) rfl ?_
   refine AL.runs ttk 1 rfl ?_
   refine AL.nil ?_
   refine block_ok ?_
   refine then_ok ?_
   refine AC.region ?_
   refine AL.vl (g_binI rfl rfl rfl (wrap_ok (by first|omega|(simp;done)|(simp;omega)))) rfl ?_
   refine AL.runs ttk 1 rfl ?_
   refine AL.nx ?_
   refine ⟨k+1,by first|omega|trivial,by first|omega|(simp;done)|(simp;omega),Weak.ren id (by refine ⟨?_,?_,?_,?_,?_,?_,?_,?_,?_,?_,?_,trivial⟩<;>first|rfl|(simp only [mps];done)|(congr 3;omega)|(congr 4;omega)|(simp only [lns];rfl)|(first|(rw [take_get hx2,sumU_snoc,<-Int.add_assoc];rfl)|(rw [take_get hx1,sumU_snoc,<-Int.add_assoc];rfl))) (by refine ⟨?_,?_,?_,?_,trivial⟩<;>first|rfl|(simp only [mps];done)|(congr 3;omega)|(congr 4;omega)|(simp only [lns];rfl)) rfl⟩
  have hc6':=of_decide_eq_false hc6
  refine AC.exit ?_
  refine then_exit ?_
  refine then_exit ?_
  refine block_hit ?_
  refine then_ok ?_
  refine AC.seq ?_
  refine AC.cutB 82 ((decide ((↑r2.length:Int)>=p.count))||(decide ((x.sum+sumU ((r2).take k)) > p.sum))) ?_ ?_
  ·
   refine AC.region ?_
   refine AL.runs ttk 1 rfl ?_
   refine AL.vl (g_lenS rfl rfl rfl rfl rfl Try.underlying59) rfl ?_
   refine AL.runs ttk 4 rfl ?_
   refine AL.dec (t:=77) rfl (fun hb7=>?_) (fun hb7=>?_)
   ·
    have hb7':=of_decide_eq_true hb7
    refine AL.runs ttk 5 rfl ?_
    refine AL.nx ?_
    exact Weak.popB 12 rfl rfl (by first|(simp [hb7];done)|(simp_all;done)|(exfalso;simp_all;done)|(simp_all;omega)) rfl
   have hb7':=of_decide_eq_false hb7
   refine AL.runs ttk 5 rfl ?_
   refine AL.nx ?_
   exact Weak.popB 12 rfl rfl (by first|(simp [hb7];done)|(simp_all;done)|(exfalso;simp_all;done)|(simp_all;omega)) rfl
  refine AC.cond rfl (fun hc8=>?_) (fun hc8=>?_)
  ·
   have hc8':=hc8;try simp only [sumB,dns] at hc8'
   refine AC.goes ttk 2 rfl ?_
   refine AC.ret ?_
   refine then_ret ?_
   refine retQ_weak (Weak.nil 6 125 2 (by decide) rfl) ?_
   have hX:addUse p l x=(([]:List Use),11):=by
     have hlate:lastLate l x.time=false:=by first|(rw [late_of hx1];simp;omega)|(have:l=[]:=List.eq_nil_of_length_eq_zero (by omega);subst this;rfl)
     have hk:(r2).take k=r2:=List.take_of_length_le (by omega)
     rw [hk] at hc8'
     unfold addUse;rw [if_neg (by omega),if_neg (by have:=hi0_1 (by omega);omega),if_neg (by have:=hi0_2 (by omega);omega),if_neg (by rw [hlate];simp),hr2,if_pos (by omega)]
   rw [hX] at hr;clear hX
   simp only [Prod.mk.injEq] at hr;obtain ⟨rfl,rfl⟩:=hr
   refine retQ_go ttk [5] 1 rfl rfl rfl rfl rfl rfl ?_ ?_
   all_goals first|rfl|(simp [ufs];done)|(simp [ufs];omega)
  have hc8':=hc8;try simp only [sumB,dns] at hc8'
  refine AC.sk ?_
  refine AC.go ttk 2 rfl ?_
  refine AL.cn 6 [5,4,3,1,0] (g_lit (ys:=[(0,(.g [(cI x.time),(cI x.sum)]))]) (rows:=([x]).map rUse) 5 sl59 rfl (by decide) ⟨⟨rfl,rfl⟩,trivial⟩ rfl rfl rfl rfl) rfl ?_
  refine AL.cn 7 [6,5,3,1,0] (g_append (m:=1) (N:=r2.length+1) (k2:=6) (ys:=([x]).map rUse) sl59 rfl rfl rfl rfl rfl rfl (by first|omega|(simp;done)|(simp;omega)) rfl (.s rfl (by first|omega|(simp;done)|(simp;omega))) (by first|omega|(simp;done)|(simp;omega)) (by first|omega|(simp;done)|(simp;omega)) appmap (by decide) (by first|omega|(simp;done)|(simp;omega)) (by first|omega|(simp;done)|(simp;omega))) rfl ?_
  refine AL.runs ttk 2 rfl ?_
  refine AL.nx ?_
  refine AC.ret ?_
  have hX:addUse p l x=(r2++([x]),0):=by
    have hlate:lastLate l x.time=false:=by first|(rw [late_of hx1];simp;omega)|(have:l=[]:=List.eq_nil_of_length_eq_zero (by omega);subst this;rfl)
    have hk:(r2).take k=r2:=List.take_of_length_le (by omega)
    rw [hk] at hc8'
    unfold addUse;rw [if_neg (by omega),if_neg (by have:=hi0_1 (by omega);omega),if_neg (by have:=hi0_2 (by omega);omega),if_neg (by rw [hlate];simp),hr2,if_neg (by omega)]
  rw [hX] at hr;clear hX
  simp only [Prod.mk.injEq] at hr;obtain ⟨rfl,rfl⟩:=hr
  refine retQ_go ttk [6] 1 rfl rfl rfl rfl rfl rfl ?_ ?_
  all_goals first|rfl|(simp [ufs];done)|(simp [ufs];omega)
 have hb4':=of_decide_eq_false hb4
 refine AC.drawP [1,3,5,25,26,27,12] [3,1,0] mixed rfl rfl ?_
 refine PD.runs (kn:=[(43,false)]) ttk 12 rfl ⟨hb4,trivial⟩ ?_
 refine PD.fin [3,1,0] rfl rfl rfl rfl (by kernel_rfl) ?_
 refine AL.nx ?_
 refine AC.cond rfl (fun hno=>by cases hno) (fun _=>?_)
 refine AC.sk ?_
 refine AC.go ttk 4 rfl ?_
 obtain ⟨r3,hr3⟩:∃ (r3:List Use),recentP p l x.time=r3:=⟨_,rfl⟩
 refine AL.cn 5 [4,3,1,0] (g_call 4 (c_pace_Recent p l x.time (by first|assumption|omega|(have q1:=rightP (hr2.trans (by omega));have q2:=uses1 (x:=x) (by simp_all);omega)) (by first|assumption|omega) r3 hr3) en112 rfl rfl ⟨⟨_,rfl,.g ⟨.d _,.d _,.d _,trivial⟩⟩,⟨_,rfl,.c (.d _)⟩,⟨_,rfl,.c (.d _)⟩,trivial⟩ trivial ⟨(fun _ _ _ _=>trivial),trivial⟩ rfl rfl rfl rfl) rfl ?_
 refine AL.runs ttk 1 rfl ?_
 refine AL.nx ?_
 refine AC.goes ttk 3 rfl ?_
 refine AC.seq ?_
 refine AC.go ttk 1 rfl ?_
 refine AL.vl (g_lenS rfl rfl rfl rfl rfl Try.underlying59) rfl ?_
 refine AL.runs ttk 1 rfl ?_
 refine AL.nx ?_
 refine AC.block ?_
 refine AC.loop (β:=Nat) (fun (k:Nat)=>⟨[(1,(aC (vlU l))),(3,(aC (.p 0 0 0 0))),(5,(aC (.p 1 0 0 0))),(25,(aC (.s 3 0 1 2))),(26,(aI 2)),(27,(aI (↑q:Int))),(13,(aC (.s 4 0 2 r3.length))),(14,(aI (x.sum+sumU ((r3).take k)))),(61,(aC (.s 4 0 2 r3.length))),(62,(aI (↑r3.length:Int))),(63,(aI (↑k:Int)))],[(4,(alU r3)),(3,(.arr 59 1 (([l,[x]]).map rLUse))),(1,(.box 125 [(cI x.time),(cI x.sum)])),(0,(.box 58 [(cI p.ticks),(cI p.count),(cI p.sum)]))],5⟩) (fun (k:Nat)=>k<=(r3).length) (fun (k:Nat)=>(r3).length - k) 0 ?_ ?_ ?_
 ·exact (by omega)
 ·exact Weak.ren id (by refine ⟨?_,?_,?_,?_,?_,?_,?_,?_,?_,?_,?_,trivial⟩<;>first|rfl|(simp only [mps];done)|(congr 3;omega)|(congr 4;omega)|(simp only [lns];rfl)|((rw [List.take_zero,sumU,Int.add_zero];rfl))) (by refine ⟨?_,?_,?_,?_,trivial⟩<;>first|rfl|(simp only [mps];done)|(congr 3;omega)|(congr 4;omega)|(simp only [lns];rfl)) rfl
 rintro k hi1_0
 have hsb:=sumU_recent (p:=p) (l:=l) (t:=x.time) (k:=k) (hi0_1 (by omega))
 rw [hr3] at hsb
 have hrl:(r3).length<=30:=by rw [<-hr3];exact Nat.le_trans (keepL_len _ _) (hru (hi0_1 (by omega)))
 refine AC.goes ttk 1 rfl ?_
 refine AC.seq ?_
 refine AC.cond rfl (fun hc10=>?_) (fun hc10=>?_)
 ·
  have hc10':=of_decide_eq_true hc10
  refine AC.sk ?_
  refine AC.seq ?_
  refine AC.block ?_
  refine AC.sr ?_
  refine AL.vl (g_indexP0 (i:=k) rfl rfl rfl Try.underlying59 sz125 (by first|omega|(simp;done)|(simp;omega)) (by first|omega|(simp;done)|(simp;omega))) rfl ?_
  obtain ⟨x1,hx1⟩:=exget (xs:=r3) (i:=k) (by first|omega|(simp;done)|(simp;omega))
  have hx1v:=(rightU (hi0_1 (by omega))).2 x1 (mem_keep (hr3.symm▸List.mem_of_getElem? hx1:x1∈recentP p l x.time))
  refine AL.vl (g_loadAs rfl rfl rfl Try.underlying125 rfl sz125 (getmap hx1) rfl) rfl ?_
  refine AL.runs ttk 2 rfl ?_
  refine AL.nx ?_
  refine AC.region ?_
  refine AL.runs ttk 3 rfl ?_
  refine AL.vl (g_binI rfl rfl rfl (wrap_ok (by first|omega|(simp;done)|(simp;omega)))) rfl ?_
  refine AL.runs ttk 1 rfl ?_
  refine AL.nil ?_
  refine block_ok ?_
  refine then_ok ?_
  refine AC.region ?_
  refine AL.vl (g_binI rfl rfl rfl (wrap_ok (by first|omega|(simp;done)|(simp;omega)))) rfl ?_
  refine AL.runs ttk 1 rfl ?_
  refine AL.nx ?_
  refine ⟨k+1,by first|omega|trivial,by first|omega|(simp;done)|(simp;omega),Weak.ren id (by refine ⟨?_,?_,?_,?_,?_,?_,?_,?_,?_,?_,?_,trivial⟩<;>first|rfl|(simp only [mps];done)|(congr 3;omega)|(congr 4;omega)|(simp only [lns];rfl)|(first|(rw [take_get hx2,sumU_snoc,<-Int.add_assoc];rfl)|(rw [take_get hx1,sumU_snoc,<-Int.add_assoc];rfl))) (by refine ⟨?_,?_,?_,?_,trivial⟩<;>first|rfl|(simp only [mps];done)|(congr 3;omega)|(congr 4;omega)|(simp only [lns];rfl)) rfl⟩
 have hc10':=of_decide_eq_false hc10
 refine AC.exit ?_
 refine then_exit ?_
 refine then_exit ?_
 refine block_hit ?_
 refine then_ok ?_
 refine AC.seq ?_
 refine AC.cutB 82 ((decide ((↑r3.length:Int)>=p.count))||(decide ((x.sum+sumU ((r3).take k)) > p.sum))) ?_ ?_
 ·
  refine AC.region ?_
  refine AL.runs ttk 1 rfl ?_
  refine AL.vl (g_lenS rfl rfl rfl rfl rfl Try.underlying59) rfl ?_
  refine AL.runs ttk 4 rfl ?_
  refine AL.dec (t:=77) rfl (fun hb11=>?_) (fun hb11=>?_)
  ·
   have hb11':=of_decide_eq_true hb11
   refine AL.runs ttk 5 rfl ?_
   refine AL.nx ?_
   exact Weak.popB 12 rfl rfl (by first|(simp [hb11];done)|(simp_all;done)|(exfalso;simp_all;done)|(simp_all;omega)) rfl
  have hb11':=of_decide_eq_false hb11
  refine AL.runs ttk 5 rfl ?_
  refine AL.nx ?_
  exact Weak.popB 12 rfl rfl (by first|(simp [hb11];done)|(simp_all;done)|(exfalso;simp_all;done)|(simp_all;omega)) rfl
 refine AC.cond rfl (fun hc12=>?_) (fun hc12=>?_)
 ·
  have hc12':=hc12;try simp only [sumB,dns] at hc12'
  refine AC.goes ttk 2 rfl ?_
  refine AC.ret ?_
  refine then_ret ?_
  refine retQ_weak (Weak.nil 6 125 2 (by decide) rfl) ?_
  have hX:addUse p l x=(([]:List Use),11):=by
    have hlate:lastLate l x.time=false:=by first|(rw [late_of hx1];simp;omega)|(have:l=[]:=List.eq_nil_of_length_eq_zero (by omega);subst this;rfl)
    have hk:(r3).take k=r3:=List.take_of_length_le (by omega)
    rw [hk] at hc12'
    unfold addUse;rw [if_neg (by omega),if_neg (by have:=hi0_1 (by omega);omega),if_neg (by have:=hi0_2 (by omega);omega),if_neg (by rw [hlate];simp),hr3,if_pos (by omega)]
  rw [hX] at hr;clear hX
  simp only [Prod.mk.injEq] at hr;obtain ⟨rfl,rfl⟩:=hr
  refine retQ_go ttk [5] 1 rfl rfl rfl rfl rfl rfl ?_ ?_
  all_goals first|rfl|(simp [ufs];done)|(simp [ufs];omega)
 have hc12':=hc12;try simp only [sumB,dns] at hc12'
 refine AC.sk ?_
 refine AC.go ttk 2 rfl ?_
 refine AL.cn 6 [5,4,3,1,0] (g_lit (ys:=[(0,(.g [(cI x.time),(cI x.sum)]))]) (rows:=([x]).map rUse) 5 sl59 rfl (by decide) ⟨⟨rfl,rfl⟩,trivial⟩ rfl rfl rfl rfl) rfl ?_
 refine AL.cn 7 [6,5,3,1,0] (g_append (m:=1) (N:=r3.length+1) (k2:=6) (ys:=([x]).map rUse) sl59 rfl rfl rfl rfl rfl rfl (by first|omega|(simp;done)|(simp;omega)) rfl (.s rfl (by first|omega|(simp;done)|(simp;omega))) (by first|omega|(simp;done)|(simp;omega)) (by first|omega|(simp;done)|(simp;omega)) appmap (by decide) (by first|omega|(simp;done)|(simp;omega)) (by first|omega|(simp;done)|(simp;omega))) rfl ?_
 refine AL.runs ttk 2 rfl ?_
 refine AL.nx ?_
 refine AC.ret ?_
 have hX:addUse p l x=(r3++([x]),0):=by
   have hlate:lastLate l x.time=false:=by first|(rw [late_of hx1];simp;omega)|(have:l=[]:=List.eq_nil_of_length_eq_zero (by omega);subst this;rfl)
   have hk:(r3).take k=r3:=List.take_of_length_le (by omega)
   rw [hk] at hc12'
   unfold addUse;rw [if_neg (by omega),if_neg (by have:=hi0_1 (by omega);omega),if_neg (by have:=hi0_2 (by omega);omega),if_neg (by rw [hlate];simp),hr3,if_neg (by omega)]
 rw [hX] at hr;clear hX
 simp only [Prod.mk.injEq] at hr;obtain ⟨rfl,rfl⟩:=hr
 refine retQ_go ttk [6] 1 rfl rfl rfl rfl rfl rfl ?_ ?_
 all_goals first|rfl|(simp [ufs];done)|(simp [ufs];omega)
end Go.Proofs.Ytegepioggeggaaa.Dev
namespace Go.Proofs.Ytegepioggeggaaa.Dev
open Go.RowKit


end Go.Proofs.Ytegepioggeggaaa.Dev
namespace Go.Proofs.Ytegepioggeggaaa.Dev
open Go.RowKit

set_option maxRecDepth 100000 in
set_option maxHeartbeats 1000000 in
theorem c_card_Wrong (c:Card) (e:Int) (hr:wrongC c=e):Fn Try.prog 28 [(.g [(cI c.money),(cI c.held),(cI c.pace.ticks),(cI c.pace.count),(cI c.pace.sum),(vlU c.uses)])] (.v (.c (cI e))) []:=by
 refine Fn.mk' 32 [(0,(aG [(cI c.money),(cI c.held),(cI c.pace.ticks),(cI c.pace.count),(cI c.pace.sum),(vlU c.uses)]))] Try.func28 rfl rfl rfl rfl ?_
 intro W0 T0
 refine AC.lenG 0 5 rfl rfl (fun hlen0_5=>?_)
 refine AC.goes ttk 2 rfl ?_
 refine AC.seq ?_
 refine AC.cutB 21 ((((decide (c.money < (-1000000000000)))||(decide (c.money > 1000000000000)))||(decide (c.held < 0)))||(decide (c.held > 1000000000000))) ?_ ?_
 ·
  refine AC.region ?_
  refine AL.runs ttk 4 rfl ?_
  refine AL.dec (t:=7) rfl (fun hb1=>?_) (fun hb1=>?_)
  ·
   have hb1':=of_decide_eq_true hb1
   refine AL.runs ttk 14 rfl ?_
   refine AL.nx ?_
   exact Weak.popB 19 rfl rfl (by first|(simp [hb1];done)|(simp_all;done)|(exfalso;simp_all;done)|(simp_all;omega)) rfl
  have hb1':=of_decide_eq_false hb1
  refine AL.runs ttk 5 rfl ?_
  refine AL.dec (t:=12) rfl (fun hb2=>?_) (fun hb2=>?_)
  ·
   have hb2':=of_decide_eq_true hb2
   refine AL.runs ttk 9 rfl ?_
   refine AL.nx ?_
   exact Weak.popB 20 rfl rfl (by first|(simp [hb1,hb2];done)|(simp_all;done)|(exfalso;simp_all;done)|(simp_all;omega)) rfl
  have hb2':=of_decide_eq_false hb2
  refine AL.runs ttk 5 rfl ?_
  refine AL.dec (t:=17) rfl (fun hb3=>?_) (fun hb3=>?_)
  ·
   have hb3':=of_decide_eq_true hb3
   refine AL.runs ttk 4 rfl ?_
   refine AL.nx ?_
   exact Weak.popB 21 rfl rfl (by first|(simp [hb1,hb2,hb3];done)|(simp_all;done)|(exfalso;simp_all;done)|(simp_all;omega)) rfl
  have hb3':=of_decide_eq_false hb3
  refine AL.runs ttk 4 rfl ?_
  refine AL.nx ?_
  exact Weak.popB 21 rfl rfl (by first|(simp [hb1,hb2,hb3];done)|(simp_all;done)|(exfalso;simp_all;done)|(simp_all;omega)) rfl
 refine AC.cond rfl (fun hc4=>?_) (fun hc4=>?_)
 ·
  have hc4':=hc4;try simp only [sumB,dns] at hc4'
  refine AC.goes ttk 1 rfl ?_
  refine AC.ret ?_
  refine then_ret ?_
  have hX:wrongC c=3:=by
    unfold wrongC;rw [if_pos (by omega)]
  rw [hX] at hr;clear hX
  subst hr
  refine retQ_go ttk [] 0 rfl rfl rfl rfl rfl rfl ?_ ?_
  all_goals first|rfl|(simp [ufs];done)|(simp [ufs];omega)
 have hc4':=hc4;try simp only [sumB,dns] at hc4'
 refine AC.sk ?_
 refine AC.seq ?_
 refine AC.go ttk 2 rfl ?_
 obtain ⟨e0,hr0⟩:∃ (e0:Int),wrongP c.pace=e0:=⟨_,rfl⟩
 refine AL.cn 1 [0] (g_call 1 (c_pace_WrongN c.pace e0 hr0) en44 rfl rfl ⟨⟨_,rfl,.g ⟨.d _,.d _,.d _,trivial⟩⟩,trivial⟩ trivial trivial rfl rfl rfl rfl) rfl ?_
 refine AL.runs ttk 1 rfl ?_
 refine AL.nx ?_
 refine AC.goes ttk 2 rfl ?_
 refine AC.cond rfl (fun hc5=>?_) (fun hc5=>?_)
 ·
  have hc5':=of_decide_eq_true hc5
  refine AC.goes ttk 2 rfl ?_
  refine AC.ret ?_
  refine then_ret ?_
  have hX:wrongC c=e0:=by
    unfold wrongC;rw [if_neg (by omega),if_pos (by omega),hr0]
  rw [hX] at hr;clear hX
  subst hr
  refine retQ_go ttk [] 0 rfl rfl rfl rfl rfl rfl ?_ ?_
  all_goals first|rfl|(simp [ufs];done)|(simp [ufs];omega)
 have hc5':=of_decide_eq_false hc5
 refine AC.sk ?_
 refine AC.go ttk 2 rfl ?_
 obtain ⟨f1,hr1⟩:∃ (f1:Fault),usesF c.uses=f1:=⟨_,rfl⟩
 refine AL.cn 1 [0] (g_call 1 (c_pace_UsesN c.uses f1 hr1) en45 rfl rfl ⟨⟨_,rfl,.c (.d _)⟩,trivial⟩ ⟨trivial,trivial,trivial⟩ trivial rfl rfl rfl rfl) rfl ?_
 refine AL.vl (g_field1 rfl rfl Try.underlying50 rfl Try.underlying48 rfl rfl) rfl ?_
 refine AL.runs ttk 1 rfl ?_
 refine AL.nx ?_
 refine AC.ret ?_
 have hX:wrongC c=f1.err:=by
   unfold wrongC;rw [if_neg (by omega),if_neg (by omega),hr1]
 rw [hX] at hr;clear hX
 subst hr
 refine retQ_go ttk [] 0 rfl rfl rfl rfl rfl rfl ?_ ?_
 all_goals first|rfl|(simp [ufs];done)|(simp [ufs];omega)
set_option maxRecDepth 100000 in
set_option maxHeartbeats 1000000 in
theorem c_card_Free (c:Card) (hb:-9223372036854775808<=c.money - c.held/\c.money - c.held<=9223372036854775807):Fn Try.prog 24 [(.g [(cI c.money),(cI c.held),(cI c.pace.ticks),(cI c.pace.count),(cI c.pace.sum),(vlU c.uses)])] (aI (c.money - c.held)) []:=by
 refine Fn.mk' 8 [(0,(aG [(cI c.money),(cI c.held),(cI c.pace.ticks),(cI c.pace.count),(cI c.pace.sum),(vlU c.uses)]))] Try.func24 rfl rfl rfl rfl ?_
 intro W0 T0
 refine AC.lenG 0 5 rfl rfl (fun hlen0_5=>?_)
 obtain ⟨hb1,hb2⟩:=hb
 refine AC.goes ttk 2 rfl ?_
 refine AC.go ttk 4 rfl ?_
 refine AL.vl (g_binI rfl rfl rfl (wrap_ok (by first|omega|(simp;done)|(simp;omega)))) rfl ?_
 refine AL.runs ttk 1 rfl ?_
 refine AL.nx ?_
 refine AC.ret ?_
 refine retQ_go ttk [] 0 rfl rfl rfl rfl rfl rfl ?_ ?_
 all_goals first|rfl|(simp [ufs];done)|(simp [ufs];omega)
set_option maxRecDepth 100000 in
set_option maxHeartbeats 1000000 in
theorem c_card_own (c:Card) (hl:c.uses.length<=1048576):Fn Try.prog 108 [(.g [(cI c.money),(cI c.held),(cI c.pace.ticks),(cI c.pace.count),(cI c.pace.sum),(vlU c.uses)])] (.v (.g [cI c.money,cI c.held,cI c.pace.ticks,cI c.pace.count,cI c.pace.sum,.s 0 0 2 c.uses.length])) [(0,.arr 125 2 (c.uses.map rUse))]:=by
 refine Fn.mk' 8 [(0,(aG [(cI c.money),(cI c.held),(cI c.pace.ticks),(cI c.pace.count),(cI c.pace.sum),(vlU c.uses)]))] Try.func108 rfl rfl rfl rfl ?_
 intro W0 T0
 refine AC.lenG 0 5 rfl rfl (fun hlen0_5=>?_)
 refine AC.goes ttk 2 rfl ?_
 refine AC.go ttk 2 rfl ?_
 refine AL.cn 3 [2,1,0] (g_call 2 (c_Clone_Use c.uses (by first|omega|(simp;done)|(simp;omega))) en114 rfl rfl ⟨⟨_,rfl,.c (.d _)⟩,trivial⟩ trivial ⟨(fun _ _ _ _=>trivial),trivial⟩ rfl rfl rfl rfl) rfl ?_
 refine AL.runs ttk 2 rfl ?_
 refine AL.nx ?_
 refine AC.goes ttk 2 rfl ?_
 refine AC.ret ?_
 refine retQ_go ttk [2,1] 1 rfl rfl rfl rfl rfl rfl ?_ ?_
 all_goals first|rfl|(simp [ufs];done)|(simp [ufs];omega)
end Go.Proofs.Ytegepioggeggaaa.Dev
namespace Go.Proofs.Ytegepioggeggaaa.Dev
open Go.RowKit

set_option maxRecDepth 100000 in
set_option maxHeartbeats 1000000 in
theorem c_card_Allow (c:Card) (n time:Int) (x:Card) (e:Int) (hr:allowC c n time=(x,e)):Fn Try.prog 80 [(.g [(cI c.money),(cI c.held),(cI c.pace.ticks),(cI c.pace.count),(cI c.pace.sum),(vlU c.uses)]),(.c (cI n)),(.c (cI time))] (.t [(.g [(cI x.money),(cI x.held),(cI x.pace.ticks),(cI x.pace.count),(cI x.pace.sum),(.s 0 0 2 x.uses.length)]),(.c (cI e))]) [(0,(alU x.uses))]:=by
 refine Fn.mk' 60 [(0,(aG [(cI c.money),(cI c.held),(cI c.pace.ticks),(cI c.pace.count),(cI c.pace.sum),(vlU c.uses)])),(1,(aI n)),(2,(aI time))] Try.func80 rfl rfl rfl rfl ?_
 intro W0 T0
 refine AC.lenG 0 5 rfl rfl (fun hlen0_5=>?_)
 have hrc:=@rightC c
 have hrl:=@rightC_len c
 refine AC.goes ttk 3 rfl ?_
 refine AC.seq ?_
 refine AC.go ttk 1 rfl ?_
 obtain ⟨e0,hr0⟩:∃ (e0:Int),wrongC c=e0:=⟨_,rfl⟩
 refine AL.cn 2 [1,0] (g_call 2 (c_card_Wrong c e0 hr0) en28 rfl rfl ⟨⟨_,rfl,.g ⟨.d _,.d _,.d _,.d _,.d _,.d _,trivial⟩⟩,trivial⟩ trivial trivial rfl rfl rfl rfl) rfl ?_
 refine AL.runs ttk 1 rfl ?_
 refine AL.nx ?_
 refine AC.goes ttk 2 rfl ?_
 refine AC.cond rfl (fun hc1=>?_) (fun hc1=>?_)
 ·
  have hc1':=of_decide_eq_true hc1
  refine AC.goes ttk 4 rfl ?_
  refine AC.ret ?_
  refine then_ret ?_
  refine retQ_nilB 1 5 125 2 rfl rfl rfl ?_
  have hX:allowC c n time=((⟨0,0,(⟨0,0,0⟩:Pace),([]:List Use)⟩:Card),e0):=by
    unfold allowC;rw [if_pos (by omega),hr0];rfl
  rw [hX] at hr;clear hX
  simp only [Prod.mk.injEq] at hr;obtain ⟨rfl,rfl⟩:=hr
  refine retQ_go ttk [2,1] 1 rfl rfl rfl rfl rfl rfl ?_ ?_
  all_goals first|rfl|(simp [ufs];done)|(simp [ufs];omega)
 have hc1':=of_decide_eq_false hc1
 refine AC.sk ?_
 refine AC.seq ?_
 refine AC.cutB 30 ((((decide (n < 1))||(decide (n > 1000000)))||(decide (time < 0)))||(decide (time > 1000000))) ?_ ?_
 ·
  refine AC.region ?_
  refine AL.runs ttk 3 rfl ?_
  refine AL.dec (t:=19) rfl (fun hb2=>?_) (fun hb2=>?_)
  ·
   have hb2':=of_decide_eq_true hb2
   refine AL.runs ttk 11 rfl ?_
   refine AL.nx ?_
   exact Weak.popB 15 rfl rfl (by first|(simp [hb2];done)|(simp_all;done)|(exfalso;simp_all;done)|(simp_all;omega)) rfl
  have hb2':=of_decide_eq_false hb2
  refine AL.runs ttk 4 rfl ?_
  refine AL.dec (t:=23) rfl (fun hb3=>?_) (fun hb3=>?_)
  ·
   have hb3':=of_decide_eq_true hb3
   refine AL.runs ttk 7 rfl ?_
   refine AL.nx ?_
   exact Weak.popB 16 rfl rfl (by first|(simp [hb2,hb3];done)|(simp_all;done)|(exfalso;simp_all;done)|(simp_all;omega)) rfl
  have hb3':=of_decide_eq_false hb3
  refine AL.runs ttk 4 rfl ?_
  refine AL.dec (t:=27) rfl (fun hb4=>?_) (fun hb4=>?_)
  ·
   have hb4':=of_decide_eq_true hb4
   refine AL.runs ttk 3 rfl ?_
   refine AL.nx ?_
   exact Weak.popB 17 rfl rfl (by first|(simp [hb2,hb3,hb4];done)|(simp_all;done)|(exfalso;simp_all;done)|(simp_all;omega)) rfl
  have hb4':=of_decide_eq_false hb4
  refine AL.runs ttk 3 rfl ?_
  refine AL.nx ?_
  exact Weak.popB 17 rfl rfl (by first|(simp [hb2,hb3,hb4];done)|(simp_all;done)|(exfalso;simp_all;done)|(simp_all;omega)) rfl
 refine AC.cond rfl (fun hc5=>?_) (fun hc5=>?_)
 ·
  have hc5':=hc5;try simp only [sumB,dns] at hc5'
  refine AC.goes ttk 3 rfl ?_
  refine AC.ret ?_
  refine then_ret ?_
  refine retQ_nilB 1 5 125 2 rfl rfl rfl ?_
  have hX:allowC c n time=((⟨0,0,(⟨0,0,0⟩:Pace),([]:List Use)⟩:Card),3):=by
    unfold allowC;rw [if_neg (by omega),if_pos (by omega)];rfl
  rw [hX] at hr;clear hX
  simp only [Prod.mk.injEq] at hr;obtain ⟨rfl,rfl⟩:=hr
  refine retQ_go ttk [2,1] 1 rfl rfl rfl rfl rfl rfl ?_ ?_
  all_goals first|rfl|(simp [ufs];done)|(simp [ufs];omega)
 have hc5':=hc5;try simp only [sumB,dns] at hc5'
 refine AC.sk ?_
 refine AC.seq ?_
 refine AC.go ttk 2 rfl ?_
 refine AL.cn 2 [1,0] (g_call 2 (c_card_Free c (by first|assumption|omega|(constructor<;>decide)|(have hz:=rightC (by first|assumption|omega);omega))) en24 rfl rfl ⟨⟨_,rfl,.g ⟨.d _,.d _,.d _,.d _,.d _,.d _,trivial⟩⟩,trivial⟩ trivial trivial rfl rfl rfl rfl) rfl ?_
 refine AL.runs ttk 1 rfl ?_
 refine AL.nx ?_
 refine AC.cond rfl (fun hc6=>?_) (fun hc6=>?_)
 ·
  have hc6':=of_decide_eq_true hc6
  refine AC.goes ttk 3 rfl ?_
  refine AC.ret ?_
  refine then_ret ?_
  refine retQ_nilB 1 5 125 2 rfl rfl rfl ?_
  have hX:allowC c n time=((⟨0,0,(⟨0,0,0⟩:Pace),([]:List Use)⟩:Card),10):=by
    unfold allowC;rw [if_neg (by omega),if_neg (by omega),if_pos (by omega)];rfl
  rw [hX] at hr;clear hX
  simp only [Prod.mk.injEq] at hr;obtain ⟨rfl,rfl⟩:=hr
  refine retQ_go ttk [2,1] 1 rfl rfl rfl rfl rfl rfl ?_ ?_
  all_goals first|rfl|(simp [ufs];done)|(simp [ufs];omega)
 have hc6':=of_decide_eq_false hc6
 refine AC.sk ?_
 refine AC.go ttk 7 rfl ?_
 obtain ⟨r1,e1,hr1⟩:∃ (r1:List Use) (e1:Int),addUse c.pace c.uses (⟨time,n⟩:Use)=(r1,e1):=⟨_,_,rfl⟩
 refine AL.cn 3 [2,1,0] (g_call 2 (c_pace_Add c.pace c.uses (⟨time,n⟩:Use) r1 e1 hr1) en100 rfl rfl ⟨⟨_,rfl,.g ⟨.d _,.d _,.d _,trivial⟩⟩,⟨_,rfl,.c (.d _)⟩,⟨_,rfl,.g ⟨.d _,.d _,trivial⟩⟩,trivial⟩ ⟨trivial,trivial,trivial⟩ ⟨(fun _ _ _ _=>trivial),trivial⟩ rfl rfl rfl rfl) rfl ?_
 refine AL.runs ttk 5 rfl ?_
 refine AL.nx ?_
 refine AC.seq ?_
 refine AC.goes ttk 2 rfl ?_
 refine AC.cond rfl (fun hc7=>?_) (fun hc7=>?_)
 ·
  have hc7':=of_decide_eq_true hc7
  refine AC.goes ttk 4 rfl ?_
  refine AC.ret ?_
  refine then_ret ?_
  refine retQ_nilB 1 5 125 2 rfl rfl rfl ?_
  have hX:allowC c n time=((⟨0,0,(⟨0,0,0⟩:Pace),([]:List Use)⟩:Card),e1):=by
    have ha:=hr1
    unfold allowC;rw [if_neg (by omega),if_neg (by omega),if_neg (by omega),if_pos (by rw [ha];dsimp only;omega),ha];rfl
  rw [hX] at hr;clear hX
  simp only [Prod.mk.injEq] at hr;obtain ⟨rfl,rfl⟩:=hr
  refine retQ_go ttk [3,1] 1 rfl rfl rfl rfl rfl rfl ?_ ?_
  all_goals first|rfl|(simp [ufs];done)|(simp [ufs];omega)
 have hc7':=of_decide_eq_false hc7
 refine AC.sk ?_
 refine AC.goes ttk 3 rfl ?_
 refine AC.go ttk 3 rfl ?_
 refine AL.vl (g_binI rfl rfl rfl (wrap_ok (by first|omega|(simp;done)|(simp;omega)))) rfl ?_
 refine AL.runs ttk 2 rfl ?_
 refine AL.nx ?_
 refine AC.goes ttk 3 rfl ?_
 refine AC.ret ?_
 have hX:allowC c n time=((⟨c.money,c.held+n,c.pace,r1⟩:Card),0):=by
   have ha:=hr1
   unfold allowC;rw [if_neg (by omega),if_neg (by omega),if_neg (by omega),if_neg (by rw [ha];dsimp only;omega),ha]
 rw [hX] at hr;clear hX
 simp only [Prod.mk.injEq] at hr;obtain ⟨rfl,rfl⟩:=hr
 refine retQ_go ttk [2,1] 1 rfl rfl rfl rfl rfl rfl ?_ ?_
 all_goals first|rfl|(simp [ufs];done)|(simp [ufs];omega)
set_option maxRecDepth 100000 in
set_option maxHeartbeats 1000000 in
theorem c_card_Force (c:Card) (n:Int) (x:Card) (e:Int) (hr:forceC c n=(x,e)):Fn Try.prog 91 [(.g [(cI c.money),(cI c.held),(cI c.pace.ticks),(cI c.pace.count),(cI c.pace.sum),(vlU c.uses)]),(.c (cI n))] (.t [(.g [(cI x.money),(cI x.held),(cI x.pace.ticks),(cI x.pace.count),(cI x.pace.sum),(.s 0 0 2 x.uses.length)]),(.c (cI e))]) [(0,(alU x.uses))]:=by
 refine Fn.mk' 35 [(0,(aG [(cI c.money),(cI c.held),(cI c.pace.ticks),(cI c.pace.count),(cI c.pace.sum),(vlU c.uses)])),(1,(aI n))] Try.func91 rfl rfl rfl rfl ?_
 intro W0 T0
 refine AC.lenG 0 5 rfl rfl (fun hlen0_5=>?_)
 have hrc:=@rightC c
 have hrl:=@rightC_len c
 refine AC.goes ttk 3 rfl ?_
 refine AC.seq ?_
 refine AC.go ttk 1 rfl ?_
 obtain ⟨e0,hr0⟩:∃ (e0:Int),wrongC c=e0:=⟨_,rfl⟩
 refine AL.cn 2 [1,0] (g_call 2 (c_card_Wrong c e0 hr0) en28 rfl rfl ⟨⟨_,rfl,.g ⟨.d _,.d _,.d _,.d _,.d _,.d _,trivial⟩⟩,trivial⟩ trivial trivial rfl rfl rfl rfl) rfl ?_
 refine AL.runs ttk 1 rfl ?_
 refine AL.nx ?_
 refine AC.goes ttk 2 rfl ?_
 refine AC.cond rfl (fun hc1=>?_) (fun hc1=>?_)
 ·
  have hc1':=of_decide_eq_true hc1
  refine AC.goes ttk 4 rfl ?_
  refine AC.ret ?_
  refine then_ret ?_
  refine retQ_nilB 1 5 125 2 rfl rfl rfl ?_
  have hX:forceC c n=((⟨0,0,(⟨0,0,0⟩:Pace),([]:List Use)⟩:Card),e0):=by
    unfold forceC;rw [if_pos (by omega),hr0];rfl
  rw [hX] at hr;clear hX
  simp only [Prod.mk.injEq] at hr;obtain ⟨rfl,rfl⟩:=hr
  refine retQ_go ttk [2,1] 1 rfl rfl rfl rfl rfl rfl ?_ ?_
  all_goals first|rfl|(simp [ufs];done)|(simp [ufs];omega)
 have hc1':=of_decide_eq_false hc1
 refine AC.sk ?_
 refine AC.seq ?_
 refine AC.cutB 25 (((decide (n < 1))||(decide (n > 1000000)))||(decide (n > (1000000000000 - c.held)))) ?_ ?_
 ·
  refine AC.region ?_
  refine AL.runs ttk 3 rfl ?_
  refine AL.dec (t:=15) rfl (fun hb2=>?_) (fun hb2=>?_)
  ·
   have hb2':=of_decide_eq_true hb2
   refine AL.runs ttk 10 rfl ?_
   refine AL.nx ?_
   exact Weak.popB 14 rfl rfl (by first|(simp [hb2];done)|(simp_all;done)|(exfalso;simp_all;done)|(simp_all;omega)) rfl
  have hb2':=of_decide_eq_false hb2
  refine AL.runs ttk 4 rfl ?_
  refine AL.dec (t:=19) rfl (fun hb3=>?_) (fun hb3=>?_)
  ·
   have hb3':=of_decide_eq_true hb3
   refine AL.runs ttk 6 rfl ?_
   refine AL.nx ?_
   exact Weak.popB 15 rfl rfl (by first|(simp [hb2,hb3];done)|(simp_all;done)|(exfalso;simp_all;done)|(simp_all;omega)) rfl
  have hb3':=of_decide_eq_false hb3
  refine AL.runs ttk 3 rfl ?_
  refine AL.val (Wanted.yes rfl rfl rfl) (g_binI rfl rfl rfl (wrap_ok (by first|omega|(simp;done)|(simp;omega)))) rfl rfl ?_
  refine AL.runs ttk 2 rfl ?_
  refine AL.nx ?_
  exact Weak.popB 15 rfl rfl (by first|(simp [hb2,hb3];done)|(simp_all;done)|(exfalso;simp_all;done)|(simp_all;omega)) rfl
 refine AC.cond rfl (fun hc4=>?_) (fun hc4=>?_)
 ·
  have hc4':=hc4;try simp only [sumB,dns] at hc4'
  refine AC.goes ttk 3 rfl ?_
  refine AC.ret ?_
  refine then_ret ?_
  refine retQ_nilB 1 5 125 2 rfl rfl rfl ?_
  have hX:forceC c n=((⟨0,0,(⟨0,0,0⟩:Pace),([]:List Use)⟩:Card),3):=by
    unfold forceC;rw [if_neg (by omega),if_pos (by omega)];rfl
  rw [hX] at hr;clear hX
  simp only [Prod.mk.injEq] at hr;obtain ⟨rfl,rfl⟩:=hr
  refine retQ_go ttk [2,1] 1 rfl rfl rfl rfl rfl rfl ?_ ?_
  all_goals first|rfl|(simp [ufs];done)|(simp [ufs];omega)
 have hc4':=hc4;try simp only [sumB,dns] at hc4'
 refine AC.sk ?_
 refine AC.go ttk 1 rfl ?_
 refine AL.cn 3 [2,1,0] (g_call 2 (c_card_own c (by first|assumption|omega)) en108 rfl rfl ⟨⟨_,rfl,.g ⟨.d _,.d _,.d _,.d _,.d _,.d _,trivial⟩⟩,trivial⟩ ⟨trivial,trivial,trivial,trivial,trivial,trivial,trivial⟩ ⟨(fun _ _ _ _=>trivial),trivial⟩ rfl rfl rfl rfl) rfl ?_
 refine AL.runs ttk 1 rfl ?_
 refine AL.nx ?_
 refine AC.go ttk 3 rfl ?_
 refine AL.vl (g_binI rfl rfl rfl (wrap_ok (by first|omega|(simp;done)|(simp;omega)))) rfl ?_
 refine AL.runs ttk 2 rfl ?_
 refine AL.nx ?_
 refine AC.goes ttk 3 rfl ?_
 refine AC.ret ?_
 have hX:forceC c n=((⟨c.money,c.held+n,c.pace,c.uses⟩:Card),0):=by
   unfold forceC;rw [if_neg (by omega),if_neg (by omega)]
 rw [hX] at hr;clear hX
 simp only [Prod.mk.injEq] at hr;obtain ⟨rfl,rfl⟩:=hr
 refine retQ_go ttk [2,1] 1 rfl rfl rfl rfl rfl rfl ?_ ?_
 all_goals first|rfl|(simp [ufs];done)|(simp [ufs];omega)
end Go.Proofs.Ytegepioggeggaaa.Dev
namespace Go.Proofs.Ytegepioggeggaaa.Dev
open Go.RowKit

set_option maxRecDepth 100000 in
set_option maxHeartbeats 1000000 in
theorem c_card_Shift (c:Card) (held money:Int) (x:Card) (e:Int) (hr:shiftC c held money=(x,e)):Fn Try.prog 97 [(.g [(cI c.money),(cI c.held),(cI c.pace.ticks),(cI c.pace.count),(cI c.pace.sum),(vlU c.uses)]),(.c (cI held)),(.c (cI money))] (.t [(.g [(cI x.money),(cI x.held),(cI x.pace.ticks),(cI x.pace.count),(cI x.pace.sum),(.s 0 0 2 x.uses.length)]),(.c (cI e))]) [(0,(alU x.uses))]:=by
 refine Fn.mk' 52 [(0,(aG [(cI c.money),(cI c.held),(cI c.pace.ticks),(cI c.pace.count),(cI c.pace.sum),(vlU c.uses)])),(1,(aI held)),(2,(aI money))] Try.func97 rfl rfl rfl rfl ?_
 intro W0 T0
 refine AC.lenG 0 5 rfl rfl (fun hlen0_5=>?_)
 have hrc:=@rightC c
 have hrl:=@rightC_len c
 refine AC.goes ttk 3 rfl ?_
 refine AC.seq ?_
 refine AC.go ttk 1 rfl ?_
 obtain ⟨e0,hr0⟩:∃ (e0:Int),wrongC c=e0:=⟨_,rfl⟩
 refine AL.cn 2 [1,0] (g_call 2 (c_card_Wrong c e0 hr0) en28 rfl rfl ⟨⟨_,rfl,.g ⟨.d _,.d _,.d _,.d _,.d _,.d _,trivial⟩⟩,trivial⟩ trivial trivial rfl rfl rfl rfl) rfl ?_
 refine AL.runs ttk 1 rfl ?_
 refine AL.nx ?_
 refine AC.goes ttk 2 rfl ?_
 refine AC.cond rfl (fun hc1=>?_) (fun hc1=>?_)
 ·
  have hc1':=of_decide_eq_true hc1
  refine AC.goes ttk 4 rfl ?_
  refine AC.ret ?_
  refine then_ret ?_
  refine retQ_nilB 1 5 125 2 rfl rfl rfl ?_
  have hX:shiftC c held money=((⟨0,0,(⟨0,0,0⟩:Pace),([]:List Use)⟩:Card),e0):=by
    unfold shiftC;rw [if_pos (by omega),hr0];rfl
  rw [hX] at hr;clear hX
  simp only [Prod.mk.injEq] at hr;obtain ⟨rfl,rfl⟩:=hr
  refine retQ_go ttk [2,1] 1 rfl rfl rfl rfl rfl rfl ?_ ?_
  all_goals first|rfl|(simp [ufs];done)|(simp [ufs];omega)
 have hc1':=of_decide_eq_false hc1
 refine AC.sk ?_
 refine AC.seq ?_
 refine AC.go ttk 2 rfl ?_
 refine AL.cn 3 [2,1,0] (g_lit (ys:=[(0,(.c (cI held))),(1,(.c (cI money)))]) (rows:=([held,money]).map rI) 2 sl30 rfl (by decide) ⟨⟨rfl,rfl⟩,⟨rfl,rfl⟩,trivial⟩ rfl rfl rfl rfl) rfl ?_
 refine AL.vl (g_lenS rfl rfl rfl rfl rfl Try.underlying30) rfl ?_
 refine AL.runs ttk 1 rfl ?_
 refine AL.nx ?_
 refine AC.block ?_
 refine AC.loop (β:=Nat) (fun (q:Nat)=>⟨[(1,(aI held)),(2,(aI money)),(3,(aC (.p 0 0 0 0))),(6,(aC (.p 1 0 0 0))),(20,(aC (.s 2 0 1 2))),(21,(aI 2)),(22,(aI (↑q:Int)))],[(2,(alI ([held,money]))),(1,(.box 61 [(cI 0),(cI 0),(cI 0),(cI 0),(cI 0),cN])),(0,(.box 61 [(cI c.money),(cI c.held),(cI c.pace.ticks),(cI c.pace.count),(cI c.pace.sum),(vlU c.uses)]))],3⟩) (fun (q:Nat)=>q<=2/\(0 < q->-1000000000000<=held/\held<=1000000000000)/\(1 < q->-1000000000000<=money/\money<=1000000000000)) (fun (q:Nat)=>2 - q) 0 ?_ ?_ ?_
 ·exact ⟨by omega,by omega,by omega⟩
 ·exact Weak.ren id (by refine ⟨?_,?_,?_,?_,?_,?_,?_,trivial⟩<;>first|rfl|(simp only [mps];done)|(congr 3;omega)|(congr 4;omega)|(simp only [lns];rfl)) (by refine ⟨?_,?_,?_,trivial⟩<;>first|rfl|(simp only [mps];done)|(congr 3;omega)|(congr 4;omega)|(simp only [lns];rfl)) rfl
 rintro q ⟨hi0_0,hi0_1,hi0_2⟩
 refine AC.goes ttk 1 rfl ?_
 refine AC.seq ?_
 refine AC.cond rfl (fun hc2=>?_) (fun hc2=>?_)
 ·
  have hc2':=of_decide_eq_true hc2
  refine AC.sk ?_
  refine AC.seq ?_
  refine AC.block ?_
  refine AC.sr ?_
  refine AL.vl (g_indexP0 (i:=q) rfl rfl rfl Try.underlying30 sz3 (by first|omega|(simp;done)|(simp;omega)) (by first|omega|(simp;done)|(simp;omega))) rfl ?_
  obtain ⟨x1,hx1⟩:=exget (xs:=([held,money]:List Int)) (i:=q) (by first|omega|(simp;done)|(simp;omega))
  have hx1v:=get2 hx1
  refine AL.vl (g_loadA rfl rfl rfl Try.underlying3 rfl (getmap hx1) rfl) rfl ?_
  refine AL.runs ttk 1 rfl ?_
  refine AL.nx ?_
  refine AC.cutB 31 ((decide (x1 < (-1000000000000)))||(decide (x1 > 1000000000000))) ?_ ?_
  ·
   refine AC.region ?_
   refine AL.runs ttk 3 rfl ?_
   refine AL.dec (t:=28) rfl (fun hb3=>?_) (fun hb3=>?_)
   ·
    have hb3':=of_decide_eq_true hb3
    refine AL.runs ttk 3 rfl ?_
    refine AL.nx ?_
    exact Weak.popB 7 rfl rfl (by first|(simp [hb3];done)|(simp_all;done)|(exfalso;simp_all;done)|(simp_all;omega)) rfl
   have hb3':=of_decide_eq_false hb3
   refine AL.runs ttk 3 rfl ?_
   refine AL.nx ?_
   exact Weak.popB 7 rfl rfl (by first|(simp [hb3];done)|(simp_all;done)|(exfalso;simp_all;done)|(simp_all;omega)) rfl
  refine AC.cond rfl (fun hc4=>?_) (fun hc4=>?_)
  ·
   have hc4':=hc4;try simp only [sumB,dns] at hc4'
   refine AC.goes ttk 3 rfl ?_
   refine AC.ret ?_
   refine block_ret ?_
   refine then_ret ?_
   refine then_ret ?_
   refine block_ret ?_
   refine then_ret ?_
   refine retQ_nilB 1 5 125 2 rfl rfl rfl ?_
   have hX:shiftC c held money=((⟨0,0,(⟨0,0,0⟩:Pace),([]:List Use)⟩:Card),3):=by
     unfold shiftC;rw [if_neg (by omega),if_pos (by omega)];rfl
   rw [hX] at hr;clear hX
   simp only [Prod.mk.injEq] at hr;obtain ⟨rfl,rfl⟩:=hr
   refine retQ_go ttk [3,1] 1 rfl rfl rfl rfl rfl rfl ?_ ?_
   all_goals first|rfl|(simp [ufs];done)|(simp [ufs];omega)
  have hc4':=hc4;try simp only [sumB,dns] at hc4'
  refine AC.skip ?_
  refine block_ok ?_
  refine then_ok ?_
  refine AC.region ?_
  refine AL.vl (g_binI rfl rfl rfl (wrap_ok (by first|omega|(simp;done)|(simp;omega)))) rfl ?_
  refine AL.runs ttk 1 rfl ?_
  refine AL.nx ?_
  refine ⟨q+1,⟨by omega,by omega,by omega⟩,by first|omega|(simp;done)|(simp;omega),Weak.ren id (by refine ⟨?_,?_,?_,?_,?_,?_,?_,trivial⟩<;>first|rfl|(simp only [mps];done)|(congr 3;omega)|(congr 4;omega)|(simp only [lns];rfl)) (by refine ⟨?_,?_,?_,trivial⟩<;>first|rfl|(simp only [mps];done)|(congr 3;omega)|(congr 4;omega)|(simp only [lns];rfl)) rfl⟩
 have hc2':=of_decide_eq_false hc2
 refine AC.exit ?_
 refine then_exit ?_
 refine then_exit ?_
 refine block_hit ?_
 refine then_ok ?_
 refine AC.go ttk 1 rfl ?_
 refine AL.cn 4 [3,2,1,0] (g_call 3 (c_card_own c (by first|assumption|omega)) en108 rfl rfl ⟨⟨_,rfl,.g ⟨.d _,.d _,.d _,.d _,.d _,.d _,trivial⟩⟩,trivial⟩ ⟨trivial,trivial,trivial,trivial,trivial,trivial,trivial⟩ ⟨(fun _ _ _ _=>trivial),trivial⟩ rfl rfl rfl rfl) rfl ?_
 refine AL.runs ttk 1 rfl ?_
 refine AL.nx ?_
 refine AC.go ttk 3 rfl ?_
 refine AL.vl (g_binI rfl rfl rfl (wrap_ok (by first|omega|(simp;done)|(simp;omega)))) rfl ?_
 refine AL.runs ttk 2 rfl ?_
 refine AL.nx ?_
 refine AC.go ttk 3 rfl ?_
 refine AL.vl (g_binI rfl rfl rfl (wrap_ok (by first|omega|(simp;done)|(simp;omega)))) rfl ?_
 refine AL.runs ttk 2 rfl ?_
 refine AL.nx ?_
 refine AC.seq ?_
 refine AC.go ttk 1 rfl ?_
 obtain ⟨e1,hr1⟩:∃ (e1:Int),wrongC (⟨c.money+money,c.held+held,c.pace,c.uses⟩:Card)=e1:=⟨_,rfl⟩
 refine AL.cn 4 [3,2,1,0] (g_callE 4 [3] (c_card_Wrong (⟨c.money+money,c.held+held,c.pace,c.uses⟩:Card) e1 hr1) en28 rfl rfl ⟨⟨_,rfl,.g ⟨.d _,.d _,.d _,.d _,.d _,.s rfl (by decide) (by first|omega|(simp;done)|(simp;omega)),trivial⟩⟩,trivial⟩ rfl trivial rfl rfl rfl rfl) rfl ?_
 refine AL.runs ttk 1 rfl ?_
 refine AL.nx ?_
 refine AC.goes ttk 2 rfl ?_
 refine AC.cond rfl (fun hc5=>?_) (fun hc5=>?_)
 ·
  have hc5':=of_decide_eq_true hc5
  refine AC.goes ttk 3 rfl ?_
  refine AC.ret ?_
  refine then_ret ?_
  refine retQ_nilB 1 5 125 2 rfl rfl rfl ?_
  have hX:shiftC c held money=((⟨0,0,(⟨0,0,0⟩:Pace),([]:List Use)⟩:Card),10):=by
    unfold shiftC;rw [if_neg (by omega),if_neg (by omega),if_pos (by first|omega|(intro hz;have hy:=rightC hz;dsimp only at hy;omega))];rfl
  rw [hX] at hr;clear hX
  simp only [Prod.mk.injEq] at hr;obtain ⟨rfl,rfl⟩:=hr
  refine retQ_go ttk [4,1] 1 rfl rfl rfl rfl rfl rfl ?_ ?_
  all_goals first|rfl|(simp [ufs];done)|(simp [ufs];omega)
 have hc5':=of_decide_eq_false hc5
 refine AC.sk ?_
 refine AC.goes ttk 3 rfl ?_
 refine AC.ret ?_
 have hX:shiftC c held money=((⟨c.money+money,c.held+held,c.pace,c.uses⟩:Card),0):=by
   unfold shiftC;rw [if_neg (by omega),if_neg (by omega),if_neg (by first|omega|(have hz:=rightC' (c:=⟨c.money+money,c.held+held,c.pace,c.uses⟩) (by dsimp only;omega) (hrc (by omega)).2.2.2.2.1 (hrc (by omega)).2.2.2.2.2;omega))]
 rw [hX] at hr;clear hX
 simp only [Prod.mk.injEq] at hr;obtain ⟨rfl,rfl⟩:=hr
 refine retQ_go ttk [3,1] 1 rfl rfl rfl rfl rfl rfl ?_ ?_
 all_goals first|rfl|(simp [ufs];done)|(simp [ufs];omega)
end Go.Proofs.Ytegepioggeggaaa.Dev
namespace Go.Proofs.Ytegepioggeggaaa.Dev
open Go.RowKit


end Go.Proofs.Ytegepioggeggaaa.Dev
namespace Go.Proofs.Ytegepioggeggaaa.Dev
open Go.RowKit

set_option maxRecDepth 100000 in
set_option maxHeartbeats 1000000 in
theorem c_Index_Transfer (l:List Transfer) (fn:FuncId) (caps:List (List D)) (pr:Transfer->Bool) (hp:∀ x:Transfer,Fn Try.prog fn ([.g [cI x.number,cI x.kind,cI x.auth,cI x.sum]]++caps.map fun r=>GV.c (.q r 0)) (aB (pr x)) []) (hen:Enters Try.prog fn) (r:Int) (hr:idxF pr l=r):Fn Try.prog 113 [(.c (vlT l)),(.c (.d (.f fn caps)))] (.v (.c (cI r))) []:=by
 refine Fn.mk' 19 [(0,(aC (vlT l))),(1,(aC (.d (.f fn caps))))] Try.func113 rfl rfl rfl rfl ?_
 intro W0 T0
 refine AC.len1 0 rfl (fun hlen0=>?_)
 refine AC.goes ttk 1 rfl ?_
 refine AC.seq ?_
 refine AC.go ttk 1 rfl ?_
 refine AL.vl (g_lenM rfl rfl rfl rfl rfl Try.underlying32) rfl ?_
 refine AL.runs ttk 1 rfl ?_
 refine AL.nx ?_
 refine AC.block ?_
 refine AC.loop (β:=Nat) (fun (q:Nat)=>⟨[(0,(aC (vlT l))),(1,(aC (.d (.f fn caps)))),(7,(aI (↑l.length:Int))),(8,(aI (↑q:Int)))],[],0⟩) (fun (q:Nat)=>q<=l.length/\(l.take q).all (fun y=>!pr y)=true) (fun (q:Nat)=>l.length - q) 0 ?_ ?_ ?_
 ·exact ⟨by omega,by simp⟩
 ·exact Weak.ren id (by refine ⟨?_,?_,?_,?_,trivial⟩<;>first|rfl|(simp only [mps];done)|(congr 3;omega)|(congr 4;omega)|(simp only [lns];rfl)) (trivial) rfl
 rintro q ⟨hi0_0,hi0_1⟩
 refine AC.goes ttk 1 rfl ?_
 refine AC.seq ?_
 refine AC.cond rfl (fun hc1=>?_) (fun hc1=>?_)
 ·
  have hc1':=of_decide_eq_true hc1
  refine AC.sk ?_
  refine AC.seq ?_
  refine AC.block ?_
  refine AC.goes ttk 2 rfl ?_
  refine AC.go ttk 3 rfl ?_
  obtain ⟨x1,hx1⟩:=exget (xs:=l) (i:=q) (by first|omega|(simp;done)|(simp;omega))
  refine AL.vl (g_indexQ (i:=q) rfl rfl rfl Try.underlying32 sz80 (by first|omega|(simp;done)|(simp;omega)) (getmap hx1)) rfl ?_
  refine AL.runs ttk 1 rfl ?_
  refine AL.vl (g_callF 0 (hp x1) hen rfl rfl rfl ⟨⟨_,rfl,.g ⟨.d _,.d _,.d _,.d _,trivial⟩⟩,trivial⟩ trivial trivial rfl rfl rfl rfl) rfl ?_
  refine AL.nx ?_
  refine AC.cond rfl (fun hc2=>?_) (fun hc2=>?_)
  ·
   have hc2':=hc2;try simp only [sumB,dns] at hc2'
   refine AC.goes ttk 2 rfl ?_
   refine AC.ret ?_
   refine block_ret ?_
   refine then_ret ?_
   refine then_ret ?_
   refine block_ret ?_
   refine then_ret ?_
   have hX:idxF pr l=(↑q:Int):=by
     exact idx_found hi0_1 hx1 hc2
   rw [hX] at hr;clear hX
   subst hr
   refine retQ_go ttk [] 0 rfl rfl rfl rfl rfl rfl ?_ ?_
   all_goals first|rfl|(simp [ufs];done)|(simp [ufs];omega)
  have hc2':=hc2;try simp only [sumB,dns] at hc2'
  refine AC.skip ?_
  refine block_ok ?_
  refine then_ok ?_
  refine AC.region ?_
  refine AL.vl (g_binI rfl rfl rfl (wrap_ok (by first|omega|(simp;done)|(simp;omega)))) rfl ?_
  refine AL.runs ttk 1 rfl ?_
  refine AL.nx ?_
  refine ⟨q+1,⟨by omega,all_keep hi0_1 hx1 hc2⟩,by first|omega|(simp;done)|(simp;omega),Weak.ren id (by refine ⟨?_,?_,?_,?_,trivial⟩<;>first|rfl|(simp only [mps];done)|(congr 3;omega)|(congr 4;omega)|(simp only [lns];rfl)) (trivial) rfl⟩
 have hc1':=of_decide_eq_false hc1
 refine AC.exit ?_
 refine then_exit ?_
 refine then_exit ?_
 refine block_hit ?_
 refine then_ok ?_
 refine AC.goes ttk 1 rfl ?_
 refine AC.ret ?_
 have hX:idxF pr l=(-1):=by
   exact idx_none (by rw [<-List.take_of_length_le (l:=l) (i:=q) (by omega)];exact hi0_1)
 rw [hX] at hr;clear hX
 subst hr
 refine retQ_go ttk [] 0 rfl rfl rfl rfl rfl rfl ?_ ?_
 all_goals first|rfl|(simp [ufs];done)|(simp [ufs];omega)
set_option maxRecDepth 100000 in
set_option maxHeartbeats 1000000 in
theorem c_Delete_Transfer (l:List Transfer) (fn:FuncId) (caps:List (List D)) (pr:Transfer->Bool) (hp:∀ x:Transfer,Fn Try.prog fn ([.g [cI x.number,cI x.kind,cI x.auth,cI x.sum]]++caps.map fun r=>GV.c (.q r 0)) (aB (pr x)) []) (hen:Enters Try.prog fn) (r:List Transfer) (hr:keepL pr l=r):FnE Try.prog 105 [(.c (.s 0 0 4 l.length)),(.c (.d (.f fn caps)))] [(0,(alT l))] [] (.v (.c (.s 0 0 4 r.length))) [(0,(alT r))]:=by
 refine FnE.mk 42 [(0,(aC (.s 0 0 4 l.length))),(1,(aC (.d (.f fn caps))))] 1 Try.func105 rfl rfl rfl rfl rfl rfl rfl rfl rfl ?_
 intro W0 F0 T0 pg
 refine AC.lenS 0 rfl (fun hlen0=>?_)
 have hic:=idx_cases pr l
 have hib:idxF pr l<=l.length/\-1<=idxF pr l:=by rcases hic with ⟨h,_⟩|⟨i,h,h1,_⟩<;>omega
 refine AC.goes ttk 1 rfl ?_
 refine AC.go ttk 2 rfl ?_
 obtain ⟨r0,hr0⟩:∃ (r0:Int),idxF pr l=r0:=⟨_,rfl⟩
 refine AL.cn 1 [0] (g_callE 1 [0] (c_Index_Transfer l fn caps pr hp hen r0 hr0) en113 rfl rfl ⟨⟨_,rfl,.c (.s rfl (by decide) (by first|omega|(simp;done)|(simp;omega)))⟩,⟨_,rfl,.c (.d _)⟩,trivial⟩ rfl trivial rfl rfl rfl rfl) rfl ?_
 refine AL.runs ttk 1 rfl ?_
 refine AL.nx ?_
 refine AC.seq ?_
 refine AC.goes ttk 2 rfl ?_
 refine AC.cond rfl (fun hc1=>?_) (fun hc1=>?_)
 ·
  have hc1':=of_decide_eq_true hc1
  refine AC.goes ttk 2 rfl ?_
  refine AC.ret ?_
  refine then_ret ?_
  have hX:keepL pr l=l:=by
    rcases hic with ⟨_,h⟩|⟨i0,h,_⟩
    ·exact h
    ·exfalso;omega
  rw [hX] at hr;clear hX
  subst hr
  refine retQ_go ttk [0] 1 rfl rfl rfl rfl rfl rfl ?_ ?_
  all_goals first|rfl|(simp [ufs];done)|(simp [ufs];omega)
 have hc1':=of_decide_eq_false hc1
 refine AC.sk ?_
 refine AC.seq ?_
 refine AC.go ttk 1 rfl ?_
 refine AL.vl (g_binI rfl rfl rfl (wrap_ok (by first|omega|(simp;done)|(simp;omega)))) rfl ?_
 refine AL.runs ttk 1 rfl ?_
 refine AL.nx ?_
 refine AC.block ?_
 obtain ⟨i0,hi0,hil,x0,hx0,hp0,hk0⟩:∃ i:Nat,idxF pr l=i/\i < l.length/\∃ x,l[i]?=some x/\pr x=true/\keepL pr (l.take i)=l.take i:=by
     rcases hic with ⟨h,_⟩|h
     ·exfalso;omega
     ·exact h
 obtain rfl:r0=(i0:Int):=by omega
 refine AC.loop (β:=Nat×Nat×List Transfer) (fun (p:Nat×Nat×List Transfer)=>match p with|(j,i,c)=>⟨[(0,(aC (.s 0 0 4 l.length))),(1,(aC (.d (.f fn caps)))),(4,(aC cN)),(5,(aI (↑i:Int))),(6,(aI (↑j:Int)))],[(0,(alT c))],1⟩) (fun (p:Nat×Nat×List Transfer)=>match p with|(j,i,c)=>Del pr l c i j) (fun (p:Nat×Nat×List Transfer)=>match p with|(j,i,c)=>l.length - j) (i0+1,i0,l) ?_ ?_ ?_
 ·exact Del.start hx0 hp0 hk0
 ·exact Weak.ren id (by refine ⟨?_,?_,?_,?_,?_,trivial⟩<;>first|rfl|(simp only [mps];done)|(congr 3;omega)|(congr 4;omega)|(simp only [lns];rfl)) (⟨by first|rfl|(simp only [mps];done)|(congr 3;omega)|(congr 4;omega)|(simp only [lns];rfl),trivial⟩) rfl
 rintro ⟨j,i,c⟩ hd
 have hdl:=hd.len;have hdi:=hd.ij;have hdj:=hd.jl
 refine AC.seq ?_
 refine AC.go ttk 2 rfl ?_
 refine AL.vl (g_lenS rfl rfl rfl rfl rfl Try.underlying32) rfl ?_
 refine AL.runs ttk 1 rfl ?_
 refine AL.nx ?_
 refine AC.cond rfl (fun hc2=>?_) (fun hc2=>?_)
 ·
  have hc2':=of_decide_eq_true hc2
  refine AC.sk ?_
  refine AC.seq ?_
  refine AC.block ?_
  refine AC.go ttk 2 rfl ?_
  refine AL.vl (g_indexP0 (i:=j) rfl rfl rfl Try.underlying32 sz80 (by first|omega|(simp;done)|(simp;omega)) (by first|omega|(simp;done)|(simp;omega))) rfl ?_
  obtain ⟨x1,hx1⟩:=exget (xs:=c) (i:=j) (by first|omega|(simp;done)|(simp;omega))
  refine AL.vl (g_loadAs rfl rfl rfl Try.underlying80 rfl sz80 (getmap hx1) rfl) rfl ?_
  refine AL.runs ttk 2 rfl ?_
  refine AL.nx ?_
  refine AC.go ttk 2 rfl ?_
  refine AL.vl (g_callF 2 (hp x1) hen rfl rfl rfl ⟨⟨_,rfl,.g ⟨.d _,.d _,.d _,.d _,trivial⟩⟩,trivial⟩ trivial trivial rfl rfl rfl rfl) rfl ?_
  refine AL.runs ttk 1 rfl ?_
  refine AL.nx ?_
  refine AC.cond rfl (fun hc3=>?_) (fun hc3=>?_)
  ·
   have hc3':=hc3;try simp only [sumB,dns] at hc3'
   refine AC.go ttk 3 rfl ?_
   refine AL.vl (g_indexP0 (i:=i) rfl rfl rfl Try.underlying32 sz80 (by first|omega|(simp;done)|(simp;omega)) (by first|omega|(simp;done)|(simp;omega))) rfl ?_
   obtain ⟨x2,hx2⟩:=exget (xs:=c) (i:=i) (by first|omega|(simp;done)|(simp;omega))
   refine AL.so [1,0] (g_storeA (ds:=[(dI x1.number),(dI x1.kind),(dI x1.auth),(dI x1.sum)]) rfl rfl rfl rfl rfl sz80 rfl (Nat.le_of_ble_eq_true rfl) (getmap hx2) rfl (setmap (x':=x1) rfl)) rfl ?_
   refine AL.nx ?_
   refine AC.region ?_
   refine AL.runs ttk 1 rfl ?_
   refine AL.vl (g_binI rfl rfl rfl (wrap_ok (by first|omega|(simp;done)|(simp;omega)))) rfl ?_
   refine AL.runs ttk 1 rfl ?_
   refine AL.nil ?_
   refine block_ok ?_
   refine then_ok ?_
   refine AC.region ?_
   refine AL.runs ttk 1 rfl ?_
   refine AL.vl (g_binI rfl rfl rfl (wrap_ok (by first|omega|(simp;done)|(simp;omega)))) rfl ?_
   refine AL.runs ttk 1 rfl ?_
   refine AL.nx ?_
   refine ⟨(j+1,(i)+1,(c).set i x1),hd.keep hx1 (by simpa using hc3),by first|omega|(simp;done)|(simp;omega),Weak.ren id (by refine ⟨?_,?_,?_,?_,?_,trivial⟩<;>first|rfl|(simp only [mps];done)|(congr 3;omega)|(congr 4;omega)|(simp only [lns];rfl)) (⟨by first|rfl|(simp only [mps];done)|(congr 3;omega)|(congr 4;omega)|(simp only [lns];rfl),trivial⟩) rfl⟩
  have hc3':=hc3;try simp only [sumB,dns] at hc3'
  refine AC.skip ?_
  refine block_ok ?_
  refine then_ok ?_
  refine AC.region ?_
  refine AL.runs ttk 1 rfl ?_
  refine AL.vl (g_binI rfl rfl rfl (wrap_ok (by first|omega|(simp;done)|(simp;omega)))) rfl ?_
  refine AL.runs ttk 1 rfl ?_
  refine AL.nx ?_
  refine ⟨(j+1,i,c),hd.skip hx1 (by simpa using hc3),by first|omega|(simp;done)|(simp;omega),Weak.ren id (by refine ⟨?_,?_,?_,?_,?_,trivial⟩<;>first|rfl|(simp only [mps];done)|(congr 3;omega)|(congr 4;omega)|(simp only [lns];rfl)) (⟨by first|rfl|(simp only [mps];done)|(congr 3;omega)|(congr 4;omega)|(simp only [lns];rfl),trivial⟩) rfl⟩
 have hc2':=of_decide_eq_false hc2
 refine AC.exit ?_
 refine then_exit ?_
 refine then_exit ?_
 refine block_hit ?_
 refine then_ok ?_
 refine AC.go ttk 2 rfl ?_
 refine AL.vl (g_sliceP (l:=i) (h:=l.length) rfl Try.underlying32 sz80 rfl (.inr ⟨_,rfl,rfl⟩) (.inl ⟨rfl,rfl⟩) (by first|omega|(simp;done)|(simp;omega)) (by first|omega|(simp;done)|(simp;omega)) (by first|omega|(simp;done)|(simp;omega)) rfl) rfl ?_
 refine AL.so [0] (g_clear (rows':=(c.take i).map rTransfer) sl32 zv80 rfl rfl rfl rfl rfl rfl rfl rfl rfl (by simp [List.map_take])) rfl ?_
 refine AL.nx ?_
 refine AC.go ttk 2 rfl ?_
 refine AL.vl (g_sliceP (l:=0) (h:=i) rfl Try.underlying32 sz80 rfl (.inl ⟨rfl,rfl⟩) (.inr ⟨_,rfl,rfl⟩) (by first|omega|(simp;done)|(simp;omega)) (by first|omega|(simp;done)|(simp;omega)) (by first|omega|(simp;done)|(simp;omega)) rfl) rfl ?_
 refine AL.runs ttk 1 rfl ?_
 refine AL.nx ?_
 refine AC.ret ?_
 have hX:keepL pr l=(c.take i):=by
   have hdone:=hd.done (by omega)
   rw [<-hdone]
 rw [hX] at hr;clear hX
 subst hr
 refine retQ_go ttk [0] 1 rfl rfl rfl rfl rfl rfl ?_ ?_
 all_goals first|rfl|(simp [ufs];done)|(simp [ufs];omega)
end Go.Proofs.Ytegepioggeggaaa.Dev
namespace Go.Proofs.Ytegepioggeggaaa.Dev
open Go.RowKit


theorem inI_out {s : Sender} {t : Transfer} (hI : ∀ t ∈ s.kept, InI t.number) (h : 0 ≤ s.sent ∧ s.sent ≤ 1000000) : ∀ u ∈ s.kept ++ [(⟨s.sent + 1, t.kind, t.auth, t.sum⟩ : Transfer)], InI u.number := by
  intro u hu
  rcases List.mem_append.1 hu with hu | hu
  · exact hI u hu
  · have : u = ⟨s.sent + 1, t.kind, t.auth, t.sum⟩ := by simpa using hu
    subst this; unfold InI; dsimp only; omega
theorem inI_back {s x:Sender} {seen e:Int} (hI:∀ t∈s.kept,InI t.number) (h:backS s seen=(x,e)):∀ u∈x.kept,InI u.number:=by
  intro u hu
  rcases back_of h with ⟨_,rfl⟩|⟨_,_,_,_,rfl⟩
  ·simp [noS] at hu
  ·exact hI u (mem_keep hu)

set_option maxRecDepth 100000 in
set_option maxHeartbeats 1000000 in
theorem c_post_Wrong (s:Sender) (hI:∀ t∈s.kept,InI t.number) (f:Fault) (hr:wrongSF s=f):Fn Try.prog 29 [(.g [(cI s.sent),(vlT s.kept)])] (.v (.g [(cI f.err),(cI f.at_)])) []:=by
 refine Fn.mk' 79 [(0,(aG [(cI s.sent),(vlT s.kept)]))] Try.func29 rfl rfl rfl rfl ?_
 intro W0 T0
 refine AC.lenG 0 1 rfl rfl (fun hlen0_1=>?_)
 refine AC.goes ttk 2 rfl ?_
 refine AC.seq ?_
 refine AC.go ttk 2 rfl ?_
 refine AL.vl (g_lenM rfl rfl rfl rfl rfl Try.underlying32) rfl ?_
 refine AL.runs ttk 1 rfl ?_
 refine AL.nx ?_
 refine AC.cond rfl (fun hc1=>?_) (fun hc1=>?_)
 ·
  have hc1':=of_decide_eq_true hc1
  refine AC.goes ttk 2 rfl ?_
  refine AC.ret ?_
  refine then_ret ?_
  have hX:wrongSF s=(⟨5,0⟩:Fault):=by
    unfold wrongSF wrongS;rw [if_pos (by omega)]
  rw [hX] at hr;clear hX
  subst hr
  refine retQ_go ttk [1] 0 rfl rfl rfl rfl rfl rfl ?_ ?_
  all_goals first|rfl|(simp [ufs];done)|(simp [ufs];omega)
 have hc1':=of_decide_eq_false hc1
 refine AC.sk ?_
 refine AC.seq ?_
 refine AC.cutB 20 ((decide (s.sent < (↑s.kept.length:Int)))||(decide (s.sent > 1000000))) ?_ ?_
 ·
  refine AC.region ?_
  refine AL.runs ttk 4 rfl ?_
  refine AL.vl (g_lenM rfl rfl rfl rfl rfl Try.underlying32) rfl ?_
  refine AL.runs ttk 2 rfl ?_
  refine AL.dec (t:=16) rfl (fun hb2=>?_) (fun hb2=>?_)
  ·
   have hb2':=of_decide_eq_true hb2
   refine AL.runs ttk 4 rfl ?_
   refine AL.nx ?_
   exact Weak.popB 12 rfl rfl (by first|(simp [hb2];done)|(simp_all;done)|(exfalso;simp_all;done)|(simp_all;omega)) rfl
  have hb2':=of_decide_eq_false hb2
  refine AL.runs ttk 4 rfl ?_
  refine AL.nx ?_
  exact Weak.popB 12 rfl rfl (by first|(simp [hb2];done)|(simp_all;done)|(exfalso;simp_all;done)|(simp_all;omega)) rfl
 refine AC.cond rfl (fun hc3=>?_) (fun hc3=>?_)
 ·
  have hc3':=hc3;try simp only [sumB,dns] at hc3'
  refine AC.goes ttk 2 rfl ?_
  refine AC.ret ?_
  refine then_ret ?_
  have hX:wrongSF s=(⟨3,0⟩:Fault):=by
    unfold wrongSF wrongS;rw [if_neg (by omega),if_pos (by omega)]
  rw [hX] at hr;clear hX
  subst hr
  refine retQ_go ttk [1] 0 rfl rfl rfl rfl rfl rfl ?_ ?_
  all_goals first|rfl|(simp [ufs];done)|(simp [ufs];omega)
 have hc3':=hc3;try simp only [sumB,dns] at hc3'
 refine AC.sk ?_
 refine AC.seq ?_
 refine AC.go ttk 2 rfl ?_
 refine AL.vl (g_lenM rfl rfl rfl rfl rfl Try.underlying32) rfl ?_
 refine AL.runs ttk 1 rfl ?_
 refine AL.nx ?_
 refine AC.block ?_
 refine AC.loop (β:=Nat) (fun (q:Nat)=>⟨[(1,(aC (.p 0 0 0 0))),(2,(aC (.p 1 0 0 0))),(23,(aC (vlT s.kept))),(24,(aI (↑s.kept.length:Int))),(25,(aI (↑q:Int)))],[(1,(.box 50 [(cI 0),(cI 0)])),(0,(.box 34 [(cI s.sent),(vlT s.kept)]))],2⟩) (fun (q:Nat)=>q<=s.kept.length/\scan (tErr s) 0 s.kept.length=scan (tErr s) q (s.kept.length - q)) (fun (q:Nat)=>s.kept.length - q) 0 ?_ ?_ ?_
 ·exact ⟨by omega,rfl⟩
 ·exact Weak.ren id (by refine ⟨?_,?_,?_,?_,?_,trivial⟩<;>first|rfl|(simp only [mps];done)|(congr 3;omega)|(congr 4;omega)|(simp only [lns];rfl)) (by refine ⟨?_,?_,trivial⟩<;>first|rfl|(simp only [mps];done)|(congr 3;omega)|(congr 4;omega)|(simp only [lns];rfl)) rfl
 rintro q ⟨hi0_0,hi0_1⟩
 refine AC.goes ttk 1 rfl ?_
 refine AC.seq ?_
 refine AC.cond rfl (fun hc4=>?_) (fun hc4=>?_)
 ·
  have hc4':=of_decide_eq_true hc4
  refine AC.sk ?_
  refine AC.seq ?_
  refine AC.block ?_
  refine AC.go ttk 1 rfl ?_
  obtain ⟨x1,hx1⟩:=exget (xs:=s.kept) (i:=q) (by first|omega|(simp;done)|(simp;omega))
  have hx1b:=hI x1 (List.mem_of_getElem? hx1)
  unfold InI at hx1b
  refine AL.vl (g_indexQ (i:=q) rfl rfl rfl Try.underlying32 sz80 (by first|omega|(simp;done)|(simp;omega)) (getmap hx1)) rfl ?_
  refine AL.runs ttk 4 rfl ?_
  refine AL.nx ?_
  refine AC.block ?_
  refine AC.cutB 30 ((decide (x1.kind < 1))||(decide (x1.kind > 3))) ?_ ?_
  ·
   refine AC.region ?_
   refine AL.runs ttk 4 rfl ?_
   refine AL.dec (t:=34) rfl (fun hb5=>?_) (fun hb5=>?_)
   ·
    have hb5':=of_decide_eq_true hb5
    refine AL.runs ttk 5 rfl ?_
    refine AL.nx ?_
    exact Weak.popB 10 rfl rfl (by first|(simp [hb5];done)|(simp_all;done)|(exfalso;simp_all;done)|(simp_all;omega)) rfl
   have hb5':=of_decide_eq_false hb5
   refine AL.runs ttk 5 rfl ?_
   refine AL.nx ?_
   exact Weak.popB 10 rfl rfl (by first|(simp [hb5];done)|(simp_all;done)|(exfalso;simp_all;done)|(simp_all;omega)) rfl
  refine AC.cond rfl (fun hc6=>?_) (fun hc6=>?_)
  ·
   have hc6':=hc6;try simp only [sumB,dns] at hc6'
   refine AC.goes ttk 3 rfl ?_
   refine AC.ret ?_
   refine block_ret ?_
   refine block_ret ?_
   refine then_ret ?_
   refine then_ret ?_
   refine block_ret ?_
   refine then_ret ?_
   have hX:wrongSF s=(⟨1,(↑q:Int)⟩:Fault):=by
     unfold wrongSF wrongS;rw [if_neg (by omega),if_neg (by omega),hi0_1,scan_bad (c:=1) (by omega) (by unfold tErr;simp only [hx1];rw [if_pos (by omega)]) (by decide)]
   rw [hX] at hr;clear hX
   subst hr
   refine retQ_go ttk [1] 0 rfl rfl rfl rfl rfl rfl ?_ ?_
   all_goals first|rfl|(simp [ufs];done)|(simp [ufs];omega)
  have hc6':=hc6;try simp only [sumB,dns] at hc6'
  refine AC.cutB 41 ((((decide (x1.auth < 0))||(decide (x1.auth>=30)))||(decide (x1.sum < 1)))||(decide (x1.sum > 1000000))) ?_ ?_
  ·
   refine AC.region ?_
   refine AL.runs ttk 4 rfl ?_
   refine AL.dec (t:=45) rfl (fun hb7=>?_) (fun hb7=>?_)
   ·
    have hb7':=of_decide_eq_true hb7
    refine AL.runs ttk 15 rfl ?_
    refine AL.nx ?_
    exact Weak.popB 20 rfl rfl (by first|(simp [hb7];done)|(simp_all;done)|(exfalso;simp_all;done)|(simp_all;omega)) rfl
   have hb7':=of_decide_eq_false hb7
   refine AL.runs ttk 5 rfl ?_
   refine AL.dec (t:=50) rfl (fun hb8=>?_) (fun hb8=>?_)
   ·
    have hb8':=of_decide_eq_true hb8
    refine AL.runs ttk 10 rfl ?_
    refine AL.nx ?_
    exact Weak.popB 21 rfl rfl (by first|(simp [hb7,hb8];done)|(simp_all;done)|(exfalso;simp_all;done)|(simp_all;omega)) rfl
   have hb8':=of_decide_eq_false hb8
   refine AL.runs ttk 5 rfl ?_
   refine AL.dec (t:=55) rfl (fun hb9=>?_) (fun hb9=>?_)
   ·
    have hb9':=of_decide_eq_true hb9
    refine AL.runs ttk 5 rfl ?_
    refine AL.nx ?_
    exact Weak.popB 22 rfl rfl (by first|(simp [hb7,hb8,hb9];done)|(simp_all;done)|(exfalso;simp_all;done)|(simp_all;omega)) rfl
   have hb9':=of_decide_eq_false hb9
   refine AL.runs ttk 5 rfl ?_
   refine AL.nx ?_
   exact Weak.popB 22 rfl rfl (by first|(simp [hb7,hb8,hb9];done)|(simp_all;done)|(exfalso;simp_all;done)|(simp_all;omega)) rfl
  refine AC.cond rfl (fun hc10=>?_) (fun hc10=>?_)
  ·
   have hc10':=hc10;try simp only [sumB,dns] at hc10'
   refine AC.goes ttk 3 rfl ?_
   refine AC.ret ?_
   refine block_ret ?_
   refine block_ret ?_
   refine then_ret ?_
   refine then_ret ?_
   refine block_ret ?_
   refine then_ret ?_
   have hX:wrongSF s=(⟨3,(↑q:Int)⟩:Fault):=by
     unfold wrongSF wrongS;rw [if_neg (by omega),if_neg (by omega),hi0_1,scan_bad (c:=3) (by omega) (by unfold tErr;simp only [hx1];rw [if_neg (by omega),if_pos (by omega)]) (by decide)]
   rw [hX] at hr;clear hX
   subst hr
   refine retQ_go ttk [1] 0 rfl rfl rfl rfl rfl rfl ?_ ?_
   all_goals first|rfl|(simp [ufs];done)|(simp [ufs];omega)
  have hc10':=hc10;try simp only [sumB,dns] at hc10'
  refine AC.go ttk 6 rfl ?_
  refine AL.vl (g_lenM rfl rfl rfl rfl rfl Try.underlying32) rfl ?_
  refine AL.vl (g_binI rfl rfl rfl (wrap_ok (by first|omega|(simp;done)|(simp;omega)))) rfl ?_
  refine AL.vl (g_binI rfl rfl rfl (wrap_ok (by first|omega|(simp;done)|(simp;omega)))) rfl ?_
  refine AL.runs ttk 1 rfl ?_
  refine AL.vl (g_binI rfl rfl rfl (wrap_ok (by first|omega|(simp;done)|(simp;omega)))) rfl ?_
  refine AL.runs ttk 2 rfl ?_
  refine AL.nx ?_
  refine AC.cond rfl (fun hc11=>?_) (fun hc11=>?_)
  ·
   have hc11':=of_decide_eq_true hc11
   refine AC.goes ttk 3 rfl ?_
   refine AC.ret ?_
   refine block_ret ?_
   refine block_ret ?_
   refine then_ret ?_
   refine then_ret ?_
   refine block_ret ?_
   refine then_ret ?_
   have hX:wrongSF s=(⟨2,(↑q:Int)⟩:Fault):=by
     unfold wrongSF wrongS;rw [if_neg (by omega),if_neg (by omega),hi0_1,scan_bad (c:=2) (by omega) (by unfold tErr;simp only [hx1];rw [if_neg (by omega),if_neg (by omega),if_pos (by omega)]) (by decide)]
   rw [hX] at hr;clear hX
   subst hr
   refine retQ_go ttk [1] 0 rfl rfl rfl rfl rfl rfl ?_ ?_
   all_goals first|rfl|(simp [ufs];done)|(simp [ufs];omega)
  have hc11':=of_decide_eq_false hc11
  refine AC.skip ?_
  refine block_ok ?_
  refine block_ok ?_
  refine then_ok ?_
  refine AC.region ?_
  refine AL.vl (g_binI rfl rfl rfl (wrap_ok (by first|omega|(simp;done)|(simp;omega)))) rfl ?_
  refine AL.runs ttk 1 rfl ?_
  refine AL.nx ?_
  refine ⟨q+1,⟨by omega,by rw [hi0_1];exact scan_ok (by omega) (by unfold tErr;simp only [hx1];rw [if_neg (by omega),if_neg (by omega),if_neg (by omega)])⟩,by first|omega|(simp;done)|(simp;omega),Weak.ren id (by refine ⟨?_,?_,?_,?_,?_,trivial⟩<;>first|rfl|(simp only [mps];done)|(congr 3;omega)|(congr 4;omega)|(simp only [lns];rfl)) (by refine ⟨?_,?_,trivial⟩<;>first|rfl|(simp only [mps];done)|(congr 3;omega)|(congr 4;omega)|(simp only [lns];rfl)) rfl⟩
 have hc4':=of_decide_eq_false hc4
 refine AC.exit ?_
 refine then_exit ?_
 refine then_exit ?_
 refine block_hit ?_
 refine then_ok ?_
 refine AC.goes ttk 2 rfl ?_
 refine AC.ret ?_
 have hX:wrongSF s=(⟨0,0⟩:Fault):=by
   unfold wrongSF wrongS;rw [if_neg (by omega),if_neg (by omega),hi0_1,scan_end (by omega)]
 rw [hX] at hr;clear hX
 subst hr
 refine retQ_go ttk [1] 0 rfl rfl rfl rfl rfl rfl ?_ ?_
 all_goals first|rfl|(simp [ufs];done)|(simp [ufs];omega)
end Go.Proofs.Ytegepioggeggaaa.Dev
namespace Go.Proofs.Ytegepioggeggaaa.Dev
open Go.RowKit

set_option maxRecDepth 100000 in
set_option maxHeartbeats 1000000 in
theorem c_post_Put (s:Sender) (t:Transfer) (hI:∀ t∈s.kept,InI t.number) (x:Sender) (e:Int) (hr:putS s t=(x,e)):Fn Try.prog 103 [(.g [(cI s.sent),(vlT s.kept)]),(.g [(cI t.number),(cI t.kind),(cI t.auth),(cI t.sum)])] (.t [(.g [(cI x.sent),(.s 0 0 4 x.kept.length)]),(.c (cI e))]) [(0,(alT x.kept))]:=by
 refine Fn.mk' 40 [(0,(aG [(cI s.sent),(vlT s.kept)])),(1,(aG [(cI t.number),(cI t.kind),(cI t.auth),(cI t.sum)]))] Try.func103 rfl rfl rfl rfl ?_
 intro W0 T0
 refine AC.lenG 0 1 rfl rfl (fun hlen0_1=>?_)
 have hrs:=@wrongS_iff s
 refine AC.goes ttk 4 rfl ?_
 refine AC.seq ?_
 refine AC.go ttk 1 rfl ?_
 obtain ⟨f0,hr0⟩:∃ (f0:Fault),wrongSF s=f0:=⟨_,rfl⟩
 have hq0:(wrongSF s).err=f0.err:=by rw [hr0]
 refine AL.cn 3 [2,1,0] (g_call 3 (c_post_Wrong s (by first|assumption|exact inI_out (by assumption) (by omega)|exact inI_back (by assumption) (by assumption)|(simp [InI];done)) f0 hr0) en29 rfl rfl ⟨⟨_,rfl,.g ⟨.d _,.d _,trivial⟩⟩,trivial⟩ ⟨trivial,trivial,trivial⟩ trivial rfl rfl rfl rfl) rfl ?_
 refine AL.runs ttk 2 rfl ?_
 refine AL.nx ?_
 refine AC.goes ttk 3 rfl ?_
 refine AC.cond rfl (fun hc1=>?_) (fun hc1=>?_)
 ·
  have hc1':=of_decide_eq_true hc1
  refine AC.seq ?_
  refine AC.drawQ [2,3,4,6] [3,2,1,0] mixed rfl rfl ?_
  refine PW.runs (kn:=[]) ttk 5 rfl trivial ?_
  refine PW.fin [2,3,4,5] [2,1,0] rfl rfl (by kernel_rfl) ?_
  refine then_ok ?_
  refine AC.ret ?_
  refine then_ret ?_
  refine retQ_nilB 2 1 80 4 rfl rfl rfl ?_
  have hX:putS s t=((⟨0,([]:List Transfer)⟩:Sender),f0.err):=by
    unfold putS;rw [if_pos (by omega),hr0];rfl
  rw [hX] at hr;clear hX
  simp only [Prod.mk.injEq] at hr;obtain ⟨rfl,rfl⟩:=hr
  refine retQ_go ttk [4,2] 1 rfl rfl rfl rfl rfl rfl ?_ ?_
  all_goals first|rfl|(simp [ufs];done)|(simp [ufs];omega)
 have hc1':=of_decide_eq_false hc1
 refine AC.sk ?_
 refine AC.go ttk 2 rfl ?_
 refine AL.vl (g_binI rfl rfl rfl (wrap_ok (by first|omega|(simp;done)|(simp;omega)))) rfl ?_
 refine AL.runs ttk 2 rfl ?_
 refine AL.nx ?_
 refine AC.seq ?_
 refine AC.drawP [2,3,4] [2,1,0] mixed rfl rfl ?_
 refine PD.runs (kn:=[]) ttk 2 rfl trivial ?_
 refine PD.op (n':=4) [22] [] rfl rfl (.inl ⟨(Wanted.plain rfl),GOp.cast (g_binI rfl rfl rfl (wrap_ok (by first|omega|(simp;done)|(simp;omega)))) rfl⟩) rfl ?_
 refine PD.runs (kn:=[]) ttk 2 rfl trivial ?_
 refine PD.op (n':=5) [25] [] rfl rfl (.inl ⟨(Wanted.plain rfl),GOp.cast (g_call 4 (c_Clone_Transfer s.kept (by first|omega|(simp;done)|(simp;omega))) en106 rfl rfl ⟨⟨_,rfl,.c (.d _)⟩,trivial⟩ trivial ⟨(fun _ _ _ _=>trivial),trivial⟩ rfl rfl rfl rfl) rfl⟩) rfl ?_
 refine PD.runs (kn:=[]) ttk 1 rfl trivial ?_
 refine PD.op (n':=6) [27] [] rfl rfl (.inl ⟨(Wanted.plain rfl),GOp.cast (g_lit (ys:=[(0,(.g [(cI (s.sent+1)),(cI t.kind),(cI t.auth),(cI t.sum)]))]) (rows:=([(⟨s.sent+1,t.kind,t.auth,t.sum⟩:Transfer)]).map rTransfer) 5 sl32 rfl (by decide) ⟨⟨rfl,rfl⟩,trivial⟩ rfl rfl rfl rfl) rfl⟩) rfl ?_
 refine PD.op (n':=7) [26,28] [5,4] rfl rfl (.inl ⟨(Wanted.plain rfl),GOp.cast (g_append (m:=1) (N:=s.kept.length+1) (k2:=6) (ys:=([(⟨s.sent+1,t.kind,t.auth,t.sum⟩:Transfer)]).map rTransfer) sl32 rfl rfl rfl rfl rfl rfl (by first|omega|(simp;done)|(simp;omega)) rfl (.s rfl (by first|omega|(simp;done)|(simp;omega))) (by first|omega|(simp;done)|(simp;omega)) (by first|omega|(simp;done)|(simp;omega)) appmap (by decide) (by first|omega|(simp;done)|(simp;omega)) (by first|omega|(simp;done)|(simp;omega))) rfl⟩) rfl ?_
 refine PD.runs (n':=8) (kn:=[]) ttk 2 rfl trivial ?_
 refine PD.fin [7,6,2,1,0] rfl rfl rfl rfl (by kernel_rfl) ?_
 refine AL.runs ttk 1 rfl ?_
 refine AL.nx ?_
 refine AC.seq ?_
 refine AC.go ttk 1 rfl ?_
 obtain ⟨f1,hr1⟩:∃ (f1:Fault),wrongSF (⟨s.sent+1,s.kept++([(⟨s.sent+1,t.kind,t.auth,t.sum⟩:Transfer)])⟩:Sender)=f1:=⟨_,rfl⟩
 have hq1:(wrongSF (⟨s.sent+1,s.kept++([(⟨s.sent+1,t.kind,t.auth,t.sum⟩:Transfer)])⟩:Sender)).err=f1.err:=by rw [hr1]
 refine AL.cn 8 [7,6,2,1,0] (g_callE 8 [6] (c_post_Wrong (⟨s.sent+1,s.kept++([(⟨s.sent+1,t.kind,t.auth,t.sum⟩:Transfer)])⟩:Sender) (by first|assumption|exact inI_out (by assumption) (by omega)|exact inI_back (by assumption) (by assumption)|(simp [InI];done)) f1 hr1) en29 rfl rfl ⟨⟨_,rfl,.g ⟨.d _,.s rfl (by decide) (by first|omega|(simp;done)|(simp;omega)),trivial⟩⟩,trivial⟩ ⟨rfl,rfl,trivial⟩ trivial rfl rfl rfl rfl) rfl ?_
 refine AL.runs ttk 2 rfl ?_
 refine AL.nx ?_
 refine AC.goes ttk 3 rfl ?_
 refine AC.cond rfl (fun hc2=>?_) (fun hc2=>?_)
 ·
  have hc2':=of_decide_eq_true hc2
  refine AC.seq ?_
  refine AC.drawQ [4,7,8] [8,7,6,2] mixed rfl rfl ?_
  refine PW.runs (kn:=[]) ttk 5 rfl trivial ?_
  refine PW.fin [4,7,5] [2,7,6] rfl rfl (by kernel_rfl) ?_
  refine then_ok ?_
  refine AC.ret ?_
  refine then_ret ?_
  refine retQ_nilB 2 1 80 4 rfl rfl rfl ?_
  have hX:putS s t=((⟨0,([]:List Transfer)⟩:Sender),f1.err):=by
    have hout:wrongSF (outS s t)=f1:=hr1
    unfold putS;rw [if_neg (by omega),if_pos (by rw [hout];omega),hout];rfl
  rw [hX] at hr;clear hX
  simp only [Prod.mk.injEq] at hr;obtain ⟨rfl,rfl⟩:=hr
  refine retQ_go ttk [9,2] 1 rfl rfl rfl rfl rfl rfl ?_ ?_
  all_goals first|rfl|(simp [ufs];done)|(simp [ufs];omega)
 have hc2':=of_decide_eq_false hc2
 refine AC.sk ?_
 refine AC.goes ttk 3 rfl ?_
 refine AC.ret ?_
 have hX:putS s t=((⟨s.sent+1,s.kept++([(⟨s.sent+1,t.kind,t.auth,t.sum⟩:Transfer)])⟩:Sender),0):=by
   have hout:wrongSF (outS s t)=f1:=hr1
   unfold putS;rw [if_neg (by omega),if_neg (by rw [hout];omega)];rfl
 rw [hX] at hr;clear hX
 simp only [Prod.mk.injEq] at hr;obtain ⟨rfl,rfl⟩:=hr
 refine retQ_go ttk [6,2] 1 rfl rfl rfl rfl rfl rfl ?_ ?_
 all_goals first|rfl|(simp [ufs];done)|(simp [ufs];omega)
set_option maxRecDepth 100000 in
set_option maxHeartbeats 1000000 in
theorem c_post_Take (seen:Int) (t:Transfer) (n:Int) (ok:Bool) (hr:takeS seen t=(n,ok)):Fn Try.prog 88 [(.c (cI seen)),(.g [(cI t.number),(cI t.kind),(cI t.auth),(cI t.sum)])] (.t [(.c (cI n)),(.c (cB ok))]) []:=by
 refine Fn.mk' 22 [(0,(aI seen)),(1,(aG [(cI t.number),(cI t.kind),(cI t.auth),(cI t.sum)]))] Try.func88 rfl rfl rfl rfl ?_
 intro W0 T0
 refine AC.goes ttk 3 rfl ?_
 refine AC.seq ?_
 refine AC.cutB 18 (((decide (seen < 0))||(decide (seen>=1000000)))||(decide (¬t.number=(seen+1)))) ?_ ?_
 ·
  refine AC.region ?_
  refine AL.runs ttk 3 rfl ?_
  refine AL.dec (t:=8) rfl (fun hb1=>?_) (fun hb1=>?_)
  ·
   have hb1':=of_decide_eq_true hb1
   refine AL.runs ttk 10 rfl ?_
   refine AL.nx ?_
   exact Weak.popB 14 rfl rfl (by first|(simp [hb1];done)|(simp_all;done)|(exfalso;simp_all;done)|(simp_all;omega)) rfl
  have hb1':=of_decide_eq_false hb1
  refine AL.runs ttk 4 rfl ?_
  refine AL.dec (t:=12) rfl (fun hb2=>?_) (fun hb2=>?_)
  ·
   have hb2':=of_decide_eq_true hb2
   refine AL.runs ttk 6 rfl ?_
   refine AL.nx ?_
   exact Weak.popB 15 rfl rfl (by first|(simp [hb1,hb2];done)|(simp_all;done)|(exfalso;simp_all;done)|(simp_all;omega)) rfl
  have hb2':=of_decide_eq_false hb2
  refine AL.runs ttk 3 rfl ?_
  refine AL.val (Wanted.yes rfl rfl rfl) (g_binI rfl rfl rfl (wrap_ok (by first|omega|(simp;done)|(simp;omega)))) rfl rfl ?_
  refine AL.runs ttk 2 rfl ?_
  refine AL.nx ?_
  exact Weak.popB 15 rfl rfl (by first|(simp [hb1,hb2];done)|(simp_all;done)|(exfalso;simp_all;done)|(simp_all;omega)) rfl
 refine AC.cond rfl (fun hc3=>?_) (fun hc3=>?_)
 ·
  have hc3':=hc3;try simp only [sumB,dns] at hc3'
  refine AC.goes ttk 3 rfl ?_
  refine AC.ret ?_
  refine then_ret ?_
  have hX:takeS seen t=(seen,false):=by
    (unfold takeS;try dsimp only);(repeat' split)<;>first|rfl|omega|(exfalso;omega)|(subst_vars;rfl)|(simp_all;done)|(simp_all;omega)
  rw [hX] at hr;clear hX
  simp only [Prod.mk.injEq] at hr;obtain ⟨rfl,rfl⟩:=hr
  refine retQ_go ttk [] 0 rfl rfl rfl rfl rfl rfl ?_ ?_
  all_goals first|rfl|(simp [ufs];done)|(simp [ufs];omega)
 have hc3':=hc3;try simp only [sumB,dns] at hc3'
 refine AC.sk ?_
 refine AC.go ttk 1 rfl ?_
 refine AL.vl (g_binI rfl rfl rfl (wrap_ok (by first|omega|(simp;done)|(simp;omega)))) rfl ?_
 refine AL.runs ttk 2 rfl ?_
 refine AL.nx ?_
 refine AC.ret ?_
 have hX:takeS seen t=(seen+1,true):=by
   (unfold takeS;try dsimp only);(repeat' split)<;>first|rfl|omega|(exfalso;omega)|(subst_vars;rfl)|(simp_all;done)|(simp_all;omega)
 rw [hX] at hr;clear hX
 simp only [Prod.mk.injEq] at hr;obtain ⟨rfl,rfl⟩:=hr
 refine retQ_go ttk [] 0 rfl rfl rfl rfl rfl rfl ?_ ?_
 all_goals first|rfl|(simp [ufs];done)|(simp [ufs];omega)
end Go.Proofs.Ytegepioggeggaaa.Dev
namespace Go.Proofs.Ytegepioggeggaaa.Dev
open Go.RowKit

set_option maxRecDepth 100000 in
set_option maxHeartbeats 1000000 in
theorem c_Back1 (t:Transfer) (seen:Int):Fn Try.prog 107 [(.g [(cI t.number),(cI t.kind),(cI t.auth),(cI t.sum)]),(.c (.q ([dI seen]) 0))] (aB (came seen t)) []:=by
 refine Fn.mk' 8 [(0,(aG [(cI t.number),(cI t.kind),(cI t.auth),(cI t.sum)])),(1,(aC (.q ([dI seen]) 0)))] Try.func107 rfl rfl rfl rfl ?_
 intro W0 T0
 refine AC.goes ttk 2 rfl ?_
 refine AC.goes ttk 5 rfl ?_
 refine AC.ret ?_
 refine retQ_go ttk [] 0 rfl rfl rfl rfl rfl rfl ?_ ?_
 all_goals first|rfl|(simp [ufs];done)|(simp [ufs];omega)
set_option maxRecDepth 100000 in
set_option maxHeartbeats 1000000 in
theorem c_post_Back (s:Sender) (seen:Int) (hI:∀ t∈s.kept,InI t.number) (x:Sender) (e:Int) (hr:backS s seen=(x,e)):Fn Try.prog 86 [(.g [(cI s.sent),(vlT s.kept)]),(.c (cI seen))] (.t [(.g [(cI x.sent),(.s 0 0 4 x.kept.length)]),(.c (cI e))]) [(0,(alT x.kept))]:=by
 refine Fn.mk' 32 [(0,(aG [(cI s.sent),(vlT s.kept)])),(1,(aI seen))] Try.func86 rfl rfl rfl rfl ?_
 intro W0 T0
 refine AC.lenG 0 1 rfl rfl (fun hlen0_1=>?_)
 have hrs:=@wrongS_iff s
 refine AC.goes ttk 4 rfl ?_
 refine AC.seq ?_
 refine AC.go ttk 1 rfl ?_
 obtain ⟨f0,hr0⟩:∃ (f0:Fault),wrongSF s=f0:=⟨_,rfl⟩
 have hq0:(wrongSF s).err=f0.err:=by rw [hr0]
 refine AL.cn 3 [2,1,0] (g_call 3 (c_post_Wrong s (by first|assumption|exact inI_out (by assumption) (by omega)|exact inI_back (by assumption) (by assumption)|(simp [InI];done)) f0 hr0) en29 rfl rfl ⟨⟨_,rfl,.g ⟨.d _,.d _,trivial⟩⟩,trivial⟩ ⟨trivial,trivial,trivial⟩ trivial rfl rfl rfl rfl) rfl ?_
 refine AL.runs ttk 2 rfl ?_
 refine AL.nx ?_
 refine AC.goes ttk 3 rfl ?_
 refine AC.cond rfl (fun hc1=>?_) (fun hc1=>?_)
 ·
  have hc1':=of_decide_eq_true hc1
  refine AC.seq ?_
  refine AC.drawQ [2,3,4,6] [3,2,1,0] mixed rfl rfl ?_
  refine PW.runs (kn:=[]) ttk 5 rfl trivial ?_
  refine PW.fin [2,3,4,5] [2,1,0] rfl rfl (by kernel_rfl) ?_
  refine then_ok ?_
  refine AC.ret ?_
  refine then_ret ?_
  refine retQ_nilB 2 1 80 4 rfl rfl rfl ?_
  have hX:backS s seen=((⟨0,([]:List Transfer)⟩:Sender),f0.err):=by
    unfold backS;rw [if_pos (by omega),hr0];rfl
  rw [hX] at hr;clear hX
  simp only [Prod.mk.injEq] at hr;obtain ⟨rfl,rfl⟩:=hr
  refine retQ_go ttk [4,2] 1 rfl rfl rfl rfl rfl rfl ?_ ?_
  all_goals first|rfl|(simp [ufs];done)|(simp [ufs];omega)
 have hc1':=of_decide_eq_false hc1
 refine AC.sk ?_
 refine AC.seq ?_
 refine AC.cutB 22 ((decide (seen < 0))||(decide (seen > s.sent))) ?_ ?_
 ·
  refine AC.region ?_
  refine AL.runs ttk 3 rfl ?_
  refine AL.dec (t:=17) rfl (fun hb2=>?_) (fun hb2=>?_)
  ·
   have hb2':=of_decide_eq_true hb2
   refine AL.runs ttk 5 rfl ?_
   refine AL.nx ?_
   exact Weak.popB 9 rfl rfl (by first|(simp [hb2];done)|(simp_all;done)|(exfalso;simp_all;done)|(simp_all;omega)) rfl
  have hb2':=of_decide_eq_false hb2
  refine AL.runs ttk 5 rfl ?_
  refine AL.nx ?_
  exact Weak.popB 9 rfl rfl (by first|(simp [hb2];done)|(simp_all;done)|(exfalso;simp_all;done)|(simp_all;omega)) rfl
 refine AC.cond rfl (fun hc3=>?_) (fun hc3=>?_)
 ·
  have hc3':=hc3;try simp only [sumB,dns] at hc3'
  refine AC.goes ttk 3 rfl ?_
  refine AC.ret ?_
  refine then_ret ?_
  refine retQ_nilB 2 1 80 4 rfl rfl rfl ?_
  have hX:backS s seen=((⟨0,([]:List Transfer)⟩:Sender),3):=by
    unfold backS;rw [if_neg (by omega),if_pos (by omega)];rfl
  rw [hX] at hr;clear hX
  simp only [Prod.mk.injEq] at hr;obtain ⟨rfl,rfl⟩:=hr
  refine retQ_go ttk [4,2] 1 rfl rfl rfl rfl rfl rfl ?_ ?_
  all_goals first|rfl|(simp [ufs];done)|(simp [ufs];omega)
 have hc3':=hc3;try simp only [sumB,dns] at hc3'
 refine AC.sk ?_
 refine AC.seq ?_
 obtain ⟨r1,hr1⟩:∃ (r1:List Transfer),keepL (came seen) s.kept=r1:=⟨_,rfl⟩
 refine AC.drawP [2,3,4] [2,1,0] mixed rfl rfl ?_
 refine PD.runs (kn:=[]) ttk 4 rfl trivial ?_
 refine PD.op (n':=5) [27] [] rfl rfl (.inl ⟨(Wanted.plain rfl),GOp.cast (g_call 4 (c_Clone_Transfer s.kept (by first|omega|(simp;done)|(simp;omega))) en106 rfl rfl ⟨⟨_,rfl,.c (.d _)⟩,trivial⟩ trivial ⟨(fun _ _ _ _=>trivial),trivial⟩ rfl rfl rfl rfl) rfl⟩) rfl ?_
 refine PD.op (n':=5) [3] [] rfl rfl (.inl ⟨(Wanted.plain rfl),GOp.cast (g_func (ks:=[1]) rfl ⟨rfl,trivial⟩) rfl⟩) rfl ?_
 refine PD.op (n':=6) [28,29] [1,4] rfl rfl (.inl ⟨(Wanted.plain rfl),GOp.cast (g_callME (rhoOf [4]) (rhoOf [5]) [1] (c_Delete_Transfer s.kept 107 ([[(dI seen)]]) (came seen) (fun x=>c_Back1 x seen) en107 r1 hr1) en105 rfl rfl ⟨⟨_,rfl,.inl ⟨rfl,rfl⟩⟩,⟨_,rfl,.inr (.c (.fn ⟨⟨by decide,_,rfl⟩,trivial⟩))⟩,trivial⟩ ⟨rfl,trivial⟩ rfl rfl rfl rfl rfl rfl rfl rfl trivial ⟨(isv_rTransfer _),trivial⟩ rfl rfl rfl rfl) rfl⟩) rfl ?_
 refine PD.runs (kn:=[]) ttk 1 rfl trivial ?_
 refine PD.fin [5,2,1,0] rfl rfl rfl rfl (by kernel_rfl) ?_
 refine AL.runs ttk 2 rfl ?_
 refine AL.nx ?_
 refine AC.ret ?_
 have hX:backS s seen=((⟨s.sent,r1⟩:Sender),0):=by
   unfold backS;rw [if_neg (by omega),if_neg (by omega),hr1]
 rw [hX] at hr;clear hX
 simp only [Prod.mk.injEq] at hr;obtain ⟨rfl,rfl⟩:=hr
 refine retQ_go ttk [5,2] 1 rfl rfl rfl rfl rfl rfl ?_ ?_
 all_goals first|rfl|(simp [ufs];done)|(simp [ufs];omega)
end Go.Proofs.Ytegepioggeggaaa.Dev
namespace Go.Proofs.Ytegepioggeggaaa.Dev
open Go.RowKit


theorem get4 {a b c d x:Int} {q:Nat} (h:[a,b,c,d][q]?=some x):(q=0/\x=a)\/(q=1/\x=b)\/(q=2/\x=c)\/(q=3/\x=d):=by
  match q with
  |0=>left;simp_all
  |1=>right;left;simp_all
  |2=>right;right;left;simp_all
  |3=>right;right;right;simp_all
  |q+4=>simp at h

set_option maxRecDepth 100000 in
set_option maxHeartbeats 1000000 in
theorem c_auth_Wrong (a:Auth) (e:Int) (hr:wrongAuth a=e):Fn Try.prog 26 [(.g [(cI a.card),(cI a.shop),(cI a.sum),(cI a.captured),(cI a.refunded),(cI a.disputed),(cI a.till),(cB a.shut)])] (.v (.c (cI e))) []:=by
 refine Fn.mk' 71 [(0,(aG [(cI a.card),(cI a.shop),(cI a.sum),(cI a.captured),(cI a.refunded),(cI a.disputed),(cI a.till),(cB a.shut)]))] Try.func26 rfl rfl rfl rfl ?_
 intro W0 T0
 refine AC.goes ttk 2 rfl ?_
 refine AC.seq ?_
 refine AC.go ttk 8 rfl ?_
 refine AL.cn 2 [1,0] (g_lit (ys:=[(0,(.c (cI a.sum))),(1,(.c (cI a.captured))),(2,(.c (cI a.refunded))),(3,(.c (cI a.disputed)))]) (rows:=([a.sum,a.captured,a.refunded,a.disputed]).map rI) 1 sl30 rfl (by decide) ⟨⟨rfl,rfl⟩,⟨rfl,rfl⟩,⟨rfl,rfl⟩,⟨rfl,rfl⟩,trivial⟩ rfl rfl rfl rfl) rfl ?_
 refine AL.vl (g_lenS rfl rfl rfl rfl rfl Try.underlying30) rfl ?_
 refine AL.runs ttk 1 rfl ?_
 refine AL.nx ?_
 refine AC.block ?_
 refine AC.loop (β:=Nat) (fun (q:Nat)=>⟨[(1,(aC (.p 0 0 0 0))),(13,(aC (.s 1 0 1 4))),(14,(aI 4)),(15,(aI (↑q:Int)))],[(1,(alI ([a.sum,a.captured,a.refunded,a.disputed]))),(0,(.box 67 [(cI a.card),(cI a.shop),(cI a.sum),(cI a.captured),(cI a.refunded),(cI a.disputed),(cI a.till),(cB a.shut)]))],2⟩) (fun (q:Nat)=>q<=4/\(0 < q->0<=a.sum/\a.sum<=1000000)/\(1 < q->0<=a.captured/\a.captured<=1000000)/\(2 < q->0<=a.refunded/\a.refunded<=1000000)/\(3 < q->0<=a.disputed/\a.disputed<=1000000)) (fun (q:Nat)=>4 - q) 0 ?_ ?_ ?_
 ·exact ⟨by omega,by omega,by omega,by omega,by omega⟩
 ·exact Weak.ren id (by refine ⟨?_,?_,?_,?_,trivial⟩<;>first|rfl|(simp only [mps];done)|(congr 3;omega)|(congr 4;omega)|(simp only [lns];rfl)) (by refine ⟨?_,?_,trivial⟩<;>first|rfl|(simp only [mps];done)|(congr 3;omega)|(congr 4;omega)|(simp only [lns];rfl)) rfl
 rintro q ⟨hi0_0,hi0_1,hi0_2,hi0_3,hi0_4⟩
 refine AC.goes ttk 1 rfl ?_
 refine AC.seq ?_
 refine AC.cond rfl (fun hc1=>?_) (fun hc1=>?_)
 ·
  have hc1':=of_decide_eq_true hc1
  refine AC.sk ?_
  refine AC.seq ?_
  refine AC.block ?_
  refine AC.sr ?_
  refine AL.vl (g_indexP0 (i:=q) rfl rfl rfl Try.underlying30 sz3 (by first|omega|(simp;done)|(simp;omega)) (by first|omega|(simp;done)|(simp;omega))) rfl ?_
  obtain ⟨x1,hx1⟩:=exget (xs:=([a.sum,a.captured,a.refunded,a.disputed]:List Int)) (i:=q) (by first|omega|(simp;done)|(simp;omega))
  have hx1v:=get4 hx1
  refine AL.vl (g_loadA rfl rfl rfl Try.underlying3 rfl (getmap hx1) rfl) rfl ?_
  refine AL.runs ttk 1 rfl ?_
  refine AL.nx ?_
  refine AC.cutB 24 ((decide (x1 < 0))||(decide (x1 > 1000000))) ?_ ?_
  ·
   refine AC.region ?_
   refine AL.runs ttk 3 rfl ?_
   refine AL.dec (t:=21) rfl (fun hb2=>?_) (fun hb2=>?_)
   ·
    have hb2':=of_decide_eq_true hb2
    refine AL.runs ttk 3 rfl ?_
    refine AL.nx ?_
    exact Weak.popB 7 rfl rfl (by first|(simp [hb2];done)|(simp_all;done)|(exfalso;simp_all;done)|(simp_all;omega)) rfl
   have hb2':=of_decide_eq_false hb2
   refine AL.runs ttk 3 rfl ?_
   refine AL.nx ?_
   exact Weak.popB 7 rfl rfl (by first|(simp [hb2];done)|(simp_all;done)|(exfalso;simp_all;done)|(simp_all;omega)) rfl
  refine AC.cond rfl (fun hc3=>?_) (fun hc3=>?_)
  ·
   have hc3':=hc3;try simp only [sumB,dns] at hc3'
   refine AC.goes ttk 1 rfl ?_
   refine AC.ret ?_
   refine block_ret ?_
   refine then_ret ?_
   refine then_ret ?_
   refine block_ret ?_
   refine then_ret ?_
   have hX:wrongAuth a=3:=by
     (unfold wrongAuth;try dsimp only);(repeat' split)<;>first|rfl|omega|(exfalso;omega)|(subst_vars;rfl)|(simp_all;done)|(simp_all;omega)
   rw [hX] at hr;clear hX
   subst hr
   refine retQ_go ttk [] 0 rfl rfl rfl rfl rfl rfl ?_ ?_
   all_goals first|rfl|(simp [ufs];done)|(simp [ufs];omega)
  have hc3':=hc3;try simp only [sumB,dns] at hc3'
  refine AC.skip ?_
  refine block_ok ?_
  refine then_ok ?_
  refine AC.region ?_
  refine AL.vl (g_binI rfl rfl rfl (wrap_ok (by first|omega|(simp;done)|(simp;omega)))) rfl ?_
  refine AL.runs ttk 1 rfl ?_
  refine AL.nx ?_
  refine ⟨q+1,⟨by omega,by omega,by omega,by omega,by omega⟩,by first|omega|(simp;done)|(simp;omega),Weak.ren id (by refine ⟨?_,?_,?_,?_,trivial⟩<;>first|rfl|(simp only [mps];done)|(congr 3;omega)|(congr 4;omega)|(simp only [lns];rfl)) (by refine ⟨?_,?_,trivial⟩<;>first|rfl|(simp only [mps];done)|(congr 3;omega)|(congr 4;omega)|(simp only [lns];rfl)) rfl⟩
 have hc1':=of_decide_eq_false hc1
 refine AC.exit ?_
 refine then_exit ?_
 refine then_exit ?_
 refine block_hit ?_
 refine then_ok ?_
 refine AC.seq ?_
 refine AC.block ?_
 refine AC.cutB 26 ((((((decide (a.card < 0))||(decide (a.card>=8)))||(decide (a.shop < 0)))||(decide (a.shop>=8)))||(decide (a.till < 0)))||(decide (a.till > 1000100))) ?_ ?_
 ·
  refine AC.region ?_
  refine AL.runs ttk 4 rfl ?_
  refine AL.dec (t:=30) rfl (fun hb4=>?_) (fun hb4=>?_)
  ·
   have hb4':=of_decide_eq_true hb4
   refine AL.runs ttk 25 rfl ?_
   refine AL.nx ?_
   exact Weak.popB 30 rfl rfl (by first|(simp [hb4];done)|(simp_all;done)|(exfalso;simp_all;done)|(simp_all;omega)) rfl
  have hb4':=of_decide_eq_false hb4
  refine AL.runs ttk 5 rfl ?_
  refine AL.dec (t:=35) rfl (fun hb5=>?_) (fun hb5=>?_)
  ·
   have hb5':=of_decide_eq_true hb5
   refine AL.runs ttk 20 rfl ?_
   refine AL.nx ?_
   exact Weak.popB 31 rfl rfl (by first|(simp [hb4,hb5];done)|(simp_all;done)|(exfalso;simp_all;done)|(simp_all;omega)) rfl
  have hb5':=of_decide_eq_false hb5
  refine AL.runs ttk 5 rfl ?_
  refine AL.dec (t:=40) rfl (fun hb6=>?_) (fun hb6=>?_)
  ·
   have hb6':=of_decide_eq_true hb6
   refine AL.runs ttk 15 rfl ?_
   refine AL.nx ?_
   exact Weak.popB 32 rfl rfl (by first|(simp [hb4,hb5,hb6];done)|(simp_all;done)|(exfalso;simp_all;done)|(simp_all;omega)) rfl
  have hb6':=of_decide_eq_false hb6
  refine AL.runs ttk 5 rfl ?_
  refine AL.dec (t:=45) rfl (fun hb7=>?_) (fun hb7=>?_)
  ·
   have hb7':=of_decide_eq_true hb7
   refine AL.runs ttk 10 rfl ?_
   refine AL.nx ?_
   exact Weak.popB 33 rfl rfl (by first|(simp [hb4,hb5,hb6,hb7];done)|(simp_all;done)|(exfalso;simp_all;done)|(simp_all;omega)) rfl
  have hb7':=of_decide_eq_false hb7
  refine AL.runs ttk 5 rfl ?_
  refine AL.dec (t:=50) rfl (fun hb8=>?_) (fun hb8=>?_)
  ·
   have hb8':=of_decide_eq_true hb8
   refine AL.runs ttk 5 rfl ?_
   refine AL.nx ?_
   exact Weak.popB 34 rfl rfl (by first|(simp [hb4,hb5,hb6,hb7,hb8];done)|(simp_all;done)|(exfalso;simp_all;done)|(simp_all;omega)) rfl
  have hb8':=of_decide_eq_false hb8
  refine AL.runs ttk 5 rfl ?_
  refine AL.nx ?_
  exact Weak.popB 34 rfl rfl (by first|(simp [hb4,hb5,hb6,hb7,hb8];done)|(simp_all;done)|(exfalso;simp_all;done)|(simp_all;omega)) rfl
 refine AC.cond rfl (fun hc9=>?_) (fun hc9=>?_)
 ·
  have hc9':=hc9;try simp only [sumB,dns] at hc9'
  refine AC.goes ttk 1 rfl ?_
  refine AC.ret ?_
  refine block_ret ?_
  refine then_ret ?_
  have hX:wrongAuth a=3:=by
    (unfold wrongAuth;try dsimp only);(repeat' split)<;>first|rfl|omega|(exfalso;omega)|(subst_vars;rfl)|(simp_all;done)|(simp_all;omega)
  rw [hX] at hr;clear hX
  subst hr
  refine retQ_go ttk [] 0 rfl rfl rfl rfl rfl rfl ?_ ?_
  all_goals first|rfl|(simp [ufs];done)|(simp [ufs];omega)
 have hc9':=hc9;try simp only [sumB,dns] at hc9'
 refine AC.cutB 55 ((decide (a.captured > a.sum))||(decide ((a.refunded+a.disputed) > a.captured))) ?_ ?_
 ·
  refine AC.region ?_
  refine AL.runs ttk 6 rfl ?_
  refine AL.dec (t:=61) rfl (fun hb10=>?_) (fun hb10=>?_)
  ·
   have hb10':=of_decide_eq_true hb10
   refine AL.runs ttk 10 rfl ?_
   refine AL.nx ?_
   exact Weak.popB 17 rfl rfl (by first|(simp [hb10];done)|(simp_all;done)|(exfalso;simp_all;done)|(simp_all;omega)) rfl
  have hb10':=of_decide_eq_false hb10
  refine AL.runs ttk 4 rfl ?_
  refine AL.val (Wanted.yes rfl rfl rfl) (g_binI rfl rfl rfl (wrap_ok (by first|omega|(simp;done)|(simp;omega)))) rfl rfl ?_
  refine AL.runs ttk 5 rfl ?_
  refine AL.nx ?_
  exact Weak.popB 17 rfl rfl (by first|(simp [hb10];done)|(simp_all;done)|(exfalso;simp_all;done)|(simp_all;omega)) rfl
 refine AC.cond rfl (fun hc11=>?_) (fun hc11=>?_)
 ·
  have hc11':=hc11;try simp only [sumB,dns] at hc11'
  refine AC.goes ttk 1 rfl ?_
  refine AC.ret ?_
  refine block_ret ?_
  refine then_ret ?_
  have hX:wrongAuth a=8:=by
    (unfold wrongAuth;try dsimp only);(repeat' split)<;>first|rfl|omega|(exfalso;omega)|(subst_vars;rfl)|(simp_all;done)|(simp_all;omega)
  rw [hX] at hr;clear hX
  subst hr
  refine retQ_go ttk [] 0 rfl rfl rfl rfl rfl rfl ?_ ?_
  all_goals first|rfl|(simp [ufs];done)|(simp [ufs];omega)
 have hc11':=hc11;try simp only [sumB,dns] at hc11'
 refine AC.skip ?_
 refine block_ok ?_
 refine then_ok ?_
 refine AC.goes ttk 1 rfl ?_
 refine AC.ret ?_
 have hX:wrongAuth a=0:=by
   (unfold wrongAuth;try dsimp only);(repeat' split)<;>first|rfl|omega|(exfalso;omega)|(subst_vars;rfl)|(simp_all;done)|(simp_all;omega)
 rw [hX] at hr;clear hX
 subst hr
 refine retQ_go ttk [] 0 rfl rfl rfl rfl rfl rfl ?_ ?_
 all_goals first|rfl|(simp [ufs];done)|(simp [ufs];omega)
set_option maxRecDepth 100000 in
set_option maxHeartbeats 1000000 in
theorem c_auth_New (card shop n time:Int) (b:Auth) (e:Int) (hr:newAuth card shop n time=(b,e)):Fn Try.prog 79 [(.c (cI card)),(.c (cI shop)),(.c (cI n)),(.c (cI time))] (.t [(.g [(cI b.card),(cI b.shop),(cI b.sum),(cI b.captured),(cI b.refunded),(cI b.disputed),(cI b.till),(cB b.shut)]),(.c (cI e))]) []:=by
 refine Fn.mk' 40 [(0,(aI card)),(1,(aI shop)),(2,(aI n)),(3,(aI time))] Try.func79 rfl rfl rfl rfl ?_
 intro W0 T0
 refine AC.goes ttk 2 rfl ?_
 refine AC.seq ?_
 refine AC.cutB 25 ((((decide (n < 1))||(decide (n > 1000000)))||(decide (time < 0)))||(decide (time > 1000000))) ?_ ?_
 ·
  refine AC.region ?_
  refine AL.runs ttk 3 rfl ?_
  refine AL.dec (t:=14) rfl (fun hb1=>?_) (fun hb1=>?_)
  ·
   have hb1':=of_decide_eq_true hb1
   refine AL.runs ttk 11 rfl ?_
   refine AL.nx ?_
   exact Weak.popB 15 rfl rfl (by first|(simp [hb1];done)|(simp_all;done)|(exfalso;simp_all;done)|(simp_all;omega)) rfl
  have hb1':=of_decide_eq_false hb1
  refine AL.runs ttk 4 rfl ?_
  refine AL.dec (t:=18) rfl (fun hb2=>?_) (fun hb2=>?_)
  ·
   have hb2':=of_decide_eq_true hb2
   refine AL.runs ttk 7 rfl ?_
   refine AL.nx ?_
   exact Weak.popB 16 rfl rfl (by first|(simp [hb1,hb2];done)|(simp_all;done)|(exfalso;simp_all;done)|(simp_all;omega)) rfl
  have hb2':=of_decide_eq_false hb2
  refine AL.runs ttk 4 rfl ?_
  refine AL.dec (t:=22) rfl (fun hb3=>?_) (fun hb3=>?_)
  ·
   have hb3':=of_decide_eq_true hb3
   refine AL.runs ttk 3 rfl ?_
   refine AL.nx ?_
   exact Weak.popB 17 rfl rfl (by first|(simp [hb1,hb2,hb3];done)|(simp_all;done)|(exfalso;simp_all;done)|(simp_all;omega)) rfl
  have hb3':=of_decide_eq_false hb3
  refine AL.runs ttk 3 rfl ?_
  refine AL.nx ?_
  exact Weak.popB 17 rfl rfl (by first|(simp [hb1,hb2,hb3];done)|(simp_all;done)|(exfalso;simp_all;done)|(simp_all;omega)) rfl
 refine AC.cond rfl (fun hc4=>?_) (fun hc4=>?_)
 ·
  have hc4':=hc4;try simp only [sumB,dns] at hc4'
  refine AC.goes ttk 3 rfl ?_
  refine AC.ret ?_
  refine then_ret ?_
  have hX:newAuth card shop n time=((⟨0,0,0,0,0,0,0,false⟩:Auth),3):=by
    (try (unfold wrongAuth at hr0;dsimp only at hr0;(repeat' split at hr0)))<;>((unfold newAuth;try dsimp only);(repeat' split)<;>first|rfl|omega|(exfalso;omega)|(subst_vars;rfl)|(simp_all;done)|(simp_all;omega))
  rw [hX] at hr;clear hX
  simp only [Prod.mk.injEq] at hr;obtain ⟨rfl,rfl⟩:=hr
  refine retQ_go ttk [0] 0 rfl rfl rfl rfl rfl rfl ?_ ?_
  all_goals first|rfl|(simp [ufs];done)|(simp [ufs];omega)
 have hc4':=hc4;try simp only [sumB,dns] at hc4'
 refine AC.sk ?_
 refine AC.go ttk 4 rfl ?_
 refine AL.vl (g_binI rfl rfl rfl (wrap_ok (by first|omega|(simp;done)|(simp;omega)))) rfl ?_
 refine AL.runs ttk 3 rfl ?_
 refine AL.nx ?_
 refine AC.seq ?_
 refine AC.go ttk 1 rfl ?_
 obtain ⟨e0,hr0⟩:∃ (e0:Int),wrongAuth (⟨card,shop,n,0,0,0,time+100,false⟩:Auth)=e0:=⟨_,rfl⟩
 refine AL.cn 2 [1,0] (g_call 2 (c_auth_Wrong (⟨card,shop,n,0,0,0,time+100,false⟩:Auth) e0 hr0) en26 rfl rfl ⟨⟨_,rfl,.g ⟨.d _,.d _,.d _,.d _,.d _,.d _,.d _,.d _,trivial⟩⟩,trivial⟩ trivial trivial rfl rfl rfl rfl) rfl ?_
 refine AL.runs ttk 1 rfl ?_
 refine AL.nx ?_
 refine AC.goes ttk 2 rfl ?_
 refine AC.cond rfl (fun hc5=>?_) (fun hc5=>?_)
 ·
  have hc5':=of_decide_eq_true hc5
  refine AC.goes ttk 4 rfl ?_
  refine AC.ret ?_
  refine then_ret ?_
  have hX:newAuth card shop n time=((⟨0,0,0,0,0,0,0,false⟩:Auth),e0):=by
    (try (unfold wrongAuth at hr0;dsimp only at hr0;(repeat' split at hr0)))<;>((unfold newAuth;try dsimp only);(repeat' split)<;>first|rfl|omega|(exfalso;omega)|(subst_vars;rfl)|(simp_all;done)|(simp_all;omega))
  rw [hX] at hr;clear hX
  simp only [Prod.mk.injEq] at hr;obtain ⟨rfl,rfl⟩:=hr
  refine retQ_go ttk [0] 0 rfl rfl rfl rfl rfl rfl ?_ ?_
  all_goals first|rfl|(simp [ufs];done)|(simp [ufs];omega)
 have hc5':=of_decide_eq_false hc5
 refine AC.sk ?_
 refine AC.goes ttk 3 rfl ?_
 refine AC.ret ?_
 have hX:newAuth card shop n time=((⟨card,shop,n,0,0,0,time+100,false⟩:Auth),0):=by
   (try (unfold wrongAuth at hr0;dsimp only at hr0;(repeat' split at hr0)))<;>((unfold newAuth;try dsimp only);(repeat' split)<;>first|rfl|omega|(exfalso;omega)|(subst_vars;rfl)|(simp_all;done)|(simp_all;omega))
 rw [hX] at hr;clear hX
 simp only [Prod.mk.injEq] at hr;obtain ⟨rfl,rfl⟩:=hr
 refine retQ_go ttk [0] 0 rfl rfl rfl rfl rfl rfl ?_ ?_
 all_goals first|rfl|(simp [ufs];done)|(simp [ufs];omega)
end Go.Proofs.Ytegepioggeggaaa.Dev
