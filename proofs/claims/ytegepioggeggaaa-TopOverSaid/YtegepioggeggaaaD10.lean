/- A part of the proof: Day1, Day4, Day5, Bank1, Bank2, Bank3, Clones, Bank4, Bank7. No condition. -/
import Derived.Test.YtegepioggeggaaaD06
import Derived.Test.YtegepioggeggaaaD09
import Derived.Test.YtegepioggeggaaaD02
import Derived.Test.YtegepioggeggaaaD04
import Derived.Test.YtegepioggeggaaaD03
import Derived.Test.YtegepioggeggaaaD07
import Derived.Test.YtegepioggeggaaaD08
import Derived.Test.YtegepioggeggaaaD05
set_option linter.unusedVariables false
set_option linter.unusedSimpArgs false
namespace Go.Proofs.Ytegepioggeggaaa.Dev
open Go.RowKit

set_option maxRecDepth 100000 in
set_option maxHeartbeats 1000000 in
theorem c_day_Wrong (l:List Record) (f:Fault) (hr:wrongR l=f):Fn Try.prog 31 [(.c (vlR l))] (.v (.g [(cI f.err),(cI f.at_)])) []:=by
 refine Fn.mk' 58 [(0,(aC (vlR l)))] Try.func31 rfl rfl rfl rfl ?_
 intro W0 T0
 refine AC.len1 0 rfl (fun hlen0=>?_)
 refine AC.goes ttk 1 rfl ?_
 refine AC.seq ?_
 refine AC.go ttk 1 rfl ?_
 refine AL.vl (g_lenM rfl rfl rfl rfl rfl Try.underlying42) rfl ?_
 refine AL.runs ttk 1 rfl ?_
 refine AL.nx ?_
 refine AC.cond rfl (fun hc1=>?_) (fun hc1=>?_)
 ·
  have hc1':=of_decide_eq_true hc1
  refine AC.goes ttk 2 rfl ?_
  refine AC.ret ?_
  refine then_ret ?_
  have hX:wrongR l=(⟨5,0⟩:Fault):=by
    unfold wrongR;rw [if_pos (by omega)]
  rw [hX] at hr;clear hX
  subst hr
  refine retQ_go ttk [0] 0 rfl rfl rfl rfl rfl rfl ?_ ?_
  all_goals first|rfl|(simp [ufs];done)|(simp [ufs];omega)
 have hc1':=of_decide_eq_false hc1
 refine AC.sk ?_
 refine AC.seq ?_
 refine AC.go ttk 1 rfl ?_
 refine AL.vl (g_lenM rfl rfl rfl rfl rfl Try.underlying42) rfl ?_
 refine AL.runs ttk 1 rfl ?_
 refine AL.nx ?_
 refine AC.block ?_
 refine AC.loop (β:=Nat) (fun (q:Nat)=>⟨[(2,(aC (.p 0 0 0 0))),(9,(aC (vlR l))),(10,(aI (↑l.length:Int))),(11,(aI (↑q:Int)))],[(0,(.box 50 [(cI 0),(cI 0)]))],1⟩) (fun (q:Nat)=>q<=l.length/\rErr l 0=rErr (l.drop q) q) (fun (q:Nat)=>l.length - q) 0 ?_ ?_ ?_
 ·exact ⟨by omega,rfl⟩
 ·exact Weak.ren id (by refine ⟨?_,?_,?_,?_,trivial⟩<;>first|rfl|(simp only [mps];done)|(congr 3;omega)|(congr 4;omega)|(simp only [lns];rfl)) (⟨by first|rfl|(simp only [mps];done)|(congr 3;omega)|(congr 4;omega)|(simp only [lns];rfl),trivial⟩) rfl
 rintro q ⟨hi0_0,hi0_1⟩
 refine AC.goes ttk 1 rfl ?_
 refine AC.seq ?_
 refine AC.cond rfl (fun hc2=>?_) (fun hc2=>?_)
 ·
  have hc2':=of_decide_eq_true hc2
  refine AC.sk ?_
  refine AC.seq ?_
  refine AC.block ?_
  refine AC.go ttk 1 rfl ?_
  obtain ⟨x1,hx1⟩:=exget (xs:=l) (i:=q) (by first|omega|(simp;done)|(simp;omega))
  refine AL.vl (g_indexQ (i:=q) rfl rfl rfl Try.underlying42 sz83 (by first|omega|(simp;done)|(simp;omega)) (getmap hx1)) rfl ?_
  refine AL.runs ttk 4 rfl ?_
  refine AL.nx ?_
  refine AC.seq ?_
  refine AC.cutB 23 ((decide (x1.kind < 1))||(decide (x1.kind > 8))) ?_ ?_
  ·
   refine AC.region ?_
   refine AL.runs ttk 4 rfl ?_
   refine AL.dec (t:=19) rfl (fun hb3=>?_) (fun hb3=>?_)
   ·
    have hb3':=of_decide_eq_true hb3
    refine AL.runs ttk 4 rfl ?_
    refine AL.nx ?_
    exact Weak.popB 9 rfl rfl (by first|(simp [hb3];done)|(simp_all;done)|(exfalso;simp_all;done)|(simp_all;omega)) rfl
   have hb3':=of_decide_eq_false hb3
   refine AL.runs ttk 4 rfl ?_
   refine AL.nx ?_
   exact Weak.popB 9 rfl rfl (by first|(simp [hb3];done)|(simp_all;done)|(exfalso;simp_all;done)|(simp_all;omega)) rfl
  refine AC.cond rfl (fun hc4=>?_) (fun hc4=>?_)
  ·
   have hc4':=hc4;try simp only [sumB,dns] at hc4'
   refine AC.goes ttk 3 rfl ?_
   refine AC.ret ?_
   refine then_ret ?_
   refine block_ret ?_
   refine then_ret ?_
   refine then_ret ?_
   refine block_ret ?_
   refine then_ret ?_
   have hX:wrongR l=(⟨1,(↑q:Int)⟩:Fault):=by
     unfold wrongR;rw [if_neg (by omega),hi0_1,rErr_drop hx1,if_pos (by unfold badK;omega)]
   rw [hX] at hr;clear hX
   subst hr
   refine retQ_go ttk [0] 0 rfl rfl rfl rfl rfl rfl ?_ ?_
   all_goals first|rfl|(simp [ufs];done)|(simp [ufs];omega)
  have hc4':=hc4;try simp only [sumB,dns] at hc4'
  refine AC.sk ?_
  refine AC.cutB 53 ((((((decide (x1.shop < 0))||(decide (x1.shop>=8)))||(decide (x1.auth < 0)))||(decide (x1.auth>=30)))||(decide (x1.sum < 1)))||(decide (x1.sum > 1000000))) ?_ ?_
  ·
   refine AC.region ?_
   refine AL.runs ttk 4 rfl ?_
   refine AL.dec (t:=29) rfl (fun hb5=>?_) (fun hb5=>?_)
   ·
    have hb5':=of_decide_eq_true hb5
    refine AL.runs ttk 24 rfl ?_
    refine AL.nx ?_
    exact Weak.popB 29 rfl rfl (by first|(simp [hb5];done)|(simp_all;done)|(exfalso;simp_all;done)|(simp_all;omega)) rfl
   have hb5':=of_decide_eq_false hb5
   refine AL.runs ttk 5 rfl ?_
   refine AL.dec (t:=34) rfl (fun hb6=>?_) (fun hb6=>?_)
   ·
    have hb6':=of_decide_eq_true hb6
    refine AL.runs ttk 19 rfl ?_
    refine AL.nx ?_
    exact Weak.popB 30 rfl rfl (by first|(simp [hb5,hb6];done)|(simp_all;done)|(exfalso;simp_all;done)|(simp_all;omega)) rfl
   have hb6':=of_decide_eq_false hb6
   refine AL.runs ttk 5 rfl ?_
   refine AL.dec (t:=39) rfl (fun hb7=>?_) (fun hb7=>?_)
   ·
    have hb7':=of_decide_eq_true hb7
    refine AL.runs ttk 14 rfl ?_
    refine AL.nx ?_
    exact Weak.popB 31 rfl rfl (by first|(simp [hb5,hb6,hb7];done)|(simp_all;done)|(exfalso;simp_all;done)|(simp_all;omega)) rfl
   have hb7':=of_decide_eq_false hb7
   refine AL.runs ttk 5 rfl ?_
   refine AL.dec (t:=44) rfl (fun hb8=>?_) (fun hb8=>?_)
   ·
    have hb8':=of_decide_eq_true hb8
    refine AL.runs ttk 9 rfl ?_
    refine AL.nx ?_
    exact Weak.popB 32 rfl rfl (by first|(simp [hb5,hb6,hb7,hb8];done)|(simp_all;done)|(exfalso;simp_all;done)|(simp_all;omega)) rfl
   have hb8':=of_decide_eq_false hb8
   refine AL.runs ttk 5 rfl ?_
   refine AL.dec (t:=49) rfl (fun hb9=>?_) (fun hb9=>?_)
   ·
    have hb9':=of_decide_eq_true hb9
    refine AL.runs ttk 4 rfl ?_
    refine AL.nx ?_
    exact Weak.popB 33 rfl rfl (by first|(simp [hb5,hb6,hb7,hb8,hb9];done)|(simp_all;done)|(exfalso;simp_all;done)|(simp_all;omega)) rfl
   have hb9':=of_decide_eq_false hb9
   refine AL.runs ttk 4 rfl ?_
   refine AL.nx ?_
   exact Weak.popB 33 rfl rfl (by first|(simp [hb5,hb6,hb7,hb8,hb9];done)|(simp_all;done)|(exfalso;simp_all;done)|(simp_all;omega)) rfl
  refine AC.cond rfl (fun hc10=>?_) (fun hc10=>?_)
  ·
   have hc10':=hc10;try simp only [sumB,dns] at hc10'
   refine AC.goes ttk 3 rfl ?_
   refine AC.ret ?_
   refine block_ret ?_
   refine then_ret ?_
   refine then_ret ?_
   refine block_ret ?_
   refine then_ret ?_
   have hX:wrongR l=(⟨3,(↑q:Int)⟩:Fault):=by
     unfold wrongR;rw [if_neg (by omega),hi0_1,rErr_drop hx1,if_neg (by unfold badK;omega),if_pos (by unfold badR;omega)]
   rw [hX] at hr;clear hX
   subst hr
   refine retQ_go ttk [0] 0 rfl rfl rfl rfl rfl rfl ?_ ?_
   all_goals first|rfl|(simp [ufs];done)|(simp [ufs];omega)
  have hc10':=hc10;try simp only [sumB,dns] at hc10'
  refine AC.skip ?_
  refine block_ok ?_
  refine then_ok ?_
  refine AC.region ?_
  refine AL.vl (g_binI rfl rfl rfl (wrap_ok (by first|omega|(simp;done)|(simp;omega)))) rfl ?_
  refine AL.runs ttk 1 rfl ?_
  refine AL.nx ?_
  refine ⟨q+1,⟨by omega,by rw [hi0_1,rErr_drop hx1,if_neg (by unfold badK;omega),if_neg (by unfold badR;omega)]⟩,by first|omega|(simp;done)|(simp;omega),Weak.ren id (by refine ⟨?_,?_,?_,?_,trivial⟩<;>first|rfl|(simp only [mps];done)|(congr 3;omega)|(congr 4;omega)|(simp only [lns];rfl)) (⟨by first|rfl|(simp only [mps];done)|(congr 3;omega)|(congr 4;omega)|(simp only [lns];rfl),trivial⟩) rfl⟩
 have hc2':=of_decide_eq_false hc2
 refine AC.exit ?_
 refine then_exit ?_
 refine then_exit ?_
 refine block_hit ?_
 refine then_ok ?_
 refine AC.goes ttk 2 rfl ?_
 refine AC.ret ?_
 have hX:wrongR l=(⟨0,0⟩:Fault):=by
   unfold wrongR;rw [if_neg (by omega),hi0_1,rErr_over (by omega)]
 rw [hX] at hr;clear hX
 subst hr
 refine retQ_go ttk [0] 0 rfl rfl rfl rfl rfl rfl ?_ ?_
 all_goals first|rfl|(simp [ufs];done)|(simp [ufs];omega)
end Go.Proofs.Ytegepioggeggaaa.Dev
namespace Go.Proofs.Ytegepioggeggaaa.Dev
open Go.RowKit

set_option maxRecDepth 100000 in
set_option maxHeartbeats 1000000 in
theorem c_day_put (b:List Int) (N:Nat) (n:Int) (z:Nat) (hN:N=b.length) (hz:z<=8) (hl:b.length+z<=1000000) (r:List Int) (hr:b++beR n z=r):FnE Try.prog 109 [(.c (.s 0 0 1 N)),(.c (cI n)),(.c (cI (↑z:Int)))] [(0,(alB b))] [] (.v (.c (.s 0 0 1 r.length))) [(0,(alB r))]:=by
 refine FnE.mk 23 [(0,(aC (.s 0 0 1 N))),(1,(aI n)),(2,(aI (↑z:Int)))] 1 Try.func109 rfl rfl rfl rfl rfl rfl rfl rfl rfl ?_
 intro W0 F0 T0 pg
 refine AC.lenS 0 rfl (fun hlen0=>?_)
 refine AC.goes ttk 1 rfl ?_
 refine AC.seq ?_
 refine AC.go ttk 1 rfl ?_
 refine AL.vl (g_binI rfl rfl rfl (wrap_ok (by first|omega|(simp;done)|(simp;omega)))) rfl ?_
 refine AL.runs ttk 1 rfl ?_
 refine AL.nx ?_
 refine AC.block ?_
 refine AC.loop (β:=Nat×List Int) (fun (p:Nat×List Int)=>match p with|(k,m)=>⟨[(0,(aC (.s 0 0 1 m.length))),(1,(aI n)),(6,(aC cN)),(7,(aI ((↑k:Int) - 1)))],[(0,(alB m))],1⟩) (fun (p:Nat×List Int)=>match p with|(k,m)=>k<=z/\m++beR n k=b++beR n z/\m.length+k=b.length+z) (fun (p:Nat×List Int)=>match p with|(k,m)=>k) (z,b) ?_ ?_ ?_
 ·exact ⟨by omega,rfl,rfl⟩
 ·exact Weak.ren id (by refine ⟨?_,?_,?_,?_,trivial⟩<;>first|rfl|(simp only [mps];done)|(congr 3;omega)|(congr 4;omega)|(simp only [lns];rfl)|(first|exact look_i rfl (by omega)|exact look_s rfl (by omega))) (⟨by first|rfl|(simp only [mps];done)|(congr 3;omega)|(congr 4;omega)|(simp only [lns];rfl),trivial⟩) rfl
 rintro ⟨k,m⟩ ⟨hi0_0,hi0_1,hi0_2⟩
 refine AC.seq ?_
 refine AC.goes ttk 2 rfl ?_
 refine AC.cond rfl (fun hc1=>?_) (fun hc1=>?_)
 ·
  have hc1':=of_decide_eq_true hc1
  refine AC.sk ?_
  refine AC.seq ?_
  refine AC.block ?_
  refine AC.region ?_
  refine AL.runs ttk 3 rfl ?_
  refine AL.vl (g_binI rfl rfl rfl (wrap_ok (by first|omega|(simp;done)|(simp;omega)))) rfl ?_
  refine AL.vl (g_shrV rfl rfl rfl (by first|omega|(simp;done)|(simp;omega)) rfl (shr8 (k:=k) (by omega) rfl)) rfl ?_
  refine AL.vl (g_convI rfl rfl (by rw [Try.underlying3];rfl) Try.underlying5 conv_m8) rfl ?_
  refine AL.cn 2 [1,0] (g_lit (ys:=[(0,(.c (.d (.v (.int .u8 ((n / 256 ^ (k - 1)) % 256))))))]) (rows:=([(n / 256 ^ (k - 1)) % 256]).map rU8) 1 sl86 rfl (by decide) ⟨⟨rfl,rfl⟩,trivial⟩ rfl rfl rfl rfl) rfl ?_
  refine AL.cn 3 [2,1] (g_append (m:=1) (N:=m.length+1) (k2:=2) (ys:=([(n / 256 ^ (k - 1)) % 256]).map rU8) sl86 rfl rfl rfl rfl rfl rfl (by first|omega|(simp;done)|(simp;omega)) rfl (.s rfl (by first|omega|(simp;done)|(simp;omega))) (by first|omega|(simp;done)|(simp;omega)) (by first|omega|(simp;done)|(simp;omega)) appmap (by decide) (by first|omega|(simp;done)|(simp;omega)) (by first|omega|(simp;done)|(simp;omega))) rfl ?_
  refine AL.runs ttk 1 rfl ?_
  refine AL.nil ?_
  refine block_ok ?_
  refine then_ok ?_
  refine AC.region ?_
  refine AL.runs ttk 1 rfl ?_
  refine AL.vl (g_binI rfl rfl rfl (wrap_ok (by first|omega|(simp;done)|(simp;omega)))) rfl ?_
  refine AL.runs ttk 1 rfl ?_
  refine AL.nx ?_
  refine ⟨(k - 1,m++([(n / 256 ^ (k - 1)) % 256])),⟨by omega,by rw [<-hi0_1,beR_step (k:=k) (by omega),List.append_assoc];rfl,by simp only [List.length_append,List.length_cons,List.length_nil];omega⟩,by first|omega|(simp;done)|(simp;omega),Weak.ren (fun k=>if k=0 then 2 else k) (by refine ⟨?_,?_,?_,?_,trivial⟩<;>first|rfl|(simp only [mps];done)|(congr 3;omega)|(congr 4;omega)|(simp only [lns];rfl)|(first|exact look_i rfl (by omega)|exact look_s rfl (by simp only [List.length_append,List.length_cons,List.length_nil];omega))) (⟨by first|rfl|(simp only [mps];done)|(congr 3;omega)|(congr 4;omega)|(simp only [lns];rfl),trivial⟩) rfl⟩
 have hc1':=of_decide_eq_false hc1
 refine AC.exit ?_
 refine then_exit ?_
 refine then_exit ?_
 refine block_hit ?_
 refine then_ok ?_
 refine AC.goes ttk 2 rfl ?_
 refine AC.ret ?_
 have hX:b++beR n z=m:=by
   (obtain rfl:k=0:=by omega);rw [<-hi0_1];simp [beR]
 rw [hX] at hr;clear hX
 subst hr
 refine retQ_go ttk [0] 1 rfl rfl rfl rfl rfl rfl ?_ ?_
 all_goals first|rfl|(simp [ufs];done)|(simp [ufs];omega)
end Go.Proofs.Ytegepioggeggaaa.Dev
namespace Go.Proofs.Ytegepioggeggaaa.Dev
open Go.RowKit

set_option maxRecDepth 100000 in
set_option maxHeartbeats 4000000 in
theorem c_day_Bytes (l:List Record) (hl:l.length * 32<=140737488355328) (x:List Int) (f:Fault) (hr:bytesR l=(x,f)):Fn Try.prog 92 [(.c (vlR l))] (.t [(.c (.s 0 0 1 x.length)),(.g [(cI f.err),(cI f.at_)])]) [(0,(alB x))]:=by
 refine Fn.mk' 50 [(0,(aC (vlR l)))] Try.func92 rfl rfl rfl rfl ?_
 intro W0 T0
 refine AC.len1 0 rfl (fun hlen0=>?_)
 refine AC.goes ttk 2 rfl ?_
 refine AC.seq ?_
 refine AC.go ttk 1 rfl ?_
 obtain ⟨f0,hr0⟩:∃ (f0:Fault),wrongR l=f0:=⟨_,rfl⟩
 refine AL.cn 1 [0] (g_call 1 (c_day_Wrong l f0 hr0) en31 rfl rfl ⟨⟨_,rfl,.c (.d _)⟩,trivial⟩ ⟨trivial,trivial,trivial⟩ trivial rfl rfl rfl rfl) rfl ?_
 refine AL.runs ttk 2 rfl ?_
 refine AL.nx ?_
 refine AC.goes ttk 3 rfl ?_
 refine AC.cond rfl (fun hc1=>?_) (fun hc1=>?_)
 ·
  have hc1':=of_decide_eq_true hc1
  refine AC.seq ?_
  refine AC.drawP [0,3,4] [1,0] mixed rfl rfl ?_
  refine PD.runs (kn:=[]) ttk 2 rfl trivial ?_
  refine PD.fin [1,0] rfl rfl rfl rfl (by kernel_rfl) ?_
  refine AL.runs ttk 1 rfl ?_
  refine AL.nx ?_
  refine AC.ret ?_
  refine then_ret ?_
  refine retQ_weak (Weak.nil 2 5 1 (by decide) rfl) ?_
  have hX:bytesR l=(([]:List Int),f0):=by
    unfold bytesR;rw [if_neg (by rw [hr0];omega),hr0]
  rw [hX] at hr;clear hX
  simp only [Prod.mk.injEq] at hr;obtain ⟨rfl,rfl⟩:=hr
  refine retQ_go ttk [2,0] 1 rfl rfl rfl rfl rfl rfl ?_ ?_
  all_goals first|rfl|(simp [ufs];done)|(simp [ufs];omega)
 have hc1':=of_decide_eq_false hc1
 refine AC.sk ?_
 have hw:(wrongR l).err=0:=by rw [hr0];omega
 have hok:=wrongR_ok.1 hw
 refine AC.go ttk 1 rfl ?_
 refine AL.vl (g_lenM rfl rfl rfl rfl rfl Try.underlying42) rfl ?_
 refine AL.vl (g_convI rfl rfl (by rw [Try.underlying3];rfl) Try.underlying5 conv_m8) rfl ?_
 refine AL.cn 3 [2,1,0] (g_lit (ys:=[(0,(.c (.d (.v (.int .u8 ((↑l.length:Int) % 256))))))]) (rows:=([(↑l.length:Int) % 256]).map rU8) 2 sl86 rfl (by decide) ⟨⟨rfl,rfl⟩,trivial⟩ rfl rfl rfl rfl) rfl ?_
 refine AL.runs ttk 1 rfl ?_
 refine AL.nx ?_
 refine AC.goes ttk 1 rfl ?_
 refine AC.seq ?_
 refine AC.go ttk 1 rfl ?_
 obtain ⟨r1,hr1⟩:∃ (r1:List Record),sortR l=r1:=⟨_,rfl⟩
 have hlr:r1.length=l.length:=by rw [<-hr1];exact sortR_len _
 have hrok:∀ x∈r1,okR x:=fun x hx=>hok.2 x ((sortR_same l).mem.2 (by rw [hr1];exact hx))
 refine AL.cn 4 [3,2,1,0] (g_call 3 (c_Sorted l (by first|omega|(simp;done)|(simp;omega)) r1 hr1) en37 rfl rfl ⟨⟨_,rfl,.c (.d _)⟩,trivial⟩ trivial ⟨(fun _ _ _ _=>trivial),trivial⟩ rfl rfl rfl rfl) rfl ?_
 refine AL.vl (g_lenS rfl rfl rfl rfl rfl Try.underlying42) rfl ?_
 refine AL.runs ttk 1 rfl ?_
 refine AL.nx ?_
 refine AC.block ?_
 refine AC.loop (β:=Nat×List Int×Int) (fun (p:Nat×List Int×Int)=>match p with|(q,m,all)=>⟨[(2,(aC cN)),(3,(aC (.p 0 0 0 0))),(5,(aC (.s 2 0 1 m.length))),(6,(aI all)),(20,(aC (.s 3 0 4 r1.length))),(21,(aI (↑r1.length:Int))),(22,(aI (↑q:Int)))],[(3,(alR r1)),(2,(alB m)),(0,(.box 50 [(cI 0),(cI 0)]))],4⟩) (fun (p:Nat×List Int×Int)=>match p with|(q,m,all)=>q<=r1.length/\m=headB l (r1.take q)/\all=sumR (r1.take q)/\0<=all/\all<=1000000 * (q:Int)) (fun (p:Nat×List Int×Int)=>match p with|(q,m,all)=>r1.length - q) (0,[(↑l.length:Int) % 256],0) ?_ ?_ ?_
 ·exact ⟨by omega,by simp [headB],rfl,by omega⟩
 ·exact Weak.ren id (by refine ⟨?_,?_,?_,?_,?_,?_,?_,trivial⟩<;>first|rfl|(simp only [mps];done)|(congr 3;omega)|(congr 4;omega)|(simp only [lns];rfl)) (by refine ⟨?_,?_,?_,trivial⟩<;>first|rfl|(simp only [mps];done)|(congr 3;omega)|(congr 4;omega)|(simp only [lns];rfl)) rfl
 rintro ⟨q,m,all⟩ ⟨hi0_0,hi0_1,hi0_2,hi0_3⟩
 have hml:m.length=1+6 * q:=by rw [hi0_1,headB_len,List.length_take];omega
 refine AC.goes ttk 1 rfl ?_
 refine AC.seq ?_
 refine AC.cond rfl (fun hc2=>?_) (fun hc2=>?_)
 ·
  have hc2':=of_decide_eq_true hc2
  refine AC.sk ?_
  refine AC.seq ?_
  refine AC.block ?_
  refine AC.sr ?_
  refine AL.vl (g_indexP0 (i:=q) rfl rfl rfl Try.underlying42 sz83 (by first|omega|(simp;done)|(simp;omega)) (by first|omega|(simp;done)|(simp;omega))) rfl ?_
  obtain ⟨x1,hx1⟩:=exget (xs:=r1) (i:=q) (by first|omega|(simp;done)|(simp;omega))
  have hx1b:=okR_b (hrok x1 (List.mem_of_getElem? hx1))
  refine AL.vl (g_loadAs rfl rfl rfl Try.underlying83 rfl sz83 (getmap hx1) rfl) rfl ?_
  refine AL.runs ttk 2 rfl ?_
  refine AL.nx ?_
  refine AC.seq ?_
  obtain ⟨r2,hr2⟩:∃ (r2:List Int),(m++([x1.shop % 256,x1.auth % 256,x1.kind % 256]))++beR x1.sum 3=r2:=⟨_,rfl⟩
  have hlr2:r2.length=m.length+6:=by rw [<-hr2];simp [beR_len]
  refine AC.drawP [2,3,5,6,20,21,22,8] [4,3,2,0] mixed rfl rfl ?_
  refine PD.runs (kn:=[]) ttk 3 rfl trivial ?_
  refine PD.op (n':=5) [28] [] rfl rfl (.inl ⟨(Wanted.plain rfl),GOp.cast (g_convI rfl rfl (by rw [Try.underlying3];rfl) Try.underlying5 conv_m8) rfl⟩) rfl ?_
  refine PD.runs (kn:=[]) ttk 2 rfl trivial ?_
  refine PD.op (n':=5) [31] [] rfl rfl (.inl ⟨(Wanted.plain rfl),GOp.cast (g_convI rfl rfl (by rw [Try.underlying3];rfl) Try.underlying5 conv_m8) rfl⟩) rfl ?_
  refine PD.runs (kn:=[]) ttk 2 rfl trivial ?_
  refine PD.op (n':=5) [34] [] rfl rfl (.inl ⟨(Wanted.plain rfl),GOp.cast (g_convI rfl rfl (by rw [Try.underlying3];rfl) Try.underlying5 conv_m8) rfl⟩) rfl ?_
  refine PD.op (n':=6) [29,32,35] [] rfl rfl (.inl ⟨(Wanted.plain rfl),GOp.cast (g_lit (ys:=[(0,(.c (.d (.v (.int .u8 (x1.shop % 256)))))),(1,(.c (.d (.v (.int .u8 (x1.auth % 256)))))),(2,(.c (.d (.v (.int .u8 (x1.kind % 256))))))]) (rows:=([x1.shop % 256,x1.auth % 256,x1.kind % 256]).map rU8) 5 sl86 rfl (by decide) ⟨⟨rfl,rfl⟩,⟨rfl,rfl⟩,⟨rfl,rfl⟩,trivial⟩ rfl rfl rfl rfl) rfl⟩) rfl ?_
  refine PD.op (n':=7) [26,36] [5,2] rfl rfl (.inl ⟨(Wanted.plain rfl),GOp.cast (g_append (m:=3) (N:=m.length+3) (k2:=6) (ys:=([x1.shop % 256,x1.auth % 256,x1.kind % 256]).map rU8) sl86 rfl rfl rfl rfl rfl rfl (by first|omega|(simp;done)|(simp;omega)) rfl (.s rfl (by first|omega|(simp;done)|(simp;omega))) (by first|omega|(simp;done)|(simp;omega)) (by first|omega|(simp;done)|(simp;omega)) appmap (by decide) (by first|omega|(simp;done)|(simp;omega)) (by first|omega|(simp;done)|(simp;omega))) rfl⟩) rfl ?_
  refine PD.runs (kn:=[]) ttk 2 rfl trivial ?_
  refine PD.op (n':=8) [37,39] [6] rfl rfl (.inl ⟨(Wanted.plain rfl),GOp.cast (g_callM (rhoOf [6]) (rhoOf [7]) (c_day_put (m++([x1.shop % 256,x1.auth % 256,x1.kind % 256])) (m.length+3) x1.sum 3 (by first|omega|(simp;done)|(simp;omega)) (by first|omega|(simp;done)|(simp;omega)) (by first|omega|(simp;done)|(simp;omega)) r2 hr2) en109 rfl rfl ⟨⟨_,rfl,.inl ⟨rfl,rfl⟩⟩,⟨_,rfl,.inr (.c (.d _))⟩,⟨_,rfl,.inr (.c (.d _))⟩,trivial⟩ ⟨rfl,trivial⟩ rfl rfl rfl rfl rfl rfl trivial ⟨(fun _ _ _ _=>trivial),trivial⟩ rfl rfl rfl rfl) rfl⟩) rfl ?_
  refine PD.fin [7,4,3,0] rfl rfl rfl rfl (by kernel_rfl) ?_
  refine AL.runs ttk 1 rfl ?_
  refine AL.nx ?_
  refine AC.region ?_
  refine AL.runs ttk 3 rfl ?_
  refine AL.vl (g_binI rfl rfl rfl (wrap_ok (by first|omega|(simp;done)|(simp;omega)))) rfl ?_
  refine AL.runs ttk 1 rfl ?_
  refine AL.nil ?_
  refine block_ok ?_
  refine then_ok ?_
  refine AC.region ?_
  refine AL.vl (g_binI rfl rfl rfl (wrap_ok (by first|omega|(simp;done)|(simp;omega)))) rfl ?_
  refine AL.runs ttk 1 rfl ?_
  refine AL.nx ?_
  refine ⟨(q+1,r2,all+x1.sum),⟨by omega,by rw [headB_take hx1,<-hi0_1,<-hr2];simp [recB],by rw [sumR_take hx1,<-hi0_2],by omega⟩,by first|omega|(simp;done)|(simp;omega),Weak.ren (fun k=>if k=2 then 7 else k) (by refine ⟨?_,?_,?_,?_,?_,?_,?_,trivial⟩<;>first|rfl|(simp only [mps];done)|(congr 3;omega)|(congr 4;omega)|(simp only [lns];rfl)|(first|exact look_i rfl (by omega)|exact look_s rfl (by simp only [List.length_append,List.length_take,List.length_drop,List.length_cons,List.length_nil];omega))) (by refine ⟨?_,?_,?_,trivial⟩<;>first|rfl|(simp only [mps];done)|(congr 3;omega)|(congr 4;omega)|(simp only [lns];rfl)) rfl⟩
 have hc2':=of_decide_eq_false hc2
 refine AC.exit ?_
 refine then_exit ?_
 refine then_exit ?_
 refine block_hit ?_
 refine then_ok ?_
 refine AC.go ttk 2 rfl ?_
 obtain ⟨r3,hr3⟩:∃ (r3:List Int),m++beR all 4=r3:=⟨_,rfl⟩
 have hlr3:r3.length=m.length+4:=by rw [<-hr3];simp [beR_len]
 refine AL.cn 5 [4,3,0] (g_callM (rhoOf [2]) (rhoOf [4]) (c_day_put m m.length all 4 (by first|omega|(simp;done)|(simp;omega)) (by first|omega|(simp;done)|(simp;omega)) (by first|omega|(simp;done)|(simp;omega)) r3 hr3) en109 rfl rfl ⟨⟨_,rfl,.inl ⟨rfl,rfl⟩⟩,⟨_,rfl,.inr (.c (.d _))⟩,⟨_,rfl,.inr (.c (.d _))⟩,trivial⟩ ⟨rfl,trivial⟩ rfl rfl rfl rfl rfl rfl trivial ⟨(fun _ _ _ _=>trivial),trivial⟩ rfl rfl rfl rfl) rfl ?_
 refine AL.runs ttk 3 rfl ?_
 refine AL.nx ?_
 refine AC.ret ?_
 have hX:bytesR l=(r3,(⟨0,0⟩:Fault)):=by
   have ht:r1.take q=r1:=List.take_of_length_le (by omega)
   rw [ht] at hi0_1 hi0_2
   unfold bytesR
   rw [if_pos hw,hr1,<-hi0_1,<-hi0_2]
   rw [hr3]
 rw [hX] at hr;clear hX
 simp only [Prod.mk.injEq] at hr;obtain ⟨rfl,rfl⟩:=hr
 refine retQ_go ttk [4,0] 1 rfl rfl rfl rfl rfl rfl ?_ ?_
 all_goals first|rfl|(simp [ufs];done)|(simp [ufs];omega)
end Go.Proofs.Ytegepioggeggaaa.Dev
namespace Go.Proofs.Ytegepioggeggaaa.Dev
open Go.RowKit

set_option maxRecDepth 100000 in
set_option maxHeartbeats 2000000 in
theorem c_fail (x:Nat->Value) (hx:∀ i,(x i).oneCell'=true) (e err:Int) (e2:Int) (hr:failK e err=e2):FnE Try.prog 87 [(.c (.p 0 0 0 0)),(.c (cI err))] [(0,(.box 147 ((rwL x).set 19 (cI e))))] [0] (.v (.c (cB (decide (¬e2=0))))) [(0,(.box 147 ((rwL x).set 19 (cI e2))))]:=by
 refine FnE.mk 19 [(0,(aC (.p 0 0 0 0))),(1,(aI err))] 1 Try.func87 rfl rfl rfl rfl rfl rfl rfl rfl rfl ?_
 intro W0 F0 T0 pg
 refine AC.goes ttk 1 rfl ?_
 refine AC.seq ?_
 refine AC.goes ttk 5 rfl ?_
 refine AC.cond rfl (fun hc1=>?_) (fun hc1=>?_)
 ·
  have hc1':=of_decide_eq_true hc1
  refine AC.region ?_
  refine AL.runs ttk 5 rfl ?_
  refine AL.nx ?_
  refine AC.goes ttk 6 rfl ?_
  refine AC.ret ?_
  have hX:failK e err=err:=by
    (unfold failK;try dsimp only);(repeat' split)<;>first|rfl|omega|(exfalso;omega)|(subst_vars;rfl)|(simp_all;done)|(simp_all;omega)
  rw [hX] at hr;clear hX
  subst hr
  refine retQ_go ttk [0] 1 rfl rfl rfl rfl rfl rfl ?_ ?_
  all_goals first|rfl|(simp [ufs,bkL,rwL];done)|(simp [ufs,bkL,rwL];omega)
 have hc1':=of_decide_eq_false hc1
 refine AC.sk ?_
 refine AC.goes ttk 6 rfl ?_
 refine AC.ret ?_
 have hX:failK e err=e:=by
   (unfold failK;try dsimp only);(repeat' split)<;>first|rfl|omega|(exfalso;omega)|(subst_vars;rfl)|(simp_all;done)|(simp_all;omega)
 rw [hX] at hr;clear hX
 subst hr
 refine retQ_go ttk [0] 1 rfl rfl rfl rfl rfl rfl ?_ ?_
 all_goals first|rfl|(simp [ufs,bkL,rwL];done)|(simp [ufs,bkL,rwL];omega)
end Go.Proofs.Ytegepioggeggaaa.Dev
namespace Go.Proofs.Ytegepioggeggaaa.Dev
open Go.RowKit

set_option maxRecDepth 100000 in
set_option maxHeartbeats 2000000 in
theorem c_move (x:Nat->Value) (hx:∀ i,(x i).oneCell'=true) (l:List Entry) (e src dst n:Int) (l2:List Entry) (e2:Int) (hr:moveK l e src dst n=(l2,e2)):FnE Try.prog 76 [(.c (.p 0 0 0 0)),(.c (cI src)),(.c (cI dst)),(.c (cI n))] [(0,(.box 147 (((rwL x).set 18 (vlE l)).set 19 (cI e))))] [0] (.t []) [(0,(.box 147 (((rwL x).set 18 (vlE l2)).set 19 (cI e2))))]:=by
 refine FnE.mk 31 [(0,(aC (.p 0 0 0 0))),(1,(aI src)),(2,(aI dst)),(3,(aI n))] 1 Try.func76 rfl rfl rfl rfl rfl rfl rfl rfl rfl ?_
 intro W0 F0 T0 pg
 refine AC.go ttk 8 rfl ?_
 obtain ⟨r0,e0,hr0⟩:∃ (r0:List Entry) (e0:Int),moveB l src dst n=(r0,e0):=⟨_,_,rfl⟩
 refine AL.cn 1 [0] (g_call 1 (Fn.frozen (av':=(.t [(.c (vlE r0)),(.c (cI e0))])) (c_book_Move l src dst n r0 e0 hr0) ⟨.inr ⟨_,_,_,_,_,rfl,rfl,rfl,by simp⟩,.inl ⟨_,rfl,rfl⟩,trivial⟩) en98 rfl rfl ⟨⟨_,rfl,.c (.d _)⟩,⟨_,rfl,.c (.d _)⟩,⟨_,rfl,.c (.d _)⟩,⟨_,rfl,.c (.d _)⟩,trivial⟩ ⟨trivial,trivial,trivial⟩ trivial rfl rfl rfl rfl) rfl ?_
 refine AL.runs ttk 5 rfl ?_
 refine AL.nx ?_
 refine AC.go ttk 2 rfl ?_
 obtain ⟨e21,hr1⟩:∃ (e21:Int),failK e e0=e21:=⟨_,rfl⟩
 refine AL.cn 1 [0] (g_callR0 id id (ms:=(nmL.set 19 (some (cI e)))) (ms':=(nmL.set 19 (some (cI e21)))) (fun x hx=>c_fail x hx e e0 e21 hr1) en87 rfl rfl ⟨⟨_,rfl,.inl ⟨rfl,rfl⟩⟩,⟨_,rfl,.inr (.c (.d _))⟩,trivial⟩ rfl rfl rfl rfl rfl rfl rfl trivial rfl rfl rfl rfl rfl rfl rfl rfl rfl rfl rfl rfl rfl) rfl ?_
 refine AL.runs ttk 1 rfl ?_
 refine AL.nx ?_
 refine AC.cond rfl (fun hc1=>?_) (fun hc1=>?_)
 ·
  have hc1':=hc1;try simp only [sumB,dns] at hc1'
  refine AC.region ?_
  refine AL.runs ttk 6 rfl ?_
  refine AL.nil ?_
  have hX:moveK l e src dst n=(r0,e21):=by
    unfold moveK;simp only [hr0,hr1];(repeat' split)<;>first|rfl|omega|(exfalso;omega)|(simp_all;done)|(simp_all;omega)
  rw [hX] at hr;clear hX
  simp only [Prod.mk.injEq] at hr;obtain ⟨rfl,rfl⟩:=hr
  refine retQ_gon ttk [0] 1 rfl rfl rfl rfl rfl rfl ?_ ?_
  all_goals first|rfl|(simp [ufs,bkL,rwL];done)|(simp [ufs,bkL,rwL];omega)
 have hc1':=hc1;try simp only [sumB,dns] at hc1'
 refine AC.skip ?_
 have hX:moveK l e src dst n=(l,e21):=by
   unfold moveK;simp only [hr0,hr1];(repeat' split)<;>first|rfl|omega|(exfalso;omega)|(simp_all;done)|(simp_all;omega)
 rw [hX] at hr;clear hX
 simp only [Prod.mk.injEq] at hr;obtain ⟨rfl,rfl⟩:=hr
 refine retQ_gon ttk [0] 1 rfl rfl rfl rfl rfl rfl ?_ ?_
 all_goals first|rfl|(simp [ufs,bkL,rwL];done)|(simp [ufs,bkL,rwL];omega)
set_option maxRecDepth 100000 in
set_option maxHeartbeats 2000000 in
theorem c_shift (x:Nat->Value) (hx:∀ i,(x i).oneCell'=true) (l:List Card) (e k held money:Int) (hk:0<=k/\k < l.length) (l2:List Card) (e2:Int) (hr:shiftK l e k held money=(l2,e2)):FnE Try.prog 75 [(.c (.p 0 0 0 0)),(.c (cI k)),(.c (cI held)),(.c (cI money))] [(0,(.box 147 (((rwL x).set 2 (.s 1 0 6 l.length)).set 19 (cI e)))),(1,(alC l))] [0] (.t []) [(0,(.box 147 (((rwL x).set 2 (.s 1 0 6 l2.length)).set 19 (cI e2)))),(1,(alC l2))]:=by
 refine FnE.mk 36 [(0,(aC (.p 0 0 0 0))),(1,(aI k)),(2,(aI held)),(3,(aI money))] 2 Try.func75 rfl rfl rfl rfl rfl rfl rfl rfl rfl ?_
 intro W0 F0 T0 pg
 refine AC.go ttk 6 rfl ?_
 refine AL.vl (g_indexP0 (i:=Int.toNat (k)) rfl rfl rfl Try.underlying29 sz61 (by first|omega|(simp;done)|(simp;omega)) (by first|omega|(simp;done)|(simp;omega))) rfl ?_
 obtain ⟨x1,hx1⟩:=exget (xs:=l) (i:=Int.toNat (k)) (by first|omega|(simp;done)|(simp;omega))
 refine AL.vl (g_loadAs rfl rfl rfl Try.underlying61 rfl sz61 (getmap hx1) rfl) rfl ?_
 refine AL.runs ttk 2 rfl ?_
 obtain ⟨xr0,e0,hr0⟩:∃ (xr0:Card) (e0:Int),shiftC x1 held money=(xr0,e0):=⟨_,_,rfl⟩
 refine AL.cn 2 [0,1] (g_call 2 (Fn.frozen (av':=(.t [(.g [(cI xr0.money),(cI xr0.held),(cI xr0.pace.ticks),(cI xr0.pace.count),(cI xr0.pace.sum),(vlU xr0.uses)]),(.c (cI e0))])) (c_card_Shift x1 held money xr0 e0 hr0) ⟨⟨.inl ⟨_,rfl,rfl⟩,.inl ⟨_,rfl,rfl⟩,.inl ⟨_,rfl,rfl⟩,.inl ⟨_,rfl,rfl⟩,.inl ⟨_,rfl,rfl⟩,.inr ⟨_,_,_,_,_,rfl,rfl,rfl,by simp⟩,trivial⟩,.inl ⟨_,rfl,rfl⟩,trivial⟩) en97 rfl rfl ⟨⟨_,rfl,.g ⟨.d _,.d _,.d _,.d _,.d _,.d _,trivial⟩⟩,⟨_,rfl,.c (.d _)⟩,⟨_,rfl,.c (.d _)⟩,trivial⟩ ⟨⟨trivial,trivial,trivial,trivial,trivial,trivial,trivial⟩,trivial,trivial⟩ trivial rfl rfl rfl rfl) rfl ?_
 refine AL.runs ttk 6 rfl ?_
 refine AL.nx ?_
 refine AC.go ttk 2 rfl ?_
 obtain ⟨e21,hr1⟩:∃ (e21:Int),failK e e0=e21:=⟨_,rfl⟩
 refine AL.cn 3 [0,2,1] (g_callR0 id id (ms:=(nmL.set 19 (some (cI e)))) (ms':=(nmL.set 19 (some (cI e21)))) (fun x hx=>c_fail x hx e e0 e21 hr1) en87 rfl rfl ⟨⟨_,rfl,.inl ⟨rfl,rfl⟩⟩,⟨_,rfl,.inr (.c (.d _))⟩,trivial⟩ rfl rfl rfl rfl rfl rfl rfl trivial rfl rfl rfl rfl rfl rfl rfl rfl rfl rfl rfl rfl rfl) rfl ?_
 refine AL.runs ttk 1 rfl ?_
 refine AL.nx ?_
 refine AC.cond rfl (fun hc1=>?_) (fun hc1=>?_)
 ·
  have hc1':=hc1;try simp only [sumB,dns] at hc1'
  refine AC.drawP [0,1,8] [0,2,1] mixed rfl rfl ?_
  refine PD.runs (kn:=[]) ttk 7 rfl trivial ?_
  refine PD.op (n':=3) [32,33] [1] rfl rfl (.inl ⟨(Wanted.plain rfl),GOp.cast (g_indexP0 (i:=Int.toNat (k)) rfl rfl rfl Try.underlying29 sz61 (by first|omega|(simp;done)|(simp;omega)) (by first|omega|(simp;done)|(simp;omega))) rfl⟩) rfl ?_
  refine PD.fin [0,2,1] rfl rfl rfl rfl (by kernel_rfl) ?_
  refine AL.so [0,2,1] (g_storeA (ds:=[(dI xr0.money),(dI xr0.held),(dI xr0.pace.ticks),(dI xr0.pace.count),(dI xr0.pace.sum),(dlU xr0.uses)]) rfl rfl rfl rfl rfl sz61 rfl (Nat.le_of_ble_eq_true rfl) (getmap hx1) rfl (setmap (x':=xr0) rfl)) rfl ?_
  refine AL.nil ?_
  have hX:shiftK l e k held money=((l).set (Int.toNat (k)) xr0,e21):=by
    rw [shiftK_at hx1];simp only [hr0,hr1];(repeat' split)<;>first|rfl|omega|(exfalso;omega)|(simp_all;done)|(simp_all;omega)
  rw [hX] at hr;clear hX
  simp only [Prod.mk.injEq] at hr;obtain ⟨rfl,rfl⟩:=hr
  refine retQ_gon ttk [0,1] 2 rfl rfl rfl rfl rfl rfl ?_ ?_
  all_goals first|rfl|(simp [ufs,bkL,rwL];done)|(simp [ufs,bkL,rwL];omega)
 have hc1':=hc1;try simp only [sumB,dns] at hc1'
 refine AC.skip ?_
 have hX:shiftK l e k held money=(l,e21):=by
   rw [shiftK_at hx1];simp only [hr0,hr1];(repeat' split)<;>first|rfl|omega|(exfalso;omega)|(simp_all;done)|(simp_all;omega)
 rw [hX] at hr;clear hX
 simp only [Prod.mk.injEq] at hr;obtain ⟨rfl,rfl⟩:=hr
 refine retQ_gon ttk [0,1] 2 rfl rfl rfl rfl rfl rfl ?_ ?_
 all_goals first|rfl|(simp [ufs,bkL,rwL];done)|(simp [ufs,bkL,rwL];omega)
set_option maxRecDepth 100000 in
set_option maxHeartbeats 2000000 in
theorem c_note (x:Nat->Value) (hx:∀ i,(x i).oneCell'=true) (l:List Record) (e:Int) (r:Record) (hl:l.length<=100) (l2:List Record) (e2:Int) (hr:noteK l e r=(l2,e2)):FnE Try.prog 83 [(.c (.p 0 0 0 0)),(.g [(cI r.shop),(cI r.auth),(cI r.kind),(cI r.sum)])] [(0,(.box 147 (((rwL x).set 16 (.s 1 0 4 l.length)).set 19 (cI e)))),(1,(alR l))] [0] (.t []) [(0,(.box 147 (((rwL x).set 16 (.s 1 0 4 l2.length)).set 19 (cI e2)))),(1,(alR l2))]:=by
 refine FnE.mk 25 [(0,(aC (.p 0 0 0 0))),(1,(aG [(cI r.shop),(cI r.auth),(cI r.kind),(cI r.sum)]))] 2 Try.func83 rfl rfl rfl rfl rfl rfl rfl rfl rfl ?_
 intro W0 F0 T0 pg
 refine AC.goes ttk 1 rfl ?_
 refine AC.seq ?_
 refine AC.go ttk 5 rfl ?_
 refine AL.vl (g_lenS rfl rfl rfl rfl rfl Try.underlying42) rfl ?_
 refine AL.runs ttk 1 rfl ?_
 refine AL.nx ?_
 refine AC.cond rfl (fun hc1=>?_) (fun hc1=>?_)
 ·
  have hc1':=of_decide_eq_true hc1
  refine AC.go ttk 1 rfl ?_
  obtain ⟨e20,hr0⟩:∃ (e20:Int),failK e 5=e20:=⟨_,rfl⟩
  refine AL.cn 3 [0,2,1] (g_callR0 id id (ms:=(nmL.set 19 (some (cI e)))) (ms':=(nmL.set 19 (some (cI e20)))) (fun x hx=>c_fail x hx e 5 e20 hr0) en87 rfl rfl ⟨⟨_,rfl,.inl ⟨rfl,rfl⟩⟩,⟨_,rfl,.inr (.c (.d _))⟩,trivial⟩ rfl rfl rfl rfl rfl rfl rfl trivial rfl rfl rfl rfl rfl rfl rfl rfl rfl rfl rfl rfl rfl) rfl ?_
  refine AL.nx ?_
  refine AC.ret ?_
  refine then_ret ?_
  have hX:noteK l e r=(l,e20):=by
    unfold noteK;first|(rw [if_pos (by omega),hr0];done)|(rw [if_neg (by omega)];done)
  rw [hX] at hr;clear hX
  simp only [Prod.mk.injEq] at hr;obtain ⟨rfl,rfl⟩:=hr
  refine retQ_go ttk [0,1] 2 rfl rfl rfl rfl rfl rfl ?_ ?_
  all_goals first|rfl|(simp [ufs,bkL,rwL];done)|(simp [ufs,bkL,rwL];omega)
 have hc1':=of_decide_eq_false hc1
 refine AC.sk ?_
 refine AC.drawP [0,3] [2,0,1] mixed rfl rfl ?_
 refine PD.runs (kn:=[]) ttk 7 rfl trivial ?_
 refine PD.op (n':=4) [19] [] rfl rfl (.inl ⟨(Wanted.plain rfl),GOp.cast (g_lit (ys:=[(0,(.g [(cI r.shop),(cI r.auth),(cI r.kind),(cI r.sum)]))]) (rows:=([r]).map rRecord) 3 sl42 rfl (by decide) ⟨⟨rfl,rfl⟩,trivial⟩ rfl rfl rfl rfl) rfl⟩) rfl ?_
 refine PD.op (n':=5) [18,20] [3,1] rfl rfl (.inl ⟨(Wanted.plain rfl),GOp.cast (g_append (m:=1) (N:=l.length+1) (k2:=4) (ys:=([r]).map rRecord) sl42 rfl rfl rfl rfl rfl rfl (by first|omega|(simp;done)|(simp;omega)) rfl (.s rfl (by first|omega|(simp;done)|(simp;omega))) (by first|omega|(simp;done)|(simp;omega)) (by first|omega|(simp;done)|(simp;omega)) appmap (by decide) (by first|omega|(simp;done)|(simp;omega)) (by first|omega|(simp;done)|(simp;omega))) rfl⟩) rfl ?_
 refine PD.runs (kn:=[]) ttk 3 rfl trivial ?_
 refine PD.fin [4,2,0] rfl rfl rfl rfl (by kernel_rfl) ?_
 refine AL.runs ttk 1 rfl ?_
 refine AL.nil ?_
 have hX:noteK l e r=(l++([r]),e):=by
   unfold noteK;first|(rw [if_pos (by omega),hr0];done)|(rw [if_neg (by omega)];done)
 rw [hX] at hr;clear hX
 simp only [Prod.mk.injEq] at hr;obtain ⟨rfl,rfl⟩:=hr
 refine retQ_gon ttk [0,4] 2 rfl rfl rfl rfl rfl rfl ?_ ?_
 all_goals first|rfl|(simp [ufs,bkL,rwL];done)|(simp [ufs,bkL,rwL];omega)
end Go.Proofs.Ytegepioggeggaaa.Dev
namespace Go.Proofs.Ytegepioggeggaaa.Dev
open Go.RowKit

set_option maxRecDepth 100000 in
set_option maxHeartbeats 2000000 in
theorem c_send0 (x:Nat->Value) (hx:∀ i,(x i).oneCell'=true) (s:Sender) (e:Int) (t:Transfer) (hI:∀ t∈s.kept,InI t.number) (s2:Sender) (e2:Int) (hr:sendK s e t=(s2,e2)):FnE Try.prog 82 [(.c (.p 0 0 0 0)),(.c (cI 0)),(.g [(cI t.number),(cI t.kind),(cI t.auth),(cI t.sum)])] [(0,(.box 147 ((((rwL x).set 5 (cI s.sent)).set 6 (vlT s.kept)).set 19 (cI e))))] [0] (.t []) [(0,(.box 147 ((((rwL x).set 5 (cI s2.sent)).set 6 (vlT s2.kept)).set 19 (cI e2))))]:=by
 refine FnE.mk 31 [(0,(aC (.p 0 0 0 0))),(1,(aI 0)),(2,(aG [(cI t.number),(cI t.kind),(cI t.auth),(cI t.sum)]))] 1 Try.func82 rfl rfl rfl rfl rfl rfl rfl rfl rfl ?_
 intro W0 F0 T0 pg
 refine AC.goes ttk 1 rfl ?_
 refine AC.seq ?_
 obtain ⟨xr0,e0,hr0⟩:∃ (xr0:Sender) (e0:Int),putS s t=(xr0,e0):=⟨_,_,rfl⟩
 refine AC.drawQ [0,1,5] [1,0] mixed rfl rfl ?_
 refine PW.runs (kn:=[]) ttk 5 rfl trivial ?_
 refine PW.op (n':=2) [13,10] [0] rfl rfl (.inl ⟨(Wanted.plain rfl),GOp.cast (g_indexB (i:=0) rfl rfl rfl Try.underlying35 sz34 rfl (by decide)) rfl⟩) rfl ?_
 refine PW.runs (kn:=[]) ttk 2 rfl trivial ?_
 refine PW.op (n':=2) [15,16] [] rfl rfl (.inl ⟨(Wanted.plain rfl),GOp.cast (g_call 2 (Fn.frozen (av':=(.t [(.g [(cI xr0.sent),(vlT xr0.kept)]),(.c (cI e0))])) (c_post_Put s t (by first|assumption|exact inI_out (by assumption) (by omega)|exact inI_back (by assumption) (by assumption)|(simp [InI];done)) xr0 e0 hr0) ⟨⟨.inl ⟨_,rfl,rfl⟩,.inr ⟨_,_,_,_,_,rfl,rfl,rfl,by simp⟩,trivial⟩,.inl ⟨_,rfl,rfl⟩,trivial⟩) en103 rfl rfl ⟨⟨_,rfl,.g ⟨.d _,.d _,trivial⟩⟩,⟨_,rfl,.g ⟨.d _,.d _,.d _,.d _,trivial⟩⟩,trivial⟩ ⟨⟨trivial,trivial,trivial⟩,trivial,trivial⟩ trivial rfl rfl rfl rfl) rfl⟩) rfl ?_
 refine PW.runs (n':=3) (kn:=[]) ttk 6 rfl trivial ?_
 refine PW.fin [0,1,6,7] [2,0] rfl rfl (by kernel_rfl) ?_
 refine then_ok ?_
 refine AC.go ttk 2 rfl ?_
 obtain ⟨e21,hr1⟩:∃ (e21:Int),failK e e0=e21:=⟨_,rfl⟩
 refine AL.cn 3 [0,2] (g_callR0 id id (ms:=(nmL.set 19 (some (cI e)))) (ms':=(nmL.set 19 (some (cI e21)))) (fun x hx=>c_fail x hx e e0 e21 hr1) en87 rfl rfl ⟨⟨_,rfl,.inl ⟨rfl,rfl⟩⟩,⟨_,rfl,.inr (.c (.d _))⟩,trivial⟩ rfl rfl rfl rfl rfl rfl rfl trivial rfl rfl rfl rfl rfl rfl rfl rfl rfl rfl rfl rfl rfl) rfl ?_
 refine AL.runs ttk 1 rfl ?_
 refine AL.nx ?_
 refine AC.cond rfl (fun hc1=>?_) (fun hc1=>?_)
 ·
  have hc1':=hc1;try simp only [sumB,dns] at hc1'
  refine AC.drawP [0,1,6] [0,2] mixed rfl rfl ?_
  refine PD.runs (kn:=[]) ttk 6 rfl trivial ?_
  refine PD.op (n':=3) [29,25] [0] rfl rfl (.inl ⟨(Wanted.plain rfl),GOp.cast (g_indexB (i:=0) rfl rfl rfl Try.underlying35 sz34 rfl (by decide)) rfl⟩) rfl ?_
  refine PD.fin [0,2] rfl rfl rfl rfl (by kernel_rfl) ?_
  refine AL.runs ttk 1 rfl ?_
  refine AL.nil ?_
  have hX:sendK s e t=(xr0,e21):=by
    unfold sendK;simp only [hr0,hr1];(repeat' split)<;>first|rfl|omega|(exfalso;omega)|(simp_all;done)|(simp_all;omega)
  rw [hX] at hr;clear hX
  simp only [Prod.mk.injEq] at hr;obtain ⟨rfl,rfl⟩:=hr
  refine retQ_gon ttk [0] 1 rfl rfl rfl rfl rfl rfl ?_ ?_
  all_goals first|rfl|(simp [ufs,bkL,rwL];done)|(simp [ufs,bkL,rwL];omega)
 have hc1':=hc1;try simp only [sumB,dns] at hc1'
 refine AC.skip ?_
 have hX:sendK s e t=(s,e21):=by
   unfold sendK;simp only [hr0,hr1];(repeat' split)<;>first|rfl|omega|(exfalso;omega)|(simp_all;done)|(simp_all;omega)
 rw [hX] at hr;clear hX
 simp only [Prod.mk.injEq] at hr;obtain ⟨rfl,rfl⟩:=hr
 refine retQ_gon ttk [0] 1 rfl rfl rfl rfl rfl rfl ?_ ?_
 all_goals first|rfl|(simp [ufs,bkL,rwL];done)|(simp [ufs,bkL,rwL];omega)
set_option maxRecDepth 100000 in
set_option maxHeartbeats 2000000 in
theorem c_send1 (x:Nat->Value) (hx:∀ i,(x i).oneCell'=true) (s:Sender) (e:Int) (t:Transfer) (hI:∀ t∈s.kept,InI t.number) (s2:Sender) (e2:Int) (hr:sendK s e t=(s2,e2)):FnE Try.prog 82 [(.c (.p 0 0 0 0)),(.c (cI 1)),(.g [(cI t.number),(cI t.kind),(cI t.auth),(cI t.sum)])] [(0,(.box 147 ((((rwL x).set 7 (cI s.sent)).set 8 (vlT s.kept)).set 19 (cI e))))] [0] (.t []) [(0,(.box 147 ((((rwL x).set 7 (cI s2.sent)).set 8 (vlT s2.kept)).set 19 (cI e2))))]:=by
 refine FnE.mk 31 [(0,(aC (.p 0 0 0 0))),(1,(aI 1)),(2,(aG [(cI t.number),(cI t.kind),(cI t.auth),(cI t.sum)]))] 1 Try.func82 rfl rfl rfl rfl rfl rfl rfl rfl rfl ?_
 intro W0 F0 T0 pg
 refine AC.goes ttk 1 rfl ?_
 refine AC.seq ?_
 obtain ⟨xr0,e0,hr0⟩:∃ (xr0:Sender) (e0:Int),putS s t=(xr0,e0):=⟨_,_,rfl⟩
 refine AC.drawQ [0,1,5] [1,0] mixed rfl rfl ?_
 refine PW.runs (kn:=[]) ttk 5 rfl trivial ?_
 refine PW.op (n':=2) [13,10] [0] rfl rfl (.inl ⟨(Wanted.plain rfl),GOp.cast (g_indexB (i:=1) rfl rfl rfl Try.underlying35 sz34 rfl (by decide)) rfl⟩) rfl ?_
 refine PW.runs (kn:=[]) ttk 2 rfl trivial ?_
 refine PW.op (n':=2) [15,16] [] rfl rfl (.inl ⟨(Wanted.plain rfl),GOp.cast (g_call 2 (Fn.frozen (av':=(.t [(.g [(cI xr0.sent),(vlT xr0.kept)]),(.c (cI e0))])) (c_post_Put s t (by first|assumption|exact inI_out (by assumption) (by omega)|exact inI_back (by assumption) (by assumption)|(simp [InI];done)) xr0 e0 hr0) ⟨⟨.inl ⟨_,rfl,rfl⟩,.inr ⟨_,_,_,_,_,rfl,rfl,rfl,by simp⟩,trivial⟩,.inl ⟨_,rfl,rfl⟩,trivial⟩) en103 rfl rfl ⟨⟨_,rfl,.g ⟨.d _,.d _,trivial⟩⟩,⟨_,rfl,.g ⟨.d _,.d _,.d _,.d _,trivial⟩⟩,trivial⟩ ⟨⟨trivial,trivial,trivial⟩,trivial,trivial⟩ trivial rfl rfl rfl rfl) rfl⟩) rfl ?_
 refine PW.runs (n':=3) (kn:=[]) ttk 6 rfl trivial ?_
 refine PW.fin [0,1,6,7] [2,0] rfl rfl (by kernel_rfl) ?_
 refine then_ok ?_
 refine AC.go ttk 2 rfl ?_
 obtain ⟨e21,hr1⟩:∃ (e21:Int),failK e e0=e21:=⟨_,rfl⟩
 refine AL.cn 3 [0,2] (g_callR0 id id (ms:=(nmL.set 19 (some (cI e)))) (ms':=(nmL.set 19 (some (cI e21)))) (fun x hx=>c_fail x hx e e0 e21 hr1) en87 rfl rfl ⟨⟨_,rfl,.inl ⟨rfl,rfl⟩⟩,⟨_,rfl,.inr (.c (.d _))⟩,trivial⟩ rfl rfl rfl rfl rfl rfl rfl trivial rfl rfl rfl rfl rfl rfl rfl rfl rfl rfl rfl rfl rfl) rfl ?_
 refine AL.runs ttk 1 rfl ?_
 refine AL.nx ?_
 refine AC.cond rfl (fun hc1=>?_) (fun hc1=>?_)
 ·
  have hc1':=hc1;try simp only [sumB,dns] at hc1'
  refine AC.drawP [0,1,6] [0,2] mixed rfl rfl ?_
  refine PD.runs (kn:=[]) ttk 6 rfl trivial ?_
  refine PD.op (n':=3) [29,25] [0] rfl rfl (.inl ⟨(Wanted.plain rfl),GOp.cast (g_indexB (i:=1) rfl rfl rfl Try.underlying35 sz34 rfl (by decide)) rfl⟩) rfl ?_
  refine PD.fin [0,2] rfl rfl rfl rfl (by kernel_rfl) ?_
  refine AL.runs ttk 1 rfl ?_
  refine AL.nil ?_
  have hX:sendK s e t=(xr0,e21):=by
    unfold sendK;simp only [hr0,hr1];(repeat' split)<;>first|rfl|omega|(exfalso;omega)|(simp_all;done)|(simp_all;omega)
  rw [hX] at hr;clear hX
  simp only [Prod.mk.injEq] at hr;obtain ⟨rfl,rfl⟩:=hr
  refine retQ_gon ttk [0] 1 rfl rfl rfl rfl rfl rfl ?_ ?_
  all_goals first|rfl|(simp [ufs,bkL,rwL];done)|(simp [ufs,bkL,rwL];omega)
 have hc1':=hc1;try simp only [sumB,dns] at hc1'
 refine AC.skip ?_
 have hX:sendK s e t=(s,e21):=by
   unfold sendK;simp only [hr0,hr1];(repeat' split)<;>first|rfl|omega|(exfalso;omega)|(simp_all;done)|(simp_all;omega)
 rw [hX] at hr;clear hX
 simp only [Prod.mk.injEq] at hr;obtain ⟨rfl,rfl⟩:=hr
 refine retQ_gon ttk [0] 1 rfl rfl rfl rfl rfl rfl ?_ ?_
 all_goals first|rfl|(simp [ufs,bkL,rwL];done)|(simp [ufs,bkL,rwL];omega)
set_option maxRecDepth 100000 in
set_option maxHeartbeats 2000000 in
theorem c_take (x:Nat->Value) (hx:∀ i,(x i).oneCell'=true) (auths:List Auth) (due:List Int) (cards:List Card) (book:List Entry) (e:Int) (t:Transfer) (ht:0<=t.auth/\t.auth < auths.length) (hA:∀ a∈auths,0<=a.card/\a.card < cards.length/\0<=a.shop/\a.shop < due.length) (hc:cards.length<=8) (hd:due.length<=8) (due2:List Int) (cards2:List Card) (book2:List Entry) (e2:Int) (hr:takeK auths due cards book e t=(due2,cards2,book2,e2)):FnE Try.prog 89 [(.c (.p 0 0 0 0)),(.g [(cI t.number),(cI t.kind),(cI t.auth),(cI t.sum)])] [(0,(.box 147 ((((((rwL x).set 2 (.s 1 0 6 cards.length)).set 3 (.s 2 0 1 due.length)).set 4 (.s 3 0 8 auths.length)).set 18 (vlE book)).set 19 (cI e)))),(1,(alC cards)),(2,(alI due)),(3,(alP auths))] [0] (.t []) [(0,(.box 147 ((((((rwL x).set 2 (.s 1 0 6 cards2.length)).set 3 (.s 2 0 1 due2.length)).set 4 (.s 3 0 8 auths.length)).set 18 (vlE book2)).set 19 (cI e2)))),(1,(alC cards2)),(2,(alI due2)),(3,(alP auths))]:=by
 refine FnE.mk 77 [(0,(aC (.p 0 0 0 0))),(1,(aG [(cI t.number),(cI t.kind),(cI t.auth),(cI t.sum)]))] 4 Try.func89 rfl rfl rfl rfl rfl rfl rfl rfl rfl ?_
 intro W0 F0 T0 pg
 refine AC.goes ttk 1 rfl ?_
 refine AC.seq ?_
 obtain ⟨x1,hx1⟩:=exget (xs:=auths) (i:=Int.toNat (t.auth)) (by first|omega|(simp;done)|(simp;omega))
 have hx1A:=hA x1 (List.mem_of_getElem? hx1)
 refine AC.drawP [0,3] [4,0,1,2,3] mixed rfl rfl ?_
 refine PD.runs (kn:=[]) ttk 7 rfl trivial ?_
 refine PD.op (n':=5) [11,13] [3] rfl rfl (.inl ⟨(Wanted.plain rfl),GOp.cast (g_indexP0 (i:=Int.toNat (t.auth)) rfl rfl rfl Try.underlying31 sz67 (by first|omega|(simp;done)|(simp;omega)) (by first|omega|(simp;done)|(simp;omega))) rfl⟩) rfl ?_
 refine PD.op (n':=5) [14] [3] rfl rfl (.inl ⟨(Wanted.plain rfl),GOp.cast (g_loadAs rfl rfl rfl Try.underlying67 rfl sz67 (getmap hx1) rfl) rfl⟩) rfl ?_
 refine PD.runs (n':=6) (kn:=[]) ttk 1 rfl trivial ?_
 refine PD.fin [5,4,0,1,2,3] rfl rfl rfl rfl (by kernel_rfl) ?_
 refine AL.runs ttk 1 rfl ?_
 refine AL.nx ?_
 refine AC.seq ?_
 refine AC.drawP [0,3,4] [5,4,0,1,2,3] mixed rfl rfl ?_
 refine PD.runs (kn:=[]) ttk 2 rfl trivial ?_
 refine PD.op (n':=6) [17] [] rfl rfl (.inl ⟨(Wanted.plain rfl),GOp.cast (g_binI rfl rfl rfl (wrap_ok (by first|omega|(simp;done)|(simp;omega)))) rfl⟩) rfl ?_
 refine PD.runs (kn:=[]) ttk 2 rfl trivial ?_
 refine PD.op (n':=6) [20] [] rfl rfl (.inl ⟨(Wanted.plain rfl),GOp.cast (g_binI rfl rfl rfl (wrap_ok (by first|omega|(simp;done)|(simp;omega)))) rfl⟩) rfl ?_
 refine PD.runs (kn:=[]) ttk 2 rfl trivial ?_
 refine PD.fin [5,4,0,1,2,3] rfl rfl rfl rfl (by kernel_rfl) ?_
 refine AL.nx ?_
 refine AC.goes ttk 2 rfl ?_
 refine AC.block ?_
 refine AC.goes ttk 2 rfl ?_
 refine AC.cond rfl (fun hc1=>?_) (fun hc1=>?_)
 ·
  have hc1':=of_decide_eq_true hc1
  refine AC.seq ?_
  obtain ⟨x2,hx2⟩:=exget (xs:=due) (i:=Int.toNat (x1.shop)) (by first|omega|(simp;done)|(simp;omega))
  refine AC.drawP [0,3,4,5] [5,4,0,1,2,3] mixed rfl rfl ?_
  refine PD.runs (kn:=[]) ttk 7 rfl trivial ?_
  refine PD.op (n':=6) [30,32] [2] rfl rfl (.inl ⟨(Wanted.plain rfl),GOp.cast (g_indexP0 (i:=Int.toNat (x1.shop)) rfl rfl rfl Try.underlying30 sz3 (by first|omega|(simp;done)|(simp;omega)) (by first|omega|(simp;done)|(simp;omega))) rfl⟩) rfl ?_
  refine PD.op (n':=6) [33] [2] rfl rfl (.inl ⟨(Wanted.plain rfl),GOp.cast (g_loadA rfl rfl rfl Try.underlying3 rfl (getmap hx2) rfl) rfl⟩) rfl ?_
  refine PD.runs (kn:=[]) ttk 3 rfl trivial ?_
  refine PD.op (n':=6) [30,32] [2] rfl rfl (.inl ⟨(Wanted.plain rfl),GOp.cast (g_indexP0 (i:=Int.toNat (x1.shop)) rfl rfl rfl Try.underlying30 sz3 (by first|omega|(simp;done)|(simp;omega)) (by first|omega|(simp;done)|(simp;omega))) rfl⟩) rfl ?_
  refine PD.fin [5,4,0,1,2,3] rfl rfl rfl rfl (by kernel_rfl) ?_
  refine AL.so [5,4,0,1,2,3] (g_storeA (ds:=[(dI (IntKind.i64.wrap (x2+t.sum)))]) rfl rfl rfl rfl rfl sz3 rfl (Nat.le_of_ble_eq_true rfl) (getmap hx2) rfl (setmap (x':=(IntKind.i64.wrap (x2+t.sum))) rfl)) rfl ?_
  refine AL.nx ?_
  refine AC.recell (k:=0) (q:=3) (c':=(.s 2 0 1 (((due).set (Int.toNat (x1.shop)) (IntKind.i64.wrap (x2+t.sum))).length))) rfl rfl (by first|rfl|(simp;done)|(congr 1;omega)) rfl ?_
  refine AC.region ?_
  refine AL.runs ttk 4 rfl ?_
  obtain ⟨l20,e20,hr0⟩:∃ (l20:List Entry) (e20:Int),moveK book e 1 (50+x1.shop) t.sum=(l20,e20):=⟨_,_,rfl⟩
  refine AL.cn 6 [0,5,4,1,2,3] (g_callR0 id id (ms:=((nmL.set 18 (some (vlE book))).set 19 (some (cI e)))) (ms':=((nmL.set 18 (some (vlE l20))).set 19 (some (cI e20)))) (fun x hx=>c_move x hx book e 1 (50+x1.shop) t.sum l20 e20 hr0) en76 rfl rfl ⟨⟨_,rfl,.inl ⟨rfl,rfl⟩⟩,⟨_,rfl,.inr (.c (.d _))⟩,⟨_,rfl,.inr (.c (.d _))⟩,⟨_,rfl,.inr (.c (.d _))⟩,trivial⟩ rfl rfl rfl rfl rfl rfl rfl trivial rfl rfl rfl rfl rfl rfl rfl rfl rfl rfl rfl rfl rfl) rfl ?_
  refine AL.nil ?_
  refine block_ok ?_
  have hX:takeK auths due cards book e t=((due).set (Int.toNat (x1.shop)) (IntKind.i64.wrap (x2+t.sum)),cards,l20,e20):=by
    unfold takeK;rw [hx1];dsimp only;simp only [List.getD_eq_getElem?_getD,hx2,Option.getD_some,hr0];(repeat' split)<;>first|rfl|omega|(exfalso;omega)|(simp_all;done)|(simp_all;omega)
  rw [hX] at hr;clear hX
  simp only [Prod.mk.injEq] at hr;obtain ⟨rfl,rfl,rfl,rfl⟩:=hr
  refine retQ_gon ttk [0,1,2,3] 4 rfl rfl rfl rfl rfl rfl ?_ ?_
  all_goals first|rfl|(simp [ufs,bkL,rwL];done)|(simp [ufs,bkL,rwL];omega)
 have hc1':=of_decide_eq_false hc1
 refine AC.goes ttk 2 rfl ?_
 refine AC.cond rfl (fun hc2=>?_) (fun hc2=>?_)
 ·
  have hc2':=of_decide_eq_true hc2
  refine AC.go ttk 5 rfl ?_
  obtain ⟨l21,e21,hr1⟩:∃ (l21:List Card) (e21:Int),shiftK cards e x1.card 0 t.sum=(l21,e21):=⟨_,_,rfl⟩
  refine AL.cn 7 [0,6,5,4,2,3] (g_callR0 id (rhoOf [0,6]) (ms:=((nmL.set 2 (some (.s 1 0 6 cards.length))).set 19 (some (cI e)))) (ms':=((nmL.set 2 (some (.s 1 0 6 l21.length))).set 19 (some (cI e21)))) (fun x hx=>c_shift x hx cards e x1.card 0 t.sum (by first|omega|(simp;done)|(simp;omega)) l21 e21 hr1) en75 rfl rfl ⟨⟨_,rfl,.inl ⟨rfl,rfl⟩⟩,⟨_,rfl,.inr (.c (.d _))⟩,⟨_,rfl,.inr (.c (.d _))⟩,⟨_,rfl,.inr (.c (.d _))⟩,trivial⟩ rfl rfl rfl rfl rfl rfl rfl ⟨rfl,trivial⟩ rfl rfl rfl rfl rfl rfl rfl rfl rfl rfl rfl rfl rfl) rfl ?_
  refine AL.nx ?_
  refine AC.region ?_
  refine AL.runs ttk 4 rfl ?_
  obtain ⟨l22,e22,hr2⟩:∃ (l22:List Entry) (e22:Int),moveK book e21 1 (10+x1.card) t.sum=(l22,e22):=⟨_,_,rfl⟩
  refine AL.cn 7 [0,6,5,4,2,3] (g_callR0 id id (ms:=((nmL.set 18 (some (vlE book))).set 19 (some (cI e21)))) (ms':=((nmL.set 18 (some (vlE l22))).set 19 (some (cI e22)))) (fun x hx=>c_move x hx book e21 1 (10+x1.card) t.sum l22 e22 hr2) en76 rfl rfl ⟨⟨_,rfl,.inl ⟨rfl,rfl⟩⟩,⟨_,rfl,.inr (.c (.d _))⟩,⟨_,rfl,.inr (.c (.d _))⟩,⟨_,rfl,.inr (.c (.d _))⟩,trivial⟩ rfl rfl rfl rfl rfl rfl rfl trivial rfl rfl rfl rfl rfl rfl rfl rfl rfl rfl rfl rfl rfl) rfl ?_
  refine AL.nil ?_
  refine block_ok ?_
  have hX:takeK auths due cards book e t=(due,l21,l22,e22):=by
    unfold takeK;rw [hx1];dsimp only;simp only [List.getD_eq_getElem?_getD,Option.getD_some,hr1,hr2];(repeat' split)<;>first|rfl|omega|(exfalso;omega)|(simp_all;done)|(simp_all;omega)
  rw [hX] at hr;clear hX
  simp only [Prod.mk.injEq] at hr;obtain ⟨rfl,rfl,rfl,rfl⟩:=hr
  refine retQ_gon ttk [0,6,2,3] 4 rfl rfl rfl rfl rfl rfl ?_ ?_
  all_goals first|rfl|(simp [ufs,bkL,rwL];done)|(simp [ufs,bkL,rwL];omega)
 have hc2':=of_decide_eq_false hc2
 refine AC.goes ttk 2 rfl ?_
 refine AC.cond rfl (fun hc3=>?_) (fun hc3=>?_)
 ·
  have hc3':=of_decide_eq_true hc3
  refine AC.seq ?_
  obtain ⟨x2,hx2⟩:=exget (xs:=due) (i:=Int.toNat (x1.shop)) (by first|omega|(simp;done)|(simp;omega))
  refine AC.drawP [0,3,4,5] [5,4,0,1,2,3] mixed rfl rfl ?_
  refine PD.runs (kn:=[]) ttk 7 rfl trivial ?_
  refine PD.op (n':=6) [63,65] [2] rfl rfl (.inl ⟨(Wanted.plain rfl),GOp.cast (g_indexP0 (i:=Int.toNat (x1.shop)) rfl rfl rfl Try.underlying30 sz3 (by first|omega|(simp;done)|(simp;omega)) (by first|omega|(simp;done)|(simp;omega))) rfl⟩) rfl ?_
  refine PD.op (n':=6) [66] [2] rfl rfl (.inl ⟨(Wanted.plain rfl),GOp.cast (g_loadA rfl rfl rfl Try.underlying3 rfl (getmap hx2) rfl) rfl⟩) rfl ?_
  refine PD.runs (kn:=[]) ttk 3 rfl trivial ?_
  refine PD.op (n':=6) [63,65] [2] rfl rfl (.inl ⟨(Wanted.plain rfl),GOp.cast (g_indexP0 (i:=Int.toNat (x1.shop)) rfl rfl rfl Try.underlying30 sz3 (by first|omega|(simp;done)|(simp;omega)) (by first|omega|(simp;done)|(simp;omega))) rfl⟩) rfl ?_
  refine PD.fin [5,4,0,1,2,3] rfl rfl rfl rfl (by kernel_rfl) ?_
  refine AL.so [5,4,0,1,2,3] (g_storeA (ds:=[(dI (IntKind.i64.wrap (x2 - t.sum)))]) rfl rfl rfl rfl rfl sz3 rfl (Nat.le_of_ble_eq_true rfl) (getmap hx2) rfl (setmap (x':=(IntKind.i64.wrap (x2 - t.sum))) rfl)) rfl ?_
  refine AL.nx ?_
  refine AC.recell (k:=0) (q:=3) (c':=(.s 2 0 1 (((due).set (Int.toNat (x1.shop)) (IntKind.i64.wrap (x2 - t.sum))).length))) rfl rfl (by first|rfl|(simp;done)|(congr 1;omega)) rfl ?_
  refine AC.region ?_
  refine AL.runs ttk 4 rfl ?_
  obtain ⟨l23,e23,hr3⟩:∃ (l23:List Entry) (e23:Int),moveK book e (50+x1.shop) 2 t.sum=(l23,e23):=⟨_,_,rfl⟩
  refine AL.cn 6 [0,5,4,1,2,3] (g_callR0 id id (ms:=((nmL.set 18 (some (vlE book))).set 19 (some (cI e)))) (ms':=((nmL.set 18 (some (vlE l23))).set 19 (some (cI e23)))) (fun x hx=>c_move x hx book e (50+x1.shop) 2 t.sum l23 e23 hr3) en76 rfl rfl ⟨⟨_,rfl,.inl ⟨rfl,rfl⟩⟩,⟨_,rfl,.inr (.c (.d _))⟩,⟨_,rfl,.inr (.c (.d _))⟩,⟨_,rfl,.inr (.c (.d _))⟩,trivial⟩ rfl rfl rfl rfl rfl rfl rfl trivial rfl rfl rfl rfl rfl rfl rfl rfl rfl rfl rfl rfl rfl) rfl ?_
  refine AL.nil ?_
  refine block_ok ?_
  have hX:takeK auths due cards book e t=((due).set (Int.toNat (x1.shop)) (IntKind.i64.wrap (x2 - t.sum)),cards,l23,e23):=by
    unfold takeK;rw [hx1];dsimp only;simp only [List.getD_eq_getElem?_getD,hx2,Option.getD_some,hr3];(repeat' split)<;>first|rfl|omega|(exfalso;omega)|(simp_all;done)|(simp_all;omega)
  rw [hX] at hr;clear hX
  simp only [Prod.mk.injEq] at hr;obtain ⟨rfl,rfl,rfl,rfl⟩:=hr
  refine retQ_gon ttk [0,1,2,3] 4 rfl rfl rfl rfl rfl rfl ?_ ?_
  all_goals first|rfl|(simp [ufs,bkL,rwL];done)|(simp [ufs,bkL,rwL];omega)
 have hc3':=of_decide_eq_false hc3
 refine AC.skip ?_
 refine block_ok ?_
 have hX:takeK auths due cards book e t=(due,cards,book,e):=by
   unfold takeK;rw [hx1];dsimp only;simp only [List.getD_eq_getElem?_getD,Option.getD_some,hx1];(repeat' split)<;>first|rfl|omega|(exfalso;omega)|(simp_all;done)|(simp_all;omega)
 rw [hX] at hr;clear hX
 simp only [Prod.mk.injEq] at hr;obtain ⟨rfl,rfl,rfl,rfl⟩:=hr
 refine retQ_gon ttk [0,1,2,3] 4 rfl rfl rfl rfl rfl rfl ?_ ?_
 all_goals first|rfl|(simp [ufs,bkL,rwL];done)|(simp [ufs,bkL,rwL];omega)
end Go.Proofs.Ytegepioggeggaaa.Dev
namespace Go.Proofs.Ytegepioggeggaaa.Dev
open Go.RowKit

set_option maxRecDepth 100000 in
set_option maxHeartbeats 1000000 in
theorem c_Clone_Auth (l:List Auth) (hl:l.length * 64<=140737488355328):Fn Try.prog 96 [(.c (vlP l))] (aC (.s 0 0 8 l.length)) [(0,.arr 67 8 (l.map rAuth))]:=by
 refine Fn.mk' 8 [(0,(aC (vlP l)))] Try.func96 rfl rfl rfl rfl ?_
 intro W0 T0
 refine AC.len1 0 rfl (fun hlen0=>?_)
 refine AC.goes ttk 1 rfl ?_
 refine AC.seq ?_
 refine AC.go ttk 1 rfl ?_
 refine AL.isnil (Wanted.plain rfl) rfl rfl Try.underlying31 rfl rfl (fun bn1 hbn1=>?_)
 refine AL.nx ?_
 refine AC.cond rfl (fun hc2=>?_) (fun hc2=>?_)
 ·
  have hc2':=hc2;try simp only [sumB,dns] at hc2'
  refine AC.goes ttk 1 rfl ?_
  refine AC.ret ?_
  refine then_ret ?_
  refine retQ_weak (Weak.nil 2 67 8 (by decide) rfl) ?_
  refine retQ_go ttk [0] 1 rfl rfl rfl rfl rfl rfl ?_ ?_
  ·(have h0:=hbn1 (by assumption);have h1:l=[]:=by (cases l with|nil=>rfl|cons=>simp at h0));subst h1;rfl
  ·(have h0:=hbn1 (by assumption);have h1:l=[]:=by (cases l with|nil=>rfl|cons=>simp at h0));subst h1;rfl
 have hc2':=hc2;try simp only [sumB,dns] at hc2'
 refine AC.sk ?_
 refine AC.sr ?_
 refine AL.cn 1 [0] (g_lit (ys:=[]) (rows:=(([]:List Auth)).map rAuth) 0 sl31 rfl (by decide) trivial rfl rfl rfl rfl) rfl ?_
 refine AL.runs ttk 1 rfl ?_
 refine AL.cn 2 [1] (g_append (m:=l.length) (N:=l.length) (k2:=1) (ys:=(l).map rAuth) sl31 rfl rfl rfl rfl rfl rfl (by first|omega|(simp;omega)|(simp;done)) rfl (.d _ _) (by first|omega|(simp;omega)|(simp;done)) (by first|omega|(simp;omega)|(simp;done)) rfl (by decide) (by first|omega|(simp;omega)|(simp;done)) (by first|omega|(simp;omega)|(simp;done))) rfl ?_
 refine AL.runs ttk 1 rfl ?_
 refine AL.nx ?_
 refine AC.ret ?_
 refine retQ_go ttk [1] 1 rfl rfl rfl rfl rfl rfl ?_ ?_
 ·first|rfl|simp [outOf,aC]
 ·first|rfl|simp
set_option maxRecDepth 100000 in
set_option maxHeartbeats 1000000 in
theorem c_Clone_Packet (l:List Packet) (hl:l.length * 40<=140737488355328):Fn Try.prog 85 [(.c (vlK l))] (aC (.s 0 0 5 l.length)) [(0,.arr 113 5 (l.map rPacket))]:=by
 refine Fn.mk' 8 [(0,(aC (vlK l)))] Try.func85 rfl rfl rfl rfl ?_
 intro W0 T0
 refine AC.len1 0 rfl (fun hlen0=>?_)
 refine AC.goes ttk 1 rfl ?_
 refine AC.seq ?_
 refine AC.go ttk 1 rfl ?_
 refine AL.isnil (Wanted.plain rfl) rfl rfl Try.underlying37 rfl rfl (fun bn1 hbn1=>?_)
 refine AL.nx ?_
 refine AC.cond rfl (fun hc2=>?_) (fun hc2=>?_)
 ·
  have hc2':=hc2;try simp only [sumB,dns] at hc2'
  refine AC.goes ttk 1 rfl ?_
  refine AC.ret ?_
  refine then_ret ?_
  refine retQ_weak (Weak.nil 2 113 5 (by decide) rfl) ?_
  refine retQ_go ttk [0] 1 rfl rfl rfl rfl rfl rfl ?_ ?_
  ·(have h0:=hbn1 (by assumption);have h1:l=[]:=by (cases l with|nil=>rfl|cons=>simp at h0));subst h1;rfl
  ·(have h0:=hbn1 (by assumption);have h1:l=[]:=by (cases l with|nil=>rfl|cons=>simp at h0));subst h1;rfl
 have hc2':=hc2;try simp only [sumB,dns] at hc2'
 refine AC.sk ?_
 refine AC.sr ?_
 refine AL.cn 1 [0] (g_lit (ys:=[]) (rows:=(([]:List Packet)).map rPacket) 0 sl37 rfl (by decide) trivial rfl rfl rfl rfl) rfl ?_
 refine AL.runs ttk 1 rfl ?_
 refine AL.cn 2 [1] (g_append (m:=l.length) (N:=l.length) (k2:=1) (ys:=(l).map rPacket) sl37 rfl rfl rfl rfl rfl rfl (by first|omega|(simp;omega)|(simp;done)) rfl (.d _ _) (by first|omega|(simp;omega)|(simp;done)) (by first|omega|(simp;omega)|(simp;done)) rfl (by decide) (by first|omega|(simp;omega)|(simp;done)) (by first|omega|(simp;omega)|(simp;done))) rfl ?_
 refine AL.runs ttk 1 rfl ?_
 refine AL.nx ?_
 refine AC.ret ?_
 refine retQ_go ttk [1] 1 rfl rfl rfl rfl rfl rfl ?_ ?_
 ·first|rfl|simp [outOf,aC]
 ·first|rfl|simp
set_option maxRecDepth 100000 in
set_option maxHeartbeats 1000000 in
theorem c_Clone_Card (l:List (List D)) (hl:l.length * 64<=140737488355328):Fn Try.prog 94 [(.c (cR 6 ((l).map id)))] (aC (.s 0 0 6 l.length)) [(0,.arr 61 6 (l.map id))]:=by
 refine Fn.mk' 8 [(0,(aC (cR 6 ((l).map id))))] Try.func94 rfl rfl rfl rfl ?_
 intro W0 T0
 refine AC.len1 0 rfl (fun hlen0=>?_)
 refine AC.goes ttk 1 rfl ?_
 refine AC.seq ?_
 refine AC.go ttk 1 rfl ?_
 refine AL.isnil (Wanted.plain rfl) rfl rfl Try.underlying29 rfl rfl (fun bn1 hbn1=>?_)
 refine AL.nx ?_
 refine AC.cond rfl (fun hc2=>?_) (fun hc2=>?_)
 ·
  have hc2':=hc2;try simp only [sumB,dns] at hc2'
  refine AC.goes ttk 1 rfl ?_
  refine AC.ret ?_
  refine then_ret ?_
  refine retQ_weak (Weak.nil 2 61 6 (by decide) rfl) ?_
  refine retQ_go ttk [0] 1 rfl rfl rfl rfl rfl rfl ?_ ?_
  ·(have h0:=hbn1 (by assumption);have h1:l=[]:=by (cases l with|nil=>rfl|cons=>simp at h0));subst h1;rfl
  ·(have h0:=hbn1 (by assumption);have h1:l=[]:=by (cases l with|nil=>rfl|cons=>simp at h0));subst h1;rfl
 have hc2':=hc2;try simp only [sumB,dns] at hc2'
 refine AC.sk ?_
 refine AC.sr ?_
 refine AL.cn 1 [0] (g_lit (ys:=[]) (rows:=(([]:List (List D))).map id) 0 sl29 rfl (by decide) trivial rfl rfl rfl rfl) rfl ?_
 refine AL.runs ttk 1 rfl ?_
 refine AL.cn 2 [1] (g_append (m:=l.length) (N:=0+l.length) (k2:=1) (ys:=(l).map id) sl29 rfl rfl rfl rfl rfl rfl (by first|omega|(simp;omega)|(simp;done)) rfl (.d _ _) (by first|omega|(simp;omega)|(simp;done)) (by first|omega|(simp;omega)|(simp;done)) appmap (by decide) (by first|omega|(simp;omega)|(simp;done)) (by first|omega|(simp;omega)|(simp;done))) rfl ?_
 refine AL.runs ttk 1 rfl ?_
 refine AL.nx ?_
 refine AC.ret ?_
 refine retQ_go ttk [1] 1 rfl rfl rfl rfl rfl rfl ?_ ?_
 ·first|rfl|simp [outOf,aC]
 ·first|rfl|simp
end Go.Proofs.Ytegepioggeggaaa.Dev
namespace Go.Proofs.Ytegepioggeggaaa.Dev
open Go.RowKit

set_option maxRecDepth 100000 in
set_option maxHeartbeats 2000000 in
theorem c_begin (v w:Value) (b:Bk) (l1:b.cards.length<=8) (l2:b.due.length<=8) (l3:b.auths.length<=30) (l4:b.today.length<=100):FnE Try.prog 74 [(.c (.p 0 0 0 0))] [(0,(.box 98 (bkL b 1 2 3 4 (.d (.v v)) (.d (.v w))))),(1,(alC b.cards)),(2,(alI b.due)),(3,(alP b.auths)),(4,(alR b.today))] [0] (.v (.c (.p 1 0 0 0))) [(0,(.box 98 (bkL b 2 3 4 5 (.d (.v v)) (.d (.v w))))),(1,(.box 147 (bkL b 6 7 8 9 (.d (.v v)) (cI 0)))),(2,(alC b.cards)),(3,(alI b.due)),(4,(alP b.auths)),(5,(alR b.today)),(6,(alC b.cards)),(7,(alI b.due)),(8,(alP b.auths)),(9,(alR b.today))]:=by
 refine FnE.mk 51 [(0,(aC (.p 0 0 0 0)))] 5 Try.func74 rfl rfl rfl rfl rfl rfl rfl rfl rfl ?_
 intro W0 F0 T0 pg
 refine AC.goes ttk 1 rfl ?_
 refine AC.goes ttk 7 rfl ?_
 refine AC.seq ?_
 refine AC.drawQ [0,3] [5,0,1,2,3,4] mixed rfl rfl ?_
 refine PW.runs (kn:=[]) ttk 9 rfl trivial ?_
 refine PW.op (n':=7) [18] [1] rfl rfl (.inl ⟨(Wanted.plain rfl),GOp.cast (g_cloneR 6 (fun l hl=>c_Clone_Card l (by rw [hl];first|omega|(simp;done)|(simp;omega))) en94 rfl rfl rfl rfl rfl (by simp)) rfl⟩) rfl ?_
 refine PW.runs (kn:=[]) ttk 5 rfl trivial ?_
 refine PW.op (n':=8) [24] [2] rfl rfl (.inl ⟨(Wanted.plain rfl),GOp.cast (g_callE 7 [2] (c_Clone_int b.due (by first|omega|(simp;done)|(simp;omega))) en95 rfl rfl ⟨⟨_,rfl,.c (.s rfl (by decide) (by first|omega|(simp;done)|(simp;omega)))⟩,trivial⟩ trivial ⟨(isv_rI _),trivial⟩ rfl rfl rfl rfl) rfl⟩) rfl ?_
 refine PW.runs (kn:=[]) ttk 5 rfl trivial ?_
 refine PW.op (n':=9) [30] [3] rfl rfl (.inl ⟨(Wanted.plain rfl),GOp.cast (g_callE 8 [3] (c_Clone_Auth b.auths (by first|omega|(simp;done)|(simp;omega))) en96 rfl rfl ⟨⟨_,rfl,.c (.s rfl (by decide) (by first|omega|(simp;done)|(simp;omega)))⟩,trivial⟩ trivial ⟨(isv_rAuth _),trivial⟩ rfl rfl rfl rfl) rfl⟩) rfl ?_
 refine PW.runs (kn:=[]) ttk 5 rfl trivial ?_
 refine PW.op (n':=10) [36] [4] rfl rfl (.inl ⟨(Wanted.plain rfl),GOp.cast (g_callE 9 [4] (c_Clone_Record b.today (by first|omega|(simp;done)|(simp;omega))) en54 rfl rfl ⟨⟨_,rfl,.c (.s rfl (by decide) (by first|omega|(simp;done)|(simp;omega)))⟩,trivial⟩ trivial ⟨(isv_rRecord _),trivial⟩ rfl rfl rfl rfl) rfl⟩) rfl ?_
 refine PW.runs (kn:=[]) ttk 16 rfl trivial ?_
 refine PW.fin [3] [5,9,8,7,6,0,1,2,3,4] rfl rfl (by kernel_rfl) ?_
 refine then_ok ?_
 refine AC.goes ttk 2 rfl ?_
 refine AC.ret ?_
 refine retQ_go ttk [0,5,1,2,3,4,6,7,8,9] 10 rfl rfl rfl rfl rfl rfl ?_ ?_
 all_goals first|rfl|(simp [ufs,bkL,rwL];done)|(simp [ufs,bkL,rwL];omega)
set_option maxRecDepth 100000 in
set_option maxHeartbeats 2000000 in
theorem c_end_ok (v w:Value) (b c:Bk) (e:Int) (he:e=0):FnE Try.prog 77 [(.c (.p 0 0 0 0)),(.c (.p 1 0 0 0))] [(0,(.box 98 (bkL b 2 3 4 5 (.d (.v v)) (.d (.v w))))),(1,(.box 147 (bkL c 6 7 8 9 (.d (.v v)) (cI e)))),(2,(alC b.cards)),(3,(alI b.due)),(4,(alP b.auths)),(5,(alR b.today)),(6,(alC c.cards)),(7,(alI c.due)),(8,(alP c.auths)),(9,(alR c.today))] [0] (.v (.c (cI e))) [(0,(.box 98 (bkL c 1 2 3 4 (.d (.v v)) (.d (.v w))))),(1,(alC c.cards)),(2,(alI c.due)),(3,(alP c.auths)),(4,(alR c.today))]:=by
 refine FnE.mk 21 [(0,(aC (.p 0 0 0 0))),(1,(aC (.p 1 0 0 0)))] 10 Try.func77 rfl rfl rfl rfl rfl rfl rfl rfl rfl ?_
 intro W0 F0 T0 pg
 refine AC.goes ttk 1 rfl ?_
 refine AC.seq ?_
 refine AC.goes ttk 5 rfl ?_
 refine AC.cond rfl (fun hc1=>?_) (fun hc1=>?_)
 ·
  have hc1':=of_decide_eq_true hc1
  refine AC.region ?_
  refine AL.runs ttk 8 rfl ?_
  refine AL.nx ?_
  refine AC.goes ttk 5 rfl ?_
  refine AC.ret ?_
  refine retQ_go ttk [0,6,7,8,9] 5 rfl rfl rfl rfl rfl rfl ?_ ?_
  all_goals first|rfl|(simp [ufs,bkL,rwL];done)|(simp [ufs,bkL,rwL];omega)
 have hc1':=of_decide_eq_false hc1
 (exfalso;simp_all)
set_option maxRecDepth 100000 in
set_option maxHeartbeats 2000000 in
theorem c_end_no (v w:Value) (b c:Bk) (e:Int) (he:¬e=0):FnE Try.prog 77 [(.c (.p 0 0 0 0)),(.c (.p 1 0 0 0))] [(0,(.box 98 (bkL b 2 3 4 5 (.d (.v v)) (.d (.v w))))),(1,(.box 147 (bkL c 6 7 8 9 (.d (.v v)) (cI e)))),(2,(alC b.cards)),(3,(alI b.due)),(4,(alP b.auths)),(5,(alR b.today)),(6,(alC c.cards)),(7,(alI c.due)),(8,(alP c.auths)),(9,(alR c.today))] [0] (.v (.c (cI e))) [(0,(.box 98 (bkL b 1 2 3 4 (.d (.v v)) (.d (.v w))))),(1,(alC b.cards)),(2,(alI b.due)),(3,(alP b.auths)),(4,(alR b.today))]:=by
 refine FnE.mk 21 [(0,(aC (.p 0 0 0 0))),(1,(aC (.p 1 0 0 0)))] 10 Try.func77 rfl rfl rfl rfl rfl rfl rfl rfl rfl ?_
 intro W0 F0 T0 pg
 refine AC.goes ttk 1 rfl ?_
 refine AC.seq ?_
 refine AC.goes ttk 5 rfl ?_
 refine AC.cond rfl (fun hc1=>?_) (fun hc1=>?_)
 ·
  have hc1':=of_decide_eq_true hc1
  (exfalso;simp_all)
 have hc1':=of_decide_eq_false hc1
 refine AC.sk ?_
 refine AC.goes ttk 5 rfl ?_
 refine AC.ret ?_
 refine retQ_go ttk [0,2,3,4,5] 5 rfl rfl rfl rfl rfl rfl ?_ ?_
 all_goals first|rfl|(simp [ufs,bkL,rwL];done)|(simp [ufs,bkL,rwL];omega)
end Go.Proofs.Ytegepioggeggaaa.Dev
namespace Go.Proofs.Ytegepioggeggaaa.Dev
open Go.RowKit

set_option maxRecDepth 100000 in
set_option maxHeartbeats 2000000 in
theorem c_bsend0 (x:Nat->Value) (hx:∀ i,(x i).oneCell'=true) (s0 s1:Sender) (n0 n1:Int) (w0 w1:List Packet) (idn kind shop move sum:Int) (l0:w0.length<=60) (l1:w1.length<=60) (m0:s0.kept.length<=40) (m1:s1.kept.length<=40) (v0:List Packet) (v1:List Packet) (a2:Answer) (hr:sendW s0 s1 n0 n1 w0 w1 (⟨idn,kind,0,shop,move,sum⟩:Deed)=(v0,v1,a2)):FnE Try.prog 66 [(.c (.p 0 0 0 0)),(.c (.q (rDeed (⟨idn,kind,0,shop,move,sum⟩:Deed)) 0))] [(0,(.box 98 (((((((((rwL x).set 5 (cI s0.sent)).set 6 (vlT s0.kept)).set 7 (cI s1.sent)).set 8 (vlT s1.kept)).set 9 (cI n0)).set 10 (cI n1)).set 11 (vlK w0)).set 12 (vlK w1))))] [0] (.v (.g [cI a2.err,cI a2.auth])) [(0,(.box 98 (((((((((rwL x).set 5 (cI s0.sent)).set 6 (vlT s0.kept)).set 7 (cI s1.sent)).set 8 (vlT s1.kept)).set 9 (cI n0)).set 10 (cI n1)).set 11 (vlK v0)).set 12 (vlK v1))))]:=by
 refine FnE.mkF 83 [(0,(aC (.p 0 0 0 0))),(1,(aC (.q (rDeed (⟨idn,kind,0,shop,move,sum⟩:Deed)) 0)))] 1 Try.func66 rfl rfl rfl rfl rfl rfl rfl rfl rfl ?_
 intro W0 F0 T0 pg hF
 have hF0:∀ b,F0 b->(pg 0).g=b:=fun b hb=>by obtain ⟨k,hk,h⟩:=hF b hb;rw [List.mem_singleton.1 hk] at h;exact h
 refine AC.goes ttk 1 rfl ?_
 refine AC.seq ?_
 refine AC.cutB 20 (false) ?_ ?_
 ·
  refine AC.region ?_
  refine AL.runs ttk 4 rfl ?_
  refine AL.vl (g_binI rfl rfl rfl (show _=some (Value.bool false) from rfl)) rfl ?_
  refine AL.runs ttk 7 rfl ?_
  refine AL.nx ?_
  exact Weak.popB 12 rfl rfl (by first|(simp [];done)|(simp_all;done)|(exfalso;simp_all;done)|(simp_all;omega)) rfl
 refine AC.cond rfl (fun hno=>by cases hno) (fun _=>?_)
 refine AC.sk ?_
 refine AC.goes ttk 6 rfl ?_
 refine AC.go ttk 5 rfl ?_
 refine AL.vl (g_indexB (i:=1) rfl rfl rfl Try.underlying38 sz37 rfl (by decide)) rfl ?_
 refine AL.runs ttk 1 rfl ?_
 refine AL.cn 3 [2,1,0] (g_call 2 (c_Clone_Packet w1 (by first|omega|(simp;done)|(simp;omega))) en85 rfl rfl ⟨⟨_,rfl,.c (.d _)⟩,trivial⟩ trivial ⟨(fun _ _ _ _=>trivial),trivial⟩ rfl rfl rfl rfl) rfl ?_
 refine AL.runs ttk 1 rfl ?_
 refine AL.nx ?_
 refine AC.seq ?_
 refine AC.seq ?_
 refine AC.drawP [0,1,4,5,6] [2,1,0] mixed rfl rfl ?_
 refine PD.runs (kn:=[]) ttk 8 rfl trivial ?_
 refine PD.op (n':=3) [42,39] [0] rfl rfl (.inl ⟨(Wanted.plain rfl),GOp.cast (g_indexB (i:=0) rfl rfl rfl Try.underlying35 sz34 rfl (by decide)) rfl⟩) rfl ?_
 refine PD.runs (kn:=[]) ttk 2 rfl trivial ?_
 refine PD.op (n':=3) [45] [] rfl rfl (.inl ⟨(Wanted.plain rfl),GOp.cast (g_lenM rfl rfl rfl rfl rfl Try.underlying32) rfl⟩) rfl ?_
 refine PD.runs (kn:=[]) ttk 1 rfl trivial ?_
 refine PD.fin [2,1,0] rfl rfl rfl rfl (by kernel_rfl) ?_
 refine AL.nx ?_
 refine AC.block ?_
 refine AC.loop (β:=Nat×List Packet) (fun (p:Nat×List Packet)=>match p with|(q,m)=>⟨[(0,(aC (.p 0 0 0 0))),(1,(aC (.q (rDeed (⟨idn,kind,0,shop,move,sum⟩:Deed)) 0))),(4,(aC (.p 1 0 0 0))),(5,(aI 1)),(6,(aC (.s 2 0 5 m.length))),(45,(aC (vlT s0.kept))),(46,(aI (↑s0.kept.length:Int))),(47,(aI (↑q:Int)))],[(2,(alK m)),(1,(.box 65 [(cI 0),(cI 0)])),(0,(.box 98 (((((((((rwL x).set 5 (cI s0.sent)).set 6 (vlT s0.kept)).set 7 (cI s1.sent)).set 8 (vlT s1.kept)).set 9 (cI n0)).set 10 (cI n1)).set 11 (vlK w0)).set 12 (vlK w1))))],3⟩) (fun (p:Nat×List Packet)=>match p with|(q,m)=>q<=s0.kept.length/\m=w1++(s0.kept.take q).map (fun t=>(⟨t,-1⟩:Packet))) (fun (p:Nat×List Packet)=>match p with|(q,m)=>s0.kept.length - q) (0,w1) ?_ ?_ ?_
 ·exact ⟨by omega,by simp⟩
 ·exact Weak.ren id (by refine ⟨?_,?_,?_,?_,?_,?_,?_,?_,trivial⟩<;>first|rfl|(simp only [mps];done)|(congr 3;omega)|(congr 4;omega)|(simp only [lns];rfl)) (by refine ⟨?_,?_,?_,trivial⟩<;>first|rfl|(simp only [mps];done)|(congr 3;omega)|(congr 4;omega)|(simp only [lns];rfl)) rfl
 rintro ⟨q,m⟩ ⟨hi0_0,hi0_1⟩
 have hml:m.length=w1.length+q:=by rw [hi0_1];simp;omega
 refine AC.goes ttk 1 rfl ?_
 refine AC.seq ?_
 refine AC.cond rfl (fun hc2=>?_) (fun hc2=>?_)
 ·
  have hc2':=of_decide_eq_true hc2
  refine AC.sk ?_
  refine AC.seq ?_
  refine AC.block ?_
  refine AC.sr ?_
  obtain ⟨x1,hx1⟩:=exget (xs:=s0.kept) (i:=q) (by first|omega|(simp;done)|(simp;omega))
  refine AL.vl (g_indexQ (i:=q) rfl rfl rfl Try.underlying32 sz80 (by first|omega|(simp;done)|(simp;omega)) (getmap hx1)) rfl ?_
  refine AL.runs ttk 3 rfl ?_
  refine AL.nx ?_
  refine AC.region ?_
  refine AL.runs ttk 3 rfl ?_
  refine AL.cn 5 [4,3,2,1,0] (g_lit (ys:=[(0,(.g [(cI x1.number),(cI x1.kind),(cI x1.auth),(cI x1.sum),(cI (-1))]))]) (rows:=([(⟨x1,(-1)⟩:Packet)]).map rPacket) 4 sl37 rfl (by decide) ⟨⟨rfl,rfl⟩,trivial⟩ rfl rfl rfl rfl) rfl ?_
  refine AL.cn 6 [5,4,3,1,0] (g_append (m:=1) (N:=m.length+1) (k2:=5) (ys:=([(⟨x1,(-1)⟩:Packet)]).map rPacket) sl37 rfl rfl rfl rfl rfl rfl (by first|omega|(simp;done)|(simp;omega)) rfl (.s rfl (by first|omega|(simp;done)|(simp;omega))) (by first|omega|(simp;done)|(simp;omega)) (by first|omega|(simp;done)|(simp;omega)) appmap (by decide) (by first|omega|(simp;done)|(simp;omega)) (by first|omega|(simp;done)|(simp;omega))) rfl ?_
  refine AL.runs ttk 1 rfl ?_
  refine AL.nil ?_
  refine block_ok ?_
  refine then_ok ?_
  refine AC.region ?_
  refine AL.vl (g_binI rfl rfl rfl (wrap_ok (by first|omega|(simp;done)|(simp;omega)))) rfl ?_
  refine AL.runs ttk 1 rfl ?_
  refine AL.nx ?_
  refine ⟨(q+1,m++([(⟨x1,(-1)⟩:Packet)])),⟨by omega,by rw [List.take_add_one,hx1,List.map_append,<-List.append_assoc,<-hi0_1];rfl⟩,by first|omega|(simp;done)|(simp;omega),Weak.ren (fun k=>if k=2 then 5 else k) (by refine ⟨?_,?_,?_,?_,?_,?_,?_,?_,trivial⟩<;>first|rfl|(simp only [mps];done)|(congr 3;omega)|(congr 4;omega)|(simp only [lns];rfl)|(first|exact look_i rfl (by omega)|exact look_s rfl (by simp only [List.length_append,List.length_cons,List.length_nil];omega))) (by refine ⟨?_,?_,?_,trivial⟩<;>first|rfl|(simp only [mps];done)|(congr 3;omega)|(congr 4;omega)|(simp only [lns];rfl)) rfl⟩
 have hc2':=of_decide_eq_false hc2
 refine AC.exit ?_
 refine then_exit ?_
 refine then_exit ?_
 refine block_hit ?_
 refine then_ok ?_
 refine AC.seq ?_
 refine AC.drawP [0,1,4,5,6,45,46,47] [2,1,0] mixed rfl rfl ?_
 refine PD.runs (kn:=[]) ttk 9 rfl trivial ?_
 refine PD.op (n':=3) [65,62] [0] rfl rfl (.inl ⟨(Wanted.plain rfl),GOp.cast (g_indexB (i:=0) rfl rfl rfl Try.underlying36 sz3 rfl (by decide)) rfl⟩) rfl ?_
 refine PD.runs (kn:=[]) ttk 2 rfl trivial ?_
 refine PD.op (n':=4) [68] [] rfl rfl (.inl ⟨(Wanted.plain rfl),GOp.cast (g_lit (ys:=[(0,(.g [(cI 0),(cI 0),(cI 0),(cI 0),(cI n0)]))]) (rows:=([(⟨(⟨0,0,0,0⟩:Transfer),n0⟩:Packet)]).map rPacket) 3 sl37 rfl (by decide) ⟨⟨rfl,rfl⟩,trivial⟩ rfl rfl rfl rfl) rfl⟩) rfl ?_
 refine PD.op (n':=5) [57,69] [3,2] rfl rfl (.inl ⟨(Wanted.plain rfl),GOp.cast (g_append (m:=1) (N:=m.length+1) (k2:=4) (ys:=([(⟨(⟨0,0,0,0⟩:Transfer),n0⟩:Packet)]).map rPacket) sl37 rfl rfl rfl rfl rfl rfl (by first|omega|(simp;done)|(simp;omega)) rfl (.s rfl (by first|omega|(simp;done)|(simp;omega))) (by first|omega|(simp;done)|(simp;omega)) (by first|omega|(simp;done)|(simp;omega)) appmap (by decide) (by first|omega|(simp;done)|(simp;omega)) (by first|omega|(simp;done)|(simp;omega))) rfl⟩) rfl ?_
 refine PD.fin [4,1,0] rfl rfl rfl rfl (by kernel_rfl) ?_
 refine AL.runs ttk 1 rfl ?_
 refine AL.nx ?_
 refine AC.seq ?_
 refine AC.go ttk 1 rfl ?_
 refine AL.vl (g_lenS rfl rfl rfl rfl rfl Try.underlying37) rfl ?_
 refine AL.runs ttk 1 rfl ?_
 refine AL.nx ?_
 refine AC.cond rfl (fun hc3=>?_) (fun hc3=>?_)
 ·
  have hc3':=of_decide_eq_true hc3
  refine AC.goes ttk 2 rfl ?_
  refine AC.ret ?_
  refine then_ret ?_
  have hX:sendW s0 s1 n0 n1 w0 w1 (⟨idn,kind,0,shop,move,sum⟩:Deed)=(w0,w1,(⟨5,0⟩:Answer)):=by
    (have ht:s0.kept.take q=s0.kept:=List.take_of_length_le (by omega));rw [ht] at hi0_1;unfold sendW;dsimp only;rw [if_pos rfl];unfold sendQ packs;rw [<-hi0_1];first|rw [if_pos (by simp;omega)]|rw [if_neg (by simp;omega)]
  rw [hX] at hr;clear hX
  simp only [Prod.mk.injEq] at hr;obtain ⟨rfl,rfl,rfl⟩:=hr
  refine retQ_go ttk [0,1] 1 rfl rfl rfl rfl rfl rfl ?_ ?_
  all_goals first|rfl|(simp [ufs,bkL,rwL];done)|(simp [ufs,bkL,rwL];omega)
 have hc3':=of_decide_eq_false hc3
 refine AC.sk ?_
 refine AC.freezeF (s':=[(0,(aC (.p 0 0 0 0))),(1,(aC (.q (rDeed (⟨idn,kind,0,shop,move,sum⟩:Deed)) 0))),(4,(aC (.p 1 0 0 0))),(5,(aI 1)),(6,(aC (vlK (m++([(⟨(⟨0,0,0,0⟩:Transfer),n0⟩:Packet)]))))),(45,(aC (vlT s0.kept))),(46,(aI (↑s0.kept.length:Int))),(47,(aI (↑q:Int))),(70,(aC (vlK (m++([(⟨(⟨0,0,0,0⟩:Transfer),n0⟩:Packet)]))))),(71,(aC (vlK (m++([(⟨(⟨0,0,0,0⟩:Transfer),n0⟩:Packet)]))))),(72,(aI (↑(m.length+1):Int))),(73,(aB (decide ((↑(m.length+1):Int) > 60))))]) (h':=[(1,(.box 65 [(cI 0),(cI 0)])),(0,(.box 98 (((((((((rwL x).set 5 (cI s0.sent)).set 6 (vlT s0.kept)).set 7 (cI s1.sent)).set 8 (vlT s1.kept)).set 9 (cI n0)).set 10 (cI n1)).set 11 (vlK w0)).set 12 (vlK w1))))]) hF0 4 rfl rfl ⟨⟨_,rfl,.inl ⟨rfl,rfl⟩⟩,⟨_,rfl,.inl ⟨rfl,rfl⟩⟩,⟨_,rfl,.inl ⟨rfl,rfl⟩⟩,⟨_,rfl,.inl ⟨rfl,rfl⟩⟩,⟨_,rfl,.inr ⟨_,_,rfl,rfl,.s rfl (by decide) (by first|omega|(simp;done)|(simp;omega))⟩⟩,⟨_,rfl,.inl ⟨rfl,rfl⟩⟩,⟨_,rfl,.inl ⟨rfl,rfl⟩⟩,⟨_,rfl,.inl ⟨rfl,rfl⟩⟩,⟨_,rfl,.inr ⟨_,_,rfl,rfl,.s rfl (by decide) (by first|omega|(simp;done)|(simp;omega))⟩⟩,⟨_,rfl,.inr ⟨_,_,rfl,rfl,.s rfl (by decide) (by first|omega|(simp;done)|(simp;omega))⟩⟩,⟨_,rfl,.inl ⟨rfl,rfl⟩⟩,⟨_,rfl,.inl ⟨rfl,rfl⟩⟩,trivial⟩ ⟨rfl,rfl,trivial⟩ rfl ?_
 refine AC.go ttk 6 rfl ?_
 refine AL.vl (g_indexB (i:=1) rfl rfl rfl Try.underlying38 sz37 rfl (by decide)) rfl ?_
 refine AL.runs ttk 1 rfl ?_
 refine AL.nx ?_
 refine AC.goes ttk 2 rfl ?_
 refine AC.ret ?_
 have hX:sendW s0 s1 n0 n1 w0 w1 (⟨idn,kind,0,shop,move,sum⟩:Deed)=(w0,m++([(⟨(⟨0,0,0,0⟩:Transfer),n0⟩:Packet)]),(⟨0,0⟩:Answer)):=by
   (have ht:s0.kept.take q=s0.kept:=List.take_of_length_le (by omega));rw [ht] at hi0_1;unfold sendW;dsimp only;rw [if_pos rfl];unfold sendQ packs;rw [<-hi0_1];first|rw [if_pos (by simp;omega)]|rw [if_neg (by simp;omega)]
 rw [hX] at hr;clear hX
 simp only [Prod.mk.injEq] at hr;obtain ⟨rfl,rfl,rfl⟩:=hr
 refine retQ_go ttk [0,1] 1 rfl rfl rfl rfl rfl rfl ?_ ?_
 all_goals first|rfl|(simp [ufs,bkL,rwL];done)|(simp [ufs,bkL,rwL];omega)
set_option maxRecDepth 100000 in
set_option maxHeartbeats 2000000 in
theorem c_bsend1 (x:Nat->Value) (hx:∀ i,(x i).oneCell'=true) (s0 s1:Sender) (n0 n1:Int) (w0 w1:List Packet) (idn kind shop move sum:Int) (l0:w0.length<=60) (l1:w1.length<=60) (m0:s0.kept.length<=40) (m1:s1.kept.length<=40) (v0:List Packet) (v1:List Packet) (a2:Answer) (hr:sendW s0 s1 n0 n1 w0 w1 (⟨idn,kind,1,shop,move,sum⟩:Deed)=(v0,v1,a2)):FnE Try.prog 66 [(.c (.p 0 0 0 0)),(.c (.q (rDeed (⟨idn,kind,1,shop,move,sum⟩:Deed)) 0))] [(0,(.box 98 (((((((((rwL x).set 5 (cI s0.sent)).set 6 (vlT s0.kept)).set 7 (cI s1.sent)).set 8 (vlT s1.kept)).set 9 (cI n0)).set 10 (cI n1)).set 11 (vlK w0)).set 12 (vlK w1))))] [0] (.v (.g [cI a2.err,cI a2.auth])) [(0,(.box 98 (((((((((rwL x).set 5 (cI s0.sent)).set 6 (vlT s0.kept)).set 7 (cI s1.sent)).set 8 (vlT s1.kept)).set 9 (cI n0)).set 10 (cI n1)).set 11 (vlK v0)).set 12 (vlK v1))))]:=by
 refine FnE.mkF 83 [(0,(aC (.p 0 0 0 0))),(1,(aC (.q (rDeed (⟨idn,kind,1,shop,move,sum⟩:Deed)) 0)))] 1 Try.func66 rfl rfl rfl rfl rfl rfl rfl rfl rfl ?_
 intro W0 F0 T0 pg hF
 have hF0:∀ b,F0 b->(pg 0).g=b:=fun b hb=>by obtain ⟨k,hk,h⟩:=hF b hb;rw [List.mem_singleton.1 hk] at h;exact h
 refine AC.goes ttk 1 rfl ?_
 refine AC.seq ?_
 refine AC.cutB 20 (false) ?_ ?_
 ·
  refine AC.region ?_
  refine AL.runs ttk 4 rfl ?_
  refine AL.vl (g_binI rfl rfl rfl (show _=some (Value.bool true) from rfl)) rfl ?_
  refine AL.runs ttk 5 rfl ?_
  refine AL.val (Wanted.yes rfl rfl rfl) (g_binI rfl rfl rfl (show _=some (Value.bool false) from rfl)) rfl rfl ?_
  refine AL.runs ttk 1 rfl ?_
  refine AL.nx ?_
  exact Weak.popB 12 rfl rfl (by first|(simp [];done)|(simp_all;done)|(exfalso;simp_all;done)|(simp_all;omega)) rfl
 refine AC.cond rfl (fun hno=>by cases hno) (fun _=>?_)
 refine AC.sk ?_
 refine AC.goes ttk 6 rfl ?_
 refine AC.go ttk 5 rfl ?_
 refine AL.vl (g_indexB (i:=0) rfl rfl rfl Try.underlying38 sz37 rfl (by decide)) rfl ?_
 refine AL.runs ttk 1 rfl ?_
 refine AL.cn 3 [2,1,0] (g_call 2 (c_Clone_Packet w0 (by first|omega|(simp;done)|(simp;omega))) en85 rfl rfl ⟨⟨_,rfl,.c (.d _)⟩,trivial⟩ trivial ⟨(fun _ _ _ _=>trivial),trivial⟩ rfl rfl rfl rfl) rfl ?_
 refine AL.runs ttk 1 rfl ?_
 refine AL.nx ?_
 refine AC.seq ?_
 refine AC.seq ?_
 refine AC.drawP [0,1,4,5,6] [2,1,0] mixed rfl rfl ?_
 refine PD.runs (kn:=[]) ttk 8 rfl trivial ?_
 refine PD.op (n':=3) [42,39] [0] rfl rfl (.inl ⟨(Wanted.plain rfl),GOp.cast (g_indexB (i:=1) rfl rfl rfl Try.underlying35 sz34 rfl (by decide)) rfl⟩) rfl ?_
 refine PD.runs (kn:=[]) ttk 2 rfl trivial ?_
 refine PD.op (n':=3) [45] [] rfl rfl (.inl ⟨(Wanted.plain rfl),GOp.cast (g_lenM rfl rfl rfl rfl rfl Try.underlying32) rfl⟩) rfl ?_
 refine PD.runs (kn:=[]) ttk 1 rfl trivial ?_
 refine PD.fin [2,1,0] rfl rfl rfl rfl (by kernel_rfl) ?_
 refine AL.nx ?_
 refine AC.block ?_
 refine AC.loop (β:=Nat×List Packet) (fun (p:Nat×List Packet)=>match p with|(q,m)=>⟨[(0,(aC (.p 0 0 0 0))),(1,(aC (.q (rDeed (⟨idn,kind,1,shop,move,sum⟩:Deed)) 0))),(4,(aC (.p 1 0 0 0))),(5,(aI 0)),(6,(aC (.s 2 0 5 m.length))),(45,(aC (vlT s1.kept))),(46,(aI (↑s1.kept.length:Int))),(47,(aI (↑q:Int)))],[(2,(alK m)),(1,(.box 65 [(cI 0),(cI 0)])),(0,(.box 98 (((((((((rwL x).set 5 (cI s0.sent)).set 6 (vlT s0.kept)).set 7 (cI s1.sent)).set 8 (vlT s1.kept)).set 9 (cI n0)).set 10 (cI n1)).set 11 (vlK w0)).set 12 (vlK w1))))],3⟩) (fun (p:Nat×List Packet)=>match p with|(q,m)=>q<=s1.kept.length/\m=w0++(s1.kept.take q).map (fun t=>(⟨t,-1⟩:Packet))) (fun (p:Nat×List Packet)=>match p with|(q,m)=>s1.kept.length - q) (0,w0) ?_ ?_ ?_
 ·exact ⟨by omega,by simp⟩
 ·exact Weak.ren id (by refine ⟨?_,?_,?_,?_,?_,?_,?_,?_,trivial⟩<;>first|rfl|(simp only [mps];done)|(congr 3;omega)|(congr 4;omega)|(simp only [lns];rfl)) (by refine ⟨?_,?_,?_,trivial⟩<;>first|rfl|(simp only [mps];done)|(congr 3;omega)|(congr 4;omega)|(simp only [lns];rfl)) rfl
 rintro ⟨q,m⟩ ⟨hi0_0,hi0_1⟩
 have hml:m.length=w0.length+q:=by rw [hi0_1];simp;omega
 refine AC.goes ttk 1 rfl ?_
 refine AC.seq ?_
 refine AC.cond rfl (fun hc2=>?_) (fun hc2=>?_)
 ·
  have hc2':=of_decide_eq_true hc2
  refine AC.sk ?_
  refine AC.seq ?_
  refine AC.block ?_
  refine AC.sr ?_
  obtain ⟨x1,hx1⟩:=exget (xs:=s1.kept) (i:=q) (by first|omega|(simp;done)|(simp;omega))
  refine AL.vl (g_indexQ (i:=q) rfl rfl rfl Try.underlying32 sz80 (by first|omega|(simp;done)|(simp;omega)) (getmap hx1)) rfl ?_
  refine AL.runs ttk 3 rfl ?_
  refine AL.nx ?_
  refine AC.region ?_
  refine AL.runs ttk 3 rfl ?_
  refine AL.cn 5 [4,3,2,1,0] (g_lit (ys:=[(0,(.g [(cI x1.number),(cI x1.kind),(cI x1.auth),(cI x1.sum),(cI (-1))]))]) (rows:=([(⟨x1,(-1)⟩:Packet)]).map rPacket) 4 sl37 rfl (by decide) ⟨⟨rfl,rfl⟩,trivial⟩ rfl rfl rfl rfl) rfl ?_
  refine AL.cn 6 [5,4,3,1,0] (g_append (m:=1) (N:=m.length+1) (k2:=5) (ys:=([(⟨x1,(-1)⟩:Packet)]).map rPacket) sl37 rfl rfl rfl rfl rfl rfl (by first|omega|(simp;done)|(simp;omega)) rfl (.s rfl (by first|omega|(simp;done)|(simp;omega))) (by first|omega|(simp;done)|(simp;omega)) (by first|omega|(simp;done)|(simp;omega)) appmap (by decide) (by first|omega|(simp;done)|(simp;omega)) (by first|omega|(simp;done)|(simp;omega))) rfl ?_
  refine AL.runs ttk 1 rfl ?_
  refine AL.nil ?_
  refine block_ok ?_
  refine then_ok ?_
  refine AC.region ?_
  refine AL.vl (g_binI rfl rfl rfl (wrap_ok (by first|omega|(simp;done)|(simp;omega)))) rfl ?_
  refine AL.runs ttk 1 rfl ?_
  refine AL.nx ?_
  refine ⟨(q+1,m++([(⟨x1,(-1)⟩:Packet)])),⟨by omega,by rw [List.take_add_one,hx1,List.map_append,<-List.append_assoc,<-hi0_1];rfl⟩,by first|omega|(simp;done)|(simp;omega),Weak.ren (fun k=>if k=2 then 5 else k) (by refine ⟨?_,?_,?_,?_,?_,?_,?_,?_,trivial⟩<;>first|rfl|(simp only [mps];done)|(congr 3;omega)|(congr 4;omega)|(simp only [lns];rfl)|(first|exact look_i rfl (by omega)|exact look_s rfl (by simp only [List.length_append,List.length_cons,List.length_nil];omega))) (by refine ⟨?_,?_,?_,trivial⟩<;>first|rfl|(simp only [mps];done)|(congr 3;omega)|(congr 4;omega)|(simp only [lns];rfl)) rfl⟩
 have hc2':=of_decide_eq_false hc2
 refine AC.exit ?_
 refine then_exit ?_
 refine then_exit ?_
 refine block_hit ?_
 refine then_ok ?_
 refine AC.seq ?_
 refine AC.drawP [0,1,4,5,6,45,46,47] [2,1,0] mixed rfl rfl ?_
 refine PD.runs (kn:=[]) ttk 9 rfl trivial ?_
 refine PD.op (n':=3) [65,62] [0] rfl rfl (.inl ⟨(Wanted.plain rfl),GOp.cast (g_indexB (i:=1) rfl rfl rfl Try.underlying36 sz3 rfl (by decide)) rfl⟩) rfl ?_
 refine PD.runs (kn:=[]) ttk 2 rfl trivial ?_
 refine PD.op (n':=4) [68] [] rfl rfl (.inl ⟨(Wanted.plain rfl),GOp.cast (g_lit (ys:=[(0,(.g [(cI 0),(cI 0),(cI 0),(cI 0),(cI n1)]))]) (rows:=([(⟨(⟨0,0,0,0⟩:Transfer),n1⟩:Packet)]).map rPacket) 3 sl37 rfl (by decide) ⟨⟨rfl,rfl⟩,trivial⟩ rfl rfl rfl rfl) rfl⟩) rfl ?_
 refine PD.op (n':=5) [57,69] [3,2] rfl rfl (.inl ⟨(Wanted.plain rfl),GOp.cast (g_append (m:=1) (N:=m.length+1) (k2:=4) (ys:=([(⟨(⟨0,0,0,0⟩:Transfer),n1⟩:Packet)]).map rPacket) sl37 rfl rfl rfl rfl rfl rfl (by first|omega|(simp;done)|(simp;omega)) rfl (.s rfl (by first|omega|(simp;done)|(simp;omega))) (by first|omega|(simp;done)|(simp;omega)) (by first|omega|(simp;done)|(simp;omega)) appmap (by decide) (by first|omega|(simp;done)|(simp;omega)) (by first|omega|(simp;done)|(simp;omega))) rfl⟩) rfl ?_
 refine PD.fin [4,1,0] rfl rfl rfl rfl (by kernel_rfl) ?_
 refine AL.runs ttk 1 rfl ?_
 refine AL.nx ?_
 refine AC.seq ?_
 refine AC.go ttk 1 rfl ?_
 refine AL.vl (g_lenS rfl rfl rfl rfl rfl Try.underlying37) rfl ?_
 refine AL.runs ttk 1 rfl ?_
 refine AL.nx ?_
 refine AC.cond rfl (fun hc3=>?_) (fun hc3=>?_)
 ·
  have hc3':=of_decide_eq_true hc3
  refine AC.goes ttk 2 rfl ?_
  refine AC.ret ?_
  refine then_ret ?_
  have hX:sendW s0 s1 n0 n1 w0 w1 (⟨idn,kind,1,shop,move,sum⟩:Deed)=(w0,w1,(⟨5,0⟩:Answer)):=by
    (have ht:s1.kept.take q=s1.kept:=List.take_of_length_le (by omega));rw [ht] at hi0_1;unfold sendW;dsimp only;rw [if_neg (by decide),if_pos rfl];unfold sendQ packs;rw [<-hi0_1];first|rw [if_pos (by simp;omega)]|rw [if_neg (by simp;omega)]
  rw [hX] at hr;clear hX
  simp only [Prod.mk.injEq] at hr;obtain ⟨rfl,rfl,rfl⟩:=hr
  refine retQ_go ttk [0,1] 1 rfl rfl rfl rfl rfl rfl ?_ ?_
  all_goals first|rfl|(simp [ufs,bkL,rwL];done)|(simp [ufs,bkL,rwL];omega)
 have hc3':=of_decide_eq_false hc3
 refine AC.sk ?_
 refine AC.freezeF (s':=[(0,(aC (.p 0 0 0 0))),(1,(aC (.q (rDeed (⟨idn,kind,1,shop,move,sum⟩:Deed)) 0))),(4,(aC (.p 1 0 0 0))),(5,(aI 0)),(6,(aC (vlK (m++([(⟨(⟨0,0,0,0⟩:Transfer),n1⟩:Packet)]))))),(45,(aC (vlT s1.kept))),(46,(aI (↑s1.kept.length:Int))),(47,(aI (↑q:Int))),(70,(aC (vlK (m++([(⟨(⟨0,0,0,0⟩:Transfer),n1⟩:Packet)]))))),(71,(aC (vlK (m++([(⟨(⟨0,0,0,0⟩:Transfer),n1⟩:Packet)]))))),(72,(aI (↑(m.length+1):Int))),(73,(aB (decide ((↑(m.length+1):Int) > 60))))]) (h':=[(1,(.box 65 [(cI 0),(cI 0)])),(0,(.box 98 (((((((((rwL x).set 5 (cI s0.sent)).set 6 (vlT s0.kept)).set 7 (cI s1.sent)).set 8 (vlT s1.kept)).set 9 (cI n0)).set 10 (cI n1)).set 11 (vlK w0)).set 12 (vlK w1))))]) hF0 4 rfl rfl ⟨⟨_,rfl,.inl ⟨rfl,rfl⟩⟩,⟨_,rfl,.inl ⟨rfl,rfl⟩⟩,⟨_,rfl,.inl ⟨rfl,rfl⟩⟩,⟨_,rfl,.inl ⟨rfl,rfl⟩⟩,⟨_,rfl,.inr ⟨_,_,rfl,rfl,.s rfl (by decide) (by first|omega|(simp;done)|(simp;omega))⟩⟩,⟨_,rfl,.inl ⟨rfl,rfl⟩⟩,⟨_,rfl,.inl ⟨rfl,rfl⟩⟩,⟨_,rfl,.inl ⟨rfl,rfl⟩⟩,⟨_,rfl,.inr ⟨_,_,rfl,rfl,.s rfl (by decide) (by first|omega|(simp;done)|(simp;omega))⟩⟩,⟨_,rfl,.inr ⟨_,_,rfl,rfl,.s rfl (by decide) (by first|omega|(simp;done)|(simp;omega))⟩⟩,⟨_,rfl,.inl ⟨rfl,rfl⟩⟩,⟨_,rfl,.inl ⟨rfl,rfl⟩⟩,trivial⟩ ⟨rfl,rfl,trivial⟩ rfl ?_
 refine AC.go ttk 6 rfl ?_
 refine AL.vl (g_indexB (i:=0) rfl rfl rfl Try.underlying38 sz37 rfl (by decide)) rfl ?_
 refine AL.runs ttk 1 rfl ?_
 refine AL.nx ?_
 refine AC.goes ttk 2 rfl ?_
 refine AC.ret ?_
 have hX:sendW s0 s1 n0 n1 w0 w1 (⟨idn,kind,1,shop,move,sum⟩:Deed)=(m++([(⟨(⟨0,0,0,0⟩:Transfer),n1⟩:Packet)]),w1,(⟨0,0⟩:Answer)):=by
   (have ht:s1.kept.take q=s1.kept:=List.take_of_length_le (by omega));rw [ht] at hi0_1;unfold sendW;dsimp only;rw [if_neg (by decide),if_pos rfl];unfold sendQ packs;rw [<-hi0_1];first|rw [if_pos (by simp;omega)]|rw [if_neg (by simp;omega)]
 rw [hX] at hr;clear hX
 simp only [Prod.mk.injEq] at hr;obtain ⟨rfl,rfl,rfl⟩:=hr
 refine retQ_go ttk [0,1] 1 rfl rfl rfl rfl rfl rfl ?_ ?_
 all_goals first|rfl|(simp [ufs,bkL,rwL];done)|(simp [ufs,bkL,rwL];omega)
set_option maxRecDepth 100000 in
set_option maxHeartbeats 2000000 in
theorem c_bsend2 (x:Nat->Value) (hx:∀ i,(x i).oneCell'=true) (s0 s1:Sender) (n0 n1:Int) (w0 w1:List Packet) (d:Deed) (l0:w0.length<=60) (l1:w1.length<=60) (m0:s0.kept.length<=40) (m1:s1.kept.length<=40) (hn:¬d.n=0/\¬d.n=1) (v0:List Packet) (v1:List Packet) (a2:Answer) (hr:sendW s0 s1 n0 n1 w0 w1 d=(v0,v1,a2)):FnE Try.prog 66 [(.c (.p 0 0 0 0)),(.c (.q (rDeed d) 0))] [(0,(.box 98 (((((((((rwL x).set 5 (cI s0.sent)).set 6 (vlT s0.kept)).set 7 (cI s1.sent)).set 8 (vlT s1.kept)).set 9 (cI n0)).set 10 (cI n1)).set 11 (vlK w0)).set 12 (vlK w1))))] [0] (.v (.g [cI a2.err,cI a2.auth])) [(0,(.box 98 (((((((((rwL x).set 5 (cI s0.sent)).set 6 (vlT s0.kept)).set 7 (cI s1.sent)).set 8 (vlT s1.kept)).set 9 (cI n0)).set 10 (cI n1)).set 11 (vlK v0)).set 12 (vlK v1))))]:=by
 refine FnE.mkF 83 [(0,(aC (.p 0 0 0 0))),(1,(aC (.q (rDeed d) 0)))] 1 Try.func66 rfl rfl rfl rfl rfl rfl rfl rfl rfl ?_
 intro W0 F0 T0 pg hF
 have hF0:∀ b,F0 b->(pg 0).g=b:=fun b hb=>by obtain ⟨k,hk,h⟩:=hF b hb;rw [List.mem_singleton.1 hk] at h;exact h
 refine AC.goes ttk 1 rfl ?_
 refine AC.seq ?_
 refine AC.cutB 20 ((decide (¬d.n=0)) && (decide (¬d.n=1))) ?_ ?_
 ·
  refine AC.region ?_
  refine AL.runs ttk 6 rfl ?_
  refine AL.dec (t:=14) rfl (fun hb1=>?_) (fun hb1=>?_)
  ·
   have hb1':=of_decide_eq_true hb1
   refine AL.runs ttk 6 rfl ?_
   refine AL.nx ?_
   exact Weak.popB 13 rfl rfl (by first|(simp [hb1];done)|(simp_all;done)|(exfalso;simp_all;done)|(simp_all;omega)) rfl
  have hb1':=of_decide_eq_false hb1
  refine AL.runs ttk 6 rfl ?_
  refine AL.nx ?_
  exact Weak.popB 13 rfl rfl (by first|(simp [hb1];done)|(simp_all;done)|(exfalso;simp_all;done)|(simp_all;omega)) rfl
 refine AC.cond rfl (fun hc2=>?_) (fun hc2=>?_)
 ·
  have hc2':=hc2;try simp only [sumB,dns] at hc2'
  refine AC.goes ttk 2 rfl ?_
  refine AC.ret ?_
  refine then_ret ?_
  have hX:sendW s0 s1 n0 n1 w0 w1 d=(w0,w1,(⟨6,0⟩:Answer)):=by
    unfold sendW;rw [if_neg hn.1,if_neg hn.2]
  rw [hX] at hr;clear hX
  simp only [Prod.mk.injEq] at hr;obtain ⟨rfl,rfl,rfl⟩:=hr
  refine retQ_go ttk [0,1] 1 rfl rfl rfl rfl rfl rfl ?_ ?_
  all_goals first|rfl|(simp [ufs,bkL,rwL];done)|(simp [ufs,bkL,rwL];omega)
 have hc2':=hc2;try simp only [sumB,dns] at hc2'
 (exfalso;simp at *;omega)
set_option maxRecDepth 100000 in
set_option maxHeartbeats 2000000 in
theorem c_over (x:Nat->Value) (hx:∀ i,(x i).oneCell'=true) (today:List Record) (days:List (List Int)) (l0:today.length<=100) (l1:days.length<=1000) (today2:List Record) (days2:List (List Int)) (a2:Answer) (hr:overK today days=(today2,days2,a2)):FnE Try.prog 69 [(.c (.p 0 0 0 0))] [(0,(.box 98 (((rwL x).set 16 (.s 1 0 4 today.length)).set 17 (.s 2 0 1 days.length)))),(1,(alR today)),(2,(alY days))] [0] (.v (.g [cI a2.err,cI a2.auth])) [(0,(.box 98 (((rwL x).set 16 (.s 1 0 4 today2.length)).set 17 (.s 2 0 1 days2.length)))),(1,(alR today2)),(2,(alY days2))]:=by
 refine FnE.mk 37 [(0,(aC (.p 0 0 0 0)))] 3 Try.func69 rfl rfl rfl rfl rfl rfl rfl rfl rfl ?_
 intro W0 F0 T0 pg
 refine AC.goes ttk 1 rfl ?_
 refine AC.go ttk 5 rfl ?_
 obtain ⟨xr0,f0,hr0⟩:∃ (xr0:List Int) (f0:Fault),bytesR today=(xr0,f0):=⟨_,_,rfl⟩
 refine AL.opF (av':=(.t [(.c (vlB xr0)),(.g [(cI f0.err),(cI f0.at_)])])) (Wanted.plain rfl) (g_callE 4 [1] (c_day_Bytes today (by first|omega|(simp;done)|(simp;omega)) xr0 f0 hr0) en92 rfl rfl ⟨⟨_,rfl,.c (.s rfl (by decide) (by first|omega|(simp;done)|(simp;omega)))⟩,trivial⟩ ⟨trivial,⟨rfl,rfl,trivial⟩,trivial⟩ ⟨(isv_rU8 _),trivial⟩ rfl rfl rfl rfl) ⟨.inr ⟨_,_,_,_,_,rfl,rfl,rfl,by simp⟩,⟨.inl ⟨_,rfl,rfl⟩,.inl ⟨_,rfl,rfl⟩,trivial⟩,trivial⟩ rfl rfl rfl ?_
 refine AL.runs ttk 6 rfl ?_
 refine AL.nx ?_
 refine AC.seq ?_
 refine AC.goes ttk 3 rfl ?_
 refine AC.cond rfl (fun hc1=>?_) (fun hc1=>?_)
 ·
  have hc1':=of_decide_eq_true hc1
  refine AC.goes ttk 4 rfl ?_
  refine AC.ret ?_
  refine then_ret ?_
  have hX:overK today days=(today,days,(⟨f0.err,0⟩:Answer)):=by
    unfold overK;simp only [hr0];(repeat' split)<;>first|rfl|omega|(simp_all;done)
  rw [hX] at hr;clear hX
  simp only [Prod.mk.injEq] at hr;obtain ⟨rfl,rfl,rfl⟩:=hr
  refine retQ_go ttk [0,1,2,3] 3 rfl rfl rfl rfl rfl rfl ?_ ?_
  all_goals first|rfl|(simp [ufs,bkL,rwL];done)|(simp [ufs,bkL,rwL];omega)
 have hc1':=of_decide_eq_false hc1
 refine AC.sk ?_
 refine AC.go ttk 7 rfl ?_
 refine AL.cn 6 [5,4,3,0,1,2] (g_lit (ys:=[(0,(.c (vlB xr0)))]) (rows:=([xr0]).map rDay) 5 sl43 rfl (by decide) ⟨⟨rfl,rfl⟩,trivial⟩ rfl rfl rfl rfl) rfl ?_
 refine AL.cn 7 [6,5,4,3,0,1] (g_append (m:=1) (N:=days.length+1) (k2:=6) (ys:=([xr0]).map rDay) sl43 rfl rfl rfl rfl rfl rfl (by first|omega|(simp;done)|(simp;omega)) rfl (.s rfl (by first|omega|(simp;done)|(simp;omega))) (by first|omega|(simp;done)|(simp;omega)) (by first|omega|(simp;done)|(simp;omega)) appmap (by decide) (by first|omega|(simp;done)|(simp;omega)) (by first|omega|(simp;done)|(simp;omega))) rfl ?_
 refine AL.runs ttk 4 rfl ?_
 refine AL.nx ?_
 refine AC.recell (k:=0) (q:=17) (c':=(.s 6 0 1 ((days++([xr0])).length))) rfl rfl (by first|rfl|(simp;done)|(congr 1;omega)) rfl ?_
 refine AC.goes ttk 5 rfl ?_
 refine AC.goes ttk 2 rfl ?_
 refine AC.ret ?_
 refine retQ_nilB 0 16 83 4 rfl rfl rfl ?_
 have hX:overK today days=(([]:List Record),days++([xr0]),(⟨0,0⟩:Answer)):=by
   unfold overK;simp only [hr0];(repeat' split)<;>first|rfl|omega|(simp_all;done)
 rw [hX] at hr;clear hX
 simp only [Prod.mk.injEq] at hr;obtain ⟨rfl,rfl,rfl⟩:=hr
 refine retQ_go ttk [0,7,6,3] 3 rfl rfl rfl rfl rfl rfl ?_ ?_
 all_goals first|rfl|(simp [ufs,bkL,rwL];done)|(simp [ufs,bkL,rwL];omega)
end Go.Proofs.Ytegepioggeggaaa.Dev
