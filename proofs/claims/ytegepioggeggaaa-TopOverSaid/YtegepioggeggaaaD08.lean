/- A part of the proof: Auth2, Auth3, Stand1, Stand2, Stand3, Stand4, Stand5, Sort1, Sort2, Sort3. No condition. -/
import Derived.Test.YtegepioggeggaaaD07
import Derived.Test.YtegepioggeggaaaD04
import Derived.Test.YtegepioggeggaaaD05
import Derived.Test.YtegepioggeggaaaD02
import Derived.Test.YtegepioggeggaaaD01
import Derived.Test.YtegepioggeggaaaD06
set_option linter.unusedVariables false
set_option linter.unusedSimpArgs false
namespace Go.Proofs.Ytegepioggeggaaa.Dev
open Go.RowKit

set_option maxRecDepth 100000 in
set_option maxHeartbeats 1000000 in
theorem c_auth_Late (a:Auth) (t:Int) (b:Auth) (hr:lateAuth a t=b):Fn Try.prog 104 [(.g [(cI a.card),(cI a.shop),(cI a.sum),(cI a.captured),(cI a.refunded),(cI a.disputed),(cI a.till),(cB a.shut)]),(.c (cI t))] (.v (.g [(cI b.card),(cI b.shop),(cI b.sum),(cI b.captured),(cI b.refunded),(cI b.disputed),(cI b.till),(cB b.shut)])) []:=by
 refine Fn.mk' 11 [(0,(aG [(cI a.card),(cI a.shop),(cI a.sum),(cI a.captured),(cI a.refunded),(cI a.disputed),(cI a.till),(cB a.shut)])),(1,(aI t))] Try.func104 rfl rfl rfl rfl ?_
 intro W0 T0
 refine AC.goes ttk 2 rfl ?_
 refine AC.seq ?_
 refine AC.goes ttk 4 rfl ?_
 refine AC.cond rfl (fun hc1=>?_) (fun hc1=>?_)
 ·
  have hc1':=of_decide_eq_true hc1
  refine AC.region ?_
  refine AL.runs ttk 2 rfl ?_
  refine AL.nx ?_
  refine AC.goes ttk 2 rfl ?_
  refine AC.ret ?_
  have hX:lateAuth a t=(⟨a.card,a.shop,a.sum,a.captured,a.refunded,a.disputed,a.till,true⟩:Auth):=by
    refine auth_ext rfl rfl rfl rfl rfl rfl rfl ?_;by_cases hT:a.till<=t<;>first|(exfalso;omega)|simp [lateAuth,hT]
  rw [hX] at hr;clear hX
  subst hr
  refine retQ_go ttk [1] 0 rfl rfl rfl rfl rfl rfl ?_ ?_
  all_goals first|rfl|(simp [ufs];done)|(simp [ufs];omega)
 have hc1':=of_decide_eq_false hc1
 refine AC.sk ?_
 refine AC.goes ttk 2 rfl ?_
 refine AC.ret ?_
 have hX:lateAuth a t=a:=by
   refine auth_ext rfl rfl rfl rfl rfl rfl rfl ?_;by_cases hT:a.till<=t<;>first|(exfalso;omega)|simp [lateAuth,hT]
 rw [hX] at hr;clear hX
 subst hr
 refine retQ_go ttk [1] 0 rfl rfl rfl rfl rfl rfl ?_ ?_
 all_goals first|rfl|(simp [ufs];done)|(simp [ufs];omega)
set_option maxRecDepth 100000 in
set_option maxHeartbeats 1000000 in
theorem c_auth_Hold (a:Auth) (ha:wrongAuth a=0) (e:Int) (hr:holdAuth a=e):Fn Try.prog 27 [(.g [(cI a.card),(cI a.shop),(cI a.sum),(cI a.captured),(cI a.refunded),(cI a.disputed),(cI a.till),(cB a.shut)])] (.v (.c (cI e))) []:=by
 refine Fn.mk' 10 [(0,(aG [(cI a.card),(cI a.shop),(cI a.sum),(cI a.captured),(cI a.refunded),(cI a.disputed),(cI a.till),(cB a.shut)]))] Try.func27 rfl rfl rfl rfl ?_
 intro W0 T0
 have hw:=rightAuth ha
 refine AC.goes ttk 2 rfl ?_
 refine AC.seq ?_
 refine AC.goes ttk 2 rfl ?_
 refine AC.cond rfl (fun hc1=>?_) (fun hc1=>?_)
 ·
  have hc1':=hc1;try simp only [sumB,dns] at hc1'
  refine AC.goes ttk 1 rfl ?_
  refine AC.ret ?_
  refine then_ret ?_
  have hX:holdAuth a=0:=by
    (unfold holdAuth;try dsimp only);(repeat' split)<;>first|rfl|omega|(exfalso;omega)|(subst_vars;rfl)|(simp_all;done)|(simp_all;omega)
  rw [hX] at hr;clear hX
  subst hr
  refine retQ_go ttk [] 0 rfl rfl rfl rfl rfl rfl ?_ ?_
  all_goals first|rfl|(simp [ufs];done)|(simp [ufs];omega)
 have hc1':=hc1;try simp only [sumB,dns] at hc1'
 refine AC.sk ?_
 refine AC.go ttk 4 rfl ?_
 refine AL.vl (g_binI rfl rfl rfl (wrap_ok (by first|omega|(simp;done)|(simp;omega)))) rfl ?_
 refine AL.runs ttk 1 rfl ?_
 refine AL.nx ?_
 refine AC.ret ?_
 have hX:holdAuth a=(a.sum - a.captured):=by
   (unfold holdAuth;try dsimp only);(repeat' split)<;>first|rfl|omega|(exfalso;omega)|(subst_vars;rfl)|(simp_all;done)|(simp_all;omega)
 rw [hX] at hr;clear hX
 subst hr
 refine retQ_go ttk [] 0 rfl rfl rfl rfl rfl rfl ?_ ?_
 all_goals first|rfl|(simp [ufs];done)|(simp [ufs];omega)
set_option maxRecDepth 100000 in
set_option maxHeartbeats 1000000 in
theorem c_auth_left (a:Auth) (h:wrongAuth a=0):FnE Try.prog 101 [(.c (.p 0 0 0 0))] [(0,(.box 67 [(cI a.card),(cI a.shop),(cI a.sum),(cI a.captured),(cI a.refunded),(cI a.disputed),(cI a.till),(cB a.shut)]))] [0] (aI (a.captured - a.refunded - a.disputed)) [(0,(.box 67 [(cI a.card),(cI a.shop),(cI a.sum),(cI a.captured),(cI a.refunded),(cI a.disputed),(cI a.till),(cB a.shut)]))]:=by
 refine FnE.mk 17 [(0,(aC (.p 0 0 0 0)))] 1 Try.func101 rfl rfl rfl rfl rfl rfl rfl rfl rfl ?_
 intro W0 F0 T0 pg
 have hw:=rightAuth h
 refine AC.goes ttk 1 rfl ?_
 refine AC.seq ?_
 refine AC.drawP [0] [0] mixed rfl rfl ?_
 refine PD.runs (kn:=[]) ttk 8 rfl trivial ?_
 refine PD.op (n':=1) [6,10] [] rfl rfl (.inl ⟨(Wanted.plain rfl),GOp.cast (g_binI rfl rfl rfl (wrap_ok (by first|omega|(simp;done)|(simp;omega)))) rfl⟩) rfl ?_
 refine PD.runs (kn:=[]) ttk 4 rfl trivial ?_
 refine PD.op (n':=1) [11,15] [] rfl rfl (.inl ⟨(Wanted.plain rfl),GOp.cast (g_binI rfl rfl rfl (wrap_ok (by first|omega|(simp;done)|(simp;omega)))) rfl⟩) rfl ?_
 refine PD.runs (kn:=[]) ttk 1 rfl trivial ?_
 refine PD.fin [0] rfl rfl rfl rfl (by kernel_rfl) ?_
 refine AL.nx ?_
 refine AC.ret ?_
 refine retQ_go ttk [0] 1 rfl rfl rfl rfl rfl rfl ?_ ?_
 all_goals first|rfl|(simp [ufs];done)|(simp [ufs];omega)
set_option maxRecDepth 100000 in
set_option maxHeartbeats 1000000 in
theorem c_auth_open (a:Auth) (kind n:Int) (h:wrongAuth a=0) (h1:1<=n) (h2:n<=1000000) (b:Auth) (e:Int) (hr:openAuth a kind n=(b,e)):FnE Try.prog 102 [(.c (.p 0 0 0 0)),(.c (cI kind)),(.c (cI n))] [(0,(.box 67 [(cI a.card),(cI a.shop),(cI a.sum),(cI a.captured),(cI a.refunded),(cI a.disputed),(cI a.till),(cB a.shut)]))] [0] (.v (.c (cI e))) [(0,(.box 67 [(cI b.card),(cI b.shop),(cI b.sum),(cI b.captured),(cI b.refunded),(cI b.disputed),(cI b.till),(cB b.shut)]))]:=by
 refine FnE.mk 91 [(0,(aC (.p 0 0 0 0))),(1,(aI kind)),(2,(aI n))] 1 Try.func102 rfl rfl rfl rfl rfl rfl rfl rfl rfl ?_
 intro W0 F0 T0 pg
 have hw:=rightAuth h
 refine AC.goes ttk 1 rfl ?_
 refine AC.seq ?_
 refine AC.drawP [0,1,2] [0] mixed rfl rfl ?_
 refine PD.runs (kn:=[]) ttk 8 rfl trivial ?_
 refine PD.op (n':=1) [11,15] [] rfl rfl (.inl ⟨(Wanted.plain rfl),GOp.cast (g_binI rfl rfl rfl (wrap_ok (by first|omega|(simp;done)|(simp;omega)))) rfl⟩) rfl ?_
 refine PD.runs (kn:=[]) ttk 1 rfl trivial ?_
 refine PD.fin [0] rfl rfl rfl rfl (by kernel_rfl) ?_
 refine AL.nx ?_
 refine AC.seq ?_
 refine AC.block ?_
 refine AC.goes ttk 5 rfl ?_
 refine AC.cond rfl (fun hc1=>?_) (fun hc1=>?_)
 ·
  have hc1':=hc1;try simp only [sumB,dns] at hc1'
  refine AC.goes ttk 1 rfl ?_
  refine AC.ret ?_
  refine block_ret ?_
  refine then_ret ?_
  have hX:openAuth a kind n=(a,9):=by
    (unfold openAuth;try dsimp only);(repeat' split)<;>first|rfl|omega|(exfalso;omega)|(subst_vars;rfl)|(simp_all;done)|(simp_all;omega)
  rw [hX] at hr;clear hX
  simp only [Prod.mk.injEq] at hr;obtain ⟨rfl,rfl⟩:=hr
  refine retQ_go ttk [0] 1 rfl rfl rfl rfl rfl rfl ?_ ?_
  all_goals first|rfl|(simp [ufs];done)|(simp [ufs];omega)
 have hc1':=hc1;try simp only [sumB,dns] at hc1'
 refine AC.goes ttk 3 rfl ?_
 refine AC.cond rfl (fun hc2=>?_) (fun hc2=>?_)
 ·
  have hc2':=of_decide_eq_true hc2
  refine AC.seq ?_
  refine AC.go ttk 5 rfl ?_
  refine AL.vl (g_binI rfl rfl rfl (wrap_ok (by first|omega|(simp;done)|(simp;omega)))) rfl ?_
  refine AL.runs ttk 1 rfl ?_
  refine AL.nx ?_
  refine AC.cond rfl (fun hc3=>?_) (fun hc3=>?_)
  ·
   have hc3':=of_decide_eq_true hc3
   refine AC.goes ttk 1 rfl ?_
   refine AC.ret ?_
   refine then_ret ?_
   refine block_ret ?_
   refine then_ret ?_
   have hX:openAuth a kind n=(a,4):=by
     (unfold openAuth;try dsimp only);(repeat' split)<;>first|rfl|omega|(exfalso;omega)|(subst_vars;rfl)|(simp_all;done)|(simp_all;omega)
   rw [hX] at hr;clear hX
   simp only [Prod.mk.injEq] at hr;obtain ⟨rfl,rfl⟩:=hr
   refine retQ_go ttk [0] 1 rfl rfl rfl rfl rfl rfl ?_ ?_
   all_goals first|rfl|(simp [ufs];done)|(simp [ufs];omega)
  have hc3':=of_decide_eq_false hc3
  refine AC.sk ?_
  refine AC.go ttk 5 rfl ?_
  refine AL.vl (g_binI rfl rfl rfl (wrap_ok (by first|omega|(simp;done)|(simp;omega)))) rfl ?_
  refine AL.runs ttk 3 rfl ?_
  refine AL.nx ?_
  refine AC.goes ttk 1 rfl ?_
  refine AC.ret ?_
  refine block_ret ?_
  refine then_ret ?_
  have hX:openAuth a kind n=((⟨a.card,a.shop,a.sum+n,a.captured,a.refunded,a.disputed,a.till,a.shut⟩:Auth),0):=by
    (unfold openAuth;try dsimp only);(repeat' split)<;>first|rfl|omega|(exfalso;omega)|(subst_vars;rfl)|(simp_all;done)|(simp_all;omega)
  rw [hX] at hr;clear hX
  simp only [Prod.mk.injEq] at hr;obtain ⟨rfl,rfl⟩:=hr
  refine retQ_go ttk [0] 1 rfl rfl rfl rfl rfl rfl ?_ ?_
  all_goals first|rfl|(simp [ufs];done)|(simp [ufs];omega)
 have hc2':=of_decide_eq_false hc2
 refine AC.goes ttk 4 rfl ?_
 refine AC.cond rfl (fun hc4=>?_) (fun hc4=>?_)
 ·
  have hc4':=of_decide_eq_true hc4
  refine AC.goes ttk 1 rfl ?_
  refine AC.ret ?_
  refine block_ret ?_
  refine then_ret ?_
  have hX:openAuth a kind n=(a,10):=by
    (unfold openAuth;try dsimp only);(repeat' split)<;>first|rfl|omega|(exfalso;omega)|(subst_vars;rfl)|(simp_all;done)|(simp_all;omega)
  rw [hX] at hr;clear hX
  simp only [Prod.mk.injEq] at hr;obtain ⟨rfl,rfl⟩:=hr
  refine retQ_go ttk [0] 1 rfl rfl rfl rfl rfl rfl ?_ ?_
  all_goals first|rfl|(simp [ufs];done)|(simp [ufs];omega)
 have hc4':=of_decide_eq_false hc4
 refine AC.goes ttk 3 rfl ?_
 refine AC.cond rfl (fun hc5=>?_) (fun hc5=>?_)
 ·
  have hc5':=of_decide_eq_true hc5
  refine AC.go ttk 5 rfl ?_
  refine AL.vl (g_binI rfl rfl rfl (wrap_ok (by first|omega|(simp;done)|(simp;omega)))) rfl ?_
  refine AL.runs ttk 3 rfl ?_
  refine AL.nx ?_
  refine AC.seq ?_
  refine AC.drawP [0,1,2] [0] mixed rfl rfl ?_
  refine PD.runs (kn:=[]) ttk 12 rfl trivial ?_
  refine PD.fin [0] rfl rfl rfl rfl (by kernel_rfl) ?_
  refine AL.runs ttk 1 rfl ?_
  refine AL.nx ?_
  refine AC.goes ttk 1 rfl ?_
  refine AC.ret ?_
  refine block_ret ?_
  refine then_ret ?_
  have hX:openAuth a kind n=((⟨a.card,a.shop,a.sum - n,a.captured,a.refunded,a.disputed,a.till,decide ((a.sum - n)=a.captured)⟩:Auth),0):=by
    (unfold openAuth;try dsimp only);(repeat' split)<;>first|rfl|omega|(exfalso;omega)|(subst_vars;rfl)|(simp_all;done)|(simp_all;omega)
  rw [hX] at hr;clear hX
  simp only [Prod.mk.injEq] at hr;obtain ⟨rfl,rfl⟩:=hr
  refine retQ_go ttk [0] 1 rfl rfl rfl rfl rfl rfl ?_ ?_
  all_goals first|rfl|(simp [ufs];done)|(simp [ufs];omega)
 have hc5':=of_decide_eq_false hc5
 refine AC.skip ?_
 refine block_ok ?_
 refine then_ok ?_
 refine AC.go ttk 5 rfl ?_
 refine AL.vl (g_binI rfl rfl rfl (wrap_ok (by first|omega|(simp;done)|(simp;omega)))) rfl ?_
 refine AL.runs ttk 3 rfl ?_
 refine AL.nx ?_
 refine AC.seq ?_
 rcases Bool.eq_false_or_eq_true (decide (kind=3)) with hb6|hb6
 ·
  have hb6':=of_decide_eq_true hb6
  refine AC.drawP [0,1] [0] mixed rfl rfl ?_
  refine PD.runs (kn:=[(77,true)]) ttk 16 rfl ⟨hb6,trivial⟩ ?_
  refine PD.fin [0] rfl rfl rfl rfl (by kernel_rfl) ?_
  refine AL.runs ttk 1 rfl ?_
  refine AL.nx ?_
  refine AC.goes ttk 1 rfl ?_
  refine AC.ret ?_
  have hX:openAuth a kind n=((⟨a.card,a.shop,a.sum,a.captured+n,a.refunded,a.disputed,a.till,true⟩:Auth),0):=by
    (unfold openAuth;try dsimp only);(repeat' split)<;>first|rfl|omega|(exfalso;omega)|(subst_vars;rfl)|(simp_all;done)|(simp_all;omega)
  rw [hX] at hr;clear hX
  simp only [Prod.mk.injEq] at hr;obtain ⟨rfl,rfl⟩:=hr
  refine retQ_go ttk [0] 1 rfl rfl rfl rfl rfl rfl ?_ ?_
  all_goals first|rfl|(simp [ufs];done)|(simp [ufs];omega)
 have hb6':=of_decide_eq_false hb6
 refine AC.drawP [0,1] [0] mixed rfl rfl ?_
 refine PD.runs (kn:=[(77,false)]) ttk 16 rfl ⟨hb6,trivial⟩ ?_
 refine PD.fin [0] rfl rfl rfl rfl (by kernel_rfl) ?_
 refine AL.runs ttk 1 rfl ?_
 refine AL.nx ?_
 refine AC.goes ttk 1 rfl ?_
 refine AC.ret ?_
 have hX:openAuth a kind n=((⟨a.card,a.shop,a.sum,a.captured+n,a.refunded,a.disputed,a.till,decide ((a.captured+n)=a.sum)⟩:Auth),0):=by
   (unfold openAuth;try dsimp only);(repeat' split)<;>first|rfl|omega|(exfalso;omega)|(subst_vars;rfl)|(simp_all;done)|(simp_all;omega)
 rw [hX] at hr;clear hX
 simp only [Prod.mk.injEq] at hr;obtain ⟨rfl,rfl⟩:=hr
 refine retQ_go ttk [0] 1 rfl rfl rfl rfl rfl rfl ?_ ?_
 all_goals first|rfl|(simp [ufs];done)|(simp [ufs];omega)
set_option maxRecDepth 100000 in
set_option maxHeartbeats 1000000 in
theorem c_auth_Move (a:Auth) (kind n:Int) (b:Auth) (e:Int) (hr:moveAuth a kind n=(b,e)):Fn Try.prog 81 [(.g [(cI a.card),(cI a.shop),(cI a.sum),(cI a.captured),(cI a.refunded),(cI a.disputed),(cI a.till),(cB a.shut)]),(.c (cI kind)),(.c (cI n))] (.t [(.g [(cI b.card),(cI b.shop),(cI b.sum),(cI b.captured),(cI b.refunded),(cI b.disputed),(cI b.till),(cB b.shut)]),(.c (cI e))]) []:=by
 refine Fn.mk' 76 [(0,(aG [(cI a.card),(cI a.shop),(cI a.sum),(cI a.captured),(cI a.refunded),(cI a.disputed),(cI a.till),(cB a.shut)])),(1,(aI kind)),(2,(aI n))] Try.func81 rfl rfl rfl rfl ?_
 intro W0 T0
 have hw:=@rightAuth a
 refine AC.goes ttk 3 rfl ?_
 refine AC.seq ?_
 refine AC.go ttk 1 rfl ?_
 obtain ⟨e0,hr0⟩:∃ (e0:Int),wrongAuth a=e0:=⟨_,rfl⟩
 refine AL.cn 2 [1,0] (g_call 2 (c_auth_Wrong a e0 hr0) en26 rfl rfl ⟨⟨_,rfl,.g ⟨.d _,.d _,.d _,.d _,.d _,.d _,.d _,.d _,trivial⟩⟩,trivial⟩ trivial trivial rfl rfl rfl rfl) rfl ?_
 refine AL.runs ttk 1 rfl ?_
 refine AL.nx ?_
 refine AC.goes ttk 2 rfl ?_
 refine AC.cond rfl (fun hc1=>?_) (fun hc1=>?_)
 ·
  have hc1':=of_decide_eq_true hc1
  refine AC.goes ttk 4 rfl ?_
  refine AC.ret ?_
  refine then_ret ?_
  have hX:moveAuth a kind n=((⟨0,0,0,0,0,0,0,false⟩:Auth),e0):=by
    (unfold moveAuth;try dsimp only);(try simp only [hr0]);(repeat' split)<;>first|rfl|omega|(exfalso;omega)|(subst_vars;rfl)|(simp_all;done)|(simp_all;omega)
  rw [hX] at hr;clear hX
  simp only [Prod.mk.injEq] at hr;obtain ⟨rfl,rfl⟩:=hr
  refine retQ_go ttk [1] 0 rfl rfl rfl rfl rfl rfl ?_ ?_
  all_goals first|rfl|(simp [ufs];done)|(simp [ufs];omega)
 have hc1':=of_decide_eq_false hc1
 refine AC.sk ?_
 refine AC.seq ?_
 refine AC.cutB 21 ((decide (kind < 1))||(decide (kind > 8))) ?_ ?_
 ·
  refine AC.region ?_
  refine AL.runs ttk 3 rfl ?_
  refine AL.dec (t:=18) rfl (fun hb2=>?_) (fun hb2=>?_)
  ·
   have hb2':=of_decide_eq_true hb2
   refine AL.runs ttk 3 rfl ?_
   refine AL.nx ?_
   exact Weak.popB 7 rfl rfl (by first|(simp [hb2];done)|(simp_all;done)|(exfalso;simp_all;done)|(simp_all;omega)) rfl
  have hb2':=of_decide_eq_false hb2
  refine AL.runs ttk 3 rfl ?_
  refine AL.nx ?_
  exact Weak.popB 7 rfl rfl (by first|(simp [hb2];done)|(simp_all;done)|(exfalso;simp_all;done)|(simp_all;omega)) rfl
 refine AC.cond rfl (fun hc3=>?_) (fun hc3=>?_)
 ·
  have hc3':=hc3;try simp only [sumB,dns] at hc3'
  refine AC.goes ttk 3 rfl ?_
  refine AC.ret ?_
  refine then_ret ?_
  have hX:moveAuth a kind n=((⟨0,0,0,0,0,0,0,false⟩:Auth),1):=by
    (unfold moveAuth;try dsimp only);(try simp only [hr0]);(repeat' split)<;>first|rfl|omega|(exfalso;omega)|(subst_vars;rfl)|(simp_all;done)|(simp_all;omega)
  rw [hX] at hr;clear hX
  simp only [Prod.mk.injEq] at hr;obtain ⟨rfl,rfl⟩:=hr
  refine retQ_go ttk [1] 0 rfl rfl rfl rfl rfl rfl ?_ ?_
  all_goals first|rfl|(simp [ufs];done)|(simp [ufs];omega)
 have hc3':=hc3;try simp only [sumB,dns] at hc3'
 refine AC.sk ?_
 refine AC.seq ?_
 refine AC.cutB 28 ((decide (n < 1))||(decide (n > 1000000))) ?_ ?_
 ·
  refine AC.region ?_
  refine AL.runs ttk 3 rfl ?_
  refine AL.dec (t:=25) rfl (fun hb4=>?_) (fun hb4=>?_)
  ·
   have hb4':=of_decide_eq_true hb4
   refine AL.runs ttk 3 rfl ?_
   refine AL.nx ?_
   exact Weak.popB 7 rfl rfl (by first|(simp [hb4];done)|(simp_all;done)|(exfalso;simp_all;done)|(simp_all;omega)) rfl
  have hb4':=of_decide_eq_false hb4
  refine AL.runs ttk 3 rfl ?_
  refine AL.nx ?_
  exact Weak.popB 7 rfl rfl (by first|(simp [hb4];done)|(simp_all;done)|(exfalso;simp_all;done)|(simp_all;omega)) rfl
 refine AC.cond rfl (fun hc5=>?_) (fun hc5=>?_)
 ·
  have hc5':=hc5;try simp only [sumB,dns] at hc5'
  refine AC.goes ttk 3 rfl ?_
  refine AC.ret ?_
  refine then_ret ?_
  have hX:moveAuth a kind n=((⟨0,0,0,0,0,0,0,false⟩:Auth),3):=by
    (unfold moveAuth;try dsimp only);(try simp only [hr0]);(repeat' split)<;>first|rfl|omega|(exfalso;omega)|(subst_vars;rfl)|(simp_all;done)|(simp_all;omega)
  rw [hX] at hr;clear hX
  simp only [Prod.mk.injEq] at hr;obtain ⟨rfl,rfl⟩:=hr
  refine retQ_go ttk [1] 0 rfl rfl rfl rfl rfl rfl ?_ ?_
  all_goals first|rfl|(simp [ufs];done)|(simp [ufs];omega)
 have hc5':=hc5;try simp only [sumB,dns] at hc5'
 refine AC.sk ?_
 refine AC.goes ttk 1 rfl ?_
 refine AC.seq ?_
 refine AC.goes ttk 1 rfl ?_
 refine AC.block ?_
 refine AC.seq ?_
 refine AC.goes ttk 2 rfl ?_
 refine AC.cond rfl (fun hc6=>?_) (fun hc6=>?_)
 ·
  have hc6':=of_decide_eq_true hc6
  refine AC.sk ?_
  refine AC.cond rfl (fun _=>?_) (fun hno=>absurd (hc6.symm.trans hno) (by decide))
  refine AC.go ttk 1 rfl ?_
  refine AL.cn 2 [0,1] (g_callM id id (c_auth_left a (by first|assumption|omega)) en101 rfl rfl ⟨⟨_,rfl,.inl ⟨rfl,rfl⟩⟩,trivial⟩ ⟨rfl,trivial⟩ rfl rfl rfl rfl rfl rfl trivial ⟨⟨trivial,trivial,trivial,trivial,trivial,trivial,trivial,trivial,trivial⟩,trivial⟩ rfl rfl rfl rfl) rfl ?_
  refine AL.runs ttk 1 rfl ?_
  refine AL.nx ?_
  refine AC.cond rfl (fun hc8=>?_) (fun hc8=>?_)
  ·
   have hc8':=of_decide_eq_true hc8
   refine AC.region ?_
   refine AL.runs ttk 1 rfl ?_
   refine AL.nil ?_
   refine block_ok ?_
   refine then_ok ?_
   refine AC.seq ?_
   refine AC.go ttk 1 rfl ?_
   refine AL.vl (g_binI rfl rfl rfl (show _=some (Value.bool true) from rfl)) rfl ?_
   refine AL.nx ?_
   refine AC.cond rfl (fun _=>?_) (fun hno=>by cases hno)
   refine AC.goes ttk 4 rfl ?_
   refine AC.ret ?_
   refine then_ret ?_
   have hX:moveAuth a kind n=((⟨0,0,0,0,0,0,0,false⟩:Auth),10):=by
     (unfold moveAuth;try dsimp only);(try simp only [hr0]);(repeat' split)<;>first|rfl|omega|(exfalso;omega)|(subst_vars;rfl)|(simp_all;done)|(simp_all;omega)
   rw [hX] at hr;clear hX
   simp only [Prod.mk.injEq] at hr;obtain ⟨rfl,rfl⟩:=hr
   refine retQ_go ttk [1] 0 rfl rfl rfl rfl rfl rfl ?_ ?_
   all_goals first|rfl|(simp [ufs];done)|(simp [ufs];omega)
  have hc8':=of_decide_eq_false hc8
  refine AC.goes ttk 2 rfl ?_
  refine AC.cond rfl (fun _=>?_) (fun hno=>absurd (hc6.symm.trans hno) (by decide))
  refine AC.region ?_
  refine AL.runs ttk 3 rfl ?_
  refine AL.vl (g_binI rfl rfl rfl (wrap_ok (by first|omega|(simp;done)|(simp;omega)))) rfl ?_
  refine AL.runs ttk 2 rfl ?_
  refine AL.nil ?_
  refine block_ok ?_
  refine then_ok ?_
  refine AC.seq ?_
  refine AC.go ttk 1 rfl ?_
  refine AL.vl (g_binI rfl rfl rfl (show _=some (Value.bool false) from rfl)) rfl ?_
  refine AL.nx ?_
  refine AC.cond rfl (fun hno=>by cases hno) (fun _=>?_)
  refine AC.sk ?_
  refine AC.goes ttk 3 rfl ?_
  refine AC.ret ?_
  have hX:moveAuth a kind n=((⟨a.card,a.shop,a.sum,a.captured,a.refunded+n,a.disputed,a.till,a.shut⟩:Auth),0):=by
    (unfold moveAuth;try dsimp only);(try simp only [hr0]);(repeat' split)<;>first|rfl|omega|(exfalso;omega)|(subst_vars;rfl)|(simp_all;done)|(simp_all;omega)
  rw [hX] at hr;clear hX
  simp only [Prod.mk.injEq] at hr;obtain ⟨rfl,rfl⟩:=hr
  refine retQ_go ttk [1] 0 rfl rfl rfl rfl rfl rfl ?_ ?_
  all_goals first|rfl|(simp [ufs];done)|(simp [ufs];omega)
 have hc6':=of_decide_eq_false hc6
 refine AC.region ?_
 refine AL.runs ttk 2 rfl ?_
 refine AL.nx ?_
 refine AC.cond rfl (fun hc12=>?_) (fun hc12=>?_)
 ·
  have hc12':=of_decide_eq_true hc12
  refine AC.go ttk 1 rfl ?_
  refine AL.cn 2 [0,1] (g_callM id id (c_auth_left a (by first|assumption|omega)) en101 rfl rfl ⟨⟨_,rfl,.inl ⟨rfl,rfl⟩⟩,trivial⟩ ⟨rfl,trivial⟩ rfl rfl rfl rfl rfl rfl trivial ⟨⟨trivial,trivial,trivial,trivial,trivial,trivial,trivial,trivial,trivial⟩,trivial⟩ rfl rfl rfl rfl) rfl ?_
  refine AL.runs ttk 1 rfl ?_
  refine AL.nx ?_
  refine AC.cond rfl (fun hc13=>?_) (fun hc13=>?_)
  ·
   have hc13':=of_decide_eq_true hc13
   refine AC.region ?_
   refine AL.runs ttk 1 rfl ?_
   refine AL.nil ?_
   refine block_ok ?_
   refine then_ok ?_
   refine AC.seq ?_
   refine AC.go ttk 1 rfl ?_
   refine AL.vl (g_binI rfl rfl rfl (show _=some (Value.bool true) from rfl)) rfl ?_
   refine AL.nx ?_
   refine AC.cond rfl (fun _=>?_) (fun hno=>by cases hno)
   refine AC.goes ttk 4 rfl ?_
   refine AC.ret ?_
   refine then_ret ?_
   have hX:moveAuth a kind n=((⟨0,0,0,0,0,0,0,false⟩:Auth),10):=by
     (unfold moveAuth;try dsimp only);(try simp only [hr0]);(repeat' split)<;>first|rfl|omega|(exfalso;omega)|(subst_vars;rfl)|(simp_all;done)|(simp_all;omega)
   rw [hX] at hr;clear hX
   simp only [Prod.mk.injEq] at hr;obtain ⟨rfl,rfl⟩:=hr
   refine retQ_go ttk [1] 0 rfl rfl rfl rfl rfl rfl ?_ ?_
   all_goals first|rfl|(simp [ufs];done)|(simp [ufs];omega)
  have hc13':=of_decide_eq_false hc13
  refine AC.goes ttk 2 rfl ?_
  refine AC.cond rfl (fun hno=>absurd (hc6.symm.trans hno) (by decide)) (fun _=>?_)
  refine AC.region ?_
  refine AL.runs ttk 3 rfl ?_
  refine AL.vl (g_binI rfl rfl rfl (wrap_ok (by first|omega|(simp;done)|(simp;omega)))) rfl ?_
  refine AL.runs ttk 2 rfl ?_
  refine AL.nil ?_
  refine block_ok ?_
  refine then_ok ?_
  refine AC.seq ?_
  refine AC.go ttk 1 rfl ?_
  refine AL.vl (g_binI rfl rfl rfl (show _=some (Value.bool false) from rfl)) rfl ?_
  refine AL.nx ?_
  refine AC.cond rfl (fun hno=>by cases hno) (fun _=>?_)
  refine AC.sk ?_
  refine AC.goes ttk 3 rfl ?_
  refine AC.ret ?_
  have hX:moveAuth a kind n=((⟨a.card,a.shop,a.sum,a.captured,a.refunded,a.disputed+n,a.till,a.shut⟩:Auth),0):=by
    (unfold moveAuth;try dsimp only);(try simp only [hr0]);(repeat' split)<;>first|rfl|omega|(exfalso;omega)|(subst_vars;rfl)|(simp_all;done)|(simp_all;omega)
  rw [hX] at hr;clear hX
  simp only [Prod.mk.injEq] at hr;obtain ⟨rfl,rfl⟩:=hr
  refine retQ_go ttk [1] 0 rfl rfl rfl rfl rfl rfl ?_ ?_
  all_goals first|rfl|(simp [ufs];done)|(simp [ufs];omega)
 have hc12':=of_decide_eq_false hc12
 refine AC.seq ?_
 refine AC.goes ttk 2 rfl ?_
 refine AC.cond rfl (fun hc17=>?_) (fun hc17=>?_)
 ·
  have hc17':=of_decide_eq_true hc17
  refine AC.sk ?_
  refine AC.cond rfl (fun _=>?_) (fun hno=>absurd (hc17.symm.trans hno) (by decide))
  refine AC.seq ?_
  refine AC.goes ttk 4 rfl ?_
  refine AC.cond rfl (fun hc19=>?_) (fun hc19=>?_)
  ·
   have hc19':=of_decide_eq_true hc19
   refine AC.goes ttk 1 rfl ?_
   refine AC.exit ?_
   refine then_exit ?_
   refine block_hit ?_
   refine then_ok ?_
   refine AC.seq ?_
   refine AC.go ttk 1 rfl ?_
   refine AL.vl (g_binI rfl rfl rfl (show _=some (Value.bool true) from rfl)) rfl ?_
   refine AL.nx ?_
   refine AC.cond rfl (fun _=>?_) (fun hno=>by cases hno)
   refine AC.goes ttk 4 rfl ?_
   refine AC.ret ?_
   refine then_ret ?_
   have hX:moveAuth a kind n=((⟨0,0,0,0,0,0,0,false⟩:Auth),10):=by
     (unfold moveAuth;try dsimp only);(try simp only [hr0]);(repeat' split)<;>first|rfl|omega|(exfalso;omega)|(subst_vars;rfl)|(simp_all;done)|(simp_all;omega)
   rw [hX] at hr;clear hX
   simp only [Prod.mk.injEq] at hr;obtain ⟨rfl,rfl⟩:=hr
   refine retQ_go ttk [1] 0 rfl rfl rfl rfl rfl rfl ?_ ?_
   all_goals first|rfl|(simp [ufs];done)|(simp [ufs];omega)
  have hc19':=of_decide_eq_false hc19
  refine AC.sk ?_
  refine AC.go ttk 3 rfl ?_
  refine AL.vl (g_binI rfl rfl rfl (wrap_ok (by first|omega|(simp;done)|(simp;omega)))) rfl ?_
  refine AL.runs ttk 2 rfl ?_
  refine AL.nx ?_
  refine AC.goes ttk 2 rfl ?_
  refine AC.cond rfl (fun _=>?_) (fun hno=>absurd (hc17.symm.trans hno) (by decide))
  refine AC.region ?_
  refine AL.runs ttk 3 rfl ?_
  refine AL.vl (g_binI rfl rfl rfl (wrap_ok (by first|omega|(simp;done)|(simp;omega)))) rfl ?_
  refine AL.runs ttk 2 rfl ?_
  refine AL.nil ?_
  refine block_ok ?_
  refine then_ok ?_
  refine AC.seq ?_
  refine AC.go ttk 1 rfl ?_
  refine AL.vl (g_binI rfl rfl rfl (show _=some (Value.bool false) from rfl)) rfl ?_
  refine AL.nx ?_
  refine AC.cond rfl (fun hno=>by cases hno) (fun _=>?_)
  refine AC.sk ?_
  refine AC.goes ttk 3 rfl ?_
  refine AC.ret ?_
  have hX:moveAuth a kind n=((⟨a.card,a.shop,a.sum,a.captured,a.refunded+n,a.disputed - n,a.till,a.shut⟩:Auth),0):=by
    (unfold moveAuth;try dsimp only);(try simp only [hr0]);(repeat' split)<;>first|rfl|omega|(exfalso;omega)|(subst_vars;rfl)|(simp_all;done)|(simp_all;omega)
  rw [hX] at hr;clear hX
  simp only [Prod.mk.injEq] at hr;obtain ⟨rfl,rfl⟩:=hr
  refine retQ_go ttk [1] 0 rfl rfl rfl rfl rfl rfl ?_ ?_
  all_goals first|rfl|(simp [ufs];done)|(simp [ufs];omega)
 have hc17':=of_decide_eq_false hc17
 refine AC.region ?_
 refine AL.runs ttk 2 rfl ?_
 refine AL.nx ?_
 refine AC.cond rfl (fun hc23=>?_) (fun hc23=>?_)
 ·
  have hc23':=of_decide_eq_true hc23
  refine AC.seq ?_
  refine AC.goes ttk 4 rfl ?_
  refine AC.cond rfl (fun hc24=>?_) (fun hc24=>?_)
  ·
   have hc24':=of_decide_eq_true hc24
   refine AC.goes ttk 1 rfl ?_
   refine AC.exit ?_
   refine then_exit ?_
   refine block_hit ?_
   refine then_ok ?_
   refine AC.seq ?_
   refine AC.go ttk 1 rfl ?_
   refine AL.vl (g_binI rfl rfl rfl (show _=some (Value.bool true) from rfl)) rfl ?_
   refine AL.nx ?_
   refine AC.cond rfl (fun _=>?_) (fun hno=>by cases hno)
   refine AC.goes ttk 4 rfl ?_
   refine AC.ret ?_
   refine then_ret ?_
   have hX:moveAuth a kind n=((⟨0,0,0,0,0,0,0,false⟩:Auth),10):=by
     (unfold moveAuth;try dsimp only);(try simp only [hr0]);(repeat' split)<;>first|rfl|omega|(exfalso;omega)|(subst_vars;rfl)|(simp_all;done)|(simp_all;omega)
   rw [hX] at hr;clear hX
   simp only [Prod.mk.injEq] at hr;obtain ⟨rfl,rfl⟩:=hr
   refine retQ_go ttk [1] 0 rfl rfl rfl rfl rfl rfl ?_ ?_
   all_goals first|rfl|(simp [ufs];done)|(simp [ufs];omega)
  have hc24':=of_decide_eq_false hc24
  refine AC.sk ?_
  refine AC.go ttk 3 rfl ?_
  refine AL.vl (g_binI rfl rfl rfl (wrap_ok (by first|omega|(simp;done)|(simp;omega)))) rfl ?_
  refine AL.runs ttk 2 rfl ?_
  refine AL.nx ?_
  refine AC.goes ttk 2 rfl ?_
  refine AC.cond rfl (fun hno=>absurd (hc17.symm.trans hno) (by decide)) (fun _=>?_)
  refine AC.skip ?_
  refine block_ok ?_
  refine then_ok ?_
  refine AC.seq ?_
  refine AC.go ttk 1 rfl ?_
  refine AL.vl (g_binI rfl rfl rfl (show _=some (Value.bool false) from rfl)) rfl ?_
  refine AL.nx ?_
  refine AC.cond rfl (fun hno=>by cases hno) (fun _=>?_)
  refine AC.sk ?_
  refine AC.goes ttk 3 rfl ?_
  refine AC.ret ?_
  have hX:moveAuth a kind n=((⟨a.card,a.shop,a.sum,a.captured,a.refunded,a.disputed - n,a.till,a.shut⟩:Auth),0):=by
    (unfold moveAuth;try dsimp only);(try simp only [hr0]);(repeat' split)<;>first|rfl|omega|(exfalso;omega)|(subst_vars;rfl)|(simp_all;done)|(simp_all;omega)
  rw [hX] at hr;clear hX
  simp only [Prod.mk.injEq] at hr;obtain ⟨rfl,rfl⟩:=hr
  refine retQ_go ttk [1] 0 rfl rfl rfl rfl rfl rfl ?_ ?_
  all_goals first|rfl|(simp [ufs];done)|(simp [ufs];omega)
 have hc23':=of_decide_eq_false hc23
 refine AC.region ?_
 refine AL.runs ttk 2 rfl ?_
 obtain ⟨b1,e1,hr1⟩:∃ (b1:Auth) (e1:Int),openAuth a kind n=(b1,e1):=⟨_,_,rfl⟩
 refine AL.cn 2 [0,1] (g_callM id id (c_auth_open a kind n (by first|assumption|omega) (by omega) (by omega) b1 e1 hr1) en102 rfl rfl ⟨⟨_,rfl,.inl ⟨rfl,rfl⟩⟩,⟨_,rfl,.inr (.c (.d _))⟩,⟨_,rfl,.inr (.c (.d _))⟩,trivial⟩ ⟨rfl,trivial⟩ rfl rfl rfl rfl rfl rfl trivial ⟨⟨trivial,trivial,trivial,trivial,trivial,trivial,trivial,trivial,trivial⟩,trivial⟩ rfl rfl rfl rfl) rfl ?_
 refine AL.runs ttk 1 rfl ?_
 refine AL.nil ?_
 refine block_ok ?_
 refine then_ok ?_
 refine AC.seq ?_
 refine AC.goes ttk 2 rfl ?_
 refine AC.cond rfl (fun hc28=>?_) (fun hc28=>?_)
 ·
  have hc28':=of_decide_eq_true hc28
  refine AC.goes ttk 4 rfl ?_
  refine AC.ret ?_
  refine then_ret ?_
  have hX:moveAuth a kind n=((⟨0,0,0,0,0,0,0,false⟩:Auth),e1):=by
    (unfold moveAuth;try dsimp only);(try simp only [hr0]);(try simp only [hr1]);(repeat' split)<;>first|rfl|omega|(exfalso;omega)|(subst_vars;rfl)|(simp_all;done)|(simp_all;omega)
  rw [hX] at hr;clear hX
  simp only [Prod.mk.injEq] at hr;obtain ⟨rfl,rfl⟩:=hr
  refine retQ_go ttk [1] 0 rfl rfl rfl rfl rfl rfl ?_ ?_
  all_goals first|rfl|(simp [ufs];done)|(simp [ufs];omega)
 have hc28':=of_decide_eq_false hc28
 refine AC.sk ?_
 refine AC.goes ttk 3 rfl ?_
 refine AC.ret ?_
 have hX:moveAuth a kind n=(b1,0):=by
   (unfold moveAuth;try dsimp only);(try simp only [hr0]);(try simp only [hr1]);(repeat' split)<;>first|rfl|omega|(exfalso;omega)|(subst_vars;rfl)|(simp_all;done)|(simp_all;omega)
 rw [hX] at hr;clear hX
 simp only [Prod.mk.injEq] at hr;obtain ⟨rfl,rfl⟩:=hr
 refine retQ_go ttk [1] 0 rfl rfl rfl rfl rfl rfl ?_ ?_
 all_goals first|rfl|(simp [ufs];done)|(simp [ufs];omega)
end Go.Proofs.Ytegepioggeggaaa.Dev
namespace Go.Proofs.Ytegepioggeggaaa.Dev
open Go.RowKit


end Go.Proofs.Ytegepioggeggaaa.Dev
namespace Go.Proofs.Ytegepioggeggaaa.Dev
open Go.RowKit

set_option maxRecDepth 100000 in
set_option maxHeartbeats 1000000 in
theorem c_stand_Wrong (cap:Int) (used:List Int) (advs:List Advice):Fn Try.prog 30 [(.g [(cI cap),(vlI used),(vlA advs)])] (aI (wrongStand ⟨cap,used,advs⟩)) []:=by
 refine Fn.mk' 109 [(0,(aG [(cI cap),(vlI used),(vlA advs)]))] Try.func30 rfl rfl rfl rfl ?_
 intro W0 T0
 refine AC.lenG 0 1 rfl rfl (fun hlen0_1=>?_)
 refine AC.lenG 0 2 rfl rfl (fun hlen0_2=>?_)
 refine AC.goes ttk 2 rfl ?_
 refine AC.seq ?_
 refine AC.cutB 17 ((decide ((↑used.length:Int) > 8))||(decide ((↑advs.length:Int) > 20))) ?_ ?_
 ·
  refine AC.region ?_
  refine AL.runs ttk 2 rfl ?_
  refine AL.vl (g_lenM rfl rfl rfl rfl rfl Try.underlying30) rfl ?_
  refine AL.runs ttk 2 rfl ?_
  refine AL.dec (t:=12) rfl (fun hb1=>?_) (fun hb1=>?_)
  ·
   have hb1':=of_decide_eq_true hb1
   refine AL.runs ttk 5 rfl ?_
   refine AL.nx ?_
   exact Weak.popB 11 rfl rfl (by first|(simp [hb1];done)|(simp_all;done)|(exfalso;simp_all;done)|(simp_all;omega)) rfl
  have hb1':=of_decide_eq_false hb1
  refine AL.runs ttk 2 rfl ?_
  refine AL.val (Wanted.yes rfl rfl rfl) (g_lenM rfl rfl rfl rfl rfl Try.underlying39) rfl rfl ?_
  refine AL.runs ttk 2 rfl ?_
  refine AL.nx ?_
  exact Weak.popB 11 rfl rfl (by first|(simp [hb1];done)|(simp_all;done)|(exfalso;simp_all;done)|(simp_all;omega)) rfl
 refine AC.cond rfl (fun hc2=>?_) (fun hc2=>?_)
 ·
  have hc2':=hc2;try simp only [sumB,dns] at hc2'
  refine AC.goes ttk 1 rfl ?_
  refine AC.ret ?_
  refine then_ret ?_
  refine retQ_go ttk [] 0 rfl rfl rfl rfl rfl rfl ?_ ?_
  ·(have h:=wrongStand_5 (s:=⟨cap,used,advs⟩) (show 8 < used.length\/20 < advs.length by omega));show aI _=aI _;rw [h]
  ·rfl
 have hc2':=hc2;try simp only [sumB,dns] at hc2'
 refine AC.sk ?_
 refine AC.seq ?_
 refine AC.cutB 25 ((decide (cap < 0))||(decide (cap > 1000000))) ?_ ?_
 ·
  refine AC.region ?_
  refine AL.runs ttk 4 rfl ?_
  refine AL.dec (t:=21) rfl (fun hb3=>?_) (fun hb3=>?_)
  ·
   have hb3':=of_decide_eq_true hb3
   refine AL.runs ttk 4 rfl ?_
   refine AL.nx ?_
   exact Weak.popB 9 rfl rfl (by first|(simp [hb3];done)|(simp_all;done)|(exfalso;simp_all;done)|(simp_all;omega)) rfl
  have hb3':=of_decide_eq_false hb3
  refine AL.runs ttk 4 rfl ?_
  refine AL.nx ?_
  exact Weak.popB 9 rfl rfl (by first|(simp [hb3];done)|(simp_all;done)|(exfalso;simp_all;done)|(simp_all;omega)) rfl
 refine AC.cond rfl (fun hc4=>?_) (fun hc4=>?_)
 ·
  have hc4':=hc4;try simp only [sumB,dns] at hc4'
  refine AC.goes ttk 1 rfl ?_
  refine AC.ret ?_
  refine then_ret ?_
  refine retQ_go ttk [] 0 rfl rfl rfl rfl rfl rfl ?_ ?_
  ·(have h:=wrongStand_cap (s:=⟨cap,used,advs⟩) (show ¬(8 < (⟨cap,used,advs⟩:Stand).used.length\/20 < (⟨cap,used,advs⟩:Stand).advices.length) by simp only;omega) (show capB cap=false by simp only [capB,decide_eq_false_iff_not];omega));show aI _=aI _;rw [h]
  ·rfl
 have hc4':=hc4;try simp only [sumB,dns] at hc4'
 refine AC.sk ?_
 refine AC.go ttk 2 rfl ?_
 refine AL.vl (g_lenM rfl rfl rfl rfl rfl Try.underlying30) rfl ?_
 refine AL.cn 2 [1,0] (g_makeI 1 sl30 zv3 rfl rfl rfl (n:=used.length) (by first|omega|(simp;omega)|(simp [sumsL_length];omega)) (by first|omega|(simp;omega)|(simp [sumsL_length];omega)) (by first|omega|(simp;omega)|(simp [sumsL_length];omega)) (by first|omega|(simp;omega)|(simp [sumsL_length];omega))) rfl ?_
 refine AL.runs ttk 1 rfl ?_
 refine AL.nx ?_
 refine AC.seq ?_
 refine AC.go ttk 2 rfl ?_
 refine AL.vl (g_lenM rfl rfl rfl rfl rfl Try.underlying39) rfl ?_
 refine AL.runs ttk 1 rfl ?_
 refine AL.nx ?_
 refine AC.block ?_
 refine AC.loop (β:=Nat) (fun (q:Nat)=>⟨[(1,(aC (.p 0 0 0 0))),(3,(aC (.s 1 0 1 used.length))),(31,(aC (vlA advs))),(32,(aI (↑advs.length:Int))),(33,(aI (↑q:Int)))],[(1,(alI (sumsL used.length (advs.take q)))),(0,(.box 41 [(cI cap),(vlI used),(vlA advs)]))],2⟩) (fun (q:Nat)=>q<=advs.length/\(advs.take q).all (okAdv used.length)=true) (fun (q:Nat)=>advs.length - q) 0 ?_ ?_ ?_
 ·exact ⟨by omega,by simp⟩
 ·exact Weak.ren id (by refine ⟨?_,?_,?_,?_,?_,trivial⟩<;>first|rfl|(simp only [mps];done)|(congr 3;omega)|(congr 4;omega)|(simp only [lns];rfl)) (by refine ⟨?_,?_,trivial⟩<;>first|rfl|(simp only [mps];done)|(congr 3;omega)|(congr 4;omega)|(simp only [lns];rfl)|((rw [List.take_zero,<-sumsL_nil];rfl))) rfl
 rintro q ⟨hi0_0,hi0_1⟩
 refine AC.goes ttk 1 rfl ?_
 refine AC.seq ?_
 refine AC.cond rfl (fun hc5=>?_) (fun hc5=>?_)
 ·
  have hc5':=of_decide_eq_true hc5
  refine AC.sk ?_
  refine AC.seq ?_
  refine AC.block ?_
  refine AC.sr ?_
  obtain ⟨x1,hx1⟩:=exget (xs:=advs) (i:=q) (by first|omega|(simp [sumsL_length];omega))
  refine AL.vl (g_indexQ (i:=q) rfl rfl rfl Try.underlying39 sz107 (by first|omega|(simp;omega)|(simp [sumsL_length];omega)) (getmap hx1)) rfl ?_
  refine AL.runs ttk 3 rfl ?_
  refine AL.nx ?_
  refine AC.seq ?_
  refine AC.cutB 77 ((((((((decide (x1.card < 0))||(decide (x1.card>=(↑used.length:Int))))||(decide (x1.shop < 0)))||(decide (x1.shop>=8)))||(decide (x1.sum < 1)))||(decide (x1.sum > 1000000)))||(decide (x1.time < 0)))||(decide (x1.time > 1000000))) ?_ ?_
  ·
   refine AC.region ?_
   refine AL.runs ttk 4 rfl ?_
   refine AL.dec (t:=40) rfl (fun hb6=>?_) (fun hb6=>?_)
   ·
    have hb6':=of_decide_eq_true hb6
    refine AL.runs ttk 37 rfl ?_
    refine AL.nx ?_
    exact Weak.popB 42 rfl rfl (by first|(simp [hb6];done)|(simp_all;done)|(exfalso;simp_all;done)|(simp_all;omega)) rfl
   have hb6':=of_decide_eq_false hb6
   refine AL.runs ttk 4 rfl ?_
   refine AL.val (Wanted.yes rfl rfl rfl) (g_lenM rfl rfl rfl rfl rfl Try.underlying30) rfl rfl ?_
   refine AL.runs ttk 3 rfl ?_
   refine AL.dec (t:=48) rfl (fun hb7=>?_) (fun hb7=>?_)
   ·
    have hb7':=of_decide_eq_true hb7
    refine AL.runs ttk 29 rfl ?_
    refine AL.nx ?_
    exact Weak.popB 43 rfl rfl (by first|(simp [hb6,hb7];done)|(simp_all;done)|(exfalso;simp_all;done)|(simp_all;omega)) rfl
   have hb7':=of_decide_eq_false hb7
   refine AL.runs ttk 5 rfl ?_
   refine AL.dec (t:=53) rfl (fun hb8=>?_) (fun hb8=>?_)
   ·
    have hb8':=of_decide_eq_true hb8
    refine AL.runs ttk 24 rfl ?_
    refine AL.nx ?_
    exact Weak.popB 44 rfl rfl (by first|(simp [hb6,hb7,hb8];done)|(simp_all;done)|(exfalso;simp_all;done)|(simp_all;omega)) rfl
   have hb8':=of_decide_eq_false hb8
   refine AL.runs ttk 5 rfl ?_
   refine AL.dec (t:=58) rfl (fun hb9=>?_) (fun hb9=>?_)
   ·
    have hb9':=of_decide_eq_true hb9
    refine AL.runs ttk 19 rfl ?_
    refine AL.nx ?_
    exact Weak.popB 45 rfl rfl (by first|(simp [hb6,hb7,hb8,hb9];done)|(simp_all;done)|(exfalso;simp_all;done)|(simp_all;omega)) rfl
   have hb9':=of_decide_eq_false hb9
   refine AL.runs ttk 5 rfl ?_
   refine AL.dec (t:=63) rfl (fun hb10=>?_) (fun hb10=>?_)
   ·
    have hb10':=of_decide_eq_true hb10
    refine AL.runs ttk 14 rfl ?_
    refine AL.nx ?_
    exact Weak.popB 46 rfl rfl (by first|(simp [hb6,hb7,hb8,hb9,hb10];done)|(simp_all;done)|(exfalso;simp_all;done)|(simp_all;omega)) rfl
   have hb10':=of_decide_eq_false hb10
   refine AL.runs ttk 5 rfl ?_
   refine AL.dec (t:=68) rfl (fun hb11=>?_) (fun hb11=>?_)
   ·
    have hb11':=of_decide_eq_true hb11
    refine AL.runs ttk 9 rfl ?_
    refine AL.nx ?_
    exact Weak.popB 47 rfl rfl (by first|(simp [hb6,hb7,hb8,hb9,hb10,hb11];done)|(simp_all;done)|(exfalso;simp_all;done)|(simp_all;omega)) rfl
   have hb11':=of_decide_eq_false hb11
   refine AL.runs ttk 5 rfl ?_
   refine AL.dec (t:=73) rfl (fun hb12=>?_) (fun hb12=>?_)
   ·
    have hb12':=of_decide_eq_true hb12
    refine AL.runs ttk 4 rfl ?_
    refine AL.nx ?_
    exact Weak.popB 48 rfl rfl (by first|(simp [hb6,hb7,hb8,hb9,hb10,hb11,hb12];done)|(simp_all;done)|(exfalso;simp_all;done)|(simp_all;omega)) rfl
   have hb12':=of_decide_eq_false hb12
   refine AL.runs ttk 4 rfl ?_
   refine AL.nx ?_
   exact Weak.popB 48 rfl rfl (by first|(simp [hb6,hb7,hb8,hb9,hb10,hb11,hb12];done)|(simp_all;done)|(exfalso;simp_all;done)|(simp_all;omega)) rfl
  refine AC.cond rfl (fun hc13=>?_) (fun hc13=>?_)
  ·
   have hc13':=hc13;try simp only [sumB,dns] at hc13'
   refine AC.goes ttk 1 rfl ?_
   refine AC.ret ?_
   refine then_ret ?_
   refine block_ret ?_
   refine then_ret ?_
   refine then_ret ?_
   refine block_ret ?_
   refine then_ret ?_
   refine retQ_go ttk [] 0 rfl rfl rfl rfl rfl rfl ?_ ?_
   ·(have h:=wrongStand_adv (s:=⟨cap,used,advs⟩) (show ¬(8 < (⟨cap,used,advs⟩:Stand).used.length\/20 < (⟨cap,used,advs⟩:Stand).advices.length) by simp only;omega) (show capB (⟨cap,used,advs⟩:Stand).cap=true by simp only [capB,decide_eq_true_eq];omega) (all_no hx1 (by simp only [okAdv,decide_eq_false_iff_not];omega)));show aI _=aI _;rw [h]
   ·rfl
  have hc13':=hc13;try simp only [sumB,dns] at hc13'
  refine AC.sk ?_
  obtain ⟨x2,hx2⟩:=exget (xs:=(sumsL used.length (advs.take q))) (i:=Int.toNat (x1.card)) (by first|omega|(simp [sumsL_length];omega))
  have hx2v:=sumsL_get hx2
  have hgb:=given_bound used.length (x1.card) (advs.take q) hi0_1
  have hgl:(advs.take q).length<=q:=List.length_take_le _ _
  rw [Int.toNat_of_nonneg (by omega)] at hx2v
  refine AC.drawP [1,3,31,32,33,5] [2,1,0] mixed rfl rfl ?_
  refine PD.runs (kn:=[]) ttk 3 rfl trivial ?_
  refine PD.op (n':=3) [78,80] [1] rfl rfl (.inl ⟨(Wanted.plain rfl),GOp.cast (g_indexP0 (i:=Int.toNat (x1.card)) rfl rfl rfl Try.underlying30 sz3 (by first|omega|(simp;omega)|(simp [sumsL_length];omega)) (by first|omega|(simp;omega)|(simp [sumsL_length];omega))) rfl⟩) rfl ?_
  refine PD.op (n':=3) [81] [1] rfl rfl (.inl ⟨(Wanted.plain rfl),GOp.cast (g_loadA rfl rfl rfl Try.underlying3 rfl (getmap hx2) rfl) rfl⟩) rfl ?_
  refine PD.runs (kn:=[]) ttk 2 rfl trivial ?_
  refine PD.op (n':=3) [82,84] [] rfl rfl (.inl ⟨(Wanted.plain rfl),GOp.cast (g_binI rfl rfl rfl (wrap_ok (by first|omega|(simp;omega)|(simp [sumsL_length];omega)))) rfl⟩) rfl ?_
  refine PD.op (n':=3) [78,80] [1] rfl rfl (.inl ⟨(Wanted.plain rfl),GOp.cast (g_indexP0 (i:=Int.toNat (x1.card)) rfl rfl rfl Try.underlying30 sz3 (by first|omega|(simp;omega)|(simp [sumsL_length];omega)) (by first|omega|(simp;omega)|(simp [sumsL_length];omega))) rfl⟩) rfl ?_
  refine PD.fin [2,1,0] rfl rfl rfl rfl (by kernel_rfl) ?_
  refine AL.so [2,1,0] (g_storeA (ds:=[(dI (x2+x1.sum))]) rfl rfl rfl rfl rfl sz3 rfl (Nat.le_of_ble_eq_true rfl) (getmap hx2) rfl (setmap (x':=x2+x1.sum) rfl)) rfl ?_
  refine AL.nil ?_
  refine block_ok ?_
  refine then_ok ?_
  refine AC.region ?_
  refine AL.vl (g_binI rfl rfl rfl (wrap_ok (by first|omega|(simp;omega)|(simp [sumsL_length];omega)))) rfl ?_
  refine AL.runs ttk 1 rfl ?_
  refine AL.nx ?_
  refine ⟨q+1,⟨by omega,all_yes hi0_1 hx1 (by simp only [okAdv,decide_eq_true_eq];omega)⟩,by first|omega|(simp;done)|(simp;omega),Weak.ren id (by refine ⟨?_,?_,?_,?_,?_,trivial⟩<;>first|rfl|(simp only [mps];done)|(congr 3;omega)|(congr 4;omega)|(simp only [lns];rfl)) (by refine ⟨?_,?_,trivial⟩<;>first|rfl|(simp only [mps];done)|(congr 3;omega)|(congr 4;omega)|(simp only [lns];rfl)|((rw [take_get hx1,<-sumsL_set (i:=Int.toNat x1.card) (v:=x2+x1.sum) (by omega) (by omega) (by rw [hx2v])];rfl))) rfl⟩
 have hc5':=of_decide_eq_false hc5
 refine AC.exit ?_
 refine then_exit ?_
 refine then_exit ?_
 refine block_hit ?_
 refine then_ok ?_
 refine AC.seq ?_
 refine AC.go ttk 2 rfl ?_
 refine AL.vl (g_lenM rfl rfl rfl rfl rfl Try.underlying30) rfl ?_
 refine AL.runs ttk 1 rfl ?_
 refine AL.nx ?_
 refine AC.block ?_
 have hta:advs.take q=advs:=List.take_of_length_le (by omega)
 have hall:advs.all (okAdv used.length)=true:=by rw [<-hta];exact hi0_1
 rw [hta]
 refine AC.loop (β:=Nat) (fun (p:Nat)=>⟨[(1,(aC (.p 0 0 0 0))),(3,(aC (.s 1 0 1 used.length))),(31,(aC (vlA advs))),(32,(aI (↑advs.length:Int))),(33,(aI (↑q:Int))),(89,(aC (vlI used))),(90,(aI (↑used.length:Int))),(91,(aI (↑p:Int)))],[(1,(alI (sumsL used.length advs))),(0,(.box 41 [(cI cap),(vlI used),(vlA advs)]))],2⟩) (fun (p:Nat)=>p<=used.length/\fitUsed cap advs 0 used=fitUsed cap advs p (used.drop p)) (fun (p:Nat)=>used.length - p) 0 ?_ ?_ ?_
 ·exact ⟨by omega,rfl⟩
 ·exact Weak.ren id (by refine ⟨?_,?_,?_,?_,?_,?_,?_,?_,trivial⟩<;>first|rfl|(simp only [mps];done)|(congr 3;omega)|(congr 4;omega)|(simp only [lns];rfl)) (by refine ⟨?_,?_,trivial⟩<;>first|rfl|(simp only [mps];done)|(congr 3;omega)|(congr 4;omega)|(simp only [lns];rfl)) rfl
 rintro p ⟨hi1_0,hi1_1⟩
 refine AC.goes ttk 1 rfl ?_
 refine AC.seq ?_
 refine AC.cond rfl (fun hc14=>?_) (fun hc14=>?_)
 ·
  have hc14':=of_decide_eq_true hc14
  refine AC.sk ?_
  refine AC.seq ?_
  refine AC.block ?_
  refine AC.go ttk 1 rfl ?_
  obtain ⟨x1,hx1⟩:=exget (xs:=used) (i:=p) (by first|omega|(simp [sumsL_length];omega))
  refine AL.vl (g_indexQ (i:=p) rfl rfl rfl Try.underlying30 sz3 (by first|omega|(simp;omega)|(simp [sumsL_length];omega)) (getmap hx1)) rfl ?_
  refine AL.runs ttk 3 rfl ?_
  refine AL.nx ?_
  refine AC.go ttk 3 rfl ?_
  refine AL.vl (g_indexP0 (i:=p) rfl rfl rfl Try.underlying30 sz3 (by first|omega|(simp;omega)|(simp [sumsL_length];omega)) (by first|omega|(simp;omega)|(simp [sumsL_length];omega))) rfl ?_
  obtain ⟨x2,hx2⟩:=exget (xs:=(sumsL used.length advs)) (i:=p) (by first|omega|(simp [sumsL_length];omega))
  have hx2v:=sumsL_get hx2
  refine AL.vl (g_loadA rfl rfl rfl Try.underlying3 rfl (getmap hx2) rfl) rfl ?_
  refine AL.runs ttk 2 rfl ?_
  refine AL.dec (t:=102) rfl (fun hb15=>?_) (fun hb15=>?_)
  ·
   have hb15':=of_decide_eq_true hb15
   refine AL.runs ttk 5 rfl ?_
   refine AL.nx ?_
   refine AC.cond rfl (fun _=>?_) (fun hno=>by cases hno)
   refine AC.goes ttk 1 rfl ?_
   refine AC.ret ?_
   refine block_ret ?_
   refine then_ret ?_
   refine then_ret ?_
   refine block_ret ?_
   refine then_ret ?_
   refine retQ_go ttk [] 0 rfl rfl rfl rfl rfl rfl ?_ ?_
   ·(have h:=wrongStand_fit (s:=⟨cap,used,advs⟩) (show ¬(8 < (⟨cap,used,advs⟩:Stand).used.length\/20 < (⟨cap,used,advs⟩:Stand).advices.length) by simp only;omega) (show capB (⟨cap,used,advs⟩:Stand).cap=true by simp only [capB,decide_eq_true_eq];omega) hall);show aI _=aI _;rw [h];show aI _=aI (fitUsed cap advs 0 used);rw [hi1_1,drop_get hx1,fitUsed,if_neg (by omega)]
   ·rfl
  have hb15':=of_decide_eq_false hb15
  refine AL.runs ttk 5 rfl ?_
  refine AL.nx ?_
  refine AC.cond rfl (fun hc17=>?_) (fun hc17=>?_)
  ·
   have hc17':=of_decide_eq_true hc17
   refine AC.goes ttk 1 rfl ?_
   refine AC.ret ?_
   refine block_ret ?_
   refine then_ret ?_
   refine then_ret ?_
   refine block_ret ?_
   refine then_ret ?_
   refine retQ_go ttk [] 0 rfl rfl rfl rfl rfl rfl ?_ ?_
   ·(have h:=wrongStand_fit (s:=⟨cap,used,advs⟩) (show ¬(8 < (⟨cap,used,advs⟩:Stand).used.length\/20 < (⟨cap,used,advs⟩:Stand).advices.length) by simp only;omega) (show capB (⟨cap,used,advs⟩:Stand).cap=true by simp only [capB,decide_eq_true_eq];omega) hall);show aI _=aI _;rw [h];show aI _=aI (fitUsed cap advs 0 used);rw [hi1_1,drop_get hx1,fitUsed,if_neg (by omega)]
   ·rfl
  have hc17':=of_decide_eq_false hc17
  refine AC.skip ?_
  refine block_ok ?_
  refine then_ok ?_
  refine AC.region ?_
  refine AL.vl (g_binI rfl rfl rfl (wrap_ok (by first|omega|(simp;omega)|(simp [sumsL_length];omega)))) rfl ?_
  refine AL.runs ttk 1 rfl ?_
  refine AL.nx ?_
  refine ⟨p+1,⟨by omega,by rw [hi1_1,drop_get hx1,fitUsed,if_pos (by omega),Int.natCast_add];rfl⟩,by first|omega|(simp;done)|(simp;omega),Weak.ren id (by refine ⟨?_,?_,?_,?_,?_,?_,?_,?_,trivial⟩<;>first|rfl|(simp only [mps];done)|(congr 3;omega)|(congr 4;omega)|(simp only [lns];rfl)) (by refine ⟨?_,?_,trivial⟩<;>first|rfl|(simp only [mps];done)|(congr 3;omega)|(congr 4;omega)|(simp only [lns];rfl)) rfl⟩
 have hc14':=of_decide_eq_false hc14
 refine AC.exit ?_
 refine then_exit ?_
 refine then_exit ?_
 refine block_hit ?_
 refine then_ok ?_
 refine AC.goes ttk 1 rfl ?_
 refine AC.ret ?_
 refine retQ_go ttk [] 0 rfl rfl rfl rfl rfl rfl ?_ ?_
 ·(have h:=wrongStand_fit (s:=⟨cap,used,advs⟩) (show ¬(8 < (⟨cap,used,advs⟩:Stand).used.length\/20 < (⟨cap,used,advs⟩:Stand).advices.length) by simp only;omega) (show capB (⟨cap,used,advs⟩:Stand).cap=true by simp only [capB,decide_eq_true_eq];omega) hall);show aI _=aI _;rw [h];show aI _=aI (fitUsed cap advs 0 used);rw [hi1_1,List.drop_of_length_le (by omega)];rfl
 ·rfl
end Go.Proofs.Ytegepioggeggaaa.Dev
namespace Go.Proofs.Ytegepioggeggaaa.Dev
open Go.RowKit


theorem c_stand_WrongN (s:Stand) (e:Int) (hr:wrongStand s=e):Fn Try.prog 30 [(.g [cI s.cap,cR 1 (s.used.map rI),cR 4 (s.advices.map rAdvice)])] (.v (.c (cI e))) []:=hr▸c_stand_Wrong s.cap s.used s.advices
end Go.Proofs.Ytegepioggeggaaa.Dev
namespace Go.Proofs.Ytegepioggeggaaa.Dev
open Go.RowKit


end Go.Proofs.Ytegepioggeggaaa.Dev
namespace Go.Proofs.Ytegepioggeggaaa.Dev
open Go.RowKit

set_option maxRecDepth 100000 in
set_option maxHeartbeats 1000000 in
theorem c_stand_New (limit cards:Int) (x:Stand) (e:Int) (hr:newStand limit cards=(x,e)):Fn Try.prog 41 [(.c (cI limit)),(.c (cI cards))] (.t [(.g [(cI x.cap),(.s 0 0 1 x.used.length),(.s 1 0 4 x.advices.length)]),(.c (cI e))]) [(0,(alI x.used)),(1,(alA x.advices))]:=by
 refine Fn.mk' 24 [(0,(aI limit)),(1,(aI cards))] Try.func41 rfl rfl rfl rfl ?_
 intro W0 T0
 refine AC.goes ttk 2 rfl ?_
 refine AC.seq ?_
 refine AC.cutB 11 ((decide (cards < 0))||(decide (cards > 8))) ?_ ?_
 ·
  refine AC.region ?_
  refine AL.runs ttk 3 rfl ?_
  refine AL.dec (t:=8) rfl (fun hb1=>?_) (fun hb1=>?_)
  ·
   have hb1':=of_decide_eq_true hb1
   refine AL.runs ttk 3 rfl ?_
   refine AL.nx ?_
   exact Weak.popB 7 rfl rfl (by first|(simp [hb1];done)|(simp_all;done)|(exfalso;simp_all;done)|(simp_all;omega)) rfl
  have hb1':=of_decide_eq_false hb1
  refine AL.runs ttk 3 rfl ?_
  refine AL.nx ?_
  exact Weak.popB 7 rfl rfl (by first|(simp [hb1];done)|(simp_all;done)|(exfalso;simp_all;done)|(simp_all;omega)) rfl
 refine AC.cond rfl (fun hc2=>?_) (fun hc2=>?_)
 ·
  have hc2':=hc2;try simp only [sumB,dns] at hc2'
  refine AC.goes ttk 3 rfl ?_
  refine AC.ret ?_
  refine then_ret ?_
  refine retQ_nilB 0 1 3 1 rfl rfl rfl ?_
  refine retQ_nilB 0 2 107 4 rfl rfl rfl ?_
  have hX:newStand limit cards=((⟨0,([]:List Int),([]:List Advice)⟩:Stand),5):=by
    exact newStand_many (by omega)
  rw [hX] at hr;clear hX
  simp only [Prod.mk.injEq] at hr;obtain ⟨rfl,rfl⟩:=hr
  refine retQ_go ttk [1,2,0] 2 rfl rfl rfl rfl rfl rfl ?_ ?_
  all_goals first|rfl|(simp [ufs];done)|(simp [ufs];omega)
 have hc2':=hc2;try simp only [sumB,dns] at hc2'
 refine AC.sk ?_
 refine AC.seq ?_
 refine AC.cutB 18 ((decide (limit < 0))||(decide (limit > 1000000))) ?_ ?_
 ·
  refine AC.region ?_
  refine AL.runs ttk 3 rfl ?_
  refine AL.dec (t:=15) rfl (fun hb3=>?_) (fun hb3=>?_)
  ·
   have hb3':=of_decide_eq_true hb3
   refine AL.runs ttk 3 rfl ?_
   refine AL.nx ?_
   exact Weak.popB 7 rfl rfl (by first|(simp [hb3];done)|(simp_all;done)|(exfalso;simp_all;done)|(simp_all;omega)) rfl
  have hb3':=of_decide_eq_false hb3
  refine AL.runs ttk 3 rfl ?_
  refine AL.nx ?_
  exact Weak.popB 7 rfl rfl (by first|(simp [hb3];done)|(simp_all;done)|(exfalso;simp_all;done)|(simp_all;omega)) rfl
 refine AC.cond rfl (fun hc4=>?_) (fun hc4=>?_)
 ·
  have hc4':=hc4;try simp only [sumB,dns] at hc4'
  refine AC.goes ttk 3 rfl ?_
  refine AC.ret ?_
  refine then_ret ?_
  refine retQ_nilB 0 1 3 1 rfl rfl rfl ?_
  refine retQ_nilB 0 2 107 4 rfl rfl rfl ?_
  have hX:newStand limit cards=((⟨0,([]:List Int),([]:List Advice)⟩:Stand),3):=by
    exact newStand_range (by omega) (by first|omega|(simp_all [sumB];done)|(simp_all [sumB];omega))
  rw [hX] at hr;clear hX
  simp only [Prod.mk.injEq] at hr;obtain ⟨rfl,rfl⟩:=hr
  refine retQ_go ttk [1,2,0] 2 rfl rfl rfl rfl rfl rfl ?_ ?_
  all_goals first|rfl|(simp [ufs];done)|(simp [ufs];omega)
 have hc4':=hc4;try simp only [sumB,dns] at hc4'
 refine AC.sk ?_
 refine AC.go ttk 2 rfl ?_
 refine AL.cn 2 [1,0] (g_makeI 1 sl30 zv3 rfl rfl rfl (n:=Int.toNat (cards)) (by first|omega|(simp;done)|(simp;omega)) (by first|omega|(simp;done)|(simp;omega)) (by first|omega|(simp;done)|(simp;omega)) (by first|omega|(simp;done)|(simp;omega))) rfl ?_
 refine AL.runs ttk 3 rfl ?_
 refine AL.nx ?_
 refine AC.ret ?_
 refine retQ_nilB 0 2 107 4 rfl rfl rfl ?_
 have hX:newStand limit cards=((⟨limit,List.replicate (Int.toNat (cards)) 0,([]:List Advice)⟩:Stand),0):=by
   unfold newStand;rw [if_neg (by omega),if_neg (by simp only [capB,decide_eq_true_eq];first|omega|(simp_all [sumB];done)|(simp_all [sumB];omega))]
 rw [hX] at hr;clear hX
 simp only [Prod.mk.injEq] at hr;obtain ⟨rfl,rfl⟩:=hr
 refine retQ_go ttk [1,2,0] 2 rfl rfl rfl rfl rfl rfl ?_ ?_
 all_goals first|rfl|(simp [ufs];done)|(simp [ufs];omega)
set_option maxRecDepth 100000 in
set_option maxHeartbeats 1000000 in
theorem c_stand_Clear (s:Stand) (x:Stand) (l:List Advice) (e:Int) (hr:clearStand s=(x,l,e)):Fn Try.prog 90 [(.g [(cI s.cap),(vlI s.used),(vlA s.advices)])] (.t [(.g [(cI x.cap),(.s 0 0 1 x.used.length),(.s 1 0 4 x.advices.length)]),(.c (.s 2 0 4 l.length)),(.c (cI e))]) [(0,(alI x.used)),(1,(alA x.advices)),(2,(alA l))]:=by
 refine Fn.mk' 22 [(0,(aG [(cI s.cap),(vlI s.used),(vlA s.advices)]))] Try.func90 rfl rfl rfl rfl ?_
 intro W0 T0
 refine AC.lenG 0 1 rfl rfl (fun hlen0_1=>?_)
 refine AC.lenG 0 2 rfl rfl (fun hlen0_2=>?_)
 have hrp:=@right_parts s
 refine AC.goes ttk 4 rfl ?_
 refine AC.seq ?_
 refine AC.go ttk 1 rfl ?_
 obtain ⟨e0,hr0⟩:∃ (e0:Int),wrongStand s=e0:=⟨_,rfl⟩
 refine AL.cn 2 [1,0] (g_call 2 (c_stand_WrongN s e0 hr0) en30 rfl rfl ⟨⟨_,rfl,.g ⟨.d _,.d _,.d _,trivial⟩⟩,trivial⟩ trivial trivial rfl rfl rfl rfl) rfl ?_
 refine AL.runs ttk 1 rfl ?_
 refine AL.nx ?_
 refine AC.goes ttk 2 rfl ?_
 refine AC.cond rfl (fun hc1=>?_) (fun hc1=>?_)
 ·
  have hc1':=of_decide_eq_true hc1
  refine AC.goes ttk 5 rfl ?_
  refine AC.ret ?_
  refine then_ret ?_
  refine retQ_nilB 1 1 3 1 rfl rfl rfl ?_
  refine retQ_nilB 1 2 107 4 rfl rfl rfl ?_
  refine retQ_weak (Weak.nil 3 107 4 (by decide) rfl) ?_
  have hX:clearStand s=((⟨0,([]:List Int),([]:List Advice)⟩:Stand),([]:List Advice),e0):=by
    unfold clearStand;rw [if_pos (by omega),hr0];rfl
  rw [hX] at hr;clear hX
  simp only [Prod.mk.injEq] at hr;obtain ⟨rfl,rfl,rfl⟩:=hr
  refine retQ_go ttk [2,3,4,1] 3 rfl rfl rfl rfl rfl rfl ?_ ?_
  all_goals first|rfl|(simp [ufs];done)|(simp [ufs];omega)
 have hc1':=of_decide_eq_false hc1
 refine AC.sk ?_
 refine AC.seq ?_
 refine AC.drawP [1,2] [1,0] mixed rfl rfl ?_
 refine PD.runs (kn:=[]) ttk 4 rfl trivial ?_
 refine PD.op (n':=2) [15] [] rfl rfl (.inl ⟨(Wanted.plain rfl),GOp.cast (g_lenM rfl rfl rfl rfl rfl Try.underlying30) rfl⟩) rfl ?_
 refine PD.op (n':=3) [16] [] rfl rfl (.inl ⟨(Wanted.plain rfl),GOp.cast (g_makeI 2 sl30 zv3 rfl rfl rfl (n:=s.used.length) (by first|omega|(simp;done)|(simp;omega)) (by first|omega|(simp;done)|(simp;omega)) (by first|omega|(simp;done)|(simp;omega)) (by first|omega|(simp;done)|(simp;omega))) rfl⟩) rfl ?_
 refine PD.runs (kn:=[]) ttk 3 rfl trivial ?_
 refine PD.op (n':=4) [20] [] rfl rfl (.inl ⟨(Wanted.plain rfl),GOp.cast (g_call 3 (c_Clone_Advice s.advices (by first|omega|(simp;done)|(simp;omega))) en99 rfl rfl ⟨⟨_,rfl,.c (.d _)⟩,trivial⟩ trivial ⟨(fun _ _ _ _=>trivial),trivial⟩ rfl rfl rfl rfl) rfl⟩) rfl ?_
 refine PD.fin [3,2,1,0] rfl rfl rfl rfl (by kernel_rfl) ?_
 refine AL.runs ttk 3 rfl ?_
 refine AL.nx ?_
 refine AC.ret ?_
 refine retQ_nilB 1 2 107 4 rfl rfl rfl ?_
 have hX:clearStand s=((⟨s.cap,List.replicate s.used.length 0,([]:List Advice)⟩:Stand),s.advices,0):=by
   unfold clearStand;rw [if_neg (by omega)]
 rw [hX] at hr;clear hX
 simp only [Prod.mk.injEq] at hr;obtain ⟨rfl,rfl,rfl⟩:=hr
 refine retQ_go ttk [2,4,3,1] 3 rfl rfl rfl rfl rfl rfl ?_ ?_
 all_goals first|rfl|(simp [ufs];done)|(simp [ufs];omega)
end Go.Proofs.Ytegepioggeggaaa.Dev
namespace Go.Proofs.Ytegepioggeggaaa.Dev
open Go.RowKit

set_option maxRecDepth 100000 in
set_option maxHeartbeats 1000000 in
theorem c_stand_Give (s:Stand) (a:Advice) (x:Stand) (e:Int) (hr:giveStand s a=(x,e)):Fn Try.prog 78 [(.g [(cI s.cap),(vlI s.used),(vlA s.advices)]),(.g [(cI a.card),(cI a.shop),(cI a.sum),(cI a.time)])] (.t [(.g [(cI x.cap),(.s 0 0 1 x.used.length),(.s 1 0 4 x.advices.length)]),(.c (cI e))]) [(0,(alI x.used)),(1,(alA x.advices))]:=by
 refine Fn.mk' 74 [(0,(aG [(cI s.cap),(vlI s.used),(vlA s.advices)])),(1,(aG [(cI a.card),(cI a.shop),(cI a.sum),(cI a.time)]))] Try.func78 rfl rfl rfl rfl ?_
 intro W0 T0
 refine AC.lenG 0 1 rfl rfl (fun hlen0_1=>?_)
 refine AC.lenG 0 2 rfl rfl (fun hlen0_2=>?_)
 have hub:=@used_bound s
 have hrp:=@right_parts s
 refine AC.goes ttk 4 rfl ?_
 refine AC.seq ?_
 refine AC.go ttk 1 rfl ?_
 obtain ⟨e0,hr0⟩:∃ (e0:Int),wrongStand s=e0:=⟨_,rfl⟩
 refine AL.cn 3 [2,1,0] (g_call 3 (c_stand_WrongN s e0 hr0) en30 rfl rfl ⟨⟨_,rfl,.g ⟨.d _,.d _,.d _,trivial⟩⟩,trivial⟩ trivial trivial rfl rfl rfl rfl) rfl ?_
 refine AL.runs ttk 1 rfl ?_
 refine AL.nx ?_
 refine AC.goes ttk 2 rfl ?_
 refine AC.cond rfl (fun hc1=>?_) (fun hc1=>?_)
 ·
  have hc1':=of_decide_eq_true hc1
  refine AC.goes ttk 4 rfl ?_
  refine AC.ret ?_
  refine then_ret ?_
  refine retQ_nilB 2 1 3 1 rfl rfl rfl ?_
  refine retQ_nilB 2 2 107 4 rfl rfl rfl ?_
  have hX:giveStand s a=((⟨0,([]:List Int),([]:List Advice)⟩:Stand),e0):=by
    rw [give_wrong (by omega),hr0];rfl
  rw [hX] at hr;clear hX
  simp only [Prod.mk.injEq] at hr;obtain ⟨rfl,rfl⟩:=hr
  refine retQ_go ttk [3,4,2] 2 rfl rfl rfl rfl rfl rfl ?_ ?_
  all_goals first|rfl|(simp [ufs];done)|(simp [ufs];omega)
 have hc1':=of_decide_eq_false hc1
 refine AC.sk ?_
 refine AC.seq ?_
 refine AC.go ttk 2 rfl ?_
 refine AL.vl (g_lenM rfl rfl rfl rfl rfl Try.underlying39) rfl ?_
 refine AL.runs ttk 1 rfl ?_
 refine AL.nx ?_
 refine AC.cond rfl (fun hc2=>?_) (fun hc2=>?_)
 ·
  have hc2':=of_decide_eq_true hc2
  refine AC.goes ttk 3 rfl ?_
  refine AC.ret ?_
  refine then_ret ?_
  refine retQ_nilB 2 1 3 1 rfl rfl rfl ?_
  refine retQ_nilB 2 2 107 4 rfl rfl rfl ?_
  have hX:giveStand s a=((⟨0,([]:List Int),([]:List Advice)⟩:Stand),5):=by
    exact give_many (by omega) (by omega)
  rw [hX] at hr;clear hX
  simp only [Prod.mk.injEq] at hr;obtain ⟨rfl,rfl⟩:=hr
  refine retQ_go ttk [3,4,2] 2 rfl rfl rfl rfl rfl rfl ?_ ?_
  all_goals first|rfl|(simp [ufs];done)|(simp [ufs];omega)
 have hc2':=of_decide_eq_false hc2
 refine AC.sk ?_
 refine AC.seq ?_
 refine AC.drawP [2,3,4] [2,1,0] mixed rfl rfl ?_
 refine PD.runs (kn:=[]) ttk 4 rfl trivial ?_
 refine PD.op (n':=4) [23] [] rfl rfl (.inl ⟨(Wanted.plain rfl),GOp.cast (g_call 3 (c_Clone_int s.used (by first|omega|(simp;done)|(simp;omega))) en95 rfl rfl ⟨⟨_,rfl,.c (.d _)⟩,trivial⟩ trivial ⟨(fun _ _ _ _=>trivial),trivial⟩ rfl rfl rfl rfl) rfl⟩) rfl ?_
 refine PD.runs (kn:=[]) ttk 2 rfl trivial ?_
 refine PD.op (n':=5) [26] [] rfl rfl (.inl ⟨(Wanted.plain rfl),GOp.cast (g_call 4 (c_Clone_Advice s.advices (by first|omega|(simp;done)|(simp;omega))) en99 rfl rfl ⟨⟨_,rfl,.c (.d _)⟩,trivial⟩ trivial ⟨(fun _ _ _ _=>trivial),trivial⟩ rfl rfl rfl rfl) rfl⟩) rfl ?_
 refine PD.runs (kn:=[]) ttk 1 rfl trivial ?_
 refine PD.op (n':=6) [28] [] rfl rfl (.inl ⟨(Wanted.plain rfl),GOp.cast (g_lit (ys:=[(0,(.g [(cI a.card),(cI a.shop),(cI a.sum),(cI a.time)]))]) (rows:=([a]).map rAdvice) 5 sl39 rfl (by decide) ⟨⟨rfl,rfl⟩,trivial⟩ rfl rfl rfl rfl) rfl⟩) rfl ?_
 refine PD.op (n':=7) [27,29] [5,4] rfl rfl (.inl ⟨(Wanted.plain rfl),GOp.cast (g_append (m:=1) (N:=s.advices.length+1) (k2:=6) (ys:=([a]).map rAdvice) sl39 rfl rfl rfl rfl rfl rfl (by first|omega|(simp;done)|(simp;omega)) rfl (.s rfl (by first|omega|(simp;done)|(simp;omega))) (by first|omega|(simp;done)|(simp;omega)) (by first|omega|(simp;done)|(simp;omega)) appmap (by decide) (by first|omega|(simp;done)|(simp;omega)) (by first|omega|(simp;done)|(simp;omega))) rfl⟩) rfl ?_
 refine PD.runs (n':=8) (kn:=[]) ttk 2 rfl trivial ?_
 refine PD.fin [7,6,3,2,1,0] rfl rfl rfl rfl (by kernel_rfl) ?_
 refine AL.runs ttk 1 rfl ?_
 refine AL.nx ?_
 refine AC.seq ?_
 refine AC.cutB 52 ((((decide (a.card>=0)) && (decide (a.card < (↑s.used.length:Int)))) && (decide (a.sum>=1))) && (decide (a.sum<=1000000))) ?_ ?_
 ·
  refine AC.region ?_
  refine AL.runs ttk 4 rfl ?_
  refine AL.dec (t:=35) rfl (fun hb3=>?_) (fun hb3=>?_)
  ·
   have hb3':=of_decide_eq_true hb3
   refine AL.runs ttk 4 rfl ?_
   refine AL.val (Wanted.yes rfl rfl rfl) (g_lenS rfl rfl rfl rfl rfl Try.underlying30) rfl rfl ?_
   refine AL.runs ttk 3 rfl ?_
   refine AL.dec (t:=43) rfl (fun hb4=>?_) (fun hb4=>?_)
   ·
    have hb4':=of_decide_eq_true hb4
    refine AL.runs ttk 5 rfl ?_
    refine AL.dec (t:=48) rfl (fun hb5=>?_) (fun hb5=>?_)
    ·
     have hb5':=of_decide_eq_true hb5
     refine AL.runs ttk 4 rfl ?_
     refine AL.nx ?_
     exact Weak.popB 24 rfl rfl (by first|(simp [hb3,hb4,hb5];done)|(simp_all;done)|(exfalso;simp_all;done)|(simp_all;omega)) rfl
    have hb5':=of_decide_eq_false hb5
    refine AL.runs ttk 4 rfl ?_
    refine AL.nx ?_
    exact Weak.popB 24 rfl rfl (by first|(simp [hb3,hb4,hb5];done)|(simp_all;done)|(exfalso;simp_all;done)|(simp_all;omega)) rfl
   have hb4':=of_decide_eq_false hb4
   refine AL.runs ttk 9 rfl ?_
   refine AL.nx ?_
   exact Weak.popB 23 rfl rfl (by first|(simp [hb3,hb4];done)|(simp_all;done)|(exfalso;simp_all;done)|(simp_all;omega)) rfl
  have hb3':=of_decide_eq_false hb3
  refine AL.runs ttk 17 rfl ?_
  refine AL.nx ?_
  exact Weak.popB 22 rfl rfl (by first|(simp [hb3];done)|(simp_all;done)|(exfalso;simp_all;done)|(simp_all;omega)) rfl
 refine AC.cond rfl (fun hc6=>?_) (fun hc6=>?_)
 ·
  have hc6':=hc6;try simp only [sumB,dns] at hc6'
  obtain ⟨x1,hx1⟩:=exget (xs:=s.used) (i:=Int.toNat (a.card)) (by first|omega|(simp;done)|(simp;omega))
  have hx1b:=used_bound (s:=s) (by omega) hx1
  refine AC.drawP [3,4,7] [7,6,3,2,1] mixed rfl rfl ?_
  refine PD.runs (kn:=[]) ttk 4 rfl trivial ?_
  refine PD.op (n':=8) [54,56] [3] rfl rfl (.inl ⟨(Wanted.plain rfl),GOp.cast (g_indexP0 (i:=Int.toNat (a.card)) rfl rfl rfl Try.underlying30 sz3 (by first|omega|(simp;done)|(simp;omega)) (by first|omega|(simp;done)|(simp;omega))) rfl⟩) rfl ?_
  refine PD.op (n':=8) [57] [3] rfl rfl (.inl ⟨(Wanted.plain rfl),GOp.cast (g_loadA rfl rfl rfl Try.underlying3 rfl (getmap hx1) rfl) rfl⟩) rfl ?_
  refine PD.runs (kn:=[]) ttk 2 rfl trivial ?_
  refine PD.op (n':=8) [58,60] [] rfl rfl (.inl ⟨(Wanted.plain rfl),GOp.cast (g_binI rfl rfl rfl (wrap_ok (by first|omega|(simp;done)|(simp;omega)))) rfl⟩) rfl ?_
  refine PD.op (n':=8) [54,56] [3] rfl rfl (.inl ⟨(Wanted.plain rfl),GOp.cast (g_indexP0 (i:=Int.toNat (a.card)) rfl rfl rfl Try.underlying30 sz3 (by first|omega|(simp;done)|(simp;omega)) (by first|omega|(simp;done)|(simp;omega))) rfl⟩) rfl ?_
  refine PD.fin [7,6,3,2,1] rfl rfl rfl rfl (by kernel_rfl) ?_
  refine AL.so [7,6,3,2,1] (g_storeA (ds:=[(dI (x1+a.sum))]) rfl rfl rfl rfl rfl sz3 rfl (Nat.le_of_ble_eq_true rfl) (getmap hx1) rfl (setmap (x':=x1+a.sum) rfl)) rfl ?_
  refine AL.nx ?_
  refine AC.go ttk 1 rfl ?_
  obtain ⟨e1,hr1⟩:∃ (e1:Int),wrongStand (⟨s.cap,(s.used).set (Int.toNat (a.card)) (x1+a.sum),s.advices++([a])⟩:Stand)=e1:=⟨_,rfl⟩
  refine AL.cn 8 [7,6,3,2,1] (g_callE 8 [3,6] (c_stand_WrongN (⟨s.cap,(s.used).set (Int.toNat (a.card)) (x1+a.sum),s.advices++([a])⟩:Stand) e1 hr1) en30 rfl rfl ⟨⟨_,rfl,.g ⟨.d _,.s rfl (by decide) (by first|omega|(simp;done)|(simp;omega)),.s rfl (by decide) (by first|omega|(simp;done)|(simp;omega)),trivial⟩⟩,trivial⟩ rfl trivial rfl rfl rfl rfl) rfl ?_
  refine AL.runs ttk 1 rfl ?_
  refine AL.nx ?_
  refine AC.goes ttk 1 rfl ?_
  refine AC.block ?_
  refine AC.goes ttk 2 rfl ?_
  refine AC.cond rfl (fun hc7=>?_) (fun hc7=>?_)
  ·
   have hc7':=of_decide_eq_true hc7
   refine AC.goes ttk 3 rfl ?_
   refine AC.ret ?_
   refine block_ret ?_
   have hX:giveStand s a=((⟨s.cap,(s.used).set (Int.toNat (a.card)) (x1+a.sum),s.advices++([a])⟩:Stand),0):=by
     have hx:s.used.getD a.card.toNat 0=x1:=by rw [List.getD_eq_getElem?_getD,hx1];rfl
     have hg:=give_cases (a:=a) (show wrongStand s=0 by omega) (show s.advices.length < 20 by omega)
     rw [hx,hr1] at hg
     rcases hg with ⟨p1,p2⟩|⟨p1,p2⟩|⟨p1,p2⟩<;>first|(exfalso;omega)|exact p2|(subst p1;exact p2)
   rw [hX] at hr;clear hX
   simp only [Prod.mk.injEq] at hr;obtain ⟨rfl,rfl⟩:=hr
   refine retQ_go ttk [3,6,2] 2 rfl rfl rfl rfl rfl rfl ?_ ?_
   all_goals first|rfl|(simp [ufs];done)|(simp [ufs];omega)
  have hc7':=of_decide_eq_false hc7
  refine AC.goes ttk 2 rfl ?_
  refine AC.cond rfl (fun hc8=>?_) (fun hc8=>?_)
  ·
   have hc8':=of_decide_eq_true hc8
   refine AC.goes ttk 3 rfl ?_
   refine AC.ret ?_
   refine block_ret ?_
   refine retQ_nilB 2 1 3 1 rfl rfl rfl ?_
   refine retQ_nilB 2 2 107 4 rfl rfl rfl ?_
   have hX:giveStand s a=((⟨0,([]:List Int),([]:List Advice)⟩:Stand),10):=by
     have hx:s.used.getD a.card.toNat 0=x1:=by rw [List.getD_eq_getElem?_getD,hx1];rfl
     have hg:=give_cases (a:=a) (show wrongStand s=0 by omega) (show s.advices.length < 20 by omega)
     rw [hx,hr1] at hg
     rcases hg with ⟨p1,p2⟩|⟨p1,p2⟩|⟨p1,p2⟩<;>first|(exfalso;omega)|exact p2|(subst p1;exact p2)
   rw [hX] at hr;clear hX
   simp only [Prod.mk.injEq] at hr;obtain ⟨rfl,rfl⟩:=hr
   refine retQ_go ttk [8,9,2] 2 rfl rfl rfl rfl rfl rfl ?_ ?_
   all_goals first|rfl|(simp [ufs];done)|(simp [ufs];omega)
  have hc8':=of_decide_eq_false hc8
  refine AC.goes ttk 4 rfl ?_
  refine AC.ret ?_
  refine block_ret ?_
  refine retQ_nilB 2 1 3 1 rfl rfl rfl ?_
  refine retQ_nilB 2 2 107 4 rfl rfl rfl ?_
  have hX:giveStand s a=((⟨0,([]:List Int),([]:List Advice)⟩:Stand),e1):=by
    have hx:s.used.getD a.card.toNat 0=x1:=by rw [List.getD_eq_getElem?_getD,hx1];rfl
    have hg:=give_cases (a:=a) (show wrongStand s=0 by omega) (show s.advices.length < 20 by omega)
    rw [hx,hr1] at hg
    rcases hg with ⟨p1,p2⟩|⟨p1,p2⟩|⟨p1,p2⟩<;>first|(exfalso;omega)|exact p2|(subst p1;exact p2)
  rw [hX] at hr;clear hX
  simp only [Prod.mk.injEq] at hr;obtain ⟨rfl,rfl⟩:=hr
  refine retQ_go ttk [8,9,2] 2 rfl rfl rfl rfl rfl rfl ?_ ?_
  all_goals first|rfl|(simp [ufs];done)|(simp [ufs];omega)
 have hc6':=hc6;try simp only [sumB,dns] at hc6'
 refine AC.sk ?_
 refine AC.go ttk 1 rfl ?_
 obtain ⟨e2,hr2⟩:∃ (e2:Int),wrongStand (⟨s.cap,s.used,s.advices++([a])⟩:Stand)=e2:=⟨_,rfl⟩
 refine AL.cn 8 [7,6,3,2,1,0] (g_callE 8 [3,6] (c_stand_WrongN (⟨s.cap,s.used,s.advices++([a])⟩:Stand) e2 hr2) en30 rfl rfl ⟨⟨_,rfl,.g ⟨.d _,.s rfl (by decide) (by first|omega|(simp;done)|(simp;omega)),.s rfl (by decide) (by first|omega|(simp;done)|(simp;omega)),trivial⟩⟩,trivial⟩ rfl trivial rfl rfl rfl rfl) rfl ?_
 refine AL.runs ttk 1 rfl ?_
 refine AL.nx ?_
 refine AC.goes ttk 1 rfl ?_
 refine AC.block ?_
 refine AC.goes ttk 2 rfl ?_
 refine AC.cond rfl (fun hc9=>?_) (fun hc9=>?_)
 ·
  have hc9':=of_decide_eq_true hc9
  refine AC.goes ttk 3 rfl ?_
  refine AC.ret ?_
  refine block_ret ?_
  have hX:giveStand s a=((⟨s.cap,s.used,s.advices++([a])⟩:Stand),0):=by
    have hg:=give_off (a:=a) (show wrongStand s=0 by omega) (show s.advices.length < 20 by omega) (by omega)
    rw [hr2] at hg
    obtain ⟨p1,p2⟩:=hg
    first|(exfalso;omega)|(subst p1;exact p2)
  rw [hX] at hr;clear hX
  simp only [Prod.mk.injEq] at hr;obtain ⟨rfl,rfl⟩:=hr
  refine retQ_go ttk [3,6,2] 2 rfl rfl rfl rfl rfl rfl ?_ ?_
  all_goals first|rfl|(simp [ufs];done)|(simp [ufs];omega)
 have hc9':=of_decide_eq_false hc9
 refine AC.goes ttk 2 rfl ?_
 refine AC.cond rfl (fun hc10=>?_) (fun hc10=>?_)
 ·
  have hc10':=of_decide_eq_true hc10
  refine AC.goes ttk 3 rfl ?_
  refine AC.ret ?_
  refine block_ret ?_
  refine retQ_nilB 2 1 3 1 rfl rfl rfl ?_
  refine retQ_nilB 2 2 107 4 rfl rfl rfl ?_
  have hX:giveStand s a=((⟨0,([]:List Int),([]:List Advice)⟩:Stand),10):=by
    have hg:=give_off (a:=a) (show wrongStand s=0 by omega) (show s.advices.length < 20 by omega) (by omega)
    rw [hr2] at hg
    obtain ⟨p1,p2⟩:=hg
    first|(exfalso;omega)|(subst p1;exact p2)
  rw [hX] at hr;clear hX
  simp only [Prod.mk.injEq] at hr;obtain ⟨rfl,rfl⟩:=hr
  refine retQ_go ttk [8,9,2] 2 rfl rfl rfl rfl rfl rfl ?_ ?_
  all_goals first|rfl|(simp [ufs];done)|(simp [ufs];omega)
 have hc10':=of_decide_eq_false hc10
 refine AC.goes ttk 4 rfl ?_
 refine AC.ret ?_
 refine block_ret ?_
 refine retQ_nilB 2 1 3 1 rfl rfl rfl ?_
 refine retQ_nilB 2 2 107 4 rfl rfl rfl ?_
 have hX:giveStand s a=((⟨0,([]:List Int),([]:List Advice)⟩:Stand),e2):=by
   have hg:=give_off (a:=a) (show wrongStand s=0 by omega) (show s.advices.length < 20 by omega) (by omega)
   rw [hr2] at hg
   obtain ⟨p1,p2⟩:=hg
   first|(exfalso;omega)|(subst p1;exact p2)
 rw [hX] at hr;clear hX
 simp only [Prod.mk.injEq] at hr;obtain ⟨rfl,rfl⟩:=hr
 refine retQ_go ttk [8,9,2] 2 rfl rfl rfl rfl rfl rfl ?_ ?_
 all_goals first|rfl|(simp [ufs];done)|(simp [ufs];omega)
end Go.Proofs.Ytegepioggeggaaa.Dev
namespace Go.Proofs.Ytegepioggeggaaa.Dev
open Go.RowKit


def firstNZ:List Int->Int
  |[]=>0
  |x::l=>if x=0 then firstNZ l else x
def ordR (a b:Record):Int:=firstNZ [cmpI a.shop b.shop,cmpI a.auth b.auth]
theorem firstNZ_z {l:List Int} {i:Nat} {x:Int} (hx:l[i]?=some x) (h:x=0):firstNZ (l.drop i)=firstNZ (l.drop (i+1)):=by
  obtain ⟨hi,rfl⟩:=List.getElem?_eq_some_iff.1 hx
  rw [List.drop_eq_getElem_cons hi,firstNZ,if_pos h]
theorem firstNZ_n {l:List Int} {i:Nat} {x:Int} (hx:l[i]?=some x) (h:¬x=0):firstNZ (l.drop i)=x:=by
  obtain ⟨hi,rfl⟩:=List.getElem?_eq_some_iff.1 hx
  rw [List.drop_eq_getElem_cons hi,firstNZ,if_neg h]
theorem ordR_lt {a b:Record}:ordR a b < 0↔ltR a b=true:=by
  rw [ltR_t]
  have h1:=cmpI_neg (a:=a.shop) (b:=b.shop)
  have h2:=cmpI_zero (a:=a.shop) (b:=b.shop)
  have h3:=cmpI_neg (a:=a.auth) (b:=b.auth)
  have h4:=cmpI_zero (a:=a.auth) (b:=b.auth)
  unfold ordR firstNZ firstNZ firstNZ
  split
  ·split<;>omega
  ·omega
theorem ordR_ge {a b:Record} (h:¬ordR a b < 0):ltR a b=false:=by
  cases hb:ltR a b with
  |false=>rfl
  |true=>exact absurd (ordR_lt.2 hb) h
theorem look_i {l:List (Nat×AV)} {t:Nat} {x y:Int} {ρ:Nat->Nat} (h:look l t=some (aI x)) (e:x=y):look l t=some (AV.map ρ (aI y)):=by subst e;exact h

set_option maxRecDepth 100000 in
set_option maxHeartbeats 1000000 in
theorem c_Or (l:List Int) (r:Int) (hr:firstNZ l=r):Fn Try.prog 59 [(.c (vlI l))] (.v (.c (cI r))) []:=by
 refine Fn.mk' 18 [(0,(aC (vlI l)))] Try.func59 rfl rfl rfl rfl ?_
 intro W0 T0
 refine AC.len1 0 rfl (fun hlen0=>?_)
 refine AC.goes ttk 1 rfl ?_
 refine AC.goes ttk 1 rfl ?_
 refine AC.seq ?_
 refine AC.go ttk 1 rfl ?_
 refine AL.vl (g_lenM rfl rfl rfl rfl rfl Try.underlying30) rfl ?_
 refine AL.runs ttk 1 rfl ?_
 refine AL.nx ?_
 refine AC.block ?_
 refine AC.loop (β:=Nat) (fun (i:Nat)=>⟨[(3,(aI 0)),(6,(aC (vlI l))),(7,(aI (↑l.length:Int))),(8,(aI (↑i:Int)))],[],0⟩) (fun (i:Nat)=>i<=l.length/\firstNZ (l.drop i)=firstNZ l) (fun (i:Nat)=>l.length - i) 0 ?_ ?_ ?_
 ·exact ⟨by omega,rfl⟩
 ·exact Weak.ren id (by refine ⟨?_,?_,?_,?_,trivial⟩<;>first|rfl|(simp only [mps];done)|(congr 3;omega)|(congr 4;omega)|(simp only [lns];rfl)) (trivial) rfl
 rintro i ⟨hi0_0,hi0_1⟩
 refine AC.goes ttk 1 rfl ?_
 refine AC.seq ?_
 refine AC.cond rfl (fun hc1=>?_) (fun hc1=>?_)
 ·
  have hc1':=of_decide_eq_true hc1
  refine AC.sk ?_
  refine AC.seq ?_
  refine AC.block ?_
  refine AC.sr ?_
  obtain ⟨x1,hx1⟩:=exget (xs:=l) (i:=i) (by first|omega|(simp;done)|(simp;omega))
  refine AL.vl (g_indexQ (i:=i) rfl rfl rfl Try.underlying30 sz3 (by first|omega|(simp;done)|(simp;omega)) (getmap hx1)) rfl ?_
  refine AL.runs ttk 2 rfl ?_
  refine AL.nx ?_
  refine AC.goes ttk 3 rfl ?_
  refine AC.cond rfl (fun hc2=>?_) (fun hc2=>?_)
  ·
   have hc2':=of_decide_eq_true hc2
   refine AC.goes ttk 2 rfl ?_
   refine AC.ret ?_
   refine block_ret ?_
   refine then_ret ?_
   refine then_ret ?_
   refine block_ret ?_
   refine then_ret ?_
   have hX:firstNZ l=x1:=by
     rw [<-hi0_1];first|exact firstNZ_n hx1 (by omega)|(rw [List.drop_of_length_le (by omega)];rfl)
   rw [hX] at hr;clear hX
   subst hr
   refine retQ_go ttk [] 0 rfl rfl rfl rfl rfl rfl ?_ ?_
   all_goals first|rfl|(simp [ufs];done)|(simp [ufs];omega)
  have hc2':=of_decide_eq_false hc2
  refine AC.skip ?_
  refine block_ok ?_
  refine then_ok ?_
  refine AC.region ?_
  refine AL.vl (g_binI rfl rfl rfl (wrap_ok (by first|omega|(simp;done)|(simp;omega)))) rfl ?_
  refine AL.runs ttk 1 rfl ?_
  refine AL.nx ?_
  refine ⟨i+1,⟨by omega,by rw [<-firstNZ_z hx1 (by omega)];exact hi0_1⟩,by first|omega|(simp;done)|(simp;omega),Weak.ren id (by refine ⟨?_,?_,?_,?_,trivial⟩<;>first|rfl|(simp only [mps];done)|(congr 3;omega)|(congr 4;omega)|(simp only [lns];rfl)) (trivial) rfl⟩
 have hc1':=of_decide_eq_false hc1
 refine AC.exit ?_
 refine then_exit ?_
 refine then_exit ?_
 refine block_hit ?_
 refine then_ok ?_
 refine AC.goes ttk 2 rfl ?_
 refine AC.ret ?_
 have hX:firstNZ l=0:=by
   rw [<-hi0_1];first|exact firstNZ_n hx1 (by omega)|(rw [List.drop_of_length_le (by omega)];rfl)
 rw [hX] at hr;clear hX
 subst hr
 refine retQ_go ttk [] 0 rfl rfl rfl rfl rfl rfl ?_ ?_
 all_goals first|rfl|(simp [ufs];done)|(simp [ufs];omega)
set_option maxRecDepth 100000 in
set_option maxHeartbeats 1000000 in
theorem c_order (x y:Record):Fn Try.prog 53 [(.g [(cI x.shop),(cI x.auth),(cI x.kind),(cI x.sum)]),(.g [(cI y.shop),(cI y.auth),(cI y.kind),(cI y.sum)])] (aI (ordR x y)) []:=by
 refine Fn.mk' 17 [(0,(aG [(cI x.shop),(cI x.auth),(cI x.kind),(cI x.sum)])),(1,(aG [(cI y.shop),(cI y.auth),(cI y.kind),(cI y.sum)]))] Try.func53 rfl rfl rfl rfl ?_
 intro W0 T0
 refine AC.goes ttk 3 rfl ?_
 refine AC.seq ?_
 have hr0:cmpI x.shop y.shop=cmpI x.shop y.shop:=rfl
 have hr1:cmpI x.auth y.auth=cmpI x.auth y.auth:=rfl
 have hr2:firstNZ ([cmpI x.shop y.shop,cmpI x.auth y.auth])=firstNZ ([cmpI x.shop y.shop,cmpI x.auth y.auth]):=rfl
 refine AC.drawP [2,3] [1,0] mixed rfl rfl ?_
 refine PD.runs (kn:=[]) ttk 4 rfl trivial ?_
 refine PD.op (n':=2) [6,8] [] rfl rfl (.inl ⟨(Wanted.plain rfl),GOp.cast (g_call 2 (c_Compare x.shop y.shop (cmpI x.shop y.shop) hr0) en60 rfl rfl ⟨⟨_,rfl,.c (.d _)⟩,⟨_,rfl,.c (.d _)⟩,trivial⟩ trivial trivial rfl rfl rfl rfl) rfl⟩) rfl ?_
 refine PD.runs (kn:=[]) ttk 4 rfl trivial ?_
 refine PD.op (n':=2) [11,13] [] rfl rfl (.inl ⟨(Wanted.plain rfl),GOp.cast (g_call 2 (c_Compare x.auth y.auth (cmpI x.auth y.auth) hr1) en60 rfl rfl ⟨⟨_,rfl,.c (.d _)⟩,⟨_,rfl,.c (.d _)⟩,trivial⟩ trivial trivial rfl rfl rfl rfl) rfl⟩) rfl ?_
 refine PD.op (n':=3) [9,14] [] rfl rfl (.inl ⟨(Wanted.plain rfl),GOp.cast (g_lit (ys:=[(0,(.c (cI (cmpI x.shop y.shop)))),(1,(.c (cI (cmpI x.auth y.auth))))]) (rows:=([cmpI x.shop y.shop,cmpI x.auth y.auth]).map rI) 2 sl30 rfl (by decide) ⟨⟨rfl,rfl⟩,⟨rfl,rfl⟩,trivial⟩ rfl rfl rfl rfl) rfl⟩) rfl ?_
 refine PD.op (n':=3) [15] [2] rfl rfl (.inl ⟨(Wanted.plain rfl),GOp.cast (g_callE 3 [2] (c_Or ([cmpI x.shop y.shop,cmpI x.auth y.auth]) (firstNZ ([cmpI x.shop y.shop,cmpI x.auth y.auth])) hr2) en59 rfl rfl ⟨⟨_,rfl,.c (.s rfl (by decide) (by first|omega|(simp;done)|(simp;omega)))⟩,trivial⟩ rfl trivial rfl rfl rfl rfl) rfl⟩) rfl ?_
 refine PD.runs (kn:=[]) ttk 1 rfl trivial ?_
 refine PD.fin [1,0] rfl rfl rfl rfl (by kernel_rfl) ?_
 refine AL.nx ?_
 refine AC.ret ?_
 refine retQ_go ttk [] 0 rfl rfl rfl rfl rfl rfl ?_ ?_
 all_goals first|rfl|(simp [ufs];done)|(simp [ufs];omega)
end Go.Proofs.Ytegepioggeggaaa.Dev
namespace Go.Proofs.Ytegepioggeggaaa.Dev
open Go.RowKit

set_option maxRecDepth 100000 in
set_option maxHeartbeats 1000000 in
theorem c_swapRange (d:List Record) (N a b n:Nat) (fn:FuncId) (caps:List (List D)) (hp:∀ x y:Record,Fn Try.prog fn ([.g [cI x.shop,cI x.auth,cI x.kind,cI x.sum],.g [cI y.shop,cI y.auth,cI y.kind,cI y.sum]]++caps.map fun r=>GV.c (.q r 0)) (aI (ordR x y)) []) (hen:Enters Try.prog fn) (hl:d.length * 32<=140737488355328) (hN:N=d.length) (h0_:a+n<=d.length) (h1_:b+n<=d.length) (r:List Record) (hr:swapR a b n d=r):FnE Try.prog 110 [(.c (.s 0 0 4 N)),(.c (cI (↑a:Int))),(.c (cI (↑b:Int))),(.c (cI (↑n:Int))),(.c (.d (.f fn caps)))] [(0,(alR d))] [0] (.t []) [(0,(alR r))]:=by
 refine FnE.mk 38 [(0,(aC (.s 0 0 4 N))),(1,(aI (↑a:Int))),(2,(aI (↑b:Int))),(3,(aI (↑n:Int))),(4,(aC (.d (.f fn caps))))] 1 Try.func110 rfl rfl rfl rfl rfl rfl rfl rfl rfl ?_
 intro W0 F0 T0 pg
 refine AC.lenS 0 rfl (fun hlen0=>?_)
 refine AC.goes ttk 1 rfl ?_
 refine AC.block ?_
 refine AC.loop (β:=Nat×List Record) (fun (p:Nat×List Record)=>match p with|(i,d1)=>⟨[(0,(aC (.s 0 0 4 N))),(1,(aI (↑a:Int))),(2,(aI (↑b:Int))),(3,(aI (↑n:Int))),(10,(aI (↑i:Int)))],[(0,(alR d1))],1⟩) (fun (p:Nat×List Record)=>match p with|(i,d1)=>i<=n/\d1=swapR a b i d/\d1.length=d.length) (fun (p:Nat×List Record)=>match p with|(i,d1)=>n - i) (0,d) ?_ ?_ ?_
 ·exact ⟨by omega,rfl,rfl⟩
 ·exact Weak.ren id (by refine ⟨?_,?_,?_,?_,?_,trivial⟩<;>first|rfl|(simp only [mps];done)|(congr 3;omega)|(congr 4;omega)|(simp only [lns];rfl)|(exact look_i rfl (by omega))) (⟨by first|rfl|(simp only [mps];done)|(congr 3;omega)|(congr 4;omega)|(simp only [lns];rfl),trivial⟩) rfl
 rintro ⟨i,d1⟩ ⟨hi0_0,hi0_1,hi0_2⟩
 refine AC.seq ?_
 refine AC.goes ttk 3 rfl ?_
 refine AC.cond rfl (fun hc1=>?_) (fun hc1=>?_)
 ·
  have hc1':=of_decide_eq_true hc1
  refine AC.sk ?_
  refine AC.seq ?_
  refine AC.block ?_
  obtain ⟨x1,hx1⟩:=exget (xs:=d1) (i:=(b)+(i)) (by first|omega|(simp;done)|(simp;omega))
  obtain ⟨x2,hx2⟩:=exget (xs:=d1) (i:=(a)+(i)) (by first|omega|(simp;done)|(simp;omega))
  obtain ⟨x3,hx3⟩:=exget (xs:=((d1).set ((a)+(i)) x1)) (i:=(b)+(i)) (by first|omega|(simp;done)|(simp;omega))
  refine AC.drawQ [0,1,2,3,10] [0] mixed rfl rfl ?_
  refine PW.runs (kn:=[]) ttk 3 rfl trivial ?_
  refine PW.op (n':=1) [17,18] [] rfl rfl (.inl ⟨(Wanted.plain rfl),GOp.cast (g_binI rfl rfl rfl (wrap_ok (by first|omega|(simp;done)|(simp;omega)))) rfl⟩) rfl ?_
  refine PW.runs (kn:=[]) ttk 3 rfl trivial ?_
  refine PW.op (n':=1) [21,22] [] rfl rfl (.inl ⟨(Wanted.plain rfl),GOp.cast (g_binI rfl rfl rfl (wrap_ok (by first|omega|(simp;done)|(simp;omega)))) rfl⟩) rfl ?_
  refine PW.runs (kn:=[]) ttk 3 rfl trivial ?_
  refine PW.op (n':=1) [25,26] [] rfl rfl (.inl ⟨(Wanted.plain rfl),GOp.cast (g_binI rfl rfl rfl (wrap_ok (by first|omega|(simp;done)|(simp;omega)))) rfl⟩) rfl ?_
  refine PW.op (n':=1) [24,27] [0] rfl rfl (.inl ⟨(Wanted.plain rfl),GOp.cast (g_indexP0 (i:=(b)+(i)) rfl rfl rfl Try.underlying42 sz83 (by first|omega|(simp;done)|(simp;omega)) (by first|omega|(simp;done)|(simp;omega))) rfl⟩) rfl ?_
  refine PW.op (n':=1) [28] [0] rfl rfl (.inl ⟨(Wanted.plain rfl),GOp.cast (g_loadAs rfl rfl rfl Try.underlying83 rfl sz83 (getmap hx1) rfl) rfl⟩) rfl ?_
  refine PW.runs (kn:=[]) ttk 3 rfl trivial ?_
  refine PW.op (n':=1) [31,32] [] rfl rfl (.inl ⟨(Wanted.plain rfl),GOp.cast (g_binI rfl rfl rfl (wrap_ok (by first|omega|(simp;done)|(simp;omega)))) rfl⟩) rfl ?_
  refine PW.op (n':=1) [30,33] [0] rfl rfl (.inl ⟨(Wanted.plain rfl),GOp.cast (g_indexP0 (i:=(a)+(i)) rfl rfl rfl Try.underlying42 sz83 (by first|omega|(simp;done)|(simp;omega)) (by first|omega|(simp;done)|(simp;omega))) rfl⟩) rfl ?_
  refine PW.op (n':=1) [34] [0] rfl rfl (.inl ⟨(Wanted.plain rfl),GOp.cast (g_loadAs rfl rfl rfl Try.underlying83 rfl sz83 (getmap hx2) rfl) rfl⟩) rfl ?_
  refine PW.op (n':=1) [16,19] [0] rfl rfl (.inl ⟨(Wanted.plain rfl),GOp.cast (g_indexP0 (i:=(a)+(i)) rfl rfl rfl Try.underlying42 sz83 (by first|omega|(simp;done)|(simp;omega)) (by first|omega|(simp;done)|(simp;omega))) rfl⟩) rfl ?_
  refine PW.op (n':=1) [36,29] [0] rfl rfl (.inl ⟨(Wanted.plain rfl),GOp.cast (g_storeA (ds:=[(dI x1.shop),(dI x1.auth),(dI x1.kind),(dI x1.sum)]) rfl rfl rfl rfl rfl sz83 rfl (Nat.le_of_ble_eq_true rfl) (getmap hx2) rfl (setmap (x':=x1) rfl)) rfl⟩) rfl ?_
  refine PW.op (n':=1) [20,23] [0] rfl rfl (.inl ⟨(Wanted.plain rfl),GOp.cast (g_indexP0 (i:=(b)+(i)) rfl rfl rfl Try.underlying42 sz83 (by first|omega|(simp;done)|(simp;omega)) (by first|omega|(simp;done)|(simp;omega))) rfl⟩) rfl ?_
  refine PW.op (n':=1) [37,35] [0] rfl rfl (.inl ⟨(Wanted.plain rfl),GOp.cast (g_storeA (ds:=[(dI x2.shop),(dI x2.auth),(dI x2.kind),(dI x2.sum)]) rfl rfl rfl rfl rfl sz83 rfl (Nat.le_of_ble_eq_true rfl) (getmap hx3) rfl (setmap (x':=x2) rfl)) rfl⟩) rfl ?_
  refine PW.fin [0,1,2,3,10] [0] rfl rfl (by kernel_rfl) ?_
  refine block_ok ?_
  refine then_ok ?_
  refine AC.region ?_
  refine AL.runs ttk 1 rfl ?_
  refine AL.vl (g_binI rfl rfl rfl (wrap_ok (by first|omega|(simp;done)|(simp;omega)))) rfl ?_
  refine AL.runs ttk 1 rfl ?_
  refine AL.nx ?_
  refine ⟨(i+1,((d1).set ((a)+(i)) x1).set ((b)+(i)) x2),⟨by omega,by rw [swapR,<-hi0_1];exact (swap2_eq hx2 hx1).symm,by simp only [List.length_set];exact hi0_2⟩,by first|omega|(simp;done)|(simp;omega),Weak.ren id (by refine ⟨?_,?_,?_,?_,?_,trivial⟩<;>first|rfl|(simp only [mps];done)|(congr 3;omega)|(congr 4;omega)|(simp only [lns];rfl)|(exact look_i rfl (by omega))) (⟨by first|rfl|(simp only [mps];done)|(congr 3;omega)|(congr 4;omega)|(simp only [lns];rfl),trivial⟩) rfl⟩
 have hc1':=of_decide_eq_false hc1
 refine AC.exit ?_
 refine then_exit ?_
 refine then_exit ?_
 refine block_hit ?_
 have hX:swapR a b n d=d1:=by
   have:i=n:=by omega
   subst this;exact hi0_1.symm
 rw [hX] at hr;clear hX
 subst hr
 refine retQ_gon ttk [0] 1 rfl rfl rfl rfl rfl rfl ?_ ?_
 all_goals first|rfl|(simp [ufs];done)|(simp [ufs];omega)
theorem c_swapRangeI (ai bi ni:Int) (d:List Record) (N a b n:Nat) (fn:FuncId) (caps:List (List D)) (hp:∀ x y:Record,Fn Try.prog fn ([.g [cI x.shop,cI x.auth,cI x.kind,cI x.sum],.g [cI y.shop,cI y.auth,cI y.kind,cI y.sum]]++caps.map fun r=>GV.c (.q r 0)) (aI (ordR x y)) []) (hen:Enters Try.prog fn) (ea_:ai=(↑a:Int)) (eb_:bi=(↑b:Int)) (en_:ni=(↑n:Int)) (hl:d.length * 32<=140737488355328) (hN:N=d.length) (h0_:a+n<=d.length) (h1_:b+n<=d.length) (r:List Record) (hr:swapR a b n d=r):FnE Try.prog 110 [(.c (.s 0 0 4 N)),(.c (cI ai)),(.c (cI bi)),(.c (cI ni)),(.c (.d (.f fn caps)))] [(0,(alR d))] [0] (.t []) [(0,(alR r))]:=by
  subst ea_ eb_ en_
  exact c_swapRange d N a b n fn caps hp hen hl hN h0_ h1_ r hr
end Go.Proofs.Ytegepioggeggaaa.Dev
namespace Go.Proofs.Ytegepioggeggaaa.Dev
open Go.RowKit

set_option maxRecDepth 100000 in
set_option maxHeartbeats 1000000 in
theorem c_rotate (d:List Record) (N a m b:Nat) (fn:FuncId) (caps:List (List D)) (hp:∀ x y:Record,Fn Try.prog fn ([.g [cI x.shop,cI x.auth,cI x.kind,cI x.sum],.g [cI y.shop,cI y.auth,cI y.kind,cI y.sum]]++caps.map fun r=>GV.c (.q r 0)) (aI (ordR x y)) []) (hen:Enters Try.prog fn) (hl:d.length * 32<=140737488355328) (hN:N=d.length) (h0_:a < m) (h1_:m < b) (h2_:b<=d.length) (r:List Record) (hr:rot m (m - a) (b - m) d=r):FnE Try.prog 93 [(.c (.s 0 0 4 N)),(.c (cI (↑a:Int))),(.c (cI (↑m:Int))),(.c (cI (↑b:Int))),(.c (.d (.f fn caps)))] [(0,(alR d))] [0] (.t []) [(0,(alR r))]:=by
 refine FnE.mk 58 [(0,(aC (.s 0 0 4 N))),(1,(aI (↑a:Int))),(2,(aI (↑m:Int))),(3,(aI (↑b:Int))),(4,(aC (.d (.f fn caps))))] 1 Try.func93 rfl rfl rfl rfl rfl rfl rfl rfl rfl ?_
 intro W0 F0 T0 pg
 refine AC.lenS 0 rfl (fun hlen0=>?_)
 refine AC.go ttk 2 rfl ?_
 refine AL.vl (g_binI rfl rfl rfl (wrap_ok (by first|omega|(simp;done)|(simp;omega)))) rfl ?_
 refine AL.runs ttk 1 rfl ?_
 refine AL.nx ?_
 refine AC.go ttk 2 rfl ?_
 refine AL.vl (g_binI rfl rfl rfl (wrap_ok (by first|omega|(simp;done)|(simp;omega)))) rfl ?_
 refine AL.runs ttk 1 rfl ?_
 refine AL.nx ?_
 refine AC.seq ?_
 refine AC.block ?_
 refine AC.loop (β:=Nat×Nat×List Record) (fun (p:Nat×Nat×List Record)=>match p with|(i,j,d1)=>⟨[(0,(aC (.s 0 0 4 N))),(2,(aI (↑m:Int))),(4,(aC (.d (.f fn caps)))),(10,(aI (↑i:Int))),(11,(aI (↑j:Int)))],[(0,(alR d1))],1⟩) (fun (p:Nat×Nat×List Record)=>match p with|(i,j,d1)=>0 < i/\0 < j/\i+a<=m/\m+j<=b/\rot m i j d1=rot m (m - a) (b - m) d/\d1.length=d.length) (fun (p:Nat×Nat×List Record)=>match p with|(i,j,d1)=>i+j) (m - a,b - m,d) ?_ ?_ ?_
 ·exact ⟨by omega,by omega,by omega,by omega,rfl,rfl⟩
 ·exact Weak.ren id (by refine ⟨?_,?_,?_,?_,?_,trivial⟩<;>first|rfl|(simp only [mps];done)|(congr 3;omega)|(congr 4;omega)|(simp only [lns];rfl)|(exact look_i rfl (by omega))) (⟨by first|rfl|(simp only [mps];done)|(congr 3;omega)|(congr 4;omega)|(simp only [lns];rfl),trivial⟩) rfl
 rintro ⟨i,j,d1⟩ ⟨hi0_0,hi0_1,hi0_2,hi0_3,hi0_4,hi0_5⟩
 refine AC.seq ?_
 refine AC.goes ttk 3 rfl ?_
 refine AC.cond rfl (fun hc1=>?_) (fun hc1=>?_)
 ·
  have hc1':=of_decide_eq_true hc1
  refine AC.sk ?_
  refine AC.block ?_
  refine AC.goes ttk 3 rfl ?_
  refine AC.cond rfl (fun hc2=>?_) (fun hc2=>?_)
  ·
   have hc2':=of_decide_eq_true hc2
   refine AC.go ttk 3 rfl ?_
   refine AL.vl (g_binI rfl rfl rfl (wrap_ok (by first|omega|(simp;done)|(simp;omega)))) rfl ?_
   refine AL.runs ttk 3 rfl ?_
   obtain ⟨r0,hr0⟩:∃ (r0:List Record),swapR ((m) - (i)) m j d1=r0:=⟨_,rfl⟩
   have hlr0:r0.length=d1.length:=by rw [<-hr0];exact swapR_len _ _ _ _
   refine AL.cn 1 [0] (g_callMA id id (c_swapRangeI ((↑m:Int) - (↑i:Int)) (↑m:Int) (↑j:Int) d1 N ((m) - (i)) m j fn caps hp hen (by first|omega|(simp;done)|(simp;omega)) (by first|omega|(simp;done)|(simp;omega)) (by first|omega|(simp;done)|(simp;omega)) (by first|omega|(simp;done)|(simp;omega)) (by first|omega|(simp;done)|(simp;omega)) (by first|omega|(simp;done)|(simp;omega)) (by first|omega|(simp;done)|(simp;omega)) r0 hr0) en110 rfl rfl ⟨⟨_,rfl,.inl ⟨rfl,rfl⟩⟩,⟨_,rfl,.inr (.c (.d _))⟩,⟨_,rfl,.inr (.c (.d _))⟩,⟨_,rfl,.inr (.c (.d _))⟩,⟨_,rfl,.inr (.c (.d _))⟩,trivial⟩ ⟨rfl,trivial⟩ rfl rfl ⟨.inr ⟨_,_,_,rfl,by first|(simp;omega)|(simp only [List.length_map];omega)⟩,trivial⟩ rfl rfl rfl trivial ⟨(fun _ _ _ _=>trivial),trivial⟩ rfl rfl rfl rfl) rfl ?_
   refine AL.nx ?_
   refine AC.region ?_
   refine AL.runs ttk 2 rfl ?_
   refine AL.vl (g_binI rfl rfl rfl (wrap_ok (by first|omega|(simp;done)|(simp;omega)))) rfl ?_
   refine AL.runs ttk 1 rfl ?_
   refine AL.nil ?_
   refine block_ok ?_
   refine then_ok ?_
   refine ⟨((i) - (j),j,r0),⟨by omega,by omega,by omega,by omega,by rw [<-hr0,<-rot_gt (by omega) (by omega)];exact hi0_4,by omega⟩,by first|omega|(simp;done)|(simp;omega),Weak.ren id (by refine ⟨?_,?_,?_,?_,?_,trivial⟩<;>first|rfl|(simp only [mps];done)|(congr 3;omega)|(congr 4;omega)|(simp only [lns];rfl)|(exact look_i rfl (by omega))) (⟨by first|rfl|(simp only [mps];done)|(congr 3;omega)|(congr 4;omega)|(simp only [lns];rfl),trivial⟩) rfl⟩
  have hc2':=of_decide_eq_false hc2
  refine AC.go ttk 3 rfl ?_
  refine AL.vl (g_binI rfl rfl rfl (wrap_ok (by first|omega|(simp;done)|(simp;omega)))) rfl ?_
  refine AL.runs ttk 2 rfl ?_
  refine AL.vl (g_binI rfl rfl rfl (wrap_ok (by first|omega|(simp;done)|(simp;omega)))) rfl ?_
  refine AL.runs ttk 1 rfl ?_
  refine AL.vl (g_binI rfl rfl rfl (wrap_ok (by first|omega|(simp;done)|(simp;omega)))) rfl ?_
  refine AL.runs ttk 2 rfl ?_
  obtain ⟨r1,hr1⟩:∃ (r1:List Record),swapR ((m) - (i)) (((m)+(j)) - (i)) i d1=r1:=⟨_,rfl⟩
  have hlr1:r1.length=d1.length:=by rw [<-hr1];exact swapR_len _ _ _ _
  refine AL.cn 1 [0] (g_callMA id id (c_swapRangeI ((↑m:Int) - (↑i:Int)) (((↑m:Int)+(↑j:Int)) - (↑i:Int)) (↑i:Int) d1 N ((m) - (i)) (((m)+(j)) - (i)) i fn caps hp hen (by first|omega|(simp;done)|(simp;omega)) (by first|omega|(simp;done)|(simp;omega)) (by first|omega|(simp;done)|(simp;omega)) (by first|omega|(simp;done)|(simp;omega)) (by first|omega|(simp;done)|(simp;omega)) (by first|omega|(simp;done)|(simp;omega)) (by first|omega|(simp;done)|(simp;omega)) r1 hr1) en110 rfl rfl ⟨⟨_,rfl,.inl ⟨rfl,rfl⟩⟩,⟨_,rfl,.inr (.c (.d _))⟩,⟨_,rfl,.inr (.c (.d _))⟩,⟨_,rfl,.inr (.c (.d _))⟩,⟨_,rfl,.inr (.c (.d _))⟩,trivial⟩ ⟨rfl,trivial⟩ rfl rfl ⟨.inr ⟨_,_,_,rfl,by first|(simp;omega)|(simp only [List.length_map];omega)⟩,trivial⟩ rfl rfl rfl trivial ⟨(fun _ _ _ _=>trivial),trivial⟩ rfl rfl rfl rfl) rfl ?_
  refine AL.nx ?_
  refine AC.region ?_
  refine AL.runs ttk 2 rfl ?_
  refine AL.vl (g_binI rfl rfl rfl (wrap_ok (by first|omega|(simp;done)|(simp;omega)))) rfl ?_
  refine AL.runs ttk 1 rfl ?_
  refine AL.nil ?_
  refine block_ok ?_
  refine then_ok ?_
  refine ⟨(i,(j) - (i),r1),⟨by omega,by omega,by omega,by omega,by rw [<-hr1,<-rot_lt (by omega) (by omega)];exact hi0_4,by omega⟩,by first|omega|(simp;done)|(simp;omega),Weak.ren id (by refine ⟨?_,?_,?_,?_,?_,trivial⟩<;>first|rfl|(simp only [mps];done)|(congr 3;omega)|(congr 4;omega)|(simp only [lns];rfl)|(exact look_i rfl (by omega))) (⟨by first|rfl|(simp only [mps];done)|(congr 3;omega)|(congr 4;omega)|(simp only [lns];rfl),trivial⟩) rfl⟩
 have hc1':=of_decide_eq_false hc1
 refine AC.exit ?_
 refine then_exit ?_
 refine then_exit ?_
 refine block_hit ?_
 refine then_ok ?_
 refine AC.region ?_
 refine AL.runs ttk 3 rfl ?_
 refine AL.vl (g_binI rfl rfl rfl (wrap_ok (by first|omega|(simp;done)|(simp;omega)))) rfl ?_
 refine AL.runs ttk 3 rfl ?_
 obtain ⟨r2,hr2⟩:∃ (r2:List Record),swapR ((m) - (i)) m i d1=r2:=⟨_,rfl⟩
 have hlr2:r2.length=d1.length:=by rw [<-hr2];exact swapR_len _ _ _ _
 refine AL.cn 1 [0] (g_callMA id id (c_swapRangeI ((↑m:Int) - (↑i:Int)) (↑m:Int) (↑i:Int) d1 N ((m) - (i)) m i fn caps hp hen (by first|omega|(simp;done)|(simp;omega)) (by first|omega|(simp;done)|(simp;omega)) (by first|omega|(simp;done)|(simp;omega)) (by first|omega|(simp;done)|(simp;omega)) (by first|omega|(simp;done)|(simp;omega)) (by first|omega|(simp;done)|(simp;omega)) (by first|omega|(simp;done)|(simp;omega)) r2 hr2) en110 rfl rfl ⟨⟨_,rfl,.inl ⟨rfl,rfl⟩⟩,⟨_,rfl,.inr (.c (.d _))⟩,⟨_,rfl,.inr (.c (.d _))⟩,⟨_,rfl,.inr (.c (.d _))⟩,⟨_,rfl,.inr (.c (.d _))⟩,trivial⟩ ⟨rfl,trivial⟩ rfl rfl ⟨.inr ⟨_,_,_,rfl,by first|(simp;omega)|(simp only [List.length_map];omega)⟩,trivial⟩ rfl rfl rfl trivial ⟨(fun _ _ _ _=>trivial),trivial⟩ rfl rfl rfl rfl) rfl ?_
 refine AL.nil ?_
 have hX:rot m (m - a) (b - m) d=r2:=by
   have hij:i=j:=by omega
   subst hij;rw [<-hi0_4,rot_eq (by omega)];exact hr2
 rw [hX] at hr;clear hX
 subst hr
 refine retQ_gon ttk [0] 1 rfl rfl rfl rfl rfl rfl ?_ ?_
 all_goals first|rfl|(simp [ufs];done)|(simp [ufs];omega)
theorem c_rotateI (ai mi bi:Int) (d:List Record) (N a m b:Nat) (fn:FuncId) (caps:List (List D)) (hp:∀ x y:Record,Fn Try.prog fn ([.g [cI x.shop,cI x.auth,cI x.kind,cI x.sum],.g [cI y.shop,cI y.auth,cI y.kind,cI y.sum]]++caps.map fun r=>GV.c (.q r 0)) (aI (ordR x y)) []) (hen:Enters Try.prog fn) (ea_:ai=(↑a:Int)) (em_:mi=(↑m:Int)) (eb_:bi=(↑b:Int)) (hl:d.length * 32<=140737488355328) (hN:N=d.length) (h0_:a < m) (h1_:m < b) (h2_:b<=d.length) (r:List Record) (hr:rot m (m - a) (b - m) d=r):FnE Try.prog 93 [(.c (.s 0 0 4 N)),(.c (cI ai)),(.c (cI mi)),(.c (cI bi)),(.c (.d (.f fn caps)))] [(0,(alR d))] [0] (.t []) [(0,(alR r))]:=by
  subst ea_ em_ eb_
  exact c_rotate d N a m b fn caps hp hen hl hN h0_ h1_ h2_ r hr
end Go.Proofs.Ytegepioggeggaaa.Dev
