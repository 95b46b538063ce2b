/- paylaw8.BankHeld. -/
import Derived.Test.YtegepioggeggaaaD13
import Derived.Test.YtegepioggeggaaaD04
set_option linter.unusedVariables false
set_option linter.unusedSimpArgs false
namespace Go.Proofs.Ytegepioggeggaaa.Dev
open Go.RowKit

set_option maxRecDepth 100000 in
set_option maxHeartbeats 8000000 in
theorem c_BankHeld (s:Setup) (l:List Deed):Fn Try.prog 5 [(.g [(cR 3 ((s.paces).map rPace)),(cI s.shops),(cI s.cap)]),(.c (vlD l))] (aB true) []:=by
 refine Fn.mk' 116 [(0,(aG [(cR 3 ((s.paces).map rPace)),(cI s.shops),(cI s.cap)])),(1,(aC (vlD l)))] Try.func5 rfl rfl rfl rfl ?_
 intro W0 T0
 refine AC.lenG 0 0 rfl rfl (fun hlen0_0=>?_)
 refine AC.len1 1 rfl (fun hlen1=>?_)
 refine AC.goes ttk 2 rfl ?_
 refine AC.seq ?_
 refine AC.sr ?_
 refine AL.cn 1 [0] (g_call 1 (c_alive8) en25 rfl rfl trivial trivial trivial rfl rfl rfl rfl) rfl ?_
 refine AL.runs ttk 1 rfl ?_
 refine AL.nx ?_
 refine AC.cond rfl (fun hno=>by cases hno) (fun _=>?_)
 refine AC.sk ?_
 refine AC.go ttk 2 rfl ?_
 obtain ⟨b20,y20,o20,f20,hr0⟩:∃ (b20:Bk) (y20:List (List Int)) (o20:List Answer) (f20:Fault),playR s l=(b20,y20,o20,f20):=⟨_,_,_,_,rfl⟩
 refine AL.cn 1 [0] (g_call 1 (Fn.frozen (av':=(.t [(.g [(cI b20.time),(cB b20.down),(vlC b20.cards),(vlI b20.due),(vlP b20.auths),(cI b20.s0.sent),(vlT b20.s0.kept),(cI b20.s1.sent),(vlT b20.s1.kept),(cI b20.n0),(cI b20.n1),(vlK b20.w0),(vlK b20.w1),(cI b20.stand.cap),(vlI b20.stand.used),(vlA b20.stand.advices),(vlR b20.today),(vlY y20),(vlE b20.book)]),(.c (vlN o20)),(.g [(cI f20.err),(cI f20.at_)])])) (c_Play s l b20 y20 o20 f20 hr0) ⟨⟨.inl ⟨_,rfl,rfl⟩,.inl ⟨_,rfl,rfl⟩,.inr ⟨_,_,_,_,_,rfl,rfl,rfl,by simp⟩,.inr ⟨_,_,_,_,_,rfl,rfl,rfl,by simp⟩,.inr ⟨_,_,_,_,_,rfl,rfl,rfl,by simp⟩,.inl ⟨_,rfl,rfl⟩,.inl ⟨_,rfl,rfl⟩,.inl ⟨_,rfl,rfl⟩,.inl ⟨_,rfl,rfl⟩,.inl ⟨_,rfl,rfl⟩,.inl ⟨_,rfl,rfl⟩,.inl ⟨_,rfl,rfl⟩,.inl ⟨_,rfl,rfl⟩,.inl ⟨_,rfl,rfl⟩,.inl ⟨_,rfl,rfl⟩,.inl ⟨_,rfl,rfl⟩,.inr ⟨_,_,_,_,_,rfl,rfl,rfl,by simp⟩,.inr ⟨_,_,_,_,_,rfl,rfl,rfl,by simp⟩,.inl ⟨_,rfl,rfl⟩,trivial⟩,.inr ⟨_,_,_,_,_,rfl,rfl,rfl,by simp⟩,⟨.inl ⟨_,rfl,rfl⟩,.inl ⟨_,rfl,rfl⟩,trivial⟩,trivial⟩) en22 rfl rfl ⟨⟨_,rfl,.g ⟨.d _,.d _,.d _,trivial⟩⟩,⟨_,rfl,.c (.d _)⟩,trivial⟩ ⟨⟨trivial,trivial,trivial,trivial,trivial,trivial,trivial,trivial,trivial,trivial,trivial,trivial,trivial,trivial,trivial,trivial,trivial,trivial,trivial,trivial⟩,trivial,⟨trivial,trivial,trivial⟩,trivial⟩ trivial rfl rfl rfl rfl) rfl ?_
 refine AL.runs ttk 9 rfl ?_
 refine AL.nx ?_
 refine AC.seq ?_
 refine AC.goes ttk 3 rfl ?_
 refine AC.cond rfl (fun hc2=>?_) (fun hc2=>?_)
 ·
  have hc2':=of_decide_eq_true hc2
  refine AC.goes ttk 1 rfl ?_
  refine AC.ret ?_
  refine then_ret ?_
  refine retQ_go ttk [] 0 rfl rfl rfl rfl rfl rfl ?_ ?_
  ·rfl
  ·rfl
 have hc2':=of_decide_eq_false hc2
 refine AC.sk ?_
 have hH:=held_law hr0 (by omega)
 have hok:=playR_ok hr0 (by omega)
 obtain ⟨okt,okc,okd,oka,oky,okw0,okw1,okp,okv,okk0,okk1,okg,okl0,okl1,okp0,okp1,okn0,okn1,okq⟩:=id hok
 have hI0:∀ t∈b20.s0.kept,InI t.number:=fun t ht=>(okk0 t ht).1
 have hI1:∀ t∈b20.s1.kept,InI t.number:=fun t ht=>(okk1 t ht).1
 refine AC.go ttk 2 rfl ?_
 refine AL.vl (g_lenM rfl rfl rfl rfl rfl Try.underlying29) rfl ?_
 refine AL.cn 4 [3,2,1,0] (g_makeI 3 sl30 zv3 rfl rfl rfl (n:=b20.cards.length) (by first|omega|(simp;done)|(simp;omega)) (by first|omega|(simp;done)|(simp;omega)) (by first|omega|(simp;done)|(simp;omega)) (by first|omega|(simp;done)|(simp;omega))) rfl ?_
 refine AL.runs ttk 1 rfl ?_
 refine AL.nx ?_
 refine AC.seq ?_
 refine AC.go ttk 2 rfl ?_
 refine AL.vl (g_lenM rfl rfl rfl rfl rfl Try.underlying31) rfl ?_
 refine AL.runs ttk 1 rfl ?_
 refine AL.nx ?_
 refine AC.block ?_
 refine AC.loop (β:=Nat×List Int) (fun (p:Nat×List Int)=>match p with|(q,hl)=>⟨[(5,(aC (.p 1 0 0 0))),(8,(aC (.s 3 0 1 hl.length))),(30,(aC (vlP b20.auths))),(31,(aI (↑b20.auths.length:Int))),(32,(aI (↑q:Int)))],[(3,(alI hl)),(1,(.box 46 [(cI b20.time),(cB b20.down),(vlC b20.cards),(vlI b20.due),(vlP b20.auths),(cI b20.s0.sent),(vlT b20.s0.kept),(cI b20.s1.sent),(vlT b20.s1.kept),(cI b20.n0),(cI b20.n1),(vlK b20.w0),(vlK b20.w1),(cI b20.stand.cap),(vlI b20.stand.used),(vlA b20.stand.advices),(vlR b20.today),(vlY y20),(vlE b20.book)]))],4⟩) (fun (p:Nat×List Int)=>match p with|(q,hl)=>q<=b20.auths.length/\HL b20.cards.length (b20.auths.take q) hl) (fun (p:Nat×List Int)=>match p with|(q,hl)=>b20.auths.length - q) (0,List.replicate b20.cards.length 0) ?_ ?_ ?_
 ·exact ⟨by omega,HL.start _⟩
 ·exact Weak.ren id (by refine ⟨?_,?_,?_,?_,?_,trivial⟩<;>first|rfl|(simp only [mps];done)|(congr 3;omega)|(congr 4;omega)|(simp only [lns];rfl)|(exact look_s rfl (by simp))) (by refine ⟨?_,?_,trivial⟩<;>first|rfl|(simp only [mps];done)|(congr 3;omega)|(congr 4;omega)|(simp only [lns];rfl)) rfl
 rintro ⟨q,hl⟩ ⟨hi0_0,hi0_1⟩
 have hlen:=hi0_1.len
 refine AC.goes ttk 1 rfl ?_
 refine AC.seq ?_
 refine AC.cond rfl (fun hc3=>?_) (fun hc3=>?_)
 ·
  have hc3':=of_decide_eq_true hc3
  refine AC.sk ?_
  refine AC.seq ?_
  refine AC.block ?_
  refine AC.sr ?_
  obtain ⟨x1,hx1⟩:=exget (xs:=b20.auths) (i:=q) (by first|omega|(simp;done)|(simp;omega))
  have hx1w:=okp x1 (List.mem_of_getElem? hx1)
  have hx1A:=hx1w.2
  replace hx1w:=hx1w.1
  refine AL.vl (g_indexQ (i:=q) rfl rfl rfl Try.underlying31 sz67 (by first|omega|(simp;done)|(simp;omega)) (getmap hx1)) rfl ?_
  refine AL.runs ttk 3 rfl ?_
  refine AL.nx ?_
  refine AC.seq ?_
  obtain ⟨e1,hr1⟩:∃ (e1:Int),wrongAuth x1=e1:=⟨_,rfl⟩
  have hz1:e1=0:=by rw [<-hr1];assumption
  refine AC.cutB 54 (((decide (¬e1=0))||(decide (x1.card>=(↑b20.cards.length:Int))))||(decide (x1.shop>=(↑b20.due.length:Int)))) ?_ ?_
  ·
   refine AC.region ?_
   refine AL.runs ttk 1 rfl ?_
   refine AL.cn 5 [4,3,1] (g_call 5 (c_auth_Wrong x1 e1 hr1) en26 rfl rfl ⟨⟨_,rfl,.g ⟨.d _,.d _,.d _,.d _,.d _,.d _,.d _,.d _,trivial⟩⟩,trivial⟩ trivial trivial rfl rfl rfl rfl) rfl ?_
   refine AL.runs ttk 2 rfl ?_
   refine AL.dec (t:=39) rfl (fun hb4=>?_) (fun hb4=>?_)
   ·
    have hb4':=of_decide_eq_true hb4
    refine AL.runs ttk 15 rfl ?_
    refine AL.nx ?_
    exact Weak.popB 20 rfl rfl (by first|(simp [hb4];done)|(simp_all;done)|(exfalso;simp_all;done)|(simp_all;omega)) rfl
   have hb4':=of_decide_eq_false hb4
   refine AL.runs ttk 4 rfl ?_
   refine AL.val (Wanted.yes rfl rfl rfl) (g_lenM rfl rfl rfl rfl rfl Try.underlying29) rfl rfl ?_
   refine AL.runs ttk 3 rfl ?_
   refine AL.dec (t:=47) rfl (fun hb5=>?_) (fun hb5=>?_)
   ·
    have hb5':=of_decide_eq_true hb5
    refine AL.runs ttk 7 rfl ?_
    refine AL.nx ?_
    exact Weak.popB 21 rfl rfl (by first|(simp [hb4,hb5];done)|(simp_all;done)|(exfalso;simp_all;done)|(simp_all;omega)) rfl
   have hb5':=of_decide_eq_false hb5
   refine AL.runs ttk 4 rfl ?_
   refine AL.val (Wanted.yes rfl rfl rfl) (g_lenM rfl rfl rfl rfl rfl Try.underlying30) rfl rfl ?_
   refine AL.runs ttk 2 rfl ?_
   refine AL.nx ?_
   exact Weak.popB 21 rfl rfl (by first|(simp [hb4,hb5];done)|(simp_all;done)|(exfalso;simp_all;done)|(simp_all;omega)) rfl
  refine AC.cond rfl (fun hc6=>?_) (fun hc6=>?_)
  ·
   have hc6':=hc6;try simp only [sumB,dns] at hc6'
   refine AC.goes ttk 1 rfl ?_
   refine AC.ret ?_
   refine then_ret ?_
   refine block_ret ?_
   refine then_ret ?_
   refine then_ret ?_
   refine block_ret ?_
   refine then_ret ?_
   refine retQ_go ttk [] 0 rfl rfl rfl rfl rfl rfl ?_ ?_
   ·exact congrArg aB (show (false)=true by (exfalso;first|omega|(simp_all;done)))
   ·rfl
  have hc6':=hc6;try simp only [sumB,dns] at hc6'
  refine AC.sk ?_
  obtain ⟨x2,hx2⟩:=exget (xs:=hl) (i:=Int.toNat (x1.card)) (by first|omega|(simp;done)|(simp;omega))
  have hx2b:=hi0_1.b hx2 (fun a ha=>(okp a (List.mem_of_mem_take ha)).1) (by rw [List.length_take];omega)
  obtain ⟨e2,hr2⟩:∃ (e2:Int),holdAuth x1=e2:=⟨_,rfl⟩
  have hhb2:=hold_b (show wrongAuth x1=0 by assumption)
  rw [hr2] at hhb2
  refine AC.drawP [5,8,30,31,32,10] [4,3,1] mixed rfl rfl ?_
  refine PD.runs (kn:=[]) ttk 6 rfl trivial ?_
  refine PD.op (n':=5) [58,60] [3] rfl rfl (.inl ⟨(Wanted.plain rfl),GOp.cast (g_indexP0 (i:=Int.toNat (x1.card)) rfl rfl rfl Try.underlying30 sz3 (by first|omega|(simp;done)|(simp;omega)) (by first|omega|(simp;done)|(simp;omega))) rfl⟩) rfl ?_
  refine PD.op (n':=5) [61] [3] rfl rfl (.inl ⟨(Wanted.plain rfl),GOp.cast (g_loadA rfl rfl rfl Try.underlying3 rfl (getmap hx2) rfl) rfl⟩) rfl ?_
  refine PD.runs (kn:=[]) ttk 1 rfl trivial ?_
  refine PD.op (n':=5) [63] [] rfl rfl (.inl ⟨(Wanted.plain rfl),GOp.cast (g_call 5 (c_auth_Hold x1 (by first|assumption|omega|rfl|decide) e2 hr2) en27 rfl rfl ⟨⟨_,rfl,.g ⟨.d _,.d _,.d _,.d _,.d _,.d _,.d _,.d _,trivial⟩⟩,trivial⟩ trivial trivial rfl rfl rfl rfl) rfl⟩) rfl ?_
  refine PD.op (n':=5) [62,64] [] rfl rfl (.inl ⟨(Wanted.plain rfl),GOp.cast (g_binI rfl rfl rfl (wrap_ok (by first|omega|(simp;done)|(simp;omega)))) rfl⟩) rfl ?_
  refine PD.op (n':=5) [55,57] [3] rfl rfl (.inl ⟨(Wanted.plain rfl),GOp.cast (g_indexP0 (i:=Int.toNat (x1.card)) rfl rfl rfl Try.underlying30 sz3 (by first|omega|(simp;done)|(simp;omega)) (by first|omega|(simp;done)|(simp;omega))) rfl⟩) rfl ?_
  refine PD.fin [4,3,1] rfl rfl rfl rfl (by kernel_rfl) ?_
  refine AL.so [4,3,1] (g_storeA (ds:=[(dI (x2+e2))]) rfl rfl rfl rfl rfl sz3 rfl (Nat.le_of_ble_eq_true rfl) (getmap hx2) rfl (setmap (x':=x2+e2) rfl)) rfl ?_
  refine AL.nil ?_
  refine block_ok ?_
  refine then_ok ?_
  refine AC.region ?_
  refine AL.vl (g_binI rfl rfl rfl (wrap_ok (by first|omega|(simp;done)|(simp;omega)))) rfl ?_
  refine AL.runs ttk 1 rfl ?_
  refine AL.nx ?_
  refine ⟨(q+1,(hl).set (Int.toNat (x1.card)) (x2+e2)),⟨by omega,by rw [take_get hx1];exact hi0_1.step (by omega) hx2 (by rw [hr2])⟩,by first|omega|(simp;done)|(simp;omega),Weak.ren id (by refine ⟨?_,?_,?_,?_,?_,trivial⟩<;>first|rfl|(simp only [mps];done)|(congr 3;omega)|(congr 4;omega)|(simp only [lns];rfl)|(exact look_s rfl (by simp))) (by refine ⟨?_,?_,trivial⟩<;>first|rfl|(simp only [mps];done)|(congr 3;omega)|(congr 4;omega)|(simp only [lns];rfl)) rfl⟩
 have hc3':=of_decide_eq_false hc3
 refine AC.exit ?_
 refine then_exit ?_
 refine then_exit ?_
 refine block_hit ?_
 refine then_ok ?_
 refine AC.seq ?_
 refine AC.go ttk 2 rfl ?_
 refine AL.vl (g_lenM rfl rfl rfl rfl rfl Try.underlying29) rfl ?_
 refine AL.runs ttk 1 rfl ?_
 refine AL.nx ?_
 refine AC.block ?_
 have hall:=hi0_1
 rw [List.take_of_length_le (by omega)] at hall
 have hlen2:=hi0_1.len
 refine AC.loop (β:=Nat) (fun (u:Nat)=>⟨[(5,(aC (.p 1 0 0 0))),(8,(aC (.s 3 0 1 hl.length))),(30,(aC (vlP b20.auths))),(31,(aI (↑b20.auths.length:Int))),(32,(aI (↑q:Int))),(69,(aC (vlC b20.cards))),(70,(aI (↑b20.cards.length:Int))),(71,(aI (↑u:Int)))],[(3,(alI hl)),(1,(.box 46 [(cI b20.time),(cB b20.down),(vlC b20.cards),(vlI b20.due),(vlP b20.auths),(cI b20.s0.sent),(vlT b20.s0.kept),(cI b20.s1.sent),(vlT b20.s1.kept),(cI b20.n0),(cI b20.n1),(vlK b20.w0),(vlK b20.w1),(cI b20.stand.cap),(vlI b20.stand.used),(vlA b20.stand.advices),(vlR b20.today),(vlY y20),(vlE b20.book)]))],4⟩) (fun (u:Nat)=>u<=b20.cards.length) (fun (u:Nat)=>b20.cards.length - u) 0 ?_ ?_ ?_
 ·exact (by omega)
 ·exact Weak.ren id (by refine ⟨?_,?_,?_,?_,?_,?_,?_,?_,trivial⟩<;>first|rfl|(simp only [mps];done)|(congr 3;omega)|(congr 4;omega)|(simp only [lns];rfl)) (by refine ⟨?_,?_,trivial⟩<;>first|rfl|(simp only [mps];done)|(congr 3;omega)|(congr 4;omega)|(simp only [lns];rfl)) rfl
 rintro u hi1_0
 refine AC.goes ttk 1 rfl ?_
 refine AC.seq ?_
 refine AC.cond rfl (fun hc7=>?_) (fun hc7=>?_)
 ·
  have hc7':=of_decide_eq_true hc7
  refine AC.sk ?_
  refine AC.seq ?_
  refine AC.block ?_
  refine AC.go ttk 1 rfl ?_
  obtain ⟨x1,hx1⟩:=exget (xs:=b20.cards) (i:=u) (by first|omega|(simp;done)|(simp;omega))
  have hx1w:=okg x1 (List.mem_of_getElem? hx1)
  refine AL.vl (g_indexQ (i:=u) rfl rfl rfl Try.underlying29 sz61 (by first|omega|(simp;done)|(simp;omega)) (getmap hx1)) rfl ?_
  refine AL.runs ttk 4 rfl ?_
  refine AL.nx ?_
  refine AC.seq ?_
  obtain ⟨e4,hr4⟩:∃ (e4:Int),wrongC x1=e4:=⟨_,rfl⟩
  have hz4:e4=0:=by rw [<-hr4];assumption
  rcases Bool.eq_false_or_eq_true (decide (¬e4=0)) with hb8|hb8
  ·
   have hb8':=of_decide_eq_true hb8
   refine AC.drawP [5,8,30,31,32,69,70,71,12,11] [4,3,1] mixed rfl rfl ?_
   refine PD.runs (kn:=[]) ttk 1 rfl trivial ?_
   refine PD.op (n':=5) [76] [] rfl rfl (.inl ⟨(Wanted.plain rfl),GOp.cast (g_call 5 (c_card_Wrong x1 e4 hr4) en28 rfl rfl ⟨⟨_,rfl,.g ⟨.d _,.d _,.d _,.d _,.d _,.d _,trivial⟩⟩,trivial⟩ trivial trivial rfl rfl rfl rfl) rfl⟩) rfl ?_
   refine PD.runs (kn:=[(78,true)]) ttk 10 rfl ⟨hb8,trivial⟩ ?_
   refine PD.fin [4,3,1] rfl rfl rfl rfl (by kernel_rfl) ?_
   refine AL.nx ?_
   refine AC.cond rfl (fun _=>?_) (fun hno=>by cases hno)
   refine AC.goes ttk 1 rfl ?_
   refine AC.ret ?_
   refine block_ret ?_
   refine then_ret ?_
   refine then_ret ?_
   refine block_ret ?_
   refine then_ret ?_
   refine retQ_go ttk [] 0 rfl rfl rfl rfl rfl rfl ?_ ?_
   ·exact congrArg aB (show (false)=true by (exfalso;first|omega|(simp_all;done)))
   ·rfl
  have hb8':=of_decide_eq_false hb8
  obtain ⟨x2,hx2⟩:=exget (xs:=hl) (i:=u) (by first|omega|(simp;done)|(simp;omega))
  have hx2b:=hi0_1.b hx2 (fun a ha=>(okp a (List.mem_of_mem_take ha)).1) (by rw [List.length_take];omega)
  refine AC.drawP [5,8,30,31,32,69,70,71,12,11] [4,3,1] mixed rfl rfl ?_
  refine PD.runs (kn:=[]) ttk 1 rfl trivial ?_
  refine PD.op (n':=5) [76] [] rfl rfl (.inl ⟨(Wanted.plain rfl),GOp.cast (g_call 5 (c_card_Wrong x1 e4 hr4) en28 rfl rfl ⟨⟨_,rfl,.g ⟨.d _,.d _,.d _,.d _,.d _,.d _,trivial⟩⟩,trivial⟩ trivial trivial rfl rfl rfl rfl) rfl⟩) rfl ?_
  refine PD.runs (kn:=[(78,false)]) ttk 6 rfl ⟨hb8,trivial⟩ ?_
  refine PD.op (n':=5) [82,83,79] [3] rfl rfl (.inl ⟨(Wanted.yes rfl rfl rfl),GOp.cast (g_indexP0 (i:=u) rfl rfl rfl Try.underlying30 sz3 (by first|omega|(simp;done)|(simp;omega)) (by first|omega|(simp;done)|(simp;omega))) rfl⟩) rfl ?_
  refine PD.op (n':=5) [84,79] [3] rfl rfl (.inl ⟨(Wanted.yes rfl rfl rfl),GOp.cast (g_loadA rfl rfl rfl Try.underlying3 rfl (getmap hx2) rfl) rfl⟩) rfl ?_
  refine PD.runs (kn:=[]) ttk 2 rfl trivial ?_
  refine PD.fin [4,3,1] rfl rfl rfl rfl (by kernel_rfl) ?_
  refine AL.nx ?_
  refine AC.cond rfl (fun hc10=>?_) (fun hc10=>?_)
  ·
   have hc10':=of_decide_eq_true hc10
   refine AC.goes ttk 1 rfl ?_
   refine AC.ret ?_
   refine block_ret ?_
   refine then_ret ?_
   refine then_ret ?_
   refine block_ret ?_
   refine then_ret ?_
   refine retQ_go ttk [] 0 rfl rfl rfl rfl rfl rfl ?_ ?_
   ·exact congrArg aB (show (false)=true by (exfalso;first|omega|(have he:=hall.eq hH.held hx1 hx2;omega)|(simp_all;done)))
   ·rfl
  have hc10':=of_decide_eq_false hc10
  refine AC.skip ?_
  refine block_ok ?_
  refine then_ok ?_
  refine AC.region ?_
  refine AL.vl (g_binI rfl rfl rfl (wrap_ok (by first|omega|(simp;done)|(simp;omega)))) rfl ?_
  refine AL.runs ttk 1 rfl ?_
  refine AL.nx ?_
  refine ⟨u+1,by first|omega|trivial,by first|omega|(simp;done)|(simp;omega),Weak.ren id (by refine ⟨?_,?_,?_,?_,?_,?_,?_,?_,trivial⟩<;>first|rfl|(simp only [mps];done)|(congr 3;omega)|(congr 4;omega)|(simp only [lns];rfl)) (by refine ⟨?_,?_,trivial⟩<;>first|rfl|(simp only [mps];done)|(congr 3;omega)|(congr 4;omega)|(simp only [lns];rfl)) rfl⟩
 have hc7':=of_decide_eq_false hc7
 refine AC.exit ?_
 refine then_exit ?_
 refine then_exit ?_
 refine block_hit ?_
 refine then_ok ?_
 refine AC.go ttk 1 rfl ?_
 refine AL.vl (g_indexB (i:=0) rfl rfl rfl Try.underlying35 sz34 rfl (by decide)) rfl ?_
 refine AL.runs ttk 1 rfl ?_
 obtain ⟨f5,hr5⟩:∃ (f5:Fault),wrongSF b20.s0=f5:=⟨_,rfl⟩
 have hz5:f5.err=0:=by rw [<-hr5];first|exact hH.s0|exact hH.s1
 refine AL.cn 4 [3,1] (g_call 4 (c_post_Wrong b20.s0 (by first|assumption|exact inI_out (by assumption) (by omega)|exact inI_back (by assumption) (by assumption)|(simp [InI];done)) f5 hr5) en29 rfl rfl ⟨⟨_,rfl,.g ⟨.d _,.d _,trivial⟩⟩,trivial⟩ ⟨trivial,trivial,trivial⟩ trivial rfl rfl rfl rfl) rfl ?_
 refine AL.vl (g_field1 rfl rfl Try.underlying50 rfl Try.underlying48 rfl rfl) rfl ?_
 refine AL.runs ttk 2 rfl ?_
 refine AL.dec (t:=95) rfl (fun hb11=>?_) (fun hb11=>?_)
 ·
  have hb11':=of_decide_eq_true hb11
  refine AL.runs ttk 1 rfl ?_
  refine AL.val (Wanted.yes rfl rfl rfl) (g_indexB (i:=1) rfl rfl rfl Try.underlying35 sz34 rfl (by decide)) rfl rfl ?_
  refine AL.runs ttk 1 rfl ?_
  obtain ⟨f6,hr6⟩:∃ (f6:Fault),wrongSF b20.s1=f6:=⟨_,rfl⟩
  have hz6:f6.err=0:=by rw [<-hr6];first|exact hH.s0|exact hH.s1
  refine AL.cy 4 [3,1] (Wanted.yes rfl rfl rfl) (g_call 4 (c_post_Wrong b20.s1 (by first|assumption|exact inI_out (by assumption) (by omega)|exact inI_back (by assumption) (by assumption)|(simp [InI];done)) f6 hr6) en29 rfl rfl ⟨⟨_,rfl,.g ⟨.d _,.d _,trivial⟩⟩,trivial⟩ ⟨trivial,trivial,trivial⟩ trivial rfl rfl rfl rfl) rfl ?_
  refine AL.val (Wanted.yes rfl rfl rfl) (g_field1 rfl rfl Try.underlying50 rfl Try.underlying48 rfl rfl) rfl rfl ?_
  refine AL.runs ttk 3 rfl ?_
  refine AL.dec (t:=103) rfl (fun hb12=>?_) (fun hb12=>?_)
  ·
   have hb12':=of_decide_eq_true hb12
   refine AL.runs ttk 2 rfl ?_
   obtain ⟨e7,hr7⟩:∃ (e7:Int),wrongStand b20.stand=e7:=⟨_,rfl⟩
   have hz7:e7=0:=by rw [<-hr7];exact hH.st
   refine AL.cy 4 [3,1] (Wanted.yes rfl rfl rfl) (g_call 4 (c_stand_WrongN b20.stand e7 hr7) en30 rfl rfl ⟨⟨_,rfl,.g ⟨.d _,.d _,.d _,trivial⟩⟩,trivial⟩ trivial trivial rfl rfl rfl rfl) rfl ?_
   refine AL.runs ttk 3 rfl ?_
   refine AL.dec (t:=109) rfl (fun hb13=>?_) (fun hb13=>?_)
   ·
    have hb13':=of_decide_eq_true hb13
    refine AL.runs ttk 2 rfl ?_
    obtain ⟨f8,hr8⟩:∃ (f8:Fault),wrongR b20.today=f8:=⟨_,rfl⟩
    have hz8:f8.err=0:=by rw [<-hr8];exact wrongR_ok.2 ⟨oky,hH.today⟩
    refine AL.cy 4 [3,1] (Wanted.yes rfl rfl rfl) (g_call 4 (c_day_Wrong b20.today f8 hr8) en31 rfl rfl ⟨⟨_,rfl,.c (.d _)⟩,trivial⟩ ⟨trivial,trivial,trivial⟩ trivial rfl rfl rfl rfl) rfl ?_
    refine AL.val (Wanted.yes rfl rfl rfl) (g_field1 rfl rfl Try.underlying50 rfl Try.underlying48 rfl rfl) rfl rfl ?_
    refine AL.runs ttk 3 rfl ?_
    refine AL.nx ?_
    refine AC.ret ?_
    refine retQ_go ttk [] 0 rfl rfl rfl rfl rfl rfl ?_ ?_
    ·exact congrArg aB (show (decide (f8.err=0))=true by (first|(simp_all;done)|(simp_all;omega)))
    ·rfl
   have hb13':=of_decide_eq_false hb13
   refine AL.runs ttk 7 rfl ?_
   refine AL.nx ?_
   refine AC.ret ?_
   refine retQ_go ttk [] 0 rfl rfl rfl rfl rfl rfl ?_ ?_
   ·exact congrArg aB (show (false)=true by (exfalso;first|omega|(simp_all;done)))
   ·rfl
  have hb12':=of_decide_eq_false hb12
  refine AL.runs ttk 13 rfl ?_
  refine AL.nx ?_
  refine AC.ret ?_
  refine retQ_go ttk [] 0 rfl rfl rfl rfl rfl rfl ?_ ?_
  ·exact congrArg aB (show (false)=true by (exfalso;first|omega|(simp_all;done)))
  ·rfl
 have hb11':=of_decide_eq_false hb11
 refine AL.runs ttk 21 rfl ?_
 refine AL.nx ?_
 refine AC.ret ?_
 refine retQ_go ttk [] 0 rfl rfl rfl rfl rfl rfl ?_ ?_
 ·exact congrArg aB (show (false)=true by (exfalso;first|omega|(simp_all;done)))
 ·rfl
end Go.Proofs.Ytegepioggeggaaa.Dev
