/- A part of the proof: Bank8, Bank9, PlOk. No condition. -/
import Derived.Test.YtegepioggeggaaaD10
import Derived.Test.YtegepioggeggaaaD04
import Derived.Test.YtegepioggeggaaaD06
set_option linter.unusedVariables false
set_option linter.unusedSimpArgs false
namespace Go.Proofs.Ytegepioggeggaaa.Dev
open Go.RowKit

set_option maxRecDepth 100000 in
set_option maxHeartbeats 4000000 in
theorem c_askU (x:Nat->Value) (hx:∀ i,(x i).oneCell'=true) (b:Bk) (d:Deed) (ok:Okb b) (hdn:b.down=false) (b2:Bk) (a2:Answer) (hr:askB b d=(b2,a2)):FnE Try.prog 63 [(.c (.p 0 0 0 0)),(.c (.q (rDeed d) 0))] [(0,(.box 98 (bkL b 1 2 3 4 (.d (.v (x 17))) (.d (.v (x 19)))))),(1,(alC b.cards)),(2,(alI b.due)),(3,(alP b.auths)),(4,(alR b.today))] [0] (.v (.g [cI a2.err,cI a2.auth])) [(0,(.box 98 (bkL b2 1 2 3 4 (.d (.v (x 17))) (.d (.v (x 19)))))),(1,(alC b2.cards)),(2,(alI b2.due)),(3,(alP b2.auths)),(4,(alR b2.today))]:=by
 refine FnE.mk 214 [(0,(aC (.p 0 0 0 0))),(1,(aC (.q (rDeed d) 0)))] 5 Try.func63 rfl rfl rfl rfl rfl rfl rfl rfl rfl ?_
 intro W0 F0 T0 pg
 obtain ⟨okt,okc,okd,oka,oky,okw0,okw1,okp,okv,okk0,okk1,okg,okl0,okl1,okp0,okp1,okn0,okn1,okq⟩:=id ok
 refine AC.goes ttk 1 rfl ?_
 refine AC.seq ?_
 refine AC.seq ?_
 rcases Bool.eq_false_or_eq_true (decide (d.n < 0)) with hb1|hb1
 ·
  have hb1':=of_decide_eq_true hb1
  refine AC.drawP [0,1,4] [5,0,1,2,3,4] mixed rfl rfl ?_
  refine PD.runs (kn:=[(14,true)]) ttk 38 rfl ⟨hb1,trivial⟩ ?_
  refine PD.fin [5,0,1,2,3,4] rfl rfl rfl rfl (by kernel_rfl) ?_
  refine AL.nx ?_
  refine AC.cond rfl (fun _=>?_) (fun hno=>by cases hno)
  refine AC.goes ttk 2 rfl ?_
  refine AC.ret ?_
  refine then_ret ?_
  have hX:askB b d=(b,(⟨6,0⟩:Answer)):=by
    unfold askB;(try simp only [hdn,Bool.false_eq_true,if_false]);(repeat' split)<;>first|rfl|omega|(exfalso;omega)|(simp_all;done)|(simp_all;omega)
  rw [hX] at hr;clear hX
  simp only [Prod.mk.injEq] at hr;obtain ⟨rfl,rfl⟩:=hr
  refine retQ_go ttk [0,1,2,3,4,5] 5 rfl rfl rfl rfl rfl rfl ?_ ?_
  all_goals first|rfl|(simp [ufs,bkL,rwL];done)|(simp [ufs,bkL,rwL];omega)
 have hb1':=of_decide_eq_false hb1
 rcases Bool.eq_false_or_eq_true (decide (d.n>=(↑b.cards.length:Int))) with hb3|hb3
 ·
  have hb3':=of_decide_eq_true hb3
  refine AC.drawP [0,1,4] [5,0,1,2,3,4] mixed rfl rfl ?_
  refine PD.runs (kn:=[(14,false)]) ttk 15 rfl ⟨hb1,trivial⟩ ?_
  refine PD.op (n':=6) [24,15] [1] rfl rfl (.inl ⟨(Wanted.yes rfl rfl rfl),GOp.cast (g_lenS rfl rfl rfl rfl rfl Try.underlying29) rfl⟩) rfl ?_
  refine PD.runs (kn:=[(26,true)]) ttk 22 rfl ⟨hb3,trivial⟩ ?_
  refine PD.fin [5,0,1,2,3,4] rfl rfl rfl rfl (by kernel_rfl) ?_
  refine AL.nx ?_
  refine AC.cond rfl (fun _=>?_) (fun hno=>by cases hno)
  refine AC.goes ttk 2 rfl ?_
  refine AC.ret ?_
  refine then_ret ?_
  have hX:askB b d=(b,(⟨6,0⟩:Answer)):=by
    unfold askB;(try simp only [hdn,Bool.false_eq_true,if_false]);(repeat' split)<;>first|rfl|omega|(exfalso;omega)|(simp_all;done)|(simp_all;omega)
  rw [hX] at hr;clear hX
  simp only [Prod.mk.injEq] at hr;obtain ⟨rfl,rfl⟩:=hr
  refine retQ_go ttk [0,1,2,3,4,5] 5 rfl rfl rfl rfl rfl rfl ?_ ?_
  all_goals first|rfl|(simp [ufs,bkL,rwL];done)|(simp [ufs,bkL,rwL];omega)
 have hb3':=of_decide_eq_false hb3
 rcases Bool.eq_false_or_eq_true (decide (d.shop < 0)) with hb5|hb5
 ·
  have hb5':=of_decide_eq_true hb5
  refine AC.drawP [0,1,4] [5,0,1,2,3,4] mixed rfl rfl ?_
  refine PD.runs (kn:=[(14,false)]) ttk 15 rfl ⟨hb1,trivial⟩ ?_
  refine PD.op (n':=6) [24,15] [1] rfl rfl (.inl ⟨(Wanted.yes rfl rfl rfl),GOp.cast (g_lenS rfl rfl rfl rfl rfl Try.underlying29) rfl⟩) rfl ?_
  refine PD.runs (kn:=[(26,false),(33,true)]) ttk 22 rfl ⟨hb3,hb5,trivial⟩ ?_
  refine PD.fin [5,0,1,2,3,4] rfl rfl rfl rfl (by kernel_rfl) ?_
  refine AL.nx ?_
  refine AC.cond rfl (fun _=>?_) (fun hno=>by cases hno)
  refine AC.goes ttk 2 rfl ?_
  refine AC.ret ?_
  refine then_ret ?_
  have hX:askB b d=(b,(⟨6,0⟩:Answer)):=by
    unfold askB;(try simp only [hdn,Bool.false_eq_true,if_false]);(repeat' split)<;>first|rfl|omega|(exfalso;omega)|(simp_all;done)|(simp_all;omega)
  rw [hX] at hr;clear hX
  simp only [Prod.mk.injEq] at hr;obtain ⟨rfl,rfl⟩:=hr
  refine retQ_go ttk [0,1,2,3,4,5] 5 rfl rfl rfl rfl rfl rfl ?_ ?_
  all_goals first|rfl|(simp [ufs,bkL,rwL];done)|(simp [ufs,bkL,rwL];omega)
 have hb5':=of_decide_eq_false hb5
 refine AC.drawP [0,1,4] [5,0,1,2,3,4] mixed rfl rfl ?_
 refine PD.runs (kn:=[(14,false)]) ttk 15 rfl ⟨hb1,trivial⟩ ?_
 refine PD.op (n':=6) [24,15] [1] rfl rfl (.inl ⟨(Wanted.yes rfl rfl rfl),GOp.cast (g_lenS rfl rfl rfl rfl rfl Try.underlying29) rfl⟩) rfl ?_
 refine PD.runs (kn:=[(26,false),(33,false)]) ttk 19 rfl ⟨hb3,hb5,trivial⟩ ?_
 refine PD.op (n':=6) [44,35] [2] rfl rfl (.inl ⟨(Wanted.yes rfl rfl rfl),GOp.cast (g_lenS rfl rfl rfl rfl rfl Try.underlying30) rfl⟩) rfl ?_
 refine PD.runs (kn:=[]) ttk 2 rfl trivial ?_
 refine PD.fin [5,0,1,2,3,4] rfl rfl rfl rfl (by kernel_rfl) ?_
 refine AL.nx ?_
 refine AC.cond rfl (fun hc7=>?_) (fun hc7=>?_)
 ·
  have hc7':=of_decide_eq_true hc7
  refine AC.goes ttk 2 rfl ?_
  refine AC.ret ?_
  refine then_ret ?_
  have hX:askB b d=(b,(⟨6,0⟩:Answer)):=by
    unfold askB;(try simp only [hdn,Bool.false_eq_true,if_false]);(repeat' split)<;>first|rfl|omega|(exfalso;omega)|(simp_all;done)|(simp_all;omega)
  rw [hX] at hr;clear hX
  simp only [Prod.mk.injEq] at hr;obtain ⟨rfl,rfl⟩:=hr
  refine retQ_go ttk [0,1,2,3,4,5] 5 rfl rfl rfl rfl rfl rfl ?_ ?_
  all_goals first|rfl|(simp [ufs,bkL,rwL];done)|(simp [ufs,bkL,rwL];omega)
 have hc7':=of_decide_eq_false hc7
 refine AC.sk ?_
 refine AC.seq ?_
 refine AC.goes ttk 5 rfl ?_
 refine AC.cond rfl (fun hno=>absurd (hdn.symm.trans hno) (by decide)) (fun _=>?_)
 refine AC.sk ?_
 refine AC.seq ?_
 obtain ⟨b0,e0,hr0⟩:∃ (b0:Auth) (e0:Int),newAuth d.n d.shop d.sum b.time=(b0,e0):=⟨_,_,rfl⟩
 refine AC.drawQ [0,1,4] [5,0,1,2,3,4] mixed rfl rfl ?_
 refine PW.runs (kn:=[]) ttk 17 rfl trivial ?_
 refine PW.op (n':=6) [123,127,131,136] [] rfl rfl (.inl ⟨(Wanted.plain rfl),GOp.cast (g_call 6 (c_auth_New d.n d.shop d.sum b.time b0 e0 hr0) en79 rfl rfl ⟨⟨_,rfl,.c (.d _)⟩,⟨_,rfl,.c (.d _)⟩,⟨_,rfl,.c (.d _)⟩,⟨_,rfl,.c (.d _)⟩,trivial⟩ ⟨⟨trivial,trivial,trivial,trivial,trivial,trivial,trivial,trivial,trivial⟩,trivial,trivial⟩ trivial rfl rfl rfl rfl) rfl⟩) rfl ?_
 refine PW.runs (n':=7) (kn:=[]) ttk 6 rfl trivial ?_
 refine PW.fin [0,1,4,7,8] [6,5,0,1,2,3,4] rfl rfl (by kernel_rfl) ?_
 refine then_ok ?_
 refine AC.seq ?_
 refine AC.cutB 150 ((decide (e0=0)) && (decide ((↑b.auths.length:Int)=30))) ?_ ?_
 ·
  refine AC.region ?_
  refine AL.runs ttk 3 rfl ?_
  refine AL.dec (t:=142) rfl (fun hb9=>?_) (fun hb9=>?_)
  ·
   have hb9':=of_decide_eq_true hb9
   refine AL.runs ttk 5 rfl ?_
   refine AL.val (Wanted.yes rfl rfl rfl) (g_lenS rfl rfl rfl rfl rfl Try.underlying31) rfl rfl ?_
   refine AL.runs ttk 2 rfl ?_
   refine AL.nx ?_
   exact Weak.popB 12 rfl rfl (by first|(simp [hb9];done)|(simp_all;done)|(exfalso;simp_all;done)|(simp_all;omega)) rfl
  have hb9':=of_decide_eq_false hb9
  refine AL.runs ttk 8 rfl ?_
  refine AL.nx ?_
  exact Weak.popB 12 rfl rfl (by first|(simp [hb9];done)|(simp_all;done)|(exfalso;simp_all;done)|(simp_all;omega)) rfl
 refine AC.cond rfl (fun hc10=>?_) (fun hc10=>?_)
 ·
  have hc10':=hc10;try simp only [sumB,dns] at hc10'
  refine AC.region ?_
  refine AL.runs ttk 1 rfl ?_
  refine AL.nx ?_
  refine AC.seq ?_
  refine AC.go ttk 1 rfl ?_
  refine AL.vl (g_binI rfl rfl rfl (show _=some (Value.bool true) from rfl)) rfl ?_
  refine AL.nx ?_
  refine AC.cond rfl (fun _=>?_) (fun hno=>by cases hno)
  refine AC.goes ttk 3 rfl ?_
  refine AC.ret ?_
  refine then_ret ?_
  have hX:askB b d=(b,(⟨5,0⟩:Answer)):=by
    unfold askB;(try simp only [hdn,Bool.false_eq_true,if_false,hr0]);(repeat' split)<;>first|rfl|omega|(exfalso;omega)|(simp_all;done)|(simp_all;omega)
  rw [hX] at hr;clear hX
  simp only [Prod.mk.injEq] at hr;obtain ⟨rfl,rfl⟩:=hr
  refine retQ_go ttk [0,1,2,3,4,5] 5 rfl rfl rfl rfl rfl rfl ?_ ?_
  all_goals first|rfl|(simp [ufs,bkL,rwL];done)|(simp [ufs,bkL,rwL];omega)
 have hc10':=hc10;try simp only [sumB,dns] at hc10'
 refine AC.sk ?_
 refine AC.seq ?_
 refine AC.goes ttk 2 rfl ?_
 refine AC.cond rfl (fun hc12=>?_) (fun hc12=>?_)
 ·
  have hc12':=of_decide_eq_true hc12
  refine AC.goes ttk 3 rfl ?_
  refine AC.ret ?_
  refine then_ret ?_
  have hX:askB b d=(b,(⟨e0,0⟩:Answer)):=by
    unfold askB;(try simp only [hdn,Bool.false_eq_true,if_false,hr0]);(repeat' split)<;>first|rfl|omega|(exfalso;omega)|(simp_all;done)|(simp_all;omega)
  rw [hX] at hr;clear hX
  simp only [Prod.mk.injEq] at hr;obtain ⟨rfl,rfl⟩:=hr
  refine retQ_go ttk [0,1,2,3,4,5] 5 rfl rfl rfl rfl rfl rfl ?_ ?_
  all_goals first|rfl|(simp [ufs,bkL,rwL];done)|(simp [ufs,bkL,rwL];omega)
 have hc12':=of_decide_eq_false hc12
 refine AC.sk ?_
 refine AC.seq ?_
 obtain ⟨x1,hx1⟩:=exget (xs:=b.cards) (i:=Int.toNat (d.n)) (by first|omega|(simp;done)|(simp;omega))
 obtain ⟨xr1,e1,hr1⟩:∃ (xr1:Card) (e1:Int),allowC x1 d.sum b.time=(xr1,e1):=⟨_,_,rfl⟩
 refine AC.drawQ [0,1,4,7] [6,5,0,1,2,3,4] mixed rfl rfl ?_
 refine PW.runs (kn:=[]) ttk 9 rfl trivial ?_
 refine PW.op (n':=7) [160,164] [1] rfl rfl (.inl ⟨(Wanted.plain rfl),GOp.cast (g_indexP0 (i:=Int.toNat (d.n)) rfl rfl rfl Try.underlying29 sz61 (by first|omega|(simp;done)|(simp;omega)) (by first|omega|(simp;done)|(simp;omega))) rfl⟩) rfl ?_
 refine PW.op (n':=7) [165] [1] rfl rfl (.inl ⟨(Wanted.plain rfl),GOp.cast (g_loadAs rfl rfl rfl Try.underlying61 rfl sz61 (getmap hx1) rfl) rfl⟩) rfl ?_
 refine PW.runs (kn:=[]) ttk 9 rfl trivial ?_
 refine PW.op (n':=7) [166,170,175] [] rfl rfl (.inl ⟨(Wanted.plain rfl),GOp.cast (g_call 7 (Fn.frozen (av':=(.t [(.g [(cI xr1.money),(cI xr1.held),(cI xr1.pace.ticks),(cI xr1.pace.count),(cI xr1.pace.sum),(vlU xr1.uses)]),(.c (cI e1))])) (c_card_Allow x1 d.sum b.time xr1 e1 hr1) ⟨⟨.inl ⟨_,rfl,rfl⟩,.inl ⟨_,rfl,rfl⟩,.inl ⟨_,rfl,rfl⟩,.inl ⟨_,rfl,rfl⟩,.inl ⟨_,rfl,rfl⟩,.inr ⟨_,_,_,_,_,rfl,rfl,rfl,by simp⟩,trivial⟩,.inl ⟨_,rfl,rfl⟩,trivial⟩) en80 rfl rfl ⟨⟨_,rfl,.g ⟨.d _,.d _,.d _,.d _,.d _,.d _,trivial⟩⟩,⟨_,rfl,.c (.d _)⟩,⟨_,rfl,.c (.d _)⟩,trivial⟩ ⟨⟨trivial,trivial,trivial,trivial,trivial,trivial,trivial⟩,trivial,trivial⟩ trivial rfl rfl rfl rfl) rfl⟩) rfl ?_
 refine PW.runs (n':=8) (kn:=[]) ttk 6 rfl trivial ?_
 refine PW.fin [0,1,4,7,9,8] [7,6,5,0,1,2,3,4] rfl rfl (by kernel_rfl) ?_
 refine then_ok ?_
 refine AC.seq ?_
 refine AC.goes ttk 2 rfl ?_
 refine AC.cond rfl (fun hc13=>?_) (fun hc13=>?_)
 ·
  have hc13':=of_decide_eq_true hc13
  refine AC.goes ttk 3 rfl ?_
  refine AC.ret ?_
  refine then_ret ?_
  have hX:askB b d=(b,(⟨e1,0⟩:Answer)):=by
    unfold askB;(try simp only [hdn,Bool.false_eq_true,if_false,hr0,hr1,hx1]);(repeat' split)<;>first|rfl|omega|(exfalso;omega)|(simp_all;done)|(simp_all;omega)
  rw [hX] at hr;clear hX
  simp only [Prod.mk.injEq] at hr;obtain ⟨rfl,rfl⟩:=hr
  refine retQ_go ttk [0,1,2,3,4,5] 5 rfl rfl rfl rfl rfl rfl ?_ ?_
  all_goals first|rfl|(simp [ufs,bkL,rwL];done)|(simp [ufs,bkL,rwL];omega)
 have hc13':=of_decide_eq_false hc13
 refine AC.sk ?_
 refine AC.seq ?_
 refine AC.drawP [0,1,4,7,9] [7,6,5,0,1,2,3,4] mixed rfl rfl ?_
 refine PD.runs (kn:=[]) ttk 10 rfl trivial ?_
 refine PD.op (n':=8) [187,191] [1] rfl rfl (.inl ⟨(Wanted.plain rfl),GOp.cast (g_indexP0 (i:=Int.toNat (d.n)) rfl rfl rfl Try.underlying29 sz61 (by first|omega|(simp;done)|(simp;omega)) (by first|omega|(simp;done)|(simp;omega))) rfl⟩) rfl ?_
 refine PD.fin [7,6,5,0,1,2,3,4] rfl rfl rfl rfl (by kernel_rfl) ?_
 refine AL.so [7,6,5,0,1,2,3,4] (g_storeA (ds:=[(dI xr1.money),(dI xr1.held),(dI xr1.pace.ticks),(dI xr1.pace.count),(dI xr1.pace.sum),(dlU xr1.uses)]) rfl rfl rfl rfl rfl sz61 rfl (Nat.le_of_ble_eq_true rfl) (getmap hx1) rfl (setmap (x':=xr1) rfl)) rfl ?_
 refine AL.nx ?_
 refine AC.recell (k:=0) (q:=2) (c':=(.s 1 0 6 (((b.cards).set (Int.toNat (d.n)) xr1).length))) rfl rfl (by first|rfl|(simp;done)|(congr 1;omega)) rfl ?_
 refine AC.seq ?_
 refine AC.drawP [0,4,7] [6,5,0,1,2,3,4] mixed rfl rfl ?_
 refine PD.runs (kn:=[]) ttk 7 rfl trivial ?_
 refine PD.op (n':=9) [200] [] rfl rfl (.inl ⟨(Wanted.plain rfl),GOp.cast (g_lit (ys:=[(0,(.g [(cI b0.card),(cI b0.shop),(cI b0.sum),(cI b0.captured),(cI b0.refunded),(cI b0.disputed),(cI b0.till),(cB b0.shut)]))]) (rows:=([b0]).map rAuth) 8 sl31 rfl (by decide) ⟨⟨rfl,rfl⟩,trivial⟩ rfl rfl rfl rfl) rfl⟩) rfl ?_
 refine PD.op (n':=10) [199,201] [8,3] rfl rfl (.inl ⟨(Wanted.plain rfl),GOp.cast (g_append (m:=1) (N:=b.auths.length+1) (k2:=9) (ys:=([b0]).map rAuth) sl31 rfl rfl rfl rfl rfl rfl (by first|omega|(simp;done)|(simp;omega)) rfl (.s rfl (by first|omega|(simp;done)|(simp;omega))) (by first|omega|(simp;done)|(simp;omega)) (by first|omega|(simp;done)|(simp;omega)) appmap (by decide) (by first|omega|(simp;done)|(simp;omega)) (by first|omega|(simp;done)|(simp;omega))) rfl⟩) rfl ?_
 refine PD.runs (kn:=[]) ttk 3 rfl trivial ?_
 refine PD.fin [9,6,5,0,1,2,4] rfl rfl rfl rfl (by kernel_rfl) ?_
 refine AL.runs ttk 1 rfl ?_
 refine AL.nx ?_
 refine AC.recell (k:=0) (q:=4) (c':=(.s 9 0 8 ((b.auths++([b0])).length))) rfl rfl (by first|rfl|(simp;done)|(congr 1;omega)) rfl ?_
 refine AC.go ttk 5 rfl ?_
 refine AL.vl (g_lenS rfl rfl rfl rfl rfl Try.underlying31) rfl ?_
 refine AL.vl (g_binI rfl rfl rfl (wrap_ok (by first|omega|(simp;done)|(simp;omega)))) rfl ?_
 refine AL.runs ttk 2 rfl ?_
 refine AL.nx ?_
 refine AC.ret ?_
 have hX:askB b d=((⟨b.time,b.down,(b.cards).set (Int.toNat (d.n)) xr1,b.due,b.auths++([b0]),b.s0,b.s1,b.n0,b.n1,b.w0,b.w1,b.stand,b.today,b.book⟩:Bk),(⟨0,(↑((b.auths++([b0])).length):Int) - 1⟩:Answer)):=by
   unfold askB;(try simp only [hdn,Bool.false_eq_true,if_false,hr0,hr1,hx1]);(repeat' split)<;>first|rfl|omega|(exfalso;omega)|(simp_all;done)|(simp_all;omega)
 rw [hX] at hr;clear hX
 simp only [Prod.mk.injEq] at hr;obtain ⟨rfl,rfl⟩:=hr
 refine retQ_go ttk [0,1,2,9,4,5] 5 rfl rfl rfl rfl rfl rfl ?_ ?_
 all_goals first|rfl|(simp [ufs,bkL,rwL];done)|(simp [ufs,bkL,rwL];omega)
set_option maxRecDepth 100000 in
set_option maxHeartbeats 4000000 in
theorem c_askD (x:Nat->Value) (hx:∀ i,(x i).oneCell'=true) (b:Bk) (d:Deed) (ok:Okb b) (hdn:b.down=true) (b2:Bk) (a2:Answer) (hr:askB b d=(b2,a2)):FnE Try.prog 63 [(.c (.p 0 0 0 0)),(.c (.q (rDeed d) 0))] [(0,(.box 98 (bkL b 1 2 3 4 (.d (.v (x 17))) (.d (.v (x 19)))))),(1,(alC b.cards)),(2,(alI b.due)),(3,(alP b.auths)),(4,(alR b.today))] [0] (.v (.g [cI a2.err,cI a2.auth])) [(0,(.box 98 (bkL b2 1 2 3 4 (.d (.v (x 17))) (.d (.v (x 19)))))),(1,(alC b2.cards)),(2,(alI b2.due)),(3,(alP b2.auths)),(4,(alR b2.today))]:=by
 refine FnE.mk 214 [(0,(aC (.p 0 0 0 0))),(1,(aC (.q (rDeed d) 0)))] 5 Try.func63 rfl rfl rfl rfl rfl rfl rfl rfl rfl ?_
 intro W0 F0 T0 pg
 obtain ⟨okt,okc,okd,oka,oky,okw0,okw1,okp,okv,okk0,okk1,okg,okl0,okl1,okp0,okp1,okn0,okn1,okq⟩:=id ok
 refine AC.goes ttk 1 rfl ?_
 refine AC.seq ?_
 refine AC.seq ?_
 rcases Bool.eq_false_or_eq_true (decide (d.n < 0)) with hb1|hb1
 ·
  have hb1':=of_decide_eq_true hb1
  refine AC.drawP [0,1,4] [5,0,1,2,3,4] mixed rfl rfl ?_
  refine PD.runs (kn:=[(14,true)]) ttk 38 rfl ⟨hb1,trivial⟩ ?_
  refine PD.fin [5,0,1,2,3,4] rfl rfl rfl rfl (by kernel_rfl) ?_
  refine AL.nx ?_
  refine AC.cond rfl (fun _=>?_) (fun hno=>by cases hno)
  refine AC.goes ttk 2 rfl ?_
  refine AC.ret ?_
  refine then_ret ?_
  have hX:askB b d=(b,(⟨6,0⟩:Answer)):=by
    unfold askB downE;(try simp only [hdn,if_true]);(repeat' split)<;>first|rfl|omega|(exfalso;omega)|(simp_all;done)|(simp_all;omega)
  rw [hX] at hr;clear hX
  simp only [Prod.mk.injEq] at hr;obtain ⟨rfl,rfl⟩:=hr
  refine retQ_go ttk [0,1,2,3,4,5] 5 rfl rfl rfl rfl rfl rfl ?_ ?_
  all_goals first|rfl|(simp [ufs,bkL,rwL];done)|(simp [ufs,bkL,rwL];omega)
 have hb1':=of_decide_eq_false hb1
 rcases Bool.eq_false_or_eq_true (decide (d.n>=(↑b.cards.length:Int))) with hb3|hb3
 ·
  have hb3':=of_decide_eq_true hb3
  refine AC.drawP [0,1,4] [5,0,1,2,3,4] mixed rfl rfl ?_
  refine PD.runs (kn:=[(14,false)]) ttk 15 rfl ⟨hb1,trivial⟩ ?_
  refine PD.op (n':=6) [24,15] [1] rfl rfl (.inl ⟨(Wanted.yes rfl rfl rfl),GOp.cast (g_lenS rfl rfl rfl rfl rfl Try.underlying29) rfl⟩) rfl ?_
  refine PD.runs (kn:=[(26,true)]) ttk 22 rfl ⟨hb3,trivial⟩ ?_
  refine PD.fin [5,0,1,2,3,4] rfl rfl rfl rfl (by kernel_rfl) ?_
  refine AL.nx ?_
  refine AC.cond rfl (fun _=>?_) (fun hno=>by cases hno)
  refine AC.goes ttk 2 rfl ?_
  refine AC.ret ?_
  refine then_ret ?_
  have hX:askB b d=(b,(⟨6,0⟩:Answer)):=by
    unfold askB downE;(try simp only [hdn,if_true]);(repeat' split)<;>first|rfl|omega|(exfalso;omega)|(simp_all;done)|(simp_all;omega)
  rw [hX] at hr;clear hX
  simp only [Prod.mk.injEq] at hr;obtain ⟨rfl,rfl⟩:=hr
  refine retQ_go ttk [0,1,2,3,4,5] 5 rfl rfl rfl rfl rfl rfl ?_ ?_
  all_goals first|rfl|(simp [ufs,bkL,rwL];done)|(simp [ufs,bkL,rwL];omega)
 have hb3':=of_decide_eq_false hb3
 rcases Bool.eq_false_or_eq_true (decide (d.shop < 0)) with hb5|hb5
 ·
  have hb5':=of_decide_eq_true hb5
  refine AC.drawP [0,1,4] [5,0,1,2,3,4] mixed rfl rfl ?_
  refine PD.runs (kn:=[(14,false)]) ttk 15 rfl ⟨hb1,trivial⟩ ?_
  refine PD.op (n':=6) [24,15] [1] rfl rfl (.inl ⟨(Wanted.yes rfl rfl rfl),GOp.cast (g_lenS rfl rfl rfl rfl rfl Try.underlying29) rfl⟩) rfl ?_
  refine PD.runs (kn:=[(26,false),(33,true)]) ttk 22 rfl ⟨hb3,hb5,trivial⟩ ?_
  refine PD.fin [5,0,1,2,3,4] rfl rfl rfl rfl (by kernel_rfl) ?_
  refine AL.nx ?_
  refine AC.cond rfl (fun _=>?_) (fun hno=>by cases hno)
  refine AC.goes ttk 2 rfl ?_
  refine AC.ret ?_
  refine then_ret ?_
  have hX:askB b d=(b,(⟨6,0⟩:Answer)):=by
    unfold askB downE;(try simp only [hdn,if_true]);(repeat' split)<;>first|rfl|omega|(exfalso;omega)|(simp_all;done)|(simp_all;omega)
  rw [hX] at hr;clear hX
  simp only [Prod.mk.injEq] at hr;obtain ⟨rfl,rfl⟩:=hr
  refine retQ_go ttk [0,1,2,3,4,5] 5 rfl rfl rfl rfl rfl rfl ?_ ?_
  all_goals first|rfl|(simp [ufs,bkL,rwL];done)|(simp [ufs,bkL,rwL];omega)
 have hb5':=of_decide_eq_false hb5
 refine AC.drawP [0,1,4] [5,0,1,2,3,4] mixed rfl rfl ?_
 refine PD.runs (kn:=[(14,false)]) ttk 15 rfl ⟨hb1,trivial⟩ ?_
 refine PD.op (n':=6) [24,15] [1] rfl rfl (.inl ⟨(Wanted.yes rfl rfl rfl),GOp.cast (g_lenS rfl rfl rfl rfl rfl Try.underlying29) rfl⟩) rfl ?_
 refine PD.runs (kn:=[(26,false),(33,false)]) ttk 19 rfl ⟨hb3,hb5,trivial⟩ ?_
 refine PD.op (n':=6) [44,35] [2] rfl rfl (.inl ⟨(Wanted.yes rfl rfl rfl),GOp.cast (g_lenS rfl rfl rfl rfl rfl Try.underlying30) rfl⟩) rfl ?_
 refine PD.runs (kn:=[]) ttk 2 rfl trivial ?_
 refine PD.fin [5,0,1,2,3,4] rfl rfl rfl rfl (by kernel_rfl) ?_
 refine AL.nx ?_
 refine AC.cond rfl (fun hc7=>?_) (fun hc7=>?_)
 ·
  have hc7':=of_decide_eq_true hc7
  refine AC.goes ttk 2 rfl ?_
  refine AC.ret ?_
  refine then_ret ?_
  have hX:askB b d=(b,(⟨6,0⟩:Answer)):=by
    unfold askB downE;(try simp only [hdn,if_true]);(repeat' split)<;>first|rfl|omega|(exfalso;omega)|(simp_all;done)|(simp_all;omega)
  rw [hX] at hr;clear hX
  simp only [Prod.mk.injEq] at hr;obtain ⟨rfl,rfl⟩:=hr
  refine retQ_go ttk [0,1,2,3,4,5] 5 rfl rfl rfl rfl rfl rfl ?_ ?_
  all_goals first|rfl|(simp [ufs,bkL,rwL];done)|(simp [ufs,bkL,rwL];omega)
 have hc7':=of_decide_eq_false hc7
 refine AC.sk ?_
 refine AC.seq ?_
 refine AC.goes ttk 5 rfl ?_
 refine AC.cond rfl (fun _=>?_) (fun hno=>absurd (hdn.symm.trans hno) (by decide))
 refine AC.seq ?_
 obtain ⟨xr0,e0,hr0⟩:∃ (xr0:Stand) (e0:Int),giveStand b.stand (⟨d.n,d.shop,d.sum,b.time⟩:Advice)=(xr0,e0):=⟨_,_,rfl⟩
 have hgl:=giveStand_len b.stand ((⟨d.n,d.shop,d.sum,b.time⟩:Advice))
 rw [hr0] at hgl;dsimp only at hgl
 refine AC.drawQ [0,1,4] [5,0,1,2,3,4] mixed rfl rfl ?_
 refine PW.runs (kn:=[]) ttk 23 rfl trivial ?_
 refine PW.op (n':=6) [59,77] [] rfl rfl (.inl ⟨(Wanted.plain rfl),GOp.cast (g_call 6 (Fn.frozen (av':=(.t [(.g [(cI xr0.cap),(vlI xr0.used),(vlA xr0.advices)]),(.c (cI e0))])) (c_stand_Give b.stand (⟨d.n,d.shop,d.sum,b.time⟩:Advice) xr0 e0 hr0) ⟨⟨.inl ⟨_,rfl,rfl⟩,.inr ⟨_,_,_,_,_,rfl,rfl,rfl,by simp⟩,.inr ⟨_,_,_,_,_,rfl,rfl,rfl,by simp⟩,trivial⟩,.inl ⟨_,rfl,rfl⟩,trivial⟩) en78 rfl rfl ⟨⟨_,rfl,.g ⟨.d _,.d _,.d _,trivial⟩⟩,⟨_,rfl,.g ⟨.d _,.d _,.d _,.d _,trivial⟩⟩,trivial⟩ ⟨⟨trivial,trivial,trivial,trivial⟩,trivial,trivial⟩ trivial rfl rfl rfl rfl) rfl⟩) rfl ?_
 refine PW.runs (n':=7) (kn:=[]) ttk 6 rfl trivial ?_
 refine PW.fin [0,1,4,5,6] [6,5,0,1,2,3,4] rfl rfl (by kernel_rfl) ?_
 refine then_ok ?_
 refine AC.seq ?_
 refine AC.goes ttk 2 rfl ?_
 refine AC.cond rfl (fun hc9=>?_) (fun hc9=>?_)
 ·
  have hc9':=of_decide_eq_true hc9
  refine AC.region ?_
  refine AL.runs ttk 1 rfl ?_
  refine AL.nx ?_
  refine AC.seq ?_
  refine AC.seq ?_
  refine AC.drawP [0,1,4,5,6] [6,5,0,1,2,3,4] mixed rfl rfl ?_
  refine PD.runs (kn:=[(84,false)]) ttk 15 rfl ⟨rfl,trivial⟩ ?_
  refine PD.fin [6,5,0,1,2,3,4] rfl rfl rfl rfl (by kernel_rfl) ?_
  refine AL.nx ?_
  refine AC.cond rfl (fun hno=>by cases hno) (fun _=>?_)
  refine AC.sk ?_
  refine AC.seq ?_
  refine AC.go ttk 1 rfl ?_
  refine AL.vl (g_binI rfl rfl rfl (show _=some (Value.bool true) from rfl)) rfl ?_
  refine AL.nx ?_
  refine AC.cond rfl (fun _=>?_) (fun hno=>by cases hno)
  refine AC.goes ttk 3 rfl ?_
  refine AC.ret ?_
  refine then_ret ?_
  refine then_ret ?_
  have hX:askB b d=(b,(⟨12,0⟩:Answer)):=by
    unfold askB downE;(try simp only [hdn,if_true,hr0]);(repeat' split)<;>first|rfl|omega|(exfalso;omega)|(simp_all;done)|(simp_all;omega)
  rw [hX] at hr;clear hX
  simp only [Prod.mk.injEq] at hr;obtain ⟨rfl,rfl⟩:=hr
  refine retQ_go ttk [0,1,2,3,4,5] 5 rfl rfl rfl rfl rfl rfl ?_ ?_
  all_goals first|rfl|(simp [ufs,bkL,rwL];done)|(simp [ufs,bkL,rwL];omega)
 have hc9':=of_decide_eq_false hc9
 refine AC.sk ?_
 refine AC.seq ?_
 refine AC.seq ?_
 rcases Bool.eq_false_or_eq_true (decide (e0=0)) with hb12|hb12
 ·
  have hb12':=of_decide_eq_true hb12
  refine AC.drawP [0,1,4,5,6] [6,5,0,1,2,3,4] mixed rfl rfl ?_
  refine PD.runs (kn:=[(84,true)]) ttk 8 rfl ⟨hb12,trivial⟩ ?_
  refine PD.op (n':=7) [90,85] [3] rfl rfl (.inl ⟨(Wanted.yes rfl rfl rfl),GOp.cast (g_lenS rfl rfl rfl rfl rfl Try.underlying31) rfl⟩) rfl ?_
  refine PD.runs (kn:=[]) ttk 2 rfl trivial ?_
  refine PD.op (n':=7) [93,85] [] rfl rfl (.inl ⟨(Wanted.yes rfl rfl rfl),GOp.cast (g_lenM rfl rfl rfl rfl rfl Try.underlying39) rfl⟩) rfl ?_
  refine PD.op (n':=7) [91,94,85] [] rfl rfl (.inl ⟨(Wanted.yes rfl rfl rfl),GOp.cast (g_binI rfl rfl rfl (wrap_ok (by first|omega|(simp;done)|(simp;omega)))) rfl⟩) rfl ?_
  refine PD.runs (kn:=[]) ttk 2 rfl trivial ?_
  refine PD.fin [6,5,0,1,2,3,4] rfl rfl rfl rfl (by kernel_rfl) ?_
  refine AL.nx ?_
  refine AC.cond rfl (fun hc13=>?_) (fun hc13=>?_)
  ·
   have hc13':=of_decide_eq_true hc13
   refine AC.region ?_
   refine AL.runs ttk 1 rfl ?_
   refine AL.nx ?_
   refine AC.seq ?_
   refine AC.go ttk 1 rfl ?_
   refine AL.vl (g_binI rfl rfl rfl (show _=some (Value.bool true) from rfl)) rfl ?_
   refine AL.nx ?_
   refine AC.cond rfl (fun _=>?_) (fun hno=>by cases hno)
   refine AC.goes ttk 3 rfl ?_
   refine AC.ret ?_
   refine then_ret ?_
   refine then_ret ?_
   have hX:askB b d=(b,(⟨5,0⟩:Answer)):=by
     unfold askB downE;(try simp only [hdn,if_true,hr0]);(repeat' split)<;>first|rfl|omega|(exfalso;omega)|(simp_all;done)|(simp_all;omega)
   rw [hX] at hr;clear hX
   simp only [Prod.mk.injEq] at hr;obtain ⟨rfl,rfl⟩:=hr
   refine retQ_go ttk [0,1,2,3,4,5] 5 rfl rfl rfl rfl rfl rfl ?_ ?_
   all_goals first|rfl|(simp [ufs,bkL,rwL];done)|(simp [ufs,bkL,rwL];omega)
  have hc13':=of_decide_eq_false hc13
  refine AC.sk ?_
  refine AC.seq ?_
  refine AC.goes ttk 2 rfl ?_
  refine AC.cond rfl (fun hc15=>?_) (fun hc15=>?_)
  ·
   have hc15':=of_decide_eq_true hc15
   refine AC.goes ttk 3 rfl ?_
   refine AC.ret ?_
   refine then_ret ?_
   refine then_ret ?_
   have hX:askB b d=(b,(⟨e0,0⟩:Answer)):=by
     unfold askB downE;(try simp only [hdn,if_true,hr0]);(repeat' split)<;>first|rfl|omega|(exfalso;omega)|(simp_all;done)|(simp_all;omega)
   rw [hX] at hr;clear hX
   simp only [Prod.mk.injEq] at hr;obtain ⟨rfl,rfl⟩:=hr
   refine retQ_go ttk [0,1,2,3,4,5] 5 rfl rfl rfl rfl rfl rfl ?_ ?_
   all_goals first|rfl|(simp [ufs,bkL,rwL];done)|(simp [ufs,bkL,rwL];omega)
  have hc15':=of_decide_eq_false hc15
  refine AC.sk ?_
  refine AC.goes ttk 6 rfl ?_
  refine AC.seq ?_
  refine AC.drawP [0,1,4,5] [6,5,0,1,2,3,4] mixed rfl rfl ?_
  refine PD.runs (kn:=[]) ttk 5 rfl trivial ?_
  refine PD.op (n':=7) [111] [3] rfl rfl (.inl ⟨(Wanted.plain rfl),GOp.cast (g_lenS rfl rfl rfl rfl rfl Try.underlying31) rfl⟩) rfl ?_
  refine PD.runs (kn:=[]) ttk 2 rfl trivial ?_
  refine PD.op (n':=7) [114] [] rfl rfl (.inl ⟨(Wanted.plain rfl),GOp.cast (g_lenM rfl rfl rfl rfl rfl Try.underlying39) rfl⟩) rfl ?_
  refine PD.op (n':=7) [112,115] [] rfl rfl (.inl ⟨(Wanted.plain rfl),GOp.cast (g_binI rfl rfl rfl (wrap_ok (by first|omega|(simp;done)|(simp;omega)))) rfl⟩) rfl ?_
  refine PD.op (n':=7) [116] [] rfl rfl (.inl ⟨(Wanted.plain rfl),GOp.cast (g_binI rfl rfl rfl (wrap_ok (by first|omega|(simp;done)|(simp;omega)))) rfl⟩) rfl ?_
  refine PD.runs (kn:=[]) ttk 1 rfl trivial ?_
  refine PD.fin [6,5,0,1,2,3,4] rfl rfl rfl rfl (by kernel_rfl) ?_
  refine AL.runs ttk 1 rfl ?_
  refine AL.nx ?_
  refine AC.ret ?_
  refine then_ret ?_
  have hX:askB b d=((⟨b.time,b.down,b.cards,b.due,b.auths,b.s0,b.s1,b.n0,b.n1,b.w0,b.w1,xr0,b.today,b.book⟩:Bk),(⟨0,((↑b.auths.length:Int)+(↑xr0.advices.length:Int)) - 1⟩:Answer)):=by
    unfold askB downE;(try simp only [hdn,if_true,hr0]);(repeat' split)<;>first|rfl|omega|(exfalso;omega)|(simp_all;done)|(simp_all;omega)
  rw [hX] at hr;clear hX
  simp only [Prod.mk.injEq] at hr;obtain ⟨rfl,rfl⟩:=hr
  refine retQ_go ttk [0,1,2,3,4,5] 5 rfl rfl rfl rfl rfl rfl ?_ ?_
  all_goals first|rfl|(simp [ufs,bkL,rwL];done)|(simp [ufs,bkL,rwL];omega)
 have hb12':=of_decide_eq_false hb12
 refine AC.drawP [0,1,4,5,6] [6,5,0,1,2,3,4] mixed rfl rfl ?_
 refine PD.runs (kn:=[(84,false)]) ttk 15 rfl ⟨hb12,trivial⟩ ?_
 refine PD.fin [6,5,0,1,2,3,4] rfl rfl rfl rfl (by kernel_rfl) ?_
 refine AL.nx ?_
 refine AC.cond rfl (fun hno=>by cases hno) (fun _=>?_)
 refine AC.sk ?_
 refine AC.seq ?_
 refine AC.goes ttk 2 rfl ?_
 refine AC.cond rfl (fun hc17=>?_) (fun hc17=>?_)
 ·
  have hc17':=of_decide_eq_true hc17
  refine AC.goes ttk 3 rfl ?_
  refine AC.ret ?_
  refine then_ret ?_
  refine then_ret ?_
  have hX:askB b d=(b,(⟨e0,0⟩:Answer)):=by
    unfold askB downE;(try simp only [hdn,if_true,hr0]);(repeat' split)<;>first|rfl|omega|(exfalso;omega)|(simp_all;done)|(simp_all;omega)
  rw [hX] at hr;clear hX
  simp only [Prod.mk.injEq] at hr;obtain ⟨rfl,rfl⟩:=hr
  refine retQ_go ttk [0,1,2,3,4,5] 5 rfl rfl rfl rfl rfl rfl ?_ ?_
  all_goals first|rfl|(simp [ufs,bkL,rwL];done)|(simp [ufs,bkL,rwL];omega)
 have hc17':=of_decide_eq_false hc17
 refine AC.sk ?_
 refine AC.goes ttk 6 rfl ?_
 refine AC.seq ?_
 refine AC.drawP [0,1,4,5] [6,5,0,1,2,3,4] mixed rfl rfl ?_
 refine PD.runs (kn:=[]) ttk 5 rfl trivial ?_
 refine PD.op (n':=7) [111] [3] rfl rfl (.inl ⟨(Wanted.plain rfl),GOp.cast (g_lenS rfl rfl rfl rfl rfl Try.underlying31) rfl⟩) rfl ?_
 refine PD.runs (kn:=[]) ttk 2 rfl trivial ?_
 refine PD.op (n':=7) [114] [] rfl rfl (.inl ⟨(Wanted.plain rfl),GOp.cast (g_lenM rfl rfl rfl rfl rfl Try.underlying39) rfl⟩) rfl ?_
 refine PD.op (n':=7) [112,115] [] rfl rfl (.inl ⟨(Wanted.plain rfl),GOp.cast (g_binI rfl rfl rfl (wrap_ok (by first|omega|(simp;done)|(simp;omega)))) rfl⟩) rfl ?_
 refine PD.op (n':=7) [116] [] rfl rfl (.inl ⟨(Wanted.plain rfl),GOp.cast (g_binI rfl rfl rfl (wrap_ok (by first|omega|(simp;done)|(simp;omega)))) rfl⟩) rfl ?_
 refine PD.runs (kn:=[]) ttk 1 rfl trivial ?_
 refine PD.fin [6,5,0,1,2,3,4] rfl rfl rfl rfl (by kernel_rfl) ?_
 refine AL.runs ttk 1 rfl ?_
 refine AL.nx ?_
 refine AC.ret ?_
 refine then_ret ?_
 have hX:askB b d=((⟨b.time,b.down,b.cards,b.due,b.auths,b.s0,b.s1,b.n0,b.n1,b.w0,b.w1,xr0,b.today,b.book⟩:Bk),(⟨0,((↑b.auths.length:Int)+(↑xr0.advices.length:Int)) - 1⟩:Answer)):=by
   unfold askB downE;(try simp only [hdn,if_true,hr0]);(repeat' split)<;>first|rfl|omega|(exfalso;omega)|(simp_all;done)|(simp_all;omega)
 rw [hX] at hr;clear hX
 simp only [Prod.mk.injEq] at hr;obtain ⟨rfl,rfl⟩:=hr
 refine retQ_go ttk [0,1,2,3,4,5] 5 rfl rfl rfl rfl rfl rfl ?_ ?_
 all_goals first|rfl|(simp [ufs,bkL,rwL];done)|(simp [ufs,bkL,rwL];omega)
theorem c_ask (x:Nat->Value) (hx:∀ i,(x i).oneCell'=true) (b:Bk) (d:Deed) (ok:Okb b) (b2:Bk) (a2:Answer) (hr:askB b d=(b2,a2)):FnE Try.prog 63 [(.c (.p 0 0 0 0)),(.c (.q (rDeed d) 0))] [(0,(.box 98 (bkL b 1 2 3 4 (.d (.v (x 17))) (.d (.v (x 19)))))),(1,(alC b.cards)),(2,(alI b.due)),(3,(alP b.auths)),(4,(alR b.today))] [0] (.v (.g [cI a2.err,cI a2.auth])) [(0,(.box 98 (bkL b2 1 2 3 4 (.d (.v (x 17))) (.d (.v (x 19)))))),(1,(alC b2.cards)),(2,(alI b2.due)),(3,(alP b2.auths)),(4,(alR b2.today))]:=by
  cases hdn:b.down
  ·exact c_askU x hx b d ok hdn b2 a2 hr
  ·exact c_askD x hx b d ok hdn b2 a2 hr
end Go.Proofs.Ytegepioggeggaaa.Dev
namespace Go.Proofs.Ytegepioggeggaaa.Dev
open Go.RowKit

set_option maxRecDepth 100000 in
set_option maxHeartbeats 8000000 in
theorem c_becomeU (x:Nat->Value) (hx:∀ i,(x i).oneCell'=true) (b:Bk) (d:Deed) (ok:Okb b) (hdn:b.down=false) (b2:Bk) (a2:Answer) (hr:becomeB b d=(b2,a2)):FnE Try.prog 64 [(.c (.p 0 0 0 0)),(.c (.q (rDeed d) 0))] [(0,(.box 98 (bkL b 1 2 3 4 (.d (.v (x 17))) (.d (.v (x 19)))))),(1,(alC b.cards)),(2,(alI b.due)),(3,(alP b.auths)),(4,(alR b.today))] [0] (.v (.g [cI a2.err,cI a2.auth])) [(0,(.box 98 (bkL b2 1 2 3 4 (.d (.v (x 17))) (.d (.v (x 19)))))),(1,(alC b2.cards)),(2,(alI b2.due)),(3,(alP b2.auths)),(4,(alR b2.today))]:=by
 refine FnE.mk 246 [(0,(aC (.p 0 0 0 0))),(1,(aC (.q (rDeed d) 0)))] 5 Try.func64 rfl rfl rfl rfl rfl rfl rfl rfl rfl ?_
 intro W0 F0 T0 pg
 obtain ⟨okt,okc,okd,oka,oky,okw0,okw1,okp,okv,okk0,okk1,okg,okl0,okl1,okp0,okp1,okn0,okn1,okq⟩:=id ok
 refine AC.goes ttk 1 rfl ?_
 refine AC.seq ?_
 refine AC.goes ttk 5 rfl ?_
 refine AC.cond rfl (fun hno=>absurd (hdn.symm.trans hno) (by decide)) (fun _=>?_)
 refine AC.sk ?_
 refine AC.seq ?_
 refine AC.seq ?_
 rcases Bool.eq_false_or_eq_true (decide (d.n < 0)) with hb2|hb2
 ·
  have hb2':=of_decide_eq_true hb2
  refine AC.drawP [0,1,4] [5,0,1,2,3,4] mixed rfl rfl ?_
  refine PD.runs (kn:=[(22,true)]) ttk 18 rfl ⟨hb2,trivial⟩ ?_
  refine PD.fin [5,0,1,2,3,4] rfl rfl rfl rfl (by kernel_rfl) ?_
  refine AL.nx ?_
  refine AC.cond rfl (fun _=>?_) (fun hno=>by cases hno)
  refine AC.goes ttk 2 rfl ?_
  refine AC.ret ?_
  refine then_ret ?_
  have hX:becomeB b d=(b,(⟨6,0⟩:Answer)):=by
    unfold becomeB;simp only [hdn,Bool.false_eq_true,if_false];(repeat' split)<;>first|rfl|omega|(exfalso;omega)|(simp_all;done)|(simp_all;omega)
  rw [hX] at hr;clear hX
  simp only [Prod.mk.injEq] at hr;obtain ⟨rfl,rfl⟩:=hr
  refine retQ_go ttk [0,1,2,3,4,5] 5 rfl rfl rfl rfl rfl rfl ?_ ?_
  all_goals first|rfl|(simp [ufs,bkL,rwL];done)|(simp [ufs,bkL,rwL];omega)
 have hb2':=of_decide_eq_false hb2
 refine AC.drawP [0,1,4] [5,0,1,2,3,4] mixed rfl rfl ?_
 refine PD.runs (kn:=[(22,false)]) ttk 15 rfl ⟨hb2,trivial⟩ ?_
 refine PD.op (n':=6) [32,23] [3] rfl rfl (.inl ⟨(Wanted.yes rfl rfl rfl),GOp.cast (g_lenS rfl rfl rfl rfl rfl Try.underlying31) rfl⟩) rfl ?_
 refine PD.runs (kn:=[]) ttk 2 rfl trivial ?_
 refine PD.fin [5,0,1,2,3,4] rfl rfl rfl rfl (by kernel_rfl) ?_
 refine AL.nx ?_
 refine AC.cond rfl (fun hc4=>?_) (fun hc4=>?_)
 ·
  have hc4':=of_decide_eq_true hc4
  refine AC.goes ttk 2 rfl ?_
  refine AC.ret ?_
  refine then_ret ?_
  have hX:becomeB b d=(b,(⟨6,0⟩:Answer)):=by
    unfold becomeB;simp only [hdn,Bool.false_eq_true,if_false];(repeat' split)<;>first|rfl|omega|(exfalso;omega)|(simp_all;done)|(simp_all;omega)
  rw [hX] at hr;clear hX
  simp only [Prod.mk.injEq] at hr;obtain ⟨rfl,rfl⟩:=hr
  refine retQ_go ttk [0,1,2,3,4,5] 5 rfl rfl rfl rfl rfl rfl ?_ ?_
  all_goals first|rfl|(simp [ufs,bkL,rwL];done)|(simp [ufs,bkL,rwL];omega)
 have hc4':=of_decide_eq_false hc4
 refine AC.sk ?_
 refine AC.seq ?_
 obtain ⟨x1,hx1⟩:=exget (xs:=b.auths) (i:=Int.toNat (d.n)) (by first|omega|(simp;done)|(simp;omega))
 refine AC.drawP [0,1,4] [5,0,1,2,3,4] mixed rfl rfl ?_
 refine PD.runs (kn:=[]) ttk 9 rfl trivial ?_
 refine PD.op (n':=6) [41,45] [3] rfl rfl (.inl ⟨(Wanted.plain rfl),GOp.cast (g_indexP0 (i:=Int.toNat (d.n)) rfl rfl rfl Try.underlying31 sz67 (by first|omega|(simp;done)|(simp;omega)) (by first|omega|(simp;done)|(simp;omega))) rfl⟩) rfl ?_
 refine PD.op (n':=6) [46] [3] rfl rfl (.inl ⟨(Wanted.plain rfl),GOp.cast (g_loadAs rfl rfl rfl Try.underlying67 rfl sz67 (getmap hx1) rfl) rfl⟩) rfl ?_
 refine PD.runs (n':=7) (kn:=[]) ttk 1 rfl trivial ?_
 refine PD.fin [6,5,0,1,2,3,4] rfl rfl rfl rfl (by kernel_rfl) ?_
 refine AL.runs ttk 1 rfl ?_
 refine AL.nx ?_
 refine AC.seq ?_
 obtain ⟨b0,e0,hr0⟩:∃ (b0:Auth) (e0:Int),moveAuth x1 d.move d.sum=(b0,e0):=⟨_,_,rfl⟩
 refine AC.drawQ [0,1,4,5] [6,5,0,1,2,3,4] mixed rfl rfl ?_
 refine PW.runs (kn:=[]) ttk 9 rfl trivial ?_
 refine PW.op (n':=7) [49,53,57] [] rfl rfl (.inl ⟨(Wanted.plain rfl),GOp.cast (g_call 7 (c_auth_Move x1 d.move d.sum b0 e0 hr0) en81 rfl rfl ⟨⟨_,rfl,.g ⟨.d _,.d _,.d _,.d _,.d _,.d _,.d _,.d _,trivial⟩⟩,⟨_,rfl,.c (.d _)⟩,⟨_,rfl,.c (.d _)⟩,trivial⟩ ⟨⟨trivial,trivial,trivial,trivial,trivial,trivial,trivial,trivial,trivial⟩,trivial,trivial⟩ trivial rfl rfl rfl rfl) rfl⟩) rfl ?_
 refine PW.runs (n':=8) (kn:=[]) ttk 6 rfl trivial ?_
 refine PW.fin [0,1,4,5,6,7] [7,6,5,0,1,2,3,4] rfl rfl (by kernel_rfl) ?_
 refine then_ok ?_
 refine AC.seq ?_
 refine AC.goes ttk 2 rfl ?_
 refine AC.cond rfl (fun hc5=>?_) (fun hc5=>?_)
 ·
  have hc5':=of_decide_eq_true hc5
  refine AC.goes ttk 3 rfl ?_
  refine AC.ret ?_
  refine then_ret ?_
  have hX:becomeB b d=(b,(⟨e0,0⟩:Answer)):=by
    unfold becomeB;simp only [hdn,Bool.false_eq_true,if_false];rw [if_neg (by omega),hx1];dsimp only;simp only [hr0];(repeat' split)<;>first|rfl|omega|(exfalso;omega)|(simp_all;done)|(simp_all;omega)
  rw [hX] at hr;clear hX
  simp only [Prod.mk.injEq] at hr;obtain ⟨rfl,rfl⟩:=hr
  refine retQ_go ttk [0,1,2,3,4,5] 5 rfl rfl rfl rfl rfl rfl ?_ ?_
  all_goals first|rfl|(simp [ufs,bkL,rwL];done)|(simp [ufs,bkL,rwL];omega)
 have hc5':=of_decide_eq_false hc5
 refine AC.sk ?_
 obtain ⟨mw1,mw2,mc,ms,mk1,mk2,mn1,mn2⟩:=moveAuth_ok (show moveAuth x1 d.move d.sum=(b0,0) by rw [hr0];congr 1;omega)
 have hoP:=okp x1 (List.mem_of_getElem? hx1)
 have hI0:∀ t∈b.s0.kept,InI t.number:=fun t ht=>(okk0 t ht).1
 have hI1:∀ t∈b.s1.kept,InI t.number:=fun t ht=>(okk1 t ht).1
 refine AC.go ttk 1 rfl ?_
 refine AL.cn 17 [0,8,9,10,11,12,13,14,15,16,7,6,5] (g_callM id (rhoOf [0,8,9,10,11,12,13,14,15,16]) (c_begin (x 17) (x 19) b (by first|omega|(simp;done)|(simp;omega)) (by first|omega|(simp;done)|(simp;omega)) (by first|omega|(simp;done)|(simp;omega)) (by first|omega|(simp;done)|(simp;omega))) en74 rfl rfl ⟨⟨_,rfl,.inl ⟨rfl,rfl⟩⟩,trivial⟩ ⟨rfl,rfl,rfl,rfl,rfl,trivial⟩ rfl rfl rfl rfl rfl rfl trivial ⟨⟨trivial,trivial,trivial,trivial,trivial,trivial,trivial,trivial,trivial,trivial,trivial,trivial,trivial,trivial,trivial,trivial,trivial,trivial,trivial,trivial,trivial⟩,⟨trivial,trivial,trivial,trivial,trivial,trivial,trivial,trivial,trivial,trivial,trivial,trivial,trivial,trivial,trivial,trivial,trivial,trivial,trivial,trivial,trivial⟩,(fun _ _ _ _=>trivial),(fun _ _ _ _=>trivial),(fun _ _ _ _=>trivial),(fun _ _ _ _=>trivial),(fun _ _ _ _=>trivial),(fun _ _ _ _=>trivial),(fun _ _ _ _=>trivial),(fun _ _ _ _=>trivial),trivial⟩ rfl rfl rfl rfl) rfl ?_
 refine AL.runs ttk 1 rfl ?_
 refine AL.nx ?_
 refine AC.seq ?_
 obtain ⟨e1,hr1⟩:∃ (e1:Int),holdAuth b0=e1:=⟨_,rfl⟩
 have hhb1:=hold_b (show wrongAuth b0=0 by assumption)
 rw [hr1] at hhb1
 obtain ⟨e2,hr2⟩:∃ (e2:Int),holdAuth x1=e2:=⟨_,rfl⟩
 have hhb2:=hold_b (show wrongAuth x1=0 by assumption)
 rw [hr2] at hhb2
 refine AC.drawP [0,1,4,5,6,8] [0,8,9,10,11,12,13,14,15,16,7,6,5] mixed rfl rfl ?_
 refine PD.runs (kn:=[]) ttk 1 rfl trivial ?_
 refine PD.op (n':=17) [67] [] rfl rfl (.inl ⟨(Wanted.plain rfl),GOp.cast (g_call 17 (c_auth_Hold b0 (by first|assumption|omega|rfl|decide) e1 hr1) en27 rfl rfl ⟨⟨_,rfl,.g ⟨.d _,.d _,.d _,.d _,.d _,.d _,.d _,.d _,trivial⟩⟩,trivial⟩ trivial trivial rfl rfl rfl rfl) rfl⟩) rfl ?_
 refine PD.runs (kn:=[]) ttk 1 rfl trivial ?_
 refine PD.op (n':=17) [69] [] rfl rfl (.inl ⟨(Wanted.plain rfl),GOp.cast (g_call 17 (c_auth_Hold x1 (by first|assumption|omega|rfl|decide) e2 hr2) en27 rfl rfl ⟨⟨_,rfl,.g ⟨.d _,.d _,.d _,.d _,.d _,.d _,.d _,.d _,trivial⟩⟩,trivial⟩ trivial trivial rfl rfl rfl rfl) rfl⟩) rfl ?_
 refine PD.op (n':=17) [68,70] [] rfl rfl (.inl ⟨(Wanted.plain rfl),GOp.cast (g_binI rfl rfl rfl (wrap_ok (by first|omega|(simp;done)|(simp;omega)))) rfl⟩) rfl ?_
 refine PD.runs (kn:=[]) ttk 1 rfl trivial ?_
 refine PD.fin [0,8,9,10,11,12,13,14,15,16,7,6,5] rfl rfl rfl rfl (by kernel_rfl) ?_
 refine AL.nx ?_
 refine AC.seq ?_
 refine AC.cut (J:=⟨[(0,(aC (.p 0 0 0 0))),(1,(aC (.q (rDeed d) 0))),(4,(aC (.p 5 0 0 0))),(6,(aC (.p 7 0 0 0))),(8,(aC (.p 8 0 0 0))),(9,(aI (e1 - e2))),(93,(aB (decide (d.move=1/\d.sum > freeAt b.cards b0.card))))],[(0,(.box 98 (bkL b 9 10 11 12 (.d (.v (x 17))) (.d (.v (x 19)))))),(8,(.box 147 (bkL b 13 14 15 16 (.d (.v (x 17))) (cI 0)))),(9,(alC b.cards)),(10,(alI b.due)),(11,(alP b.auths)),(12,(alR b.today)),(13,(alC b.cards)),(14,(alI b.due)),(15,(alP b.auths)),(16,(alR b.today)),(7,(.box 67 [(cI b0.card),(cI b0.shop),(cI b0.sum),(cI b0.captured),(cI b0.refunded),(cI b0.disputed),(cI b0.till),(cB b0.shut)])),(5,(.box 65 [(cI 0),(cI 0)]))],17⟩) ?_ ?_
 ·
  rcases Bool.eq_false_or_eq_true (decide (d.move=1)) with hb6|hb6
  ·
   have hb6':=of_decide_eq_true hb6
   obtain ⟨x2,hx2⟩:=exget (xs:=b.cards) (i:=Int.toNat (b0.card)) (by first|omega|(simp;done)|(simp;omega))
   have hx2g:=wrongC_b (okg x2 (List.mem_of_getElem? hx2))
   refine AC.drawP [0,1,4,6,8,9] [0,8,9,10,11,12,13,14,15,16,7,5] mixed rfl rfl ?_
   refine PD.runs (kn:=[(76,true)]) ttk 17 rfl ⟨hb6,trivial⟩ ?_
   refine PD.op (n':=17) [86,88,77] [13] rfl rfl (.inl ⟨(Wanted.yes rfl rfl rfl),GOp.cast (g_indexP0 (i:=Int.toNat (b0.card)) rfl rfl rfl Try.underlying29 sz61 (by first|omega|(simp;done)|(simp;omega)) (by first|omega|(simp;done)|(simp;omega))) rfl⟩) rfl ?_
   refine PD.op (n':=17) [89,77] [13] rfl rfl (.inl ⟨(Wanted.yes rfl rfl rfl),GOp.cast (g_loadAs rfl rfl rfl Try.underlying61 rfl sz61 (getmap hx2) rfl) rfl⟩) rfl ?_
   refine PD.op (n':=17) [90,77] [] rfl rfl (.inl ⟨(Wanted.yes rfl rfl rfl),GOp.cast (g_call 17 (c_card_Free x2 (by first|assumption|omega|(constructor<;>decide)|(have hz:=rightC (by first|assumption|omega);omega))) en24 rfl rfl ⟨⟨_,rfl,.g ⟨.d _,.d _,.d _,.d _,.d _,.d _,trivial⟩⟩,trivial⟩ trivial trivial rfl rfl rfl rfl) rfl⟩) rfl ?_
   refine PD.runs (kn:=[]) ttk 2 rfl trivial ?_
   refine PD.fin [0,8,9,10,11,12,13,14,15,16,7,5] rfl rfl rfl rfl (by kernel_rfl) ?_
   refine AL.nx ?_
   rw [show (decide (d.move=1/\d.sum > freeAt b.cards b0.card))=(decide (d.sum > (x2.money - x2.held))) by (unfold freeAt;rw [hx2];dsimp only;first|(simp_all;done)|(simp_all;omega))]
   exact Weak.ren id (⟨rfl,rfl,rfl,rfl,rfl,rfl,rfl,trivial⟩) (⟨rfl,rfl,rfl,rfl,rfl,rfl,rfl,rfl,rfl,rfl,rfl,rfl,trivial⟩) rfl
  have hb6':=of_decide_eq_false hb6
  refine AC.drawP [0,1,4,6,8,9] [0,8,9,10,11,12,13,14,15,16,7,5] mixed rfl rfl ?_
  refine PD.runs (kn:=[(76,false)]) ttk 22 rfl ⟨hb6,trivial⟩ ?_
  refine PD.fin [0,8,9,10,11,12,13,14,15,16,7,5] rfl rfl rfl rfl (by kernel_rfl) ?_
  refine AL.nx ?_
  rw [show (decide (d.move=1/\d.sum > freeAt b.cards b0.card))=(false) by (unfold freeAt;first|(simp_all;done)|(simp_all;omega))]
  exact Weak.ren id (⟨rfl,rfl,rfl,rfl,rfl,rfl,rfl,trivial⟩) (⟨rfl,rfl,rfl,rfl,rfl,rfl,rfl,rfl,rfl,rfl,rfl,rfl,trivial⟩) rfl
 refine AC.cond rfl (fun hc7=>?_) (fun hc7=>?_)
 ·
  have hc7':=of_decide_eq_true hc7
  refine AC.goes ttk 2 rfl ?_
  refine AC.ret ?_
  refine then_ret ?_
  have hX:becomeB b d=(b,(⟨10,0⟩:Answer)):=by
    unfold becomeB;simp only [hdn,Bool.false_eq_true,if_false];rw [if_neg (by omega),hx1];dsimp only;simp only [hr0];(repeat' split)<;>first|rfl|omega|(exfalso;omega)|(simp_all;done)|(simp_all;omega)
  rw [hX] at hr;clear hX
  simp only [Prod.mk.injEq] at hr;obtain ⟨rfl,rfl⟩:=hr
  refine retQ_go ttk [0,9,10,11,12,5] 5 rfl rfl rfl rfl rfl rfl ?_ ?_
  all_goals first|rfl|(simp [ufs,bkL,rwL];done)|(simp [ufs,bkL,rwL];omega)
 have hc7':=of_decide_eq_false hc7
 refine AC.sk ?_
 refine AC.seq ?_
 refine AC.drawP [0,1,4,6,8,9] [0,8,9,10,11,12,13,14,15,16,7,5] mixed rfl rfl ?_
 refine PD.runs (kn:=[]) ttk 2 rfl trivial ?_
 refine PD.op (n':=17) [96] [] rfl rfl (.inl ⟨(Wanted.plain rfl),GOp.cast (g_binI rfl rfl rfl (wrap_ok (by first|omega|(simp;done)|(simp;omega)))) rfl⟩) rfl ?_
 refine PD.runs (n':=18) (kn:=[]) ttk 11 rfl trivial ?_
 refine PD.fin [17,0,8,9,10,11,12,13,14,15,16,7,5] rfl rfl rfl rfl (by kernel_rfl) ?_
 refine AL.runs ttk 1 rfl ?_
 refine AL.nx ?_
 obtain ⟨jcards,jdue,jbook,js0,js1,je,hj⟩:∃ (jcards:List Card) (jdue:List Int) (jbook:List Entry) (js0:Sender) (js1:Sender) (je:Int),deedK b b0 x1 d=(jcards,jdue,jbook,js0,js1,je):=⟨_,_,_,_,_,_,rfl⟩
 have hj0:=hj
 refine AC.cut (J:=⟨[(0,(aC (.p 0 0 0 0))),(1,(aC (.q (rDeed d) 0))),(4,(aC (.p 5 0 0 0))),(6,(aC (.p 7 0 0 0))),(8,(aC (.p 8 0 0 0)))],[(0,(.box 98 (bkL b 9 10 11 12 (.d (.v (x 17))) (.d (.v (x 19)))))),(8,(.box 147 ((((((((bkL b 13 14 15 16 (.d (.v (x 17))) (cI je)).set 2 (.s 13 0 6 jcards.length)).set 3 (.s 14 0 1 jdue.length)).set 5 (cI js0.sent)).set 6 (vlT js0.kept)).set 7 (cI js1.sent)).set 8 (vlT js1.kept)).set 18 (vlE jbook)))),(9,(alC b.cards)),(10,(alI b.due)),(11,(alP b.auths)),(12,(alR b.today)),(13,(alC jcards)),(14,(alI jdue)),(15,(alP b.auths)),(16,(alR b.today)),(7,(.box 67 [(cI b0.card),(cI b0.shop),(cI b0.sum),(cI b0.captured),(cI b0.refunded),(cI b0.disputed),(cI b0.till),(cB b0.shut)])),(5,(.box 65 [(cI 0),(cI 0)]))],17⟩) ?_ ?_
 ·
  refine AC.goes ttk 4 rfl ?_
  refine AC.block ?_
  refine AC.seq ?_
  refine AC.goes ttk 2 rfl ?_
  refine AC.cond rfl (fun hc8=>?_) (fun hc8=>?_)
  ·
   have hc8':=of_decide_eq_true hc8
   refine AC.sk ?_
   refine AC.cond rfl (fun _=>?_) (fun hno=>absurd (hc8.symm.trans hno) (by decide))
   refine AC.region ?_
   refine AL.runs ttk 4 rfl ?_
   obtain ⟨l23,e23,hr3⟩:∃ (l23:List Card) (e23:Int),shiftK b.cards 0 b0.card (e1 - e2) 0=(l23,e23):=⟨_,_,rfl⟩
   refine AL.cn 19 [8,18,17,0,9,10,11,12,14,15,16,7,5] (g_callR0 (rhoOf [8,13]) (rhoOf [8,18]) (ms:=((nmL.set 2 (some (.s 1 0 6 b.cards.length))).set 19 (some (cI 0)))) (ms':=((nmL.set 2 (some (.s 1 0 6 l23.length))).set 19 (some (cI e23)))) (fun x hx=>c_shift x hx b.cards 0 b0.card (e1 - e2) 0 (by first|omega|(simp;done)|(simp;omega)) l23 e23 hr3) en75 rfl rfl ⟨⟨_,rfl,.inl ⟨rfl,rfl⟩⟩,⟨_,rfl,.inr (.c (.d _))⟩,⟨_,rfl,.inr (.c (.d _))⟩,⟨_,rfl,.inr (.c (.d _))⟩,trivial⟩ rfl rfl rfl rfl rfl rfl rfl ⟨rfl,trivial⟩ rfl rfl rfl rfl rfl rfl rfl rfl rfl rfl rfl rfl rfl) rfl ?_
   refine AL.nil ?_
   refine block_ok ?_
   refine then_ok ?_
   have hX:deedK b b0 x1 d=(l23,b.due,b.book,b.s0,b.s1,e23):=by
     unfold deedK;(try simp only [hr1,hr2,hr3]);(repeat' split)<;>first|rfl|omega|(exfalso;omega)|(simp_all;done)|(simp_all;omega)
   rw [hX] at hj;clear hX;simp only [Prod.mk.injEq] at hj;obtain ⟨rfl,rfl,rfl,rfl,rfl,rfl⟩:=hj
   exact Weak.ren (fun k=>if k=13 then 18 else k) (by refine ⟨?_,?_,?_,?_,?_,trivial⟩<;>first|rfl|(simp only [mps];done)|(congr 3;omega)|(congr 4;omega)|(simp only [lns];rfl)) (by refine ⟨?_,?_,?_,?_,?_,?_,?_,?_,?_,?_,?_,?_,trivial⟩<;>first|rfl|(simp only [mps];done)|(congr 3;omega)|(congr 4;omega)|(simp only [lns];rfl)) rfl
  have hc8':=of_decide_eq_false hc8
  refine AC.region ?_
  refine AL.runs ttk 2 rfl ?_
  refine AL.nx ?_
  refine AC.cond rfl (fun hc10=>?_) (fun hc10=>?_)
  ·
   have hc10':=of_decide_eq_true hc10
   refine AC.region ?_
   refine AL.runs ttk 4 rfl ?_
   obtain ⟨l24,e24,hr4⟩:∃ (l24:List Card) (e24:Int),shiftK b.cards 0 b0.card (e1 - e2) 0=(l24,e24):=⟨_,_,rfl⟩
   refine AL.cn 19 [8,18,17,0,9,10,11,12,14,15,16,7,5] (g_callR0 (rhoOf [8,13]) (rhoOf [8,18]) (ms:=((nmL.set 2 (some (.s 1 0 6 b.cards.length))).set 19 (some (cI 0)))) (ms':=((nmL.set 2 (some (.s 1 0 6 l24.length))).set 19 (some (cI e24)))) (fun x hx=>c_shift x hx b.cards 0 b0.card (e1 - e2) 0 (by first|omega|(simp;done)|(simp;omega)) l24 e24 hr4) en75 rfl rfl ⟨⟨_,rfl,.inl ⟨rfl,rfl⟩⟩,⟨_,rfl,.inr (.c (.d _))⟩,⟨_,rfl,.inr (.c (.d _))⟩,⟨_,rfl,.inr (.c (.d _))⟩,trivial⟩ rfl rfl rfl rfl rfl rfl rfl ⟨rfl,trivial⟩ rfl rfl rfl rfl rfl rfl rfl rfl rfl rfl rfl rfl rfl) rfl ?_
   refine AL.nil ?_
   refine block_ok ?_
   refine then_ok ?_
   have hX:deedK b b0 x1 d=(l24,b.due,b.book,b.s0,b.s1,e24):=by
     unfold deedK;(try simp only [hr1,hr2,hr4]);(repeat' split)<;>first|rfl|omega|(exfalso;omega)|(simp_all;done)|(simp_all;omega)
   rw [hX] at hj;clear hX;simp only [Prod.mk.injEq] at hj;obtain ⟨rfl,rfl,rfl,rfl,rfl,rfl⟩:=hj
   exact Weak.ren (fun k=>if k=13 then 18 else k) (by refine ⟨?_,?_,?_,?_,?_,trivial⟩<;>first|rfl|(simp only [mps];done)|(congr 3;omega)|(congr 4;omega)|(simp only [lns];rfl)) (by refine ⟨?_,?_,?_,?_,?_,?_,?_,?_,?_,?_,?_,?_,trivial⟩<;>first|rfl|(simp only [mps];done)|(congr 3;omega)|(congr 4;omega)|(simp only [lns];rfl)) rfl
  have hc10':=of_decide_eq_false hc10
  refine AC.seq ?_
  refine AC.goes ttk 2 rfl ?_
  refine AC.cond rfl (fun hc11=>?_) (fun hc11=>?_)
  ·
   have hc11':=of_decide_eq_true hc11
   refine AC.sk ?_
   refine AC.cond rfl (fun _=>?_) (fun hno=>absurd (hc11.symm.trans hno) (by decide))
   refine AC.seq ?_
   obtain ⟨l25,e25,hr5⟩:∃ (l25:List Card) (e25:Int),shiftK b.cards 0 b0.card (e1 - e2) (0 - d.sum)=(l25,e25):=⟨_,_,rfl⟩
   refine AC.drawQ [0,1,4,6,8,9,11,10] [17,0,8,9,10,11,12,13,14,15,16,7,5] mixed rfl rfl ?_
   refine PW.runs (kn:=[]) ttk 8 rfl trivial ?_
   refine PW.op (n':=18) [129] [] rfl rfl (.inl ⟨(Wanted.plain rfl),GOp.cast (g_negI rfl rfl (wrap_ok (by first|omega|(simp;done)|(simp;omega)))) rfl⟩) rfl ?_
   refine PW.op (n':=19) [122,124,125,130] [13,8] rfl rfl (.inl ⟨(Wanted.plain rfl),GOp.cast (g_callR0 (rhoOf [8,13]) (rhoOf [8,18]) (ms:=((nmL.set 2 (some (.s 1 0 6 b.cards.length))).set 19 (some (cI 0)))) (ms':=((nmL.set 2 (some (.s 1 0 6 l25.length))).set 19 (some (cI e25)))) (fun x hx=>c_shift x hx b.cards 0 b0.card (e1 - e2) (0 - d.sum) (by first|omega|(simp;done)|(simp;omega)) l25 e25 hr5) en75 rfl rfl ⟨⟨_,rfl,.inl ⟨rfl,rfl⟩⟩,⟨_,rfl,.inr (.c (.d _))⟩,⟨_,rfl,.inr (.c (.d _))⟩,⟨_,rfl,.inr (.c (.d _))⟩,trivial⟩ rfl rfl rfl rfl rfl rfl rfl ⟨rfl,trivial⟩ rfl rfl rfl rfl rfl rfl rfl rfl rfl rfl rfl rfl rfl) rfl⟩) rfl ?_
   refine PW.fin [0,1,4,6,8,11,10] [18,8,17,0,9,10,11,12,14,15,16,7,5] rfl rfl (by kernel_rfl) ?_
   refine then_ok ?_
   refine AC.go ttk 6 rfl ?_
   obtain ⟨l26,e26,hr6⟩:∃ (l26:List Entry) (e26:Int),moveK b.book e25 (10+b0.card) 1 d.sum=(l26,e26):=⟨_,_,rfl⟩
   refine AL.cn 19 [8,18,17,0,9,10,11,12,14,15,16,7,5] (g_callR0 (rhoOf [8]) (rhoOf [8]) (ms:=((nmL.set 18 (some (vlE b.book))).set 19 (some (cI e25)))) (ms':=((nmL.set 18 (some (vlE l26))).set 19 (some (cI e26)))) (fun x hx=>c_move x hx b.book e25 (10+b0.card) 1 d.sum l26 e26 hr6) en76 rfl rfl ⟨⟨_,rfl,.inl ⟨rfl,rfl⟩⟩,⟨_,rfl,.inr (.c (.d _))⟩,⟨_,rfl,.inr (.c (.d _))⟩,⟨_,rfl,.inr (.c (.d _))⟩,trivial⟩ rfl rfl rfl rfl rfl rfl rfl trivial rfl rfl rfl rfl rfl rfl rfl rfl rfl rfl rfl rfl rfl) rfl ?_
   refine AL.nx ?_
   refine AC.goes ttk 2 rfl ?_
   refine AC.region ?_
   refine AL.runs ttk 2 rfl ?_
   obtain ⟨s27,e27,hr7⟩:∃ (s27:Sender) (e27:Int),sendK b.s0 e26 (⟨0,1,d.n,d.sum⟩:Transfer)=(s27,e27):=⟨_,_,rfl⟩
   refine AL.cn 19 [8,18,17,0,9,10,11,12,14,15,16,7,5] (g_callR0 (rhoOf [8]) (rhoOf [8]) (ms:=(((nmL.set 5 (some (cI b.s0.sent))).set 6 (some (vlT b.s0.kept))).set 19 (some (cI e26)))) (ms':=(((nmL.set 5 (some (cI s27.sent))).set 6 (some (vlT s27.kept))).set 19 (some (cI e27)))) (fun x hx=>c_send0 x hx b.s0 e26 (⟨0,1,d.n,d.sum⟩:Transfer) (by assumption) s27 e27 hr7) en82 rfl rfl ⟨⟨_,rfl,.inl ⟨rfl,rfl⟩⟩,⟨_,rfl,.inr (.c (.d _))⟩,⟨_,rfl,.inr (.g ⟨.d _,.d _,.d _,.d _,trivial⟩)⟩,trivial⟩ rfl rfl rfl rfl rfl rfl rfl trivial rfl rfl rfl rfl rfl rfl rfl rfl rfl rfl rfl rfl rfl) rfl ?_
   refine AL.nil ?_
   refine block_ok ?_
   refine then_ok ?_
   have hX:deedK b b0 x1 d=(l25,b.due,l26,s27,b.s1,e27):=by
     unfold deedK;(try simp only [hr1,hr2,hr5,hr6,hr7]);(repeat' split)<;>first|rfl|omega|(exfalso;omega)|(simp_all;done)|(simp_all;omega)
   rw [hX] at hj;clear hX;simp only [Prod.mk.injEq] at hj;obtain ⟨rfl,rfl,rfl,rfl,rfl,rfl⟩:=hj
   exact Weak.ren (fun k=>if k=13 then 18 else k) (by refine ⟨?_,?_,?_,?_,?_,trivial⟩<;>first|rfl|(simp only [mps];done)|(congr 3;omega)|(congr 4;omega)|(simp only [lns];rfl)) (by refine ⟨?_,?_,?_,?_,?_,?_,?_,?_,?_,?_,?_,?_,trivial⟩<;>first|rfl|(simp only [mps];done)|(congr 3;omega)|(congr 4;omega)|(simp only [lns];rfl)) rfl
  have hc11':=of_decide_eq_false hc11
  refine AC.region ?_
  refine AL.runs ttk 2 rfl ?_
  refine AL.nx ?_
  refine AC.cond rfl (fun hc13=>?_) (fun hc13=>?_)
  ·
   have hc13':=of_decide_eq_true hc13
   refine AC.seq ?_
   obtain ⟨l28,e28,hr8⟩:∃ (l28:List Card) (e28:Int),shiftK b.cards 0 b0.card (e1 - e2) (0 - d.sum)=(l28,e28):=⟨_,_,rfl⟩
   refine AC.drawQ [0,1,4,6,8,9,11,10] [17,0,8,9,10,11,12,13,14,15,16,7,5] mixed rfl rfl ?_
   refine PW.runs (kn:=[]) ttk 8 rfl trivial ?_
   refine PW.op (n':=18) [129] [] rfl rfl (.inl ⟨(Wanted.plain rfl),GOp.cast (g_negI rfl rfl (wrap_ok (by first|omega|(simp;done)|(simp;omega)))) rfl⟩) rfl ?_
   refine PW.op (n':=19) [122,124,125,130] [13,8] rfl rfl (.inl ⟨(Wanted.plain rfl),GOp.cast (g_callR0 (rhoOf [8,13]) (rhoOf [8,18]) (ms:=((nmL.set 2 (some (.s 1 0 6 b.cards.length))).set 19 (some (cI 0)))) (ms':=((nmL.set 2 (some (.s 1 0 6 l28.length))).set 19 (some (cI e28)))) (fun x hx=>c_shift x hx b.cards 0 b0.card (e1 - e2) (0 - d.sum) (by first|omega|(simp;done)|(simp;omega)) l28 e28 hr8) en75 rfl rfl ⟨⟨_,rfl,.inl ⟨rfl,rfl⟩⟩,⟨_,rfl,.inr (.c (.d _))⟩,⟨_,rfl,.inr (.c (.d _))⟩,⟨_,rfl,.inr (.c (.d _))⟩,trivial⟩ rfl rfl rfl rfl rfl rfl rfl ⟨rfl,trivial⟩ rfl rfl rfl rfl rfl rfl rfl rfl rfl rfl rfl rfl rfl) rfl⟩) rfl ?_
   refine PW.fin [0,1,4,6,8,11,10] [18,8,17,0,9,10,11,12,14,15,16,7,5] rfl rfl (by kernel_rfl) ?_
   refine then_ok ?_
   refine AC.go ttk 6 rfl ?_
   obtain ⟨l29,e29,hr9⟩:∃ (l29:List Entry) (e29:Int),moveK b.book e28 (10+b0.card) 1 d.sum=(l29,e29):=⟨_,_,rfl⟩
   refine AL.cn 19 [8,18,17,0,9,10,11,12,14,15,16,7,5] (g_callR0 (rhoOf [8]) (rhoOf [8]) (ms:=((nmL.set 18 (some (vlE b.book))).set 19 (some (cI e28)))) (ms':=((nmL.set 18 (some (vlE l29))).set 19 (some (cI e29)))) (fun x hx=>c_move x hx b.book e28 (10+b0.card) 1 d.sum l29 e29 hr9) en76 rfl rfl ⟨⟨_,rfl,.inl ⟨rfl,rfl⟩⟩,⟨_,rfl,.inr (.c (.d _))⟩,⟨_,rfl,.inr (.c (.d _))⟩,⟨_,rfl,.inr (.c (.d _))⟩,trivial⟩ rfl rfl rfl rfl rfl rfl rfl trivial rfl rfl rfl rfl rfl rfl rfl rfl rfl rfl rfl rfl rfl) rfl ?_
   refine AL.nx ?_
   refine AC.goes ttk 2 rfl ?_
   refine AC.region ?_
   refine AL.runs ttk 2 rfl ?_
   obtain ⟨s210,e210,hr10⟩:∃ (s210:Sender) (e210:Int),sendK b.s0 e29 (⟨0,1,d.n,d.sum⟩:Transfer)=(s210,e210):=⟨_,_,rfl⟩
   refine AL.cn 19 [8,18,17,0,9,10,11,12,14,15,16,7,5] (g_callR0 (rhoOf [8]) (rhoOf [8]) (ms:=(((nmL.set 5 (some (cI b.s0.sent))).set 6 (some (vlT b.s0.kept))).set 19 (some (cI e29)))) (ms':=(((nmL.set 5 (some (cI s210.sent))).set 6 (some (vlT s210.kept))).set 19 (some (cI e210)))) (fun x hx=>c_send0 x hx b.s0 e29 (⟨0,1,d.n,d.sum⟩:Transfer) (by assumption) s210 e210 hr10) en82 rfl rfl ⟨⟨_,rfl,.inl ⟨rfl,rfl⟩⟩,⟨_,rfl,.inr (.c (.d _))⟩,⟨_,rfl,.inr (.g ⟨.d _,.d _,.d _,.d _,trivial⟩)⟩,trivial⟩ rfl rfl rfl rfl rfl rfl rfl trivial rfl rfl rfl rfl rfl rfl rfl rfl rfl rfl rfl rfl rfl) rfl ?_
   refine AL.nil ?_
   refine block_ok ?_
   refine then_ok ?_
   have hX:deedK b b0 x1 d=(l28,b.due,l29,s210,b.s1,e210):=by
     unfold deedK;(try simp only [hr1,hr2,hr8,hr9,hr10]);(repeat' split)<;>first|rfl|omega|(exfalso;omega)|(simp_all;done)|(simp_all;omega)
   rw [hX] at hj;clear hX;simp only [Prod.mk.injEq] at hj;obtain ⟨rfl,rfl,rfl,rfl,rfl,rfl⟩:=hj
   exact Weak.ren (fun k=>if k=13 then 18 else k) (by refine ⟨?_,?_,?_,?_,?_,trivial⟩<;>first|rfl|(simp only [mps];done)|(congr 3;omega)|(congr 4;omega)|(simp only [lns];rfl)) (by refine ⟨?_,?_,?_,?_,?_,?_,?_,?_,?_,?_,?_,?_,trivial⟩<;>first|rfl|(simp only [mps];done)|(congr 3;omega)|(congr 4;omega)|(simp only [lns];rfl)) rfl
  have hc13':=of_decide_eq_false hc13
  refine AC.goes ttk 2 rfl ?_
  refine AC.cond rfl (fun hc14=>?_) (fun hc14=>?_)
  ·
   have hc14':=of_decide_eq_true hc14
   refine AC.seq ?_
   obtain ⟨x2,hx2⟩:=exget (xs:=b.due) (i:=Int.toNat (b0.shop)) (by first|omega|(simp;done)|(simp;omega))
   refine AC.drawP [0,1,4,6,8,11] [17,0,8,9,10,11,12,13,14,15,16,7,5] mixed rfl rfl ?_
   refine PD.runs (kn:=[]) ttk 7 rfl trivial ?_
   refine PD.op (n':=18) [149,151] [14] rfl rfl (.inl ⟨(Wanted.plain rfl),GOp.cast (g_indexP0 (i:=Int.toNat (b0.shop)) rfl rfl rfl Try.underlying30 sz3 (by first|omega|(simp;done)|(simp;omega)) (by first|omega|(simp;done)|(simp;omega))) rfl⟩) rfl ?_
   refine PD.op (n':=18) [152] [14] rfl rfl (.inl ⟨(Wanted.plain rfl),GOp.cast (g_loadA rfl rfl rfl Try.underlying3 rfl (getmap hx2) rfl) rfl⟩) rfl ?_
   refine PD.runs (kn:=[]) ttk 5 rfl trivial ?_
   refine PD.op (n':=18) [149,151] [14] rfl rfl (.inl ⟨(Wanted.plain rfl),GOp.cast (g_indexP0 (i:=Int.toNat (b0.shop)) rfl rfl rfl Try.underlying30 sz3 (by first|omega|(simp;done)|(simp;omega)) (by first|omega|(simp;done)|(simp;omega))) rfl⟩) rfl ?_
   refine PD.fin [17,0,8,9,10,11,12,13,14,15,16,7,5] rfl rfl rfl rfl (by kernel_rfl) ?_
   refine AL.so [17,0,8,9,10,11,12,13,14,15,16,7,5] (g_storeA (ds:=[(dI (IntKind.i64.wrap (x2 - d.sum)))]) rfl rfl rfl rfl rfl sz3 rfl (Nat.le_of_ble_eq_true rfl) (getmap hx2) rfl (setmap (x':=(IntKind.i64.wrap (x2 - d.sum))) rfl)) rfl ?_
   refine AL.nx ?_
   refine AC.recell (k:=8) (q:=3) (c':=(.s 14 0 1 (((b.due).set (Int.toNat (b0.shop)) (IntKind.i64.wrap (x2 - d.sum))).length))) rfl rfl (by first|rfl|(simp;done)|(congr 1;omega)) rfl ?_
   refine AC.seq ?_
   obtain ⟨l211,e211,hr11⟩:∃ (l211:List Entry) (e211:Int),moveK b.book 0 (50+b0.shop) 1 d.sum=(l211,e211):=⟨_,_,rfl⟩
   refine AC.drawQ [0,1,4,6,8,11] [17,0,8,9,10,11,12,13,14,15,16,7,5] mixed rfl rfl ?_
   refine PW.runs (kn:=[]) ttk 3 rfl trivial ?_
   refine PW.op (n':=18) [162] [] rfl rfl (.inl ⟨(Wanted.plain rfl),GOp.cast (g_binI rfl rfl rfl (wrap_ok (by first|omega|(simp;done)|(simp;omega)))) rfl⟩) rfl ?_
   refine PW.runs (kn:=[]) ttk 4 rfl trivial ?_
   refine PW.op (n':=18) [160,163,167] [8] rfl rfl (.inl ⟨(Wanted.plain rfl),GOp.cast (g_callR0 (rhoOf [8]) (rhoOf [8]) (ms:=((nmL.set 18 (some (vlE b.book))).set 19 (some (cI 0)))) (ms':=((nmL.set 18 (some (vlE l211))).set 19 (some (cI e211)))) (fun x hx=>c_move x hx b.book 0 (50+b0.shop) 1 d.sum l211 e211 hr11) en76 rfl rfl ⟨⟨_,rfl,.inl ⟨rfl,rfl⟩⟩,⟨_,rfl,.inr (.c (.d _))⟩,⟨_,rfl,.inr (.c (.d _))⟩,⟨_,rfl,.inr (.c (.d _))⟩,trivial⟩ rfl rfl rfl rfl rfl rfl rfl trivial rfl rfl rfl rfl rfl rfl rfl rfl rfl rfl rfl rfl rfl) rfl⟩) rfl ?_
   refine PW.fin [0,1,4,6,8,11] [8,17,0,9,10,11,12,13,14,15,16,7,5] rfl rfl (by kernel_rfl) ?_
   refine then_ok ?_
   refine AC.goes ttk 2 rfl ?_
   refine AC.region ?_
   refine AL.runs ttk 2 rfl ?_
   obtain ⟨s212,e212,hr12⟩:∃ (s212:Sender) (e212:Int),sendK b.s1 e211 (⟨0,2,d.n,d.sum⟩:Transfer)=(s212,e212):=⟨_,_,rfl⟩
   refine AL.cn 18 [8,17,0,9,10,11,12,13,14,15,16,7,5] (g_callR0 (rhoOf [8]) (rhoOf [8]) (ms:=(((nmL.set 7 (some (cI b.s1.sent))).set 8 (some (vlT b.s1.kept))).set 19 (some (cI e211)))) (ms':=(((nmL.set 7 (some (cI s212.sent))).set 8 (some (vlT s212.kept))).set 19 (some (cI e212)))) (fun x hx=>c_send1 x hx b.s1 e211 (⟨0,2,d.n,d.sum⟩:Transfer) (by assumption) s212 e212 hr12) en82 rfl rfl ⟨⟨_,rfl,.inl ⟨rfl,rfl⟩⟩,⟨_,rfl,.inr (.c (.d _))⟩,⟨_,rfl,.inr (.g ⟨.d _,.d _,.d _,.d _,trivial⟩)⟩,trivial⟩ rfl rfl rfl rfl rfl rfl rfl trivial rfl rfl rfl rfl rfl rfl rfl rfl rfl rfl rfl rfl rfl) rfl ?_
   refine AL.nil ?_
   refine block_ok ?_
   refine then_ok ?_
   have hX:deedK b b0 x1 d=(b.cards,(b.due).set (Int.toNat (b0.shop)) (IntKind.i64.wrap (x2 - d.sum)),l211,b.s0,s212,e212):=by
     unfold deedK;simp only [List.getD_eq_getElem?_getD,hx2,Option.getD_some];(try simp only [hr1,hr2,hr11,hr12,hx2]);(repeat' split)<;>first|rfl|omega|(exfalso;omega)|(simp_all;done)|(simp_all;omega)
   rw [hX] at hj;clear hX;simp only [Prod.mk.injEq] at hj;obtain ⟨rfl,rfl,rfl,rfl,rfl,rfl⟩:=hj
   exact Weak.ren id (by refine ⟨?_,?_,?_,?_,?_,trivial⟩<;>first|rfl|(simp only [mps];done)|(congr 3;omega)|(congr 4;omega)|(simp only [lns];rfl)) (by refine ⟨?_,?_,?_,?_,?_,?_,?_,?_,?_,?_,?_,?_,trivial⟩<;>first|rfl|(simp only [mps];done)|(congr 3;omega)|(congr 4;omega)|(simp only [lns];rfl)) rfl
  have hc14':=of_decide_eq_false hc14
  refine AC.goes ttk 2 rfl ?_
  refine AC.cond rfl (fun hc15=>?_) (fun hc15=>?_)
  ·
   have hc15':=of_decide_eq_true hc15
   refine AC.seq ?_
   obtain ⟨l213,e213,hr13⟩:∃ (l213:List Card) (e213:Int),shiftK b.cards 0 b0.card 0 d.sum=(l213,e213):=⟨_,_,rfl⟩
   refine AC.drawQ [0,1,4,6,8,10] [0,8,9,10,11,12,13,14,15,16,7,5] mixed rfl rfl ?_
   refine PW.runs (kn:=[]) ttk 7 rfl trivial ?_
   refine PW.op (n':=19) [175,177,181] [13,8] rfl rfl (.inl ⟨(Wanted.plain rfl),GOp.cast (g_callR0 (rhoOf [8,13]) (rhoOf [8,18]) (ms:=((nmL.set 2 (some (.s 1 0 6 b.cards.length))).set 19 (some (cI 0)))) (ms':=((nmL.set 2 (some (.s 1 0 6 l213.length))).set 19 (some (cI e213)))) (fun x hx=>c_shift x hx b.cards 0 b0.card 0 d.sum (by first|omega|(simp;done)|(simp;omega)) l213 e213 hr13) en75 rfl rfl ⟨⟨_,rfl,.inl ⟨rfl,rfl⟩⟩,⟨_,rfl,.inr (.c (.d _))⟩,⟨_,rfl,.inr (.c (.d _))⟩,⟨_,rfl,.inr (.c (.d _))⟩,trivial⟩ rfl rfl rfl rfl rfl rfl rfl ⟨rfl,trivial⟩ rfl rfl rfl rfl rfl rfl rfl rfl rfl rfl rfl rfl rfl) rfl⟩) rfl ?_
   refine PW.fin [0,1,4,6,8,10] [18,8,0,9,10,11,12,14,15,16,7,5] rfl rfl (by kernel_rfl) ?_
   refine then_ok ?_
   refine AC.region ?_
   refine AL.runs ttk 6 rfl ?_
   obtain ⟨l214,e214,hr14⟩:∃ (l214:List Entry) (e214:Int),moveK b.book e213 2 (10+b0.card) d.sum=(l214,e214):=⟨_,_,rfl⟩
   refine AL.cn 19 [8,18,0,9,10,11,12,14,15,16,7,5] (g_callR0 (rhoOf [8]) (rhoOf [8]) (ms:=((nmL.set 18 (some (vlE b.book))).set 19 (some (cI e213)))) (ms':=((nmL.set 18 (some (vlE l214))).set 19 (some (cI e214)))) (fun x hx=>c_move x hx b.book e213 2 (10+b0.card) d.sum l214 e214 hr14) en76 rfl rfl ⟨⟨_,rfl,.inl ⟨rfl,rfl⟩⟩,⟨_,rfl,.inr (.c (.d _))⟩,⟨_,rfl,.inr (.c (.d _))⟩,⟨_,rfl,.inr (.c (.d _))⟩,trivial⟩ rfl rfl rfl rfl rfl rfl rfl trivial rfl rfl rfl rfl rfl rfl rfl rfl rfl rfl rfl rfl rfl) rfl ?_
   refine AL.nil ?_
   refine block_ok ?_
   refine then_ok ?_
   have hX:deedK b b0 x1 d=(l213,b.due,l214,b.s0,b.s1,e214):=by
     unfold deedK;(try simp only [hr1,hr2,hr13,hr14]);(repeat' split)<;>first|rfl|omega|(exfalso;omega)|(simp_all;done)|(simp_all;omega)
   rw [hX] at hj;clear hX;simp only [Prod.mk.injEq] at hj;obtain ⟨rfl,rfl,rfl,rfl,rfl,rfl⟩:=hj
   exact Weak.ren (fun k=>if k=13 then 18 else k) (by refine ⟨?_,?_,?_,?_,?_,trivial⟩<;>first|rfl|(simp only [mps];done)|(congr 3;omega)|(congr 4;omega)|(simp only [lns];rfl)) (by refine ⟨?_,?_,?_,?_,?_,?_,?_,?_,?_,?_,?_,?_,trivial⟩<;>first|rfl|(simp only [mps];done)|(congr 3;omega)|(congr 4;omega)|(simp only [lns];rfl)) rfl
  have hc15':=of_decide_eq_false hc15
  refine AC.goes ttk 2 rfl ?_
  refine AC.cond rfl (fun hc16=>?_) (fun hc16=>?_)
  ·
   have hc16':=of_decide_eq_true hc16
   refine AC.goes ttk 2 rfl ?_
   refine AC.region ?_
   refine AL.runs ttk 2 rfl ?_
   obtain ⟨s215,e215,hr15⟩:∃ (s215:Sender) (e215:Int),sendK b.s0 0 (⟨0,3,d.n,d.sum⟩:Transfer)=(s215,e215):=⟨_,_,rfl⟩
   refine AL.cn 18 [8,17,0,9,10,11,12,13,14,15,16,7,5] (g_callR0 (rhoOf [8]) (rhoOf [8]) (ms:=(((nmL.set 5 (some (cI b.s0.sent))).set 6 (some (vlT b.s0.kept))).set 19 (some (cI 0)))) (ms':=(((nmL.set 5 (some (cI s215.sent))).set 6 (some (vlT s215.kept))).set 19 (some (cI e215)))) (fun x hx=>c_send0 x hx b.s0 0 (⟨0,3,d.n,d.sum⟩:Transfer) (by assumption) s215 e215 hr15) en82 rfl rfl ⟨⟨_,rfl,.inl ⟨rfl,rfl⟩⟩,⟨_,rfl,.inr (.c (.d _))⟩,⟨_,rfl,.inr (.g ⟨.d _,.d _,.d _,.d _,trivial⟩)⟩,trivial⟩ rfl rfl rfl rfl rfl rfl rfl trivial rfl rfl rfl rfl rfl rfl rfl rfl rfl rfl rfl rfl rfl) rfl ?_
   refine AL.nil ?_
   refine block_ok ?_
   refine then_ok ?_
   have hX:deedK b b0 x1 d=(b.cards,b.due,b.book,s215,b.s1,e215):=by
     unfold deedK;(try simp only [hr1,hr2,hr15]);(repeat' split)<;>first|rfl|omega|(exfalso;omega)|(simp_all;done)|(simp_all;omega)
   rw [hX] at hj;clear hX;simp only [Prod.mk.injEq] at hj;obtain ⟨rfl,rfl,rfl,rfl,rfl,rfl⟩:=hj
   exact Weak.ren id (by refine ⟨?_,?_,?_,?_,?_,trivial⟩<;>first|rfl|(simp only [mps];done)|(congr 3;omega)|(congr 4;omega)|(simp only [lns];rfl)) (by refine ⟨?_,?_,?_,?_,?_,?_,?_,?_,?_,?_,?_,?_,trivial⟩<;>first|rfl|(simp only [mps];done)|(congr 3;omega)|(congr 4;omega)|(simp only [lns];rfl)) rfl
  have hc16':=of_decide_eq_false hc16
  refine AC.goes ttk 2 rfl ?_
  refine AC.cond rfl (fun hc17=>?_) (fun hc17=>?_)
  ·
   have hc17':=of_decide_eq_true hc17
   refine AC.seq ?_
   obtain ⟨l216,e216,hr16⟩:∃ (l216:List Card) (e216:Int),shiftK b.cards 0 b0.card 0 (0 - d.sum)=(l216,e216):=⟨_,_,rfl⟩
   refine AC.drawQ [0,1,4,6,8,10] [0,8,9,10,11,12,13,14,15,16,7,5] mixed rfl rfl ?_
   refine PW.runs (kn:=[]) ttk 7 rfl trivial ?_
   refine PW.op (n':=18) [204] [] rfl rfl (.inl ⟨(Wanted.plain rfl),GOp.cast (g_negI rfl rfl (wrap_ok (by first|omega|(simp;done)|(simp;omega)))) rfl⟩) rfl ?_
   refine PW.op (n':=19) [198,200,205] [13,8] rfl rfl (.inl ⟨(Wanted.plain rfl),GOp.cast (g_callR0 (rhoOf [8,13]) (rhoOf [8,18]) (ms:=((nmL.set 2 (some (.s 1 0 6 b.cards.length))).set 19 (some (cI 0)))) (ms':=((nmL.set 2 (some (.s 1 0 6 l216.length))).set 19 (some (cI e216)))) (fun x hx=>c_shift x hx b.cards 0 b0.card 0 (0 - d.sum) (by first|omega|(simp;done)|(simp;omega)) l216 e216 hr16) en75 rfl rfl ⟨⟨_,rfl,.inl ⟨rfl,rfl⟩⟩,⟨_,rfl,.inr (.c (.d _))⟩,⟨_,rfl,.inr (.c (.d _))⟩,⟨_,rfl,.inr (.c (.d _))⟩,trivial⟩ rfl rfl rfl rfl rfl rfl rfl ⟨rfl,trivial⟩ rfl rfl rfl rfl rfl rfl rfl rfl rfl rfl rfl rfl rfl) rfl⟩) rfl ?_
   refine PW.fin [0,1,4,6,8,10] [18,8,0,9,10,11,12,14,15,16,7,5] rfl rfl (by kernel_rfl) ?_
   refine then_ok ?_
   refine AC.region ?_
   refine AL.runs ttk 6 rfl ?_
   obtain ⟨l217,e217,hr17⟩:∃ (l217:List Entry) (e217:Int),moveK b.book e216 (10+b0.card) 2 d.sum=(l217,e217):=⟨_,_,rfl⟩
   refine AL.cn 19 [8,18,0,9,10,11,12,14,15,16,7,5] (g_callR0 (rhoOf [8]) (rhoOf [8]) (ms:=((nmL.set 18 (some (vlE b.book))).set 19 (some (cI e216)))) (ms':=((nmL.set 18 (some (vlE l217))).set 19 (some (cI e217)))) (fun x hx=>c_move x hx b.book e216 (10+b0.card) 2 d.sum l217 e217 hr17) en76 rfl rfl ⟨⟨_,rfl,.inl ⟨rfl,rfl⟩⟩,⟨_,rfl,.inr (.c (.d _))⟩,⟨_,rfl,.inr (.c (.d _))⟩,⟨_,rfl,.inr (.c (.d _))⟩,trivial⟩ rfl rfl rfl rfl rfl rfl rfl trivial rfl rfl rfl rfl rfl rfl rfl rfl rfl rfl rfl rfl rfl) rfl ?_
   refine AL.nil ?_
   refine block_ok ?_
   refine then_ok ?_
   have hX:deedK b b0 x1 d=(l216,b.due,l217,b.s0,b.s1,e217):=by
     unfold deedK;(try simp only [hr1,hr2,hr16,hr17]);(repeat' split)<;>first|rfl|omega|(exfalso;omega)|(simp_all;done)|(simp_all;omega)
   rw [hX] at hj;clear hX;simp only [Prod.mk.injEq] at hj;obtain ⟨rfl,rfl,rfl,rfl,rfl,rfl⟩:=hj
   exact Weak.ren (fun k=>if k=13 then 18 else k) (by refine ⟨?_,?_,?_,?_,?_,trivial⟩<;>first|rfl|(simp only [mps];done)|(congr 3;omega)|(congr 4;omega)|(simp only [lns];rfl)) (by refine ⟨?_,?_,?_,?_,?_,?_,?_,?_,?_,?_,?_,?_,trivial⟩<;>first|rfl|(simp only [mps];done)|(congr 3;omega)|(congr 4;omega)|(simp only [lns];rfl)) rfl
  have hc17':=of_decide_eq_false hc17
  refine AC.skip ?_
  refine block_ok ?_
  refine then_ok ?_
  have hX:deedK b b0 x1 d=(b.cards,b.due,b.book,b.s0,b.s1,0):=by
    unfold deedK;(try simp only [hr1,hr2]);(repeat' split)<;>first|rfl|omega|(exfalso;omega)|(simp_all;done)|(simp_all;omega)
  rw [hX] at hj;clear hX;simp only [Prod.mk.injEq] at hj;obtain ⟨rfl,rfl,rfl,rfl,rfl,rfl⟩:=hj
  exact Weak.ren id (by refine ⟨?_,?_,?_,?_,?_,trivial⟩<;>first|rfl|(simp only [mps];done)|(congr 3;omega)|(congr 4;omega)|(simp only [lns];rfl)) (by refine ⟨?_,?_,?_,?_,?_,?_,?_,?_,?_,?_,?_,?_,trivial⟩<;>first|rfl|(simp only [mps];done)|(congr 3;omega)|(congr 4;omega)|(simp only [lns];rfl)) rfl
 refine AC.seq ?_
 obtain ⟨l218,e218,hr18⟩:∃ (l218:List Record) (e218:Int),noteK b.today je (⟨b0.shop,d.n,d.move,d.sum⟩:Record)=(l218,e218):=⟨_,_,rfl⟩
 refine AC.drawQ [0,1,4,6,8] [0,8,9,10,11,12,13,14,15,16,7,5] mixed rfl rfl ?_
 refine PW.runs (kn:=[]) ttk 16 rfl trivial ?_
 refine PW.op (n':=18) [214,229] [16,8] rfl rfl (.inl ⟨(Wanted.plain rfl),GOp.cast (g_callR0 (rhoOf [8,16]) (rhoOf [8,17]) (ms:=((nmL.set 16 (some (.s 1 0 4 b.today.length))).set 19 (some (cI je)))) (ms':=((nmL.set 16 (some (.s 1 0 4 l218.length))).set 19 (some (cI e218)))) (fun x hx=>c_note x hx b.today je (⟨b0.shop,d.n,d.move,d.sum⟩:Record) (by first|omega|(simp;done)|(simp;omega)) l218 e218 hr18) en83 rfl rfl ⟨⟨_,rfl,.inl ⟨rfl,rfl⟩⟩,⟨_,rfl,.inr (.g ⟨.d _,.d _,.d _,.d _,trivial⟩)⟩,trivial⟩ rfl rfl rfl rfl rfl rfl rfl ⟨rfl,trivial⟩ rfl rfl rfl rfl rfl rfl rfl rfl rfl rfl rfl rfl rfl) rfl⟩) rfl ?_
 refine PW.fin [0,1,4,6,8] [17,8,0,9,10,11,12,13,14,15,7,5] rfl rfl (by kernel_rfl) ?_
 refine then_ok ?_
 refine AC.seq ?_
 refine AC.drawP [0,1,4,6,8] [17,8,0,9,10,11,12,13,14,15,7,5] mixed rfl rfl ?_
 refine PD.runs (kn:=[]) ttk 10 rfl trivial ?_
 refine PD.op (n':=18) [235,239] [15] rfl rfl (.inl ⟨(Wanted.plain rfl),GOp.cast (g_indexP0 (i:=Int.toNat (d.n)) rfl rfl rfl Try.underlying31 sz67 (by first|omega|(simp;done)|(simp;omega)) (by first|omega|(simp;done)|(simp;omega))) rfl⟩) rfl ?_
 refine PD.fin [17,8,0,9,10,11,12,13,14,15,7,5] rfl rfl rfl rfl (by kernel_rfl) ?_
 refine AL.so [17,8,0,9,10,11,12,13,14,15,7,5] (g_storeA (ds:=[(dI b0.card),(dI b0.shop),(dI b0.sum),(dI b0.captured),(dI b0.refunded),(dI b0.disputed),(dI b0.till),(dB b0.shut)]) rfl rfl rfl rfl rfl sz67 rfl (Nat.le_of_ble_eq_true rfl) (getmap hx1) rfl (setmap (x':=b0) rfl)) rfl ?_
 refine AL.nx ?_
 rcases (show e218=0\/¬e218=0 from by omega) with hs18|hs18
 ·
  refine AC.recell (k:=8) (q:=4) (c':=(.s 15 0 8 (((b.auths).set (Int.toNat (d.n)) b0).length))) rfl rfl (by first|rfl|(simp;done)|(congr 1;omega)) rfl ?_
  refine AC.go ttk 2 rfl ?_
  refine AL.cn 22 [0,18,19,20,21,7,5] (g_callM (rhoOf [0,8,9,10,11,12,13,14,15,17]) (rhoOf [0,18,19,20,21]) (c_end_ok (x 17) (x 19) b (⟨b.time,b.down,jcards,jdue,(b.auths).set (Int.toNat (d.n)) b0,js0,js1,b.n0,b.n1,b.w0,b.w1,b.stand,l218,jbook⟩:Bk) e218 (by first|assumption|omega)) en77 rfl rfl ⟨⟨_,rfl,.inl ⟨rfl,rfl⟩⟩,⟨_,rfl,.inl ⟨rfl,rfl⟩⟩,trivial⟩ ⟨rfl,rfl,rfl,rfl,rfl,rfl,rfl,rfl,rfl,rfl,trivial⟩ rfl rfl rfl rfl rfl rfl trivial ⟨⟨trivial,trivial,trivial,trivial,trivial,trivial,trivial,trivial,trivial,trivial,trivial,trivial,trivial,trivial,trivial,trivial,trivial,trivial,trivial,trivial,trivial⟩,(fun _ _ _ _=>trivial),(fun _ _ _ _=>trivial),(fun _ _ _ _=>trivial),(fun _ _ _ _=>trivial),trivial⟩ rfl rfl rfl rfl) rfl ?_
  refine AL.runs ttk 2 rfl ?_
  refine AL.nx ?_
  refine AC.ret ?_
  have hX:becomeB b d=((⟨b.time,b.down,jcards,jdue,(b.auths).set (Int.toNat (d.n)) b0,js0,js1,b.n0,b.n1,b.w0,b.w1,b.stand,l218,jbook⟩:Bk),(⟨e218,0⟩:Answer)):=by
    unfold becomeB;simp only [hdn,Bool.false_eq_true,if_false];rw [if_neg (by omega),hx1];dsimp only;simp only [hr0,hj0];unfold doneB endB;simp only [hr18];(repeat' split)<;>first|rfl|omega|(exfalso;omega)|(simp_all;done)|(simp_all;omega)
  rw [hX] at hr;clear hX
  simp only [Prod.mk.injEq] at hr;obtain ⟨rfl,rfl⟩:=hr
  refine retQ_go ttk [0,18,19,20,21,5] 5 rfl rfl rfl rfl rfl rfl ?_ ?_
  all_goals first|rfl|(simp [ufs,bkL,rwL];done)|(simp [ufs,bkL,rwL];omega)
 refine AC.recell (k:=8) (q:=4) (c':=(.s 15 0 8 (((b.auths).set (Int.toNat (d.n)) b0).length))) rfl rfl (by first|rfl|(simp;done)|(congr 1;omega)) rfl ?_
 refine AC.go ttk 2 rfl ?_
 refine AL.cn 22 [0,18,19,20,21,7,5] (g_callM (rhoOf [0,8,9,10,11,12,13,14,15,17]) (rhoOf [0,18,19,20,21]) (c_end_no (x 17) (x 19) b (⟨b.time,b.down,jcards,jdue,(b.auths).set (Int.toNat (d.n)) b0,js0,js1,b.n0,b.n1,b.w0,b.w1,b.stand,l218,jbook⟩:Bk) e218 (by first|assumption|omega)) en77 rfl rfl ⟨⟨_,rfl,.inl ⟨rfl,rfl⟩⟩,⟨_,rfl,.inl ⟨rfl,rfl⟩⟩,trivial⟩ ⟨rfl,rfl,rfl,rfl,rfl,rfl,rfl,rfl,rfl,rfl,trivial⟩ rfl rfl rfl rfl rfl rfl trivial ⟨⟨trivial,trivial,trivial,trivial,trivial,trivial,trivial,trivial,trivial,trivial,trivial,trivial,trivial,trivial,trivial,trivial,trivial,trivial,trivial,trivial,trivial⟩,(fun _ _ _ _=>trivial),(fun _ _ _ _=>trivial),(fun _ _ _ _=>trivial),(fun _ _ _ _=>trivial),trivial⟩ rfl rfl rfl rfl) rfl ?_
 refine AL.runs ttk 2 rfl ?_
 refine AL.nx ?_
 refine AC.ret ?_
 have hX:becomeB b d=(b,(⟨e218,0⟩:Answer)):=by
   unfold becomeB;simp only [hdn,Bool.false_eq_true,if_false];rw [if_neg (by omega),hx1];dsimp only;simp only [hr0,hj0];unfold doneB endB;simp only [hr18];(repeat' split)<;>first|rfl|omega|(exfalso;omega)|(simp_all;done)|(simp_all;omega)
 rw [hX] at hr;clear hX
 simp only [Prod.mk.injEq] at hr;obtain ⟨rfl,rfl⟩:=hr
 refine retQ_go ttk [0,18,19,20,21,5] 5 rfl rfl rfl rfl rfl rfl ?_ ?_
 all_goals first|rfl|(simp [ufs,bkL,rwL];done)|(simp [ufs,bkL,rwL];omega)
set_option maxRecDepth 100000 in
set_option maxHeartbeats 4000000 in
theorem c_becomeD (x:Nat->Value) (hx:∀ i,(x i).oneCell'=true) (b:Bk) (d:Deed) (ok:Okb b) (hdn:b.down=true) (b2:Bk) (a2:Answer) (hr:becomeB b d=(b2,a2)):FnE Try.prog 64 [(.c (.p 0 0 0 0)),(.c (.q (rDeed d) 0))] [(0,(.box 98 (bkL b 1 2 3 4 (.d (.v (x 17))) (.d (.v (x 19)))))),(1,(alC b.cards)),(2,(alI b.due)),(3,(alP b.auths)),(4,(alR b.today))] [0] (.v (.g [cI a2.err,cI a2.auth])) [(0,(.box 98 (bkL b2 1 2 3 4 (.d (.v (x 17))) (.d (.v (x 19)))))),(1,(alC b2.cards)),(2,(alI b2.due)),(3,(alP b2.auths)),(4,(alR b2.today))]:=by
 refine FnE.mk 246 [(0,(aC (.p 0 0 0 0))),(1,(aC (.q (rDeed d) 0)))] 5 Try.func64 rfl rfl rfl rfl rfl rfl rfl rfl rfl ?_
 intro W0 F0 T0 pg
 obtain ⟨okt,okc,okd,oka,oky,okw0,okw1,okp,okv,okk0,okk1,okg,okl0,okl1,okp0,okp1,okn0,okn1,okq⟩:=id ok
 refine AC.goes ttk 1 rfl ?_
 refine AC.seq ?_
 refine AC.goes ttk 5 rfl ?_
 refine AC.cond rfl (fun _=>?_) (fun hno=>absurd (hdn.symm.trans hno) (by decide))
 refine AC.goes ttk 2 rfl ?_
 refine AC.ret ?_
 refine then_ret ?_
 have hX:becomeB b d=(b,(⟨12,0⟩:Answer)):=by
   unfold becomeB;rw [if_pos hdn]
 rw [hX] at hr;clear hX
 simp only [Prod.mk.injEq] at hr;obtain ⟨rfl,rfl⟩:=hr
 refine retQ_go ttk [0,1,2,3,4,5] 5 rfl rfl rfl rfl rfl rfl ?_ ?_
 all_goals first|rfl|(simp [ufs,bkL,rwL];done)|(simp [ufs,bkL,rwL];omega)
theorem c_become (x:Nat->Value) (hx:∀ i,(x i).oneCell'=true) (b:Bk) (d:Deed) (ok:Okb b) (b2:Bk) (a2:Answer) (hr:becomeB b d=(b2,a2)):FnE Try.prog 64 [(.c (.p 0 0 0 0)),(.c (.q (rDeed d) 0))] [(0,(.box 98 (bkL b 1 2 3 4 (.d (.v (x 17))) (.d (.v (x 19)))))),(1,(alC b.cards)),(2,(alI b.due)),(3,(alP b.auths)),(4,(alR b.today))] [0] (.v (.g [cI a2.err,cI a2.auth])) [(0,(.box 98 (bkL b2 1 2 3 4 (.d (.v (x 17))) (.d (.v (x 19)))))),(1,(alC b2.cards)),(2,(alI b2.due)),(3,(alP b2.auths)),(4,(alR b2.today))]:=by
  cases hdn:b.down
  ·exact c_becomeU x hx b d ok hdn b2 a2 hr
  ·exact c_becomeD x hx b d ok hdn b2 a2 hr
end Go.Proofs.Ytegepioggeggaaa.Dev
namespace Go.Proofs.Ytegepioggeggaaa.Dev
theorem mem_set_or {α:Type} {l:List α} {n:Nat} {x y:α} (h:y∈l.set n x):y∈l\/y=x:=List.mem_or_eq_of_mem_set h
theorem shiftK_right {l:List Card} {e k x y:Int} (h:∀ c∈l,wrongC c=0):∀ c∈(shiftK l e k x y).1,wrongC c=0:=by
 unfold shiftK
 split
 ·exact h
 ·rename_i c hc
  split
  ·rename_i h0
   intro z hz
   rcases mem_set_or hz with hz|rfl
   ·exact h z hz
   ·have he:(shiftC c x y).2=0:=by unfold failK at h0;split at h0<;>omega
    rcases shift_of (show shiftC c x y=((shiftC c x y).1,(shiftC c x y).2) from rfl) with ⟨h1,_⟩|h1
    ·exact absurd he h1
    ·exact h1.2.2.2.2.2.2.2
  ·exact h
theorem lateL_ok {time:Int} {n m:Nat}:∀ (l:List Auth) (i:Nat) (cards:List Card) (auths:List Auth) (e:Int),(∀ a∈l,wrongAuth a=0/\0<=a.card/\a.card < n/\0<=a.shop/\a.shop < m)->
  (∀ a∈auths,wrongAuth a=0/\0<=a.card/\a.card < n/\0<=a.shop/\a.shop < m)->(∀ c∈cards,wrongC c=0)->
  (∀ c∈(lateL time l i cards auths e).1,wrongC c=0)/\(lateL time l i cards auths e).1.length=cards.length/\(lateL time l i cards auths e).2.1.length=auths.length/\
  (∀ a∈(lateL time l i cards auths e).2.1,wrongAuth a=0/\0<=a.card/\a.card < n/\0<=a.shop/\a.shop < m)
 |[],_,_,_,_,_,h2,h3=>⟨h3,rfl,rfl,h2⟩
 |a::l,i,cards,auths,e,h1,h2,h3=>by
  have ha:=h1 a List.mem_cons_self
  obtain ⟨r1,r2,r3,r4⟩:=lateL_ok l (i+1) (shiftK cards e a.card (holdAuth (lateAuth a time) - holdAuth a) 0).1 (auths.set i (lateAuth a time)) (shiftK cards e a.card (holdAuth (lateAuth a time) - holdAuth a) 0).2
   (fun x hx=>h1 x (List.mem_cons_of_mem _ hx)) (fun x hx=>by
    rcases mem_set_or hx with hx|rfl
    ·exact h2 x hx
    ·exact ⟨late_ok ha.1,ha.2⟩) (shiftK_right h3)
  refine ⟨r1,r2.trans (shiftK_len _ _ _ _ _),r3.trans (List.length_set ..),r4⟩
theorem Okb.late {b:Bk} (h:Okb b):Okb (lateB b):=by
 unfold lateB
 split
 ·obtain ⟨r1,r2,r3,r4⟩:=lateL_ok (time:=b.time) (n:=b.cards.length) (m:=b.due.length) b.auths 0 b.cards b.auths 0 h.perm h.perm h.right
  exact ⟨h.time,by rw [r2];exact h.cards,h.due,by rw [r3];exact h.auths,h.today,h.w0,h.w1,by dsimp only;rw [r2];exact r4,by dsimp only;rw [r2];exact h.adv,by dsimp only;rw [r3];exact h.k0,by dsimp only;rw [r3];exact h.k1,r1,h.l0,h.l1,by dsimp only;rw [r3];exact h.p0,by dsimp only;rw [r3];exact h.p1,h.n0,h.n1,h.calm⟩
 ·exact h
theorem Okb.endB {b c:Bk} {e:Int} (h:Okb b) (hc:e=0->Okb c):Okb (endB b c e).1:=by
 unfold Dev.endB;split
 ·exact hc (by assumption)
 ·exact h
theorem failK_zero {e x:Int} (h:failK e x=0):e=0/\x=0:=by unfold failK at h;split at h<;>omega
theorem moveK_zero {l:List Entry} {e s d n:Int} (h:(moveK l e s d n).2=0):e=0/\(moveB l s d n).2=0/\(moveK l e s d n).1=(moveB l s d n).1:=by
 unfold moveK at h ⊢
 split at h
 ·rename_i h1;rw [if_pos h1];have:=failK_zero h1;exact ⟨this.1,this.2,rfl⟩
 ·rename_i h1;exact absurd h h1
theorem Okb.cardsBook {b:Bk} (h:Okb b) {cs:List Card} {bk:List Entry} (h1:∀ c∈cs,wrongC c=0) (h2:cs.length=b.cards.length):Okb {b with cards:=cs,book:=bk}:=
 ⟨h.time,by rw [h2];exact h.cards,h.due,h.auths,h.today,h.w0,h.w1,by dsimp only;rw [h2];exact h.perm,by dsimp only;rw [h2];exact h.adv,h.k0,h.k1,h1,h.l0,h.l1,h.p0,h.p1,h.n0,h.n1,h.calm⟩
theorem Okb.load {b:Bk} (h:Okb b) (d:Deed):Okb (loadB b d).1:=by
 unfold loadB
 split
 ·exact h
 split
 ·exact h
 ·exact h.endB fun _=>h.cardsBook (shiftK_right h.right) (shiftK_len _ _ _ _ _)
theorem Okb.dueBook {b:Bk} (h:Okb b) {due:List Int} {bk:List Entry} (h2:due.length=b.due.length):Okb {b with due:=due,book:=bk}:=
 ⟨h.time,h.cards,by rw [h2];exact h.due,h.auths,h.today,h.w0,h.w1,by dsimp only;rw [h2];exact h.perm,by dsimp only;rw [h2];exact h.adv,h.k0,h.k1,h.right,h.l0,h.l1,h.p0,h.p1,h.n0,h.n1,h.calm⟩
theorem Okb.pay {b:Bk} (h:Okb b) (d:Deed):Okb (payB b d).1:=by
 unfold payB
 split
 ·exact h
 split
 ·exact h
 ·exact h.endB fun _=>h.dueBook (List.length_set ..)
theorem Okb.ticks {b:Bk} (h:Okb b) (d:Deed):Okb (tickB b d).1:=by
 unfold tickB
 split
 ·exact h
 ·have h1:Okb {b with time:=b.time+d.sum}:=by have:=h.time;exact h.tick (by omega) (by omega)
  dsimp only
  split
  ·exact h1
  ·exact h1.late
theorem packs_mem {l:List Packet} {ks:List Transfer} {n:Int} {p:Packet} (h:p∈packs l ks n):p∈l\/(∃ t∈ks,p=⟨t,-1⟩)\/p=⟨⟨0,0,0,0⟩,n⟩:=by
 unfold packs at h
 simp only [List.mem_append,List.mem_map,List.mem_singleton] at h
 rcases h with (h|⟨t,ht,rfl⟩)|h
 ·exact .inl h
 ·exact .inr (.inl ⟨t,ht,rfl⟩)
 ·exact .inr (.inr h)
structure Okw (b:Bk) (n:Nat) (w:List Packet):Prop where
 len:w.length<=60
 own:∀ p∈w,p.seen < 0->InI p.transfer.number/\0<=p.transfer.auth/\p.transfer.auth < n
theorem Okb.ways {b:Bk} (h:Okb b) {v0 v1:List Packet} (h0:Okw b b.auths.length v0) (h1:Okw b b.auths.length v1):Okb {b with w0:=v0,w1:=v1}:=
 ⟨h.time,h.cards,h.due,h.auths,h.today,h0.len,h1.len,h.perm,h.adv,h.k0,h.k1,h.right,h.l0,h.l1,h0.own,h1.own,h.n0,h.n1,h.calm⟩
theorem sendQ_ok {b:Bk} {w:List Packet} {ks:List Transfer} {n:Int} (hn:0<=n) (h:Okw b b.auths.length w) (hk:∀ t∈ks,InI t.number/\0<=t.auth/\t.auth < b.auths.length):Okw b b.auths.length (sendQ w ks n).1:=by
 unfold sendQ
 split
 ·exact h
 ·refine ⟨by dsimp only;omega,fun p hp hs=>?_⟩
  rcases packs_mem hp with hp|⟨t,ht,rfl⟩|rfl
  ·exact h.own p hp hs
  ·exact hk t ht
  ·simp at hs;omega
theorem Okb.send {b:Bk} (h:Okb b) (d:Deed):Okb {b with w0:=(sendW b.s0 b.s1 b.n0 b.n1 b.w0 b.w1 d).1,w1:=(sendW b.s0 b.s1 b.n0 b.n1 b.w0 b.w1 d).2.1}:=by
 have h0:Okw b b.auths.length b.w0:=⟨h.w0,h.p0⟩
 have h1:Okw b b.auths.length b.w1:=⟨h.w1,h.p1⟩
 unfold sendW
 split
 ·exact h.ways h0 (sendQ_ok h.n0 h1 h.k0)
 split
 ·exact h.ways (sendQ_ok h.n1 h0 h.k1) h1
 ·exact h.ways h0 h1
theorem sendK_ok {s:Sender} {e:Int} {t:Transfer} {n:Nat} (h:∀ t∈s.kept,InI t.number/\0<=t.auth/\t.auth < n) (hl:s.kept.length<=40) (ht:0<=t.auth/\t.auth < n):
  (∀ u∈(sendK s e t).1.kept,InI u.number/\0<=u.auth/\u.auth < n)/\(sendK s e t).1.kept.length<=40:=by
 unfold sendK
 split
 ·rename_i h0
  have he:=(failK_zero h0).2
  unfold putS at he
  split at he
  ·rename_i h1;exact absurd he h1
  split at he
  ·rename_i h1;exact absurd he h1
  ·rename_i h1 h2
   have hp:(putS s t).1=outS s t:=by unfold putS;rw [if_neg h1,if_neg h2]
   have hw:(wrongSF (outS s t)).err=0:=by omega
   have hr:=rightS hw
   dsimp only
   rw [hp]
   refine ⟨fun x hx=>?_,hr.1⟩
   rcases List.mem_append.1 hx with hx|hx
   ·exact h x hx
   ·obtain rfl:=List.mem_singleton.1 hx
    exact ⟨by have:=hr.2.1;have:=hr.2.2.1;constructor<;>simp only [outS,List.length_append] at *<;>omega,ht⟩
 ·exact ⟨h,hl⟩
theorem noteK_len {l:List Record} {e:Int} {r:Record} (h:l.length<=100):(noteK l e r).1.length<=100:=by
 unfold noteK
 split
 ·exact h
 ·rw [List.length_append,List.length_singleton];omega
theorem noteK_zero {l:List Record} {e:Int} {r:Record} (h:(noteK l e r).2=0):e=0/\l.length≠100/\(noteK l e r).1=l++[r]:=by
 unfold noteK at h ⊢
 split at h
 ·have:=(failK_zero h).2;omega
 ·rename_i h1;rw [if_neg h1];exact ⟨h,h1,rfl⟩
structure Okk (n:Nat) (s:Sender):Prop where
 own:∀ t∈s.kept,InI t.number/\0<=t.auth/\t.auth < n
 len:s.kept.length<=40
theorem Okb.k00 {b:Bk} (h:Okb b):Okk b.auths.length b.s0:=⟨h.k0,h.l0⟩
theorem Okb.k11 {b:Bk} (h:Okb b):Okk b.auths.length b.s1:=⟨h.k1,h.l1⟩
theorem Okk.send {n:Nat} {s:Sender} {e:Int} {t:Transfer} (h:Okk n s) (ht:0<=t.auth/\t.auth < n):Okk n (sendK s e t).1:=⟨(sendK_ok h.own h.len ht).1,(sendK_ok h.own h.len ht).2⟩
theorem deedK_ok {b:Bk} (h:Okb b) (a old:Auth) (d:Deed) (hn:0<=d.n/\d.n < b.auths.length):
  (∀ c∈(deedK b a old d).1,wrongC c=0)/\(deedK b a old d).1.length=b.cards.length/\(deedK b a old d).2.1.length=b.due.length/\
  Okk b.auths.length (deedK b a old d).2.2.2.1/\Okk b.auths.length (deedK b a old d).2.2.2.2.1:=by
 unfold deedK
 have hc:∀ e k x y,(∀ c∈(shiftK b.cards e k x y).1,wrongC c=0)/\(shiftK b.cards e k x y).1.length=b.cards.length:=fun e k x y=>⟨shiftK_right h.right,shiftK_len _ _ _ _ _⟩
 split
 ·exact ⟨(hc ..).1,(hc ..).2,rfl,h.k00,h.k11⟩
 split
 ·exact ⟨(hc ..).1,(hc ..).2,rfl,h.k00.send hn,h.k11⟩
 split
 ·exact ⟨h.right,rfl,List.length_set ..,h.k00,h.k11.send hn⟩
 split
 ·exact ⟨(hc ..).1,(hc ..).2,rfl,h.k00,h.k11⟩
 split
 ·exact ⟨h.right,rfl,rfl,h.k00.send hn,h.k11⟩
 split
 ·exact ⟨(hc ..).1,(hc ..).2,rfl,h.k00,h.k11⟩
 ·exact ⟨h.right,rfl,rfl,h.k00,h.k11⟩
theorem Okb.become {b:Bk} (h:Okb b) (d:Deed):Okb (becomeB b d).1:=by
 unfold becomeB
 split
 ·exact h
 split
 ·exact h
 rename_i hd hn
 have hn:0<=d.n/\d.n < b.auths.length:=by omega
 split
 ·exact h
 rename_i old ho
 split
 ·exact h
 rename_i hm
 split
 ·exact h
 have hm:moveAuth old d.move d.sum=((moveAuth old d.move d.sum).1,0):=Prod.ext rfl (by dsimp only;omega)
 obtain ⟨m1,m2,m3,m4,_⟩:=moveAuth_ok hm
 obtain ⟨r1,r2,r3,r4,r5⟩:=deedK_ok h (moveAuth old d.move d.sum).1 old d hn
 have hp:=h.perm old (List.mem_of_getElem? ho)
 unfold doneB
 refine h.endB fun _=>⟨h.time,by rw [r2];exact h.cards,by rw [r3];exact h.due,by rw [List.length_set];exact h.auths,noteK_len h.today,h.w0,h.w1,fun a ha=>?_,by dsimp only;rw [r2,r3];exact h.adv,by dsimp only;rw [List.length_set];exact r4.own,by dsimp only;rw [List.length_set];exact r5.own,r1,r4.len,r5.len,by dsimp only;rw [List.length_set];exact h.p0,by dsimp only;rw [List.length_set];exact h.p1,h.n0,h.n1,h.calm⟩
 dsimp only
 rw [r2,r3]
 rcases mem_set_or ha with ha|rfl
 ·exact h.perm a ha
 ·exact ⟨m2,by rw [m3,m4];exact hp.2⟩
theorem new_ok {card shop n time:Int} (h:(newAuth card shop n time).2=0):wrongAuth (newAuth card shop n time).1=0/\(newAuth card shop n time).1=⟨card,shop,n,0,0,0,time+100,false⟩/\¬(n < 1\/n > 1000000\/time < 0\/time > 1000000\/card < 0\/card > 7\/shop < 0\/shop > 7):=by
 unfold newAuth at h ⊢
 split at h
 ·cases h
 ·rename_i h1;rw [if_neg h1];exact ⟨rightAuth' (by dsimp only;omega),rfl,h1⟩
theorem give_len {s:Stand} {a:Advice} (h:(giveStand s a).2=0):(giveStand s a).1.advices=s.advices++[a]:=by
 unfold giveStand at h ⊢
 split at h
 ·rename_i h1;exact absurd h h1
 split at h
 ·cases h
 split at h
 ·cases h
 split at h
 ·cases h
 ·rename_i h1 h2 h3 h4;rw [if_neg h1,if_neg h2,if_neg h3,if_neg h4]
theorem downE_zero {e:Int} (h:downE e=0):e=0:=by unfold downE at h;split at h<;>omega
theorem Okb.asks {b:Bk} (h:Okb b) (d:Deed):Okb (askB b d).1:=by
 unfold askB
 split
 ·exact h
 rename_i hn
 have hlen:∀ a∈b.stand.advices++[(⟨d.n,d.shop,d.sum,b.time⟩:Advice)],0<=a.card/\a.card < b.cards.length/\0<=a.shop/\a.shop < b.due.length:=fun a ha=>by
  rcases List.mem_append.1 ha with ha|ha
  ·exact h.adv a ha
  ·obtain rfl:=List.mem_singleton.1 ha;dsimp only;omega
 split
 ·split
  ·exact h
  split
  ·exact h
  rename_i h1 h2
  have he:=downE_zero (show downE (giveStand b.stand ⟨d.n,d.shop,d.sum,b.time⟩).2=0 by omega)
  have hg:=give_len he
  exact ⟨h.time,h.cards,h.due,by dsimp only;omega,h.today,h.w0,h.w1,h.perm,by dsimp only;rw [hg];exact hlen,h.k0,h.k1,h.right,h.l0,h.l1,h.p0,h.p1,h.n0,h.n1,fun hf=>by dsimp only at hf;simp_all⟩
 split
 ·exact h
 split
 ·exact h
 split
 ·exact h
 rename_i h1 h2 h3 c hc
 split
 ·exact h
 rename_i h4
 obtain ⟨w1,w2,w3⟩:=new_ok (show (newAuth d.n d.shop d.sum b.time).2=0 by omega)
 have hcr:wrongC (allowC c d.sum b.time).1=0:=by
  rcases allow_of (show allowC c d.sum b.time=((allowC c d.sum b.time).1,(allowC c d.sum b.time).2) from rfl) with ⟨h5,_⟩|⟨h5,h6,h7,h8,h9,h10,h11,l,h12,h13⟩
  ·exact absurd h5 (by omega)
  ·rw [h13];have hr:=rightC h6;exact rightC' (by dsimp only;omega) hr.2.2.2.2.1 (add_right h12)
 have hq:=h.calm (by cases hd:b.down with|true=>exact absurd hd (by assumption)|false=>rfl)
 have hl:b.auths.length+1<=30:=by have:=h.auths;rw [hq] at this;simp only [List.length_nil] at this;omega
 have hk:∀ {n:Int},n < (b.auths.length:Int)->n < ((b.auths++[(newAuth d.n d.shop d.sum b.time).1]).length:Int):=fun hn=>by rw [List.length_append,List.length_singleton];omega
 refine ⟨h.time,by rw [List.length_set];exact h.cards,h.due,by dsimp only;rw [hq,List.length_append,List.length_singleton];exact hl,h.today,h.w0,h.w1,fun a ha=>?_,by dsimp only;rw [List.length_set];exact h.adv,
  fun t ht=>⟨(h.k0 t ht).1,(h.k0 t ht).2.1,hk (h.k0 t ht).2.2⟩,fun t ht=>⟨(h.k1 t ht).1,(h.k1 t ht).2.1,hk (h.k1 t ht).2.2⟩,fun x hx=>?_,h.l0,h.l1,
  fun p hp hs=>⟨(h.p0 p hp hs).1,(h.p0 p hp hs).2.1,hk (h.p0 p hp hs).2.2⟩,fun p hp hs=>⟨(h.p1 p hp hs).1,(h.p1 p hp hs).2.1,hk (h.p1 p hp hs).2.2⟩,h.n0,h.n1,h.calm⟩
 ·dsimp only at ha ⊢
  rw [List.length_set]
  rcases List.mem_append.1 ha with ha|ha
  ·exact h.perm a ha
  ·obtain rfl:=List.mem_singleton.1 ha
   exact ⟨w1,by rw [w2];dsimp only;omega⟩
 ·rcases mem_set_or hx with hx|rfl
  ·exact h.right x hx
  ·exact hcr
theorem keepL_sub {α:Type} {p:α->Bool} {l:List α} {x:α} (h:x∈keepL p l):x∈l:=(List.mem_filter.1 h).1
theorem Okk.back {n:Nat} {s:Sender} (h:Okk n s) {seen:Int} (hb:(backS s seen).2=0):Okk n (backS s seen).1:=by
 rcases back_of (show backS s seen=((backS s seen).1,(backS s seen).2) from rfl) with ⟨h1,_⟩|⟨_,_,_,_,h2⟩
 ·exact absurd hb h1
 ·rw [h2];exact ⟨fun t ht=>h.own t (keepL_sub ht),Nat.le_trans (List.length_filter_le ..) h.len⟩
theorem takeK_ok {auths:List Auth} {due:List Int} {cards:List Card} {book:List Entry} {e:Int} {t:Transfer} (h:∀ c∈cards,wrongC c=0):
  (takeK auths due cards book e t).1.length=due.length/\(∀ c∈(takeK auths due cards book e t).2.1,wrongC c=0)/\(takeK auths due cards book e t).2.1.length=cards.length:=by
 unfold takeK
 split
 ·exact ⟨rfl,h,rfl⟩
 split
 ·exact ⟨List.length_set ..,h,rfl⟩
 split
 ·exact ⟨rfl,shiftK_right h,shiftK_len _ _ _ _ _⟩
 split
 ·exact ⟨List.length_set ..,h,rfl⟩
 ·exact ⟨rfl,h,rfl⟩
theorem takeS_ge {n:Int} {t:Transfer} (h:0<=n):0<=(takeS n t).1:=by unfold takeS;split<;>(dsimp only;omega)
theorem drop_mem {α:Type} {l:List α} {n:Nat} {x:α} (h:x∈l.drop n):x∈l:=List.mem_of_mem_drop h
theorem Okb.money {b:Bk} (h:Okb b) {cs:List Card} {due:List Int} {bk:List Entry} (h1:∀ c∈cs,wrongC c=0) (h2:cs.length=b.cards.length) (h3:due.length=b.due.length):Okb {b with cards:=cs,due:=due,book:=bk}:=
 ⟨h.time,by rw [h2];exact h.cards,by rw [h3];exact h.due,h.auths,h.today,h.w0,h.w1,by dsimp only;rw [h2,h3];exact h.perm,by dsimp only;rw [h2,h3];exact h.adv,h.k0,h.k1,h1,h.l0,h.l1,h.p0,h.p1,h.n0,h.n1,h.calm⟩
theorem Okb.way0 {b:Bk} (h:Okb b):Okb {b with w0:=b.w0.drop 1}:=
 ⟨h.time,h.cards,h.due,h.auths,h.today,by dsimp only;rw [List.length_drop];have:=h.w0;omega,h.w1,h.perm,h.adv,h.k0,h.k1,h.right,h.l0,h.l1,fun p hp=>h.p0 p (drop_mem hp),h.p1,h.n0,h.n1,h.calm⟩
theorem Okb.way1 {b:Bk} (h:Okb b):Okb {b with w1:=b.w1.drop 1}:=
 ⟨h.time,h.cards,h.due,h.auths,h.today,h.w0,by dsimp only;rw [List.length_drop];have:=h.w1;omega,h.perm,h.adv,h.k0,h.k1,h.right,h.l0,h.l1,h.p0,fun p hp=>h.p1 p (drop_mem hp),h.n0,h.n1,h.calm⟩
theorem Okb.setS0 {b:Bk} (h:Okb b) {s:Sender} (hs:Okk b.auths.length s):Okb {b with s0:=s}:=
 ⟨h.time,h.cards,h.due,h.auths,h.today,h.w0,h.w1,h.perm,h.adv,hs.own,h.k1,h.right,hs.len,h.l1,h.p0,h.p1,h.n0,h.n1,h.calm⟩
theorem Okb.setS1 {b:Bk} (h:Okb b) {s:Sender} (hs:Okk b.auths.length s):Okb {b with s1:=s}:=
 ⟨h.time,h.cards,h.due,h.auths,h.today,h.w0,h.w1,h.perm,h.adv,h.k0,hs.own,h.right,h.l0,hs.len,h.p0,h.p1,h.n0,h.n1,h.calm⟩
theorem Okb.setN0 {b:Bk} (h:Okb b) {n:Int} (hn:0<=n):Okb {b with n0:=n}:=
 ⟨h.time,h.cards,h.due,h.auths,h.today,h.w0,h.w1,h.perm,h.adv,h.k0,h.k1,h.right,h.l0,h.l1,h.p0,h.p1,hn,h.n1,h.calm⟩
theorem Okb.setN1 {b:Bk} (h:Okb b) {n:Int} (hn:0<=n):Okb {b with n1:=n}:=
 ⟨h.time,h.cards,h.due,h.auths,h.today,h.w0,h.w1,h.perm,h.adv,h.k0,h.k1,h.right,h.l0,h.l1,h.p0,h.p1,h.n0,hn,h.calm⟩
theorem Okb.arrives0 {b:Bk} (h:Okb b) (d:Deed):Okb (arrive0 b d).1:=by
 unfold arrive0
 split
 ·exact h
 split
 ·exact h.way0
 split
 ·split
  ·rename_i hb;exact h.way0.setS0 (h.k00.back hb)
  ·exact h
 split
 ·obtain ⟨r1,r2,r3⟩:=takeK_ok (auths:=b.auths) (due:=b.due) (book:=b.book) (e:=0) (t:=(by assumption:Packet).transfer) h.right
  exact h.endB fun _=>(h.way0.setN0 (takeS_ge h.n0)).money r2 r3 r1
 ·exact h.way0.setN0 (takeS_ge h.n0)
theorem Okb.arrives1 {b:Bk} (h:Okb b) (d:Deed):Okb (arrive1 b d).1:=by
 unfold arrive1
 split
 ·exact h
 split
 ·exact h.way1
 split
 ·split
  ·rename_i hb;exact h.way1.setS1 (h.k11.back hb)
  ·exact h
 split
 ·obtain ⟨r1,r2,r3⟩:=takeK_ok (auths:=b.auths) (due:=b.due) (book:=b.book) (e:=0) (t:=(by assumption:Packet).transfer) h.right
  exact h.endB fun _=>(h.way1.setN1 (takeS_ge h.n1)).money r2 r3 r1
 ·exact h.way1.setN1 (takeS_ge h.n1)
theorem Okb.arrive {b:Bk} (h:Okb b) (d:Deed):Okb (arriveB b d).1:=by
 unfold arriveB
 split
 ·exact h.arrives0 d
 split
 ·exact h.arrives1 d
 ·exact h
theorem forceC_right {c:Card} {n:Int} (h:(forceC c n).2=0):wrongC (forceC c n).1=0/\(forceC c n).1=⟨c.money,c.held+n,c.pace,c.uses⟩/\wrongC c=0/\1<=n/\n<=1000000:=by
 unfold forceC at h ⊢
 split at h
 ·rename_i h1;exact absurd h h1
 split at h
 ·cases h
 ·rename_i h1 h2
  rw [if_neg h1,if_neg h2]
  have hw:wrongC c=0:=by omega
  have hr:=rightC hw
  exact ⟨rightC' (by dsimp only;omega) hr.2.2.2.2.1 hr.2.2.2.2.2,rfl,hw,by omega,by omega⟩
theorem upL_ok {n m:Nat}:∀ (l:List Advice) (cs:List Card) (xs:List Auth),(∀ a∈l,0<=a.card/\a.card < n/\0<=a.shop/\a.shop < m)->cs.length=n->
  (∀ a∈xs,wrongAuth a=0/\0<=a.card/\a.card < n/\0<=a.shop/\a.shop < m)->(∀ c∈cs,wrongC c=0)->
  (∀ c∈(upL l cs xs).1,wrongC c=0)/\(upL l cs xs).1.length=n/\(∀ a∈(upL l cs xs).2.1,wrongAuth a=0/\0<=a.card/\a.card < n/\0<=a.shop/\a.shop < m)/\xs.length<=(upL l cs xs).2.1.length/\(upL l cs xs).2.1.length<=xs.length+l.length
 |[],cs,xs,_,h2,h3,h4=>⟨h4,h2,h3,Nat.le_refl _,Nat.le_refl _⟩
 |x::l,cs,xs,h1,h2,h3,h4=>by
  unfold upL
  split
  ·exact ⟨h4,h2,h3,Nat.le_refl _,by dsimp only;omega⟩
  rename_i e1
  split
  ·exact ⟨h4,h2,h3,Nat.le_refl _,by dsimp only;omega⟩
  rename_i c hc
  split
  ·exact ⟨h4,h2,h3,Nat.le_refl _,by dsimp only;omega⟩
  rename_i e2
  have hx:=h1 x List.mem_cons_self
  obtain ⟨w1,w2,w3⟩:=new_ok (show (newAuth x.card x.shop x.sum x.time).2=0 by omega)
  obtain ⟨f1,_⟩:=forceC_right (show (forceC c x.sum).2=0 by omega)
  obtain ⟨r1,r2,r3,r4,r5⟩:=upL_ok l (cs.set x.card.toNat (forceC c x.sum).1) (xs++[(newAuth x.card x.shop x.sum x.time).1]) (fun a ha=>h1 a (List.mem_cons_of_mem _ ha)) ((List.length_set ..).trans h2)
   (fun a ha=>by
    rcases List.mem_append.1 ha with ha|ha
    ·exact h3 a ha
    ·obtain rfl:=List.mem_singleton.1 ha;exact ⟨w1,by rw [w2];exact hx⟩)
   (fun z hz=>by
    rcases mem_set_or hz with hz|rfl
    ·exact h4 z hz
    ·exact f1)
  rw [List.length_append,List.length_singleton] at r4 r5
  exact ⟨r1,r2,r3,by omega,by rw [List.length_cons];omega⟩
theorem clear_ok {s:Stand} (h:(clearStand s).2.2=0):wrongStand s=0/\(clearStand s).1=⟨s.cap,List.replicate s.used.length 0,[]⟩/\(clearStand s).2.1=s.advices:=by
 unfold clearStand at h ⊢
 split at h
 ·rename_i h1;exact absurd h h1
 ·rename_i h1;rw [if_neg h1];exact ⟨by omega,rfl,rfl⟩
theorem Okb.uped {b:Bk} (h:Okb b) (h1:(clearStand b.stand).2.2=0):Okb {b with cards:=(upL (clearStand b.stand).2.1 b.cards b.auths).1,auths:=(upL (clearStand b.stand).2.1 b.cards b.auths).2.1,stand:=(clearStand b.stand).1,down:=false}:=by
 obtain ⟨_,c1,c2⟩:=clear_ok h1
 rw [c1,c2]
 obtain ⟨r1,r2,r3,r4,r5⟩:=upL_ok b.stand.advices b.cards b.auths h.adv rfl h.perm h.right
 have hk:∀ {n:Int},n < (b.auths.length:Int)->n < ((upL b.stand.advices b.cards b.auths).2.1.length:Int):=fun hn=>by omega
 exact ⟨h.time,by rw [r2];exact h.cards,h.due,by have:=h.auths;simp only [List.length_nil];omega,h.today,h.w0,h.w1,by dsimp only;rw [r2];exact r3,fun a ha=>by simp at ha,
  fun t ht=>⟨(h.k0 t ht).1,(h.k0 t ht).2.1,hk (h.k0 t ht).2.2⟩,fun t ht=>⟨(h.k1 t ht).1,(h.k1 t ht).2.1,hk (h.k1 t ht).2.2⟩,r1,h.l0,h.l1,
  fun p hp hs=>⟨(h.p0 p hp hs).1,(h.p0 p hp hs).2.1,hk (h.p0 p hp hs).2.2⟩,fun p hp hs=>⟨(h.p1 p hp hs).1,(h.p1 p hp hs).2.1,hk (h.p1 p hp hs).2.2⟩,h.n0,h.n1,fun _=>rfl⟩
theorem upL_bad1 {l:List Advice} {q:Nat} {x:Advice} {cs:List Card} {xs:List Auth} {a:Auth} {e1 e2:Int} (h:l[q]?=some x) (hn:newAuth x.card x.shop x.sum x.time=(a,e1)) (hf:failK 0 e1=e2) (he:¬e2=0):upL (l.drop q) cs xs=(cs,xs,e2):=by
 rw [upL_drop h,hn]
 have:e1=e2:=by unfold failK at hf;rw [if_pos rfl] at hf;exact hf
 subst this
 rw [if_pos he]
theorem upL_bad2 {l:List Advice} {q:Nat} {x:Advice} {cs:List Card} {xs:List Auth} {a:Auth} {c k:Card} {e1 e3 e4:Int} (h:l[q]?=some x) (hn:newAuth x.card x.shop x.sum x.time=(a,e1)) (hf1:failK 0 e1=0) (hc:cs[x.card.toNat]?=some c)
  (hF:forceC c x.sum=(k,e3)) (hf:failK 0 e3=e4) (he:¬e4=0):upL (l.drop q) cs xs=(cs,xs,e4):=by
 rw [upL_drop h,hn,hc]
 have h1:e1=0:=(failK_zero hf1).2
 have:e3=e4:=by unfold failK at hf;rw [if_pos rfl] at hf;exact hf
 subst this h1
 dsimp only
 rw [if_neg (by simp),hF,if_pos he]
theorem upL_next {l:List Advice} {q:Nat} {x:Advice} {cs:List Card} {xs:List Auth} {a:Auth} {c k:Card} {e1 e3:Int} (h:l[q]?=some x) (hn:newAuth x.card x.shop x.sum x.time=(a,e1)) (hf1:failK 0 e1=0) (hc:cs[x.card.toNat]?=some c)
  (hF:forceC c x.sum=(k,e3)) (hf:failK 0 e3=0):upL (l.drop q) cs xs=upL (l.drop (q+1)) (cs.set x.card.toNat k) (xs++[a]):=by
 rw [upL_drop h,hn,hc]
 have h1:e1=0:=(failK_zero hf1).2
 have h3:e3=0:=(failK_zero hf).2
 subst h3 h1
 dsimp only
 rw [if_neg (by simp),hF,if_neg (by simp)]
theorem upL_end {l:List Advice} {q:Nat} {cs:List Card} {xs:List Auth} (h:¬q < l.length):upL (l.drop q) cs xs=(cs,xs,0):=by
 rw [List.drop_of_length_le (by omega)];rfl
theorem upB_no {b:Bk} {s:Stand} {l:List Advice} {cs:List Card} {xs:List Auth} {e:Int} (hd:b.down=true) (h:clearStand b.stand=(s,l,0)) (hL:upL l b.cards b.auths=(cs,xs,e)) (he:¬e=0):upB b=(b,⟨e,0⟩):=by
 unfold upB
 rw [if_neg (by rw [hd];simp),h]
 dsimp only
 rw [if_neg (by simp),hL]
 dsimp only
 rw [if_pos he]
theorem upB_ok {b:Bk} {s:Stand} {l:List Advice} {cs:List Card} {xs:List Auth} (hd:b.down=true) (h:clearStand b.stand=(s,l,0)) (hL:upL l b.cards b.auths=(cs,xs,0)):
  upB b=(lateB {b with cards:=cs,auths:=xs,stand:=s,down:=false},⟨0,0⟩):=by
 unfold upB
 rw [if_neg (by rw [hd];simp),h]
 dsimp only
 rw [if_neg (by simp),hL]
 dsimp only
 rw [if_neg (by simp)]
theorem Okb.upped {b:Bk} (hb:Okb b) {s:Stand} {l:List Advice} {cs:List Card} {xs:List Auth} (h:clearStand b.stand=(s,l,0)) (hL:upL l b.cards b.auths=(cs,xs,0)):
  Okb {b with cards:=cs,auths:=xs,stand:=s,down:=false}:=by
 have:=hb.uped (by rw [h])
 rw [h] at this;dsimp only at this;rw [hL] at this;exact this
theorem Okb.ups {b:Bk} (h:Okb b):Okb (upB b).1:=by
 unfold upB
 split
 ·exact h
 split
 ·exact h
 split
 ·exact h
 ·exact (h.uped (by omega)).late
theorem Okb.setToday {b:Bk} (h:Okb b) {t:List Record} (ht:t.length<=100):Okb {b with today:=t}:=
 ⟨h.time,h.cards,h.due,h.auths,ht,h.w0,h.w1,h.perm,h.adv,h.k0,h.k1,h.right,h.l0,h.l1,h.p0,h.p1,h.n0,h.n1,h.calm⟩
theorem overK_len {t:List Record} {y:List (List Int)} (h:t.length<=100):(overK t y).1.length<=100/\(overK t y).2.1.length<=y.length+1:=by
 unfold overK
 split
 ·exact ⟨h,Nat.le_succ _⟩
 ·exact ⟨by simp,by simp⟩
theorem Okb.does {b:Bk} (h:Okb b) (y:List (List Int)) (d:Deed):Okb (doB b y d).1/\(doB b y d).2.1.length<=y.length+1:=by
 unfold doB
 split
 ·exact ⟨h.load d,Nat.le_succ _⟩
 split
 ·exact ⟨h.asks d,Nat.le_succ _⟩
 split
 ·exact ⟨h.become d,Nat.le_succ _⟩
 split
 ·exact ⟨h.ticks d,Nat.le_succ _⟩
 split
 ·exact ⟨h.send d,Nat.le_succ _⟩
 split
 ·exact ⟨h.arrive d,Nat.le_succ _⟩
 split
 ·split
  ·exact ⟨h,Nat.le_succ _⟩
  ·exact ⟨⟨h.time,h.cards,h.due,h.auths,h.today,h.w0,h.w1,h.perm,h.adv,h.k0,h.k1,h.right,h.l0,h.l1,h.p0,h.p1,h.n0,h.n1,fun h=>by cases h⟩,Nat.le_succ _⟩
 split
 ·exact ⟨h.ups,Nat.le_succ _⟩
 split
 ·exact ⟨h.setToday (overK_len h.today).1,(overK_len (y:=y) h.today).2⟩
 split
 ·exact ⟨h.pay d,Nat.le_succ _⟩
 ·exact ⟨h,Nat.le_succ _⟩
theorem Okb.once {b:Bk} (h:Okb b) (y:List (List Int)) (told:List (Int×Answer)) (cl:Nat) (d:Deed):Okb (onceB b y told cl d).1/\(onceB b y told cl d).2.1.length<=y.length+1:=by
 unfold onceB
 split
 ·exact ⟨h,Nat.le_succ _⟩
 ·exact h.does y d
theorem pErr_zero:∀ {l:List Pace} {i:Int},(pErr l i).err=0->∀ p∈l,wrongP p=0
 |p::l,i,h,x,hx=>by
  unfold pErr at h
  split at h
  ·rename_i h1;exact absurd h h1
  ·rename_i h1
   rcases List.mem_cons.1 hx with rfl|hx
   ·omega
   ·exact pErr_zero h x hx
theorem wrongSet_zero {s:Setup} (h:(wrongSet s).err=0):s.paces.length<=8/\0<=s.shops/\s.shops<=8/\0<=s.cap/\s.cap<=1000000/\∀ p∈s.paces,wrongP p=0:=by
 unfold wrongSet at h
 split at h
 ·cases h
 split at h
 ·cases h
 ·exact ⟨by omega,by omega,by omega,by omega,by omega,pErr_zero h⟩
theorem Okb.start {s:Setup} (h:(wrongSet s).err=0):Okb (startB s):=by
 obtain ⟨h1,h2,h3,h4,h5,h6⟩:=wrongSet_zero h
 have hn:newStand s.cap s.paces.length=({cap:=s.cap,used:=List.replicate s.paces.length 0,advices:=[]},0):=newStand_ok h1 ⟨h4,h5⟩
 unfold startB
 rw [hn]
 refine ⟨by dsimp only;omega,by simpa using h1,by simp;omega,by simp,by simp,by simp,by simp,by simp,by simp,by simp,by simp,fun c hc=>?_,by simp,by simp,by simp,by simp,by simp,by simp,fun _=>rfl⟩
 obtain ⟨p,hp,rfl⟩:=List.mem_map.1 hc
 exact rightC' (c:=⟨0,0,p,[]⟩) (by dsimp only;omega) (h6 p hp) (uses_pw.2 ⟨by simp,by simp,by simp⟩)
end Go.Proofs.Ytegepioggeggaaa.Dev
