/- A part of the proof: BankUp, Bank12, Bank13, Play0, Play1, Law8, Top1, Top2, Top3, PlLaw1. No condition. -/
import Derived.Test.YtegepioggeggaaaD11
import Derived.Test.YtegepioggeggaaaD12
import Derived.Test.YtegepioggeggaaaD04
import Derived.Test.YtegepioggeggaaaD03
set_option linter.unusedVariables false
set_option linter.unusedSimpArgs false
namespace Go.Proofs.Ytegepioggeggaaa.Dev
open Go.RowKit

set_option maxRecDepth 100000 in
set_option maxHeartbeats 8000000 in
theorem c_up (x:Nat->Value) (hx:∀ i,(x i).oneCell'=true) (b:Bk) (ok:Okb b) (b2:Bk) (a2:Answer) (hr:upB b=(b2,a2)):FnE Try.prog 68 [(.c (.p 0 0 0 0))] [(0,(.box 98 (bkL b 1 2 3 4 (.d (.v (x 17))) (.d (.v (x 19)))))),(1,(alC b.cards)),(2,(alI b.due)),(3,(alP b.auths)),(4,(alR b.today))] [0] (.v (.g [cI a2.err,cI a2.auth])) [(0,(.box 98 (bkL b2 1 2 3 4 (.d (.v (x 17))) (.d (.v (x 19)))))),(1,(alC b2.cards)),(2,(alI b2.due)),(3,(alP b2.auths)),(4,(alR b2.today))]:=by
 refine FnE.mk 116 [(0,(aC (.p 0 0 0 0)))] 5 Try.func68 rfl rfl rfl rfl rfl rfl rfl rfl rfl ?_
 intro W0 F0 T0 pg
 obtain ⟨okt,okc,okd,oka,oky,okw0,okw1,okp,okv,okk0,okk1,okg,okl0,okl1,okp0,okp1,okn0,okn1,okq⟩:=id ok
 refine AC.goes ttk 1 rfl ?_
 refine AC.seq ?_
 refine AC.goes ttk 6 rfl ?_
 refine AC.cond rfl (fun hc1=>?_) (fun hc1=>?_)
 ·
  have hc1':=hc1;try simp only [sumB,dns] at hc1'
  refine AC.goes ttk 2 rfl ?_
  refine AC.ret ?_
  refine then_ret ?_
  have hX:upB b=(b,(⟨8,0⟩:Answer)):=by
    unfold upB;rw [if_pos (by cases hd:b.down<;>simp_all)]
  rw [hX] at hr;clear hX
  simp only [Prod.mk.injEq] at hr;obtain ⟨rfl,rfl⟩:=hr
  refine retQ_go ttk [0,1,2,3,4,5] 5 rfl rfl rfl rfl rfl rfl ?_ ?_
  all_goals first|rfl|(simp [ufs,bkL,rwL];done)|(simp [ufs,bkL,rwL];omega)
 have hc1':=hc1;try simp only [sumB,dns] at hc1'
 refine AC.sk ?_
 refine AC.go ttk 5 rfl ?_
 obtain ⟨xr0,l0,e0,hr0⟩:∃ (xr0:Stand) (l0:List Advice) (e0:Int),clearStand b.stand=(xr0,l0,e0):=⟨_,_,_,rfl⟩
 refine AL.cn 6 [5,0,1,2,3,4] (g_call 6 (Fn.frozen (av':=(.t [(.g [(cI xr0.cap),(vlI xr0.used),(vlA xr0.advices)]),(.c (vlA l0)),(.c (cI e0))])) (c_stand_Clear b.stand xr0 l0 e0 hr0) ⟨⟨.inl ⟨_,rfl,rfl⟩,.inr ⟨_,_,_,_,_,rfl,rfl,rfl,by simp⟩,.inr ⟨_,_,_,_,_,rfl,rfl,rfl,by simp⟩,trivial⟩,.inr ⟨_,_,_,_,_,rfl,rfl,rfl,by simp⟩,.inl ⟨_,rfl,rfl⟩,trivial⟩) en90 rfl rfl ⟨⟨_,rfl,.g ⟨.d _,.d _,.d _,trivial⟩⟩,trivial⟩ ⟨⟨trivial,trivial,trivial,trivial⟩,trivial,trivial,trivial⟩ trivial rfl rfl rfl rfl) rfl ?_
 refine AL.runs ttk 8 rfl ?_
 refine AL.nx ?_
 refine AC.seq ?_
 refine AC.goes ttk 2 rfl ?_
 refine AC.cond rfl (fun hc2=>?_) (fun hc2=>?_)
 ·
  have hc2':=of_decide_eq_true hc2
  refine AC.goes ttk 3 rfl ?_
  refine AC.ret ?_
  refine then_ret ?_
  have hX:upB b=(b,(⟨e0,0⟩:Answer)):=by
    unfold upB;rw [if_neg (by cases hd:b.down<;>simp_all),hr0];dsimp only;rw [if_pos (by omega)]
  rw [hX] at hr;clear hX
  simp only [Prod.mk.injEq] at hr;obtain ⟨rfl,rfl⟩:=hr
  refine retQ_go ttk [0,1,2,3,4,5] 5 rfl rfl rfl rfl rfl rfl ?_ ?_
  all_goals first|rfl|(simp [ufs,bkL,rwL];done)|(simp [ufs,bkL,rwL];omega)
 have hc2':=of_decide_eq_false hc2
 refine AC.sk ?_
 refine AC.go ttk 1 rfl ?_
 refine AL.cn 16 [0,7,8,9,10,11,12,13,14,15,6,5] (g_callM id (rhoOf [0,7,8,9,10,11,12,13,14,15]) (c_begin (x 17) (x 19) b (by first|omega|(simp;done)|(simp;omega)) (by first|omega|(simp;done)|(simp;omega)) (by first|omega|(simp;done)|(simp;omega)) (by first|omega|(simp;done)|(simp;omega))) en74 rfl rfl ⟨⟨_,rfl,.inl ⟨rfl,rfl⟩⟩,trivial⟩ ⟨rfl,rfl,rfl,rfl,rfl,trivial⟩ rfl rfl rfl rfl rfl rfl trivial ⟨⟨trivial,trivial,trivial,trivial,trivial,trivial,trivial,trivial,trivial,trivial,trivial,trivial,trivial,trivial,trivial,trivial,trivial,trivial,trivial,trivial,trivial⟩,⟨trivial,trivial,trivial,trivial,trivial,trivial,trivial,trivial,trivial,trivial,trivial,trivial,trivial,trivial,trivial,trivial,trivial,trivial,trivial,trivial,trivial⟩,(fun _ _ _ _=>trivial),(fun _ _ _ _=>trivial),(fun _ _ _ _=>trivial),(fun _ _ _ _=>trivial),(fun _ _ _ _=>trivial),(fun _ _ _ _=>trivial),(fun _ _ _ _=>trivial),(fun _ _ _ _=>trivial),trivial⟩ rfl rfl rfl rfl) rfl ?_
 refine AL.runs ttk 1 rfl ?_
 refine AL.nx ?_
 refine AC.seq ?_
 obtain rfl:e0=0:=by omega
 have hcl:l0=b.stand.advices:=by have h:=(clear_ok (s:=b.stand) (by rw [hr0])).2.2;rw [hr0] at h;exact h
 refine AC.go ttk 1 rfl ?_
 refine AL.vl (g_lenM rfl rfl rfl rfl rfl Try.underlying39) rfl ?_
 refine AL.runs ttk 1 rfl ?_
 refine AL.nx ?_
 refine AC.block ?_
 refine AC.loop (β:=Nat×List Card×List Auth) (fun (p:Nat×List Card×List Auth)=>match p with|(q,cs,xs)=>⟨[(0,(aC (.p 0 0 0 0))),(2,(aC (.p 5 0 0 0))),(3,(aC (.p 6 0 0 0))),(6,(aC (.p 7 0 0 0))),(36,(aC (vlA l0))),(37,(aI (↑l0.length:Int))),(38,(aI (↑q:Int)))],[(0,(.box 98 (bkL b 8 9 10 11 (.d (.v (x 17))) (.d (.v (x 19)))))),(7,(.box 147 (((bkL b 12 13 14 15 (.d (.v (x 17))) (cI 0)).set 2 (.s 12 0 6 cs.length)).set 4 (.s 14 0 8 xs.length)))),(8,(alC b.cards)),(9,(alI b.due)),(10,(alP b.auths)),(11,(alR b.today)),(12,(alC cs)),(13,(alI b.due)),(14,(alP xs)),(15,(alR b.today)),(6,(.box 41 [(cI xr0.cap),(vlI xr0.used),(vlA xr0.advices)])),(5,(.box 65 [(cI 0),(cI 0)]))],16⟩) (fun (p:Nat×List Card×List Auth)=>match p with|(q,cs,xs)=>q<=l0.length/\upL l0 b.cards b.auths=upL (l0.drop q) cs xs/\cs.length=b.cards.length/\xs.length=b.auths.length+q) (fun (p:Nat×List Card×List Auth)=>match p with|(q,cs,xs)=>l0.length - q) (0,b.cards,b.auths) ?_ ?_ ?_
 ·exact ⟨by omega,rfl,rfl,rfl⟩
 ·exact Weak.ren id (by refine ⟨?_,?_,?_,?_,?_,?_,?_,trivial⟩<;>first|rfl|(simp only [mps];done)|(congr 3;omega)|(congr 4;omega)|(simp only [lns];rfl)) (by refine ⟨?_,?_,?_,?_,?_,?_,?_,?_,?_,?_,?_,?_,trivial⟩<;>first|rfl|(simp only [mps];done)|(congr 3;omega)|(congr 4;omega)|(simp only [lns];rfl)) rfl
 rintro ⟨q,cs,xs⟩ ⟨hi0_0,hi0_1,hi0_2,hi0_3⟩
 have hll:b.auths.length+l0.length<=30:=by rw [hcl];exact oka
 refine AC.goes ttk 1 rfl ?_
 refine AC.seq ?_
 refine AC.cond rfl (fun hc3=>?_) (fun hc3=>?_)
 ·
  have hc3':=of_decide_eq_true hc3
  refine AC.sk ?_
  refine AC.seq ?_
  refine AC.block ?_
  refine AC.sr ?_
  obtain ⟨x1,hx1⟩:=exget (xs:=l0) (i:=q) (by first|omega|(simp;done)|(simp;omega))
  have hx1A:=okv x1 (by rw [<-hcl];exact List.mem_of_getElem? hx1)
  refine AL.vl (g_indexQ (i:=q) rfl rfl rfl Try.underlying39 sz107 (by first|omega|(simp;done)|(simp;omega)) (getmap hx1)) rfl ?_
  refine AL.runs ttk 3 rfl ?_
  refine AL.nx ?_
  refine AC.go ttk 8 rfl ?_
  obtain ⟨b1,e1,hr1⟩:∃ (b1:Auth) (e1:Int),newAuth x1.card x1.shop x1.sum x1.time=(b1,e1):=⟨_,_,rfl⟩
  refine AL.cn 17 [16,0,7,8,9,10,11,12,13,14,15,6,5] (g_call 17 (c_auth_New x1.card x1.shop x1.sum x1.time b1 e1 hr1) en79 rfl rfl ⟨⟨_,rfl,.c (.d _)⟩,⟨_,rfl,.c (.d _)⟩,⟨_,rfl,.c (.d _)⟩,⟨_,rfl,.c (.d _)⟩,trivial⟩ ⟨⟨trivial,trivial,trivial,trivial,trivial,trivial,trivial,trivial,trivial⟩,trivial,trivial⟩ trivial rfl rfl rfl rfl) rfl ?_
  refine AL.runs ttk 6 rfl ?_
  refine AL.nx ?_
  refine AC.seq ?_
  refine AC.go ttk 2 rfl ?_
  obtain ⟨e22,hr2⟩:∃ (e22:Int),failK 0 e1=e22:=⟨_,rfl⟩
  refine AL.cn 18 [7,17,16,0,8,9,10,11,12,13,14,15,6,5] (g_callR0 (rhoOf [7]) (rhoOf [7]) (ms:=(nmL.set 19 (some (cI 0)))) (ms':=(nmL.set 19 (some (cI e22)))) (fun x hx=>c_fail x hx 0 e1 e22 hr2) en87 rfl rfl ⟨⟨_,rfl,.inl ⟨rfl,rfl⟩⟩,⟨_,rfl,.inr (.c (.d _))⟩,trivial⟩ rfl rfl rfl rfl rfl rfl rfl trivial rfl rfl rfl rfl rfl rfl rfl rfl rfl rfl rfl rfl rfl) rfl ?_
  refine AL.nx ?_
  refine AC.cond rfl (fun hc4=>?_) (fun hc4=>?_)
  ·
   have hc4':=of_decide_eq_true hc4
   refine AC.exit ?_
   refine then_exit ?_
   refine block_pass rfl ?_
   refine then_exit ?_
   refine then_exit ?_
   refine block_hit ?_
   refine then_ok ?_
   refine AC.goes ttk 11 rfl ?_
   refine AC.seq ?_
   refine AC.go ttk 2 rfl ?_
   refine AL.cn 22 [0,18,19,20,21,17,16,6,5] (g_callM (rhoOf [0,7,8,9,10,11,12,13,14,15]) (rhoOf [0,18,19,20,21]) (c_end_no (x 17) (x 19) b (⟨b.time,false,cs,b.due,xs,b.s0,b.s1,b.n0,b.n1,b.w0,b.w1,xr0,b.today,b.book⟩:Bk) e22 (by first|assumption|omega)) en77 rfl rfl ⟨⟨_,rfl,.inl ⟨rfl,rfl⟩⟩,⟨_,rfl,.inl ⟨rfl,rfl⟩⟩,trivial⟩ ⟨rfl,rfl,rfl,rfl,rfl,rfl,rfl,rfl,rfl,rfl,trivial⟩ rfl rfl rfl rfl rfl rfl trivial ⟨⟨trivial,trivial,trivial,trivial,trivial,trivial,trivial,trivial,trivial,trivial,trivial,trivial,trivial,trivial,trivial,trivial,trivial,trivial,trivial,trivial,trivial⟩,(fun _ _ _ _=>trivial),(fun _ _ _ _=>trivial),(fun _ _ _ _=>trivial),(fun _ _ _ _=>trivial),trivial⟩ rfl rfl rfl rfl) rfl ?_
   refine AL.runs ttk 1 rfl ?_
   refine AL.nx ?_
   refine AC.goes ttk 2 rfl ?_
   refine AC.cond rfl (fun _=>?_) (fun hno=>absurd (hc4.symm.trans hno) (by decide))
   refine AC.goes ttk 3 rfl ?_
   refine AC.ret ?_
   refine then_ret ?_
   have hX:upB b=(b,(⟨e22,0⟩:Answer)):=by
     exact upB_no (by cases hd:b.down<;>simp_all) hr0 (hi0_1.trans (upL_bad1 hx1 hr1 hr2 (by omega))) (by omega)
   rw [hX] at hr;clear hX
   simp only [Prod.mk.injEq] at hr;obtain ⟨rfl,rfl⟩:=hr
   refine retQ_go ttk [0,18,19,20,21,5] 5 rfl rfl rfl rfl rfl rfl ?_ ?_
   all_goals first|rfl|(simp [ufs,bkL,rwL];done)|(simp [ufs,bkL,rwL];omega)
  have hc4':=of_decide_eq_false hc4
  refine AC.sk ?_
  obtain rfl:e22=0:=by omega
  refine AC.seq ?_
  obtain ⟨x2,hx2⟩:=exget (xs:=cs) (i:=Int.toNat (x1.card)) (by first|omega|(simp;done)|(simp;omega))
  obtain ⟨xr3,e3,hr3⟩:∃ (xr3:Card) (e3:Int),forceC x2 x1.sum=(xr3,e3):=⟨_,_,rfl⟩
  refine AC.drawQ [0,2,3,6,36,37,38,8,9] [7,17,16,0,8,9,10,11,12,13,14,15,6,5] mixed rfl rfl ?_
  refine PW.runs (kn:=[]) ttk 7 rfl trivial ?_
  refine PW.op (n':=18) [62,64] [12] rfl rfl (.inl ⟨(Wanted.plain rfl),GOp.cast (g_indexP0 (i:=Int.toNat (x1.card)) rfl rfl rfl Try.underlying29 sz61 (by first|omega|(simp;done)|(simp;omega)) (by first|omega|(simp;done)|(simp;omega))) rfl⟩) rfl ?_
  refine PW.op (n':=18) [65] [12] rfl rfl (.inl ⟨(Wanted.plain rfl),GOp.cast (g_loadAs rfl rfl rfl Try.underlying61 rfl sz61 (getmap hx2) rfl) rfl⟩) rfl ?_
  refine PW.runs (kn:=[]) ttk 2 rfl trivial ?_
  refine PW.op (n':=18) [66,68] [] rfl rfl (.inl ⟨(Wanted.plain rfl),GOp.cast (g_call 18 (Fn.frozen (av':=(.t [(.g [(cI xr3.money),(cI xr3.held),(cI xr3.pace.ticks),(cI xr3.pace.count),(cI xr3.pace.sum),(vlU xr3.uses)]),(.c (cI e3))])) (c_card_Force x2 x1.sum xr3 e3 hr3) ⟨⟨.inl ⟨_,rfl,rfl⟩,.inl ⟨_,rfl,rfl⟩,.inl ⟨_,rfl,rfl⟩,.inl ⟨_,rfl,rfl⟩,.inl ⟨_,rfl,rfl⟩,.inr ⟨_,_,_,_,_,rfl,rfl,rfl,by simp⟩,trivial⟩,.inl ⟨_,rfl,rfl⟩,trivial⟩) en91 rfl rfl ⟨⟨_,rfl,.g ⟨.d _,.d _,.d _,.d _,.d _,.d _,trivial⟩⟩,⟨_,rfl,.c (.d _)⟩,trivial⟩ ⟨⟨trivial,trivial,trivial,trivial,trivial,trivial,trivial⟩,trivial,trivial⟩ trivial rfl rfl rfl rfl) rfl⟩) rfl ?_
  refine PW.runs (n':=19) (kn:=[]) ttk 6 rfl trivial ?_
  refine PW.fin [0,2,3,6,36,37,38,8,9,11,10] [18,7,17,16,0,8,9,10,11,12,13,14,15,6,5] rfl rfl (by kernel_rfl) ?_
  refine then_ok ?_
  refine AC.seq ?_
  refine AC.go ttk 2 rfl ?_
  obtain ⟨e24,hr4⟩:∃ (e24:Int),failK 0 e3=e24:=⟨_,rfl⟩
  refine AL.cn 19 [7,18,17,16,0,8,9,10,11,12,13,14,15,6,5] (g_callR0 (rhoOf [7]) (rhoOf [7]) (ms:=(nmL.set 19 (some (cI 0)))) (ms':=(nmL.set 19 (some (cI e24)))) (fun x hx=>c_fail x hx 0 e3 e24 hr4) en87 rfl rfl ⟨⟨_,rfl,.inl ⟨rfl,rfl⟩⟩,⟨_,rfl,.inr (.c (.d _))⟩,trivial⟩ rfl rfl rfl rfl rfl rfl rfl trivial rfl rfl rfl rfl rfl rfl rfl rfl rfl rfl rfl rfl rfl) rfl ?_
  refine AL.nx ?_
  refine AC.cond rfl (fun hc6=>?_) (fun hc6=>?_)
  ·
   have hc6':=of_decide_eq_true hc6
   refine AC.exit ?_
   refine then_exit ?_
   refine block_pass rfl ?_
   refine then_exit ?_
   refine then_exit ?_
   refine block_hit ?_
   refine then_ok ?_
   refine AC.goes ttk 11 rfl ?_
   refine AC.seq ?_
   refine AC.go ttk 2 rfl ?_
   refine AL.cn 23 [0,19,20,21,22,18,17,16,6,5] (g_callM (rhoOf [0,7,8,9,10,11,12,13,14,15]) (rhoOf [0,19,20,21,22]) (c_end_no (x 17) (x 19) b (⟨b.time,false,cs,b.due,xs,b.s0,b.s1,b.n0,b.n1,b.w0,b.w1,xr0,b.today,b.book⟩:Bk) e24 (by first|assumption|omega)) en77 rfl rfl ⟨⟨_,rfl,.inl ⟨rfl,rfl⟩⟩,⟨_,rfl,.inl ⟨rfl,rfl⟩⟩,trivial⟩ ⟨rfl,rfl,rfl,rfl,rfl,rfl,rfl,rfl,rfl,rfl,trivial⟩ rfl rfl rfl rfl rfl rfl trivial ⟨⟨trivial,trivial,trivial,trivial,trivial,trivial,trivial,trivial,trivial,trivial,trivial,trivial,trivial,trivial,trivial,trivial,trivial,trivial,trivial,trivial,trivial⟩,(fun _ _ _ _=>trivial),(fun _ _ _ _=>trivial),(fun _ _ _ _=>trivial),(fun _ _ _ _=>trivial),trivial⟩ rfl rfl rfl rfl) rfl ?_
   refine AL.runs ttk 1 rfl ?_
   refine AL.nx ?_
   refine AC.goes ttk 2 rfl ?_
   refine AC.cond rfl (fun _=>?_) (fun hno=>absurd (hc6.symm.trans hno) (by decide))
   refine AC.goes ttk 3 rfl ?_
   refine AC.ret ?_
   refine then_ret ?_
   have hX:upB b=(b,(⟨e24,0⟩:Answer)):=by
     exact upB_no (by cases hd:b.down<;>simp_all) hr0 (hi0_1.trans (upL_bad2 hx1 hr1 hr2 hx2 hr3 hr4 (by omega))) (by omega)
   rw [hX] at hr;clear hX
   simp only [Prod.mk.injEq] at hr;obtain ⟨rfl,rfl⟩:=hr
   refine retQ_go ttk [0,19,20,21,22,5] 5 rfl rfl rfl rfl rfl rfl ?_ ?_
   all_goals first|rfl|(simp [ufs,bkL,rwL];done)|(simp [ufs,bkL,rwL];omega)
  have hc6':=of_decide_eq_false hc6
  refine AC.sk ?_
  obtain rfl:e24=0:=by omega
  refine AC.seq ?_
  refine AC.drawP [0,2,3,6,36,37,38,8,9,11] [7,18,17,16,0,8,9,10,11,12,13,14,15,6,5] mixed rfl rfl ?_
  refine PD.runs (kn:=[]) ttk 8 rfl trivial ?_
  refine PD.op (n':=19) [79,81] [12] rfl rfl (.inl ⟨(Wanted.plain rfl),GOp.cast (g_indexP0 (i:=Int.toNat (x1.card)) rfl rfl rfl Try.underlying29 sz61 (by first|omega|(simp;done)|(simp;omega)) (by first|omega|(simp;done)|(simp;omega))) rfl⟩) rfl ?_
  refine PD.fin [7,18,17,16,0,8,9,10,11,12,13,14,15,6,5] rfl rfl rfl rfl (by kernel_rfl) ?_
  refine AL.so [7,18,17,16,0,8,9,10,11,12,13,14,15,6,5] (g_storeA (ds:=[(dI xr3.money),(dI xr3.held),(dI xr3.pace.ticks),(dI xr3.pace.count),(dI xr3.pace.sum),(dlU xr3.uses)]) rfl rfl rfl rfl rfl sz61 rfl (Nat.le_of_ble_eq_true rfl) (getmap hx2) rfl (setmap (x':=xr3) rfl)) rfl ?_
  refine AL.nx ?_
  refine AC.recell (k:=7) (q:=2) (c':=(.s 12 0 6 (((cs).set (Int.toNat (x1.card)) xr3).length))) rfl rfl (by first|rfl|(simp;done)|(congr 1;omega)) rfl ?_
  refine AC.drawP [0,2,3,6,36,37,38,9] [7,17,0,8,9,10,11,12,13,14,15,6,5] mixed rfl rfl ?_
  refine PD.runs (kn:=[]) ttk 7 rfl trivial ?_
  refine PD.op (n':=20) [90] [] rfl rfl (.inl ⟨(Wanted.plain rfl),GOp.cast (g_lit (ys:=[(0,(.g [(cI b1.card),(cI b1.shop),(cI b1.sum),(cI b1.captured),(cI b1.refunded),(cI b1.disputed),(cI b1.till),(cB b1.shut)]))]) (rows:=([b1]).map rAuth) 19 sl31 rfl (by decide) ⟨⟨rfl,rfl⟩,trivial⟩ rfl rfl rfl rfl) rfl⟩) rfl ?_
  refine PD.op (n':=21) [89,91] [19,14] rfl rfl (.inl ⟨(Wanted.plain rfl),GOp.cast (g_append (m:=1) (N:=xs.length+1) (k2:=20) (ys:=([b1]).map rAuth) sl31 rfl rfl rfl rfl rfl rfl (by first|omega|(simp;done)|(simp;omega)) rfl (.s rfl (by first|omega|(simp;done)|(simp;omega))) (by first|omega|(simp;done)|(simp;omega)) (by first|omega|(simp;done)|(simp;omega)) appmap (by decide) (by first|omega|(simp;done)|(simp;omega)) (by first|omega|(simp;done)|(simp;omega))) rfl⟩) rfl ?_
  refine PD.runs (kn:=[]) ttk 3 rfl trivial ?_
  refine PD.fin [20,7,17,0,8,9,10,11,12,13,15,6,5] rfl rfl rfl rfl (by kernel_rfl) ?_
  refine AL.runs ttk 1 rfl ?_
  refine AL.nil ?_
  refine block_ok ?_
  refine then_ok ?_
  refine AC.recell (k:=7) (q:=4) (c':=(.s 20 0 8 ((xs++([b1])).length))) rfl rfl (by first|rfl|(simp;done)|(congr 1;omega)) rfl ?_
  refine AC.region ?_
  refine AL.vl (g_binI rfl rfl rfl (wrap_ok (by first|omega|(simp;done)|(simp;omega)))) rfl ?_
  refine AL.runs ttk 1 rfl ?_
  refine AL.nx ?_
  refine ⟨(q+1,(cs).set (Int.toNat (x1.card)) xr3,xs++([b1])),⟨by omega,by rw [hi0_1];exact upL_next hx1 hr1 hr2 hx2 hr3 hr4,by rw [List.length_set];omega,by rw [List.length_append,List.length_singleton];omega⟩,by first|omega|(simp;done)|(simp;omega),Weak.ren (fun k=>if k=14 then 20 else k) (by refine ⟨?_,?_,?_,?_,?_,?_,?_,trivial⟩<;>first|rfl|(simp only [mps];done)|(congr 3;omega)|(congr 4;omega)|(simp only [lns];rfl)) (by refine ⟨?_,?_,?_,?_,?_,?_,?_,?_,?_,?_,?_,?_,trivial⟩<;>first|rfl|(simp only [mps];done)|(congr 3;omega)|(congr 4;omega)|(simp only [lns];rfl)) rfl⟩
 have hc3':=of_decide_eq_false hc3
 refine AC.exit ?_
 refine then_exit ?_
 refine then_exit ?_
 refine block_hit ?_
 refine then_ok ?_
 refine AC.goes ttk 11 rfl ?_
 refine AC.seq ?_
 refine AC.go ttk 2 rfl ?_
 refine AL.cn 20 [0,16,17,18,19,6,5] (g_callM (rhoOf [0,7,8,9,10,11,12,13,14,15]) (rhoOf [0,16,17,18,19]) (c_end_ok (x 17) (x 19) b (⟨b.time,false,cs,b.due,xs,b.s0,b.s1,b.n0,b.n1,b.w0,b.w1,xr0,b.today,b.book⟩:Bk) 0 (by first|assumption|omega)) en77 rfl rfl ⟨⟨_,rfl,.inl ⟨rfl,rfl⟩⟩,⟨_,rfl,.inl ⟨rfl,rfl⟩⟩,trivial⟩ ⟨rfl,rfl,rfl,rfl,rfl,rfl,rfl,rfl,rfl,rfl,trivial⟩ rfl rfl rfl rfl rfl rfl trivial ⟨⟨trivial,trivial,trivial,trivial,trivial,trivial,trivial,trivial,trivial,trivial,trivial,trivial,trivial,trivial,trivial,trivial,trivial,trivial,trivial,trivial,trivial⟩,(fun _ _ _ _=>trivial),(fun _ _ _ _=>trivial),(fun _ _ _ _=>trivial),(fun _ _ _ _=>trivial),trivial⟩ rfl rfl rfl rfl) rfl ?_
 refine AL.runs ttk 1 rfl ?_
 refine AL.nx ?_
 refine AC.go ttk 1 rfl ?_
 refine AL.vl (g_binI rfl rfl rfl (show _=some (Value.bool false) from rfl)) rfl ?_
 refine AL.nx ?_
 refine AC.cond rfl (fun hno=>by cases hno) (fun _=>?_)
 refine AC.sk ?_
 have hL:=hi0_1;rw [upL_end (by omega)] at hL
 have okU:=ok.upped hr0 hL
 refine AC.go ttk 1 rfl ?_
 obtain ⟨b25,hr5⟩:∃ (b25:Bk),lateB (⟨b.time,false,cs,b.due,xs,b.s0,b.s1,b.n0,b.n1,b.w0,b.w1,xr0,b.today,b.book⟩:Bk)=b25:=⟨_,rfl⟩
 refine AL.cn 24 [0,20,21,22,23,6,5] (g_callR0 (rhoOf [0,16,17,18,19]) (rhoOf [0,20,21,22,23]) (ms:=[some (cI b.time),some (cB false),some (.s 1 0 6 cs.length),some (.s 2 0 1 b.due.length),some (.s 3 0 8 xs.length),some (cI b.s0.sent),some (vlT b.s0.kept),some (cI b.s1.sent),some (vlT b.s1.kept),some (cI b.n0),some (cI b.n1),some (vlK b.w0),some (vlK b.w1),some (cI xr0.cap),some (vlI xr0.used),some (vlA xr0.advices),some (.s 4 0 4 b.today.length),none,some (vlE b.book),none]) (ms':=(bkM b25 1 2 3 4 none none)) (fun x hx=>c_late x hx (⟨b.time,false,cs,b.due,xs,b.s0,b.s1,b.n0,b.n1,b.w0,b.w1,xr0,b.today,b.book⟩:Bk) (by first|assumption|exact Okb.tick (by assumption) (by omega) (by omega)) b25 hr5) en84 rfl rfl ⟨⟨_,rfl,.inl ⟨rfl,rfl⟩⟩,trivial⟩ rfl rfl rfl rfl rfl rfl rfl ⟨rfl,rfl,rfl,rfl,trivial⟩ rfl rfl rfl rfl rfl rfl rfl rfl rfl rfl rfl rfl rfl) rfl ?_
 refine AL.nx ?_
 refine AC.goes ttk 2 rfl ?_
 refine AC.ret ?_
 have hX:upB b=(b25,(⟨0,0⟩:Answer)):=by
   rw [upB_ok (by cases hd:b.down<;>simp_all) hr0 hL,hr5]
 rw [hX] at hr;clear hX
 simp only [Prod.mk.injEq] at hr;obtain ⟨rfl,rfl⟩:=hr
 refine retQ_go ttk [0,20,21,22,23,5] 5 rfl rfl rfl rfl rfl rfl ?_ ?_
 all_goals first|rfl|(simp [ufs,bkL,rwL];done)|(simp [ufs,bkL,rwL];omega)
end Go.Proofs.Ytegepioggeggaaa.Dev
namespace Go.Proofs.Ytegepioggeggaaa.Dev
open Go.RowKit

set_option maxRecDepth 100000 in
set_option maxHeartbeats 4000000 in
theorem c_do (x:Nat->Value) (hx:∀ i,(x i).oneCell'=true) (b:Bk) (days:List (List Int)) (d:Deed) (ok:Okb b) (hy:days.length<=1000) (b2:Bk) (y2:List (List Int)) (a2:Answer) (hr:doB b days d=(b2,y2,a2)):FnE Try.prog 56 [(.c (.p 0 0 0 0)),(.c (.q (rDeed d) 0))] [(0,(.box 98 (bkL b 1 2 3 4 (.s 5 0 1 days.length) (.d (.v (x 19)))))),(1,(alC b.cards)),(2,(alI b.due)),(3,(alP b.auths)),(4,(alR b.today)),(5,(alY days))] [0] (.v (.g [cI a2.err,cI a2.auth])) [(0,(.box 98 (bkL b2 1 2 3 4 (.s 5 0 1 y2.length) (.d (.v (x 19)))))),(1,(alC b2.cards)),(2,(alI b2.due)),(3,(alP b2.auths)),(4,(alR b2.today)),(5,(alY y2))]:=by
 refine FnE.mk 67 [(0,(aC (.p 0 0 0 0))),(1,(aC (.q (rDeed d) 0)))] 6 Try.func56 rfl rfl rfl rfl rfl rfl rfl rfl rfl ?_
 intro W0 F0 T0 pg
 obtain ⟨okt,okc,okd,oka,oky,okw0,okw1,okp,okv,okk0,okk1,okg,okl0,okl1,okp0,okp1,okn0,okn1,okq⟩:=id ok
 refine AC.goes ttk 1 rfl ?_
 refine AC.seq ?_
 refine AC.goes ttk 4 rfl ?_
 refine AC.block ?_
 refine AC.goes ttk 2 rfl ?_
 refine AC.cond rfl (fun hc1=>?_) (fun hc1=>?_)
 ·
  have hc1':=of_decide_eq_true hc1
  refine AC.go ttk 2 rfl ?_
  obtain ⟨b20,a20,hr0⟩:∃ (b20:Bk) (a20:Answer),loadB b d=(b20,a20):=⟨_,_,rfl⟩
  refine AL.cn 11 [0,7,8,9,10,6,5] (g_callR0 id (rhoOf [0,7,8,9,10]) (ms:=(bkM b 1 2 3 4 none none)) (ms':=(bkM b20 1 2 3 4 none none)) (fun x hx=>c_load x hx b d (by first|assumption|exact Okb.tick (by assumption) (by omega) (by omega)) b20 a20 hr0) en62 rfl rfl ⟨⟨_,rfl,.inl ⟨rfl,rfl⟩⟩,⟨_,rfl,.inl ⟨rfl,rfl⟩⟩,trivial⟩ rfl rfl rfl rfl rfl rfl rfl ⟨rfl,rfl,rfl,rfl,trivial⟩ rfl rfl rfl rfl rfl rfl rfl rfl rfl rfl rfl rfl rfl) rfl ?_
  refine AL.runs ttk 1 rfl ?_
  refine AL.nx ?_
  refine AC.ret ?_
  refine block_ret ?_
  refine then_ret ?_
  have hX:doB b days d=(b20,days,a20):=by
    unfold doB;(repeat' (first|rw [if_pos (by omega)]|rw [if_neg (by omega)]|fail))<;>first|rfl|(simp only [hr0];done)|(simp only [hr0];rfl)|(simp_all;done)
  rw [hX] at hr;clear hX
  simp only [Prod.mk.injEq] at hr;obtain ⟨rfl,rfl,rfl⟩:=hr
  refine retQ_go ttk [0,7,8,9,10,5,6] 6 rfl rfl rfl rfl rfl rfl ?_ ?_
  all_goals first|rfl|(simp [ufs,bkL,rwL];done)|(simp [ufs,bkL,rwL];omega)
 have hc1':=of_decide_eq_false hc1
 refine AC.goes ttk 2 rfl ?_
 refine AC.cond rfl (fun hc2=>?_) (fun hc2=>?_)
 ·
  have hc2':=of_decide_eq_true hc2
  refine AC.go ttk 2 rfl ?_
  obtain ⟨b21,a21,hr1⟩:∃ (b21:Bk) (a21:Answer),askB b d=(b21,a21):=⟨_,_,rfl⟩
  refine AL.cn 11 [0,7,8,9,10,6,5] (g_callR0 id (rhoOf [0,7,8,9,10]) (ms:=(bkM b 1 2 3 4 none none)) (ms':=(bkM b21 1 2 3 4 none none)) (fun x hx=>c_ask x hx b d (by first|assumption|exact Okb.tick (by assumption) (by omega) (by omega)) b21 a21 hr1) en63 rfl rfl ⟨⟨_,rfl,.inl ⟨rfl,rfl⟩⟩,⟨_,rfl,.inl ⟨rfl,rfl⟩⟩,trivial⟩ rfl rfl rfl rfl rfl rfl rfl ⟨rfl,rfl,rfl,rfl,trivial⟩ rfl rfl rfl rfl rfl rfl rfl rfl rfl rfl rfl rfl rfl) rfl ?_
  refine AL.runs ttk 1 rfl ?_
  refine AL.nx ?_
  refine AC.ret ?_
  refine block_ret ?_
  refine then_ret ?_
  have hX:doB b days d=(b21,days,a21):=by
    unfold doB;(repeat' (first|rw [if_pos (by omega)]|rw [if_neg (by omega)]|fail))<;>first|rfl|(simp only [hr1];done)|(simp only [hr1];rfl)|(simp_all;done)
  rw [hX] at hr;clear hX
  simp only [Prod.mk.injEq] at hr;obtain ⟨rfl,rfl,rfl⟩:=hr
  refine retQ_go ttk [0,7,8,9,10,5,6] 6 rfl rfl rfl rfl rfl rfl ?_ ?_
  all_goals first|rfl|(simp [ufs,bkL,rwL];done)|(simp [ufs,bkL,rwL];omega)
 have hc2':=of_decide_eq_false hc2
 refine AC.goes ttk 2 rfl ?_
 refine AC.cond rfl (fun hc3=>?_) (fun hc3=>?_)
 ·
  have hc3':=of_decide_eq_true hc3
  refine AC.go ttk 2 rfl ?_
  obtain ⟨b22,a22,hr2⟩:∃ (b22:Bk) (a22:Answer),becomeB b d=(b22,a22):=⟨_,_,rfl⟩
  refine AL.cn 11 [0,7,8,9,10,6,5] (g_callR0 id (rhoOf [0,7,8,9,10]) (ms:=(bkM b 1 2 3 4 none none)) (ms':=(bkM b22 1 2 3 4 none none)) (fun x hx=>c_become x hx b d (by first|assumption|exact Okb.tick (by assumption) (by omega) (by omega)) b22 a22 hr2) en64 rfl rfl ⟨⟨_,rfl,.inl ⟨rfl,rfl⟩⟩,⟨_,rfl,.inl ⟨rfl,rfl⟩⟩,trivial⟩ rfl rfl rfl rfl rfl rfl rfl ⟨rfl,rfl,rfl,rfl,trivial⟩ rfl rfl rfl rfl rfl rfl rfl rfl rfl rfl rfl rfl rfl) rfl ?_
  refine AL.runs ttk 1 rfl ?_
  refine AL.nx ?_
  refine AC.ret ?_
  refine block_ret ?_
  refine then_ret ?_
  have hX:doB b days d=(b22,days,a22):=by
    unfold doB;(repeat' (first|rw [if_pos (by omega)]|rw [if_neg (by omega)]|fail))<;>first|rfl|(simp only [hr2];done)|(simp only [hr2];rfl)|(simp_all;done)
  rw [hX] at hr;clear hX
  simp only [Prod.mk.injEq] at hr;obtain ⟨rfl,rfl,rfl⟩:=hr
  refine retQ_go ttk [0,7,8,9,10,5,6] 6 rfl rfl rfl rfl rfl rfl ?_ ?_
  all_goals first|rfl|(simp [ufs,bkL,rwL];done)|(simp [ufs,bkL,rwL];omega)
 have hc3':=of_decide_eq_false hc3
 refine AC.goes ttk 2 rfl ?_
 refine AC.cond rfl (fun hc4=>?_) (fun hc4=>?_)
 ·
  have hc4':=of_decide_eq_true hc4
  refine AC.go ttk 2 rfl ?_
  obtain ⟨b23,a23,hr3⟩:∃ (b23:Bk) (a23:Answer),tickB b d=(b23,a23):=⟨_,_,rfl⟩
  refine AL.cn 11 [0,7,8,9,10,6,5] (g_callR0 id (rhoOf [0,7,8,9,10]) (ms:=(bkM b 1 2 3 4 none none)) (ms':=(bkM b23 1 2 3 4 none none)) (fun x hx=>c_tick x hx b d (by first|assumption|exact Okb.tick (by assumption) (by omega) (by omega)) b23 a23 hr3) en65 rfl rfl ⟨⟨_,rfl,.inl ⟨rfl,rfl⟩⟩,⟨_,rfl,.inl ⟨rfl,rfl⟩⟩,trivial⟩ rfl rfl rfl rfl rfl rfl rfl ⟨rfl,rfl,rfl,rfl,trivial⟩ rfl rfl rfl rfl rfl rfl rfl rfl rfl rfl rfl rfl rfl) rfl ?_
  refine AL.runs ttk 1 rfl ?_
  refine AL.nx ?_
  refine AC.ret ?_
  refine block_ret ?_
  refine then_ret ?_
  have hX:doB b days d=(b23,days,a23):=by
    unfold doB;(repeat' (first|rw [if_pos (by omega)]|rw [if_neg (by omega)]|fail))<;>first|rfl|(simp only [hr3];done)|(simp only [hr3];rfl)|(simp_all;done)
  rw [hX] at hr;clear hX
  simp only [Prod.mk.injEq] at hr;obtain ⟨rfl,rfl,rfl⟩:=hr
  refine retQ_go ttk [0,7,8,9,10,5,6] 6 rfl rfl rfl rfl rfl rfl ?_ ?_
  all_goals first|rfl|(simp [ufs,bkL,rwL];done)|(simp [ufs,bkL,rwL];omega)
 have hc4':=of_decide_eq_false hc4
 refine AC.goes ttk 2 rfl ?_
 refine AC.cond rfl (fun hc5=>?_) (fun hc5=>?_)
 ·
  have hc5':=of_decide_eq_true hc5
  refine AC.go ttk 2 rfl ?_
  obtain ⟨v04,v14,a24,hr4⟩:∃ (v04:List Packet) (v14:List Packet) (a24:Answer),sendW b.s0 b.s1 b.n0 b.n1 b.w0 b.w1 d=(v04,v14,a24):=⟨_,_,_,rfl⟩
  refine AL.cn 7 [0,6,1,2,3,4,5] (g_callR0 id id (ms:=[none,none,none,none,none,some (cI b.s0.sent),some (vlT b.s0.kept),some (cI b.s1.sent),some (vlT b.s1.kept),some (cI b.n0),some (cI b.n1),some (vlK b.w0),some (vlK b.w1),none,none,none,none,none,none,none]) (ms':=[none,none,none,none,none,some (cI b.s0.sent),some (vlT b.s0.kept),some (cI b.s1.sent),some (vlT b.s1.kept),some (cI b.n0),some (cI b.n1),some (vlK v04),some (vlK v14),none,none,none,none,none,none,none]) (fun x hx=>c_bsend x hx b.s0 b.s1 b.n0 b.n1 b.w0 b.w1 d (by first|omega|(simp;done)|(simp;omega)) (by first|omega|(simp;done)|(simp;omega)) (by first|omega|(simp;done)|(simp;omega)) (by first|omega|(simp;done)|(simp;omega)) v04 v14 a24 hr4) en66 rfl rfl ⟨⟨_,rfl,.inl ⟨rfl,rfl⟩⟩,⟨_,rfl,.inl ⟨rfl,rfl⟩⟩,trivial⟩ rfl rfl rfl rfl rfl rfl rfl trivial rfl rfl rfl rfl rfl rfl rfl rfl rfl rfl rfl rfl rfl) rfl ?_
  refine AL.runs ttk 1 rfl ?_
  refine AL.nx ?_
  refine AC.ret ?_
  refine block_ret ?_
  refine then_ret ?_
  have hX:doB b days d=((⟨b.time,b.down,b.cards,b.due,b.auths,b.s0,b.s1,b.n0,b.n1,v04,v14,b.stand,b.today,b.book⟩:Bk),days,a24):=by
    unfold doB;(repeat' (first|rw [if_pos (by omega)]|rw [if_neg (by omega)]|fail))<;>first|rfl|(simp only [hr4];done)|(simp only [hr4];rfl)|(simp_all;done)
  rw [hX] at hr;clear hX
  simp only [Prod.mk.injEq] at hr;obtain ⟨rfl,rfl,rfl⟩:=hr
  refine retQ_go ttk [0,1,2,3,4,5,6] 6 rfl rfl rfl rfl rfl rfl ?_ ?_
  all_goals first|rfl|(simp [ufs,bkL,rwL];done)|(simp [ufs,bkL,rwL];omega)
 have hc5':=of_decide_eq_false hc5
 refine AC.seq ?_
 refine AC.goes ttk 2 rfl ?_
 refine AC.cond rfl (fun hc6=>?_) (fun hc6=>?_)
 ·
  have hc6':=of_decide_eq_true hc6
  refine AC.sk ?_
  refine AC.cond rfl (fun _=>?_) (fun hno=>absurd (hc6.symm.trans hno) (by decide))
  refine AC.go ttk 2 rfl ?_
  obtain ⟨b25,a25,hr5⟩:∃ (b25:Bk) (a25:Answer),arriveB b d=(b25,a25):=⟨_,_,rfl⟩
  refine AL.cn 11 [0,7,8,9,10,6,5] (g_callR0 id (rhoOf [0,7,8,9,10]) (ms:=(bkM b 1 2 3 4 none none)) (ms':=(bkM b25 1 2 3 4 none none)) (fun x hx=>c_arrive x hx b d (by assumption) b25 a25 hr5) en67 rfl rfl ⟨⟨_,rfl,.inl ⟨rfl,rfl⟩⟩,⟨_,rfl,.inl ⟨rfl,rfl⟩⟩,trivial⟩ rfl rfl rfl rfl rfl rfl rfl ⟨rfl,rfl,rfl,rfl,trivial⟩ rfl rfl rfl rfl rfl rfl rfl rfl rfl rfl rfl rfl rfl) rfl ?_
  refine AL.runs ttk 1 rfl ?_
  refine AL.nx ?_
  refine AC.ret ?_
  refine block_ret ?_
  refine then_ret ?_
  have hX:doB b days d=(b25,days,a25):=by
    unfold doB;(repeat' (first|rw [if_pos (by omega)]|rw [if_neg (by omega)]|fail))<;>first|rfl|(simp only [hr5];done)|(simp only [hr5];rfl)|(simp_all;done)
  rw [hX] at hr;clear hX
  simp only [Prod.mk.injEq] at hr;obtain ⟨rfl,rfl,rfl⟩:=hr
  refine retQ_go ttk [0,7,8,9,10,5,6] 6 rfl rfl rfl rfl rfl rfl ?_ ?_
  all_goals first|rfl|(simp [ufs,bkL,rwL];done)|(simp [ufs,bkL,rwL];omega)
 have hc6':=of_decide_eq_false hc6
 refine AC.region ?_
 refine AL.runs ttk 2 rfl ?_
 refine AL.nx ?_
 refine AC.cond rfl (fun hc8=>?_) (fun hc8=>?_)
 ·
  have hc8':=of_decide_eq_true hc8
  refine AC.go ttk 2 rfl ?_
  obtain ⟨b26,a26,hr6⟩:∃ (b26:Bk) (a26:Answer),arriveB b d=(b26,a26):=⟨_,_,rfl⟩
  refine AL.cn 11 [0,7,8,9,10,6,5] (g_callR0 id (rhoOf [0,7,8,9,10]) (ms:=(bkM b 1 2 3 4 none none)) (ms':=(bkM b26 1 2 3 4 none none)) (fun x hx=>c_arrive x hx b d (by assumption) b26 a26 hr6) en67 rfl rfl ⟨⟨_,rfl,.inl ⟨rfl,rfl⟩⟩,⟨_,rfl,.inl ⟨rfl,rfl⟩⟩,trivial⟩ rfl rfl rfl rfl rfl rfl rfl ⟨rfl,rfl,rfl,rfl,trivial⟩ rfl rfl rfl rfl rfl rfl rfl rfl rfl rfl rfl rfl rfl) rfl ?_
  refine AL.runs ttk 1 rfl ?_
  refine AL.nx ?_
  refine AC.ret ?_
  refine block_ret ?_
  refine then_ret ?_
  have hX:doB b days d=(b26,days,a26):=by
    unfold doB;(repeat' (first|rw [if_pos (by omega)]|rw [if_neg (by omega)]|fail))<;>first|rfl|(simp only [hr6];done)|(simp only [hr6];rfl)|(simp_all;done)
  rw [hX] at hr;clear hX
  simp only [Prod.mk.injEq] at hr;obtain ⟨rfl,rfl,rfl⟩:=hr
  refine retQ_go ttk [0,7,8,9,10,5,6] 6 rfl rfl rfl rfl rfl rfl ?_ ?_
  all_goals first|rfl|(simp [ufs,bkL,rwL];done)|(simp [ufs,bkL,rwL];omega)
 have hc8':=of_decide_eq_false hc8
 refine AC.goes ttk 2 rfl ?_
 refine AC.cond rfl (fun hc9=>?_) (fun hc9=>?_)
 ·
  have hc9':=of_decide_eq_true hc9
  refine AC.seq ?_
  refine AC.goes ttk 5 rfl ?_
  refine AC.cond rfl (fun hc10=>?_) (fun hc10=>?_)
  ·
   have hc10':=hc10;try simp only [sumB,dns] at hc10'
   refine AC.goes ttk 2 rfl ?_
   refine AC.ret ?_
   refine then_ret ?_
   refine block_ret ?_
   refine then_ret ?_
   have hX:doB b days d=(b,days,(⟨8,0⟩:Answer)):=by
     unfold doB;(repeat' (first|rw [if_pos (by omega)]|rw [if_neg (by omega)]|fail))<;>first|rfl|(simp_all;done)
   rw [hX] at hr;clear hX
   simp only [Prod.mk.injEq] at hr;obtain ⟨rfl,rfl,rfl⟩:=hr
   refine retQ_go ttk [0,1,2,3,4,5,6] 6 rfl rfl rfl rfl rfl rfl ?_ ?_
   all_goals first|rfl|(simp [ufs,bkL,rwL];done)|(simp [ufs,bkL,rwL];omega)
  have hc10':=hc10;try simp only [sumB,dns] at hc10'
  refine AC.sk ?_
  refine AC.goes ttk 5 rfl ?_
  refine AC.goes ttk 2 rfl ?_
  refine AC.ret ?_
  refine block_ret ?_
  refine then_ret ?_
  have hX:doB b days d=((⟨b.time,true,b.cards,b.due,b.auths,b.s0,b.s1,b.n0,b.n1,b.w0,b.w1,b.stand,b.today,b.book⟩:Bk),days,(⟨0,0⟩:Answer)):=by
    unfold doB;(repeat' (first|rw [if_pos (by omega)]|rw [if_neg (by omega)]|fail))<;>first|rfl|(simp_all;done)
  rw [hX] at hr;clear hX
  simp only [Prod.mk.injEq] at hr;obtain ⟨rfl,rfl,rfl⟩:=hr
  refine retQ_go ttk [0,1,2,3,4,5,6] 6 rfl rfl rfl rfl rfl rfl ?_ ?_
  all_goals first|rfl|(simp [ufs,bkL,rwL];done)|(simp [ufs,bkL,rwL];omega)
 have hc9':=of_decide_eq_false hc9
 refine AC.goes ttk 2 rfl ?_
 refine AC.cond rfl (fun hc11=>?_) (fun hc11=>?_)
 ·
  have hc11':=of_decide_eq_true hc11
  refine AC.go ttk 1 rfl ?_
  obtain ⟨b27,a27,hr7⟩:∃ (b27:Bk) (a27:Answer),upB b=(b27,a27):=⟨_,_,rfl⟩
  refine AL.cn 11 [0,7,8,9,10,6,5] (g_callR0 id (rhoOf [0,7,8,9,10]) (ms:=(bkM b 1 2 3 4 none none)) (ms':=(bkM b27 1 2 3 4 none none)) (fun x hx=>c_up x hx b (by first|assumption|exact Okb.tick (by assumption) (by omega) (by omega)) b27 a27 hr7) en68 rfl rfl ⟨⟨_,rfl,.inl ⟨rfl,rfl⟩⟩,trivial⟩ rfl rfl rfl rfl rfl rfl rfl ⟨rfl,rfl,rfl,rfl,trivial⟩ rfl rfl rfl rfl rfl rfl rfl rfl rfl rfl rfl rfl rfl) rfl ?_
  refine AL.runs ttk 1 rfl ?_
  refine AL.nx ?_
  refine AC.ret ?_
  refine block_ret ?_
  refine then_ret ?_
  have hX:doB b days d=(b27,days,a27):=by
    unfold doB;(repeat' (first|rw [if_pos (by omega)]|rw [if_neg (by omega)]|fail))<;>first|rfl|(simp only [hr7];done)|(simp only [hr7];rfl)|(simp_all;done)
  rw [hX] at hr;clear hX
  simp only [Prod.mk.injEq] at hr;obtain ⟨rfl,rfl,rfl⟩:=hr
  refine retQ_go ttk [0,7,8,9,10,5,6] 6 rfl rfl rfl rfl rfl rfl ?_ ?_
  all_goals first|rfl|(simp [ufs,bkL,rwL];done)|(simp [ufs,bkL,rwL];omega)
 have hc11':=of_decide_eq_false hc11
 refine AC.goes ttk 2 rfl ?_
 refine AC.cond rfl (fun hc12=>?_) (fun hc12=>?_)
 ·
  have hc12':=of_decide_eq_true hc12
  refine AC.go ttk 1 rfl ?_
  obtain ⟨today28,days28,a28,hr8⟩:∃ (today28:List Record) (days28:List (List Int)) (a28:Answer),overK b.today days=(today28,days28,a28):=⟨_,_,_,rfl⟩
  refine AL.cn 9 [0,7,8,6,1,2,3] (g_callR0 (rhoOf [0,4,5]) (rhoOf [0,7,8]) (ms:=((nmL.set 16 (some (.s 1 0 4 b.today.length))).set 17 (some (.s 2 0 1 days.length)))) (ms':=((nmL.set 16 (some (.s 1 0 4 today28.length))).set 17 (some (.s 2 0 1 days28.length)))) (fun x hx=>c_over x hx b.today days (by first|omega|(simp;done)|(simp;omega)) (by first|omega|(simp;done)|(simp;omega)) today28 days28 a28 hr8) en69 rfl rfl ⟨⟨_,rfl,.inl ⟨rfl,rfl⟩⟩,trivial⟩ rfl rfl rfl rfl rfl rfl rfl ⟨rfl,rfl,trivial⟩ rfl rfl rfl rfl rfl rfl rfl rfl rfl rfl rfl rfl rfl) rfl ?_
  refine AL.runs ttk 1 rfl ?_
  refine AL.nx ?_
  refine AC.ret ?_
  refine block_ret ?_
  refine then_ret ?_
  have hX:doB b days d=((⟨b.time,b.down,b.cards,b.due,b.auths,b.s0,b.s1,b.n0,b.n1,b.w0,b.w1,b.stand,today28,b.book⟩:Bk),days28,a28):=by
    unfold doB;(repeat' (first|rw [if_pos (by omega)]|rw [if_neg (by omega)]|fail))<;>first|rfl|(simp only [hr8];done)|(simp only [hr8];rfl)|(simp_all;done)
  rw [hX] at hr;clear hX
  simp only [Prod.mk.injEq] at hr;obtain ⟨rfl,rfl,rfl⟩:=hr
  refine retQ_go ttk [0,1,2,3,7,8,6] 6 rfl rfl rfl rfl rfl rfl ?_ ?_
  all_goals first|rfl|(simp [ufs,bkL,rwL];done)|(simp [ufs,bkL,rwL];omega)
 have hc12':=of_decide_eq_false hc12
 refine AC.goes ttk 2 rfl ?_
 refine AC.cond rfl (fun hc13=>?_) (fun hc13=>?_)
 ·
  have hc13':=of_decide_eq_true hc13
  refine AC.go ttk 2 rfl ?_
  obtain ⟨b29,a29,hr9⟩:∃ (b29:Bk) (a29:Answer),payB b d=(b29,a29):=⟨_,_,rfl⟩
  refine AL.cn 11 [0,7,8,9,10,6,5] (g_callR0 id (rhoOf [0,7,8,9,10]) (ms:=(bkM b 1 2 3 4 none none)) (ms':=(bkM b29 1 2 3 4 none none)) (fun x hx=>c_pay x hx b d (by first|assumption|exact Okb.tick (by assumption) (by omega) (by omega)) b29 a29 hr9) en70 rfl rfl ⟨⟨_,rfl,.inl ⟨rfl,rfl⟩⟩,⟨_,rfl,.inl ⟨rfl,rfl⟩⟩,trivial⟩ rfl rfl rfl rfl rfl rfl rfl ⟨rfl,rfl,rfl,rfl,trivial⟩ rfl rfl rfl rfl rfl rfl rfl rfl rfl rfl rfl rfl rfl) rfl ?_
  refine AL.runs ttk 1 rfl ?_
  refine AL.nx ?_
  refine AC.ret ?_
  refine block_ret ?_
  refine then_ret ?_
  have hX:doB b days d=(b29,days,a29):=by
    unfold doB;(repeat' (first|rw [if_pos (by omega)]|rw [if_neg (by omega)]|fail))<;>first|rfl|(simp only [hr9];done)|(simp only [hr9];rfl)|(simp_all;done)
  rw [hX] at hr;clear hX
  simp only [Prod.mk.injEq] at hr;obtain ⟨rfl,rfl,rfl⟩:=hr
  refine retQ_go ttk [0,7,8,9,10,5,6] 6 rfl rfl rfl rfl rfl rfl ?_ ?_
  all_goals first|rfl|(simp [ufs,bkL,rwL];done)|(simp [ufs,bkL,rwL];omega)
 have hc13':=of_decide_eq_false hc13
 refine AC.skip ?_
 refine block_ok ?_
 refine then_ok ?_
 refine AC.goes ttk 2 rfl ?_
 refine AC.ret ?_
 have hX:doB b days d=(b,days,(⟨1,0⟩:Answer)):=by
   unfold doB;(repeat' (first|rw [if_pos (by omega)]|rw [if_neg (by omega)]|fail))<;>first|rfl|(simp_all;done)
 rw [hX] at hr;clear hX
 simp only [Prod.mk.injEq] at hr;obtain ⟨rfl,rfl,rfl⟩:=hr
 refine retQ_go ttk [0,1,2,3,4,5,6] 6 rfl rfl rfl rfl rfl rfl ?_ ?_
 all_goals first|rfl|(simp [ufs,bkL,rwL];done)|(simp [ufs,bkL,rwL];omega)
end Go.Proofs.Ytegepioggeggaaa.Dev
namespace Go.Proofs.Ytegepioggeggaaa.Dev
open Go.RowKit

set_option maxRecDepth 100000 in
set_option maxHeartbeats 4000000 in
theorem c_once (x:Nat->Value) (hx:∀ i,(x i).oneCell'=true) (b:Bk) (days:List (List Int)) (told:List (Int×Answer)) (cl:Nat) (d:Deed) (ok:Okb b) (hy:days.length<=1000) (b2:Bk) (y2:List (List Int)) (t2:List (Int×Answer)) (c2:Nat) (a2:Answer) (hr:onceB b days told cl d=(b2,y2,t2,c2,a2)):FnE Try.prog 42 [(.c (.p 0 0 0 0)),(.c (.q (rDeed d) 0))] [(0,(.box 98 (bkL b 1 2 3 4 (.s 5 0 1 days.length) (.m 6)))),(1,(alC b.cards)),(2,(alI b.due)),(3,(alP b.auths)),(4,(alR b.today)),(5,(alY days)),(6,(.map (tV told) cl))] [0] (.v (.g [cI a2.err,cI a2.auth])) [(0,(.box 98 (bkL b2 1 2 3 4 (.s 5 0 1 y2.length) (.m 6)))),(1,(alC b2.cards)),(2,(alI b2.due)),(3,(alP b2.auths)),(4,(alR b2.today)),(5,(alY y2)),(6,(.map (tV t2) c2))]:=by
 refine FnE.mk 42 [(0,(aC (.p 0 0 0 0))),(1,(aC (.q (rDeed d) 0)))] 7 Try.func42 rfl rfl rfl rfl rfl rfl rfl rfl rfl ?_
 intro W0 F0 T0 pg
 obtain ⟨okt,okc,okd,oka,oky,okw0,okw1,okp,okv,okk0,okk1,okg,okl0,okl1,okp0,okp1,okn0,okn1,okq⟩:=id ok
 refine AC.goes ttk 1 rfl ?_
 refine AC.seq ?_
 refine AC.seq ?_
 refine AC.drawQ [0,1,4] [7,0,1,2,3,4,5,6] mixed rfl rfl ?_
 refine PW.runs (kn:=[]) ttk 8 rfl trivial ?_
 refine PW.op (n':=8) [12,16] [6] rfl rfl (.inl ⟨(Wanted.plain rfl),GOp.cast (g_lookupT (ps:=told) Try.underlying96 Try.underlying3 zv65 rfl rfl rfl rfl) rfl⟩) rfl ?_
 refine PW.runs (n':=9) (kn:=[]) ttk 6 rfl trivial ?_
 refine PW.fin [0,1,4,5,6] [8,7,0,1,2,3,4,5,6] rfl rfl (by kernel_rfl) ?_
 refine then_ok ?_
 refine AC.cutB 27 (((tget told d.id).isSome) && (decide (¬d.id=0))) ?_ ?_
 ·
  refine AC.region ?_
  refine AL.runs ttk 2 rfl ?_
  refine AL.dec (t:=21) rfl (fun hb1=>?_) (fun hb1=>?_)
  ·
   have hb1':=hb1;try simp only [sumB,dns] at hb1'
   refine AL.runs ttk 6 rfl ?_
   refine AL.nx ?_
   exact Weak.popB 9 rfl rfl (by first|(simp [hb1];done)|(simp_all;done)|(exfalso;simp_all;done)|(simp_all;omega)) rfl
  have hb1':=hb1;try simp only [sumB,dns] at hb1'
  refine AL.runs ttk 6 rfl ?_
  refine AL.nx ?_
  exact Weak.popB 9 rfl rfl (by first|(simp [hb1];done)|(simp_all;done)|(exfalso;simp_all;done)|(simp_all;omega)) rfl
 refine AC.cond rfl (fun hc2=>?_) (fun hc2=>?_)
 ·
  have hc2':=hc2;try simp only [sumB,dns] at hc2'
  refine AC.goes ttk 2 rfl ?_
  refine AC.ret ?_
  refine then_ret ?_
  have hX:onceB b days told cl d=(b,days,told,cl,((tget told d.id).getD ⟨0,0⟩)):=by
    unfold onceB;(repeat' split)<;>first|rfl|omega|(exfalso;omega)|(simp_all;done)|(simp_all;omega)
  rw [hX] at hr;clear hX
  simp only [Prod.mk.injEq] at hr;obtain ⟨rfl,rfl,rfl,rfl,rfl⟩:=hr
  refine retQ_go ttk [0,1,2,3,4,5,6,7] 7 rfl rfl rfl rfl rfl rfl ?_ ?_
  all_goals first|rfl|(simp [ufs,bkL,rwL];done)|(simp [ufs,bkL,rwL];omega)
 have hc2':=hc2;try simp only [sumB,dns] at hc2'
 refine AC.sk ?_
 refine AC.go ttk 2 rfl ?_
 obtain ⟨b20,y20,a20,hr0⟩:∃ (b20:Bk) (y20:List (List Int)) (a20:Answer),doB b days d=(b20,y20,a20):=⟨_,_,_,rfl⟩
 refine AL.cn 14 [0,9,10,11,12,13,8,7,6] (g_callR0 id (rhoOf [0,9,10,11,12,13]) (ms:=(bkM b 1 2 3 4 (some (.s 5 0 1 days.length)) none)) (ms':=(bkM b20 1 2 3 4 (some (.s 5 0 1 y20.length)) none)) (fun x hx=>c_do x hx b days d (by first|assumption|exact Okb.tick (by assumption) (by omega) (by omega)) (by first|omega|(simp;done)|(simp;omega)) b20 y20 a20 hr0) en56 rfl rfl ⟨⟨_,rfl,.inl ⟨rfl,rfl⟩⟩,⟨_,rfl,.inl ⟨rfl,rfl⟩⟩,trivial⟩ rfl rfl rfl rfl rfl rfl rfl ⟨rfl,rfl,rfl,rfl,rfl,trivial⟩ rfl rfl rfl rfl rfl rfl rfl rfl rfl rfl rfl rfl rfl) rfl ?_
 refine AL.runs ttk 2 rfl ?_
 refine AL.nx ?_
 refine AC.seq ?_
 refine AC.drawP [0,1,4,7] [14,0,9,10,11,12,13,7,6] mixed rfl rfl ?_
 refine PD.runs (kn:=[]) ttk 9 rfl trivial ?_
 refine PD.fin [14,0,9,10,11,12,13,7,6] rfl rfl rfl rfl (by kernel_rfl) ?_
 refine AL.so [14,0,9,10,11,12,13,7,6] (g_updateT Try.underlying96 Try.underlying3 rfl rfl rfl rfl rfl) rfl ?_
 refine AL.nx ?_
 refine AC.goes ttk 2 rfl ?_
 refine AC.ret ?_
 have hX:onceB b days told cl d=(b20,y20,tput told d.id a20,if (tget told d.id).isSome then cl else cl+1,a20):=by
   unfold onceB;simp only [hr0];(repeat' split)<;>first|rfl|omega|(exfalso;omega)|(simp_all;done)|(simp_all;omega)
 rw [hX] at hr;clear hX
 simp only [Prod.mk.injEq] at hr;obtain ⟨rfl,rfl,rfl,rfl,rfl⟩:=hr
 refine retQ_go ttk [0,9,10,11,12,13,6,7] 7 rfl rfl rfl rfl rfl rfl ?_ ?_
 all_goals first|rfl|(simp [ufs,bkL,rwL];done)|(simp [ufs,bkL,rwL];omega)
end Go.Proofs.Ytegepioggeggaaa.Dev
namespace Go.Proofs.Ytegepioggeggaaa.Dev
open Go.RowKit

set_option maxRecDepth 100000 in
set_option maxHeartbeats 1000000 in
theorem c_bank_Wrong (s:Setup) (f:Fault) (hr:wrongSet s=f):Fn Try.prog 40 [(.g [(cR 3 ((s.paces).map rPace)),(cI s.shops),(cI s.cap)])] (.v (.g [(cI f.err),(cI f.at_)])) []:=by
 refine Fn.mk' 47 [(0,(aG [(cR 3 ((s.paces).map rPace)),(cI s.shops),(cI s.cap)]))] Try.func40 rfl rfl rfl rfl ?_
 intro W0 T0
 refine AC.lenG 0 0 rfl rfl (fun hlen0_0=>?_)
 refine AC.goes ttk 2 rfl ?_
 refine AC.seq ?_
 refine AC.cutB 19 (((decide ((↑s.paces.length:Int) > 8))||(decide (s.shops < 0)))||(decide (s.shops > 8))) ?_ ?_
 ·
  refine AC.region ?_
  refine AL.runs ttk 2 rfl ?_
  refine AL.vl (g_lenM rfl rfl rfl rfl rfl Try.underlying53) rfl ?_
  refine AL.runs ttk 2 rfl ?_
  refine AL.dec (t:=10) rfl (fun hb1=>?_) (fun hb1=>?_)
  ·
   have hb1':=of_decide_eq_true hb1
   refine AL.runs ttk 9 rfl ?_
   refine AL.nx ?_
   exact Weak.popB 15 rfl rfl (by first|(simp [hb1];done)|(simp_all;done)|(exfalso;simp_all;done)|(simp_all;omega)) rfl
  have hb1':=of_decide_eq_false hb1
  refine AL.runs ttk 5 rfl ?_
  refine AL.dec (t:=15) rfl (fun hb2=>?_) (fun hb2=>?_)
  ·
   have hb2':=of_decide_eq_true hb2
   refine AL.runs ttk 4 rfl ?_
   refine AL.nx ?_
   exact Weak.popB 16 rfl rfl (by first|(simp [hb1,hb2];done)|(simp_all;done)|(exfalso;simp_all;done)|(simp_all;omega)) rfl
  have hb2':=of_decide_eq_false hb2
  refine AL.runs ttk 4 rfl ?_
  refine AL.nx ?_
  exact Weak.popB 16 rfl rfl (by first|(simp [hb1,hb2];done)|(simp_all;done)|(exfalso;simp_all;done)|(simp_all;omega)) rfl
 refine AC.cond rfl (fun hc3=>?_) (fun hc3=>?_)
 ·
  have hc3':=hc3;try simp only [sumB,dns] at hc3'
  refine AC.goes ttk 2 rfl ?_
  refine AC.ret ?_
  refine then_ret ?_
  have hX:wrongSet s=(⟨5,0⟩:Fault):=by
    unfold wrongSet;rw [if_pos (by omega)]
  rw [hX] at hr;clear hX
  subst hr
  refine retQ_go ttk [1] 0 rfl rfl rfl rfl rfl rfl ?_ ?_
  all_goals first|rfl|(simp [ufs,bkL,rwL];done)|(simp [ufs,bkL,rwL];omega)
 have hc3':=hc3;try simp only [sumB,dns] at hc3'
 refine AC.sk ?_
 refine AC.seq ?_
 refine AC.cutB 28 ((decide (s.cap < 0))||(decide (s.cap > 1000000))) ?_ ?_
 ·
  refine AC.region ?_
  refine AL.runs ttk 4 rfl ?_
  refine AL.dec (t:=24) rfl (fun hb4=>?_) (fun hb4=>?_)
  ·
   have hb4':=of_decide_eq_true hb4
   refine AL.runs ttk 4 rfl ?_
   refine AL.nx ?_
   exact Weak.popB 9 rfl rfl (by first|(simp [hb4];done)|(simp_all;done)|(exfalso;simp_all;done)|(simp_all;omega)) rfl
  have hb4':=of_decide_eq_false hb4
  refine AL.runs ttk 4 rfl ?_
  refine AL.nx ?_
  exact Weak.popB 9 rfl rfl (by first|(simp [hb4];done)|(simp_all;done)|(exfalso;simp_all;done)|(simp_all;omega)) rfl
 refine AC.cond rfl (fun hc5=>?_) (fun hc5=>?_)
 ·
  have hc5':=hc5;try simp only [sumB,dns] at hc5'
  refine AC.goes ttk 2 rfl ?_
  refine AC.ret ?_
  refine then_ret ?_
  have hX:wrongSet s=(⟨3,0⟩:Fault):=by
    unfold wrongSet;rw [if_neg (by omega),if_pos (by omega)]
  rw [hX] at hr;clear hX
  subst hr
  refine retQ_go ttk [1] 0 rfl rfl rfl rfl rfl rfl ?_ ?_
  all_goals first|rfl|(simp [ufs,bkL,rwL];done)|(simp [ufs,bkL,rwL];omega)
 have hc5':=hc5;try simp only [sumB,dns] at hc5'
 refine AC.sk ?_
 refine AC.seq ?_
 refine AC.go ttk 2 rfl ?_
 refine AL.vl (g_lenM rfl rfl rfl rfl rfl Try.underlying53) rfl ?_
 refine AL.runs ttk 1 rfl ?_
 refine AL.nx ?_
 refine AC.block ?_
 refine AC.loop (β:=Nat) (fun (q:Nat)=>⟨[(2,(aC (.p 1 0 0 0))),(31,(aC (cR 3 ((s.paces).map rPace)))),(32,(aI (↑s.paces.length:Int))),(33,(aI (↑q:Int)))],[(1,(.box 50 [(cI 0),(cI 0)]))],2⟩) (fun (q:Nat)=>q<=s.paces.length/\pErr s.paces 0=pErr (s.paces.drop q) q) (fun (q:Nat)=>s.paces.length - q) 0 ?_ ?_ ?_
 ·exact ⟨by omega,rfl⟩
 ·exact Weak.ren id (by refine ⟨?_,?_,?_,?_,trivial⟩<;>first|rfl|(simp only [mps];done)|(congr 3;omega)|(congr 4;omega)|(simp only [lns];rfl)) (⟨by first|rfl|(simp only [mps];done)|(congr 3;omega)|(congr 4;omega)|(simp only [lns];rfl),trivial⟩) rfl
 rintro q ⟨hi0_0,hi0_1⟩
 refine AC.goes ttk 1 rfl ?_
 refine AC.seq ?_
 refine AC.cond rfl (fun hc6=>?_) (fun hc6=>?_)
 ·
  have hc6':=of_decide_eq_true hc6
  refine AC.sk ?_
  refine AC.seq ?_
  refine AC.block ?_
  refine AC.go ttk 1 rfl ?_
  obtain ⟨x1,hx1⟩:=exget (xs:=s.paces) (i:=q) (by first|omega|(simp;done)|(simp;omega))
  refine AL.vl (g_indexQ (i:=q) rfl rfl rfl Try.underlying53 sz58 (by first|omega|(simp;done)|(simp;omega)) (getmap hx1)) rfl ?_
  refine AL.runs ttk 4 rfl ?_
  refine AL.nx ?_
  refine AC.go ttk 1 rfl ?_
  obtain ⟨e0,hr0⟩:∃ (e0:Int),wrongP x1=e0:=⟨_,rfl⟩
  refine AL.cn 3 [2,1] (g_call 3 (c_pace_WrongN x1 e0 hr0) en44 rfl rfl ⟨⟨_,rfl,.g ⟨.d _,.d _,.d _,trivial⟩⟩,trivial⟩ trivial trivial rfl rfl rfl rfl) rfl ?_
  refine AL.runs ttk 1 rfl ?_
  refine AL.nx ?_
  refine AC.goes ttk 2 rfl ?_
  refine AC.cond rfl (fun hc7=>?_) (fun hc7=>?_)
  ·
   have hc7':=of_decide_eq_true hc7
   refine AC.goes ttk 4 rfl ?_
   refine AC.ret ?_
   refine block_ret ?_
   refine then_ret ?_
   refine then_ret ?_
   refine block_ret ?_
   refine then_ret ?_
   have hX:wrongSet s=(⟨e0,(↑q:Int)⟩:Fault):=by
     unfold wrongSet;rw [if_neg (by omega),if_neg (by omega),hi0_1,pErr_drop hx1,if_pos (by omega)];simp_all
   rw [hX] at hr;clear hX
   subst hr
   refine retQ_go ttk [1] 0 rfl rfl rfl rfl rfl rfl ?_ ?_
   all_goals first|rfl|(simp [ufs,bkL,rwL];done)|(simp [ufs,bkL,rwL];omega)
  have hc7':=of_decide_eq_false hc7
  refine AC.skip ?_
  refine block_ok ?_
  refine then_ok ?_
  refine AC.region ?_
  refine AL.vl (g_binI rfl rfl rfl (wrap_ok (by first|omega|(simp;done)|(simp;omega)))) rfl ?_
  refine AL.runs ttk 1 rfl ?_
  refine AL.nx ?_
  refine ⟨q+1,⟨by omega,by rw [hi0_1,pErr_drop hx1,if_neg (by omega)]⟩,by first|omega|(simp;done)|(simp;omega),Weak.ren id (by refine ⟨?_,?_,?_,?_,trivial⟩<;>first|rfl|(simp only [mps];done)|(congr 3;omega)|(congr 4;omega)|(simp only [lns];rfl)) (⟨by first|rfl|(simp only [mps];done)|(congr 3;omega)|(congr 4;omega)|(simp only [lns];rfl),trivial⟩) rfl⟩
 have hc6':=of_decide_eq_false hc6
 refine AC.exit ?_
 refine then_exit ?_
 refine then_exit ?_
 refine block_hit ?_
 refine then_ok ?_
 refine AC.goes ttk 2 rfl ?_
 refine AC.ret ?_
 have hX:wrongSet s=(⟨0,0⟩:Fault):=by
   unfold wrongSet;rw [if_neg (by omega),if_neg (by omega),hi0_1,List.drop_of_length_le (by omega)];rfl
 rw [hX] at hr;clear hX
 subst hr
 refine retQ_go ttk [1] 0 rfl rfl rfl rfl rfl rfl ?_ ?_
 all_goals first|rfl|(simp [ufs,bkL,rwL];done)|(simp [ufs,bkL,rwL];omega)
end Go.Proofs.Ytegepioggeggaaa.Dev
namespace Go.Proofs.Ytegepioggeggaaa.Dev
open Go.RowKit

set_option maxRecDepth 100000 in
set_option maxHeartbeats 8000000 in
theorem c_Play (s:Setup) (l:List Deed) (b2:Bk) (y2:List (List Int)) (o2:List Answer) (f2:Fault) (hr:playR s l=(b2,y2,o2,f2)):Fn Try.prog 22 [(.g [(cR 3 ((s.paces).map rPace)),(cI s.shops),(cI s.cap)]),(.c (vlD l))] (.t [(.g [(cI b2.time),(cB b2.down),(.s 0 0 6 b2.cards.length),(.s 1 0 1 b2.due.length),(.s 2 0 8 b2.auths.length),(cI b2.s0.sent),(vlT b2.s0.kept),(cI b2.s1.sent),(vlT b2.s1.kept),(cI b2.n0),(cI b2.n1),(vlK b2.w0),(vlK b2.w1),(cI b2.stand.cap),(vlI b2.stand.used),(vlA b2.stand.advices),(.s 3 0 4 b2.today.length),(.s 4 0 1 y2.length),(vlE b2.book)]),(.c (.s 5 0 2 o2.length)),(.g [(cI f2.err),(cI f2.at_)])]) [(0,(alC b2.cards)),(1,(alI b2.due)),(2,(alP b2.auths)),(3,(alR b2.today)),(4,(alY y2)),(5,(alN o2))]:=by
 refine Fn.mk' 89 [(0,(aG [(cR 3 ((s.paces).map rPace)),(cI s.shops),(cI s.cap)])),(1,(aC (vlD l)))] Try.func22 rfl rfl rfl rfl ?_
 intro W0 T0
 refine AC.lenG 0 0 rfl rfl (fun hlen0_0=>?_)
 refine AC.len1 1 rfl (fun hlen1=>?_)
 refine AC.goes ttk 4 rfl ?_
 refine AC.seq ?_
 refine AC.go ttk 1 rfl ?_
 obtain ⟨f0,hr0⟩:∃ (f0:Fault),wrongSet s=f0:=⟨_,rfl⟩
 refine AL.cn 3 [2,1,0] (g_call 3 (c_bank_Wrong s f0 hr0) en40 rfl rfl ⟨⟨_,rfl,.g ⟨.d _,.d _,.d _,trivial⟩⟩,trivial⟩ ⟨trivial,trivial,trivial⟩ trivial rfl rfl rfl rfl) rfl ?_
 refine AL.runs ttk 2 rfl ?_
 refine AL.nx ?_
 refine AC.goes ttk 3 rfl ?_
 refine AC.cond rfl (fun hc1=>?_) (fun hc1=>?_)
 ·
  have hc1':=of_decide_eq_true hc1
  refine AC.seq ?_
  refine AC.drawQ [1,2,4,6,7] [3,2,1,0] mixed rfl rfl ?_
  refine PW.runs (kn:=[]) ttk 5 rfl trivial ?_
  refine PW.fin [1,2,4,6,5] [2,1,0] rfl rfl (by kernel_rfl) ?_
  refine then_ok ?_
  refine AC.ret ?_
  refine then_ret ?_
  refine retQ_nilB 1 2 61 6 rfl rfl rfl ?_
  refine retQ_nilB 1 3 3 1 rfl rfl rfl ?_
  refine retQ_nilB 1 4 67 8 rfl rfl rfl ?_
  refine retQ_nilR 1 6 4 rfl rfl rfl ?_
  refine retQ_nilR 1 8 4 rfl rfl rfl ?_
  refine retQ_nilR 1 11 5 rfl rfl rfl ?_
  refine retQ_nilR 1 12 5 rfl rfl rfl ?_
  refine retQ_nilR 1 14 1 rfl rfl rfl ?_
  refine retQ_nilR 1 15 4 rfl rfl rfl ?_
  refine retQ_nilB 1 16 83 4 rfl rfl rfl ?_
  refine retQ_nilB 1 17 86 1 rfl rfl rfl ?_
  refine retQ_nilR 1 18 2 rfl rfl rfl ?_
  refine retQ_weak (Weak.nil 5 65 2 (by decide) rfl) ?_
  have hX:playR s l=((⟨0,false,([]:List Card),([]:List Int),([]:List Auth),(⟨0,[]⟩:Sender),(⟨0,[]⟩:Sender),0,0,[],[],(⟨0,[],[]⟩:Stand),([]:List Record),[]⟩:Bk),([]:List (List Int)),([]:List Answer),f0):=by
    unfold playR;rw [hr0,if_pos (by omega)];rfl
  rw [hX] at hr;clear hX
  simp only [Prod.mk.injEq] at hr;obtain ⟨rfl,rfl,rfl,rfl⟩:=hr
  refine retQ_go ttk [4,5,6,7,8,9,1,2] 6 rfl rfl rfl rfl rfl rfl ?_ ?_
  all_goals first|rfl|(simp [ufs,bkL,rwL];done)|(simp [ufs,bkL,rwL];omega)
 have hc1':=of_decide_eq_false hc1
 refine AC.sk ?_
 refine AC.seq ?_
 refine AC.go ttk 1 rfl ?_
 refine AL.vl (g_lenM rfl rfl rfl rfl rfl Try.underlying24) rfl ?_
 refine AL.runs ttk 1 rfl ?_
 refine AL.nx ?_
 refine AC.cond rfl (fun hc2=>?_) (fun hc2=>?_)
 ·
  have hc2':=of_decide_eq_true hc2
  refine AC.goes ttk 5 rfl ?_
  refine AC.ret ?_
  refine then_ret ?_
  refine retQ_nilB 1 2 61 6 rfl rfl rfl ?_
  refine retQ_nilB 1 3 3 1 rfl rfl rfl ?_
  refine retQ_nilB 1 4 67 8 rfl rfl rfl ?_
  refine retQ_nilR 1 6 4 rfl rfl rfl ?_
  refine retQ_nilR 1 8 4 rfl rfl rfl ?_
  refine retQ_nilR 1 11 5 rfl rfl rfl ?_
  refine retQ_nilR 1 12 5 rfl rfl rfl ?_
  refine retQ_nilR 1 14 1 rfl rfl rfl ?_
  refine retQ_nilR 1 15 4 rfl rfl rfl ?_
  refine retQ_nilB 1 16 83 4 rfl rfl rfl ?_
  refine retQ_nilB 1 17 86 1 rfl rfl rfl ?_
  refine retQ_nilR 1 18 2 rfl rfl rfl ?_
  refine retQ_weak (Weak.nil 5 65 2 (by decide) rfl) ?_
  have hX:playR s l=((⟨0,false,([]:List Card),([]:List Int),([]:List Auth),(⟨0,[]⟩:Sender),(⟨0,[]⟩:Sender),0,0,[],[],(⟨0,[],[]⟩:Stand),([]:List Record),[]⟩:Bk),([]:List (List Int)),([]:List Answer),(⟨5,0⟩:Fault)):=by
    unfold playR;rw [hr0,if_neg (by omega),if_pos (by omega)];rfl
  rw [hX] at hr;clear hX
  simp only [Prod.mk.injEq] at hr;obtain ⟨rfl,rfl,rfl,rfl⟩:=hr
  refine retQ_go ttk [4,5,6,7,8,9,1,2] 6 rfl rfl rfl rfl rfl rfl ?_ ?_
  all_goals first|rfl|(simp [ufs,bkL,rwL];done)|(simp [ufs,bkL,rwL];omega)
 have hc2':=of_decide_eq_false hc2
 refine AC.sk ?_
 refine AC.sr ?_
 refine AL.cn 5 [4,3,2,1,0] (g_makeMapT 4 rfl) rfl ?_
 refine AL.runs ttk 3 rfl ?_
 refine AL.nx ?_
 refine AC.seq ?_
 obtain ⟨w1,w2,w3,w4,w5,w6⟩:=wrongSet_zero (s:=s) (by rw [hr0];omega)
 refine AC.nilB 5 2 61 6 rfl rfl rfl ?_
 refine AC.nilB 5 4 67 8 rfl rfl rfl ?_
 refine AC.nilR 5 6 4 rfl rfl rfl ?_
 refine AC.nilR 5 8 4 rfl rfl rfl ?_
 refine AC.nilR 5 11 5 rfl rfl rfl ?_
 refine AC.nilR 5 12 5 rfl rfl rfl ?_
 refine AC.nilR 5 14 1 rfl rfl rfl ?_
 refine AC.nilR 5 15 4 rfl rfl rfl ?_
 refine AC.nilB 5 16 83 4 rfl rfl rfl ?_
 refine AC.nilB 5 17 86 1 rfl rfl rfl ?_
 refine AC.nilR 5 18 2 rfl rfl rfl ?_
 refine AC.go ttk 2 rfl ?_
 refine AL.vl (g_lenM rfl rfl rfl rfl rfl Try.underlying53) rfl ?_
 refine AL.runs ttk 1 rfl ?_
 refine AL.nx ?_
 refine AC.block ?_
 refine AC.loop (β:=Nat×List Card) (fun (p:Nat×List Card)=>match p with|(q,m)=>⟨[(1,(aC (vlD l))),(2,(aC (.p 0 0 0 0))),(4,(aC (.p 1 0 0 0))),(5,(aC cN)),(6,(aC (.p 2 0 0 0))),(8,(aC (.p 5 0 0 0))),(29,(aC (cR 3 ((s.paces).map rPace)))),(30,(aI (↑s.paces.length:Int))),(31,(aI (↑q:Int)))],[(9,(alY ([]:List (List Int)))),(8,(alR ([]:List Record))),(7,(alP ([]:List Auth))),(6,(alC m)),(5,(.box 98 [(cI 0),(cB false),(.s 6 0 6 m.length),cN,(.s 7 0 8 0),(cI 0),(vlT ([]:List Transfer)),(cI 0),(vlT ([]:List Transfer)),(cI 0),(cI 0),(vlK ([]:List Packet)),(vlK ([]:List Packet)),(cI 0),(vlI ([]:List Int)),(vlA ([]:List Advice)),(.s 8 0 4 0),(.s 9 0 1 0),(vlE ([]:List Entry)),(.m 4)])),(4,(.map (tV ([]:List (Int×Answer))) 0)),(2,(.box 50 [(cI 0),(cI 0)])),(1,(.box 46 [(cI 0),(cB false),cN,cN,cN,(cI 0),cN,(cI 0),cN,(cI 0),(cI 0),cN,cN,(cI 0),cN,cN,cN,cN,cN])),(0,(.box 55 [(cR 3 ((s.paces).map rPace)),(cI s.shops),(cI s.cap)]))],10⟩) (fun (p:Nat×List Card)=>match p with|(q,m)=>q<=s.paces.length/\m=(s.paces.take q).map cardP/\m.length=q) (fun (p:Nat×List Card)=>match p with|(q,m)=>s.paces.length - q) (0,([]:List Card)) ?_ ?_ ?_
 ·exact ⟨by omega,rfl,rfl⟩
 ·exact Weak.ren id (by refine ⟨?_,?_,?_,?_,?_,?_,?_,?_,?_,trivial⟩<;>first|rfl|(simp only [mps];done)|(congr 3;omega)|(congr 4;omega)|(simp only [lns];rfl)) (by refine ⟨?_,?_,?_,?_,?_,?_,?_,?_,?_,trivial⟩<;>first|rfl|(simp only [mps];done)|(congr 3;omega)|(congr 4;omega)|(simp only [lns];rfl)) rfl
 rintro ⟨q,m⟩ ⟨hi0_0,hi0_1,hi0_2⟩
 refine AC.goes ttk 1 rfl ?_
 refine AC.seq ?_
 refine AC.cond rfl (fun hc3=>?_) (fun hc3=>?_)
 ·
  have hc3':=of_decide_eq_true hc3
  refine AC.sk ?_
  refine AC.seq ?_
  refine AC.block ?_
  refine AC.sr ?_
  obtain ⟨x1,hx1⟩:=exget (xs:=s.paces) (i:=q) (by first|omega|(simp;done)|(simp;omega))
  refine AL.vl (g_indexQ (i:=q) rfl rfl rfl Try.underlying53 sz58 (by first|omega|(simp;done)|(simp;omega)) (getmap hx1)) rfl ?_
  refine AL.runs ttk 3 rfl ?_
  refine AL.nx ?_
  refine AC.drawP [1,2,4,5,6,8,29,30,31,10] [10,9,8,7,6,5,4,2,1,0] mixed rfl rfl ?_
  refine PD.runs (kn:=[]) ttk 7 rfl trivial ?_
  refine PD.op (n':=11) [41] [] rfl rfl (.inl ⟨(Wanted.plain rfl),GOp.cast (GOp.nilG (cs':=[(cI 0),(cI 0),(cI x1.ticks),(cI x1.count),(cI x1.sum),(vlU ([]:List Use))]) 5 2 (g_build (ys:=[(2,(.g [(cI x1.ticks),(cI x1.count),(cI x1.sum)]))]) rfl bld61 rfl ⟨⟨rfl,rfl⟩,trivial⟩ rfl rfl) rfl rfl) rfl⟩) rfl ?_
  refine PD.op (n':=12) [42] [] rfl rfl (.inl ⟨(Wanted.plain rfl),GOp.cast (g_lit (ys:=[(0,(.g [(cI 0),(cI 0),(cI x1.ticks),(cI x1.count),(cI x1.sum),(vlU ([]:List Use))]))]) (rows:=([(⟨0,0,x1,([]:List Use)⟩:Card)]).map rCard) 11 sl29 rfl (by decide) ⟨⟨rfl,rfl⟩,trivial⟩ rfl rfl rfl rfl) rfl⟩) rfl ?_
  refine PD.op (n':=13) [40,43] [11,6] rfl rfl (.inl ⟨(Wanted.plain rfl),GOp.cast (g_append (m:=1) (N:=m.length+1) (k2:=12) (ys:=([(⟨0,0,x1,([]:List Use)⟩:Card)]).map rCard) sl29 rfl rfl rfl rfl rfl rfl (by first|omega|(simp;done)|(simp;omega)) rfl (.s rfl (by first|omega|(simp;done)|(simp;omega))) (by first|omega|(simp;done)|(simp;omega)) (by first|omega|(simp;done)|(simp;omega)) appmap (by decide) (by first|omega|(simp;done)|(simp;omega)) (by first|omega|(simp;done)|(simp;omega))) rfl⟩) rfl ?_
  refine PD.runs (kn:=[]) ttk 3 rfl trivial ?_
  refine PD.fin [12,10,9,8,7,5,4,2,1,0] rfl rfl rfl rfl (by kernel_rfl) ?_
  refine AL.runs ttk 1 rfl ?_
  refine AL.nil ?_
  refine block_ok ?_
  refine then_ok ?_
  refine AC.region ?_
  refine AL.vl (g_binI rfl rfl rfl (wrap_ok (by first|omega|(simp;done)|(simp;omega)))) rfl ?_
  refine AL.runs ttk 1 rfl ?_
  refine AL.nx ?_
  refine ⟨(q+1,m++([(⟨0,0,x1,([]:List Use)⟩:Card)])),⟨by omega,by rw [take_get hx1,List.map_append,<-hi0_1];rfl,by rw [List.length_append,hi0_2];rfl⟩,by first|omega|(simp;done)|(simp;omega),Weak.ren (fun k=>if k=6 then 12 else k) (by refine ⟨?_,?_,?_,?_,?_,?_,?_,?_,?_,trivial⟩<;>first|rfl|(simp only [mps];done)|(congr 3;omega)|(congr 4;omega)|(simp only [lns];rfl)) (by refine ⟨?_,?_,?_,?_,?_,?_,?_,?_,?_,trivial⟩<;>first|rfl|(simp only [mps];done)|(congr 3;omega)|(congr 4;omega)|(simp only [lns];rfl)) rfl⟩
 have hc3':=of_decide_eq_false hc3
 refine AC.exit ?_
 refine then_exit ?_
 refine then_exit ?_
 refine block_hit ?_
 refine then_ok ?_
 refine AC.go ttk 3 rfl ?_
 refine AL.cn 11 [10,9,8,7,6,5,4,2,1,0] (g_makeI 10 sl30 zv3 rfl rfl rfl (n:=Int.toNat (s.shops)) (by first|omega|(simp;done)|(simp;omega)) (by first|omega|(simp;done)|(simp;omega)) (by first|omega|(simp;done)|(simp;omega)) (by first|omega|(simp;done)|(simp;omega))) rfl ?_
 refine AL.runs ttk 4 rfl ?_
 refine AL.nx ?_
 refine AC.go ttk 5 rfl ?_
 refine AL.vl (g_lenM rfl rfl rfl rfl rfl Try.underlying53) rfl ?_
 have hr1:newStand s.cap (↑s.paces.length:Int)=((newStand s.cap (↑s.paces.length:Int)).1,(newStand s.cap (↑s.paces.length:Int)).2):=rfl
 refine AL.cn 11 [10,9,8,7,6,5,4,2,1,0] (g_call 11 (Fn.frozen (av':=(.t [(.g [(cI (((newStand s.cap (↑s.paces.length:Int)).1).cap)),(vlI (((newStand s.cap (↑s.paces.length:Int)).1).used)),(vlA (((newStand s.cap (↑s.paces.length:Int)).1).advices))]),(.c (cI ((newStand s.cap (↑s.paces.length:Int)).2)))])) (c_stand_New s.cap (↑s.paces.length:Int) ((newStand s.cap (↑s.paces.length:Int)).1) ((newStand s.cap (↑s.paces.length:Int)).2) hr1) ⟨⟨.inl ⟨_,rfl,rfl⟩,.inr ⟨_,_,_,_,_,rfl,rfl,rfl,by simp⟩,.inr ⟨_,_,_,_,_,rfl,rfl,rfl,by simp⟩,trivial⟩,.inl ⟨_,rfl,rfl⟩,trivial⟩) en41 rfl rfl ⟨⟨_,rfl,.c (.d _)⟩,⟨_,rfl,.c (.d _)⟩,trivial⟩ ⟨⟨trivial,trivial,trivial,trivial⟩,trivial,trivial⟩ trivial rfl rfl rfl rfl) rfl ?_
 refine AL.runs ttk 7 rfl ?_
 refine AL.nx ?_
 refine AC.goes ttk 1 rfl ?_
 refine AC.seq ?_
 refine AC.go ttk 1 rfl ?_
 refine AL.vl (g_lenM rfl rfl rfl rfl rfl Try.underlying24) rfl ?_
 refine AL.runs ttk 1 rfl ?_
 refine AL.nx ?_
 refine AC.block ?_
 refine AC.weak (Weak.nil 11 65 2 (by decide) rfl) ?_
 have htk:m=s.paces.map cardP:=by rw [hi0_1,List.take_of_length_le (by omega)]
 subst htk
 refine AC.loop (β:=Nat×Bk×List (List Int)×List (Int×Answer)×Nat×List Answer) (fun (p:Nat×Bk×List (List Int)×List (Int×Answer)×Nat×List Answer)=>match p with|(u,b,days,told,cl,out)=>⟨[(1,(aC (vlD l))),(2,(aC (.p 0 0 0 0))),(4,(aC (.p 1 0 0 0))),(5,(aC cN)),(6,(aC (.p 2 0 0 0))),(8,(aC (.p 5 0 0 0))),(29,(aC (cR 3 ((s.paces).map rPace)))),(30,(aI (↑s.paces.length:Int))),(31,(aI (↑q:Int))),(11,(aC (.s 11 0 2 out.length))),(70,(aI (↑l.length:Int))),(71,(aI (↑u:Int)))],[(11,(alN out)),(10,(alI b.due)),(9,(alY days)),(8,(alR b.today)),(7,(alP b.auths)),(6,(alC b.cards)),(5,(.box 98 (bkL b 6 10 7 8 (.s 9 0 1 days.length) (.m 4)))),(4,(.map (tV told) cl)),(2,(.box 50 [(cI 0),(cI 0)])),(1,(.box 46 [(cI 0),(cB false),cN,cN,cN,(cI 0),cN,(cI 0),cN,(cI 0),(cI 0),cN,cN,(cI 0),cN,cN,cN,cN,cN])),(0,(.box 55 [(cR 3 ((s.paces).map rPace)),(cI s.shops),(cI s.cap)]))],12⟩) (fun (p:Nat×Bk×List (List Int)×List (Int×Answer)×Nat×List Answer)=>match p with|(u,b,days,told,cl,out)=>u<=l.length/\playL l (startB s) [] [] 0 []=playL (l.drop u) b days told cl out/\Okb b/\days.length<=u/\out.length=u) (fun (p:Nat×Bk×List (List Int)×List (Int×Answer)×Nat×List Answer)=>match p with|(u,b,days,told,cl,out)=>l.length - u) (0,startB s,([]:List (List Int)),([]:List (Int×Answer)),0,([]:List Answer)) ?_ ?_ ?_
 ·exact ⟨by omega,rfl,Okb.start (by rw [hr0];omega),by simp,rfl⟩
 ·exact Weak.ren id (by refine ⟨?_,?_,?_,?_,?_,?_,?_,?_,?_,?_,?_,?_,trivial⟩<;>first|rfl|(simp only [mps];done)|(congr 3;omega)|(congr 4;omega)|(simp only [lns];rfl)) (by refine ⟨?_,?_,?_,?_,?_,?_,?_,?_,?_,?_,?_,trivial⟩<;>first|rfl|(simp only [mps];done)|(congr 3;omega)|(congr 4;omega)|(simp only [lns];rfl)|(simp only [bkL,startB,List.length_replicate];rfl)) rfl
 rintro ⟨u,b,days,told,cl,out⟩ ⟨hi1_0,hi1_1,hi1_2,hi1_3,hi1_4⟩
 refine AC.goes ttk 1 rfl ?_
 refine AC.seq ?_
 refine AC.cond rfl (fun hc4=>?_) (fun hc4=>?_)
 ·
  have hc4':=of_decide_eq_true hc4
  refine AC.sk ?_
  refine AC.seq ?_
  refine AC.block ?_
  refine AC.goes ttk 2 rfl ?_
  refine AC.region ?_
  refine AL.runs ttk 4 rfl ?_
  obtain ⟨x1,hx1⟩:=exget (xs:=l) (i:=u) (by first|omega|(simp;done)|(simp;omega))
  refine AL.vl (g_indexQ (i:=u) rfl rfl rfl Try.underlying24 sz27 (by first|omega|(simp;done)|(simp;omega)) (getmap hx1)) rfl ?_
  obtain ⟨b22,y22,t22,c22,a22,hr2⟩:∃ (b22:Bk) (y22:List (List Int)) (t22:List (Int×Answer)) (c22:Nat) (a22:Answer),onceB b days told cl x1=(b22,y22,t22,c22,a22):=⟨_,_,_,_,_,rfl⟩
  refine AL.cn 18 [5,12,13,14,15,16,17,11,2,1,0] (g_callR0 (rhoOf [5,6,10,7,8,9,4]) (rhoOf [5,12,13,14,15,16,17]) (ms:=(bkM b 1 2 3 4 (some (.s 5 0 1 days.length)) (some (.m 6)))) (ms':=(bkM b22 1 2 3 4 (some (.s 5 0 1 y22.length)) (some (.m 6)))) (fun x hx=>c_once x hx b days told cl x1 (by first|assumption|exact Okb.tick (by assumption) (by omega) (by omega)) (by first|omega|(simp;done)|(simp;omega)) b22 y22 t22 c22 a22 hr2) en42 rfl rfl ⟨⟨_,rfl,.inl ⟨rfl,rfl⟩⟩,⟨_,rfl,.inl ⟨rfl,rfl⟩⟩,trivial⟩ rfl rfl rfl rfl rfl rfl rfl ⟨rfl,rfl,rfl,rfl,rfl,rfl,trivial⟩ rfl rfl rfl rfl rfl rfl rfl rfl rfl rfl rfl rfl rfl) rfl ?_
  refine AL.cn 19 [18,5,12,13,14,15,16,17,11,2,1,0] (g_lit (ys:=[(0,(.g [(cI a22.err),(cI a22.auth)]))]) (rows:=([a22]).map rAnswer) 18 sl47 rfl (by decide) ⟨⟨rfl,rfl⟩,trivial⟩ rfl rfl rfl rfl) rfl ?_
  refine AL.cn 20 [19,18,5,12,13,14,15,16,17,2,1,0] (g_append (m:=1) (N:=out.length+1) (k2:=19) (ys:=([a22]).map rAnswer) sl47 rfl rfl rfl rfl rfl rfl (by first|omega|(simp;done)|(simp;omega)) rfl (.s rfl (by first|omega|(simp;done)|(simp;omega))) (by first|omega|(simp;done)|(simp;omega)) (by first|omega|(simp;done)|(simp;omega)) appmap (by decide) (by first|omega|(simp;done)|(simp;omega)) (by first|omega|(simp;done)|(simp;omega))) rfl ?_
  refine AL.runs ttk 1 rfl ?_
  refine AL.nil ?_
  refine block_ok ?_
  refine then_ok ?_
  refine AC.region ?_
  refine AL.vl (g_binI rfl rfl rfl (wrap_ok (by first|omega|(simp;done)|(simp;omega)))) rfl ?_
  refine AL.runs ttk 1 rfl ?_
  refine AL.nx ?_
  refine ⟨(u+1,b22,y22,t22,c22,out++([a22])),⟨by omega,by rw [hi1_1,playL_drop hx1,hr2],(by have h:=Okb.once hi1_2 days told cl x1;rw [hr2] at h;exact h.1),(by have h:=(Okb.once hi1_2 days told cl x1).2;rw [hr2] at h;dsimp only at h;omega),by rw [List.length_append,hi1_4];rfl⟩,by first|omega|(simp;done)|(simp;omega),Weak.ren (fun k=>if k=11 then 19 else if k=4 then 17 else if k=9 then 16 else if k=8 then 15 else if k=7 then 14 else if k=10 then 13 else if k=6 then 12 else k) (by refine ⟨?_,?_,?_,?_,?_,?_,?_,?_,?_,?_,?_,?_,trivial⟩<;>first|rfl|(simp only [mps];done)|(congr 3;omega)|(congr 4;omega)|(simp only [lns];rfl)) (by refine ⟨?_,?_,?_,?_,?_,?_,?_,?_,?_,?_,?_,trivial⟩<;>first|rfl|(simp only [mps];done)|(congr 3;omega)|(congr 4;omega)|(simp only [lns];rfl)) rfl⟩
 have hc4':=of_decide_eq_false hc4
 refine AC.exit ?_
 refine then_exit ?_
 refine then_exit ?_
 refine block_hit ?_
 refine then_ok ?_
 refine AC.goes ttk 9 rfl ?_
 refine AC.ret ?_
 have hX:playR s l=(b,days,out,(⟨0,0⟩:Fault)):=by
   unfold playR;rw [hr0,if_neg (by omega),if_neg (by omega),hi1_1,List.drop_of_length_le (by omega)];rfl
 rw [hX] at hr;clear hX
 simp only [Prod.mk.injEq] at hr;obtain ⟨rfl,rfl,rfl,rfl⟩:=hr
 refine retQ_go ttk [6,10,7,8,9,11,1,2] 6 rfl rfl rfl rfl rfl rfl ?_ ?_
 all_goals first|rfl|(simp [ufs,bkL,rwL];done)|(simp [ufs,bkL,rwL];omega)
end Go.Proofs.Ytegepioggeggaaa.Dev
namespace Go.Proofs.Ytegepioggeggaaa.Dev
open Go.RowKit

end Go.Proofs.Ytegepioggeggaaa.Dev
namespace Go.Proofs.Ytegepioggeggaaa.Dev
open Go.RowKit


def setT (limit:Int):Setup:=⟨[⟨1000,30,1000000000000⟩,⟨1000,30,1000000000000⟩],2,limit⟩
def arrT (n:Int) (k:Nat):List Deed:=List.replicate k ⟨0,6,n,0,0,0⟩
def sideT (j:Nat):List Deed:=if j=0 then arrT 0 5++arrT 1 5 else if j=1 then arrT 1 5 else []
def come1:List Deed:=[⟨0,5,0,0,0,0⟩,⟨0,5,1,0,0,0⟩]++sideT 0
def comeX (n:Nat):List Deed:=(List.replicate n come1).flatten
def comeT (l:List Deed):List Deed:=l++comeX 2
theorem arrT_step {n:Int} {k:Nat} (h:k < 5):arrT n (5 - k)=[⟨0,6,n,0,0,0⟩]++arrT n (5 - (k+1)):=by
  have:5 - k=(5 - (k+1))+1:=by omega
  rw [this];rfl
theorem sideT_step {j:Nat} (h:j < 2):sideT j=arrT (↑j) 5++sideT (j+1):=by
  rcases j with _|_|j
  ·rfl
  ·rfl
  ·omega
theorem comeX_step {i:Nat} (h:i < 2):comeX (2 - i)=come1++comeX (2 - (i+1)):=by
  have:2 - i=(2 - (i+1))+1:=by omega
  rw [this];rfl
def smallT (l:List Int):Bool:=decide (∀ n∈l,1<=n/\n<=100000)

set_option maxRecDepth 100000 in
set_option maxHeartbeats 1000000 in
theorem c_setupT (limit:Int):Fn Try.prog 23 [(.c (cI limit))] (.v (.g [(.s 0 0 3 2),(cI 2),(cI limit)])) [(0,.arr 58 3 ((setT limit).paces.map rPace))]:=by
 refine Fn.mk' 10 [(0,(aI limit))] Try.func23 rfl rfl rfl rfl ?_
 intro W0 T0
 refine AC.goes ttk 1 rfl ?_
 refine AC.goes ttk 3 rfl ?_
 refine AC.go ttk 2 rfl ?_
 refine AL.cn 3 [2,1,0] (g_lit (ys:=[(0,(.g [(cI 1000),(cI 30),(cI 1000000000000)])),(1,(.g [(cI 1000),(cI 30),(cI 1000000000000)]))]) (rows:=([(⟨1000,30,1000000000000⟩:Pace),(⟨1000,30,1000000000000⟩:Pace)]).map rPace) 2 sl53 rfl (by decide) ⟨⟨rfl,rfl⟩,⟨rfl,rfl⟩,trivial⟩ rfl rfl rfl rfl) rfl ?_
 refine AL.runs ttk 3 rfl ?_
 refine AL.nx ?_
 refine AC.ret ?_
 refine retQ_go ttk [2,0] 1 rfl rfl rfl rfl rfl rfl ?_ ?_
 all_goals first|rfl|(simp [ufs,bkL,rwL];done)|(simp [ufs,bkL,rwL];omega)
set_option maxRecDepth 100000 in
set_option maxHeartbeats 1000000 in
theorem c_doT (k n s:Int):Fn Try.prog 20 [(.c (cI k)),(.c (cI n)),(.c (cI s))] (.v (.g [(cI 0),(cI k),(cI n),(cI 0),(cI 0),(cI s)])) []:=by
 refine Fn.mk' 11 [(0,(aI k)),(1,(aI n)),(2,(aI s))] Try.func20 rfl rfl rfl rfl ?_
 intro W0 T0
 refine AC.goes ttk 1 rfl ?_
 refine AC.goes ttk 5 rfl ?_
 refine AC.ret ?_
 refine retQ_go ttk [0] 0 rfl rfl rfl rfl rfl rfl ?_ ?_
 all_goals first|rfl|(simp [ufs,bkL,rwL];done)|(simp [ufs,bkL,rwL];omega)
set_option maxRecDepth 100000 in
set_option maxHeartbeats 1000000 in
theorem c_moveT (k n s:Int):Fn Try.prog 21 [(.c (cI k)),(.c (cI n)),(.c (cI s))] (.v (.g [(cI 0),(cI 3),(cI n),(cI 0),(cI k),(cI s)])) []:=by
 refine Fn.mk' 11 [(0,(aI k)),(1,(aI n)),(2,(aI s))] Try.func21 rfl rfl rfl rfl ?_
 intro W0 T0
 refine AC.goes ttk 1 rfl ?_
 refine AC.goes ttk 5 rfl ?_
 refine AC.ret ?_
 refine retQ_go ttk [0] 0 rfl rfl rfl rfl rfl rfl ?_ ?_
 all_goals first|rfl|(simp [ufs,bkL,rwL];done)|(simp [ufs,bkL,rwL];omega)
end Go.Proofs.Ytegepioggeggaaa.Dev
namespace Go.Proofs.Ytegepioggeggaaa.Dev
open Go.RowKit

set_option maxRecDepth 100000 in
set_option maxHeartbeats 1000000 in
theorem c_come (l:List Deed) (N:Nat) (hN:N=l.length) (hl:l.length<=1000) (r:List Deed) (hr:comeT l=r):FnE Try.prog 19 [(.c (.s 0 0 6 N))] [(0,(alD l))] [] (.v (.c (.s 0 0 6 r.length))) [(0,(alD r))]:=by
 refine FnE.mk 25 [(0,(aC (.s 0 0 6 N)))] 1 Try.func19 rfl rfl rfl rfl rfl rfl rfl rfl rfl ?_
 intro W0 F0 T0 pg
 refine AC.lenS 0 rfl (fun hlen0=>?_)
 refine AC.goes ttk 1 rfl ?_
 refine AC.seq ?_
 refine AC.goes ttk 1 rfl ?_
 refine AC.block ?_
 refine AC.loop (β:=Nat×List Deed) (fun (p:Nat×List Deed)=>match p with|(i,m0)=>⟨[(0,(aC (.s 0 0 6 m0.length))),(2,(aC cN)),(4,(aI (↑i:Int)))],[(0,(alD m0))],1⟩) (fun (p:Nat×List Deed)=>match p with|(i,m0)=>i<=2/\m0++comeX (2 - i)=comeT l/\m0.length+12 * (2 - i)=l.length+24) (fun (p:Nat×List Deed)=>match p with|(i,m0)=>2 - i) (0,l) ?_ ?_ ?_
 ·exact ⟨by omega,rfl,by omega⟩
 ·exact Weak.ren id (by refine ⟨?_,?_,?_,trivial⟩<;>first|rfl|(simp only [mps];done)|(congr 3;omega)|(congr 4;omega)|(simp only [lns];rfl)|(first|exact look_i rfl (by omega)|exact look_s rfl (by first|omega|(simp only [List.length_append,List.length_cons,List.length_nil] at *;omega)))) (⟨by first|rfl|(simp only [mps];done)|(congr 3;omega)|(congr 4;omega)|(simp only [lns];rfl),trivial⟩) rfl
 rintro ⟨i,m0⟩ ⟨hi0_0,hi0_1,hi0_2⟩
 refine AC.goes ttk 1 rfl ?_
 refine AC.seq ?_
 refine AC.cond rfl (fun hc1=>?_) (fun hc1=>?_)
 ·
  have hc1':=of_decide_eq_true hc1
  refine AC.sk ?_
  refine AC.seq ?_
  refine AC.block ?_
  refine AC.go ttk 1 rfl ?_
  refine AL.cn 1 [0] (g_call 1 (c_doT 5 0 0) en20 rfl rfl ⟨⟨_,rfl,.c (.d _)⟩,⟨_,rfl,.c (.d _)⟩,⟨_,rfl,.c (.d _)⟩,trivial⟩ ⟨trivial,trivial,trivial,trivial,trivial,trivial,trivial⟩ trivial rfl rfl rfl rfl) rfl ?_
  refine AL.cn 1 [0] (g_call 1 (c_doT 5 1 0) en20 rfl rfl ⟨⟨_,rfl,.c (.d _)⟩,⟨_,rfl,.c (.d _)⟩,⟨_,rfl,.c (.d _)⟩,trivial⟩ ⟨trivial,trivial,trivial,trivial,trivial,trivial,trivial⟩ trivial rfl rfl rfl rfl) rfl ?_
  refine AL.cn 2 [1,0] (g_lit (ys:=[(0,(.g [(cI 0),(cI 5),(cI 0),(cI 0),(cI 0),(cI 0)])),(1,(.g [(cI 0),(cI 5),(cI 1),(cI 0),(cI 0),(cI 0)]))]) (rows:=([(⟨0,5,0,0,0,0⟩:Deed),(⟨0,5,1,0,0,0⟩:Deed)]).map rDeed) 1 sl24 rfl (by decide) ⟨⟨rfl,rfl⟩,⟨rfl,rfl⟩,trivial⟩ rfl rfl rfl rfl) rfl ?_
  refine AL.cn 3 [2,1] (g_append (m:=2) (N:=m0.length+2) (k2:=2) (ys:=([(⟨0,5,0,0,0,0⟩:Deed),(⟨0,5,1,0,0,0⟩:Deed)]).map rDeed) sl24 rfl rfl rfl rfl rfl rfl (by first|omega|(simp;done)|(simp;omega)) rfl (.s rfl (by first|omega|(simp;done)|(simp;omega))) (by first|omega|(simp;done)|(simp;omega)) (by first|omega|(simp;done)|(simp;omega)) appmap (by decide) (by first|omega|(simp;done)|(simp;omega)) (by first|omega|(simp;done)|(simp;omega))) rfl ?_
  refine AL.runs ttk 1 rfl ?_
  refine AL.nx ?_
  refine AC.goes ttk 1 rfl ?_
  refine AC.block ?_
  refine AC.loop (β:=Nat×List Deed) (fun (p:Nat×List Deed)=>match p with|(j,m1)=>⟨[(0,(aC (.s 2 0 6 m1.length))),(2,(aC cN)),(4,(aI (↑i:Int))),(11,(aI (↑j:Int)))],[(2,(alD m1))],3⟩) (fun (p:Nat×List Deed)=>match p with|(j,m1)=>j<=2/\m1++sideT j=m0++come1/\m1.length+5 * (2 - j)=m0.length+12) (fun (p:Nat×List Deed)=>match p with|(j,m1)=>2 - j) (0,m0++([(⟨0,5,0,0,0,0⟩:Deed),(⟨0,5,1,0,0,0⟩:Deed)])) ?_ ?_ ?_
  ·exact ⟨by omega,by simp [come1],by simp⟩
  ·exact Weak.ren id (by refine ⟨?_,?_,?_,?_,trivial⟩<;>first|rfl|(simp only [mps];done)|(congr 3;omega)|(congr 4;omega)|(simp only [lns];rfl)|(first|exact look_i rfl (by omega)|exact look_s rfl (by first|omega|(simp only [List.length_append,List.length_cons,List.length_nil] at *;omega)))) (⟨by first|rfl|(simp only [mps];done)|(congr 3;omega)|(congr 4;omega)|(simp only [lns];rfl),trivial⟩) rfl
  rintro ⟨j,m1⟩ ⟨hi1_0,hi1_1,hi1_2⟩
  refine AC.goes ttk 1 rfl ?_
  refine AC.seq ?_
  refine AC.cond rfl (fun hc2=>?_) (fun hc2=>?_)
  ·
   have hc2':=of_decide_eq_true hc2
   refine AC.sk ?_
   refine AC.seq ?_
   refine AC.block ?_
   refine AC.goes ttk 2 rfl ?_
   refine AC.goes ttk 1 rfl ?_
   refine AC.block ?_
   refine AC.loop (β:=Nat×List Deed) (fun (p:Nat×List Deed)=>match p with|(k,m2)=>⟨[(0,(aC (.s 2 0 6 m2.length))),(2,(aC cN)),(4,(aI (↑i:Int))),(11,(aI (↑j:Int))),(3,(aI (↑j:Int))),(14,(aI (↑k:Int)))],[(2,(alD m2))],3⟩) (fun (p:Nat×List Deed)=>match p with|(k,m2)=>k<=5/\m2++arrT (↑j) (5 - k)=m1++arrT (↑j) 5/\m2.length+(5 - k)=m1.length+5) (fun (p:Nat×List Deed)=>match p with|(k,m2)=>5 - k) (0,m1) ?_ ?_ ?_
   ·exact ⟨by omega,rfl,by omega⟩
   ·exact Weak.ren id (by refine ⟨?_,?_,?_,?_,?_,?_,trivial⟩<;>first|rfl|(simp only [mps];done)|(congr 3;omega)|(congr 4;omega)|(simp only [lns];rfl)|(first|exact look_i rfl (by omega)|exact look_s rfl (by first|omega|(simp only [List.length_append,List.length_cons,List.length_nil] at *;omega)))) (⟨by first|rfl|(simp only [mps];done)|(congr 3;omega)|(congr 4;omega)|(simp only [lns];rfl),trivial⟩) rfl
   rintro ⟨k,m2⟩ ⟨hi2_0,hi2_1,hi2_2⟩
   refine AC.goes ttk 1 rfl ?_
   refine AC.seq ?_
   refine AC.cond rfl (fun hc3=>?_) (fun hc3=>?_)
   ·
    have hc3':=of_decide_eq_true hc3
    refine AC.sk ?_
    refine AC.seq ?_
    refine AC.block ?_
    refine AC.region ?_
    refine AL.runs ttk 2 rfl ?_
    refine AL.cn 3 [2] (g_call 3 (c_doT 6 (↑j:Int) 0) en20 rfl rfl ⟨⟨_,rfl,.c (.d _)⟩,⟨_,rfl,.c (.d _)⟩,⟨_,rfl,.c (.d _)⟩,trivial⟩ ⟨trivial,trivial,trivial,trivial,trivial,trivial,trivial⟩ trivial rfl rfl rfl rfl) rfl ?_
    refine AL.cn 4 [3,2] (g_lit (ys:=[(0,(.g [(cI 0),(cI 6),(cI (↑j:Int)),(cI 0),(cI 0),(cI 0)]))]) (rows:=([(⟨0,6,(↑j:Int),0,0,0⟩:Deed)]).map rDeed) 3 sl24 rfl (by decide) ⟨⟨rfl,rfl⟩,trivial⟩ rfl rfl rfl rfl) rfl ?_
    refine AL.cn 5 [4,3] (g_append (m:=1) (N:=m2.length+1) (k2:=4) (ys:=([(⟨0,6,(↑j:Int),0,0,0⟩:Deed)]).map rDeed) sl24 rfl rfl rfl rfl rfl rfl (by first|omega|(simp;done)|(simp;omega)) rfl (.s rfl (by first|omega|(simp;done)|(simp;omega))) (by first|omega|(simp;done)|(simp;omega)) (by first|omega|(simp;done)|(simp;omega)) appmap (by decide) (by first|omega|(simp;done)|(simp;omega)) (by first|omega|(simp;done)|(simp;omega))) rfl ?_
    refine AL.runs ttk 1 rfl ?_
    refine AL.nil ?_
    refine block_ok ?_
    refine then_ok ?_
    refine AC.region ?_
    refine AL.vl (g_binI rfl rfl rfl (wrap_ok (by first|omega|(simp;done)|(simp;omega)))) rfl ?_
    refine AL.runs ttk 1 rfl ?_
    refine AL.nx ?_
    refine ⟨(k+1,m2++([(⟨0,6,(↑j:Int),0,0,0⟩:Deed)])),⟨by omega,by rw [<-hi2_1,arrT_step (k:=k) (by omega),List.append_assoc],by simp only [List.length_append,List.length_cons,List.length_nil];omega⟩,by first|omega|(simp;done)|(simp;omega),Weak.ren (fun k=>if k=2 then 4 else k) (by refine ⟨?_,?_,?_,?_,?_,?_,trivial⟩<;>first|rfl|(simp only [mps];done)|(congr 3;omega)|(congr 4;omega)|(simp only [lns];rfl)|(first|exact look_i rfl (by omega)|exact look_s rfl (by first|omega|(simp only [List.length_append,List.length_cons,List.length_nil] at *;omega)))) (⟨by first|rfl|(simp only [mps];done)|(congr 3;omega)|(congr 4;omega)|(simp only [lns];rfl),trivial⟩) rfl⟩
   have hc3':=of_decide_eq_false hc3
   refine AC.exit ?_
   refine then_exit ?_
   refine then_exit ?_
   refine block_hit ?_
   refine block_ok ?_
   refine then_ok ?_
   refine AC.region ?_
   refine AL.vl (g_binI rfl rfl rfl (wrap_ok (by first|omega|(simp;done)|(simp;omega)))) rfl ?_
   refine AL.runs ttk 1 rfl ?_
   refine AL.nx ?_
   refine ⟨(j+1,m2),⟨by omega,by rw [<-hi1_1,sideT_step (j:=j) (by omega),<-List.append_assoc,<-hi2_1,(show 5 - k=0 by omega)];simp [arrT],by omega⟩,by first|omega|(simp;done)|(simp;omega),Weak.ren id (by refine ⟨?_,?_,?_,?_,trivial⟩<;>first|rfl|(simp only [mps];done)|(congr 3;omega)|(congr 4;omega)|(simp only [lns];rfl)|(first|exact look_i rfl (by omega)|exact look_s rfl (by first|omega|(simp only [List.length_append,List.length_cons,List.length_nil] at *;omega)))) (⟨by first|rfl|(simp only [mps];done)|(congr 3;omega)|(congr 4;omega)|(simp only [lns];rfl),trivial⟩) rfl⟩
  have hc2':=of_decide_eq_false hc2
  refine AC.exit ?_
  refine then_exit ?_
  refine then_exit ?_
  refine block_hit ?_
  refine block_ok ?_
  refine then_ok ?_
  refine AC.region ?_
  refine AL.vl (g_binI rfl rfl rfl (wrap_ok (by first|omega|(simp;done)|(simp;omega)))) rfl ?_
  refine AL.runs ttk 1 rfl ?_
  refine AL.nx ?_
  refine ⟨(i+1,m1),⟨by omega,by rw [<-hi0_1,comeX_step (i:=i) (by omega),<-List.append_assoc,<-hi1_1,(show j=2 by omega)];simp [sideT],by omega⟩,by first|omega|(simp;done)|(simp;omega),Weak.ren (fun k=>if k=0 then 2 else k) (by refine ⟨?_,?_,?_,trivial⟩<;>first|rfl|(simp only [mps];done)|(congr 3;omega)|(congr 4;omega)|(simp only [lns];rfl)|(first|exact look_i rfl (by omega)|exact look_s rfl (by first|omega|(simp only [List.length_append,List.length_cons,List.length_nil] at *;omega)))) (⟨by first|rfl|(simp only [mps];done)|(congr 3;omega)|(congr 4;omega)|(simp only [lns];rfl),trivial⟩) rfl⟩
 have hc1':=of_decide_eq_false hc1
 refine AC.exit ?_
 refine then_exit ?_
 refine then_exit ?_
 refine block_hit ?_
 refine then_ok ?_
 refine AC.goes ttk 2 rfl ?_
 refine AC.ret ?_
 have hX:comeT l=m0:=by
   have:i=2:=by omega
   subst this
   rw [<-hi0_1];simp [comeX]
 rw [hX] at hr;clear hX
 subst hr
 refine retQ_go ttk [0] 1 rfl rfl rfl rfl rfl rfl ?_ ?_
 all_goals first|rfl|(simp [ufs,bkL,rwL];done)|(simp [ufs,bkL,rwL];omega)
set_option maxRecDepth 100000 in
set_option maxHeartbeats 1000000 in
theorem c_small (l:List Int) (r:Bool) (hr:smallT l=r):Fn Try.prog 18 [(.c (vlI l))] (.v (.c (cB r))) []:=by
 refine Fn.mk' 18 [(0,(aC (vlI l)))] Try.func18 rfl rfl rfl rfl ?_
 intro W0 T0
 refine AC.len1 0 rfl (fun hlen0=>?_)
 refine AC.goes ttk 1 rfl ?_
 refine AC.seq ?_
 refine AC.go ttk 1 rfl ?_
 refine AL.vl (g_lenM rfl rfl rfl rfl rfl Try.underlying30) rfl ?_
 refine AL.runs ttk 1 rfl ?_
 refine AL.nx ?_
 refine AC.block ?_
 refine AC.loop (β:=Nat) (fun (q:Nat)=>⟨[(5,(aC (vlI l))),(6,(aI (↑l.length:Int))),(7,(aI (↑q:Int)))],[],0⟩) (fun (q:Nat)=>q<=l.length/\(∀ i n,i < q->l[i]?=some n->1<=n/\n<=100000)) (fun (q:Nat)=>l.length - q) 0 ?_ ?_ ?_
 ·exact ⟨by omega,fun i n h=>by omega⟩
 ·exact Weak.ren id (by refine ⟨?_,?_,?_,trivial⟩<;>first|rfl|(simp only [mps];done)|(congr 3;omega)|(congr 4;omega)|(simp only [lns];rfl)) (trivial) rfl
 rintro q ⟨hi0_0,hi0_1⟩
 refine AC.goes ttk 1 rfl ?_
 refine AC.seq ?_
 refine AC.cond rfl (fun hc1=>?_) (fun hc1=>?_)
 ·
  have hc1':=of_decide_eq_true hc1
  refine AC.sk ?_
  refine AC.seq ?_
  refine AC.block ?_
  refine AC.sr ?_
  obtain ⟨x1,hx1⟩:=exget (xs:=l) (i:=q) (by first|omega|(simp;done)|(simp;omega))
  refine AL.vl (g_indexQ (i:=q) rfl rfl rfl Try.underlying30 sz3 (by first|omega|(simp;done)|(simp;omega)) (getmap hx1)) rfl ?_
  refine AL.runs ttk 2 rfl ?_
  refine AL.nx ?_
  refine AC.cutB 16 ((decide (x1 < 1))||(decide (x1 > 100000))) ?_ ?_
  ·
   refine AC.region ?_
   refine AL.runs ttk 3 rfl ?_
   refine AL.dec (t:=13) rfl (fun hb2=>?_) (fun hb2=>?_)
   ·
    have hb2':=of_decide_eq_true hb2
    refine AL.runs ttk 3 rfl ?_
    refine AL.nx ?_
    exact Weak.popB 7 rfl rfl (by first|(simp [hb2];done)|(simp_all;done)|(exfalso;simp_all;done)|(simp_all;omega)) rfl
   have hb2':=of_decide_eq_false hb2
   refine AL.runs ttk 3 rfl ?_
   refine AL.nx ?_
   exact Weak.popB 7 rfl rfl (by first|(simp [hb2];done)|(simp_all;done)|(exfalso;simp_all;done)|(simp_all;omega)) rfl
  refine AC.cond rfl (fun hc3=>?_) (fun hc3=>?_)
  ·
   have hc3':=hc3;try simp only [sumB,dns] at hc3'
   refine AC.goes ttk 1 rfl ?_
   refine AC.ret ?_
   refine block_ret ?_
   refine then_ret ?_
   refine then_ret ?_
   refine block_ret ?_
   refine then_ret ?_
   have hX:smallT l=false:=by
     simp only [smallT,decide_eq_false_iff_not];intro h;have:=h x1 (List.mem_of_getElem? hx1);omega
   rw [hX] at hr;clear hX
   subst hr
   refine retQ_go ttk [] 0 rfl rfl rfl rfl rfl rfl ?_ ?_
   all_goals first|rfl|(simp [ufs,bkL,rwL];done)|(simp [ufs,bkL,rwL];omega)
  have hc3':=hc3;try simp only [sumB,dns] at hc3'
  refine AC.skip ?_
  refine block_ok ?_
  refine then_ok ?_
  refine AC.region ?_
  refine AL.vl (g_binI rfl rfl rfl (wrap_ok (by first|omega|(simp;done)|(simp;omega)))) rfl ?_
  refine AL.runs ttk 1 rfl ?_
  refine AL.nx ?_
  refine ⟨q+1,⟨by omega,fun i n hi hn=>by rcases Nat.lt_or_ge i q with h|h;exact hi0_1 i n h hn;(have:i=q:=by omega);subst this;rw [hx1] at hn;injection hn with hn;subst hn;constructor<;>omega⟩,by first|omega|(simp;done)|(simp;omega),Weak.ren id (by refine ⟨?_,?_,?_,trivial⟩<;>first|rfl|(simp only [mps];done)|(congr 3;omega)|(congr 4;omega)|(simp only [lns];rfl)) (trivial) rfl⟩
 have hc1':=of_decide_eq_false hc1
 refine AC.exit ?_
 refine then_exit ?_
 refine then_exit ?_
 refine block_hit ?_
 refine then_ok ?_
 refine AC.goes ttk 1 rfl ?_
 refine AC.ret ?_
 have hX:smallT l=true:=by
   simp only [smallT,decide_eq_true_eq];intro n hn;obtain ⟨i,hi⟩:=List.getElem?_of_mem hn;exact hi0_1 i n (by have:=(List.getElem?_eq_some_iff.1 hi).1;omega) hi
 rw [hX] at hr;clear hX
 subst hr
 refine retQ_go ttk [] 0 rfl rfl rfl rfl rfl rfl ?_ ?_
 all_goals first|rfl|(simp [ufs,bkL,rwL];done)|(simp [ufs,bkL,rwL];omega)
end Go.Proofs.Ytegepioggeggaaa.Dev
namespace Go.Proofs.Ytegepioggeggaaa.Dev
open Go.RowKit

set_option maxRecDepth 100000 in
set_option maxHeartbeats 4000000 in
theorem c_aliveT:Fn Try.prog 17 [] (aB true) []:=by
 refine Fn.mk' 53 [] Try.func17 rfl rfl rfl rfl ?_
 intro W0 T0
 refine AC.goes ttk 1 rfl ?_
 refine AC.sr ?_
 refine AL.cn 0 [] (g_call 0 (Fn.frozen (av':=(aG [(cR 3 (([(⟨1000,30,1000000000000⟩:Pace),(⟨1000,30,1000000000000⟩:Pace)]).map rPace)),(cI 2),(cI 0)])) (c_setupT 0) ⟨.inr ⟨_,_,_,_,_,rfl,rfl,rfl,by simp⟩,.inl ⟨_,rfl,rfl⟩,.inl ⟨_,rfl,rfl⟩,trivial⟩) en23 rfl rfl ⟨⟨_,rfl,.c (.d _)⟩,trivial⟩ ⟨trivial,trivial,trivial,trivial⟩ trivial rfl rfl rfl rfl) rfl ?_
 refine AL.cn 0 [] (g_call 0 (c_doT 1 0 100) en20 rfl rfl ⟨⟨_,rfl,.c (.d _)⟩,⟨_,rfl,.c (.d _)⟩,⟨_,rfl,.c (.d _)⟩,trivial⟩ ⟨trivial,trivial,trivial,trivial,trivial,trivial,trivial⟩ trivial rfl rfl rfl rfl) rfl ?_
 refine AL.cn 0 [] (g_call 0 (c_doT 2 0 60) en20 rfl rfl ⟨⟨_,rfl,.c (.d _)⟩,⟨_,rfl,.c (.d _)⟩,⟨_,rfl,.c (.d _)⟩,trivial⟩ ⟨trivial,trivial,trivial,trivial,trivial,trivial,trivial⟩ trivial rfl rfl rfl rfl) rfl ?_
 refine AL.cn 0 [] (g_call 0 (c_moveT 3 0 40) en21 rfl rfl ⟨⟨_,rfl,.c (.d _)⟩,⟨_,rfl,.c (.d _)⟩,⟨_,rfl,.c (.d _)⟩,trivial⟩ ⟨trivial,trivial,trivial,trivial,trivial,trivial,trivial⟩ trivial rfl rfl rfl rfl) rfl ?_
 refine AL.cn 1 [0] (g_lit (ys:=[(0,(.g [(cI 0),(cI 1),(cI 0),(cI 0),(cI 0),(cI 100)])),(1,(.g [(cI 0),(cI 2),(cI 0),(cI 0),(cI 0),(cI 60)])),(2,(.g [(cI 0),(cI 3),(cI 0),(cI 0),(cI 3),(cI 40)]))]) (rows:=([(⟨0,1,0,0,0,100⟩:Deed),(⟨0,2,0,0,0,60⟩:Deed),(⟨0,3,0,0,3,40⟩:Deed)]).map rDeed) 0 sl24 rfl (by decide) ⟨⟨rfl,rfl⟩,⟨rfl,rfl⟩,⟨rfl,rfl⟩,trivial⟩ rfl rfl rfl rfl) rfl ?_
 have hr0:comeT ([(⟨0,1,0,0,0,100⟩:Deed),(⟨0,2,0,0,0,60⟩:Deed),(⟨0,3,0,0,3,40⟩:Deed)])=(comeT ([(⟨0,1,0,0,0,100⟩:Deed),(⟨0,2,0,0,0,60⟩:Deed),(⟨0,3,0,0,3,40⟩:Deed)])):=rfl
 refine AL.cn 2 [1] (g_callM id (rhoOf [1]) (c_come ([(⟨0,1,0,0,0,100⟩:Deed),(⟨0,2,0,0,0,60⟩:Deed),(⟨0,3,0,0,3,40⟩:Deed)]) 3 (by first|omega|(simp;done)|(simp;omega)) (by first|omega|(simp;done)|(simp;omega)) (comeT ([(⟨0,1,0,0,0,100⟩:Deed),(⟨0,2,0,0,0,60⟩:Deed),(⟨0,3,0,0,3,40⟩:Deed)])) hr0) en19 rfl rfl ⟨⟨_,rfl,.inl ⟨rfl,rfl⟩⟩,trivial⟩ ⟨rfl,trivial⟩ rfl rfl rfl rfl rfl rfl trivial ⟨(fun _ _ _ _=>trivial),trivial⟩ rfl rfl rfl rfl) rfl ?_
 refine AL.freeze (s':=[(0,(aB false)),(5,(aG [(cR 3 (([(⟨1000,30,1000000000000⟩:Pace),(⟨1000,30,1000000000000⟩:Pace)]).map rPace)),(cI 2),(cI 0)])),(6,(aG [(cI 0),(cI 1),(cI 0),(cI 0),(cI 0),(cI 100)])),(7,(aG [(cI 0),(cI 2),(cI 0),(cI 0),(cI 0),(cI 60)])),(8,(aG [(cI 0),(cI 3),(cI 0),(cI 0),(cI 3),(cI 40)])),(10,(aC (vlD (comeT ([(⟨0,1,0,0,0,100⟩:Deed),(⟨0,2,0,0,0,60⟩:Deed),(⟨0,3,0,0,3,40⟩:Deed)])))))]) (h':=[]) 1 rfl ⟨⟨_,rfl,.inl ⟨rfl,rfl⟩⟩,⟨_,rfl,.inl ⟨rfl,rfl⟩⟩,⟨_,rfl,.inl ⟨rfl,rfl⟩⟩,⟨_,rfl,.inl ⟨rfl,rfl⟩⟩,⟨_,rfl,.inl ⟨rfl,rfl⟩⟩,⟨_,rfl,.inr ⟨_,_,rfl,rfl,.s rfl (by decide) (by first|omega|(simp;done)|(simp;omega))⟩⟩,trivial⟩ trivial rfl ?_
 have hr1:playR (⟨[(⟨1000,30,1000000000000⟩:Pace),(⟨1000,30,1000000000000⟩:Pace)],2,0⟩:Setup) (comeT ([(⟨0,1,0,0,0,100⟩:Deed),(⟨0,2,0,0,0,60⟩:Deed),(⟨0,3,0,0,3,40⟩:Deed)]))=((⟨0,false,[⟨60,0,⟨1000,30,1000000000000⟩,[⟨0,60⟩]⟩,⟨0,0,⟨1000,30,1000000000000⟩,[]⟩],[40,0],[⟨0,0,60,40,0,0,100,true⟩],⟨1,[]⟩,⟨0,[]⟩,0,1,[],[],⟨0,[0,0],[]⟩,[⟨0,0,3,40⟩],[⟨0,-100⟩,⟨10,60⟩,⟨50,40⟩]⟩:Bk),[],(playR (⟨[(⟨1000,30,1000000000000⟩:Pace),(⟨1000,30,1000000000000⟩:Pace)],2,0⟩:Setup) (comeT ([(⟨0,1,0,0,0,100⟩:Deed),(⟨0,2,0,0,0,60⟩:Deed),(⟨0,3,0,0,3,40⟩:Deed)]))).2.2.1,(⟨0,0⟩:Fault)):=by kernel_rfl
 refine AL.cn 2 [] (g_call 2 (Fn.frozen (av':=(.t [(.g [(cI 0),(cB false),(vlC ([⟨60,0,⟨1000,30,1000000000000⟩,[⟨0,60⟩]⟩,⟨0,0,⟨1000,30,1000000000000⟩,[]⟩])),(vlI ([40,0])),(vlP ([⟨0,0,60,40,0,0,100,true⟩])),(cI 1),(vlT ([])),(cI 0),(vlT ([])),(cI 0),(cI 1),(vlK ([])),(vlK ([])),(cI 0),(vlI ([0,0])),(vlA ([])),(vlR ([⟨0,0,3,40⟩])),(vlY ([])),(vlE ([⟨0,-100⟩,⟨10,60⟩,⟨50,40⟩]))]),(.c (vlN ((playR (⟨[(⟨1000,30,1000000000000⟩:Pace),(⟨1000,30,1000000000000⟩:Pace)],2,0⟩:Setup) (comeT ([(⟨0,1,0,0,0,100⟩:Deed),(⟨0,2,0,0,0,60⟩:Deed),(⟨0,3,0,0,3,40⟩:Deed)]))).2.2.1))),(.g [(cI 0),(cI 0)])])) (c_Play (⟨[(⟨1000,30,1000000000000⟩:Pace),(⟨1000,30,1000000000000⟩:Pace)],2,0⟩:Setup) (comeT ([(⟨0,1,0,0,0,100⟩:Deed),(⟨0,2,0,0,0,60⟩:Deed),(⟨0,3,0,0,3,40⟩:Deed)])) (⟨0,false,[⟨60,0,⟨1000,30,1000000000000⟩,[⟨0,60⟩]⟩,⟨0,0,⟨1000,30,1000000000000⟩,[]⟩],[40,0],[⟨0,0,60,40,0,0,100,true⟩],⟨1,[]⟩,⟨0,[]⟩,0,1,[],[],⟨0,[0,0],[]⟩,[⟨0,0,3,40⟩],[⟨0,-100⟩,⟨10,60⟩,⟨50,40⟩]⟩:Bk) ([]) ((playR (⟨[(⟨1000,30,1000000000000⟩:Pace),(⟨1000,30,1000000000000⟩:Pace)],2,0⟩:Setup) (comeT ([(⟨0,1,0,0,0,100⟩:Deed),(⟨0,2,0,0,0,60⟩:Deed),(⟨0,3,0,0,3,40⟩:Deed)]))).2.2.1) (⟨0,0⟩:Fault) hr1) ⟨⟨.inl ⟨_,rfl,rfl⟩,.inl ⟨_,rfl,rfl⟩,.inr ⟨_,_,_,_,_,rfl,rfl,rfl,by simp⟩,.inr ⟨_,_,_,_,_,rfl,rfl,rfl,by simp⟩,.inr ⟨_,_,_,_,_,rfl,rfl,rfl,by simp⟩,.inl ⟨_,rfl,rfl⟩,.inl ⟨_,rfl,rfl⟩,.inl ⟨_,rfl,rfl⟩,.inl ⟨_,rfl,rfl⟩,.inl ⟨_,rfl,rfl⟩,.inl ⟨_,rfl,rfl⟩,.inl ⟨_,rfl,rfl⟩,.inl ⟨_,rfl,rfl⟩,.inl ⟨_,rfl,rfl⟩,.inl ⟨_,rfl,rfl⟩,.inl ⟨_,rfl,rfl⟩,.inr ⟨_,_,_,_,_,rfl,rfl,rfl,by simp⟩,.inr ⟨_,_,_,_,_,rfl,rfl,rfl,by simp⟩,.inl ⟨_,rfl,rfl⟩,trivial⟩,.inr ⟨_,_,_,_,_,rfl,rfl,rfl,by simp⟩,⟨.inl ⟨_,rfl,rfl⟩,.inl ⟨_,rfl,rfl⟩,trivial⟩,trivial⟩) en22 rfl rfl ⟨⟨_,rfl,.g ⟨.d _,.d _,.d _,trivial⟩⟩,⟨_,rfl,.c (.d _)⟩,trivial⟩ ⟨⟨trivial,trivial,trivial,trivial,trivial,trivial,trivial,trivial,trivial,trivial,trivial,trivial,trivial,trivial,trivial,trivial,trivial,trivial,trivial,trivial⟩,trivial,⟨trivial,trivial,trivial⟩,trivial⟩ trivial rfl rfl rfl rfl) rfl ?_
 refine AL.runs ttk 9 rfl ?_
 refine AL.nx ?_
 refine AC.go ttk 2 rfl ?_
 refine AL.vl (g_binI rfl rfl rfl (show _=some (Value.bool true) from rfl)) rfl ?_
 refine AL.runs ttk 3 rfl ?_
 refine AL.val (Wanted.yes rfl rfl rfl) (g_lenM rfl rfl rfl rfl rfl Try.underlying29) rfl rfl ?_
 refine AL.val (Wanted.yes rfl rfl rfl) (g_binI rfl rfl rfl (show _=some (Value.bool true) from rfl)) rfl rfl ?_
 refine AL.runs ttk 4 rfl ?_
 refine AL.val (Wanted.yes rfl rfl rfl) (g_lenM rfl rfl rfl rfl rfl Try.underlying30) rfl rfl ?_
 refine AL.val (Wanted.yes rfl rfl rfl) (g_binI rfl rfl rfl (show _=some (Value.bool true) from rfl)) rfl rfl ?_
 refine AL.runs ttk 4 rfl ?_
 refine AL.val (Wanted.yes rfl rfl rfl) (g_indexQ (i:=0) rfl rfl rfl Try.underlying29 sz61 (by first|omega|(simp;done)|(simp;omega)) (getmap (show ([⟨60,0,⟨1000,30,1000000000000⟩,[⟨0,60⟩]⟩,⟨0,0,⟨1000,30,1000000000000⟩,[]⟩]:List Card)[0]?=some (⟨60,0,⟨1000,30,1000000000000⟩,[⟨0,60⟩]⟩:Card) from rfl))) rfl rfl ?_
 refine AL.runs ttk 2 rfl ?_
 refine AL.val (Wanted.yes rfl rfl rfl) (g_binI rfl rfl rfl (show _=some (Value.bool true) from rfl)) rfl rfl ?_
 refine AL.runs ttk 4 rfl ?_
 refine AL.val (Wanted.yes rfl rfl rfl) (g_indexQ (i:=0) rfl rfl rfl Try.underlying29 sz61 (by first|omega|(simp;done)|(simp;omega)) (getmap (show ([⟨60,0,⟨1000,30,1000000000000⟩,[⟨0,60⟩]⟩,⟨0,0,⟨1000,30,1000000000000⟩,[]⟩]:List Card)[0]?=some (⟨60,0,⟨1000,30,1000000000000⟩,[⟨0,60⟩]⟩:Card) from rfl))) rfl rfl ?_
 refine AL.runs ttk 2 rfl ?_
 refine AL.val (Wanted.yes rfl rfl rfl) (g_binI rfl rfl rfl (show _=some (Value.bool true) from rfl)) rfl rfl ?_
 refine AL.runs ttk 4 rfl ?_
 refine AL.val (Wanted.yes rfl rfl rfl) (g_indexQ (i:=0) rfl rfl rfl Try.underlying30 sz3 (by first|omega|(simp;done)|(simp;omega)) (getmap (show ([40,0]:List Int)[0]?=some 40 from rfl))) rfl rfl ?_
 refine AL.runs ttk 1 rfl ?_
 refine AL.val (Wanted.yes rfl rfl rfl) (g_binI rfl rfl rfl (show _=some (Value.bool true) from rfl)) rfl rfl ?_
 refine AL.runs ttk 2 rfl ?_
 refine AL.nx ?_
 refine AC.ret ?_
 refine retQ_go ttk [] 0 rfl rfl rfl rfl rfl rfl ?_ ?_
 all_goals first|rfl|(simp [ufs,bkL,rwL];done)|(simp [ufs,bkL,rwL];omega)
end Go.Proofs.Ytegepioggeggaaa.Dev
namespace Go.Proofs.Ytegepioggeggaaa.Dev
def FreeL (l:List Card):Prop:=∀ c∈l,0<=c.money - c.held
theorem shiftK_free {l:List Card} {e k h m:Int} (hl:FreeL l) (hc:∀ c,l[k.toNat]?=some c->h - m<=c.money - c.held):FreeL (shiftK l e k h m).1:=by
 unfold shiftK
 split
 ·exact hl
 ·rename_i c hk
  split
  ·rename_i h0
   intro z hz
   rcases mem_set_or hz with hz|rfl
   ·exact hl z hz
   ·have he:=(failK_zero h0).2
    rcases shift_of (show shiftC c h m=((shiftC c h m).1,(shiftC c h m).2) from rfl) with ⟨h1,_⟩|h1
    ·exact absurd he h1
    ·have h2:=h1.2.2.2.2.2.2.1
     have h3:=hc c hk
     rw [h2];dsimp only;omega
  ·exact hl
theorem shiftK_more {l:List Card} {e k h m:Int} (hl:FreeL l) (hm:h<=m):FreeL (shiftK l e k h m).1:=shiftK_free hl fun c hc=>by have:=hl c (List.mem_of_getElem? hc);omega
theorem hold_late {a:Auth} {t:Int} (h:wrongAuth a=0):holdAuth (lateAuth a t) - holdAuth a<=0:=by
 have:=rightAuth h
 unfold holdAuth lateAuth
 cases hs:a.shut<;>cases ht:decide (a.till<=t)<;>simp<;>omega
theorem lateL_free {time:Int}:∀ (l:List Auth) (i:Nat) (cards:List Card) (auths:List Auth) (e:Int),(∀ a∈l,wrongAuth a=0)->FreeL cards->FreeL (lateL time l i cards auths e).1
 |[],_,_,_,_,_,h=>h
 |a::l,i,cards,auths,e,hw,h=>lateL_free l (i+1) _ _ _ (fun x hx=>hw x (List.mem_cons_of_mem _ hx)) (shiftK_more h (hold_late (hw a List.mem_cons_self)))
theorem lateL_disp {time:Int} {n:Int}:∀ (l:List Auth) (i:Nat) (cards:List Card) (auths:List Auth) (e:Int),(∀ a∈l,a.disputed=n)->(∀ a∈auths,a.disputed=n)->∀ a∈(lateL time l i cards auths e).2.1,a.disputed=n
 |[],_,_,_,_,_,h=>h
 |a::l,i,cards,auths,e,hl,h=>lateL_disp l (i+1) _ _ _ (fun x hx=>hl x (List.mem_cons_of_mem _ hx)) fun x hx=>by
  rcases mem_set_or hx with hx|rfl
  ·exact h x hx
  ·exact hl a List.mem_cons_self
structure Owes (b:Bk):Prop where
 ok:Okb b
 up:b.down=false
 disp:∀ a∈b.auths,a.disputed=0
 free:FreeL b.cards
 k0:∀ t∈b.s0.kept,0<=t.sum
 k1:∀ t∈b.s1.kept,0<=t.sum
 p0:∀ p∈b.w0,0<=p.transfer.sum
 p1:∀ p∈b.w1,0<=p.transfer.sum
theorem Owes.endB {b c:Bk} {e:Int} (h:Owes b) (hc:e=0->Owes c):Owes (endB b c e).1:=by
 unfold Dev.endB;split
 ·exact hc (by assumption)
 ·exact h
theorem Owes.late {b:Bk} (h:Owes b):Owes (lateB b):=by
 have hok:=h.ok.late
 unfold lateB at hok ⊢
 split
 ·rename_i h0
  rw [if_pos h0] at hok
  exact ⟨hok,h.up,lateL_disp _ _ _ _ _ h.disp h.disp,lateL_free _ _ _ _ _ (fun a ha=>(h.ok.perm a ha).1) h.free,h.k0,h.k1,h.p0,h.p1⟩
 ·exact h
theorem Owes.start {s:Setup} (h:(wrongSet s).err=0):Owes (startB s):=
 ⟨Okb.start h,rfl,fun a ha=>(by cases ha),fun c hc=>(by
  obtain ⟨p,_,rfl⟩:=List.mem_map.1 (show c∈s.paces.map cardP from hc)
  exact Int.le_refl _),fun a ha=>(by cases ha),fun a ha=>(by cases ha),fun a ha=>(by cases ha),fun a ha=>(by cases ha)⟩
theorem allow_free {c:Card} {n t:Int} (h:(allowC c n t).2=0):0<=(allowC c n t).1.money - (allowC c n t).1.held:=by
 rcases allow_of (show allowC c n t=((allowC c n t).1,(allowC c n t).2) from rfl) with ⟨h5,_⟩|⟨h5,h6,h7,h8,h9,h10,h11,l,h12,h13⟩
 ·exact absurd h h5
 ·rw [h13];dsimp only;omega
theorem Owes.asks {b:Bk} (h:Owes b) (d:Deed):Owes (askB b d).1:=by
 have hok:=h.ok.asks d
 unfold askB at hok ⊢
 rw [h.up] at hok ⊢
 simp only [Bool.false_eq_true,if_false] at hok ⊢
 split
 ·exact h
 rename_i c1
 rw [if_neg c1] at hok
 split
 ·exact h
 rename_i c2
 rw [if_neg c2] at hok
 split
 ·exact h
 rename_i c3
 rw [if_neg c3] at hok
 obtain ⟨_,w2,_⟩:=new_ok (show (newAuth d.n d.shop d.sum b.time).2=0 by omega)
 split
 ·exact h
 rename_i c hc
 rw [hc] at hok
 dsimp only at hok
 split
 ·exact h
 rename_i c4
 rw [if_neg c4] at hok
 refine ⟨hok,rfl,fun a ha=>?_,fun z hz=>?_,h.k0,h.k1,h.p0,h.p1⟩
 ·rcases List.mem_append.1 ha with ha|ha
  ·exact h.disp a ha
  ·obtain rfl:=List.mem_singleton.1 ha;rw [w2]
 ·rcases mem_set_or hz with hz|rfl
  ·exact h.free z hz
  ·exact allow_free (by omega)
theorem moved_hold {a b:Auth} {k n:Int} (hw:wrongAuth a=0) (h1:1<=n) (hm:Moved a k n b):(k=1->holdAuth b - holdAuth a=n)/\(k=2\/k=3->holdAuth b - holdAuth a<=0 - n)/\(k=4->holdAuth b - holdAuth a<=0)/\(k=6\/b.disputed<=a.disputed):=by
 have hr:=rightAuth hw
 cases hm with
 |more h hs hn=>subst h;unfold holdAuth;rw [hs];simp;omega
 |take h hs hn=>
  unfold holdAuth;rw [hs];dsimp only
  refine ⟨fun h=>by omega,fun _=>?_,fun h=>by omega,.inr (Int.le_refl _)⟩
  split<;>simp at *<;>omega
 |less h hs hn=>
  subst h;unfold holdAuth;rw [hs];dsimp only
  refine ⟨fun h=>by omega,fun h=>by omega,fun _=>?_,.inr (Int.le_refl _)⟩
  split<;>simp at *<;>omega
 |refund h hn=>subst h;exact ⟨fun h=>by omega,fun h=>by omega,fun h=>by omega,.inr (Int.le_refl _)⟩
 |dispute h hn=>subst h;exact ⟨fun h=>by omega,fun h=>by omega,fun h=>by omega,.inl rfl⟩
 |forCard h hn=>subst h;exact ⟨fun h=>by omega,fun h=>by omega,fun h=>by omega,.inr (by dsimp only;omega)⟩
 |forShop h hn=>subst h;exact ⟨fun h=>by omega,fun h=>by omega,fun h=>by omega,.inr (by dsimp only;omega)⟩
theorem moved_some {a b:Auth} {k n:Int} (hm:Moved a k n b) (h1:1<=n) (hk:k=7\/k=8):1<=a.disputed:=by
 cases hm<;>omega
theorem sendK_sum {s:Sender} {e:Int} {t:Transfer} (h:∀ t∈s.kept,0<=t.sum) (ht:0<=t.sum):∀ u∈(sendK s e t).1.kept,0<=u.sum:=by
 unfold sendK
 split
 ·rename_i h0
  have he:=(failK_zero h0).2
  unfold putS at he
  split at he
  ·rename_i h1;exact absurd he h1
  split at he
  ·rename_i h1;exact absurd he h1
  ·rename_i h1 h2
   have hp:(putS s t).1=outS s t:=by unfold putS;rw [if_neg h1,if_neg h2]
   dsimp only
   rw [hp]
   intro u hu
   rcases List.mem_append.1 hu with hu|hu
   ·exact h u hu
   ·obtain rfl:=List.mem_singleton.1 hu;exact ht
 ·exact h
theorem Owes.become {b:Bk} (h:Owes b) (d:Deed) (hd:¬d.move=6):Owes (becomeB b d).1:=by
 have hok:=h.ok.become d
 unfold becomeB at hok ⊢
 rw [h.up] at hok ⊢
 simp only [Bool.false_eq_true,if_false] at hok ⊢
 split
 ·exact h
 rename_i c1
 rw [if_neg c1] at hok
 split
 ·exact h
 rename_i old ho
 rw [ho] at hok
 dsimp only at hok
 split
 ·exact h
 rename_i c2
 rw [if_neg c2] at hok
 split
 ·exact h
 rename_i c3
 rw [if_neg c3] at hok
 have hmv:moveAuth old d.move d.sum=((moveAuth old d.move d.sum).1,0):=Prod.ext rfl (by dsimp only;omega)
 generalize (moveAuth old d.move d.sum).1=a at *
 rcases moved_of hmv with ⟨h4,_⟩|⟨_,hw,hn1,hn2,hm⟩
 ·exact absurd rfl h4
 have hold:=h.disp old (List.mem_of_getElem? ho)
 have hr:=rightAuth hw
 obtain ⟨m1,m2,m3,m4⟩:=moved_hold hw hn1 hm
 have hcard:a.card=old.card:=(plain_right hmv).2.1
 have hra:=rightAuth (plain_right hmv).1
 unfold doneB at hok ⊢
 have hcards:FreeL (deedK b a old d).1:=by
  unfold deedK
  split
  ·rename_i hk
   rcases hk with hk|hk
   ·refine shiftK_free h.free fun c hc=>?_
    have hf:¬d.sum > freeAt b.cards a.card:=fun hf=>c3 ⟨hk,hf⟩
    unfold freeAt at hf;rw [hc] at hf;dsimp only at hf
    have:=m1 hk;omega
   ·exact shiftK_more h.free (m3 hk)
  split
  ·rename_i hk;exact shiftK_more h.free (m2 hk)
  split
  ·exact h.free
  split
  ·exact h.free
  split
  ·rename_i hk;have:=moved_some hm hn1 (.inr hk);omega
  ·exact h.free
 unfold Dev.endB at hok ⊢
 split
 ·rename_i h0
  rw [if_pos h0] at hok
  have hks:(∀ t∈(deedK b a old d).2.2.2.1.kept,0<=t.sum)/\∀ t∈(deedK b a old d).2.2.2.2.1.kept,0<=t.sum:=by
   unfold deedK
   split
   ·exact ⟨h.k0,h.k1⟩
   split
   ·exact ⟨sendK_sum h.k0 (by dsimp only;omega),h.k1⟩
   split
   ·exact ⟨h.k0,sendK_sum h.k1 (by dsimp only;omega)⟩
   split
   ·exact ⟨sendK_sum h.k0 (by dsimp only;omega),h.k1⟩
   split
   ·exact ⟨h.k0,h.k1⟩
   ·exact ⟨h.k0,h.k1⟩
  refine ⟨hok,h.up,fun x hx=>?_,hcards,hks.1,hks.2,h.p0,h.p1⟩
  rcases mem_set_or hx with hx|rfl
  ·exact h.disp x hx
  ·rcases m4 with h6|h6
   ·exact absurd h6 hd
   ·omega
 ·exact h
theorem takeK_free {auths:List Auth} {due:List Int} {cards:List Card} {book:List Entry} {e:Int} {t:Transfer} (h:FreeL cards) (ht:0<=t.sum):FreeL (takeK auths due cards book e t).2.1:=by
 unfold takeK
 split
 ·exact h
 split
 ·exact h
 split
 ·exact shiftK_more h ht
 split
 ·exact h
 ·exact h
theorem Owes.load {b:Bk} (h:Owes b) (d:Deed):Owes (loadB b d).1:=by
 have hok:=h.ok.load d
 unfold loadB at hok ⊢
 split
 ·exact h
 rename_i c1
 rw [if_neg c1] at hok
 split
 ·exact h
 rename_i c2
 rw [if_neg c2] at hok
 unfold Dev.endB at hok ⊢
 split
 ·rename_i h0;rw [if_pos h0] at hok;exact ⟨hok,h.up,h.disp,shiftK_more h.free (by omega),h.k0,h.k1,h.p0,h.p1⟩
 ·exact h
theorem Owes.pay {b:Bk} (h:Owes b) (d:Deed):Owes (payB b d).1:=by
 have hok:=h.ok.pay d
 unfold payB at hok ⊢
 split
 ·exact h
 rename_i c1
 rw [if_neg c1] at hok
 split
 ·exact h
 rename_i c2
 rw [if_neg c2] at hok
 unfold Dev.endB at hok ⊢
 split
 ·rename_i h0;rw [if_pos h0] at hok;exact ⟨hok,h.up,h.disp,h.free,h.k0,h.k1,h.p0,h.p1⟩
 ·exact h
theorem Owes.ticks {b:Bk} (h:Owes b) (d:Deed):Owes (tickB b d).1:=by
 unfold tickB
 split
 ·exact h
 ·rw [h.up]
  simp only [Bool.false_eq_true,if_false]
  have h1:Owes {b with time:=b.time+d.sum}:=⟨h.ok.tick (by have:=h.ok.time;omega) (by have:=h.ok.time;omega),h.up,h.disp,h.free,h.k0,h.k1,h.p0,h.p1⟩
  have h2:=h1.late
  rwa [show ({b with time:=b.time+d.sum}:Bk)={b with time:=b.time+d.sum,down:=false} by rw [<-h.up]] at h2
theorem sendQ_sum {w:List Packet} {ks:List Transfer} {n:Int} (h:∀ p∈w,0<=p.transfer.sum) (hk:∀ t∈ks,0<=t.sum):∀ p∈(sendQ w ks n).1,0<=p.transfer.sum:=by
 unfold sendQ
 split
 ·exact h
 ·intro p hp
  rcases packs_mem hp with hp|⟨t,ht,rfl⟩|rfl
  ·exact h p hp
  ·exact hk t ht
  ·exact Int.le_refl _
theorem Owes.send {b:Bk} (h:Owes b) (d:Deed):Owes {b with w0:=(sendW b.s0 b.s1 b.n0 b.n1 b.w0 b.w1 d).1,w1:=(sendW b.s0 b.s1 b.n0 b.n1 b.w0 b.w1 d).2.1}:=by
 refine ⟨h.ok.send d,h.up,h.disp,h.free,h.k0,h.k1,?_,?_⟩
 ·dsimp only;unfold sendW
  split
  ·exact h.p0
  split
  ·exact sendQ_sum h.p0 h.k1
  ·exact h.p0
 ·dsimp only;unfold sendW
  split
  ·exact sendQ_sum h.p1 h.k0
  split
  ·exact h.p1
  ·exact h.p1
theorem backS_sum {s:Sender} {n:Int} (h:∀ t∈s.kept,0<=t.sum) (hb:(backS s n).2=0):∀ t∈(backS s n).1.kept,0<=t.sum:=by
 rcases back_of (show backS s n=((backS s n).1,(backS s n).2) from rfl) with ⟨h1,_⟩|⟨_,_,_,_,h2⟩
 ·exact absurd hb h1
 ·rw [h2];exact fun t ht=>h t (keepL_sub ht)
theorem Owes.arrive {b:Bk} (h:Owes b) (d:Deed):Owes (arriveB b d).1:=by
 have hok:=h.ok.arrive d
 unfold arriveB at hok ⊢
 split
 ·rename_i c0
  rw [if_pos c0] at hok
  unfold arrive0 at hok ⊢
  split
  ·exact h
  rename_i p hp
  rw [hp] at hok
  dsimp only at hok
  have hps:=h.p0 p (List.mem_of_getElem? hp)
  have hd:∀ p∈b.w0.drop 1,0<=p.transfer.sum:=fun p hp=>h.p0 p (List.mem_of_mem_drop hp)
  split
  ·rename_i c1;rw [if_pos c1] at hok;exact ⟨hok,h.up,h.disp,h.free,h.k0,h.k1,hd,h.p1⟩
  rename_i c1
  rw [if_neg c1] at hok
  split
  ·rename_i c2
   rw [if_pos c2] at hok
   split
   ·rename_i c3;rw [if_pos c3] at hok;exact ⟨hok,h.up,h.disp,h.free,backS_sum h.k0 c3,h.k1,hd,h.p1⟩
   ·exact h
  rename_i c2
  rw [if_neg c2] at hok
  split
  ·rename_i c3
   rw [if_pos c3] at hok
   unfold Dev.endB at hok ⊢
   split
   ·rename_i c4;rw [if_pos c4] at hok;exact ⟨hok,h.up,h.disp,takeK_free h.free hps,h.k0,h.k1,hd,h.p1⟩
   ·exact h
  ·rename_i c3;rw [if_neg c3] at hok;exact ⟨hok,h.up,h.disp,h.free,h.k0,h.k1,hd,h.p1⟩
 rename_i c0
 rw [if_neg c0] at hok
 split
 ·rename_i c01
  rw [if_pos c01] at hok
  unfold arrive1 at hok ⊢
  split
  ·exact h
  rename_i p hp
  rw [hp] at hok
  dsimp only at hok
  have hps:=h.p1 p (List.mem_of_getElem? hp)
  have hd:∀ p∈b.w1.drop 1,0<=p.transfer.sum:=fun p hp=>h.p1 p (List.mem_of_mem_drop hp)
  split
  ·rename_i c1;rw [if_pos c1] at hok;exact ⟨hok,h.up,h.disp,h.free,h.k0,h.k1,h.p0,hd⟩
  rename_i c1
  rw [if_neg c1] at hok
  split
  ·rename_i c2
   rw [if_pos c2] at hok
   split
   ·rename_i c3;rw [if_pos c3] at hok;exact ⟨hok,h.up,h.disp,h.free,h.k0,backS_sum h.k1 c3,h.p0,hd⟩
   ·exact h
  rename_i c2
  rw [if_neg c2] at hok
  split
  ·rename_i c3
   rw [if_pos c3] at hok
   unfold Dev.endB at hok ⊢
   split
   ·rename_i c4;rw [if_pos c4] at hok;exact ⟨hok,h.up,h.disp,takeK_free h.free hps,h.k0,h.k1,h.p0,hd⟩
   ·exact h
  ·rename_i c3;rw [if_neg c3] at hok;exact ⟨hok,h.up,h.disp,h.free,h.k0,h.k1,h.p0,hd⟩
 ·exact h
theorem Owes.does {b:Bk} (h:Owes b) (y:List (List Int)) (d:Deed) (h8:¬d.kind=8) (h6:¬(d.kind=3/\d.move=6)):Owes (doB b y d).1:=by
 unfold doB
 split
 ·exact h.load d
 split
 ·exact h.asks d
 split
 ·rename_i h3;exact h.become d fun e=>h6 ⟨h3,e⟩
 split
 ·exact h.ticks d
 split
 ·exact h.send d
 split
 ·exact h.arrive d
 split
 ·have:(upB b).1=b:=by unfold upB;rw [if_pos h.up]
  rw [this];exact h
 split
 ·exact ⟨h.ok.setToday (overK_len (y:=y) h.ok.today).1,h.up,h.disp,h.free,h.k0,h.k1,h.p0,h.p1⟩
 split
 ·exact h.pay d
 ·exact h
end Go.Proofs.Ytegepioggeggaaa.Dev
