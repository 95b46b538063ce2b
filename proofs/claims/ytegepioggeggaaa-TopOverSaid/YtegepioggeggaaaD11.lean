/- A part of the proof: Bank10, Bank11, Bank5, Bank6. No condition. -/
import Derived.Test.YtegepioggeggaaaD10
import Derived.Test.YtegepioggeggaaaD04
set_option linter.unusedVariables false
set_option linter.unusedSimpArgs false
namespace Go.Proofs.Ytegepioggeggaaa.Dev
open Go.RowKit

set_option maxRecDepth 100000 in
set_option maxHeartbeats 8000000 in
theorem c_arrive0 (x:Nat->Value) (hx:∀ i,(x i).oneCell'=true) (b:Bk) (idn kind shop move sum:Int) (ok:Okb b) (b2:Bk) (a2:Answer) (hr:arriveB b (⟨idn,kind,0,shop,move,sum⟩:Deed)=(b2,a2)):FnE Try.prog 67 [(.c (.p 0 0 0 0)),(.c (.q (rDeed (⟨idn,kind,0,shop,move,sum⟩:Deed)) 0))] [(0,(.box 98 (bkL b 1 2 3 4 (.d (.v (x 17))) (.d (.v (x 19)))))),(1,(alC b.cards)),(2,(alI b.due)),(3,(alP b.auths)),(4,(alR b.today))] [0] (.v (.g [cI a2.err,cI a2.auth])) [(0,(.box 98 (bkL b2 1 2 3 4 (.d (.v (x 17))) (.d (.v (x 19)))))),(1,(alC b2.cards)),(2,(alI b2.due)),(3,(alP b2.auths)),(4,(alR b2.today))]:=by
 refine FnE.mk 153 [(0,(aC (.p 0 0 0 0))),(1,(aC (.q (rDeed (⟨idn,kind,0,shop,move,sum⟩:Deed)) 0)))] 5 Try.func67 rfl rfl rfl rfl rfl rfl rfl rfl rfl ?_
 intro W0 F0 T0 pg
 obtain ⟨okt,okc,okd,oka,oky,okw0,okw1,okp,okv,okk0,okk1,okg,okl0,okl1,okp0,okp1,okn0,okn1,okq⟩:=id ok
 refine AC.goes ttk 1 rfl ?_
 refine AC.seq ?_
 refine AC.seq ?_
 refine AC.drawP [0,1,4] [5,0,1,2,3,4] mixed rfl rfl ?_
 refine PD.runs (kn:=[(15,false)]) ttk 21 rfl ⟨rfl,trivial⟩ ?_
 refine PD.op (n':=6) [31,28,23] [0] rfl rfl (.inl ⟨(Wanted.yes rfl rfl rfl),GOp.cast (g_indexB (i:=0) rfl rfl rfl Try.underlying38 sz37 rfl (by decide)) rfl⟩) rfl ?_
 refine PD.runs (kn:=[]) ttk 1 rfl trivial ?_
 refine PD.op (n':=6) [33,23] [] rfl rfl (.inl ⟨(Wanted.yes rfl rfl rfl),GOp.cast (g_lenM rfl rfl rfl rfl rfl Try.underlying37) rfl⟩) rfl ?_
 refine PD.runs (kn:=[]) ttk 2 rfl trivial ?_
 refine PD.fin [5,0,1,2,3,4] rfl rfl rfl rfl (by kernel_rfl) ?_
 refine AL.nx ?_
 refine AC.cond rfl (fun hc1=>?_) (fun hc1=>?_)
 ·
  have hc1':=of_decide_eq_true hc1
  refine AC.goes ttk 2 rfl ?_
  refine AC.ret ?_
  refine then_ret ?_
  have hX:arriveB b (⟨idn,kind,0,shop,move,sum⟩:Deed)=(b,(⟨6,0⟩:Answer)):=by
    unfold arriveB;dsimp only;rw [if_pos rfl];unfold arrive0;rw [List.getElem?_eq_none (by omega)]
  rw [hX] at hr;clear hX
  simp only [Prod.mk.injEq] at hr;obtain ⟨rfl,rfl⟩:=hr
  refine retQ_go ttk [0,1,2,3,4,5] 5 rfl rfl rfl rfl rfl rfl ?_ ?_
  all_goals first|rfl|(simp [ufs,bkL,rwL];done)|(simp [ufs,bkL,rwL];omega)
 have hc1':=of_decide_eq_false hc1
 refine AC.sk ?_
 refine AC.seq ?_
 obtain ⟨x1,hx1⟩:=exget (xs:=b.w0) (i:=0) (by first|omega|(simp;done)|(simp;omega))
 refine AC.drawP [0,1,4] [5,0,1,2,3,4] mixed rfl rfl ?_
 refine PD.runs (kn:=[]) ttk 8 rfl trivial ?_
 refine PD.op (n':=6) [45,42] [0] rfl rfl (.inl ⟨(Wanted.plain rfl),GOp.cast (g_indexB (i:=0) rfl rfl rfl Try.underlying38 sz37 rfl (by decide)) rfl⟩) rfl ?_
 refine PD.runs (kn:=[]) ttk 1 rfl trivial ?_
 refine PD.op (n':=6) [47] [] rfl rfl (.inl ⟨(Wanted.plain rfl),GOp.cast (g_indexQ (i:=0) rfl rfl rfl Try.underlying37 sz113 (by first|omega|(simp;done)|(simp;omega)) (getmap hx1)) rfl⟩) rfl ?_
 refine PD.runs (n':=7) (kn:=[]) ttk 2 rfl trivial ?_
 refine PD.fin [6,5,0,1,2,3,4] rfl rfl rfl rfl (by kernel_rfl) ?_
 refine AL.runs ttk 1 rfl ?_
 refine AL.nx ?_
 have hpk:=okp0 x1 (List.mem_of_getElem? hx1)
 have hI0:∀ t∈b.s0.kept,InI t.number:=fun t ht=>(okk0 t ht).1
 have hI1:∀ t∈b.s1.kept,InI t.number:=fun t ht=>(okk1 t ht).1
 have hA:∀ a∈b.auths,0<=a.card/\a.card < b.cards.length/\0<=a.shop/\a.shop < b.due.length:=fun a ha=>(okp a ha).2
 refine AC.go ttk 1 rfl ?_
 refine AL.cn 16 [0,7,8,9,10,11,12,13,14,15,6,5] (g_callM id (rhoOf [0,7,8,9,10,11,12,13,14,15]) (c_begin (x 17) (x 19) b (by first|omega|(simp;done)|(simp;omega)) (by first|omega|(simp;done)|(simp;omega)) (by first|omega|(simp;done)|(simp;omega)) (by first|omega|(simp;done)|(simp;omega))) en74 rfl rfl ⟨⟨_,rfl,.inl ⟨rfl,rfl⟩⟩,trivial⟩ ⟨rfl,rfl,rfl,rfl,rfl,trivial⟩ rfl rfl rfl rfl rfl rfl trivial ⟨⟨trivial,trivial,trivial,trivial,trivial,trivial,trivial,trivial,trivial,trivial,trivial,trivial,trivial,trivial,trivial,trivial,trivial,trivial,trivial,trivial,trivial⟩,⟨trivial,trivial,trivial,trivial,trivial,trivial,trivial,trivial,trivial,trivial,trivial,trivial,trivial,trivial,trivial,trivial,trivial,trivial,trivial,trivial,trivial⟩,(fun _ _ _ _=>trivial),(fun _ _ _ _=>trivial),(fun _ _ _ _=>trivial),(fun _ _ _ _=>trivial),(fun _ _ _ _=>trivial),(fun _ _ _ _=>trivial),(fun _ _ _ _=>trivial),(fun _ _ _ _=>trivial),trivial⟩ rfl rfl rfl rfl) rfl ?_
 refine AL.runs ttk 1 rfl ?_
 refine AL.nx ?_
 refine AC.seq ?_
 refine AC.drawP [0,1,4,5,6] [0,7,8,9,10,11,12,13,14,15,6,5] mixed rfl rfl ?_
 refine PD.runs (kn:=[]) ttk 13 rfl trivial ?_
 refine PD.op (n':=16) [64,61] [0] rfl rfl (.inl ⟨(Wanted.plain rfl),GOp.cast (g_indexB (i:=0) rfl rfl rfl Try.underlying38 sz37 rfl (by decide)) rfl⟩) rfl ?_
 refine PD.runs (kn:=[]) ttk 1 rfl trivial ?_
 refine PD.op (n':=16) [66] [] rfl rfl (.inl ⟨(Wanted.plain rfl),GOp.cast (g_sliceD (l:=1) (h:=b.w0.length) (ys:=((b.w0).drop 1).map rPacket) rfl Try.underlying37 sz113 rfl (.inr ⟨_,rfl,rfl⟩) (.inl ⟨rfl,by simp⟩) (by first|omega|(simp;done)|(simp;omega)) (by first|omega|(simp;done)|(simp;omega)) (by first|(simp;done)|(rw [List.map_drop];exact List.take_of_length_le (by simp)))) rfl⟩) rfl ?_
 refine PD.runs (kn:=[]) ttk 3 rfl trivial ?_
 refine PD.op (n':=16) [70,56] [7] rfl rfl (.inl ⟨(Wanted.plain rfl),GOp.cast (g_indexB (i:=0) rfl rfl rfl Try.underlying38 sz37 rfl (by decide)) rfl⟩) rfl ?_
 refine PD.fin [0,7,8,9,10,11,12,13,14,15,6,5] rfl rfl rfl rfl (by kernel_rfl) ?_
 refine AL.runs ttk 1 rfl ?_
 refine AL.nx ?_
 refine AC.seq ?_
 refine AC.goes ttk 5 rfl ?_
 refine AC.cond rfl (fun hc2=>?_) (fun hc2=>?_)
 ·
  have hc2':=of_decide_eq_true hc2
  refine AC.go ttk 2 rfl ?_
  refine AL.cn 20 [0,16,17,18,19,6,5] (g_callM (rhoOf [0,7,8,9,10,11,12,13,14,15]) (rhoOf [0,16,17,18,19]) (c_end_ok (x 17) (x 19) b (⟨b.time,b.down,b.cards,b.due,b.auths,b.s0,b.s1,b.n0,b.n1,(b.w0).drop 1,b.w1,b.stand,b.today,b.book⟩:Bk) 0 (by first|assumption|omega)) en77 rfl rfl ⟨⟨_,rfl,.inl ⟨rfl,rfl⟩⟩,⟨_,rfl,.inl ⟨rfl,rfl⟩⟩,trivial⟩ ⟨rfl,rfl,rfl,rfl,rfl,rfl,rfl,rfl,rfl,rfl,trivial⟩ rfl rfl rfl rfl rfl rfl trivial ⟨⟨trivial,trivial,trivial,trivial,trivial,trivial,trivial,trivial,trivial,trivial,trivial,trivial,trivial,trivial,trivial,trivial,trivial,trivial,trivial,trivial,trivial⟩,(fun _ _ _ _=>trivial),(fun _ _ _ _=>trivial),(fun _ _ _ _=>trivial),(fun _ _ _ _=>trivial),trivial⟩ rfl rfl rfl rfl) rfl ?_
  refine AL.runs ttk 2 rfl ?_
  refine AL.nx ?_
  refine AC.ret ?_
  refine then_ret ?_
  have hX:arriveB b (⟨idn,kind,0,shop,move,sum⟩:Deed)=((⟨b.time,b.down,b.cards,b.due,b.auths,b.s0,b.s1,b.n0,b.n1,(b.w0).drop 1,b.w1,b.stand,b.today,b.book⟩:Bk),(⟨0,0⟩:Answer)):=by
    unfold arriveB;dsimp only;rw [if_pos rfl];unfold arrive0;rw [hx1];dsimp only;(try simp only [endB]);(try unfold endB);(repeat' split)<;>first|rfl|omega|(exfalso;omega)|(simp_all;done)|(simp_all;omega)
  rw [hX] at hr;clear hX
  simp only [Prod.mk.injEq] at hr;obtain ⟨rfl,rfl⟩:=hr
  refine retQ_go ttk [0,16,17,18,19,5] 5 rfl rfl rfl rfl rfl rfl ?_ ?_
  all_goals first|rfl|(simp [ufs,bkL,rwL];done)|(simp [ufs,bkL,rwL];omega)
 have hc2':=of_decide_eq_false hc2
 refine AC.sk ?_
 refine AC.seq ?_
 refine AC.goes ttk 3 rfl ?_
 refine AC.cond rfl (fun hc3=>?_) (fun hc3=>?_)
 ·
  have hc3':=of_decide_eq_true hc3
  refine AC.seq ?_
  obtain ⟨xr0,e0,hr0⟩:∃ (xr0:Sender) (e0:Int),backS b.s0 x1.seen=(xr0,e0):=⟨_,_,rfl⟩
  refine AC.drawQ [0,1,4,5,6] [0,7,8,9,10,11,12,13,14,15,6,5] mixed rfl rfl ?_
  refine PW.runs (kn:=[]) ttk 8 rfl trivial ?_
  refine PW.op (n':=16) [92,89] [7] rfl rfl (.inl ⟨(Wanted.plain rfl),GOp.cast (g_indexB (i:=0) rfl rfl rfl Try.underlying35 sz34 rfl (by decide)) rfl⟩) rfl ?_
  refine PW.runs (kn:=[]) ttk 3 rfl trivial ?_
  refine PW.op (n':=16) [94,96] [] rfl rfl (.inl ⟨(Wanted.plain rfl),GOp.cast (g_call 16 (Fn.frozen (av':=(.t [(.g [(cI xr0.sent),(vlT xr0.kept)]),(.c (cI e0))])) (c_post_Back b.s0 x1.seen (by first|assumption|exact inI_out (by assumption) (by omega)|exact inI_back (by assumption) (by assumption)|(simp [InI];done)) xr0 e0 hr0) ⟨⟨.inl ⟨_,rfl,rfl⟩,.inr ⟨_,_,_,_,_,rfl,rfl,rfl,by simp⟩,trivial⟩,.inl ⟨_,rfl,rfl⟩,trivial⟩) en86 rfl rfl ⟨⟨_,rfl,.g ⟨.d _,.d _,trivial⟩⟩,⟨_,rfl,.c (.d _)⟩,trivial⟩ ⟨⟨trivial,trivial,trivial⟩,trivial,trivial⟩ trivial rfl rfl rfl rfl) rfl⟩) rfl ?_
  refine PW.runs (n':=17) (kn:=[]) ttk 6 rfl trivial ?_
  refine PW.fin [0,1,4,5,6,7,8] [16,0,7,8,9,10,11,12,13,14,15,6,5] rfl rfl (by kernel_rfl) ?_
  refine then_ok ?_
  refine AC.seq ?_
  refine AC.go ttk 2 rfl ?_
  obtain ⟨e21,hr1⟩:∃ (e21:Int),failK 0 e0=e21:=⟨_,rfl⟩
  refine AL.cn 17 [7,16,0,8,9,10,11,12,13,14,15,6,5] (g_callR0 (rhoOf [7]) (rhoOf [7]) (ms:=(nmL.set 19 (some (cI 0)))) (ms':=(nmL.set 19 (some (cI e21)))) (fun x hx=>c_fail x hx 0 e0 e21 hr1) en87 rfl rfl ⟨⟨_,rfl,.inl ⟨rfl,rfl⟩⟩,⟨_,rfl,.inr (.c (.d _))⟩,trivial⟩ rfl rfl rfl rfl rfl rfl rfl trivial rfl rfl rfl rfl rfl rfl rfl rfl rfl rfl rfl rfl rfl) rfl ?_
  refine AL.runs ttk 1 rfl ?_
  refine AL.nx ?_
  refine AC.cond rfl (fun hc4=>?_) (fun hc4=>?_)
  ·
   have hc4':=hc4;try simp only [sumB,dns] at hc4'
   refine AC.drawP [0,1,4,5,6,7] [7,16,0,8,9,10,11,12,13,14,15,6,5] mixed rfl rfl ?_
   refine PD.runs (kn:=[]) ttk 9 rfl trivial ?_
   refine PD.op (n':=17) [112,108] [7] rfl rfl (.inl ⟨(Wanted.plain rfl),GOp.cast (g_indexB (i:=0) rfl rfl rfl Try.underlying35 sz34 rfl (by decide)) rfl⟩) rfl ?_
   refine PD.fin [7,16,0,8,9,10,11,12,13,14,15,6,5] rfl rfl rfl rfl (by kernel_rfl) ?_
   refine AL.runs ttk 1 rfl ?_
   refine AL.nx ?_
   rcases (show e21=0\/¬e21=0 from by omega) with hs5|hs5
   ·
    refine AC.go ttk 2 rfl ?_
    refine AL.cn 21 [0,17,18,19,20,16,6,5] (g_callM (rhoOf [0,7,8,9,10,11,12,13,14,15]) (rhoOf [0,17,18,19,20]) (c_end_ok (x 17) (x 19) b (⟨b.time,b.down,b.cards,b.due,b.auths,xr0,b.s1,b.n0,b.n1,(b.w0).drop 1,b.w1,b.stand,b.today,b.book⟩:Bk) e21 (by first|assumption|omega)) en77 rfl rfl ⟨⟨_,rfl,.inl ⟨rfl,rfl⟩⟩,⟨_,rfl,.inl ⟨rfl,rfl⟩⟩,trivial⟩ ⟨rfl,rfl,rfl,rfl,rfl,rfl,rfl,rfl,rfl,rfl,trivial⟩ rfl rfl rfl rfl rfl rfl trivial ⟨⟨trivial,trivial,trivial,trivial,trivial,trivial,trivial,trivial,trivial,trivial,trivial,trivial,trivial,trivial,trivial,trivial,trivial,trivial,trivial,trivial,trivial⟩,(fun _ _ _ _=>trivial),(fun _ _ _ _=>trivial),(fun _ _ _ _=>trivial),(fun _ _ _ _=>trivial),trivial⟩ rfl rfl rfl rfl) rfl ?_
    refine AL.runs ttk 2 rfl ?_
    refine AL.nx ?_
    refine AC.ret ?_
    refine then_ret ?_
    have hX:arriveB b (⟨idn,kind,0,shop,move,sum⟩:Deed)=((⟨b.time,b.down,b.cards,b.due,b.auths,xr0,b.s1,b.n0,b.n1,(b.w0).drop 1,b.w1,b.stand,b.today,b.book⟩:Bk),(⟨e21,0⟩:Answer)):=by
      unfold arriveB;dsimp only;rw [if_pos rfl];unfold arrive0;rw [hx1];dsimp only;unfold failK at hr1;simp only [if_true] at hr1;(try simp only [hr0]);(try unfold endB);(repeat' split)<;>first|rfl|omega|(exfalso;omega)|(simp_all;done)|(simp_all;omega)
    rw [hX] at hr;clear hX
    simp only [Prod.mk.injEq] at hr;obtain ⟨rfl,rfl⟩:=hr
    refine retQ_go ttk [0,17,18,19,20,5] 5 rfl rfl rfl rfl rfl rfl ?_ ?_
    all_goals first|rfl|(simp [ufs,bkL,rwL];done)|(simp [ufs,bkL,rwL];omega)
   refine AC.go ttk 2 rfl ?_
   refine AL.cn 21 [0,17,18,19,20,16,6,5] (g_callM (rhoOf [0,7,8,9,10,11,12,13,14,15]) (rhoOf [0,17,18,19,20]) (c_end_no (x 17) (x 19) b (⟨b.time,b.down,b.cards,b.due,b.auths,xr0,b.s1,b.n0,b.n1,(b.w0).drop 1,b.w1,b.stand,b.today,b.book⟩:Bk) e21 (by first|assumption|omega)) en77 rfl rfl ⟨⟨_,rfl,.inl ⟨rfl,rfl⟩⟩,⟨_,rfl,.inl ⟨rfl,rfl⟩⟩,trivial⟩ ⟨rfl,rfl,rfl,rfl,rfl,rfl,rfl,rfl,rfl,rfl,trivial⟩ rfl rfl rfl rfl rfl rfl trivial ⟨⟨trivial,trivial,trivial,trivial,trivial,trivial,trivial,trivial,trivial,trivial,trivial,trivial,trivial,trivial,trivial,trivial,trivial,trivial,trivial,trivial,trivial⟩,(fun _ _ _ _=>trivial),(fun _ _ _ _=>trivial),(fun _ _ _ _=>trivial),(fun _ _ _ _=>trivial),trivial⟩ rfl rfl rfl rfl) rfl ?_
   refine AL.runs ttk 2 rfl ?_
   refine AL.nx ?_
   refine AC.ret ?_
   refine then_ret ?_
   have hX:arriveB b (⟨idn,kind,0,shop,move,sum⟩:Deed)=(b,(⟨e21,0⟩:Answer)):=by
     unfold arriveB;dsimp only;rw [if_pos rfl];unfold arrive0;rw [hx1];dsimp only;unfold failK at hr1;simp only [if_true] at hr1;(try simp only [hr0]);(try unfold endB);(repeat' split)<;>first|rfl|omega|(exfalso;omega)|(simp_all;done)|(simp_all;omega)
   rw [hX] at hr;clear hX
   simp only [Prod.mk.injEq] at hr;obtain ⟨rfl,rfl⟩:=hr
   refine retQ_go ttk [0,17,18,19,20,5] 5 rfl rfl rfl rfl rfl rfl ?_ ?_
   all_goals first|rfl|(simp [ufs,bkL,rwL];done)|(simp [ufs,bkL,rwL];omega)
  have hc4':=hc4;try simp only [sumB,dns] at hc4'
  refine AC.sk ?_
  rcases (show e21=0\/¬e21=0 from by omega) with hs6|hs6
  ·
   refine AC.go ttk 2 rfl ?_
   refine AL.cn 21 [0,17,18,19,20,16,6,5] (g_callM (rhoOf [0,7,8,9,10,11,12,13,14,15]) (rhoOf [0,17,18,19,20]) (c_end_ok (x 17) (x 19) b (⟨b.time,b.down,b.cards,b.due,b.auths,b.s0,b.s1,b.n0,b.n1,(b.w0).drop 1,b.w1,b.stand,b.today,b.book⟩:Bk) e21 (by first|assumption|omega)) en77 rfl rfl ⟨⟨_,rfl,.inl ⟨rfl,rfl⟩⟩,⟨_,rfl,.inl ⟨rfl,rfl⟩⟩,trivial⟩ ⟨rfl,rfl,rfl,rfl,rfl,rfl,rfl,rfl,rfl,rfl,trivial⟩ rfl rfl rfl rfl rfl rfl trivial ⟨⟨trivial,trivial,trivial,trivial,trivial,trivial,trivial,trivial,trivial,trivial,trivial,trivial,trivial,trivial,trivial,trivial,trivial,trivial,trivial,trivial,trivial⟩,(fun _ _ _ _=>trivial),(fun _ _ _ _=>trivial),(fun _ _ _ _=>trivial),(fun _ _ _ _=>trivial),trivial⟩ rfl rfl rfl rfl) rfl ?_
   refine AL.runs ttk 2 rfl ?_
   refine AL.nx ?_
   refine AC.ret ?_
   refine then_ret ?_
   have hX:arriveB b (⟨idn,kind,0,shop,move,sum⟩:Deed)=((⟨b.time,b.down,b.cards,b.due,b.auths,b.s0,b.s1,b.n0,b.n1,(b.w0).drop 1,b.w1,b.stand,b.today,b.book⟩:Bk),(⟨e21,0⟩:Answer)):=by
     unfold arriveB;dsimp only;rw [if_pos rfl];unfold arrive0;rw [hx1];dsimp only;unfold failK at hr1;simp only [if_true] at hr1;(try simp only [hr0]);(try unfold endB);(repeat' split)<;>first|rfl|omega|(exfalso;omega)|(simp_all;done)|(simp_all;omega)
   rw [hX] at hr;clear hX
   simp only [Prod.mk.injEq] at hr;obtain ⟨rfl,rfl⟩:=hr
   refine retQ_go ttk [0,17,18,19,20,5] 5 rfl rfl rfl rfl rfl rfl ?_ ?_
   all_goals first|rfl|(simp [ufs,bkL,rwL];done)|(simp [ufs,bkL,rwL];omega)
  refine AC.go ttk 2 rfl ?_
  refine AL.cn 21 [0,17,18,19,20,16,6,5] (g_callM (rhoOf [0,7,8,9,10,11,12,13,14,15]) (rhoOf [0,17,18,19,20]) (c_end_no (x 17) (x 19) b (⟨b.time,b.down,b.cards,b.due,b.auths,b.s0,b.s1,b.n0,b.n1,(b.w0).drop 1,b.w1,b.stand,b.today,b.book⟩:Bk) e21 (by first|assumption|omega)) en77 rfl rfl ⟨⟨_,rfl,.inl ⟨rfl,rfl⟩⟩,⟨_,rfl,.inl ⟨rfl,rfl⟩⟩,trivial⟩ ⟨rfl,rfl,rfl,rfl,rfl,rfl,rfl,rfl,rfl,rfl,trivial⟩ rfl rfl rfl rfl rfl rfl trivial ⟨⟨trivial,trivial,trivial,trivial,trivial,trivial,trivial,trivial,trivial,trivial,trivial,trivial,trivial,trivial,trivial,trivial,trivial,trivial,trivial,trivial,trivial⟩,(fun _ _ _ _=>trivial),(fun _ _ _ _=>trivial),(fun _ _ _ _=>trivial),(fun _ _ _ _=>trivial),trivial⟩ rfl rfl rfl rfl) rfl ?_
  refine AL.runs ttk 2 rfl ?_
  refine AL.nx ?_
  refine AC.ret ?_
  refine then_ret ?_
  have hX:arriveB b (⟨idn,kind,0,shop,move,sum⟩:Deed)=(b,(⟨e21,0⟩:Answer)):=by
    unfold arriveB;dsimp only;rw [if_pos rfl];unfold arrive0;rw [hx1];dsimp only;unfold failK at hr1;simp only [if_true] at hr1;(try simp only [hr0]);(try unfold endB);(repeat' split)<;>first|rfl|omega|(exfalso;omega)|(simp_all;done)|(simp_all;omega)
  rw [hX] at hr;clear hX
  simp only [Prod.mk.injEq] at hr;obtain ⟨rfl,rfl⟩:=hr
  refine retQ_go ttk [0,17,18,19,20,5] 5 rfl rfl rfl rfl rfl rfl ?_ ?_
  all_goals first|rfl|(simp [ufs,bkL,rwL];done)|(simp [ufs,bkL,rwL];omega)
 have hc3':=of_decide_eq_false hc3
 refine AC.sk ?_
 refine AC.seq ?_
 obtain ⟨n2,ok2,hr2⟩:∃ (n2:Int) (ok2:Bool),takeS b.n0 x1.transfer=(n2,ok2):=⟨_,_,rfl⟩
 refine AC.drawP [0,1,4,5,6] [0,7,8,9,10,11,12,13,14,15,6,5] mixed rfl rfl ?_
 refine PD.runs (kn:=[]) ttk 8 rfl trivial ?_
 refine PD.op (n':=16) [126,123] [7] rfl rfl (.inl ⟨(Wanted.plain rfl),GOp.cast (g_indexB (i:=0) rfl rfl rfl Try.underlying36 sz3 rfl (by decide)) rfl⟩) rfl ?_
 refine PD.runs (kn:=[]) ttk 3 rfl trivial ?_
 refine PD.op (n':=16) [128,130] [] rfl rfl (.inl ⟨(Wanted.plain rfl),GOp.cast (g_call 16 (c_post_Take b.n0 x1.transfer n2 ok2 hr2) en88 rfl rfl ⟨⟨_,rfl,.c (.d _)⟩,⟨_,rfl,.g ⟨.d _,.d _,.d _,.d _,trivial⟩⟩,trivial⟩ ⟨trivial,trivial,trivial⟩ trivial rfl rfl rfl rfl) rfl⟩) rfl ?_
 refine PD.runs (kn:=[]) ttk 5 rfl trivial ?_
 refine PD.fin [0,7,8,9,10,11,12,13,14,15,6,5] rfl rfl rfl rfl (by kernel_rfl) ?_
 refine AL.nx ?_
 refine AC.seq ?_
 refine AC.drawP [0,1,4,5,6,9,10] [0,7,8,9,10,11,12,13,14,15,6,5] mixed rfl rfl ?_
 refine PD.runs (kn:=[]) ttk 9 rfl trivial ?_
 refine PD.op (n':=16) [142,138] [7] rfl rfl (.inl ⟨(Wanted.plain rfl),GOp.cast (g_indexB (i:=0) rfl rfl rfl Try.underlying36 sz3 rfl (by decide)) rfl⟩) rfl ?_
 refine PD.fin [0,7,8,9,10,11,12,13,14,15,6,5] rfl rfl rfl rfl (by kernel_rfl) ?_
 refine AL.runs ttk 1 rfl ?_
 refine AL.nx ?_
 refine AC.seq ?_
 refine AC.goes ttk 1 rfl ?_
 refine AC.cond rfl (fun hc7=>?_) (fun hc7=>?_)
 ·
  have hc7':=hc7;try simp only [sumB,dns] at hc7'
  have hpk2:=hpk (by omega)
  refine AC.region ?_
  refine AL.runs ttk 3 rfl ?_
  obtain ⟨due23,cards23,book23,e23,hr3⟩:∃ (due23:List Int) (cards23:List Card) (book23:List Entry) (e23:Int),takeK b.auths b.due b.cards b.book 0 x1.transfer=(due23,cards23,book23,e23):=⟨_,_,_,_,rfl⟩
  refine AL.cn 19 [7,16,17,18,0,8,9,10,11,15,6,5] (g_callR0 (rhoOf [7,12,13,14]) (rhoOf [7,16,17,18]) (ms:=(((((nmL.set 2 (some (.s 1 0 6 b.cards.length))).set 3 (some (.s 2 0 1 b.due.length))).set 4 (some (.s 3 0 8 b.auths.length))).set 18 (some (vlE b.book))).set 19 (some (cI 0)))) (ms':=(((((nmL.set 2 (some (.s 1 0 6 cards23.length))).set 3 (some (.s 2 0 1 due23.length))).set 4 (some (.s 3 0 8 b.auths.length))).set 18 (some (vlE book23))).set 19 (some (cI e23)))) (fun x hx=>c_take x hx b.auths b.due b.cards b.book 0 x1.transfer (by first|omega|(simp;done)|(simp;omega)) (by assumption) (by first|omega|(simp;done)|(simp;omega)) (by first|omega|(simp;done)|(simp;omega)) due23 cards23 book23 e23 hr3) en89 rfl rfl ⟨⟨_,rfl,.inl ⟨rfl,rfl⟩⟩,⟨_,rfl,.inr (.g ⟨.d _,.d _,.d _,.d _,trivial⟩)⟩,trivial⟩ rfl rfl rfl rfl rfl rfl rfl ⟨rfl,rfl,rfl,trivial⟩ rfl rfl rfl rfl rfl rfl rfl rfl rfl rfl rfl rfl rfl) rfl ?_
  refine AL.nx ?_
  rcases (show e23=0\/¬e23=0 from by omega) with hs8|hs8
  ·
   refine AC.go ttk 2 rfl ?_
   refine AL.cn 23 [0,19,20,21,22,6,5] (g_callM (rhoOf [0,7,8,9,10,11,16,17,18,15]) (rhoOf [0,19,20,21,22]) (c_end_ok (x 17) (x 19) b (⟨b.time,b.down,cards23,due23,b.auths,b.s0,b.s1,n2,b.n1,(b.w0).drop 1,b.w1,b.stand,b.today,book23⟩:Bk) e23 (by first|assumption|omega)) en77 rfl rfl ⟨⟨_,rfl,.inl ⟨rfl,rfl⟩⟩,⟨_,rfl,.inl ⟨rfl,rfl⟩⟩,trivial⟩ ⟨rfl,rfl,rfl,rfl,rfl,rfl,rfl,rfl,rfl,rfl,trivial⟩ rfl rfl rfl rfl rfl rfl trivial ⟨⟨trivial,trivial,trivial,trivial,trivial,trivial,trivial,trivial,trivial,trivial,trivial,trivial,trivial,trivial,trivial,trivial,trivial,trivial,trivial,trivial,trivial⟩,(fun _ _ _ _=>trivial),(fun _ _ _ _=>trivial),(fun _ _ _ _=>trivial),(fun _ _ _ _=>trivial),trivial⟩ rfl rfl rfl rfl) rfl ?_
   refine AL.runs ttk 2 rfl ?_
   refine AL.nx ?_
   refine AC.ret ?_
   have hX:arriveB b (⟨idn,kind,0,shop,move,sum⟩:Deed)=((⟨b.time,b.down,cards23,due23,b.auths,b.s0,b.s1,n2,b.n1,(b.w0).drop 1,b.w1,b.stand,b.today,book23⟩:Bk),(⟨e23,0⟩:Answer)):=by
     unfold arriveB;dsimp only;rw [if_pos rfl];unfold arrive0;rw [hx1];dsimp only;(try simp only [hr2,hr3]);(try unfold endB);(repeat' split)<;>first|rfl|omega|(exfalso;omega)|(simp_all;done)|(simp_all;omega)
   rw [hX] at hr;clear hX
   simp only [Prod.mk.injEq] at hr;obtain ⟨rfl,rfl⟩:=hr
   refine retQ_go ttk [0,19,20,21,22,5] 5 rfl rfl rfl rfl rfl rfl ?_ ?_
   all_goals first|rfl|(simp [ufs,bkL,rwL];done)|(simp [ufs,bkL,rwL];omega)
  refine AC.go ttk 2 rfl ?_
  refine AL.cn 23 [0,19,20,21,22,6,5] (g_callM (rhoOf [0,7,8,9,10,11,16,17,18,15]) (rhoOf [0,19,20,21,22]) (c_end_no (x 17) (x 19) b (⟨b.time,b.down,cards23,due23,b.auths,b.s0,b.s1,n2,b.n1,(b.w0).drop 1,b.w1,b.stand,b.today,book23⟩:Bk) e23 (by first|assumption|omega)) en77 rfl rfl ⟨⟨_,rfl,.inl ⟨rfl,rfl⟩⟩,⟨_,rfl,.inl ⟨rfl,rfl⟩⟩,trivial⟩ ⟨rfl,rfl,rfl,rfl,rfl,rfl,rfl,rfl,rfl,rfl,trivial⟩ rfl rfl rfl rfl rfl rfl trivial ⟨⟨trivial,trivial,trivial,trivial,trivial,trivial,trivial,trivial,trivial,trivial,trivial,trivial,trivial,trivial,trivial,trivial,trivial,trivial,trivial,trivial,trivial⟩,(fun _ _ _ _=>trivial),(fun _ _ _ _=>trivial),(fun _ _ _ _=>trivial),(fun _ _ _ _=>trivial),trivial⟩ rfl rfl rfl rfl) rfl ?_
  refine AL.runs ttk 2 rfl ?_
  refine AL.nx ?_
  refine AC.ret ?_
  have hX:arriveB b (⟨idn,kind,0,shop,move,sum⟩:Deed)=(b,(⟨e23,0⟩:Answer)):=by
    unfold arriveB;dsimp only;rw [if_pos rfl];unfold arrive0;rw [hx1];dsimp only;(try simp only [hr2,hr3]);(try unfold endB);(repeat' split)<;>first|rfl|omega|(exfalso;omega)|(simp_all;done)|(simp_all;omega)
  rw [hX] at hr;clear hX
  simp only [Prod.mk.injEq] at hr;obtain ⟨rfl,rfl⟩:=hr
  refine retQ_go ttk [0,19,20,21,22,5] 5 rfl rfl rfl rfl rfl rfl ?_ ?_
  all_goals first|rfl|(simp [ufs,bkL,rwL];done)|(simp [ufs,bkL,rwL];omega)
 have hc7':=hc7;try simp only [sumB,dns] at hc7'
 refine AC.sk ?_
 refine AC.go ttk 2 rfl ?_
 refine AL.cn 20 [0,16,17,18,19,6,5] (g_callM (rhoOf [0,7,8,9,10,11,12,13,14,15]) (rhoOf [0,16,17,18,19]) (c_end_ok (x 17) (x 19) b (⟨b.time,b.down,b.cards,b.due,b.auths,b.s0,b.s1,n2,b.n1,(b.w0).drop 1,b.w1,b.stand,b.today,b.book⟩:Bk) 0 (by first|assumption|omega)) en77 rfl rfl ⟨⟨_,rfl,.inl ⟨rfl,rfl⟩⟩,⟨_,rfl,.inl ⟨rfl,rfl⟩⟩,trivial⟩ ⟨rfl,rfl,rfl,rfl,rfl,rfl,rfl,rfl,rfl,rfl,trivial⟩ rfl rfl rfl rfl rfl rfl trivial ⟨⟨trivial,trivial,trivial,trivial,trivial,trivial,trivial,trivial,trivial,trivial,trivial,trivial,trivial,trivial,trivial,trivial,trivial,trivial,trivial,trivial,trivial⟩,(fun _ _ _ _=>trivial),(fun _ _ _ _=>trivial),(fun _ _ _ _=>trivial),(fun _ _ _ _=>trivial),trivial⟩ rfl rfl rfl rfl) rfl ?_
 refine AL.runs ttk 2 rfl ?_
 refine AL.nx ?_
 refine AC.ret ?_
 have hX:arriveB b (⟨idn,kind,0,shop,move,sum⟩:Deed)=((⟨b.time,b.down,b.cards,b.due,b.auths,b.s0,b.s1,n2,b.n1,(b.w0).drop 1,b.w1,b.stand,b.today,b.book⟩:Bk),(⟨0,0⟩:Answer)):=by
   unfold arriveB;dsimp only;rw [if_pos rfl];unfold arrive0;rw [hx1];dsimp only;(try simp only [hr2]);(try unfold endB);(repeat' split)<;>first|rfl|omega|(exfalso;omega)|(simp_all;done)|(simp_all;omega)
 rw [hX] at hr;clear hX
 simp only [Prod.mk.injEq] at hr;obtain ⟨rfl,rfl⟩:=hr
 refine retQ_go ttk [0,16,17,18,19,5] 5 rfl rfl rfl rfl rfl rfl ?_ ?_
 all_goals first|rfl|(simp [ufs,bkL,rwL];done)|(simp [ufs,bkL,rwL];omega)
set_option maxRecDepth 100000 in
set_option maxHeartbeats 8000000 in
theorem c_arrive1 (x:Nat->Value) (hx:∀ i,(x i).oneCell'=true) (b:Bk) (idn kind shop move sum:Int) (ok:Okb b) (b2:Bk) (a2:Answer) (hr:arriveB b (⟨idn,kind,1,shop,move,sum⟩:Deed)=(b2,a2)):FnE Try.prog 67 [(.c (.p 0 0 0 0)),(.c (.q (rDeed (⟨idn,kind,1,shop,move,sum⟩:Deed)) 0))] [(0,(.box 98 (bkL b 1 2 3 4 (.d (.v (x 17))) (.d (.v (x 19)))))),(1,(alC b.cards)),(2,(alI b.due)),(3,(alP b.auths)),(4,(alR b.today))] [0] (.v (.g [cI a2.err,cI a2.auth])) [(0,(.box 98 (bkL b2 1 2 3 4 (.d (.v (x 17))) (.d (.v (x 19)))))),(1,(alC b2.cards)),(2,(alI b2.due)),(3,(alP b2.auths)),(4,(alR b2.today))]:=by
 refine FnE.mk 153 [(0,(aC (.p 0 0 0 0))),(1,(aC (.q (rDeed (⟨idn,kind,1,shop,move,sum⟩:Deed)) 0)))] 5 Try.func67 rfl rfl rfl rfl rfl rfl rfl rfl rfl ?_
 intro W0 F0 T0 pg
 obtain ⟨okt,okc,okd,oka,oky,okw0,okw1,okp,okv,okk0,okk1,okg,okl0,okl1,okp0,okp1,okn0,okn1,okq⟩:=id ok
 refine AC.goes ttk 1 rfl ?_
 refine AC.seq ?_
 refine AC.seq ?_
 refine AC.drawP [0,1,4] [5,0,1,2,3,4] mixed rfl rfl ?_
 refine PD.runs (kn:=[(15,true),(21,false)]) ttk 21 rfl ⟨rfl,rfl,trivial⟩ ?_
 refine PD.op (n':=6) [31,28,23] [0] rfl rfl (.inl ⟨(Wanted.yes rfl rfl rfl),GOp.cast (g_indexB (i:=1) rfl rfl rfl Try.underlying38 sz37 rfl (by decide)) rfl⟩) rfl ?_
 refine PD.runs (kn:=[]) ttk 1 rfl trivial ?_
 refine PD.op (n':=6) [33,23] [] rfl rfl (.inl ⟨(Wanted.yes rfl rfl rfl),GOp.cast (g_lenM rfl rfl rfl rfl rfl Try.underlying37) rfl⟩) rfl ?_
 refine PD.runs (kn:=[]) ttk 2 rfl trivial ?_
 refine PD.fin [5,0,1,2,3,4] rfl rfl rfl rfl (by kernel_rfl) ?_
 refine AL.nx ?_
 refine AC.cond rfl (fun hc1=>?_) (fun hc1=>?_)
 ·
  have hc1':=of_decide_eq_true hc1
  refine AC.goes ttk 2 rfl ?_
  refine AC.ret ?_
  refine then_ret ?_
  have hX:arriveB b (⟨idn,kind,1,shop,move,sum⟩:Deed)=(b,(⟨6,0⟩:Answer)):=by
    unfold arriveB;dsimp only;rw [if_neg (by decide),if_pos rfl];unfold arrive1;rw [List.getElem?_eq_none (by omega)]
  rw [hX] at hr;clear hX
  simp only [Prod.mk.injEq] at hr;obtain ⟨rfl,rfl⟩:=hr
  refine retQ_go ttk [0,1,2,3,4,5] 5 rfl rfl rfl rfl rfl rfl ?_ ?_
  all_goals first|rfl|(simp [ufs,bkL,rwL];done)|(simp [ufs,bkL,rwL];omega)
 have hc1':=of_decide_eq_false hc1
 refine AC.sk ?_
 refine AC.seq ?_
 obtain ⟨x1,hx1⟩:=exget (xs:=b.w1) (i:=0) (by first|omega|(simp;done)|(simp;omega))
 refine AC.drawP [0,1,4] [5,0,1,2,3,4] mixed rfl rfl ?_
 refine PD.runs (kn:=[]) ttk 8 rfl trivial ?_
 refine PD.op (n':=6) [45,42] [0] rfl rfl (.inl ⟨(Wanted.plain rfl),GOp.cast (g_indexB (i:=1) rfl rfl rfl Try.underlying38 sz37 rfl (by decide)) rfl⟩) rfl ?_
 refine PD.runs (kn:=[]) ttk 1 rfl trivial ?_
 refine PD.op (n':=6) [47] [] rfl rfl (.inl ⟨(Wanted.plain rfl),GOp.cast (g_indexQ (i:=0) rfl rfl rfl Try.underlying37 sz113 (by first|omega|(simp;done)|(simp;omega)) (getmap hx1)) rfl⟩) rfl ?_
 refine PD.runs (n':=7) (kn:=[]) ttk 2 rfl trivial ?_
 refine PD.fin [6,5,0,1,2,3,4] rfl rfl rfl rfl (by kernel_rfl) ?_
 refine AL.runs ttk 1 rfl ?_
 refine AL.nx ?_
 have hpk:=okp1 x1 (List.mem_of_getElem? hx1)
 have hI0:∀ t∈b.s0.kept,InI t.number:=fun t ht=>(okk0 t ht).1
 have hI1:∀ t∈b.s1.kept,InI t.number:=fun t ht=>(okk1 t ht).1
 have hA:∀ a∈b.auths,0<=a.card/\a.card < b.cards.length/\0<=a.shop/\a.shop < b.due.length:=fun a ha=>(okp a ha).2
 refine AC.go ttk 1 rfl ?_
 refine AL.cn 16 [0,7,8,9,10,11,12,13,14,15,6,5] (g_callM id (rhoOf [0,7,8,9,10,11,12,13,14,15]) (c_begin (x 17) (x 19) b (by first|omega|(simp;done)|(simp;omega)) (by first|omega|(simp;done)|(simp;omega)) (by first|omega|(simp;done)|(simp;omega)) (by first|omega|(simp;done)|(simp;omega))) en74 rfl rfl ⟨⟨_,rfl,.inl ⟨rfl,rfl⟩⟩,trivial⟩ ⟨rfl,rfl,rfl,rfl,rfl,trivial⟩ rfl rfl rfl rfl rfl rfl trivial ⟨⟨trivial,trivial,trivial,trivial,trivial,trivial,trivial,trivial,trivial,trivial,trivial,trivial,trivial,trivial,trivial,trivial,trivial,trivial,trivial,trivial,trivial⟩,⟨trivial,trivial,trivial,trivial,trivial,trivial,trivial,trivial,trivial,trivial,trivial,trivial,trivial,trivial,trivial,trivial,trivial,trivial,trivial,trivial,trivial⟩,(fun _ _ _ _=>trivial),(fun _ _ _ _=>trivial),(fun _ _ _ _=>trivial),(fun _ _ _ _=>trivial),(fun _ _ _ _=>trivial),(fun _ _ _ _=>trivial),(fun _ _ _ _=>trivial),(fun _ _ _ _=>trivial),trivial⟩ rfl rfl rfl rfl) rfl ?_
 refine AL.runs ttk 1 rfl ?_
 refine AL.nx ?_
 refine AC.seq ?_
 refine AC.drawP [0,1,4,5,6] [0,7,8,9,10,11,12,13,14,15,6,5] mixed rfl rfl ?_
 refine PD.runs (kn:=[]) ttk 13 rfl trivial ?_
 refine PD.op (n':=16) [64,61] [0] rfl rfl (.inl ⟨(Wanted.plain rfl),GOp.cast (g_indexB (i:=1) rfl rfl rfl Try.underlying38 sz37 rfl (by decide)) rfl⟩) rfl ?_
 refine PD.runs (kn:=[]) ttk 1 rfl trivial ?_
 refine PD.op (n':=16) [66] [] rfl rfl (.inl ⟨(Wanted.plain rfl),GOp.cast (g_sliceD (l:=1) (h:=b.w1.length) (ys:=((b.w1).drop 1).map rPacket) rfl Try.underlying37 sz113 rfl (.inr ⟨_,rfl,rfl⟩) (.inl ⟨rfl,by simp⟩) (by first|omega|(simp;done)|(simp;omega)) (by first|omega|(simp;done)|(simp;omega)) (by first|(simp;done)|(rw [List.map_drop];exact List.take_of_length_le (by simp)))) rfl⟩) rfl ?_
 refine PD.runs (kn:=[]) ttk 3 rfl trivial ?_
 refine PD.op (n':=16) [70,56] [7] rfl rfl (.inl ⟨(Wanted.plain rfl),GOp.cast (g_indexB (i:=1) rfl rfl rfl Try.underlying38 sz37 rfl (by decide)) rfl⟩) rfl ?_
 refine PD.fin [0,7,8,9,10,11,12,13,14,15,6,5] rfl rfl rfl rfl (by kernel_rfl) ?_
 refine AL.runs ttk 1 rfl ?_
 refine AL.nx ?_
 refine AC.seq ?_
 refine AC.goes ttk 5 rfl ?_
 refine AC.cond rfl (fun hc2=>?_) (fun hc2=>?_)
 ·
  have hc2':=of_decide_eq_true hc2
  refine AC.go ttk 2 rfl ?_
  refine AL.cn 20 [0,16,17,18,19,6,5] (g_callM (rhoOf [0,7,8,9,10,11,12,13,14,15]) (rhoOf [0,16,17,18,19]) (c_end_ok (x 17) (x 19) b (⟨b.time,b.down,b.cards,b.due,b.auths,b.s0,b.s1,b.n0,b.n1,b.w0,(b.w1).drop 1,b.stand,b.today,b.book⟩:Bk) 0 (by first|assumption|omega)) en77 rfl rfl ⟨⟨_,rfl,.inl ⟨rfl,rfl⟩⟩,⟨_,rfl,.inl ⟨rfl,rfl⟩⟩,trivial⟩ ⟨rfl,rfl,rfl,rfl,rfl,rfl,rfl,rfl,rfl,rfl,trivial⟩ rfl rfl rfl rfl rfl rfl trivial ⟨⟨trivial,trivial,trivial,trivial,trivial,trivial,trivial,trivial,trivial,trivial,trivial,trivial,trivial,trivial,trivial,trivial,trivial,trivial,trivial,trivial,trivial⟩,(fun _ _ _ _=>trivial),(fun _ _ _ _=>trivial),(fun _ _ _ _=>trivial),(fun _ _ _ _=>trivial),trivial⟩ rfl rfl rfl rfl) rfl ?_
  refine AL.runs ttk 2 rfl ?_
  refine AL.nx ?_
  refine AC.ret ?_
  refine then_ret ?_
  have hX:arriveB b (⟨idn,kind,1,shop,move,sum⟩:Deed)=((⟨b.time,b.down,b.cards,b.due,b.auths,b.s0,b.s1,b.n0,b.n1,b.w0,(b.w1).drop 1,b.stand,b.today,b.book⟩:Bk),(⟨0,0⟩:Answer)):=by
    unfold arriveB;dsimp only;rw [if_neg (by decide),if_pos rfl];unfold arrive1;rw [hx1];dsimp only;(try simp only [endB]);(try unfold endB);(repeat' split)<;>first|rfl|omega|(exfalso;omega)|(simp_all;done)|(simp_all;omega)
  rw [hX] at hr;clear hX
  simp only [Prod.mk.injEq] at hr;obtain ⟨rfl,rfl⟩:=hr
  refine retQ_go ttk [0,16,17,18,19,5] 5 rfl rfl rfl rfl rfl rfl ?_ ?_
  all_goals first|rfl|(simp [ufs,bkL,rwL];done)|(simp [ufs,bkL,rwL];omega)
 have hc2':=of_decide_eq_false hc2
 refine AC.sk ?_
 refine AC.seq ?_
 refine AC.goes ttk 3 rfl ?_
 refine AC.cond rfl (fun hc3=>?_) (fun hc3=>?_)
 ·
  have hc3':=of_decide_eq_true hc3
  refine AC.seq ?_
  obtain ⟨xr0,e0,hr0⟩:∃ (xr0:Sender) (e0:Int),backS b.s1 x1.seen=(xr0,e0):=⟨_,_,rfl⟩
  refine AC.drawQ [0,1,4,5,6] [0,7,8,9,10,11,12,13,14,15,6,5] mixed rfl rfl ?_
  refine PW.runs (kn:=[]) ttk 8 rfl trivial ?_
  refine PW.op (n':=16) [92,89] [7] rfl rfl (.inl ⟨(Wanted.plain rfl),GOp.cast (g_indexB (i:=1) rfl rfl rfl Try.underlying35 sz34 rfl (by decide)) rfl⟩) rfl ?_
  refine PW.runs (kn:=[]) ttk 3 rfl trivial ?_
  refine PW.op (n':=16) [94,96] [] rfl rfl (.inl ⟨(Wanted.plain rfl),GOp.cast (g_call 16 (Fn.frozen (av':=(.t [(.g [(cI xr0.sent),(vlT xr0.kept)]),(.c (cI e0))])) (c_post_Back b.s1 x1.seen (by first|assumption|exact inI_out (by assumption) (by omega)|exact inI_back (by assumption) (by assumption)|(simp [InI];done)) xr0 e0 hr0) ⟨⟨.inl ⟨_,rfl,rfl⟩,.inr ⟨_,_,_,_,_,rfl,rfl,rfl,by simp⟩,trivial⟩,.inl ⟨_,rfl,rfl⟩,trivial⟩) en86 rfl rfl ⟨⟨_,rfl,.g ⟨.d _,.d _,trivial⟩⟩,⟨_,rfl,.c (.d _)⟩,trivial⟩ ⟨⟨trivial,trivial,trivial⟩,trivial,trivial⟩ trivial rfl rfl rfl rfl) rfl⟩) rfl ?_
  refine PW.runs (n':=17) (kn:=[]) ttk 6 rfl trivial ?_
  refine PW.fin [0,1,4,5,6,7,8] [16,0,7,8,9,10,11,12,13,14,15,6,5] rfl rfl (by kernel_rfl) ?_
  refine then_ok ?_
  refine AC.seq ?_
  refine AC.go ttk 2 rfl ?_
  obtain ⟨e21,hr1⟩:∃ (e21:Int),failK 0 e0=e21:=⟨_,rfl⟩
  refine AL.cn 17 [7,16,0,8,9,10,11,12,13,14,15,6,5] (g_callR0 (rhoOf [7]) (rhoOf [7]) (ms:=(nmL.set 19 (some (cI 0)))) (ms':=(nmL.set 19 (some (cI e21)))) (fun x hx=>c_fail x hx 0 e0 e21 hr1) en87 rfl rfl ⟨⟨_,rfl,.inl ⟨rfl,rfl⟩⟩,⟨_,rfl,.inr (.c (.d _))⟩,trivial⟩ rfl rfl rfl rfl rfl rfl rfl trivial rfl rfl rfl rfl rfl rfl rfl rfl rfl rfl rfl rfl rfl) rfl ?_
  refine AL.runs ttk 1 rfl ?_
  refine AL.nx ?_
  refine AC.cond rfl (fun hc4=>?_) (fun hc4=>?_)
  ·
   have hc4':=hc4;try simp only [sumB,dns] at hc4'
   refine AC.drawP [0,1,4,5,6,7] [7,16,0,8,9,10,11,12,13,14,15,6,5] mixed rfl rfl ?_
   refine PD.runs (kn:=[]) ttk 9 rfl trivial ?_
   refine PD.op (n':=17) [112,108] [7] rfl rfl (.inl ⟨(Wanted.plain rfl),GOp.cast (g_indexB (i:=1) rfl rfl rfl Try.underlying35 sz34 rfl (by decide)) rfl⟩) rfl ?_
   refine PD.fin [7,16,0,8,9,10,11,12,13,14,15,6,5] rfl rfl rfl rfl (by kernel_rfl) ?_
   refine AL.runs ttk 1 rfl ?_
   refine AL.nx ?_
   rcases (show e21=0\/¬e21=0 from by omega) with hs5|hs5
   ·
    refine AC.go ttk 2 rfl ?_
    refine AL.cn 21 [0,17,18,19,20,16,6,5] (g_callM (rhoOf [0,7,8,9,10,11,12,13,14,15]) (rhoOf [0,17,18,19,20]) (c_end_ok (x 17) (x 19) b (⟨b.time,b.down,b.cards,b.due,b.auths,b.s0,xr0,b.n0,b.n1,b.w0,(b.w1).drop 1,b.stand,b.today,b.book⟩:Bk) e21 (by first|assumption|omega)) en77 rfl rfl ⟨⟨_,rfl,.inl ⟨rfl,rfl⟩⟩,⟨_,rfl,.inl ⟨rfl,rfl⟩⟩,trivial⟩ ⟨rfl,rfl,rfl,rfl,rfl,rfl,rfl,rfl,rfl,rfl,trivial⟩ rfl rfl rfl rfl rfl rfl trivial ⟨⟨trivial,trivial,trivial,trivial,trivial,trivial,trivial,trivial,trivial,trivial,trivial,trivial,trivial,trivial,trivial,trivial,trivial,trivial,trivial,trivial,trivial⟩,(fun _ _ _ _=>trivial),(fun _ _ _ _=>trivial),(fun _ _ _ _=>trivial),(fun _ _ _ _=>trivial),trivial⟩ rfl rfl rfl rfl) rfl ?_
    refine AL.runs ttk 2 rfl ?_
    refine AL.nx ?_
    refine AC.ret ?_
    refine then_ret ?_
    have hX:arriveB b (⟨idn,kind,1,shop,move,sum⟩:Deed)=((⟨b.time,b.down,b.cards,b.due,b.auths,b.s0,xr0,b.n0,b.n1,b.w0,(b.w1).drop 1,b.stand,b.today,b.book⟩:Bk),(⟨e21,0⟩:Answer)):=by
      unfold arriveB;dsimp only;rw [if_neg (by decide),if_pos rfl];unfold arrive1;rw [hx1];dsimp only;unfold failK at hr1;simp only [if_true] at hr1;(try simp only [hr0]);(try unfold endB);(repeat' split)<;>first|rfl|omega|(exfalso;omega)|(simp_all;done)|(simp_all;omega)
    rw [hX] at hr;clear hX
    simp only [Prod.mk.injEq] at hr;obtain ⟨rfl,rfl⟩:=hr
    refine retQ_go ttk [0,17,18,19,20,5] 5 rfl rfl rfl rfl rfl rfl ?_ ?_
    all_goals first|rfl|(simp [ufs,bkL,rwL];done)|(simp [ufs,bkL,rwL];omega)
   refine AC.go ttk 2 rfl ?_
   refine AL.cn 21 [0,17,18,19,20,16,6,5] (g_callM (rhoOf [0,7,8,9,10,11,12,13,14,15]) (rhoOf [0,17,18,19,20]) (c_end_no (x 17) (x 19) b (⟨b.time,b.down,b.cards,b.due,b.auths,b.s0,xr0,b.n0,b.n1,b.w0,(b.w1).drop 1,b.stand,b.today,b.book⟩:Bk) e21 (by first|assumption|omega)) en77 rfl rfl ⟨⟨_,rfl,.inl ⟨rfl,rfl⟩⟩,⟨_,rfl,.inl ⟨rfl,rfl⟩⟩,trivial⟩ ⟨rfl,rfl,rfl,rfl,rfl,rfl,rfl,rfl,rfl,rfl,trivial⟩ rfl rfl rfl rfl rfl rfl trivial ⟨⟨trivial,trivial,trivial,trivial,trivial,trivial,trivial,trivial,trivial,trivial,trivial,trivial,trivial,trivial,trivial,trivial,trivial,trivial,trivial,trivial,trivial⟩,(fun _ _ _ _=>trivial),(fun _ _ _ _=>trivial),(fun _ _ _ _=>trivial),(fun _ _ _ _=>trivial),trivial⟩ rfl rfl rfl rfl) rfl ?_
   refine AL.runs ttk 2 rfl ?_
   refine AL.nx ?_
   refine AC.ret ?_
   refine then_ret ?_
   have hX:arriveB b (⟨idn,kind,1,shop,move,sum⟩:Deed)=(b,(⟨e21,0⟩:Answer)):=by
     unfold arriveB;dsimp only;rw [if_neg (by decide),if_pos rfl];unfold arrive1;rw [hx1];dsimp only;unfold failK at hr1;simp only [if_true] at hr1;(try simp only [hr0]);(try unfold endB);(repeat' split)<;>first|rfl|omega|(exfalso;omega)|(simp_all;done)|(simp_all;omega)
   rw [hX] at hr;clear hX
   simp only [Prod.mk.injEq] at hr;obtain ⟨rfl,rfl⟩:=hr
   refine retQ_go ttk [0,17,18,19,20,5] 5 rfl rfl rfl rfl rfl rfl ?_ ?_
   all_goals first|rfl|(simp [ufs,bkL,rwL];done)|(simp [ufs,bkL,rwL];omega)
  have hc4':=hc4;try simp only [sumB,dns] at hc4'
  refine AC.sk ?_
  rcases (show e21=0\/¬e21=0 from by omega) with hs6|hs6
  ·
   refine AC.go ttk 2 rfl ?_
   refine AL.cn 21 [0,17,18,19,20,16,6,5] (g_callM (rhoOf [0,7,8,9,10,11,12,13,14,15]) (rhoOf [0,17,18,19,20]) (c_end_ok (x 17) (x 19) b (⟨b.time,b.down,b.cards,b.due,b.auths,b.s0,b.s1,b.n0,b.n1,b.w0,(b.w1).drop 1,b.stand,b.today,b.book⟩:Bk) e21 (by first|assumption|omega)) en77 rfl rfl ⟨⟨_,rfl,.inl ⟨rfl,rfl⟩⟩,⟨_,rfl,.inl ⟨rfl,rfl⟩⟩,trivial⟩ ⟨rfl,rfl,rfl,rfl,rfl,rfl,rfl,rfl,rfl,rfl,trivial⟩ rfl rfl rfl rfl rfl rfl trivial ⟨⟨trivial,trivial,trivial,trivial,trivial,trivial,trivial,trivial,trivial,trivial,trivial,trivial,trivial,trivial,trivial,trivial,trivial,trivial,trivial,trivial,trivial⟩,(fun _ _ _ _=>trivial),(fun _ _ _ _=>trivial),(fun _ _ _ _=>trivial),(fun _ _ _ _=>trivial),trivial⟩ rfl rfl rfl rfl) rfl ?_
   refine AL.runs ttk 2 rfl ?_
   refine AL.nx ?_
   refine AC.ret ?_
   refine then_ret ?_
   have hX:arriveB b (⟨idn,kind,1,shop,move,sum⟩:Deed)=((⟨b.time,b.down,b.cards,b.due,b.auths,b.s0,b.s1,b.n0,b.n1,b.w0,(b.w1).drop 1,b.stand,b.today,b.book⟩:Bk),(⟨e21,0⟩:Answer)):=by
     unfold arriveB;dsimp only;rw [if_neg (by decide),if_pos rfl];unfold arrive1;rw [hx1];dsimp only;unfold failK at hr1;simp only [if_true] at hr1;(try simp only [hr0]);(try unfold endB);(repeat' split)<;>first|rfl|omega|(exfalso;omega)|(simp_all;done)|(simp_all;omega)
   rw [hX] at hr;clear hX
   simp only [Prod.mk.injEq] at hr;obtain ⟨rfl,rfl⟩:=hr
   refine retQ_go ttk [0,17,18,19,20,5] 5 rfl rfl rfl rfl rfl rfl ?_ ?_
   all_goals first|rfl|(simp [ufs,bkL,rwL];done)|(simp [ufs,bkL,rwL];omega)
  refine AC.go ttk 2 rfl ?_
  refine AL.cn 21 [0,17,18,19,20,16,6,5] (g_callM (rhoOf [0,7,8,9,10,11,12,13,14,15]) (rhoOf [0,17,18,19,20]) (c_end_no (x 17) (x 19) b (⟨b.time,b.down,b.cards,b.due,b.auths,b.s0,b.s1,b.n0,b.n1,b.w0,(b.w1).drop 1,b.stand,b.today,b.book⟩:Bk) e21 (by first|assumption|omega)) en77 rfl rfl ⟨⟨_,rfl,.inl ⟨rfl,rfl⟩⟩,⟨_,rfl,.inl ⟨rfl,rfl⟩⟩,trivial⟩ ⟨rfl,rfl,rfl,rfl,rfl,rfl,rfl,rfl,rfl,rfl,trivial⟩ rfl rfl rfl rfl rfl rfl trivial ⟨⟨trivial,trivial,trivial,trivial,trivial,trivial,trivial,trivial,trivial,trivial,trivial,trivial,trivial,trivial,trivial,trivial,trivial,trivial,trivial,trivial,trivial⟩,(fun _ _ _ _=>trivial),(fun _ _ _ _=>trivial),(fun _ _ _ _=>trivial),(fun _ _ _ _=>trivial),trivial⟩ rfl rfl rfl rfl) rfl ?_
  refine AL.runs ttk 2 rfl ?_
  refine AL.nx ?_
  refine AC.ret ?_
  refine then_ret ?_
  have hX:arriveB b (⟨idn,kind,1,shop,move,sum⟩:Deed)=(b,(⟨e21,0⟩:Answer)):=by
    unfold arriveB;dsimp only;rw [if_neg (by decide),if_pos rfl];unfold arrive1;rw [hx1];dsimp only;unfold failK at hr1;simp only [if_true] at hr1;(try simp only [hr0]);(try unfold endB);(repeat' split)<;>first|rfl|omega|(exfalso;omega)|(simp_all;done)|(simp_all;omega)
  rw [hX] at hr;clear hX
  simp only [Prod.mk.injEq] at hr;obtain ⟨rfl,rfl⟩:=hr
  refine retQ_go ttk [0,17,18,19,20,5] 5 rfl rfl rfl rfl rfl rfl ?_ ?_
  all_goals first|rfl|(simp [ufs,bkL,rwL];done)|(simp [ufs,bkL,rwL];omega)
 have hc3':=of_decide_eq_false hc3
 refine AC.sk ?_
 refine AC.seq ?_
 obtain ⟨n2,ok2,hr2⟩:∃ (n2:Int) (ok2:Bool),takeS b.n1 x1.transfer=(n2,ok2):=⟨_,_,rfl⟩
 refine AC.drawP [0,1,4,5,6] [0,7,8,9,10,11,12,13,14,15,6,5] mixed rfl rfl ?_
 refine PD.runs (kn:=[]) ttk 8 rfl trivial ?_
 refine PD.op (n':=16) [126,123] [7] rfl rfl (.inl ⟨(Wanted.plain rfl),GOp.cast (g_indexB (i:=1) rfl rfl rfl Try.underlying36 sz3 rfl (by decide)) rfl⟩) rfl ?_
 refine PD.runs (kn:=[]) ttk 3 rfl trivial ?_
 refine PD.op (n':=16) [128,130] [] rfl rfl (.inl ⟨(Wanted.plain rfl),GOp.cast (g_call 16 (c_post_Take b.n1 x1.transfer n2 ok2 hr2) en88 rfl rfl ⟨⟨_,rfl,.c (.d _)⟩,⟨_,rfl,.g ⟨.d _,.d _,.d _,.d _,trivial⟩⟩,trivial⟩ ⟨trivial,trivial,trivial⟩ trivial rfl rfl rfl rfl) rfl⟩) rfl ?_
 refine PD.runs (kn:=[]) ttk 5 rfl trivial ?_
 refine PD.fin [0,7,8,9,10,11,12,13,14,15,6,5] rfl rfl rfl rfl (by kernel_rfl) ?_
 refine AL.nx ?_
 refine AC.seq ?_
 refine AC.drawP [0,1,4,5,6,9,10] [0,7,8,9,10,11,12,13,14,15,6,5] mixed rfl rfl ?_
 refine PD.runs (kn:=[]) ttk 9 rfl trivial ?_
 refine PD.op (n':=16) [142,138] [7] rfl rfl (.inl ⟨(Wanted.plain rfl),GOp.cast (g_indexB (i:=1) rfl rfl rfl Try.underlying36 sz3 rfl (by decide)) rfl⟩) rfl ?_
 refine PD.fin [0,7,8,9,10,11,12,13,14,15,6,5] rfl rfl rfl rfl (by kernel_rfl) ?_
 refine AL.runs ttk 1 rfl ?_
 refine AL.nx ?_
 refine AC.seq ?_
 refine AC.goes ttk 1 rfl ?_
 refine AC.cond rfl (fun hc7=>?_) (fun hc7=>?_)
 ·
  have hc7':=hc7;try simp only [sumB,dns] at hc7'
  have hpk2:=hpk (by omega)
  refine AC.region ?_
  refine AL.runs ttk 3 rfl ?_
  obtain ⟨due23,cards23,book23,e23,hr3⟩:∃ (due23:List Int) (cards23:List Card) (book23:List Entry) (e23:Int),takeK b.auths b.due b.cards b.book 0 x1.transfer=(due23,cards23,book23,e23):=⟨_,_,_,_,rfl⟩
  refine AL.cn 19 [7,16,17,18,0,8,9,10,11,15,6,5] (g_callR0 (rhoOf [7,12,13,14]) (rhoOf [7,16,17,18]) (ms:=(((((nmL.set 2 (some (.s 1 0 6 b.cards.length))).set 3 (some (.s 2 0 1 b.due.length))).set 4 (some (.s 3 0 8 b.auths.length))).set 18 (some (vlE b.book))).set 19 (some (cI 0)))) (ms':=(((((nmL.set 2 (some (.s 1 0 6 cards23.length))).set 3 (some (.s 2 0 1 due23.length))).set 4 (some (.s 3 0 8 b.auths.length))).set 18 (some (vlE book23))).set 19 (some (cI e23)))) (fun x hx=>c_take x hx b.auths b.due b.cards b.book 0 x1.transfer (by first|omega|(simp;done)|(simp;omega)) (by assumption) (by first|omega|(simp;done)|(simp;omega)) (by first|omega|(simp;done)|(simp;omega)) due23 cards23 book23 e23 hr3) en89 rfl rfl ⟨⟨_,rfl,.inl ⟨rfl,rfl⟩⟩,⟨_,rfl,.inr (.g ⟨.d _,.d _,.d _,.d _,trivial⟩)⟩,trivial⟩ rfl rfl rfl rfl rfl rfl rfl ⟨rfl,rfl,rfl,trivial⟩ rfl rfl rfl rfl rfl rfl rfl rfl rfl rfl rfl rfl rfl) rfl ?_
  refine AL.nx ?_
  rcases (show e23=0\/¬e23=0 from by omega) with hs8|hs8
  ·
   refine AC.go ttk 2 rfl ?_
   refine AL.cn 23 [0,19,20,21,22,6,5] (g_callM (rhoOf [0,7,8,9,10,11,16,17,18,15]) (rhoOf [0,19,20,21,22]) (c_end_ok (x 17) (x 19) b (⟨b.time,b.down,cards23,due23,b.auths,b.s0,b.s1,b.n0,n2,b.w0,(b.w1).drop 1,b.stand,b.today,book23⟩:Bk) e23 (by first|assumption|omega)) en77 rfl rfl ⟨⟨_,rfl,.inl ⟨rfl,rfl⟩⟩,⟨_,rfl,.inl ⟨rfl,rfl⟩⟩,trivial⟩ ⟨rfl,rfl,rfl,rfl,rfl,rfl,rfl,rfl,rfl,rfl,trivial⟩ rfl rfl rfl rfl rfl rfl trivial ⟨⟨trivial,trivial,trivial,trivial,trivial,trivial,trivial,trivial,trivial,trivial,trivial,trivial,trivial,trivial,trivial,trivial,trivial,trivial,trivial,trivial,trivial⟩,(fun _ _ _ _=>trivial),(fun _ _ _ _=>trivial),(fun _ _ _ _=>trivial),(fun _ _ _ _=>trivial),trivial⟩ rfl rfl rfl rfl) rfl ?_
   refine AL.runs ttk 2 rfl ?_
   refine AL.nx ?_
   refine AC.ret ?_
   have hX:arriveB b (⟨idn,kind,1,shop,move,sum⟩:Deed)=((⟨b.time,b.down,cards23,due23,b.auths,b.s0,b.s1,b.n0,n2,b.w0,(b.w1).drop 1,b.stand,b.today,book23⟩:Bk),(⟨e23,0⟩:Answer)):=by
     unfold arriveB;dsimp only;rw [if_neg (by decide),if_pos rfl];unfold arrive1;rw [hx1];dsimp only;(try simp only [hr2,hr3]);(try unfold endB);(repeat' split)<;>first|rfl|omega|(exfalso;omega)|(simp_all;done)|(simp_all;omega)
   rw [hX] at hr;clear hX
   simp only [Prod.mk.injEq] at hr;obtain ⟨rfl,rfl⟩:=hr
   refine retQ_go ttk [0,19,20,21,22,5] 5 rfl rfl rfl rfl rfl rfl ?_ ?_
   all_goals first|rfl|(simp [ufs,bkL,rwL];done)|(simp [ufs,bkL,rwL];omega)
  refine AC.go ttk 2 rfl ?_
  refine AL.cn 23 [0,19,20,21,22,6,5] (g_callM (rhoOf [0,7,8,9,10,11,16,17,18,15]) (rhoOf [0,19,20,21,22]) (c_end_no (x 17) (x 19) b (⟨b.time,b.down,cards23,due23,b.auths,b.s0,b.s1,b.n0,n2,b.w0,(b.w1).drop 1,b.stand,b.today,book23⟩:Bk) e23 (by first|assumption|omega)) en77 rfl rfl ⟨⟨_,rfl,.inl ⟨rfl,rfl⟩⟩,⟨_,rfl,.inl ⟨rfl,rfl⟩⟩,trivial⟩ ⟨rfl,rfl,rfl,rfl,rfl,rfl,rfl,rfl,rfl,rfl,trivial⟩ rfl rfl rfl rfl rfl rfl trivial ⟨⟨trivial,trivial,trivial,trivial,trivial,trivial,trivial,trivial,trivial,trivial,trivial,trivial,trivial,trivial,trivial,trivial,trivial,trivial,trivial,trivial,trivial⟩,(fun _ _ _ _=>trivial),(fun _ _ _ _=>trivial),(fun _ _ _ _=>trivial),(fun _ _ _ _=>trivial),trivial⟩ rfl rfl rfl rfl) rfl ?_
  refine AL.runs ttk 2 rfl ?_
  refine AL.nx ?_
  refine AC.ret ?_
  have hX:arriveB b (⟨idn,kind,1,shop,move,sum⟩:Deed)=(b,(⟨e23,0⟩:Answer)):=by
    unfold arriveB;dsimp only;rw [if_neg (by decide),if_pos rfl];unfold arrive1;rw [hx1];dsimp only;(try simp only [hr2,hr3]);(try unfold endB);(repeat' split)<;>first|rfl|omega|(exfalso;omega)|(simp_all;done)|(simp_all;omega)
  rw [hX] at hr;clear hX
  simp only [Prod.mk.injEq] at hr;obtain ⟨rfl,rfl⟩:=hr
  refine retQ_go ttk [0,19,20,21,22,5] 5 rfl rfl rfl rfl rfl rfl ?_ ?_
  all_goals first|rfl|(simp [ufs,bkL,rwL];done)|(simp [ufs,bkL,rwL];omega)
 have hc7':=hc7;try simp only [sumB,dns] at hc7'
 refine AC.sk ?_
 refine AC.go ttk 2 rfl ?_
 refine AL.cn 20 [0,16,17,18,19,6,5] (g_callM (rhoOf [0,7,8,9,10,11,12,13,14,15]) (rhoOf [0,16,17,18,19]) (c_end_ok (x 17) (x 19) b (⟨b.time,b.down,b.cards,b.due,b.auths,b.s0,b.s1,b.n0,n2,b.w0,(b.w1).drop 1,b.stand,b.today,b.book⟩:Bk) 0 (by first|assumption|omega)) en77 rfl rfl ⟨⟨_,rfl,.inl ⟨rfl,rfl⟩⟩,⟨_,rfl,.inl ⟨rfl,rfl⟩⟩,trivial⟩ ⟨rfl,rfl,rfl,rfl,rfl,rfl,rfl,rfl,rfl,rfl,trivial⟩ rfl rfl rfl rfl rfl rfl trivial ⟨⟨trivial,trivial,trivial,trivial,trivial,trivial,trivial,trivial,trivial,trivial,trivial,trivial,trivial,trivial,trivial,trivial,trivial,trivial,trivial,trivial,trivial⟩,(fun _ _ _ _=>trivial),(fun _ _ _ _=>trivial),(fun _ _ _ _=>trivial),(fun _ _ _ _=>trivial),trivial⟩ rfl rfl rfl rfl) rfl ?_
 refine AL.runs ttk 2 rfl ?_
 refine AL.nx ?_
 refine AC.ret ?_
 have hX:arriveB b (⟨idn,kind,1,shop,move,sum⟩:Deed)=((⟨b.time,b.down,b.cards,b.due,b.auths,b.s0,b.s1,b.n0,n2,b.w0,(b.w1).drop 1,b.stand,b.today,b.book⟩:Bk),(⟨0,0⟩:Answer)):=by
   unfold arriveB;dsimp only;rw [if_neg (by decide),if_pos rfl];unfold arrive1;rw [hx1];dsimp only;(try simp only [hr2]);(try unfold endB);(repeat' split)<;>first|rfl|omega|(exfalso;omega)|(simp_all;done)|(simp_all;omega)
 rw [hX] at hr;clear hX
 simp only [Prod.mk.injEq] at hr;obtain ⟨rfl,rfl⟩:=hr
 refine retQ_go ttk [0,16,17,18,19,5] 5 rfl rfl rfl rfl rfl rfl ?_ ?_
 all_goals first|rfl|(simp [ufs,bkL,rwL];done)|(simp [ufs,bkL,rwL];omega)
set_option maxRecDepth 100000 in
set_option maxHeartbeats 8000000 in
theorem c_arrive2 (x:Nat->Value) (hx:∀ i,(x i).oneCell'=true) (b:Bk) (d:Deed) (ok:Okb b) (hn:¬d.n=0/\¬d.n=1) (b2:Bk) (a2:Answer) (hr:arriveB b d=(b2,a2)):FnE Try.prog 67 [(.c (.p 0 0 0 0)),(.c (.q (rDeed d) 0))] [(0,(.box 98 (bkL b 1 2 3 4 (.d (.v (x 17))) (.d (.v (x 19)))))),(1,(alC b.cards)),(2,(alI b.due)),(3,(alP b.auths)),(4,(alR b.today))] [0] (.v (.g [cI a2.err,cI a2.auth])) [(0,(.box 98 (bkL b2 1 2 3 4 (.d (.v (x 17))) (.d (.v (x 19)))))),(1,(alC b2.cards)),(2,(alI b2.due)),(3,(alP b2.auths)),(4,(alR b2.today))]:=by
 refine FnE.mk 153 [(0,(aC (.p 0 0 0 0))),(1,(aC (.q (rDeed d) 0)))] 5 Try.func67 rfl rfl rfl rfl rfl rfl rfl rfl rfl ?_
 intro W0 F0 T0 pg
 obtain ⟨okt,okc,okd,oka,oky,okw0,okw1,okp,okv,okk0,okk1,okg,okl0,okl1,okp0,okp1,okn0,okn1,okq⟩:=id ok
 refine AC.goes ttk 1 rfl ?_
 refine AC.seq ?_
 refine AC.seq ?_
 rcases Bool.eq_false_or_eq_true (decide (¬d.n=0)) with hb1|hb1
 ·
  have hb1':=of_decide_eq_true hb1
  rcases Bool.eq_false_or_eq_true (decide (¬d.n=1)) with hb2|hb2
  ·
   have hb2':=of_decide_eq_true hb2
   refine AC.drawP [0,1,4] [5,0,1,2,3,4] mixed rfl rfl ?_
   refine PD.runs (kn:=[(15,true),(21,true)]) ttk 26 rfl ⟨hb1,hb2,trivial⟩ ?_
   refine PD.fin [5,0,1,2,3,4] rfl rfl rfl rfl (by kernel_rfl) ?_
   refine AL.nx ?_
   refine AC.cond rfl (fun _=>?_) (fun hno=>by cases hno)
   refine AC.goes ttk 2 rfl ?_
   refine AC.ret ?_
   refine then_ret ?_
   have hX:arriveB b d=(b,(⟨6,0⟩:Answer)):=by
     unfold arriveB;rw [if_neg hn.1,if_neg hn.2]
   rw [hX] at hr;clear hX
   simp only [Prod.mk.injEq] at hr;obtain ⟨rfl,rfl⟩:=hr
   refine retQ_go ttk [0,1,2,3,4,5] 5 rfl rfl rfl rfl rfl rfl ?_ ?_
   all_goals first|rfl|(simp [ufs,bkL,rwL];done)|(simp [ufs,bkL,rwL];omega)
  have hb2':=of_decide_eq_false hb2
  (exfalso;simp_all;done)
 have hb1':=of_decide_eq_false hb1
 (exfalso;simp_all;done)
end Go.Proofs.Ytegepioggeggaaa.Dev
namespace Go.Proofs.Ytegepioggeggaaa.Dev
open Go.RowKit

theorem c_arrive (x:Nat->Value) (hx:∀ i,(x i).oneCell'=true) (b:Bk) (d:Deed) (ok:Okb b) (b2:Bk) (a2:Answer) (hr:arriveB b d=(b2,a2)):FnE Try.prog 67 [(.c (.p 0 0 0 0)),(.c (.q (rDeed d) 0))] [(0,(.box 98 (bkL b 1 2 3 4 (.d (.v (x 17))) (.d (.v (x 19)))))),(1,(alC b.cards)),(2,(alI b.due)),(3,(alP b.auths)),(4,(alR b.today))] [0] (.v (.g [cI a2.err,cI a2.auth])) [(0,(.box 98 (bkL b2 1 2 3 4 (.d (.v (x 17))) (.d (.v (x 19)))))),(1,(alC b2.cards)),(2,(alI b2.due)),(3,(alP b2.auths)),(4,(alR b2.today))]:=by
  obtain ⟨idn,kind,n,shop,move,sum⟩:=d
  by_cases h0:n=0
  ·subst h0;exact c_arrive0 x hx b idn kind shop move sum ok b2 a2 hr
  by_cases h1:n=1
  ·subst h1;exact c_arrive1 x hx b idn kind shop move sum ok b2 a2 hr
  ·exact c_arrive2 x hx b _ ok ⟨h0,h1⟩ b2 a2 hr
theorem c_bsend (x:Nat->Value) (hx:∀ i,(x i).oneCell'=true) (s0 s1:Sender) (n0 n1:Int) (w0 w1:List Packet) (d:Deed) (l0:w0.length<=60) (l1:w1.length<=60) (m0:s0.kept.length<=40) (m1:s1.kept.length<=40) (v0 v1:List Packet) (a2:Answer) (hr:sendW s0 s1 n0 n1 w0 w1 d=(v0,v1,a2)):FnE Try.prog 66 [(.c (.p 0 0 0 0)),(.c (.q (rDeed d) 0))] [(0,(.box 98 (((((((((rwL x).set 5 (cI s0.sent)).set 6 (vlT s0.kept)).set 7 (cI s1.sent)).set 8 (vlT s1.kept)).set 9 (cI n0)).set 10 (cI n1)).set 11 (vlK w0)).set 12 (vlK w1))))] [0] (.v (.g [cI a2.err,cI a2.auth])) [(0,(.box 98 (((((((((rwL x).set 5 (cI s0.sent)).set 6 (vlT s0.kept)).set 7 (cI s1.sent)).set 8 (vlT s1.kept)).set 9 (cI n0)).set 10 (cI n1)).set 11 (vlK v0)).set 12 (vlK v1))))]:=by
  obtain ⟨idn,kind,n,shop,move,sum⟩:=d
  by_cases h0:n=0
  ·subst h0;exact c_bsend0 x hx s0 s1 n0 n1 w0 w1 idn kind shop move sum l0 l1 m0 m1 v0 v1 a2 hr
  by_cases h1:n=1
  ·subst h1;exact c_bsend1 x hx s0 s1 n0 n1 w0 w1 idn kind shop move sum l0 l1 m0 m1 v0 v1 a2 hr
  ·exact c_bsend2 x hx s0 s1 n0 n1 w0 w1 _ l0 l1 m0 m1 ⟨h0,h1⟩ v0 v1 a2 hr
end Go.Proofs.Ytegepioggeggaaa.Dev
namespace Go.Proofs.Ytegepioggeggaaa.Dev
open Go.RowKit

set_option maxRecDepth 100000 in
set_option maxHeartbeats 4000000 in
theorem c_load (x:Nat->Value) (hx:∀ i,(x i).oneCell'=true) (b:Bk) (d:Deed) (ok:Okb b) (b2:Bk) (a2:Answer) (hr:loadB b d=(b2,a2)):FnE Try.prog 62 [(.c (.p 0 0 0 0)),(.c (.q (rDeed d) 0))] [(0,(.box 98 (bkL b 1 2 3 4 (.d (.v (x 17))) (.d (.v (x 19)))))),(1,(alC b.cards)),(2,(alI b.due)),(3,(alP b.auths)),(4,(alR b.today))] [0] (.v (.g [cI a2.err,cI a2.auth])) [(0,(.box 98 (bkL b2 1 2 3 4 (.d (.v (x 17))) (.d (.v (x 19)))))),(1,(alC b2.cards)),(2,(alI b2.due)),(3,(alP b2.auths)),(4,(alR b2.today))]:=by
 refine FnE.mk 65 [(0,(aC (.p 0 0 0 0))),(1,(aC (.q (rDeed d) 0)))] 5 Try.func62 rfl rfl rfl rfl rfl rfl rfl rfl rfl ?_
 intro W0 F0 T0 pg
 obtain ⟨okt,okc,okd,oka,oky,okw0,okw1,okp,okv,okk0,okk1,okg,okl0,okl1,okp0,okp1,okn0,okn1,okq⟩:=id ok
 refine AC.goes ttk 1 rfl ?_
 refine AC.seq ?_
 refine AC.seq ?_
 rcases Bool.eq_false_or_eq_true (decide (d.n < 0)) with hb1|hb1
 ·
  have hb1':=of_decide_eq_true hb1
  refine AC.drawP [0,1,4] [5,0,1,2,3,4] mixed rfl rfl ?_
  refine PD.runs (kn:=[(10,true)]) ttk 18 rfl ⟨hb1,trivial⟩ ?_
  refine PD.fin [5,0,1,2,3,4] rfl rfl rfl rfl (by kernel_rfl) ?_
  refine AL.nx ?_
  refine AC.cond rfl (fun _=>?_) (fun hno=>by cases hno)
  refine AC.goes ttk 2 rfl ?_
  refine AC.ret ?_
  refine then_ret ?_
  have hX:loadB b d=(b,(⟨6,0⟩:Answer)):=by
    unfold loadB;(repeat' split)<;>first|rfl|omega|(exfalso;omega)|(simp_all;done)|(simp_all;omega)
  rw [hX] at hr;clear hX
  simp only [Prod.mk.injEq] at hr;obtain ⟨rfl,rfl⟩:=hr
  refine retQ_go ttk [0,1,2,3,4,5] 5 rfl rfl rfl rfl rfl rfl ?_ ?_
  all_goals first|rfl|(simp [ufs,bkL,rwL];done)|(simp [ufs,bkL,rwL];omega)
 have hb1':=of_decide_eq_false hb1
 refine AC.drawP [0,1,4] [5,0,1,2,3,4] mixed rfl rfl ?_
 refine PD.runs (kn:=[(10,false)]) ttk 15 rfl ⟨hb1,trivial⟩ ?_
 refine PD.op (n':=6) [20,11] [1] rfl rfl (.inl ⟨(Wanted.yes rfl rfl rfl),GOp.cast (g_lenS rfl rfl rfl rfl rfl Try.underlying29) rfl⟩) rfl ?_
 refine PD.runs (kn:=[]) ttk 2 rfl trivial ?_
 refine PD.fin [5,0,1,2,3,4] rfl rfl rfl rfl (by kernel_rfl) ?_
 refine AL.nx ?_
 refine AC.cond rfl (fun hc3=>?_) (fun hc3=>?_)
 ·
  have hc3':=of_decide_eq_true hc3
  refine AC.goes ttk 2 rfl ?_
  refine AC.ret ?_
  refine then_ret ?_
  have hX:loadB b d=(b,(⟨6,0⟩:Answer)):=by
    unfold loadB;(repeat' split)<;>first|rfl|omega|(exfalso;omega)|(simp_all;done)|(simp_all;omega)
  rw [hX] at hr;clear hX
  simp only [Prod.mk.injEq] at hr;obtain ⟨rfl,rfl⟩:=hr
  refine retQ_go ttk [0,1,2,3,4,5] 5 rfl rfl rfl rfl rfl rfl ?_ ?_
  all_goals first|rfl|(simp [ufs,bkL,rwL];done)|(simp [ufs,bkL,rwL];omega)
 have hc3':=of_decide_eq_false hc3
 refine AC.sk ?_
 refine AC.seq ?_
 refine AC.cutB 36 ((decide (d.sum < 1))||(decide (d.sum > 1000000))) ?_ ?_
 ·
  refine AC.region ?_
  refine AL.runs ttk 6 rfl ?_
  refine AL.dec (t:=30) rfl (fun hb4=>?_) (fun hb4=>?_)
  ·
   have hb4':=of_decide_eq_true hb4
   refine AL.runs ttk 6 rfl ?_
   refine AL.nx ?_
   exact Weak.popB 13 rfl rfl (by first|(simp [hb4];done)|(simp_all;done)|(exfalso;simp_all;done)|(simp_all;omega)) rfl
  have hb4':=of_decide_eq_false hb4
  refine AL.runs ttk 6 rfl ?_
  refine AL.nx ?_
  exact Weak.popB 13 rfl rfl (by first|(simp [hb4];done)|(simp_all;done)|(exfalso;simp_all;done)|(simp_all;omega)) rfl
 refine AC.cond rfl (fun hc5=>?_) (fun hc5=>?_)
 ·
  have hc5':=hc5;try simp only [sumB,dns] at hc5'
  refine AC.goes ttk 2 rfl ?_
  refine AC.ret ?_
  refine then_ret ?_
  have hX:loadB b d=(b,(⟨3,0⟩:Answer)):=by
    unfold loadB;(repeat' split)<;>first|rfl|omega|(exfalso;omega)|(simp_all;done)|(simp_all;omega)
  rw [hX] at hr;clear hX
  simp only [Prod.mk.injEq] at hr;obtain ⟨rfl,rfl⟩:=hr
  refine retQ_go ttk [0,1,2,3,4,5] 5 rfl rfl rfl rfl rfl rfl ?_ ?_
  all_goals first|rfl|(simp [ufs,bkL,rwL];done)|(simp [ufs,bkL,rwL];omega)
 have hc5':=hc5;try simp only [sumB,dns] at hc5'
 refine AC.sk ?_
 refine AC.go ttk 1 rfl ?_
 refine AL.cn 15 [0,6,7,8,9,10,11,12,13,14,5] (g_callM id (rhoOf [0,6,7,8,9,10,11,12,13,14]) (c_begin (x 17) (x 19) b (by first|omega|(simp;done)|(simp;omega)) (by first|omega|(simp;done)|(simp;omega)) (by first|omega|(simp;done)|(simp;omega)) (by first|omega|(simp;done)|(simp;omega))) en74 rfl rfl ⟨⟨_,rfl,.inl ⟨rfl,rfl⟩⟩,trivial⟩ ⟨rfl,rfl,rfl,rfl,rfl,trivial⟩ rfl rfl rfl rfl rfl rfl trivial ⟨⟨trivial,trivial,trivial,trivial,trivial,trivial,trivial,trivial,trivial,trivial,trivial,trivial,trivial,trivial,trivial,trivial,trivial,trivial,trivial,trivial,trivial⟩,⟨trivial,trivial,trivial,trivial,trivial,trivial,trivial,trivial,trivial,trivial,trivial,trivial,trivial,trivial,trivial,trivial,trivial,trivial,trivial,trivial,trivial⟩,(fun _ _ _ _=>trivial),(fun _ _ _ _=>trivial),(fun _ _ _ _=>trivial),(fun _ _ _ _=>trivial),(fun _ _ _ _=>trivial),(fun _ _ _ _=>trivial),(fun _ _ _ _=>trivial),(fun _ _ _ _=>trivial),trivial⟩ rfl rfl rfl rfl) rfl ?_
 refine AL.runs ttk 1 rfl ?_
 refine AL.nx ?_
 refine AC.seq ?_
 obtain ⟨l20,e20,hr0⟩:∃ (l20:List Card) (e20:Int),shiftK b.cards 0 d.n 0 d.sum=(l20,e20):=⟨_,_,rfl⟩
 refine AC.drawQ [0,1,4,5] [0,6,7,8,9,10,11,12,13,14,5] mixed rfl rfl ?_
 refine PW.runs (kn:=[]) ttk 9 rfl trivial ?_
 refine PW.op (n':=16) [40,44,48] [11,6] rfl rfl (.inl ⟨(Wanted.plain rfl),GOp.cast (g_callR0 (rhoOf [6,11]) (rhoOf [6,15]) (ms:=((nmL.set 2 (some (.s 1 0 6 b.cards.length))).set 19 (some (cI 0)))) (ms':=((nmL.set 2 (some (.s 1 0 6 l20.length))).set 19 (some (cI e20)))) (fun x hx=>c_shift x hx b.cards 0 d.n 0 d.sum (by first|omega|(simp;done)|(simp;omega)) l20 e20 hr0) en75 rfl rfl ⟨⟨_,rfl,.inl ⟨rfl,rfl⟩⟩,⟨_,rfl,.inr (.c (.d _))⟩,⟨_,rfl,.inr (.c (.d _))⟩,⟨_,rfl,.inr (.c (.d _))⟩,trivial⟩ rfl rfl rfl rfl rfl rfl rfl ⟨rfl,trivial⟩ rfl rfl rfl rfl rfl rfl rfl rfl rfl rfl rfl rfl rfl) rfl⟩) rfl ?_
 refine PW.fin [0,1,4,5] [15,6,0,7,8,9,10,12,13,14,5] rfl rfl (by kernel_rfl) ?_
 refine then_ok ?_
 refine AC.seq ?_
 obtain ⟨l21,e21,hr1⟩:∃ (l21:List Entry) (e21:Int),moveK b.book e20 0 (10+d.n) d.sum=(l21,e21):=⟨_,_,rfl⟩
 refine AC.drawQ [0,1,4,5] [15,6,0,7,8,9,10,12,13,14,5] mixed rfl rfl ?_
 refine PW.runs (kn:=[]) ttk 5 rfl trivial ?_
 refine PW.op (n':=16) [54] [] rfl rfl (.inl ⟨(Wanted.plain rfl),GOp.cast (g_binI rfl rfl rfl (wrap_ok (by first|omega|(simp;done)|(simp;omega)))) rfl⟩) rfl ?_
 refine PW.runs (kn:=[]) ttk 4 rfl trivial ?_
 refine PW.op (n':=16) [50,55,59] [6] rfl rfl (.inl ⟨(Wanted.plain rfl),GOp.cast (g_callR0 (rhoOf [6]) (rhoOf [6]) (ms:=((nmL.set 18 (some (vlE b.book))).set 19 (some (cI e20)))) (ms':=((nmL.set 18 (some (vlE l21))).set 19 (some (cI e21)))) (fun x hx=>c_move x hx b.book e20 0 (10+d.n) d.sum l21 e21 hr1) en76 rfl rfl ⟨⟨_,rfl,.inl ⟨rfl,rfl⟩⟩,⟨_,rfl,.inr (.c (.d _))⟩,⟨_,rfl,.inr (.c (.d _))⟩,⟨_,rfl,.inr (.c (.d _))⟩,trivial⟩ rfl rfl rfl rfl rfl rfl rfl trivial rfl rfl rfl rfl rfl rfl rfl rfl rfl rfl rfl rfl rfl) rfl⟩) rfl ?_
 refine PW.fin [0,4,5] [6,15,0,7,8,9,10,12,13,14,5] rfl rfl (by kernel_rfl) ?_
 refine then_ok ?_
 rcases (show e21=0\/¬e21=0 from by omega) with hs6|hs6
 ·
  refine AC.go ttk 2 rfl ?_
  refine AL.cn 20 [0,16,17,18,19,5] (g_callM (rhoOf [0,6,7,8,9,10,15,12,13,14]) (rhoOf [0,16,17,18,19]) (c_end_ok (x 17) (x 19) b (⟨b.time,b.down,l20,b.due,b.auths,b.s0,b.s1,b.n0,b.n1,b.w0,b.w1,b.stand,b.today,l21⟩:Bk) e21 (by first|assumption|omega)) en77 rfl rfl ⟨⟨_,rfl,.inl ⟨rfl,rfl⟩⟩,⟨_,rfl,.inl ⟨rfl,rfl⟩⟩,trivial⟩ ⟨rfl,rfl,rfl,rfl,rfl,rfl,rfl,rfl,rfl,rfl,trivial⟩ rfl rfl rfl rfl rfl rfl trivial ⟨⟨trivial,trivial,trivial,trivial,trivial,trivial,trivial,trivial,trivial,trivial,trivial,trivial,trivial,trivial,trivial,trivial,trivial,trivial,trivial,trivial,trivial⟩,(fun _ _ _ _=>trivial),(fun _ _ _ _=>trivial),(fun _ _ _ _=>trivial),(fun _ _ _ _=>trivial),trivial⟩ rfl rfl rfl rfl) rfl ?_
  refine AL.runs ttk 2 rfl ?_
  refine AL.nx ?_
  refine AC.ret ?_
  have hX:loadB b d=((⟨b.time,b.down,l20,b.due,b.auths,b.s0,b.s1,b.n0,b.n1,b.w0,b.w1,b.stand,b.today,l21⟩:Bk),(⟨e21,0⟩:Answer)):=by
    unfold loadB;simp only [endB,hr0,hr1];(repeat' split)<;>first|rfl|omega|(exfalso;omega)|(simp_all;done)|(simp_all;omega)
  rw [hX] at hr;clear hX
  simp only [Prod.mk.injEq] at hr;obtain ⟨rfl,rfl⟩:=hr
  refine retQ_go ttk [0,16,17,18,19,5] 5 rfl rfl rfl rfl rfl rfl ?_ ?_
  all_goals first|rfl|(simp [ufs,bkL,rwL];done)|(simp [ufs,bkL,rwL];omega)
 refine AC.go ttk 2 rfl ?_
 refine AL.cn 20 [0,16,17,18,19,5] (g_callM (rhoOf [0,6,7,8,9,10,15,12,13,14]) (rhoOf [0,16,17,18,19]) (c_end_no (x 17) (x 19) b (⟨b.time,b.down,l20,b.due,b.auths,b.s0,b.s1,b.n0,b.n1,b.w0,b.w1,b.stand,b.today,l21⟩:Bk) e21 (by first|assumption|omega)) en77 rfl rfl ⟨⟨_,rfl,.inl ⟨rfl,rfl⟩⟩,⟨_,rfl,.inl ⟨rfl,rfl⟩⟩,trivial⟩ ⟨rfl,rfl,rfl,rfl,rfl,rfl,rfl,rfl,rfl,rfl,trivial⟩ rfl rfl rfl rfl rfl rfl trivial ⟨⟨trivial,trivial,trivial,trivial,trivial,trivial,trivial,trivial,trivial,trivial,trivial,trivial,trivial,trivial,trivial,trivial,trivial,trivial,trivial,trivial,trivial⟩,(fun _ _ _ _=>trivial),(fun _ _ _ _=>trivial),(fun _ _ _ _=>trivial),(fun _ _ _ _=>trivial),trivial⟩ rfl rfl rfl rfl) rfl ?_
 refine AL.runs ttk 2 rfl ?_
 refine AL.nx ?_
 refine AC.ret ?_
 have hX:loadB b d=(b,(⟨e21,0⟩:Answer)):=by
   unfold loadB;simp only [endB,hr0,hr1];(repeat' split)<;>first|rfl|omega|(exfalso;omega)|(simp_all;done)|(simp_all;omega)
 rw [hX] at hr;clear hX
 simp only [Prod.mk.injEq] at hr;obtain ⟨rfl,rfl⟩:=hr
 refine retQ_go ttk [0,16,17,18,19,5] 5 rfl rfl rfl rfl rfl rfl ?_ ?_
 all_goals first|rfl|(simp [ufs,bkL,rwL];done)|(simp [ufs,bkL,rwL];omega)
set_option maxRecDepth 100000 in
set_option maxHeartbeats 4000000 in
theorem c_pay (x:Nat->Value) (hx:∀ i,(x i).oneCell'=true) (b:Bk) (d:Deed) (ok:Okb b) (b2:Bk) (a2:Answer) (hr:payB b d=(b2,a2)):FnE Try.prog 70 [(.c (.p 0 0 0 0)),(.c (.q (rDeed d) 0))] [(0,(.box 98 (bkL b 1 2 3 4 (.d (.v (x 17))) (.d (.v (x 19)))))),(1,(alC b.cards)),(2,(alI b.due)),(3,(alP b.auths)),(4,(alR b.today))] [0] (.v (.g [cI a2.err,cI a2.auth])) [(0,(.box 98 (bkL b2 1 2 3 4 (.d (.v (x 17))) (.d (.v (x 19)))))),(1,(alC b2.cards)),(2,(alI b2.due)),(3,(alP b2.auths)),(4,(alR b2.today))]:=by
 refine FnE.mk 64 [(0,(aC (.p 0 0 0 0))),(1,(aC (.q (rDeed d) 0)))] 5 Try.func70 rfl rfl rfl rfl rfl rfl rfl rfl rfl ?_
 intro W0 F0 T0 pg
 obtain ⟨okt,okc,okd,oka,oky,okw0,okw1,okp,okv,okk0,okk1,okg,okl0,okl1,okp0,okp1,okn0,okn1,okq⟩:=id ok
 refine AC.goes ttk 1 rfl ?_
 refine AC.seq ?_
 refine AC.seq ?_
 rcases Bool.eq_false_or_eq_true (decide (d.n < 0)) with hb1|hb1
 ·
  have hb1':=of_decide_eq_true hb1
  refine AC.drawP [0,1,4] [5,0,1,2,3,4] mixed rfl rfl ?_
  refine PD.runs (kn:=[(11,true)]) ttk 18 rfl ⟨hb1,trivial⟩ ?_
  refine PD.fin [5,0,1,2,3,4] rfl rfl rfl rfl (by kernel_rfl) ?_
  refine AL.nx ?_
  refine AC.cond rfl (fun _=>?_) (fun hno=>by cases hno)
  refine AC.goes ttk 2 rfl ?_
  refine AC.ret ?_
  refine then_ret ?_
  have hX:payB b d=(b,(⟨6,0⟩:Answer)):=by
    unfold payB;(repeat' split)<;>first|rfl|omega|(exfalso;omega)|(simp_all;done)|(simp_all;omega)
  rw [hX] at hr;clear hX
  simp only [Prod.mk.injEq] at hr;obtain ⟨rfl,rfl⟩:=hr
  refine retQ_go ttk [0,1,2,3,4,5] 5 rfl rfl rfl rfl rfl rfl ?_ ?_
  all_goals first|rfl|(simp [ufs,bkL,rwL];done)|(simp [ufs,bkL,rwL];omega)
 have hb1':=of_decide_eq_false hb1
 refine AC.drawP [0,1,4] [5,0,1,2,3,4] mixed rfl rfl ?_
 refine PD.runs (kn:=[(11,false)]) ttk 15 rfl ⟨hb1,trivial⟩ ?_
 refine PD.op (n':=6) [21,12] [2] rfl rfl (.inl ⟨(Wanted.yes rfl rfl rfl),GOp.cast (g_lenS rfl rfl rfl rfl rfl Try.underlying30) rfl⟩) rfl ?_
 refine PD.runs (kn:=[]) ttk 2 rfl trivial ?_
 refine PD.fin [5,0,1,2,3,4] rfl rfl rfl rfl (by kernel_rfl) ?_
 refine AL.nx ?_
 refine AC.cond rfl (fun hc3=>?_) (fun hc3=>?_)
 ·
  have hc3':=of_decide_eq_true hc3
  refine AC.goes ttk 2 rfl ?_
  refine AC.ret ?_
  refine then_ret ?_
  have hX:payB b d=(b,(⟨6,0⟩:Answer)):=by
    unfold payB;(repeat' split)<;>first|rfl|omega|(exfalso;omega)|(simp_all;done)|(simp_all;omega)
  rw [hX] at hr;clear hX
  simp only [Prod.mk.injEq] at hr;obtain ⟨rfl,rfl⟩:=hr
  refine retQ_go ttk [0,1,2,3,4,5] 5 rfl rfl rfl rfl rfl rfl ?_ ?_
  all_goals first|rfl|(simp [ufs,bkL,rwL];done)|(simp [ufs,bkL,rwL];omega)
 have hc3':=of_decide_eq_false hc3
 refine AC.sk ?_
 refine AC.seq ?_
 obtain ⟨x1,hx1⟩:=exget (xs:=b.due) (i:=Int.toNat (d.n)) (by first|omega|(simp;done)|(simp;omega))
 refine AC.drawP [0,1,4] [5,0,1,2,3,4] mixed rfl rfl ?_
 refine PD.runs (kn:=[]) ttk 9 rfl trivial ?_
 refine PD.op (n':=6) [30,34] [2] rfl rfl (.inl ⟨(Wanted.plain rfl),GOp.cast (g_indexP0 (i:=Int.toNat (d.n)) rfl rfl rfl Try.underlying30 sz3 (by first|omega|(simp;done)|(simp;omega)) (by first|omega|(simp;done)|(simp;omega))) rfl⟩) rfl ?_
 refine PD.op (n':=6) [35] [2] rfl rfl (.inl ⟨(Wanted.plain rfl),GOp.cast (g_loadA rfl rfl rfl Try.underlying3 rfl (getmap hx1) rfl) rfl⟩) rfl ?_
 refine PD.runs (kn:=[]) ttk 1 rfl trivial ?_
 refine PD.fin [5,0,1,2,3,4] rfl rfl rfl rfl (by kernel_rfl) ?_
 refine AL.nx ?_
 refine AC.seq ?_
 refine AC.goes ttk 2 rfl ?_
 refine AC.cond rfl (fun hc4=>?_) (fun hc4=>?_)
 ·
  have hc4':=of_decide_eq_true hc4
  refine AC.goes ttk 2 rfl ?_
  refine AC.ret ?_
  refine then_ret ?_
  have hX:payB b d=(b,(⟨10,0⟩:Answer)):=by
    unfold payB;simp only [endB,List.getD_eq_getElem?_getD,hx1,Option.getD_some,];(repeat' split)<;>first|rfl|omega|(exfalso;omega)|(simp_all;done)|(simp_all;omega)
  rw [hX] at hr;clear hX
  simp only [Prod.mk.injEq] at hr;obtain ⟨rfl,rfl⟩:=hr
  refine retQ_go ttk [0,1,2,3,4,5] 5 rfl rfl rfl rfl rfl rfl ?_ ?_
  all_goals first|rfl|(simp [ufs,bkL,rwL];done)|(simp [ufs,bkL,rwL];omega)
 have hc4':=of_decide_eq_false hc4
 refine AC.sk ?_
 refine AC.go ttk 1 rfl ?_
 refine AL.cn 15 [0,6,7,8,9,10,11,12,13,14,5] (g_callM id (rhoOf [0,6,7,8,9,10,11,12,13,14]) (c_begin (x 17) (x 19) b (by first|omega|(simp;done)|(simp;omega)) (by first|omega|(simp;done)|(simp;omega)) (by first|omega|(simp;done)|(simp;omega)) (by first|omega|(simp;done)|(simp;omega))) en74 rfl rfl ⟨⟨_,rfl,.inl ⟨rfl,rfl⟩⟩,trivial⟩ ⟨rfl,rfl,rfl,rfl,rfl,trivial⟩ rfl rfl rfl rfl rfl rfl trivial ⟨⟨trivial,trivial,trivial,trivial,trivial,trivial,trivial,trivial,trivial,trivial,trivial,trivial,trivial,trivial,trivial,trivial,trivial,trivial,trivial,trivial,trivial⟩,⟨trivial,trivial,trivial,trivial,trivial,trivial,trivial,trivial,trivial,trivial,trivial,trivial,trivial,trivial,trivial,trivial,trivial,trivial,trivial,trivial,trivial⟩,(fun _ _ _ _=>trivial),(fun _ _ _ _=>trivial),(fun _ _ _ _=>trivial),(fun _ _ _ _=>trivial),(fun _ _ _ _=>trivial),(fun _ _ _ _=>trivial),(fun _ _ _ _=>trivial),(fun _ _ _ _=>trivial),trivial⟩ rfl rfl rfl rfl) rfl ?_
 refine AL.runs ttk 1 rfl ?_
 refine AL.nx ?_
 refine AC.seq ?_
 refine AC.drawP [0,1,4,5,6] [0,6,7,8,9,10,11,12,13,14,5] mixed rfl rfl ?_
 refine PD.runs (kn:=[]) ttk 9 rfl trivial ?_
 refine PD.op (n':=15) [46,50] [12] rfl rfl (.inl ⟨(Wanted.plain rfl),GOp.cast (g_indexP0 (i:=Int.toNat (d.n)) rfl rfl rfl Try.underlying30 sz3 (by first|omega|(simp;done)|(simp;omega)) (by first|omega|(simp;done)|(simp;omega))) rfl⟩) rfl ?_
 refine PD.fin [0,6,7,8,9,10,11,12,13,14,5] rfl rfl rfl rfl (by kernel_rfl) ?_
 refine AL.so [0,6,7,8,9,10,11,12,13,14,5] (g_storeA (ds:=[(dI 0)]) rfl rfl rfl rfl rfl sz3 rfl (Nat.le_of_ble_eq_true rfl) (getmap hx1) rfl (setmap (x':=0) rfl)) rfl ?_
 refine AL.nx ?_
 refine AC.recell (k:=6) (q:=3) (c':=(.s 12 0 1 (((b.due).set (Int.toNat (d.n)) 0).length))) rfl rfl (by first|rfl|(simp;done)|(congr 1;omega)) rfl ?_
 refine AC.go ttk 5 rfl ?_
 refine AL.vl (g_binI rfl rfl rfl (wrap_ok (by first|omega|(simp;done)|(simp;omega)))) rfl ?_
 refine AL.runs ttk 1 rfl ?_
 obtain ⟨l20,e20,hr0⟩:∃ (l20:List Entry) (e20:Int),moveK b.book 0 (50+d.n) 0 x1=(l20,e20):=⟨_,_,rfl⟩
 refine AL.cn 15 [6,0,7,8,9,10,11,12,13,14,5] (g_callR0 (rhoOf [6]) (rhoOf [6]) (ms:=((nmL.set 18 (some (vlE b.book))).set 19 (some (cI 0)))) (ms':=((nmL.set 18 (some (vlE l20))).set 19 (some (cI e20)))) (fun x hx=>c_move x hx b.book 0 (50+d.n) 0 x1 l20 e20 hr0) en76 rfl rfl ⟨⟨_,rfl,.inl ⟨rfl,rfl⟩⟩,⟨_,rfl,.inr (.c (.d _))⟩,⟨_,rfl,.inr (.c (.d _))⟩,⟨_,rfl,.inr (.c (.d _))⟩,trivial⟩ rfl rfl rfl rfl rfl rfl rfl trivial rfl rfl rfl rfl rfl rfl rfl rfl rfl rfl rfl rfl rfl) rfl ?_
 refine AL.nx ?_
 rcases (show e20=0\/¬e20=0 from by omega) with hs5|hs5
 ·
  refine AC.go ttk 2 rfl ?_
  refine AL.cn 19 [0,15,16,17,18,5] (g_callM (rhoOf [0,6,7,8,9,10,11,12,13,14]) (rhoOf [0,15,16,17,18]) (c_end_ok (x 17) (x 19) b (⟨b.time,b.down,b.cards,(b.due).set (Int.toNat (d.n)) 0,b.auths,b.s0,b.s1,b.n0,b.n1,b.w0,b.w1,b.stand,b.today,l20⟩:Bk) e20 (by first|assumption|omega)) en77 rfl rfl ⟨⟨_,rfl,.inl ⟨rfl,rfl⟩⟩,⟨_,rfl,.inl ⟨rfl,rfl⟩⟩,trivial⟩ ⟨rfl,rfl,rfl,rfl,rfl,rfl,rfl,rfl,rfl,rfl,trivial⟩ rfl rfl rfl rfl rfl rfl trivial ⟨⟨trivial,trivial,trivial,trivial,trivial,trivial,trivial,trivial,trivial,trivial,trivial,trivial,trivial,trivial,trivial,trivial,trivial,trivial,trivial,trivial,trivial⟩,(fun _ _ _ _=>trivial),(fun _ _ _ _=>trivial),(fun _ _ _ _=>trivial),(fun _ _ _ _=>trivial),trivial⟩ rfl rfl rfl rfl) rfl ?_
  refine AL.runs ttk 2 rfl ?_
  refine AL.nx ?_
  refine AC.ret ?_
  have hX:payB b d=((⟨b.time,b.down,b.cards,(b.due).set (Int.toNat (d.n)) 0,b.auths,b.s0,b.s1,b.n0,b.n1,b.w0,b.w1,b.stand,b.today,l20⟩:Bk),(⟨e20,0⟩:Answer)):=by
    unfold payB;simp only [endB,List.getD_eq_getElem?_getD,hx1,Option.getD_some,hr0];(repeat' split)<;>first|rfl|omega|(exfalso;omega)|(simp_all;done)|(simp_all;omega)
  rw [hX] at hr;clear hX
  simp only [Prod.mk.injEq] at hr;obtain ⟨rfl,rfl⟩:=hr
  refine retQ_go ttk [0,15,16,17,18,5] 5 rfl rfl rfl rfl rfl rfl ?_ ?_
  all_goals first|rfl|(simp [ufs,bkL,rwL];done)|(simp [ufs,bkL,rwL];omega)
 refine AC.go ttk 2 rfl ?_
 refine AL.cn 19 [0,15,16,17,18,5] (g_callM (rhoOf [0,6,7,8,9,10,11,12,13,14]) (rhoOf [0,15,16,17,18]) (c_end_no (x 17) (x 19) b (⟨b.time,b.down,b.cards,(b.due).set (Int.toNat (d.n)) 0,b.auths,b.s0,b.s1,b.n0,b.n1,b.w0,b.w1,b.stand,b.today,l20⟩:Bk) e20 (by first|assumption|omega)) en77 rfl rfl ⟨⟨_,rfl,.inl ⟨rfl,rfl⟩⟩,⟨_,rfl,.inl ⟨rfl,rfl⟩⟩,trivial⟩ ⟨rfl,rfl,rfl,rfl,rfl,rfl,rfl,rfl,rfl,rfl,trivial⟩ rfl rfl rfl rfl rfl rfl trivial ⟨⟨trivial,trivial,trivial,trivial,trivial,trivial,trivial,trivial,trivial,trivial,trivial,trivial,trivial,trivial,trivial,trivial,trivial,trivial,trivial,trivial,trivial⟩,(fun _ _ _ _=>trivial),(fun _ _ _ _=>trivial),(fun _ _ _ _=>trivial),(fun _ _ _ _=>trivial),trivial⟩ rfl rfl rfl rfl) rfl ?_
 refine AL.runs ttk 2 rfl ?_
 refine AL.nx ?_
 refine AC.ret ?_
 have hX:payB b d=(b,(⟨e20,0⟩:Answer)):=by
   unfold payB;simp only [endB,List.getD_eq_getElem?_getD,hx1,Option.getD_some,hr0];(repeat' split)<;>first|rfl|omega|(exfalso;omega)|(simp_all;done)|(simp_all;omega)
 rw [hX] at hr;clear hX
 simp only [Prod.mk.injEq] at hr;obtain ⟨rfl,rfl⟩:=hr
 refine retQ_go ttk [0,15,16,17,18,5] 5 rfl rfl rfl rfl rfl rfl ?_ ?_
 all_goals first|rfl|(simp [ufs,bkL,rwL];done)|(simp [ufs,bkL,rwL];omega)
end Go.Proofs.Ytegepioggeggaaa.Dev
namespace Go.Proofs.Ytegepioggeggaaa.Dev
open Go.RowKit

set_option maxRecDepth 100000 in
set_option maxHeartbeats 4000000 in
theorem c_late (x:Nat->Value) (hx:∀ i,(x i).oneCell'=true) (b:Bk) (ok:Okb b) (b2:Bk) (hr:lateB b=b2):FnE Try.prog 84 [(.c (.p 0 0 0 0))] [(0,(.box 98 (bkL b 1 2 3 4 (.d (.v (x 17))) (.d (.v (x 19)))))),(1,(alC b.cards)),(2,(alI b.due)),(3,(alP b.auths)),(4,(alR b.today))] [0] (.t []) [(0,(.box 98 (bkL b2 1 2 3 4 (.d (.v (x 17))) (.d (.v (x 19)))))),(1,(alC b2.cards)),(2,(alI b2.due)),(3,(alP b2.auths)),(4,(alR b2.today))]:=by
 refine FnE.mk 47 [(0,(aC (.p 0 0 0 0)))] 5 Try.func84 rfl rfl rfl rfl rfl rfl rfl rfl rfl ?_
 intro W0 F0 T0 pg
 obtain ⟨okt,okc,okd,oka,oky,okw0,okw1,okp,okv,okk0,okk1,okg,okl0,okl1,okp0,okp1,okn0,okn1,okq⟩:=id ok
 refine AC.go ttk 1 rfl ?_
 refine AL.cn 14 [0,5,6,7,8,9,10,11,12,13] (g_callM id (rhoOf [0,5,6,7,8,9,10,11,12,13]) (c_begin (x 17) (x 19) b (by first|omega|(simp;done)|(simp;omega)) (by first|omega|(simp;done)|(simp;omega)) (by first|omega|(simp;done)|(simp;omega)) (by first|omega|(simp;done)|(simp;omega))) en74 rfl rfl ⟨⟨_,rfl,.inl ⟨rfl,rfl⟩⟩,trivial⟩ ⟨rfl,rfl,rfl,rfl,rfl,trivial⟩ rfl rfl rfl rfl rfl rfl trivial ⟨⟨trivial,trivial,trivial,trivial,trivial,trivial,trivial,trivial,trivial,trivial,trivial,trivial,trivial,trivial,trivial,trivial,trivial,trivial,trivial,trivial,trivial⟩,⟨trivial,trivial,trivial,trivial,trivial,trivial,trivial,trivial,trivial,trivial,trivial,trivial,trivial,trivial,trivial,trivial,trivial,trivial,trivial,trivial,trivial⟩,(fun _ _ _ _=>trivial),(fun _ _ _ _=>trivial),(fun _ _ _ _=>trivial),(fun _ _ _ _=>trivial),(fun _ _ _ _=>trivial),(fun _ _ _ _=>trivial),(fun _ _ _ _=>trivial),(fun _ _ _ _=>trivial),trivial⟩ rfl rfl rfl rfl) rfl ?_
 refine AL.runs ttk 1 rfl ?_
 refine AL.nx ?_
 refine AC.seq ?_
 refine AC.go ttk 5 rfl ?_
 refine AL.vl (g_lenS rfl rfl rfl rfl rfl Try.underlying31) rfl ?_
 refine AL.runs ttk 1 rfl ?_
 refine AL.nx ?_
 refine AC.block ?_
 refine AC.loop (β:=Nat×List Card×List Auth×Int) (fun (p:Nat×List Card×List Auth×Int)=>match p with|(q,cs,xs,e)=>⟨[(0,(aC (.p 0 0 0 0))),(2,(aC (.p 5 0 0 0))),(12,(aC (.s 12 0 8 xs.length))),(13,(aI (↑b.auths.length:Int))),(14,(aI (↑q:Int)))],[(0,(.box 98 (bkL b 6 7 8 9 (.d (.v (x 17))) (.d (.v (x 19)))))),(5,(.box 147 (((bkL b 10 11 12 13 (.d (.v (x 17))) (cI e)).set 2 (.s 10 0 6 cs.length)).set 4 (.s 12 0 8 xs.length)))),(6,(alC b.cards)),(7,(alI b.due)),(8,(alP b.auths)),(9,(alR b.today)),(10,(alC cs)),(11,(alI b.due)),(12,(alP xs)),(13,(alR b.today))],14⟩) (fun (p:Nat×List Card×List Auth×Int)=>match p with|(q,cs,xs,e)=>q<=b.auths.length/\lateL b.time b.auths 0 b.cards b.auths 0=lateL b.time (b.auths.drop q) q cs xs e/\cs.length=b.cards.length/\xs.length=b.auths.length/\(∀ i,q<=i->xs[i]?=b.auths[i]?)) (fun (p:Nat×List Card×List Auth×Int)=>match p with|(q,cs,xs,e)=>b.auths.length - q) (0,b.cards,b.auths,0) ?_ ?_ ?_
 ·exact ⟨by omega,rfl,rfl,rfl,fun _ _=>rfl⟩
 ·exact Weak.ren id (by refine ⟨?_,?_,?_,?_,?_,trivial⟩<;>first|rfl|(simp only [mps];done)|(congr 3;omega)|(congr 4;omega)|(simp only [lns];rfl)) (by refine ⟨?_,?_,?_,?_,?_,?_,?_,?_,?_,?_,trivial⟩<;>first|rfl|(simp only [mps];done)|(congr 3;omega)|(congr 4;omega)|(simp only [lns];rfl)) rfl
 rintro ⟨q,cs,xs,e⟩ ⟨hi0_0,hi0_1,hi0_2,hi0_3,hi0_4⟩
 refine AC.goes ttk 1 rfl ?_
 refine AC.seq ?_
 refine AC.cond rfl (fun hc1=>?_) (fun hc1=>?_)
 ·
  have hc1':=of_decide_eq_true hc1
  refine AC.sk ?_
  refine AC.seq ?_
  refine AC.block ?_
  refine AC.go ttk 1 rfl ?_
  refine AL.vl (g_indexP0 (i:=q) rfl rfl rfl Try.underlying31 sz67 (by first|omega|(simp;done)|(simp;omega)) (by first|omega|(simp;done)|(simp;omega))) rfl ?_
  obtain ⟨x1,hx1⟩:=exget (xs:=xs) (i:=q) (by first|omega|(simp;done)|(simp;omega))
  have hx1w:=okp x1 (List.mem_of_getElem? (show b.auths[q]?=some x1 by rw [<-hi0_4 q (by omega)];exact hx1))
  have hx1A:=hx1w.2
  replace hx1w:=hx1w.1
  refine AL.vl (g_loadAs rfl rfl rfl Try.underlying67 rfl sz67 (getmap hx1) rfl) rfl ?_
  refine AL.runs ttk 3 rfl ?_
  refine AL.nx ?_
  refine AC.seq ?_
  obtain ⟨b0,hr0⟩:∃ (b0:Auth),lateAuth x1 b.time=b0:=⟨_,rfl⟩
  have hlw:wrongAuth b0=0:=by rw [<-hr0];exact late_ok hx1w
  refine AC.drawP [0,2,12,13,14,4,3] [14,0,5,6,7,8,9,10,11,12,13] mixed rfl rfl ?_
  refine PD.runs (kn:=[]) ttk 6 rfl trivial ?_
  refine PD.op (n':=15) [19,24] [] rfl rfl (.inl ⟨(Wanted.plain rfl),GOp.cast (g_call 15 (c_auth_Late x1 b.time b0 hr0) en104 rfl rfl ⟨⟨_,rfl,.g ⟨.d _,.d _,.d _,.d _,.d _,.d _,.d _,.d _,trivial⟩⟩,⟨_,rfl,.c (.d _)⟩,trivial⟩ ⟨trivial,trivial,trivial,trivial,trivial,trivial,trivial,trivial,trivial⟩ trivial rfl rfl rfl rfl) rfl⟩) rfl ?_
  refine PD.runs (n':=16) (kn:=[]) ttk 1 rfl trivial ?_
  refine PD.fin [15,14,0,5,6,7,8,9,10,11,12,13] rfl rfl rfl rfl (by kernel_rfl) ?_
  refine AL.runs ttk 1 rfl ?_
  refine AL.nx ?_
  refine AC.seq ?_
  obtain ⟨e1,hr1⟩:∃ (e1:Int),holdAuth b0=e1:=⟨_,rfl⟩
  have hhb1:=hold_b (show wrongAuth b0=0 by assumption)
  rw [hr1] at hhb1
  obtain ⟨e2,hr2⟩:∃ (e2:Int),holdAuth x1=e2:=⟨_,rfl⟩
  have hhb2:=hold_b (show wrongAuth x1=0 by assumption)
  rw [hr2] at hhb2
  obtain ⟨l23,e23,hr3⟩:∃ (l23:List Card) (e23:Int),shiftK cs e x1.card (e1 - e2) 0=(l23,e23):=⟨_,_,rfl⟩
  have hsl3:l23.length=cs.length:=by have h:=shiftK_len cs e x1.card (e1 - e2) 0;rw [hr3] at h;exact h
  refine AC.drawQ [0,2,12,13,14,4,3,5] [15,14,0,5,6,7,8,9,10,11,12,13] mixed rfl rfl ?_
  refine PW.runs (kn:=[]) ttk 4 rfl trivial ?_
  refine PW.op (n':=16) [29] [] rfl rfl (.inl ⟨(Wanted.plain rfl),GOp.cast (g_call 16 (c_auth_Hold b0 (by first|assumption|omega|rfl|decide) e1 hr1) en27 rfl rfl ⟨⟨_,rfl,.g ⟨.d _,.d _,.d _,.d _,.d _,.d _,.d _,.d _,trivial⟩⟩,trivial⟩ trivial trivial rfl rfl rfl rfl) rfl⟩) rfl ?_
  refine PW.runs (kn:=[]) ttk 1 rfl trivial ?_
  refine PW.op (n':=16) [31] [] rfl rfl (.inl ⟨(Wanted.plain rfl),GOp.cast (g_call 16 (c_auth_Hold x1 (by first|assumption|omega|rfl|decide) e2 hr2) en27 rfl rfl ⟨⟨_,rfl,.g ⟨.d _,.d _,.d _,.d _,.d _,.d _,.d _,.d _,trivial⟩⟩,trivial⟩ trivial trivial rfl rfl rfl rfl) rfl⟩) rfl ?_
  refine PW.op (n':=16) [30,32] [] rfl rfl (.inl ⟨(Wanted.plain rfl),GOp.cast (g_binI rfl rfl rfl (wrap_ok (by first|omega|(simp;done)|(simp;omega)))) rfl⟩) rfl ?_
  refine PW.op (n':=17) [26,28,33] [10,5] rfl rfl (.inl ⟨(Wanted.plain rfl),GOp.cast (g_callR0 (rhoOf [5,10]) (rhoOf [5,16]) (ms:=((nmL.set 2 (some (.s 1 0 6 cs.length))).set 19 (some (cI e)))) (ms':=((nmL.set 2 (some (.s 1 0 6 l23.length))).set 19 (some (cI e23)))) (fun x hx=>c_shift x hx cs e x1.card (e1 - e2) 0 (by first|omega|(simp;done)|(simp;omega)) l23 e23 hr3) en75 rfl rfl ⟨⟨_,rfl,.inl ⟨rfl,rfl⟩⟩,⟨_,rfl,.inr (.c (.d _))⟩,⟨_,rfl,.inr (.c (.d _))⟩,⟨_,rfl,.inr (.c (.d _))⟩,trivial⟩ rfl rfl rfl rfl rfl rfl rfl ⟨rfl,trivial⟩ rfl rfl rfl rfl rfl rfl rfl rfl rfl rfl rfl rfl rfl) rfl⟩) rfl ?_
  refine PW.fin [0,2,12,13,14,3,5] [16,5,15,0,6,7,8,9,11,12,13] rfl rfl (by kernel_rfl) ?_
  refine then_ok ?_
  refine AC.drawP [0,2,12,13,14,3,5] [16,5,15,0,6,7,8,9,11,12,13] mixed rfl rfl ?_
  refine PD.runs (kn:=[]) ttk 7 rfl trivial ?_
  refine PD.op (n':=17) [39,40] [12] rfl rfl (.inl ⟨(Wanted.plain rfl),GOp.cast (g_indexP0 (i:=q) rfl rfl rfl Try.underlying31 sz67 (by first|omega|(simp;done)|(simp;omega)) (by first|omega|(simp;done)|(simp;omega))) rfl⟩) rfl ?_
  refine PD.fin [16,5,15,0,6,7,8,9,11,12,13] rfl rfl rfl rfl (by kernel_rfl) ?_
  refine AL.so [16,5,15,0,6,7,8,9,11,12,13] (g_storeA (ds:=[(dI b0.card),(dI b0.shop),(dI b0.sum),(dI b0.captured),(dI b0.refunded),(dI b0.disputed),(dI b0.till),(dB b0.shut)]) rfl rfl rfl rfl rfl sz67 rfl (Nat.le_of_ble_eq_true rfl) (getmap hx1) rfl (setmap (x':=b0) rfl)) rfl ?_
  refine AL.nil ?_
  refine block_ok ?_
  refine then_ok ?_
  refine AC.recell (k:=5) (q:=4) (c':=(.s 12 0 8 (((xs).set q b0).length))) rfl rfl (by first|rfl|(simp;done)|(congr 1;omega)) rfl ?_
  refine AC.region ?_
  refine AL.vl (g_binI rfl rfl rfl (wrap_ok (by first|omega|(simp;done)|(simp;omega)))) rfl ?_
  refine AL.runs ttk 1 rfl ?_
  refine AL.nx ?_
  refine ⟨(q+1,l23,(xs).set q b0,e23),⟨by omega,by rw [hi0_1,lateL_drop (a:=x1) (by rw [<-hi0_4 q (by omega)];exact hx1),hr0,hr1,hr2,hr3],by omega,by rw [List.length_set];omega,fun i hi=>by rw [List.getElem?_set_ne (by omega)];exact hi0_4 i (by omega)⟩,by first|omega|(simp;done)|(simp;omega),Weak.ren (fun k=>if k=10 then 16 else k) (by refine ⟨?_,?_,?_,?_,?_,trivial⟩<;>first|rfl|(simp only [mps];done)|(congr 3;omega)|(congr 4;omega)|(simp only [lns];rfl)) (by refine ⟨?_,?_,?_,?_,?_,?_,?_,?_,?_,?_,trivial⟩<;>first|rfl|(simp only [mps];done)|(congr 3;omega)|(congr 4;omega)|(simp only [lns];rfl)) rfl⟩
 have hc1':=of_decide_eq_false hc1
 refine AC.exit ?_
 refine then_exit ?_
 refine then_exit ?_
 refine block_hit ?_
 refine then_ok ?_
 rcases (show e=0\/¬e=0 from by omega) with hs2|hs2
 ·
  refine AC.region ?_
  refine AL.runs ttk 2 rfl ?_
  refine AL.cn 18 [0,14,15,16,17] (g_callM (rhoOf [0,5,6,7,8,9,10,11,12,13]) (rhoOf [0,14,15,16,17]) (c_end_ok (x 17) (x 19) b (⟨b.time,b.down,cs,b.due,xs,b.s0,b.s1,b.n0,b.n1,b.w0,b.w1,b.stand,b.today,b.book⟩:Bk) e (by first|assumption|omega)) en77 rfl rfl ⟨⟨_,rfl,.inl ⟨rfl,rfl⟩⟩,⟨_,rfl,.inl ⟨rfl,rfl⟩⟩,trivial⟩ ⟨rfl,rfl,rfl,rfl,rfl,rfl,rfl,rfl,rfl,rfl,trivial⟩ rfl rfl rfl rfl rfl rfl trivial ⟨⟨trivial,trivial,trivial,trivial,trivial,trivial,trivial,trivial,trivial,trivial,trivial,trivial,trivial,trivial,trivial,trivial,trivial,trivial,trivial,trivial,trivial⟩,(fun _ _ _ _=>trivial),(fun _ _ _ _=>trivial),(fun _ _ _ _=>trivial),(fun _ _ _ _=>trivial),trivial⟩ rfl rfl rfl rfl) rfl ?_
  refine AL.nil ?_
  have hX:lateB b=(⟨b.time,b.down,cs,b.due,xs,b.s0,b.s1,b.n0,b.n1,b.w0,b.w1,b.stand,b.today,b.book⟩:Bk):=by
    have hL:lateL b.time b.auths 0 b.cards b.auths 0=(cs,xs,e):=by rw [hi0_1,List.drop_of_length_le (by omega)];rfl
    unfold lateB;rw [hL];dsimp only;first|rw [if_pos (by assumption)]|rw [if_neg (by assumption)]
  rw [hX] at hr;clear hX
  subst hr
  refine retQ_gon ttk [0,14,15,16,17] 5 rfl rfl rfl rfl rfl rfl ?_ ?_
  all_goals first|rfl|(simp [ufs,bkL,rwL];done)|(simp [ufs,bkL,rwL];omega)
 refine AC.region ?_
 refine AL.runs ttk 2 rfl ?_
 refine AL.cn 18 [0,14,15,16,17] (g_callM (rhoOf [0,5,6,7,8,9,10,11,12,13]) (rhoOf [0,14,15,16,17]) (c_end_no (x 17) (x 19) b (⟨b.time,b.down,cs,b.due,xs,b.s0,b.s1,b.n0,b.n1,b.w0,b.w1,b.stand,b.today,b.book⟩:Bk) e (by first|assumption|omega)) en77 rfl rfl ⟨⟨_,rfl,.inl ⟨rfl,rfl⟩⟩,⟨_,rfl,.inl ⟨rfl,rfl⟩⟩,trivial⟩ ⟨rfl,rfl,rfl,rfl,rfl,rfl,rfl,rfl,rfl,rfl,trivial⟩ rfl rfl rfl rfl rfl rfl trivial ⟨⟨trivial,trivial,trivial,trivial,trivial,trivial,trivial,trivial,trivial,trivial,trivial,trivial,trivial,trivial,trivial,trivial,trivial,trivial,trivial,trivial,trivial⟩,(fun _ _ _ _=>trivial),(fun _ _ _ _=>trivial),(fun _ _ _ _=>trivial),(fun _ _ _ _=>trivial),trivial⟩ rfl rfl rfl rfl) rfl ?_
 refine AL.nil ?_
 have hX:lateB b=b:=by
   have hL:lateL b.time b.auths 0 b.cards b.auths 0=(cs,xs,e):=by rw [hi0_1,List.drop_of_length_le (by omega)];rfl
   unfold lateB;rw [hL];dsimp only;first|rw [if_pos (by assumption)]|rw [if_neg (by assumption)]
 rw [hX] at hr;clear hX
 subst hr
 refine retQ_gon ttk [0,14,15,16,17] 5 rfl rfl rfl rfl rfl rfl ?_ ?_
 all_goals first|rfl|(simp [ufs,bkL,rwL];done)|(simp [ufs,bkL,rwL];omega)
set_option maxRecDepth 100000 in
set_option maxHeartbeats 4000000 in
theorem c_tickU (x:Nat->Value) (hx:∀ i,(x i).oneCell'=true) (b:Bk) (d:Deed) (ok:Okb b) (hdn:b.down=false) (b2:Bk) (a2:Answer) (hr:tickB b d=(b2,a2)):FnE Try.prog 65 [(.c (.p 0 0 0 0)),(.c (.q (rDeed d) 0))] [(0,(.box 98 (bkL b 1 2 3 4 (.d (.v (x 17))) (.d (.v (x 19)))))),(1,(alC b.cards)),(2,(alI b.due)),(3,(alP b.auths)),(4,(alR b.today))] [0] (.v (.g [cI a2.err,cI a2.auth])) [(0,(.box 98 (bkL b2 1 2 3 4 (.d (.v (x 17))) (.d (.v (x 19)))))),(1,(alC b2.cards)),(2,(alI b2.due)),(3,(alP b2.auths)),(4,(alR b2.today))]:=by
 refine FnE.mk 46 [(0,(aC (.p 0 0 0 0))),(1,(aC (.q (rDeed d) 0)))] 5 Try.func65 rfl rfl rfl rfl rfl rfl rfl rfl rfl ?_
 intro W0 F0 T0 pg
 obtain ⟨okt,okc,okd,oka,oky,okw0,okw1,okp,okv,okk0,okk1,okg,okl0,okl1,okp0,okp1,okn0,okn1,okq⟩:=id ok
 refine AC.goes ttk 1 rfl ?_
 refine AC.seq ?_
 refine AC.seq ?_
 rcases Bool.eq_false_or_eq_true (decide (d.sum < 0)) with hb1|hb1
 ·
  have hb1':=of_decide_eq_true hb1
  refine AC.drawP [0,1,4] [5,0,1,2,3,4] mixed rfl rfl ?_
  refine PD.runs (kn:=[(9,true)]) ttk 18 rfl ⟨hb1,trivial⟩ ?_
  refine PD.fin [5,0,1,2,3,4] rfl rfl rfl rfl (by kernel_rfl) ?_
  refine AL.nx ?_
  refine AC.cond rfl (fun _=>?_) (fun hno=>by cases hno)
  refine AC.goes ttk 2 rfl ?_
  refine AC.ret ?_
  refine then_ret ?_
  have hX:tickB b d=(b,(⟨3,0⟩:Answer)):=by
    unfold tickB;(repeat' split)<;>first|rfl|omega|(exfalso;omega)|(simp_all;done)|(simp_all;omega)
  rw [hX] at hr;clear hX
  simp only [Prod.mk.injEq] at hr;obtain ⟨rfl,rfl⟩:=hr
  refine retQ_go ttk [0,1,2,3,4,5] 5 rfl rfl rfl rfl rfl rfl ?_ ?_
  all_goals first|rfl|(simp [ufs,bkL,rwL];done)|(simp [ufs,bkL,rwL];omega)
 have hb1':=of_decide_eq_false hb1
 refine AC.drawP [0,1,4] [5,0,1,2,3,4] mixed rfl rfl ?_
 refine PD.runs (kn:=[(9,false)]) ttk 15 rfl ⟨hb1,trivial⟩ ?_
 refine PD.op (n':=6) [19,10] [] rfl rfl (.inl ⟨(Wanted.yes rfl rfl rfl),GOp.cast (g_binI rfl rfl rfl (wrap_ok (by first|omega|(simp;done)|(simp;omega)))) rfl⟩) rfl ?_
 refine PD.runs (kn:=[]) ttk 2 rfl trivial ?_
 refine PD.fin [5,0,1,2,3,4] rfl rfl rfl rfl (by kernel_rfl) ?_
 refine AL.nx ?_
 refine AC.cond rfl (fun hc3=>?_) (fun hc3=>?_)
 ·
  have hc3':=of_decide_eq_true hc3
  refine AC.goes ttk 2 rfl ?_
  refine AC.ret ?_
  refine then_ret ?_
  have hX:tickB b d=(b,(⟨3,0⟩:Answer)):=by
    unfold tickB;(repeat' split)<;>first|rfl|omega|(exfalso;omega)|(simp_all;done)|(simp_all;omega)
  rw [hX] at hr;clear hX
  simp only [Prod.mk.injEq] at hr;obtain ⟨rfl,rfl⟩:=hr
  refine retQ_go ttk [0,1,2,3,4,5] 5 rfl rfl rfl rfl rfl rfl ?_ ?_
  all_goals first|rfl|(simp [ufs,bkL,rwL];done)|(simp [ufs,bkL,rwL];omega)
 have hc3':=of_decide_eq_false hc3
 refine AC.sk ?_
 refine AC.seq ?_
 refine AC.drawP [0,1,4] [5,0,1,2,3,4] mixed rfl rfl ?_
 refine PD.runs (kn:=[]) ttk 9 rfl trivial ?_
 refine PD.op (n':=6) [28,32] [] rfl rfl (.inl ⟨(Wanted.plain rfl),GOp.cast (g_binI rfl rfl rfl (wrap_ok (by first|omega|(simp;done)|(simp;omega)))) rfl⟩) rfl ?_
 refine PD.runs (kn:=[]) ttk 3 rfl trivial ?_
 refine PD.fin [5,0,1,2,3,4] rfl rfl rfl rfl (by kernel_rfl) ?_
 refine AL.runs ttk 1 rfl ?_
 refine AL.nx ?_
 refine AC.seq ?_
 refine AC.goes ttk 6 rfl ?_
 refine AC.cond rfl (fun _=>?_) (fun hno=>by simp [hdn] at hno)
 refine AC.region ?_
 refine AL.runs ttk 1 rfl ?_
 obtain ⟨b20,hr0⟩:∃ (b20:Bk),lateB (⟨b.time+d.sum,b.down,b.cards,b.due,b.auths,b.s0,b.s1,b.n0,b.n1,b.w0,b.w1,b.stand,b.today,b.book⟩:Bk)=b20:=⟨_,rfl⟩
 refine AL.cn 10 [0,6,7,8,9,5] (g_callR0 id (rhoOf [0,6,7,8,9]) (ms:=[some (cI (b.time+d.sum)),some (cB b.down),some (.s 1 0 6 b.cards.length),some (.s 2 0 1 b.due.length),some (.s 3 0 8 b.auths.length),some (cI b.s0.sent),some (vlT b.s0.kept),some (cI b.s1.sent),some (vlT b.s1.kept),some (cI b.n0),some (cI b.n1),some (vlK b.w0),some (vlK b.w1),some (cI b.stand.cap),some (vlI b.stand.used),some (vlA b.stand.advices),some (.s 4 0 4 b.today.length),none,some (vlE b.book),none]) (ms':=(bkM b20 1 2 3 4 none none)) (fun x hx=>c_late x hx (⟨b.time+d.sum,b.down,b.cards,b.due,b.auths,b.s0,b.s1,b.n0,b.n1,b.w0,b.w1,b.stand,b.today,b.book⟩:Bk) (by first|assumption|exact Okb.tick (by assumption) (by omega) (by omega)) b20 hr0) en84 rfl rfl ⟨⟨_,rfl,.inl ⟨rfl,rfl⟩⟩,trivial⟩ rfl rfl rfl rfl rfl rfl rfl ⟨rfl,rfl,rfl,rfl,trivial⟩ rfl rfl rfl rfl rfl rfl rfl rfl rfl rfl rfl rfl rfl) rfl ?_
 refine AL.nx ?_
 refine AC.goes ttk 2 rfl ?_
 refine AC.ret ?_
 have hX:tickB b d=(b20,(⟨0,0⟩:Answer)):=by
   unfold tickB;simp only [endB,hr0];(repeat' split)<;>first|rfl|omega|(exfalso;omega)|(simp_all;done)|(simp_all;omega)
 rw [hX] at hr;clear hX
 simp only [Prod.mk.injEq] at hr;obtain ⟨rfl,rfl⟩:=hr
 refine retQ_go ttk [0,6,7,8,9,5] 5 rfl rfl rfl rfl rfl rfl ?_ ?_
 all_goals first|rfl|(simp [ufs,bkL,rwL];done)|(simp [ufs,bkL,rwL];omega)
set_option maxRecDepth 100000 in
set_option maxHeartbeats 4000000 in
theorem c_tickD (x:Nat->Value) (hx:∀ i,(x i).oneCell'=true) (b:Bk) (d:Deed) (ok:Okb b) (hdn:b.down=true) (b2:Bk) (a2:Answer) (hr:tickB b d=(b2,a2)):FnE Try.prog 65 [(.c (.p 0 0 0 0)),(.c (.q (rDeed d) 0))] [(0,(.box 98 (bkL b 1 2 3 4 (.d (.v (x 17))) (.d (.v (x 19)))))),(1,(alC b.cards)),(2,(alI b.due)),(3,(alP b.auths)),(4,(alR b.today))] [0] (.v (.g [cI a2.err,cI a2.auth])) [(0,(.box 98 (bkL b2 1 2 3 4 (.d (.v (x 17))) (.d (.v (x 19)))))),(1,(alC b2.cards)),(2,(alI b2.due)),(3,(alP b2.auths)),(4,(alR b2.today))]:=by
 refine FnE.mk 46 [(0,(aC (.p 0 0 0 0))),(1,(aC (.q (rDeed d) 0)))] 5 Try.func65 rfl rfl rfl rfl rfl rfl rfl rfl rfl ?_
 intro W0 F0 T0 pg
 obtain ⟨okt,okc,okd,oka,oky,okw0,okw1,okp,okv,okk0,okk1,okg,okl0,okl1,okp0,okp1,okn0,okn1,okq⟩:=id ok
 refine AC.goes ttk 1 rfl ?_
 refine AC.seq ?_
 refine AC.seq ?_
 rcases Bool.eq_false_or_eq_true (decide (d.sum < 0)) with hb1|hb1
 ·
  have hb1':=of_decide_eq_true hb1
  refine AC.drawP [0,1,4] [5,0,1,2,3,4] mixed rfl rfl ?_
  refine PD.runs (kn:=[(9,true)]) ttk 18 rfl ⟨hb1,trivial⟩ ?_
  refine PD.fin [5,0,1,2,3,4] rfl rfl rfl rfl (by kernel_rfl) ?_
  refine AL.nx ?_
  refine AC.cond rfl (fun _=>?_) (fun hno=>by cases hno)
  refine AC.goes ttk 2 rfl ?_
  refine AC.ret ?_
  refine then_ret ?_
  have hX:tickB b d=(b,(⟨3,0⟩:Answer)):=by
    unfold tickB;(repeat' split)<;>first|rfl|omega|(exfalso;omega)|(simp_all;done)|(simp_all;omega)
  rw [hX] at hr;clear hX
  simp only [Prod.mk.injEq] at hr;obtain ⟨rfl,rfl⟩:=hr
  refine retQ_go ttk [0,1,2,3,4,5] 5 rfl rfl rfl rfl rfl rfl ?_ ?_
  all_goals first|rfl|(simp [ufs,bkL,rwL];done)|(simp [ufs,bkL,rwL];omega)
 have hb1':=of_decide_eq_false hb1
 refine AC.drawP [0,1,4] [5,0,1,2,3,4] mixed rfl rfl ?_
 refine PD.runs (kn:=[(9,false)]) ttk 15 rfl ⟨hb1,trivial⟩ ?_
 refine PD.op (n':=6) [19,10] [] rfl rfl (.inl ⟨(Wanted.yes rfl rfl rfl),GOp.cast (g_binI rfl rfl rfl (wrap_ok (by first|omega|(simp;done)|(simp;omega)))) rfl⟩) rfl ?_
 refine PD.runs (kn:=[]) ttk 2 rfl trivial ?_
 refine PD.fin [5,0,1,2,3,4] rfl rfl rfl rfl (by kernel_rfl) ?_
 refine AL.nx ?_
 refine AC.cond rfl (fun hc3=>?_) (fun hc3=>?_)
 ·
  have hc3':=of_decide_eq_true hc3
  refine AC.goes ttk 2 rfl ?_
  refine AC.ret ?_
  refine then_ret ?_
  have hX:tickB b d=(b,(⟨3,0⟩:Answer)):=by
    unfold tickB;(repeat' split)<;>first|rfl|omega|(exfalso;omega)|(simp_all;done)|(simp_all;omega)
  rw [hX] at hr;clear hX
  simp only [Prod.mk.injEq] at hr;obtain ⟨rfl,rfl⟩:=hr
  refine retQ_go ttk [0,1,2,3,4,5] 5 rfl rfl rfl rfl rfl rfl ?_ ?_
  all_goals first|rfl|(simp [ufs,bkL,rwL];done)|(simp [ufs,bkL,rwL];omega)
 have hc3':=of_decide_eq_false hc3
 refine AC.sk ?_
 refine AC.seq ?_
 refine AC.drawP [0,1,4] [5,0,1,2,3,4] mixed rfl rfl ?_
 refine PD.runs (kn:=[]) ttk 9 rfl trivial ?_
 refine PD.op (n':=6) [28,32] [] rfl rfl (.inl ⟨(Wanted.plain rfl),GOp.cast (g_binI rfl rfl rfl (wrap_ok (by first|omega|(simp;done)|(simp;omega)))) rfl⟩) rfl ?_
 refine PD.runs (kn:=[]) ttk 3 rfl trivial ?_
 refine PD.fin [5,0,1,2,3,4] rfl rfl rfl rfl (by kernel_rfl) ?_
 refine AL.runs ttk 1 rfl ?_
 refine AL.nx ?_
 refine AC.seq ?_
 refine AC.goes ttk 6 rfl ?_
 refine AC.cond rfl (fun hno=>by simp [hdn] at hno) (fun _=>?_)
 refine AC.sk ?_
 refine AC.goes ttk 2 rfl ?_
 refine AC.ret ?_
 have hX:tickB b d=((⟨b.time+d.sum,b.down,b.cards,b.due,b.auths,b.s0,b.s1,b.n0,b.n1,b.w0,b.w1,b.stand,b.today,b.book⟩:Bk),(⟨0,0⟩:Answer)):=by
   unfold tickB;(repeat' split)<;>first|rfl|omega|(exfalso;omega)|(simp_all;done)|(simp_all;omega)
 rw [hX] at hr;clear hX
 simp only [Prod.mk.injEq] at hr;obtain ⟨rfl,rfl⟩:=hr
 refine retQ_go ttk [0,1,2,3,4,5] 5 rfl rfl rfl rfl rfl rfl ?_ ?_
 all_goals first|rfl|(simp [ufs,bkL,rwL];done)|(simp [ufs,bkL,rwL];omega)
theorem c_tick (x:Nat->Value) (hx:∀ i,(x i).oneCell'=true) (b:Bk) (d:Deed) (ok:Okb b) (b2:Bk) (a2:Answer) (hr:tickB b d=(b2,a2)):FnE Try.prog 65 [(.c (.p 0 0 0 0)),(.c (.q (rDeed d) 0))] [(0,(.box 98 (bkL b 1 2 3 4 (.d (.v (x 17))) (.d (.v (x 19)))))),(1,(alC b.cards)),(2,(alI b.due)),(3,(alP b.auths)),(4,(alR b.today))] [0] (.v (.g [cI a2.err,cI a2.auth])) [(0,(.box 98 (bkL b2 1 2 3 4 (.d (.v (x 17))) (.d (.v (x 19)))))),(1,(alC b2.cards)),(2,(alI b2.due)),(3,(alP b2.auths)),(4,(alR b2.today))]:=by
  cases hdn:b.down
  ·exact c_tickU x hx b d ok hdn b2 a2 hr
  ·exact c_tickD x hx b d ok hdn b2 a2 hr
end Go.Proofs.Ytegepioggeggaaa.Dev
