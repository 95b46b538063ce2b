/- A part of the proof: Card3, Del2, Post1, Post2, Post3, Auth1, Auth2. No condition. -/
import Derived.Test.YtegepioggeggaaaD07
set_option linter.unusedVariables false
set_option linter.unusedSimpArgs false
set_option maxHeartbeats 1000000
set_option maxRecDepth 100000
namespace Go.Proofs.Ytegepioggeggaaa.Dev
open Go.RowKit

theorem vP (c:bx) (held bj:Int) (x:bx) (e:Int) (hr:dW c held bj=(x,e)):Fn Try.prog 97 [(.g [(cI c.bj),(cI c.held),(cI c.bX.cK),(cI c.bX.count),(cI c.bX.sum),(fq c.cD)]),(.c (cI held)),(.c (cI bj))] (.t [(.g [(cI x.bj),(cI x.held),(cI x.bX.cK),(cI x.bX.count),(cI x.bX.sum),(.s 0 0 2 x.cD.length)]),(.c (cI e))]) [(0,(oT x.cD))]:=by
 refine Fn.mk' 52 [(0,(aG [(cI c.bj),(cI c.held),(cI c.bX.cK),(cI c.bX.count),(cI c.bX.sum),(fq c.cD)])),(1,(aI held)),(2,(aI bj))] Try.func97 rfl rfl rfl rfl ?_
 intro W0 T0
 refine fl 0 5 rfl rfl (fun hlen0_5=>?_)
 have hrc:=@fV c
 have hrl:=@nf c
 refine ad aa 3 rfl ?_
 refine af ?_
 refine az aa 1 rfl ?_
 obtain ⟨e0,hr0⟩:∃ (e0:Int),cr c=e0:=⟨_,rfl⟩
 refine aL 2 [1,0] (bJ 2 (jJ c e0 hr0) yE rfl rfl ⟨⟨_,rfl,.g ⟨.d _,.d _,.d _,.d _,.d _,.d _,trivial⟩⟩,trivial⟩ trivial trivial rfl rfl rfl rfl) rfl ?_
 refine ab aa 1 rfl ?_
 refine ae ?_
 refine ad aa 2 rfl ?_
 refine ag rfl (fun hc1=>?_) (fun hc1=>?_)
 ·
  have hc1':=of_decide_eq_true hc1
  refine ad aa 4 rfl ?_
  refine ar ?_
  refine ao ?_
  refine cf 1 5 125 2 rfl rfl rfl ?_
  have hX:dW c held bj=((⟨0,0,(⟨0,0,0⟩:cO),([]:List cX)⟩:bx),e0):=by
    unfold dW;rw [if_pos (by omega),hr0];rfl
  rw [hX] at hr;clear hX
  simp only [Prod.mk.injEq] at hr;obtain ⟨rfl,rfl⟩:=hr
  refine ah aa [2,1] 1 rfl rfl rfl rfl rfl rfl ?_ ?_
  all_goals first|rfl|(simp [au];done)|(simp [au];omega)
 have hc1':=of_decide_eq_false hc1
 refine aP ?_
 refine af ?_
 refine az aa 2 rfl ?_
 refine aL 3 [2,1,0] (dz (ys:=[(0,(.c (cI held))),(1,(.c (cI bj)))]) (rows:=([held,bj]).map rI) 2 ml rfl (by decide) ⟨⟨rfl,rfl⟩,⟨rfl,rfl⟩,trivial⟩ rfl rfl rfl rfl) rfl ?_
 refine ay (dr rfl rfl rfl rfl rfl Try.underlying30) rfl ?_
 refine ab aa 1 rfl ?_
 refine ae ?_
 refine aV ?_
 refine cx (β:=Nat) (fun (q:Nat)=>⟨[(1,(aI held)),(2,(aI bj)),(3,(aC (.p 0 0 0 0))),(6,(aC (.p 1 0 0 0))),(20,(aC (.s 2 0 1 2))),(21,(aI 2)),(22,(aI (↑q:Int)))],[(2,(dL ([held,bj]))),(1,(.box 61 [(cI 0),(cI 0),(cI 0),(cI 0),(cI 0),cN])),(0,(.box 61 [(cI c.bj),(cI c.held),(cI c.bX.cK),(cI c.bX.count),(cI c.bX.sum),(fq c.cD)]))],3⟩) (fun (q:Nat)=>q<=2/\(0 < q->-1000000000000<=held/\held<=1000000000000)/\(1 < q->-1000000000000<=bj/\bj<=1000000000000)) (fun (q:Nat)=>2 - q) 0 ?_ ?_ ?_
 ·exact ⟨by omega,by omega,by omega⟩
 ·exact aD.bY id (by refine ⟨?_,?_,?_,?_,?_,?_,?_,trivial⟩<;>first|rfl|(simp only [bn];done)|(congr 3;omega)|(congr 4;omega)|(simp only [bo];rfl)) (by refine ⟨?_,?_,?_,trivial⟩<;>first|rfl|(simp only [bn];done)|(congr 3;omega)|(congr 4;omega)|(simp only [bo];rfl)) rfl
 rintro q ⟨hi0_0,hi0_1,hi0_2⟩
 refine ad aa 1 rfl ?_
 refine af ?_
 refine ag rfl (fun hc2=>?_) (fun hc2=>?_)
 ·
  have hc2':=of_decide_eq_true hc2
  refine aP ?_
  refine af ?_
  refine aV ?_
  refine eE ?_
  refine ay (bq (i:=q) rfl rfl rfl Try.underlying30 fK (by first|omega|(simp;done)|(simp;omega)) (by first|omega|(simp;done)|(simp;omega))) rfl ?_
  obtain ⟨x1,hx1⟩:=ch (xs:=([held,bj]:List Int)) (i:=q) (by first|omega|(simp;done)|(simp;omega))
  have hx1v:=Ek hx1
  refine ay (eG rfl rfl rfl Try.underlying3 rfl (bw hx1) rfl) rfl ?_
  refine ab aa 1 rfl ?_
  refine ae ?_
  refine cq 31 ((decide (x1 < (-1000000000000)))||(decide (x1 > 1000000000000))) ?_ ?_
  ·
   refine aw ?_
   refine ab aa 3 rfl ?_
   refine bA (t:=28) rfl (fun hb3=>?_) (fun hb3=>?_)
   ·
    have hb3':=of_decide_eq_true hb3
    refine ab aa 3 rfl ?_
    refine ae ?_
    exact aD.bG 7 rfl rfl (by first|(simp [hb3];done)|(simp_all;done)|(exfalso;simp_all;done)|(simp_all;omega)) rfl
   have hb3':=of_decide_eq_false hb3
   refine ab aa 3 rfl ?_
   refine ae ?_
   exact aD.bG 7 rfl rfl (by first|(simp [hb3];done)|(simp_all;done)|(exfalso;simp_all;done)|(simp_all;omega)) rfl
  refine ag rfl (fun hc4=>?_) (fun hc4=>?_)
  ·
   have hc4':=hc4;try simp only [bm,bM] at hc4'
   refine ad aa 3 rfl ?_
   refine ar ?_
   refine bg ?_
   refine ao ?_
   refine ao ?_
   refine bg ?_
   refine ao ?_
   refine cf 1 5 125 2 rfl rfl rfl ?_
   have hX:dW c held bj=((⟨0,0,(⟨0,0,0⟩:cO),([]:List cX)⟩:bx),3):=by
     unfold dW;rw [if_neg (by omega),if_pos (by omega)];rfl
   rw [hX] at hr;clear hX
   simp only [Prod.mk.injEq] at hr;obtain ⟨rfl,rfl⟩:=hr
   refine ah aa [3,1] 1 rfl rfl rfl rfl rfl rfl ?_ ?_
   all_goals first|rfl|(simp [au];done)|(simp [au];omega)
  have hc4':=hc4;try simp only [bm,bM] at hc4'
  refine cU ?_
  refine bp ?_
  refine then_ok ?_
  refine aw ?_
  refine ay (aM rfl rfl rfl (aH (by first|omega|(simp;done)|(simp;omega)))) rfl ?_
  refine ab aa 1 rfl ?_
  refine ae ?_
  refine ⟨q+1,⟨by omega,by omega,by omega⟩,by first|omega|(simp;done)|(simp;omega),aD.bY id (by refine ⟨?_,?_,?_,?_,?_,?_,?_,trivial⟩<;>first|rfl|(simp only [bn];done)|(congr 3;omega)|(congr 4;omega)|(simp only [bo];rfl)) (by refine ⟨?_,?_,?_,trivial⟩<;>first|rfl|(simp only [bn];done)|(congr 3;omega)|(congr 4;omega)|(simp only [bo];rfl)) rfl⟩
 have hc2':=of_decide_eq_false hc2
 refine cp ?_
 refine aR ?_
 refine aR ?_
 refine bQ ?_
 refine then_ok ?_
 refine az aa 1 rfl ?_
 refine aL 4 [3,2,1,0] (bJ 3 (rH c (by first|assumption|omega)) CP rfl rfl ⟨⟨_,rfl,.g ⟨.d _,.d _,.d _,.d _,.d _,.d _,trivial⟩⟩,trivial⟩ ⟨trivial,trivial,trivial,trivial,trivial,trivial,trivial⟩ ⟨(fun _ _ _ _=>trivial),trivial⟩ rfl rfl rfl rfl) rfl ?_
 refine ab aa 1 rfl ?_
 refine ae ?_
 refine az aa 3 rfl ?_
 refine ay (aM rfl rfl rfl (aH (by first|omega|(simp;done)|(simp;omega)))) rfl ?_
 refine ab aa 2 rfl ?_
 refine ae ?_
 refine az aa 3 rfl ?_
 refine ay (aM rfl rfl rfl (aH (by first|omega|(simp;done)|(simp;omega)))) rfl ?_
 refine ab aa 2 rfl ?_
 refine ae ?_
 refine af ?_
 refine az aa 1 rfl ?_
 obtain ⟨e1,hr1⟩:∃ (e1:Int),cr (⟨c.bj+bj,c.held+held,c.bX,c.cD⟩:bx)=e1:=⟨_,rfl⟩
 refine aL 4 [3,2,1,0] (fP 4 [3] (jJ (⟨c.bj+bj,c.held+held,c.bX,c.cD⟩:bx) e1 hr1) yE rfl rfl ⟨⟨_,rfl,.g ⟨.d _,.d _,.d _,.d _,.d _,.s rfl (by decide) (by first|omega|(simp;done)|(simp;omega)),trivial⟩⟩,trivial⟩ rfl trivial rfl rfl rfl rfl) rfl ?_
 refine ab aa 1 rfl ?_
 refine ae ?_
 refine ad aa 2 rfl ?_
 refine ag rfl (fun hc5=>?_) (fun hc5=>?_)
 ·
  have hc5':=of_decide_eq_true hc5
  refine ad aa 3 rfl ?_
  refine ar ?_
  refine ao ?_
  refine cf 1 5 125 2 rfl rfl rfl ?_
  have hX:dW c held bj=((⟨0,0,(⟨0,0,0⟩:cO),([]:List cX)⟩:bx),10):=by
    unfold dW;rw [if_neg (by omega),if_neg (by omega),if_pos (by first|omega|(intro hz;have hy:=fV hz;dsimp only at hy;omega))];rfl
  rw [hX] at hr;clear hX
  simp only [Prod.mk.injEq] at hr;obtain ⟨rfl,rfl⟩:=hr
  refine ah aa [4,1] 1 rfl rfl rfl rfl rfl rfl ?_ ?_
  all_goals first|rfl|(simp [au];done)|(simp [au];omega)
 have hc5':=of_decide_eq_false hc5
 refine aP ?_
 refine ad aa 3 rfl ?_
 refine ar ?_
 have hX:dW c held bj=((⟨c.bj+bj,c.held+held,c.bX,c.cD⟩:bx),0):=by
   unfold dW;rw [if_neg (by omega),if_neg (by omega),if_neg (by first|omega|(have hz:=pa (c:=⟨c.bj+bj,c.held+held,c.bX,c.cD⟩) (by dsimp only;omega) (hrc (by omega)).2.2.2.2.1 (hrc (by omega)).2.2.2.2.2;omega))]
 rw [hX] at hr;clear hX
 simp only [Prod.mk.injEq] at hr;obtain ⟨rfl,rfl⟩:=hr
 refine ah aa [3,1] 1 rfl rfl rfl rfl rfl rfl ?_ ?_
 all_goals first|rfl|(simp [au];done)|(simp [au];omega)

theorem qC (l:List aW) (fn:FuncId) (bc:List (List D)) (pr:aW->Bool) (hp:∀ x:aW,Fn Try.prog fn ([.g [cI x.number,cI x.kind,cI x.ba,cI x.sum]]++bc.map fun r=>GV.c (.q r 0)) (aB (pr x)) []) (hen:bf Try.prog fn) (r:Int) (hr:gO pr l=r):Fn Try.prog 113 [(.c (dc l)),(.c (.d (.f fn bc)))] (.v (.c (cI r))) []:=by
 refine Fn.mk' 19 [(0,(aC (dc l))),(1,(aC (.d (.f fn bc))))] Try.func113 rfl rfl rfl rfl ?_
 intro W0 T0
 refine dG 0 rfl (fun hlen0=>?_)
 refine ad aa 1 rfl ?_
 refine af ?_
 refine az aa 1 rfl ?_
 refine ay (cT rfl rfl rfl rfl rfl Try.underlying32) rfl ?_
 refine ab aa 1 rfl ?_
 refine ae ?_
 refine aV ?_
 refine cx (β:=Nat) (fun (q:Nat)=>⟨[(0,(aC (dc l))),(1,(aC (.d (.f fn bc)))),(7,(aI (↑l.length:Int))),(8,(aI (↑q:Int)))],[],0⟩) (fun (q:Nat)=>q<=l.length/\(l.take q).all (fun y=>!pr y)=true) (fun (q:Nat)=>l.length - q) 0 ?_ ?_ ?_
 ·exact ⟨by omega,by simp⟩
 ·exact aD.bY id (by refine ⟨?_,?_,?_,?_,trivial⟩<;>first|rfl|(simp only [bn];done)|(congr 3;omega)|(congr 4;omega)|(simp only [bo];rfl)) (trivial) rfl
 rintro q ⟨hi0_0,hi0_1⟩
 refine ad aa 1 rfl ?_
 refine af ?_
 refine ag rfl (fun hc1=>?_) (fun hc1=>?_)
 ·
  have hc1':=of_decide_eq_true hc1
  refine aP ?_
  refine af ?_
  refine aV ?_
  refine ad aa 2 rfl ?_
  refine az aa 3 rfl ?_
  obtain ⟨x1,hx1⟩:=ch (xs:=l) (i:=q) (by first|omega|(simp;done)|(simp;omega))
  refine ay (cQ (i:=q) rfl rfl rfl Try.underlying32 me (by first|omega|(simp;done)|(simp;omega)) (bw hx1)) rfl ?_
  refine ab aa 1 rfl ?_
  refine ay (hG 0 (hp x1) hen rfl rfl rfl ⟨⟨_,rfl,.g ⟨.d _,.d _,.d _,.d _,trivial⟩⟩,trivial⟩ trivial trivial rfl rfl rfl rfl) rfl ?_
  refine ae ?_
  refine ag rfl (fun hc2=>?_) (fun hc2=>?_)
  ·
   have hc2':=hc2;try simp only [bm,bM] at hc2'
   refine ad aa 2 rfl ?_
   refine ar ?_
   refine bg ?_
   refine ao ?_
   refine ao ?_
   refine bg ?_
   refine ao ?_
   have hX:gO pr l=(↑q:Int):=by
     exact tz hi0_1 hx1 hc2
   rw [hX] at hr;clear hX
   subst hr
   refine ah aa [] 0 rfl rfl rfl rfl rfl rfl ?_ ?_
   all_goals first|rfl|(simp [au];done)|(simp [au];omega)
  have hc2':=hc2;try simp only [bm,bM] at hc2'
  refine cU ?_
  refine bp ?_
  refine then_ok ?_
  refine aw ?_
  refine ay (aM rfl rfl rfl (aH (by first|omega|(simp;done)|(simp;omega)))) rfl ?_
  refine ab aa 1 rfl ?_
  refine ae ?_
  refine ⟨q+1,⟨by omega,wg hi0_1 hx1 hc2⟩,by first|omega|(simp;done)|(simp;omega),aD.bY id (by refine ⟨?_,?_,?_,?_,trivial⟩<;>first|rfl|(simp only [bn];done)|(congr 3;omega)|(congr 4;omega)|(simp only [bo];rfl)) (trivial) rfl⟩
 have hc1':=of_decide_eq_false hc1
 refine cp ?_
 refine aR ?_
 refine aR ?_
 refine bQ ?_
 refine then_ok ?_
 refine ad aa 1 rfl ?_
 refine ar ?_
 have hX:gO pr l=(-1):=by
   exact vp (by rw [<-List.take_of_length_le (l:=l) (i:=q) (by omega)];exact hi0_1)
 rw [hX] at hr;clear hX
 subst hr
 refine ah aa [] 0 rfl rfl rfl rfl rfl rfl ?_ ?_
 all_goals first|rfl|(simp [au];done)|(simp [au];omega)
theorem px (l:List aW) (fn:FuncId) (bc:List (List D)) (pr:aW->Bool) (hp:∀ x:aW,Fn Try.prog fn ([.g [cI x.number,cI x.kind,cI x.ba,cI x.sum]]++bc.map fun r=>GV.c (.q r 0)) (aB (pr x)) []) (hen:bf Try.prog fn) (r:List aW) (hr:du pr l=r):cA Try.prog 105 [(.c (.s 0 0 4 l.length)),(.c (.d (.f fn bc)))] [(0,(xO l))] [] (.v (.c (.s 0 0 4 r.length))) [(0,(xO r))]:=by
 refine cA.mk 42 [(0,(aC (.s 0 0 4 l.length))),(1,(aC (.d (.f fn bc))))] 1 Try.func105 rfl rfl rfl rfl rfl rfl rfl rfl rfl ?_
 intro W0 F0 T0 pg
 refine fQ 0 rfl (fun hlen0=>?_)
 have hic:=tC pr l
 have hib:gO pr l<=l.length/\-1<=gO pr l:=by rcases hic with ⟨h,_⟩|⟨i,h,h1,_⟩<;>omega
 refine ad aa 1 rfl ?_
 refine az aa 2 rfl ?_
 obtain ⟨r0,hr0⟩:∃ (r0:Int),gO pr l=r0:=⟨_,rfl⟩
 refine aL 1 [0] (fP 1 [0] (qC l fn bc pr hp hen r0 hr0) FR rfl rfl ⟨⟨_,rfl,.c (.s rfl (by decide) (by first|omega|(simp;done)|(simp;omega)))⟩,⟨_,rfl,.c (.d _)⟩,trivial⟩ rfl trivial rfl rfl rfl rfl) rfl ?_
 refine ab aa 1 rfl ?_
 refine ae ?_
 refine af ?_
 refine ad aa 2 rfl ?_
 refine ag rfl (fun hc1=>?_) (fun hc1=>?_)
 ·
  have hc1':=of_decide_eq_true hc1
  refine ad aa 2 rfl ?_
  refine ar ?_
  refine ao ?_
  have hX:du pr l=l:=by
    rcases hic with ⟨_,h⟩|⟨i0,h,_⟩
    ·exact h
    ·exfalso;omega
  rw [hX] at hr;clear hX
  subst hr
  refine ah aa [0] 1 rfl rfl rfl rfl rfl rfl ?_ ?_
  all_goals first|rfl|(simp [au];done)|(simp [au];omega)
 have hc1':=of_decide_eq_false hc1
 refine aP ?_
 refine af ?_
 refine az aa 1 rfl ?_
 refine ay (aM rfl rfl rfl (aH (by first|omega|(simp;done)|(simp;omega)))) rfl ?_
 refine ab aa 1 rfl ?_
 refine ae ?_
 refine aV ?_
 obtain ⟨i0,hi0,hil,x0,hx0,hp0,hk0⟩:∃ i:Nat,gO pr l=i/\i < l.length/\∃ x,l[i]?=some x/\pr x=true/\du pr (l.take i)=l.take i:=by
     rcases hic with ⟨h,_⟩|h
     ·exfalso;omega
     ·exact h
 obtain rfl:r0=(i0:Int):=by omega
 refine cx (β:=Nat×Nat×List aW) (fun (p:Nat×Nat×List aW)=>match p with|(j,i,c)=>⟨[(0,(aC (.s 0 0 4 l.length))),(1,(aC (.d (.f fn bc)))),(4,(aC cN)),(5,(aI (↑i:Int))),(6,(aI (↑j:Int)))],[(0,(xO c))],1⟩) (fun (p:Nat×Nat×List aW)=>match p with|(j,i,c)=>kR pr l c i j) (fun (p:Nat×Nat×List aW)=>match p with|(j,i,c)=>l.length - j) (i0+1,i0,l) ?_ ?_ ?_
 ·exact kR.start hx0 hp0 hk0
 ·exact aD.bY id (by refine ⟨?_,?_,?_,?_,?_,trivial⟩<;>first|rfl|(simp only [bn];done)|(congr 3;omega)|(congr 4;omega)|(simp only [bo];rfl)) (⟨by first|rfl|(simp only [bn];done)|(congr 3;omega)|(congr 4;omega)|(simp only [bo];rfl),trivial⟩) rfl
 rintro ⟨j,i,c⟩ hd
 have hdl:=hd.len;have hdi:=hd.ij;have hdj:=hd.jl
 refine af ?_
 refine az aa 2 rfl ?_
 refine ay (dr rfl rfl rfl rfl rfl Try.underlying32) rfl ?_
 refine ab aa 1 rfl ?_
 refine ae ?_
 refine ag rfl (fun hc2=>?_) (fun hc2=>?_)
 ·
  have hc2':=of_decide_eq_true hc2
  refine aP ?_
  refine af ?_
  refine aV ?_
  refine az aa 2 rfl ?_
  refine ay (bq (i:=j) rfl rfl rfl Try.underlying32 me (by first|omega|(simp;done)|(simp;omega)) (by first|omega|(simp;done)|(simp;omega))) rfl ?_
  obtain ⟨x1,hx1⟩:=ch (xs:=c) (i:=j) (by first|omega|(simp;done)|(simp;omega))
  refine ay (dg rfl rfl rfl Try.underlying80 rfl me (bw hx1) rfl) rfl ?_
  refine ab aa 2 rfl ?_
  refine ae ?_
  refine az aa 2 rfl ?_
  refine ay (hG 2 (hp x1) hen rfl rfl rfl ⟨⟨_,rfl,.g ⟨.d _,.d _,.d _,.d _,trivial⟩⟩,trivial⟩ trivial trivial rfl rfl rfl rfl) rfl ?_
  refine ab aa 1 rfl ?_
  refine ae ?_
  refine ag rfl (fun hc3=>?_) (fun hc3=>?_)
  ·
   have hc3':=hc3;try simp only [bm,bM] at hc3'
   refine az aa 3 rfl ?_
   refine ay (bq (i:=i) rfl rfl rfl Try.underlying32 me (by first|omega|(simp;done)|(simp;omega)) (by first|omega|(simp;done)|(simp;omega))) rfl ?_
   obtain ⟨x2,hx2⟩:=ch (xs:=c) (i:=i) (by first|omega|(simp;done)|(simp;omega))
   refine gf [1,0] (dP (ds:=[(dI x1.number),(dI x1.kind),(dI x1.ba),(dI x1.sum)]) rfl rfl rfl rfl rfl me rfl (Nat.le_of_ble_eq_true rfl) (bw hx2) rfl (eL (x':=x1) rfl)) rfl ?_
   refine ae ?_
   refine aw ?_
   refine ab aa 1 rfl ?_
   refine ay (aM rfl rfl rfl (aH (by first|omega|(simp;done)|(simp;omega)))) rfl ?_
   refine ab aa 1 rfl ?_
   refine bZ ?_
   refine bp ?_
   refine then_ok ?_
   refine aw ?_
   refine ab aa 1 rfl ?_
   refine ay (aM rfl rfl rfl (aH (by first|omega|(simp;done)|(simp;omega)))) rfl ?_
   refine ab aa 1 rfl ?_
   refine ae ?_
   refine ⟨(j+1,(i)+1,(c).set i x1),hd.cF hx1 (by simpa using hc3),by first|omega|(simp;done)|(simp;omega),aD.bY id (by refine ⟨?_,?_,?_,?_,?_,trivial⟩<;>first|rfl|(simp only [bn];done)|(congr 3;omega)|(congr 4;omega)|(simp only [bo];rfl)) (⟨by first|rfl|(simp only [bn];done)|(congr 3;omega)|(congr 4;omega)|(simp only [bo];rfl),trivial⟩) rfl⟩
  have hc3':=hc3;try simp only [bm,bM] at hc3'
  refine cU ?_
  refine bp ?_
  refine then_ok ?_
  refine aw ?_
  refine ab aa 1 rfl ?_
  refine ay (aM rfl rfl rfl (aH (by first|omega|(simp;done)|(simp;omega)))) rfl ?_
  refine ab aa 1 rfl ?_
  refine ae ?_
  refine ⟨(j+1,i,c),hd.skip hx1 (by simpa using hc3),by first|omega|(simp;done)|(simp;omega),aD.bY id (by refine ⟨?_,?_,?_,?_,?_,trivial⟩<;>first|rfl|(simp only [bn];done)|(congr 3;omega)|(congr 4;omega)|(simp only [bo];rfl)) (⟨by first|rfl|(simp only [bn];done)|(congr 3;omega)|(congr 4;omega)|(simp only [bo];rfl),trivial⟩) rfl⟩
 have hc2':=of_decide_eq_false hc2
 refine cp ?_
 refine aR ?_
 refine aR ?_
 refine bQ ?_
 refine then_ok ?_
 refine az aa 2 rfl ?_
 refine ay (nt (l:=i) (h:=l.length) rfl Try.underlying32 me rfl (.inr ⟨_,rfl,rfl⟩) (.inl ⟨rfl,rfl⟩) (by first|omega|(simp;done)|(simp;omega)) (by first|omega|(simp;done)|(simp;omega)) (by first|omega|(simp;done)|(simp;omega)) rfl) rfl ?_
 refine gf [0] (ss (rows':=(c.take i).map fx) uI Gq rfl rfl rfl rfl rfl rfl rfl rfl rfl (by simp [List.map_take])) rfl ?_
 refine ae ?_
 refine az aa 2 rfl ?_
 refine ay (nt (l:=0) (h:=i) rfl Try.underlying32 me rfl (.inl ⟨rfl,rfl⟩) (.inr ⟨_,rfl,rfl⟩) (by first|omega|(simp;done)|(simp;omega)) (by first|omega|(simp;done)|(simp;omega)) (by first|omega|(simp;done)|(simp;omega)) rfl) rfl ?_
 refine ab aa 1 rfl ?_
 refine ae ?_
 refine ar ?_
 have hX:du pr l=(c.take i):=by
   have hdone:=hd.done (by omega)
   rw [<-hdone]
 rw [hX] at hr;clear hX
 subst hr
 refine ah aa [0] 1 rfl rfl rfl rfl rfl rfl ?_ ?_
 all_goals first|rfl|(simp [au];done)|(simp [au];omega)


theorem jY {s : bR} {t : aW} (hI : ∀ t ∈ s.kept, fG t.number) (h : 0 ≤ s.bE ∧ s.bE ≤ 1000000) : ∀ u ∈ s.kept ++ [(⟨s.bE + 1, t.kind, t.ba, t.sum⟩ : aW)], fG u.number := by
  intro u hu
  rcases List.mem_append.1 hu with hu | hu
  · exact hI u hu
  · have : u = ⟨s.bE + 1, t.kind, t.ba, t.sum⟩ := by simpa using hu
    subst this; unfold fG; dsimp only; omega
theorem jn {s x:bR} {seen e:Int} (hI:∀ t∈s.kept,fG t.number) (h:dO s seen=(x,e)):∀ u∈x.kept,fG u.number:=by
  intro u hu
  rcases po h with ⟨_,rfl⟩|⟨_,_,_,_,rfl⟩
  ·simp [xm] at hu
  ·exact hI u (jV hu)

theorem lA (s:bR) (hI:∀ t∈s.kept,fG t.number) (f:cP) (hr:cb s=f):Fn Try.prog 29 [(.g [(cI s.bE),(dc s.kept)])] (.v (.g [(cI f.err),(cI f.at_)])) []:=by
 refine Fn.mk' 79 [(0,(aG [(cI s.bE),(dc s.kept)]))] Try.func29 rfl rfl rfl rfl ?_
 intro W0 T0
 refine fl 0 1 rfl rfl (fun hlen0_1=>?_)
 refine ad aa 2 rfl ?_
 refine af ?_
 refine az aa 2 rfl ?_
 refine ay (cT rfl rfl rfl rfl rfl Try.underlying32) rfl ?_
 refine ab aa 1 rfl ?_
 refine ae ?_
 refine ag rfl (fun hc1=>?_) (fun hc1=>?_)
 ·
  have hc1':=of_decide_eq_true hc1
  refine ad aa 2 rfl ?_
  refine ar ?_
  refine ao ?_
  have hX:cb s=(⟨5,0⟩:cP):=by
    unfold cb jb;rw [if_pos (by omega)]
  rw [hX] at hr;clear hX
  subst hr
  refine ah aa [1] 0 rfl rfl rfl rfl rfl rfl ?_ ?_
  all_goals first|rfl|(simp [au];done)|(simp [au];omega)
 have hc1':=of_decide_eq_false hc1
 refine aP ?_
 refine af ?_
 refine cq 20 ((decide (s.bE < (↑s.kept.length:Int)))||(decide (s.bE > 1000000))) ?_ ?_
 ·
  refine aw ?_
  refine ab aa 4 rfl ?_
  refine ay (cT rfl rfl rfl rfl rfl Try.underlying32) rfl ?_
  refine ab aa 2 rfl ?_
  refine bA (t:=16) rfl (fun hb2=>?_) (fun hb2=>?_)
  ·
   have hb2':=of_decide_eq_true hb2
   refine ab aa 4 rfl ?_
   refine ae ?_
   exact aD.bG 12 rfl rfl (by first|(simp [hb2];done)|(simp_all;done)|(exfalso;simp_all;done)|(simp_all;omega)) rfl
  have hb2':=of_decide_eq_false hb2
  refine ab aa 4 rfl ?_
  refine ae ?_
  exact aD.bG 12 rfl rfl (by first|(simp [hb2];done)|(simp_all;done)|(exfalso;simp_all;done)|(simp_all;omega)) rfl
 refine ag rfl (fun hc3=>?_) (fun hc3=>?_)
 ·
  have hc3':=hc3;try simp only [bm,bM] at hc3'
  refine ad aa 2 rfl ?_
  refine ar ?_
  refine ao ?_
  have hX:cb s=(⟨3,0⟩:cP):=by
    unfold cb jb;rw [if_neg (by omega),if_pos (by omega)]
  rw [hX] at hr;clear hX
  subst hr
  refine ah aa [1] 0 rfl rfl rfl rfl rfl rfl ?_ ?_
  all_goals first|rfl|(simp [au];done)|(simp [au];omega)
 have hc3':=hc3;try simp only [bm,bM] at hc3'
 refine aP ?_
 refine af ?_
 refine az aa 2 rfl ?_
 refine ay (cT rfl rfl rfl rfl rfl Try.underlying32) rfl ?_
 refine ab aa 1 rfl ?_
 refine ae ?_
 refine aV ?_
 refine cx (β:=Nat) (fun (q:Nat)=>⟨[(1,(aC (.p 0 0 0 0))),(2,(aC (.p 1 0 0 0))),(23,(aC (dc s.kept))),(24,(aI (↑s.kept.length:Int))),(25,(aI (↑q:Int)))],[(1,(.box 50 [(cI 0),(cI 0)])),(0,(.box 34 [(cI s.bE),(dc s.kept)]))],2⟩) (fun (q:Nat)=>q<=s.kept.length/\scan (jN s) 0 s.kept.length=scan (jN s) q (s.kept.length - q)) (fun (q:Nat)=>s.kept.length - q) 0 ?_ ?_ ?_
 ·exact ⟨by omega,rfl⟩
 ·exact aD.bY id (by refine ⟨?_,?_,?_,?_,?_,trivial⟩<;>first|rfl|(simp only [bn];done)|(congr 3;omega)|(congr 4;omega)|(simp only [bo];rfl)) (by refine ⟨?_,?_,trivial⟩<;>first|rfl|(simp only [bn];done)|(congr 3;omega)|(congr 4;omega)|(simp only [bo];rfl)) rfl
 rintro q ⟨hi0_0,hi0_1⟩
 refine ad aa 1 rfl ?_
 refine af ?_
 refine ag rfl (fun hc4=>?_) (fun hc4=>?_)
 ·
  have hc4':=of_decide_eq_true hc4
  refine aP ?_
  refine af ?_
  refine aV ?_
  refine az aa 1 rfl ?_
  obtain ⟨x1,hx1⟩:=ch (xs:=s.kept) (i:=q) (by first|omega|(simp;done)|(simp;omega))
  have hx1b:=hI x1 (List.mem_of_getElem? hx1)
  unfold fG at hx1b
  refine ay (cQ (i:=q) rfl rfl rfl Try.underlying32 me (by first|omega|(simp;done)|(simp;omega)) (bw hx1)) rfl ?_
  refine ab aa 4 rfl ?_
  refine ae ?_
  refine aV ?_
  refine cq 30 ((decide (x1.kind < 1))||(decide (x1.kind > 3))) ?_ ?_
  ·
   refine aw ?_
   refine ab aa 4 rfl ?_
   refine bA (t:=34) rfl (fun hb5=>?_) (fun hb5=>?_)
   ·
    have hb5':=of_decide_eq_true hb5
    refine ab aa 5 rfl ?_
    refine ae ?_
    exact aD.bG 10 rfl rfl (by first|(simp [hb5];done)|(simp_all;done)|(exfalso;simp_all;done)|(simp_all;omega)) rfl
   have hb5':=of_decide_eq_false hb5
   refine ab aa 5 rfl ?_
   refine ae ?_
   exact aD.bG 10 rfl rfl (by first|(simp [hb5];done)|(simp_all;done)|(exfalso;simp_all;done)|(simp_all;omega)) rfl
  refine ag rfl (fun hc6=>?_) (fun hc6=>?_)
  ·
   have hc6':=hc6;try simp only [bm,bM] at hc6'
   refine ad aa 3 rfl ?_
   refine ar ?_
   refine bg ?_
   refine bg ?_
   refine ao ?_
   refine ao ?_
   refine bg ?_
   refine ao ?_
   have hX:cb s=(⟨1,(↑q:Int)⟩:cP):=by
     unfold cb jb;rw [if_neg (by omega),if_neg (by omega),hi0_1,ia (c:=1) (by omega) (by unfold jN;simp only [hx1];rw [if_pos (by omega)]) (by decide)]
   rw [hX] at hr;clear hX
   subst hr
   refine ah aa [1] 0 rfl rfl rfl rfl rfl rfl ?_ ?_
   all_goals first|rfl|(simp [au];done)|(simp [au];omega)
  have hc6':=hc6;try simp only [bm,bM] at hc6'
  refine cq 41 ((((decide (x1.ba < 0))||(decide (x1.ba>=30)))||(decide (x1.sum < 1)))||(decide (x1.sum > 1000000))) ?_ ?_
  ·
   refine aw ?_
   refine ab aa 4 rfl ?_
   refine bA (t:=45) rfl (fun hb7=>?_) (fun hb7=>?_)
   ·
    have hb7':=of_decide_eq_true hb7
    refine ab aa 15 rfl ?_
    refine ae ?_
    exact aD.bG 20 rfl rfl (by first|(simp [hb7];done)|(simp_all;done)|(exfalso;simp_all;done)|(simp_all;omega)) rfl
   have hb7':=of_decide_eq_false hb7
   refine ab aa 5 rfl ?_
   refine bA (t:=50) rfl (fun hb8=>?_) (fun hb8=>?_)
   ·
    have hb8':=of_decide_eq_true hb8
    refine ab aa 10 rfl ?_
    refine ae ?_
    exact aD.bG 21 rfl rfl (by first|(simp [hb7,hb8];done)|(simp_all;done)|(exfalso;simp_all;done)|(simp_all;omega)) rfl
   have hb8':=of_decide_eq_false hb8
   refine ab aa 5 rfl ?_
   refine bA (t:=55) rfl (fun hb9=>?_) (fun hb9=>?_)
   ·
    have hb9':=of_decide_eq_true hb9
    refine ab aa 5 rfl ?_
    refine ae ?_
    exact aD.bG 22 rfl rfl (by first|(simp [hb7,hb8,hb9];done)|(simp_all;done)|(exfalso;simp_all;done)|(simp_all;omega)) rfl
   have hb9':=of_decide_eq_false hb9
   refine ab aa 5 rfl ?_
   refine ae ?_
   exact aD.bG 22 rfl rfl (by first|(simp [hb7,hb8,hb9];done)|(simp_all;done)|(exfalso;simp_all;done)|(simp_all;omega)) rfl
  refine ag rfl (fun hc10=>?_) (fun hc10=>?_)
  ·
   have hc10':=hc10;try simp only [bm,bM] at hc10'
   refine ad aa 3 rfl ?_
   refine ar ?_
   refine bg ?_
   refine bg ?_
   refine ao ?_
   refine ao ?_
   refine bg ?_
   refine ao ?_
   have hX:cb s=(⟨3,(↑q:Int)⟩:cP):=by
     unfold cb jb;rw [if_neg (by omega),if_neg (by omega),hi0_1,ia (c:=3) (by omega) (by unfold jN;simp only [hx1];rw [if_neg (by omega),if_pos (by omega)]) (by decide)]
   rw [hX] at hr;clear hX
   subst hr
   refine ah aa [1] 0 rfl rfl rfl rfl rfl rfl ?_ ?_
   all_goals first|rfl|(simp [au];done)|(simp [au];omega)
  have hc10':=hc10;try simp only [bm,bM] at hc10'
  refine az aa 6 rfl ?_
  refine ay (cT rfl rfl rfl rfl rfl Try.underlying32) rfl ?_
  refine ay (aM rfl rfl rfl (aH (by first|omega|(simp;done)|(simp;omega)))) rfl ?_
  refine ay (aM rfl rfl rfl (aH (by first|omega|(simp;done)|(simp;omega)))) rfl ?_
  refine ab aa 1 rfl ?_
  refine ay (aM rfl rfl rfl (aH (by first|omega|(simp;done)|(simp;omega)))) rfl ?_
  refine ab aa 2 rfl ?_
  refine ae ?_
  refine ag rfl (fun hc11=>?_) (fun hc11=>?_)
  ·
   have hc11':=of_decide_eq_true hc11
   refine ad aa 3 rfl ?_
   refine ar ?_
   refine bg ?_
   refine bg ?_
   refine ao ?_
   refine ao ?_
   refine bg ?_
   refine ao ?_
   have hX:cb s=(⟨2,(↑q:Int)⟩:cP):=by
     unfold cb jb;rw [if_neg (by omega),if_neg (by omega),hi0_1,ia (c:=2) (by omega) (by unfold jN;simp only [hx1];rw [if_neg (by omega),if_neg (by omega),if_pos (by omega)]) (by decide)]
   rw [hX] at hr;clear hX
   subst hr
   refine ah aa [1] 0 rfl rfl rfl rfl rfl rfl ?_ ?_
   all_goals first|rfl|(simp [au];done)|(simp [au];omega)
  have hc11':=of_decide_eq_false hc11
  refine cU ?_
  refine bp ?_
  refine bp ?_
  refine then_ok ?_
  refine aw ?_
  refine ay (aM rfl rfl rfl (aH (by first|omega|(simp;done)|(simp;omega)))) rfl ?_
  refine ab aa 1 rfl ?_
  refine ae ?_
  refine ⟨q+1,⟨by omega,by rw [hi0_1];exact mB (by omega) (by unfold jN;simp only [hx1];rw [if_neg (by omega),if_neg (by omega),if_neg (by omega)])⟩,by first|omega|(simp;done)|(simp;omega),aD.bY id (by refine ⟨?_,?_,?_,?_,?_,trivial⟩<;>first|rfl|(simp only [bn];done)|(congr 3;omega)|(congr 4;omega)|(simp only [bo];rfl)) (by refine ⟨?_,?_,trivial⟩<;>first|rfl|(simp only [bn];done)|(congr 3;omega)|(congr 4;omega)|(simp only [bo];rfl)) rfl⟩
 have hc4':=of_decide_eq_false hc4
 refine cp ?_
 refine aR ?_
 refine aR ?_
 refine bQ ?_
 refine then_ok ?_
 refine ad aa 2 rfl ?_
 refine ar ?_
 have hX:cb s=(⟨0,0⟩:cP):=by
   unfold cb jb;rw [if_neg (by omega),if_neg (by omega),hi0_1,na (by omega)]
 rw [hX] at hr;clear hX
 subst hr
 refine ah aa [1] 0 rfl rfl rfl rfl rfl rfl ?_ ?_
 all_goals first|rfl|(simp [au];done)|(simp [au];omega)

theorem rF (s:bR) (t:aW) (hI:∀ t∈s.kept,fG t.number) (x:bR) (e:Int) (hr:fu s t=(x,e)):Fn Try.prog 103 [(.g [(cI s.bE),(dc s.kept)]),(.g [(cI t.number),(cI t.kind),(cI t.ba),(cI t.sum)])] (.t [(.g [(cI x.bE),(.s 0 0 4 x.kept.length)]),(.c (cI e))]) [(0,(xO x.kept))]:=by
 refine Fn.mk' 40 [(0,(aG [(cI s.bE),(dc s.kept)])),(1,(aG [(cI t.number),(cI t.kind),(cI t.ba),(cI t.sum)]))] Try.func103 rfl rfl rfl rfl ?_
 intro W0 T0
 refine fl 0 1 rfl rfl (fun hlen0_1=>?_)
 have hrs:=@kS s
 refine ad aa 4 rfl ?_
 refine af ?_
 refine az aa 1 rfl ?_
 obtain ⟨f0,hr0⟩:∃ (f0:cP),cb s=f0:=⟨_,rfl⟩
 have hq0:(cb s).err=f0.err:=by rw [hr0]
 refine aL 3 [2,1,0] (bJ 3 (lA s (by first|assumption|exact jY (by assumption) (by omega)|exact jn (by assumption) (by assumption)|(simp [fG];done)) f0 hr0) BX rfl rfl ⟨⟨_,rfl,.g ⟨.d _,.d _,trivial⟩⟩,trivial⟩ ⟨trivial,trivial,trivial⟩ trivial rfl rfl rfl rfl) rfl ?_
 refine ab aa 2 rfl ?_
 refine ae ?_
 refine ad aa 3 rfl ?_
 refine ag rfl (fun hc1=>?_) (fun hc1=>?_)
 ·
  have hc1':=of_decide_eq_true hc1
  refine af ?_
  refine db [2,3,4,6] [3,2,1,0] mixed rfl rfl ?_
  refine bT (kn:=[]) aa 5 rfl trivial ?_
  refine dS [2,3,4,5] [2,1,0] rfl rfl (by kernel_rfl) ?_
  refine then_ok ?_
  refine ar ?_
  refine ao ?_
  refine cf 2 1 80 4 rfl rfl rfl ?_
  have hX:fu s t=((⟨0,([]:List aW)⟩:bR),f0.err):=by
    unfold fu;rw [if_pos (by omega),hr0];rfl
  rw [hX] at hr;clear hX
  simp only [Prod.mk.injEq] at hr;obtain ⟨rfl,rfl⟩:=hr
  refine ah aa [4,2] 1 rfl rfl rfl rfl rfl rfl ?_ ?_
  all_goals first|rfl|(simp [au];done)|(simp [au];omega)
 have hc1':=of_decide_eq_false hc1
 refine aP ?_
 refine az aa 2 rfl ?_
 refine ay (aM rfl rfl rfl (aH (by first|omega|(simp;done)|(simp;omega)))) rfl ?_
 refine ab aa 2 rfl ?_
 refine ae ?_
 refine af ?_
 refine bb [2,3,4] [2,1,0] mixed rfl rfl ?_
 refine aA (kn:=[]) aa 2 rfl trivial ?_
 refine aT (n':=4) [22] [] rfl rfl (.inl ⟨(ak.plain rfl),aK.cast (aM rfl rfl rfl (aH (by first|omega|(simp;done)|(simp;omega)))) rfl⟩) rfl ?_
 refine aA (kn:=[]) aa 2 rfl trivial ?_
 refine aT (n':=5) [25] [] rfl rfl (.inl ⟨(ak.plain rfl),aK.cast (bJ 4 (lB s.kept (by first|omega|(simp;done)|(simp;omega))) CQ rfl rfl ⟨⟨_,rfl,.c (.d _)⟩,trivial⟩ trivial ⟨(fun _ _ _ _=>trivial),trivial⟩ rfl rfl rfl rfl) rfl⟩) rfl ?_
 refine aA (kn:=[]) aa 1 rfl trivial ?_
 refine aT (n':=6) [27] [] rfl rfl (.inl ⟨(ak.plain rfl),aK.cast (dz (ys:=[(0,(.g [(cI (s.bE+1)),(cI t.kind),(cI t.ba),(cI t.sum)]))]) (rows:=([(⟨s.bE+1,t.kind,t.ba,t.sum⟩:aW)]).map fx) 5 uI rfl (by decide) ⟨⟨rfl,rfl⟩,trivial⟩ rfl rfl rfl rfl) rfl⟩) rfl ?_
 refine aT (n':=7) [26,28] [5,4] rfl rfl (.inl ⟨(ak.plain rfl),aK.cast (da (m:=1) (N:=s.kept.length+1) (k2:=6) (ys:=([(⟨s.bE+1,t.kind,t.ba,t.sum⟩:aW)]).map fx) uI rfl rfl rfl rfl rfl rfl (by first|omega|(simp;done)|(simp;omega)) rfl (.s rfl (by first|omega|(simp;done)|(simp;omega))) (by first|omega|(simp;done)|(simp;omega)) (by first|omega|(simp;done)|(simp;omega)) eP (by decide) (by first|omega|(simp;done)|(simp;omega)) (by first|omega|(simp;done)|(simp;omega))) rfl⟩) rfl ?_
 refine aA (n':=8) (kn:=[]) aa 2 rfl trivial ?_
 refine bB [7,6,2,1,0] rfl rfl rfl rfl (by kernel_rfl) ?_
 refine ab aa 1 rfl ?_
 refine ae ?_
 refine af ?_
 refine az aa 1 rfl ?_
 obtain ⟨f1,hr1⟩:∃ (f1:cP),cb (⟨s.bE+1,s.kept++([(⟨s.bE+1,t.kind,t.ba,t.sum⟩:aW)])⟩:bR)=f1:=⟨_,rfl⟩
 have hq1:(cb (⟨s.bE+1,s.kept++([(⟨s.bE+1,t.kind,t.ba,t.sum⟩:aW)])⟩:bR)).err=f1.err:=by rw [hr1]
 refine aL 8 [7,6,2,1,0] (fP 8 [6] (lA (⟨s.bE+1,s.kept++([(⟨s.bE+1,t.kind,t.ba,t.sum⟩:aW)])⟩:bR) (by first|assumption|exact jY (by assumption) (by omega)|exact jn (by assumption) (by assumption)|(simp [fG];done)) f1 hr1) BX rfl rfl ⟨⟨_,rfl,.g ⟨.d _,.s rfl (by decide) (by first|omega|(simp;done)|(simp;omega)),trivial⟩⟩,trivial⟩ ⟨rfl,rfl,trivial⟩ trivial rfl rfl rfl rfl) rfl ?_
 refine ab aa 2 rfl ?_
 refine ae ?_
 refine ad aa 3 rfl ?_
 refine ag rfl (fun hc2=>?_) (fun hc2=>?_)
 ·
  have hc2':=of_decide_eq_true hc2
  refine af ?_
  refine db [4,7,8] [8,7,6,2] mixed rfl rfl ?_
  refine bT (kn:=[]) aa 5 rfl trivial ?_
  refine dS [4,7,5] [2,7,6] rfl rfl (by kernel_rfl) ?_
  refine then_ok ?_
  refine ar ?_
  refine ao ?_
  refine cf 2 1 80 4 rfl rfl rfl ?_
  have hX:fu s t=((⟨0,([]:List aW)⟩:bR),f1.err):=by
    have hout:cb (iG s t)=f1:=hr1
    unfold fu;rw [if_neg (by omega),if_pos (by rw [hout];omega),hout];rfl
  rw [hX] at hr;clear hX
  simp only [Prod.mk.injEq] at hr;obtain ⟨rfl,rfl⟩:=hr
  refine ah aa [9,2] 1 rfl rfl rfl rfl rfl rfl ?_ ?_
  all_goals first|rfl|(simp [au];done)|(simp [au];omega)
 have hc2':=of_decide_eq_false hc2
 refine aP ?_
 refine ad aa 3 rfl ?_
 refine ar ?_
 have hX:fu s t=((⟨s.bE+1,s.kept++([(⟨s.bE+1,t.kind,t.ba,t.sum⟩:aW)])⟩:bR),0):=by
   have hout:cb (iG s t)=f1:=hr1
   unfold fu;rw [if_neg (by omega),if_neg (by rw [hout];omega)];rfl
 rw [hX] at hr;clear hX
 simp only [Prod.mk.injEq] at hr;obtain ⟨rfl,rfl⟩:=hr
 refine ah aa [6,2] 1 rfl rfl rfl rfl rfl rfl ?_ ?_
 all_goals first|rfl|(simp [au];done)|(simp [au];omega)
theorem pL (seen:Int) (t:aW) (n:Int) (ok:Bool) (hr:fr seen t=(n,ok)):Fn Try.prog 88 [(.c (cI seen)),(.g [(cI t.number),(cI t.kind),(cI t.ba),(cI t.sum)])] (.t [(.c (cI n)),(.c (cB ok))]) []:=by
 refine Fn.mk' 22 [(0,(aI seen)),(1,(aG [(cI t.number),(cI t.kind),(cI t.ba),(cI t.sum)]))] Try.func88 rfl rfl rfl rfl ?_
 intro W0 T0
 refine ad aa 3 rfl ?_
 refine af ?_
 refine cq 18 (((decide (seen < 0))||(decide (seen>=1000000)))||(decide (¬t.number=(seen+1)))) ?_ ?_
 ·
  refine aw ?_
  refine ab aa 3 rfl ?_
  refine bA (t:=8) rfl (fun hb1=>?_) (fun hb1=>?_)
  ·
   have hb1':=of_decide_eq_true hb1
   refine ab aa 10 rfl ?_
   refine ae ?_
   exact aD.bG 14 rfl rfl (by first|(simp [hb1];done)|(simp_all;done)|(exfalso;simp_all;done)|(simp_all;omega)) rfl
  have hb1':=of_decide_eq_false hb1
  refine ab aa 4 rfl ?_
  refine bA (t:=12) rfl (fun hb2=>?_) (fun hb2=>?_)
  ·
   have hb2':=of_decide_eq_true hb2
   refine ab aa 6 rfl ?_
   refine ae ?_
   exact aD.bG 15 rfl rfl (by first|(simp [hb1,hb2];done)|(simp_all;done)|(exfalso;simp_all;done)|(simp_all;omega)) rfl
  have hb2':=of_decide_eq_false hb2
  refine ab aa 3 rfl ?_
  refine dF (ak.yes rfl rfl rfl) (aM rfl rfl rfl (aH (by first|omega|(simp;done)|(simp;omega)))) rfl rfl ?_
  refine ab aa 2 rfl ?_
  refine ae ?_
  exact aD.bG 15 rfl rfl (by first|(simp [hb1,hb2];done)|(simp_all;done)|(exfalso;simp_all;done)|(simp_all;omega)) rfl
 refine ag rfl (fun hc3=>?_) (fun hc3=>?_)
 ·
  have hc3':=hc3;try simp only [bm,bM] at hc3'
  refine ad aa 3 rfl ?_
  refine ar ?_
  refine ao ?_
  have hX:fr seen t=(seen,false):=by
    (unfold fr;try dsimp only);(repeat' split)<;>first|rfl|omega|(exfalso;omega)|(subst_vars;rfl)|(simp_all;done)|(simp_all;omega)
  rw [hX] at hr;clear hX
  simp only [Prod.mk.injEq] at hr;obtain ⟨rfl,rfl⟩:=hr
  refine ah aa [] 0 rfl rfl rfl rfl rfl rfl ?_ ?_
  all_goals first|rfl|(simp [au];done)|(simp [au];omega)
 have hc3':=hc3;try simp only [bm,bM] at hc3'
 refine aP ?_
 refine az aa 1 rfl ?_
 refine ay (aM rfl rfl rfl (aH (by first|omega|(simp;done)|(simp;omega)))) rfl ?_
 refine ab aa 2 rfl ?_
 refine ae ?_
 refine ar ?_
 have hX:fr seen t=(seen+1,true):=by
   (unfold fr;try dsimp only);(repeat' split)<;>first|rfl|omega|(exfalso;omega)|(subst_vars;rfl)|(simp_all;done)|(simp_all;omega)
 rw [hX] at hr;clear hX
 simp only [Prod.mk.injEq] at hr;obtain ⟨rfl,rfl⟩:=hr
 refine ah aa [] 0 rfl rfl rfl rfl rfl rfl ?_ ?_
 all_goals first|rfl|(simp [au];done)|(simp [au];omega)

theorem DE (t:aW) (seen:Int):Fn Try.prog 107 [(.g [(cI t.number),(cI t.kind),(cI t.ba),(cI t.sum)]),(.c (.q ([dI seen]) 0))] (aB (came seen t)) []:=by
 refine Fn.mk' 8 [(0,(aG [(cI t.number),(cI t.kind),(cI t.ba),(cI t.sum)])),(1,(aC (.q ([dI seen]) 0)))] Try.func107 rfl rfl rfl rfl ?_
 intro W0 T0
 refine ad aa 2 rfl ?_
 refine ad aa 5 rfl ?_
 refine ar ?_
 refine ah aa [] 0 rfl rfl rfl rfl rfl rfl ?_ ?_
 all_goals first|rfl|(simp [au];done)|(simp [au];omega)
theorem pM (s:bR) (seen:Int) (hI:∀ t∈s.kept,fG t.number) (x:bR) (e:Int) (hr:dO s seen=(x,e)):Fn Try.prog 86 [(.g [(cI s.bE),(dc s.kept)]),(.c (cI seen))] (.t [(.g [(cI x.bE),(.s 0 0 4 x.kept.length)]),(.c (cI e))]) [(0,(xO x.kept))]:=by
 refine Fn.mk' 32 [(0,(aG [(cI s.bE),(dc s.kept)])),(1,(aI seen))] Try.func86 rfl rfl rfl rfl ?_
 intro W0 T0
 refine fl 0 1 rfl rfl (fun hlen0_1=>?_)
 have hrs:=@kS s
 refine ad aa 4 rfl ?_
 refine af ?_
 refine az aa 1 rfl ?_
 obtain ⟨f0,hr0⟩:∃ (f0:cP),cb s=f0:=⟨_,rfl⟩
 have hq0:(cb s).err=f0.err:=by rw [hr0]
 refine aL 3 [2,1,0] (bJ 3 (lA s (by first|assumption|exact jY (by assumption) (by omega)|exact jn (by assumption) (by assumption)|(simp [fG];done)) f0 hr0) BX rfl rfl ⟨⟨_,rfl,.g ⟨.d _,.d _,trivial⟩⟩,trivial⟩ ⟨trivial,trivial,trivial⟩ trivial rfl rfl rfl rfl) rfl ?_
 refine ab aa 2 rfl ?_
 refine ae ?_
 refine ad aa 3 rfl ?_
 refine ag rfl (fun hc1=>?_) (fun hc1=>?_)
 ·
  have hc1':=of_decide_eq_true hc1
  refine af ?_
  refine db [2,3,4,6] [3,2,1,0] mixed rfl rfl ?_
  refine bT (kn:=[]) aa 5 rfl trivial ?_
  refine dS [2,3,4,5] [2,1,0] rfl rfl (by kernel_rfl) ?_
  refine then_ok ?_
  refine ar ?_
  refine ao ?_
  refine cf 2 1 80 4 rfl rfl rfl ?_
  have hX:dO s seen=((⟨0,([]:List aW)⟩:bR),f0.err):=by
    unfold dO;rw [if_pos (by omega),hr0];rfl
  rw [hX] at hr;clear hX
  simp only [Prod.mk.injEq] at hr;obtain ⟨rfl,rfl⟩:=hr
  refine ah aa [4,2] 1 rfl rfl rfl rfl rfl rfl ?_ ?_
  all_goals first|rfl|(simp [au];done)|(simp [au];omega)
 have hc1':=of_decide_eq_false hc1
 refine aP ?_
 refine af ?_
 refine cq 22 ((decide (seen < 0))||(decide (seen > s.bE))) ?_ ?_
 ·
  refine aw ?_
  refine ab aa 3 rfl ?_
  refine bA (t:=17) rfl (fun hb2=>?_) (fun hb2=>?_)
  ·
   have hb2':=of_decide_eq_true hb2
   refine ab aa 5 rfl ?_
   refine ae ?_
   exact aD.bG 9 rfl rfl (by first|(simp [hb2];done)|(simp_all;done)|(exfalso;simp_all;done)|(simp_all;omega)) rfl
  have hb2':=of_decide_eq_false hb2
  refine ab aa 5 rfl ?_
  refine ae ?_
  exact aD.bG 9 rfl rfl (by first|(simp [hb2];done)|(simp_all;done)|(exfalso;simp_all;done)|(simp_all;omega)) rfl
 refine ag rfl (fun hc3=>?_) (fun hc3=>?_)
 ·
  have hc3':=hc3;try simp only [bm,bM] at hc3'
  refine ad aa 3 rfl ?_
  refine ar ?_
  refine ao ?_
  refine cf 2 1 80 4 rfl rfl rfl ?_
  have hX:dO s seen=((⟨0,([]:List aW)⟩:bR),3):=by
    unfold dO;rw [if_neg (by omega),if_pos (by omega)];rfl
  rw [hX] at hr;clear hX
  simp only [Prod.mk.injEq] at hr;obtain ⟨rfl,rfl⟩:=hr
  refine ah aa [4,2] 1 rfl rfl rfl rfl rfl rfl ?_ ?_
  all_goals first|rfl|(simp [au];done)|(simp [au];omega)
 have hc3':=hc3;try simp only [bm,bM] at hc3'
 refine aP ?_
 refine af ?_
 obtain ⟨r1,hr1⟩:∃ (r1:List aW),du (came seen) s.kept=r1:=⟨_,rfl⟩
 refine bb [2,3,4] [2,1,0] mixed rfl rfl ?_
 refine aA (kn:=[]) aa 4 rfl trivial ?_
 refine aT (n':=5) [27] [] rfl rfl (.inl ⟨(ak.plain rfl),aK.cast (bJ 4 (lB s.kept (by first|omega|(simp;done)|(simp;omega))) CQ rfl rfl ⟨⟨_,rfl,.c (.d _)⟩,trivial⟩ trivial ⟨(fun _ _ _ _=>trivial),trivial⟩ rfl rfl rfl rfl) rfl⟩) rfl ?_
 refine aT (n':=5) [3] [] rfl rfl (.inl ⟨(ak.plain rfl),aK.cast (Ah (ks:=[1]) rfl ⟨rfl,trivial⟩) rfl⟩) rfl ?_
 refine aT (n':=6) [28,29] [1,4] rfl rfl (.inl ⟨(ak.plain rfl),aK.cast (vy (aU [4]) (aU [5]) [1] (px s.kept 107 ([[(dI seen)]]) (came seen) (fun x=>DE x seen) FU r1 hr1) FV rfl rfl ⟨⟨_,rfl,.inl ⟨rfl,rfl⟩⟩,⟨_,rfl,.inr (.c (.fn ⟨⟨by decide,_,rfl⟩,trivial⟩))⟩,trivial⟩ ⟨rfl,trivial⟩ rfl rfl rfl rfl rfl rfl rfl rfl trivial ⟨(tY _),trivial⟩ rfl rfl rfl rfl) rfl⟩) rfl ?_
 refine aA (kn:=[]) aa 1 rfl trivial ?_
 refine bB [5,2,1,0] rfl rfl rfl rfl (by kernel_rfl) ?_
 refine ab aa 2 rfl ?_
 refine ae ?_
 refine ar ?_
 have hX:dO s seen=((⟨s.bE,r1⟩:bR),0):=by
   unfold dO;rw [if_neg (by omega),if_neg (by omega),hr1]
 rw [hX] at hr;clear hX
 simp only [Prod.mk.injEq] at hr;obtain ⟨rfl,rfl⟩:=hr
 refine ah aa [5,2] 1 rfl rfl rfl rfl rfl rfl ?_ ?_
 all_goals first|rfl|(simp [au];done)|(simp [au];omega)


theorem GD {a b c d x:Int} {q:Nat} (h:[a,b,c,d][q]?=some x):(q=0/\x=a)\/(q=1/\x=b)\/(q=2/\x=c)\/(q=3/\x=d):=by
  match q with
  |0=>left;simp_all
  |1=>right;left;simp_all
  |2=>right;right;left;simp_all
  |3=>right;right;right;simp_all
  |q+4=>simp at h

theorem oQ (a:bz) (e:Int) (hr:bC a=e):Fn Try.prog 26 [(.g [(cI a.aJ),(cI a.ax),(cI a.sum),(cI a.captured),(cI a.br),(cI a.bd),(cI a.cS),(cB a.shut)])] (.v (.c (cI e))) []:=by
 refine Fn.mk' 71 [(0,(aG [(cI a.aJ),(cI a.ax),(cI a.sum),(cI a.captured),(cI a.br),(cI a.bd),(cI a.cS),(cB a.shut)]))] Try.func26 rfl rfl rfl rfl ?_
 intro W0 T0
 refine ad aa 2 rfl ?_
 refine af ?_
 refine az aa 8 rfl ?_
 refine aL 2 [1,0] (dz (ys:=[(0,(.c (cI a.sum))),(1,(.c (cI a.captured))),(2,(.c (cI a.br))),(3,(.c (cI a.bd)))]) (rows:=([a.sum,a.captured,a.br,a.bd]).map rI) 1 ml rfl (by decide) ⟨⟨rfl,rfl⟩,⟨rfl,rfl⟩,⟨rfl,rfl⟩,⟨rfl,rfl⟩,trivial⟩ rfl rfl rfl rfl) rfl ?_
 refine ay (dr rfl rfl rfl rfl rfl Try.underlying30) rfl ?_
 refine ab aa 1 rfl ?_
 refine ae ?_
 refine aV ?_
 refine cx (β:=Nat) (fun (q:Nat)=>⟨[(1,(aC (.p 0 0 0 0))),(13,(aC (.s 1 0 1 4))),(14,(aI 4)),(15,(aI (↑q:Int)))],[(1,(dL ([a.sum,a.captured,a.br,a.bd]))),(0,(.box 67 [(cI a.aJ),(cI a.ax),(cI a.sum),(cI a.captured),(cI a.br),(cI a.bd),(cI a.cS),(cB a.shut)]))],2⟩) (fun (q:Nat)=>q<=4/\(0 < q->0<=a.sum/\a.sum<=1000000)/\(1 < q->0<=a.captured/\a.captured<=1000000)/\(2 < q->0<=a.br/\a.br<=1000000)/\(3 < q->0<=a.bd/\a.bd<=1000000)) (fun (q:Nat)=>4 - q) 0 ?_ ?_ ?_
 ·exact ⟨by omega,by omega,by omega,by omega,by omega⟩
 ·exact aD.bY id (by refine ⟨?_,?_,?_,?_,trivial⟩<;>first|rfl|(simp only [bn];done)|(congr 3;omega)|(congr 4;omega)|(simp only [bo];rfl)) (by refine ⟨?_,?_,trivial⟩<;>first|rfl|(simp only [bn];done)|(congr 3;omega)|(congr 4;omega)|(simp only [bo];rfl)) rfl
 rintro q ⟨hi0_0,hi0_1,hi0_2,hi0_3,hi0_4⟩
 refine ad aa 1 rfl ?_
 refine af ?_
 refine ag rfl (fun hc1=>?_) (fun hc1=>?_)
 ·
  have hc1':=of_decide_eq_true hc1
  refine aP ?_
  refine af ?_
  refine aV ?_
  refine eE ?_
  refine ay (bq (i:=q) rfl rfl rfl Try.underlying30 fK (by first|omega|(simp;done)|(simp;omega)) (by first|omega|(simp;done)|(simp;omega))) rfl ?_
  obtain ⟨x1,hx1⟩:=ch (xs:=([a.sum,a.captured,a.br,a.bd]:List Int)) (i:=q) (by first|omega|(simp;done)|(simp;omega))
  have hx1v:=GD hx1
  refine ay (eG rfl rfl rfl Try.underlying3 rfl (bw hx1) rfl) rfl ?_
  refine ab aa 1 rfl ?_
  refine ae ?_
  refine cq 24 ((decide (x1 < 0))||(decide (x1 > 1000000))) ?_ ?_
  ·
   refine aw ?_
   refine ab aa 3 rfl ?_
   refine bA (t:=21) rfl (fun hb2=>?_) (fun hb2=>?_)
   ·
    have hb2':=of_decide_eq_true hb2
    refine ab aa 3 rfl ?_
    refine ae ?_
    exact aD.bG 7 rfl rfl (by first|(simp [hb2];done)|(simp_all;done)|(exfalso;simp_all;done)|(simp_all;omega)) rfl
   have hb2':=of_decide_eq_false hb2
   refine ab aa 3 rfl ?_
   refine ae ?_
   exact aD.bG 7 rfl rfl (by first|(simp [hb2];done)|(simp_all;done)|(exfalso;simp_all;done)|(simp_all;omega)) rfl
  refine ag rfl (fun hc3=>?_) (fun hc3=>?_)
  ·
   have hc3':=hc3;try simp only [bm,bM] at hc3'
   refine ad aa 1 rfl ?_
   refine ar ?_
   refine bg ?_
   refine ao ?_
   refine ao ?_
   refine bg ?_
   refine ao ?_
   have hX:bC a=3:=by
     (unfold bC;try dsimp only);(repeat' split)<;>first|rfl|omega|(exfalso;omega)|(subst_vars;rfl)|(simp_all;done)|(simp_all;omega)
   rw [hX] at hr;clear hX
   subst hr
   refine ah aa [] 0 rfl rfl rfl rfl rfl rfl ?_ ?_
   all_goals first|rfl|(simp [au];done)|(simp [au];omega)
  have hc3':=hc3;try simp only [bm,bM] at hc3'
  refine cU ?_
  refine bp ?_
  refine then_ok ?_
  refine aw ?_
  refine ay (aM rfl rfl rfl (aH (by first|omega|(simp;done)|(simp;omega)))) rfl ?_
  refine ab aa 1 rfl ?_
  refine ae ?_
  refine ⟨q+1,⟨by omega,by omega,by omega,by omega,by omega⟩,by first|omega|(simp;done)|(simp;omega),aD.bY id (by refine ⟨?_,?_,?_,?_,trivial⟩<;>first|rfl|(simp only [bn];done)|(congr 3;omega)|(congr 4;omega)|(simp only [bo];rfl)) (by refine ⟨?_,?_,trivial⟩<;>first|rfl|(simp only [bn];done)|(congr 3;omega)|(congr 4;omega)|(simp only [bo];rfl)) rfl⟩
 have hc1':=of_decide_eq_false hc1
 refine cp ?_
 refine aR ?_
 refine aR ?_
 refine bQ ?_
 refine then_ok ?_
 refine af ?_
 refine aV ?_
 refine cq 26 ((((((decide (a.aJ < 0))||(decide (a.aJ>=8)))||(decide (a.ax < 0)))||(decide (a.ax>=8)))||(decide (a.cS < 0)))||(decide (a.cS > 1000100))) ?_ ?_
 ·
  refine aw ?_
  refine ab aa 4 rfl ?_
  refine bA (t:=30) rfl (fun hb4=>?_) (fun hb4=>?_)
  ·
   have hb4':=of_decide_eq_true hb4
   refine ab aa 25 rfl ?_
   refine ae ?_
   exact aD.bG 30 rfl rfl (by first|(simp [hb4];done)|(simp_all;done)|(exfalso;simp_all;done)|(simp_all;omega)) rfl
  have hb4':=of_decide_eq_false hb4
  refine ab aa 5 rfl ?_
  refine bA (t:=35) rfl (fun hb5=>?_) (fun hb5=>?_)
  ·
   have hb5':=of_decide_eq_true hb5
   refine ab aa 20 rfl ?_
   refine ae ?_
   exact aD.bG 31 rfl rfl (by first|(simp [hb4,hb5];done)|(simp_all;done)|(exfalso;simp_all;done)|(simp_all;omega)) rfl
  have hb5':=of_decide_eq_false hb5
  refine ab aa 5 rfl ?_
  refine bA (t:=40) rfl (fun hb6=>?_) (fun hb6=>?_)
  ·
   have hb6':=of_decide_eq_true hb6
   refine ab aa 15 rfl ?_
   refine ae ?_
   exact aD.bG 32 rfl rfl (by first|(simp [hb4,hb5,hb6];done)|(simp_all;done)|(exfalso;simp_all;done)|(simp_all;omega)) rfl
  have hb6':=of_decide_eq_false hb6
  refine ab aa 5 rfl ?_
  refine bA (t:=45) rfl (fun hb7=>?_) (fun hb7=>?_)
  ·
   have hb7':=of_decide_eq_true hb7
   refine ab aa 10 rfl ?_
   refine ae ?_
   exact aD.bG 33 rfl rfl (by first|(simp [hb4,hb5,hb6,hb7];done)|(simp_all;done)|(exfalso;simp_all;done)|(simp_all;omega)) rfl
  have hb7':=of_decide_eq_false hb7
  refine ab aa 5 rfl ?_
  refine bA (t:=50) rfl (fun hb8=>?_) (fun hb8=>?_)
  ·
   have hb8':=of_decide_eq_true hb8
   refine ab aa 5 rfl ?_
   refine ae ?_
   exact aD.bG 34 rfl rfl (by first|(simp [hb4,hb5,hb6,hb7,hb8];done)|(simp_all;done)|(exfalso;simp_all;done)|(simp_all;omega)) rfl
  have hb8':=of_decide_eq_false hb8
  refine ab aa 5 rfl ?_
  refine ae ?_
  exact aD.bG 34 rfl rfl (by first|(simp [hb4,hb5,hb6,hb7,hb8];done)|(simp_all;done)|(exfalso;simp_all;done)|(simp_all;omega)) rfl
 refine ag rfl (fun hc9=>?_) (fun hc9=>?_)
 ·
  have hc9':=hc9;try simp only [bm,bM] at hc9'
  refine ad aa 1 rfl ?_
  refine ar ?_
  refine bg ?_
  refine ao ?_
  have hX:bC a=3:=by
    (unfold bC;try dsimp only);(repeat' split)<;>first|rfl|omega|(exfalso;omega)|(subst_vars;rfl)|(simp_all;done)|(simp_all;omega)
  rw [hX] at hr;clear hX
  subst hr
  refine ah aa [] 0 rfl rfl rfl rfl rfl rfl ?_ ?_
  all_goals first|rfl|(simp [au];done)|(simp [au];omega)
 have hc9':=hc9;try simp only [bm,bM] at hc9'
 refine cq 55 ((decide (a.captured > a.sum))||(decide ((a.br+a.bd) > a.captured))) ?_ ?_
 ·
  refine aw ?_
  refine ab aa 6 rfl ?_
  refine bA (t:=61) rfl (fun hb10=>?_) (fun hb10=>?_)
  ·
   have hb10':=of_decide_eq_true hb10
   refine ab aa 10 rfl ?_
   refine ae ?_
   exact aD.bG 17 rfl rfl (by first|(simp [hb10];done)|(simp_all;done)|(exfalso;simp_all;done)|(simp_all;omega)) rfl
  have hb10':=of_decide_eq_false hb10
  refine ab aa 4 rfl ?_
  refine dF (ak.yes rfl rfl rfl) (aM rfl rfl rfl (aH (by first|omega|(simp;done)|(simp;omega)))) rfl rfl ?_
  refine ab aa 5 rfl ?_
  refine ae ?_
  exact aD.bG 17 rfl rfl (by first|(simp [hb10];done)|(simp_all;done)|(exfalso;simp_all;done)|(simp_all;omega)) rfl
 refine ag rfl (fun hc11=>?_) (fun hc11=>?_)
 ·
  have hc11':=hc11;try simp only [bm,bM] at hc11'
  refine ad aa 1 rfl ?_
  refine ar ?_
  refine bg ?_
  refine ao ?_
  have hX:bC a=8:=by
    (unfold bC;try dsimp only);(repeat' split)<;>first|rfl|omega|(exfalso;omega)|(subst_vars;rfl)|(simp_all;done)|(simp_all;omega)
  rw [hX] at hr;clear hX
  subst hr
  refine ah aa [] 0 rfl rfl rfl rfl rfl rfl ?_ ?_
  all_goals first|rfl|(simp [au];done)|(simp [au];omega)
 have hc11':=hc11;try simp only [bm,bM] at hc11'
 refine cU ?_
 refine bp ?_
 refine then_ok ?_
 refine ad aa 1 rfl ?_
 refine ar ?_
 have hX:bC a=0:=by
   (unfold bC;try dsimp only);(repeat' split)<;>first|rfl|omega|(exfalso;omega)|(subst_vars;rfl)|(simp_all;done)|(simp_all;omega)
 rw [hX] at hr;clear hX
 subst hr
 refine ah aa [] 0 rfl rfl rfl rfl rfl rfl ?_ ?_
 all_goals first|rfl|(simp [au];done)|(simp [au];omega)
theorem rJ (aJ ax n time:Int) (b:bz) (e:Int) (hr:de aJ ax n time=(b,e)):Fn Try.prog 79 [(.c (cI aJ)),(.c (cI ax)),(.c (cI n)),(.c (cI time))] (.t [(.g [(cI b.aJ),(cI b.ax),(cI b.sum),(cI b.captured),(cI b.br),(cI b.bd),(cI b.cS),(cB b.shut)]),(.c (cI e))]) []:=by
 refine Fn.mk' 40 [(0,(aI aJ)),(1,(aI ax)),(2,(aI n)),(3,(aI time))] Try.func79 rfl rfl rfl rfl ?_
 intro W0 T0
 refine ad aa 2 rfl ?_
 refine af ?_
 refine cq 25 ((((decide (n < 1))||(decide (n > 1000000)))||(decide (time < 0)))||(decide (time > 1000000))) ?_ ?_
 ·
  refine aw ?_
  refine ab aa 3 rfl ?_
  refine bA (t:=14) rfl (fun hb1=>?_) (fun hb1=>?_)
  ·
   have hb1':=of_decide_eq_true hb1
   refine ab aa 11 rfl ?_
   refine ae ?_
   exact aD.bG 15 rfl rfl (by first|(simp [hb1];done)|(simp_all;done)|(exfalso;simp_all;done)|(simp_all;omega)) rfl
  have hb1':=of_decide_eq_false hb1
  refine ab aa 4 rfl ?_
  refine bA (t:=18) rfl (fun hb2=>?_) (fun hb2=>?_)
  ·
   have hb2':=of_decide_eq_true hb2
   refine ab aa 7 rfl ?_
   refine ae ?_
   exact aD.bG 16 rfl rfl (by first|(simp [hb1,hb2];done)|(simp_all;done)|(exfalso;simp_all;done)|(simp_all;omega)) rfl
  have hb2':=of_decide_eq_false hb2
  refine ab aa 4 rfl ?_
  refine bA (t:=22) rfl (fun hb3=>?_) (fun hb3=>?_)
  ·
   have hb3':=of_decide_eq_true hb3
   refine ab aa 3 rfl ?_
   refine ae ?_
   exact aD.bG 17 rfl rfl (by first|(simp [hb1,hb2,hb3];done)|(simp_all;done)|(exfalso;simp_all;done)|(simp_all;omega)) rfl
  have hb3':=of_decide_eq_false hb3
  refine ab aa 3 rfl ?_
  refine ae ?_
  exact aD.bG 17 rfl rfl (by first|(simp [hb1,hb2,hb3];done)|(simp_all;done)|(exfalso;simp_all;done)|(simp_all;omega)) rfl
 refine ag rfl (fun hc4=>?_) (fun hc4=>?_)
 ·
  have hc4':=hc4;try simp only [bm,bM] at hc4'
  refine ad aa 3 rfl ?_
  refine ar ?_
  refine ao ?_
  have hX:de aJ ax n time=((⟨0,0,0,0,0,0,0,false⟩:bz),3):=by
    (try (unfold bC at hr0;dsimp only at hr0;(repeat' split at hr0)))<;>((unfold de;try dsimp only);(repeat' split)<;>first|rfl|omega|(exfalso;omega)|(subst_vars;rfl)|(simp_all;done)|(simp_all;omega))
  rw [hX] at hr;clear hX
  simp only [Prod.mk.injEq] at hr;obtain ⟨rfl,rfl⟩:=hr
  refine ah aa [0] 0 rfl rfl rfl rfl rfl rfl ?_ ?_
  all_goals first|rfl|(simp [au];done)|(simp [au];omega)
 have hc4':=hc4;try simp only [bm,bM] at hc4'
 refine aP ?_
 refine az aa 4 rfl ?_
 refine ay (aM rfl rfl rfl (aH (by first|omega|(simp;done)|(simp;omega)))) rfl ?_
 refine ab aa 3 rfl ?_
 refine ae ?_
 refine af ?_
 refine az aa 1 rfl ?_
 obtain ⟨e0,hr0⟩:∃ (e0:Int),bC (⟨aJ,ax,n,0,0,0,time+100,false⟩:bz)=e0:=⟨_,rfl⟩
 refine aL 2 [1,0] (bJ 2 (oQ (⟨aJ,ax,n,0,0,0,time+100,false⟩:bz) e0 hr0) ES rfl rfl ⟨⟨_,rfl,.g ⟨.d _,.d _,.d _,.d _,.d _,.d _,.d _,.d _,trivial⟩⟩,trivial⟩ trivial trivial rfl rfl rfl rfl) rfl ?_
 refine ab aa 1 rfl ?_
 refine ae ?_
 refine ad aa 2 rfl ?_
 refine ag rfl (fun hc5=>?_) (fun hc5=>?_)
 ·
  have hc5':=of_decide_eq_true hc5
  refine ad aa 4 rfl ?_
  refine ar ?_
  refine ao ?_
  have hX:de aJ ax n time=((⟨0,0,0,0,0,0,0,false⟩:bz),e0):=by
    (try (unfold bC at hr0;dsimp only at hr0;(repeat' split at hr0)))<;>((unfold de;try dsimp only);(repeat' split)<;>first|rfl|omega|(exfalso;omega)|(subst_vars;rfl)|(simp_all;done)|(simp_all;omega))
  rw [hX] at hr;clear hX
  simp only [Prod.mk.injEq] at hr;obtain ⟨rfl,rfl⟩:=hr
  refine ah aa [0] 0 rfl rfl rfl rfl rfl rfl ?_ ?_
  all_goals first|rfl|(simp [au];done)|(simp [au];omega)
 have hc5':=of_decide_eq_false hc5
 refine aP ?_
 refine ad aa 3 rfl ?_
 refine ar ?_
 have hX:de aJ ax n time=((⟨aJ,ax,n,0,0,0,time+100,false⟩:bz),0):=by
   (try (unfold bC at hr0;dsimp only at hr0;(repeat' split at hr0)))<;>((unfold de;try dsimp only);(repeat' split)<;>first|rfl|omega|(exfalso;omega)|(subst_vars;rfl)|(simp_all;done)|(simp_all;omega))
 rw [hX] at hr;clear hX
 simp only [Prod.mk.injEq] at hr;obtain ⟨rfl,rfl⟩:=hr
 refine ah aa [0] 0 rfl rfl rfl rfl rfl rfl ?_ ?_
 all_goals first|rfl|(simp [au];done)|(simp [au];omega)

theorem wT (a:bz) (t:Int) (b:bz) (hr:ei a t=b):Fn Try.prog 104 [(.g [(cI a.aJ),(cI a.ax),(cI a.sum),(cI a.captured),(cI a.br),(cI a.bd),(cI a.cS),(cB a.shut)]),(.c (cI t))] (.v (.g [(cI b.aJ),(cI b.ax),(cI b.sum),(cI b.captured),(cI b.br),(cI b.bd),(cI b.cS),(cB b.shut)])) []:=by
 refine Fn.mk' 11 [(0,(aG [(cI a.aJ),(cI a.ax),(cI a.sum),(cI a.captured),(cI a.br),(cI a.bd),(cI a.cS),(cB a.shut)])),(1,(aI t))] Try.func104 rfl rfl rfl rfl ?_
 intro W0 T0
 refine ad aa 2 rfl ?_
 refine af ?_
 refine ad aa 4 rfl ?_
 refine ag rfl (fun hc1=>?_) (fun hc1=>?_)
 ·
  have hc1':=of_decide_eq_true hc1
  refine aw ?_
  refine ab aa 2 rfl ?_
  refine ae ?_
  refine ad aa 2 rfl ?_
  refine ar ?_
  have hX:ei a t=(⟨a.aJ,a.ax,a.sum,a.captured,a.br,a.bd,a.cS,true⟩:bz):=by
    refine wa rfl rfl rfl rfl rfl rfl rfl ?_;by_cases hT:a.cS<=t<;>first|(exfalso;omega)|simp [ei,hT]
  rw [hX] at hr;clear hX
  subst hr
  refine ah aa [1] 0 rfl rfl rfl rfl rfl rfl ?_ ?_
  all_goals first|rfl|(simp [au];done)|(simp [au];omega)
 have hc1':=of_decide_eq_false hc1
 refine aP ?_
 refine ad aa 2 rfl ?_
 refine ar ?_
 have hX:ei a t=a:=by
   refine wa rfl rfl rfl rfl rfl rfl rfl ?_;by_cases hT:a.cS<=t<;>first|(exfalso;omega)|simp [ei,hT]
 rw [hX] at hr;clear hX
 subst hr
 refine ah aa [1] 0 rfl rfl rfl rfl rfl rfl ?_ ?_
 all_goals first|rfl|(simp [au];done)|(simp [au];omega)
theorem km (a:bz) (ha:bC a=0) (e:Int) (hr:bu a=e):Fn Try.prog 27 [(.g [(cI a.aJ),(cI a.ax),(cI a.sum),(cI a.captured),(cI a.br),(cI a.bd),(cI a.cS),(cB a.shut)])] (.v (.c (cI e))) []:=by
 refine Fn.mk' 10 [(0,(aG [(cI a.aJ),(cI a.ax),(cI a.sum),(cI a.captured),(cI a.br),(cI a.bd),(cI a.cS),(cB a.shut)]))] Try.func27 rfl rfl rfl rfl ?_
 intro W0 T0
 have hw:=eN ha
 refine ad aa 2 rfl ?_
 refine af ?_
 refine ad aa 2 rfl ?_
 refine ag rfl (fun hc1=>?_) (fun hc1=>?_)
 ·
  have hc1':=hc1;try simp only [bm,bM] at hc1'
  refine ad aa 1 rfl ?_
  refine ar ?_
  refine ao ?_
  have hX:bu a=0:=by
    (unfold bu;try dsimp only);(repeat' split)<;>first|rfl|omega|(exfalso;omega)|(subst_vars;rfl)|(simp_all;done)|(simp_all;omega)
  rw [hX] at hr;clear hX
  subst hr
  refine ah aa [] 0 rfl rfl rfl rfl rfl rfl ?_ ?_
  all_goals first|rfl|(simp [au];done)|(simp [au];omega)
 have hc1':=hc1;try simp only [bm,bM] at hc1'
 refine aP ?_
 refine az aa 4 rfl ?_
 refine ay (aM rfl rfl rfl (aH (by first|omega|(simp;done)|(simp;omega)))) rfl ?_
 refine ab aa 1 rfl ?_
 refine ae ?_
 refine ar ?_
 have hX:bu a=(a.sum - a.captured):=by
   (unfold bu;try dsimp only);(repeat' split)<;>first|rfl|omega|(exfalso;omega)|(subst_vars;rfl)|(simp_all;done)|(simp_all;omega)
 rw [hX] at hr;clear hX
 subst hr
 refine ah aa [] 0 rfl rfl rfl rfl rfl rfl ?_ ?_
 all_goals first|rfl|(simp [au];done)|(simp [au];omega)
theorem pO (a:bz) (h:bC a=0):cA Try.prog 101 [(.c (.p 0 0 0 0))] [(0,(.box 67 [(cI a.aJ),(cI a.ax),(cI a.sum),(cI a.captured),(cI a.br),(cI a.bd),(cI a.cS),(cB a.shut)]))] [0] (aI (a.captured - a.br - a.bd)) [(0,(.box 67 [(cI a.aJ),(cI a.ax),(cI a.sum),(cI a.captured),(cI a.br),(cI a.bd),(cI a.cS),(cB a.shut)]))]:=by
 refine cA.mk 17 [(0,(aC (.p 0 0 0 0)))] 1 Try.func101 rfl rfl rfl rfl rfl rfl rfl rfl rfl ?_
 intro W0 F0 T0 pg
 have hw:=eN h
 refine ad aa 1 rfl ?_
 refine af ?_
 refine bb [0] [0] mixed rfl rfl ?_
 refine aA (kn:=[]) aa 8 rfl trivial ?_
 refine aT (n':=1) [6,10] [] rfl rfl (.inl ⟨(ak.plain rfl),aK.cast (aM rfl rfl rfl (aH (by first|omega|(simp;done)|(simp;omega)))) rfl⟩) rfl ?_
 refine aA (kn:=[]) aa 4 rfl trivial ?_
 refine aT (n':=1) [11,15] [] rfl rfl (.inl ⟨(ak.plain rfl),aK.cast (aM rfl rfl rfl (aH (by first|omega|(simp;done)|(simp;omega)))) rfl⟩) rfl ?_
 refine aA (kn:=[]) aa 1 rfl trivial ?_
 refine bB [0] rfl rfl rfl rfl (by kernel_rfl) ?_
 refine ae ?_
 refine ar ?_
 refine ah aa [0] 1 rfl rfl rfl rfl rfl rfl ?_ ?_
 all_goals first|rfl|(simp [au];done)|(simp [au];omega)
theorem wR (a:bz) (kind n:Int) (h:bC a=0) (h1:1<=n) (h2:n<=1000000) (b:bz) (e:Int) (hr:dm a kind n=(b,e)):cA Try.prog 102 [(.c (.p 0 0 0 0)),(.c (cI kind)),(.c (cI n))] [(0,(.box 67 [(cI a.aJ),(cI a.ax),(cI a.sum),(cI a.captured),(cI a.br),(cI a.bd),(cI a.cS),(cB a.shut)]))] [0] (.v (.c (cI e))) [(0,(.box 67 [(cI b.aJ),(cI b.ax),(cI b.sum),(cI b.captured),(cI b.br),(cI b.bd),(cI b.cS),(cB b.shut)]))]:=by
 refine cA.mk 91 [(0,(aC (.p 0 0 0 0))),(1,(aI kind)),(2,(aI n))] 1 Try.func102 rfl rfl rfl rfl rfl rfl rfl rfl rfl ?_
 intro W0 F0 T0 pg
 have hw:=eN h
 refine ad aa 1 rfl ?_
 refine af ?_
 refine bb [0,1,2] [0] mixed rfl rfl ?_
 refine aA (kn:=[]) aa 8 rfl trivial ?_
 refine aT (n':=1) [11,15] [] rfl rfl (.inl ⟨(ak.plain rfl),aK.cast (aM rfl rfl rfl (aH (by first|omega|(simp;done)|(simp;omega)))) rfl⟩) rfl ?_
 refine aA (kn:=[]) aa 1 rfl trivial ?_
 refine bB [0] rfl rfl rfl rfl (by kernel_rfl) ?_
 refine ae ?_
 refine af ?_
 refine aV ?_
 refine ad aa 5 rfl ?_
 refine ag rfl (fun hc1=>?_) (fun hc1=>?_)
 ·
  have hc1':=hc1;try simp only [bm,bM] at hc1'
  refine ad aa 1 rfl ?_
  refine ar ?_
  refine bg ?_
  refine ao ?_
  have hX:dm a kind n=(a,9):=by
    (unfold dm;try dsimp only);(repeat' split)<;>first|rfl|omega|(exfalso;omega)|(subst_vars;rfl)|(simp_all;done)|(simp_all;omega)
  rw [hX] at hr;clear hX
  simp only [Prod.mk.injEq] at hr;obtain ⟨rfl,rfl⟩:=hr
  refine ah aa [0] 1 rfl rfl rfl rfl rfl rfl ?_ ?_
  all_goals first|rfl|(simp [au];done)|(simp [au];omega)
 have hc1':=hc1;try simp only [bm,bM] at hc1'
 refine ad aa 3 rfl ?_
 refine ag rfl (fun hc2=>?_) (fun hc2=>?_)
 ·
  have hc2':=of_decide_eq_true hc2
  refine af ?_
  refine az aa 5 rfl ?_
  refine ay (aM rfl rfl rfl (aH (by first|omega|(simp;done)|(simp;omega)))) rfl ?_
  refine ab aa 1 rfl ?_
  refine ae ?_
  refine ag rfl (fun hc3=>?_) (fun hc3=>?_)
  ·
   have hc3':=of_decide_eq_true hc3
   refine ad aa 1 rfl ?_
   refine ar ?_
   refine ao ?_
   refine bg ?_
   refine ao ?_
   have hX:dm a kind n=(a,4):=by
     (unfold dm;try dsimp only);(repeat' split)<;>first|rfl|omega|(exfalso;omega)|(subst_vars;rfl)|(simp_all;done)|(simp_all;omega)
   rw [hX] at hr;clear hX
   simp only [Prod.mk.injEq] at hr;obtain ⟨rfl,rfl⟩:=hr
   refine ah aa [0] 1 rfl rfl rfl rfl rfl rfl ?_ ?_
   all_goals first|rfl|(simp [au];done)|(simp [au];omega)
  have hc3':=of_decide_eq_false hc3
  refine aP ?_
  refine az aa 5 rfl ?_
  refine ay (aM rfl rfl rfl (aH (by first|omega|(simp;done)|(simp;omega)))) rfl ?_
  refine ab aa 3 rfl ?_
  refine ae ?_
  refine ad aa 1 rfl ?_
  refine ar ?_
  refine bg ?_
  refine ao ?_
  have hX:dm a kind n=((⟨a.aJ,a.ax,a.sum+n,a.captured,a.br,a.bd,a.cS,a.shut⟩:bz),0):=by
    (unfold dm;try dsimp only);(repeat' split)<;>first|rfl|omega|(exfalso;omega)|(subst_vars;rfl)|(simp_all;done)|(simp_all;omega)
  rw [hX] at hr;clear hX
  simp only [Prod.mk.injEq] at hr;obtain ⟨rfl,rfl⟩:=hr
  refine ah aa [0] 1 rfl rfl rfl rfl rfl rfl ?_ ?_
  all_goals first|rfl|(simp [au];done)|(simp [au];omega)
 have hc2':=of_decide_eq_false hc2
 refine ad aa 4 rfl ?_
 refine ag rfl (fun hc4=>?_) (fun hc4=>?_)
 ·
  have hc4':=of_decide_eq_true hc4
  refine ad aa 1 rfl ?_
  refine ar ?_
  refine bg ?_
  refine ao ?_
  have hX:dm a kind n=(a,10):=by
    (unfold dm;try dsimp only);(repeat' split)<;>first|rfl|omega|(exfalso;omega)|(subst_vars;rfl)|(simp_all;done)|(simp_all;omega)
  rw [hX] at hr;clear hX
  simp only [Prod.mk.injEq] at hr;obtain ⟨rfl,rfl⟩:=hr
  refine ah aa [0] 1 rfl rfl rfl rfl rfl rfl ?_ ?_
  all_goals first|rfl|(simp [au];done)|(simp [au];omega)
 have hc4':=of_decide_eq_false hc4
 refine ad aa 3 rfl ?_
 refine ag rfl (fun hc5=>?_) (fun hc5=>?_)
 ·
  have hc5':=of_decide_eq_true hc5
  refine az aa 5 rfl ?_
  refine ay (aM rfl rfl rfl (aH (by first|omega|(simp;done)|(simp;omega)))) rfl ?_
  refine ab aa 3 rfl ?_
  refine ae ?_
  refine af ?_
  refine bb [0,1,2] [0] mixed rfl rfl ?_
  refine aA (kn:=[]) aa 12 rfl trivial ?_
  refine bB [0] rfl rfl rfl rfl (by kernel_rfl) ?_
  refine ab aa 1 rfl ?_
  refine ae ?_
  refine ad aa 1 rfl ?_
  refine ar ?_
  refine bg ?_
  refine ao ?_
  have hX:dm a kind n=((⟨a.aJ,a.ax,a.sum - n,a.captured,a.br,a.bd,a.cS,decide ((a.sum - n)=a.captured)⟩:bz),0):=by
    (unfold dm;try dsimp only);(repeat' split)<;>first|rfl|omega|(exfalso;omega)|(subst_vars;rfl)|(simp_all;done)|(simp_all;omega)
  rw [hX] at hr;clear hX
  simp only [Prod.mk.injEq] at hr;obtain ⟨rfl,rfl⟩:=hr
  refine ah aa [0] 1 rfl rfl rfl rfl rfl rfl ?_ ?_
  all_goals first|rfl|(simp [au];done)|(simp [au];omega)
 have hc5':=of_decide_eq_false hc5
 refine cU ?_
 refine bp ?_
 refine then_ok ?_
 refine az aa 5 rfl ?_
 refine ay (aM rfl rfl rfl (aH (by first|omega|(simp;done)|(simp;omega)))) rfl ?_
 refine ab aa 3 rfl ?_
 refine ae ?_
 refine af ?_
 rcases Bool.eq_false_or_eq_true (decide (kind=3)) with hb6|hb6
 ·
  have hb6':=of_decide_eq_true hb6
  refine bb [0,1] [0] mixed rfl rfl ?_
  refine aA (kn:=[(77,true)]) aa 16 rfl ⟨hb6,trivial⟩ ?_
  refine bB [0] rfl rfl rfl rfl (by kernel_rfl) ?_
  refine ab aa 1 rfl ?_
  refine ae ?_
  refine ad aa 1 rfl ?_
  refine ar ?_
  have hX:dm a kind n=((⟨a.aJ,a.ax,a.sum,a.captured+n,a.br,a.bd,a.cS,true⟩:bz),0):=by
    (unfold dm;try dsimp only);(repeat' split)<;>first|rfl|omega|(exfalso;omega)|(subst_vars;rfl)|(simp_all;done)|(simp_all;omega)
  rw [hX] at hr;clear hX
  simp only [Prod.mk.injEq] at hr;obtain ⟨rfl,rfl⟩:=hr
  refine ah aa [0] 1 rfl rfl rfl rfl rfl rfl ?_ ?_
  all_goals first|rfl|(simp [au];done)|(simp [au];omega)
 have hb6':=of_decide_eq_false hb6
 refine bb [0,1] [0] mixed rfl rfl ?_
 refine aA (kn:=[(77,false)]) aa 16 rfl ⟨hb6,trivial⟩ ?_
 refine bB [0] rfl rfl rfl rfl (by kernel_rfl) ?_
 refine ab aa 1 rfl ?_
 refine ae ?_
 refine ad aa 1 rfl ?_
 refine ar ?_
 have hX:dm a kind n=((⟨a.aJ,a.ax,a.sum,a.captured+n,a.br,a.bd,a.cS,decide ((a.captured+n)=a.sum)⟩:bz),0):=by
   (unfold dm;try dsimp only);(repeat' split)<;>first|rfl|omega|(exfalso;omega)|(subst_vars;rfl)|(simp_all;done)|(simp_all;omega)
 rw [hX] at hr;clear hX
 simp only [Prod.mk.injEq] at hr;obtain ⟨rfl,rfl⟩:=hr
 refine ah aa [0] 1 rfl rfl rfl rfl rfl rfl ?_ ?_
 all_goals first|rfl|(simp [au];done)|(simp [au];omega)
theorem wS (a:bz) (kind n:Int) (b:bz) (e:Int) (hr:bN a kind n=(b,e)):Fn Try.prog 81 [(.g [(cI a.aJ),(cI a.ax),(cI a.sum),(cI a.captured),(cI a.br),(cI a.bd),(cI a.cS),(cB a.shut)]),(.c (cI kind)),(.c (cI n))] (.t [(.g [(cI b.aJ),(cI b.ax),(cI b.sum),(cI b.captured),(cI b.br),(cI b.bd),(cI b.cS),(cB b.shut)]),(.c (cI e))]) []:=by
 refine Fn.mk' 76 [(0,(aG [(cI a.aJ),(cI a.ax),(cI a.sum),(cI a.captured),(cI a.br),(cI a.bd),(cI a.cS),(cB a.shut)])),(1,(aI kind)),(2,(aI n))] Try.func81 rfl rfl rfl rfl ?_
 intro W0 T0
 have hw:=@eN a
 refine ad aa 3 rfl ?_
 refine af ?_
 refine az aa 1 rfl ?_
 obtain ⟨e0,hr0⟩:∃ (e0:Int),bC a=e0:=⟨_,rfl⟩
 refine aL 2 [1,0] (bJ 2 (oQ a e0 hr0) ES rfl rfl ⟨⟨_,rfl,.g ⟨.d _,.d _,.d _,.d _,.d _,.d _,.d _,.d _,trivial⟩⟩,trivial⟩ trivial trivial rfl rfl rfl rfl) rfl ?_
 refine ab aa 1 rfl ?_
 refine ae ?_
 refine ad aa 2 rfl ?_
 refine ag rfl (fun hc1=>?_) (fun hc1=>?_)
 ·
  have hc1':=of_decide_eq_true hc1
  refine ad aa 4 rfl ?_
  refine ar ?_
  refine ao ?_
  have hX:bN a kind n=((⟨0,0,0,0,0,0,0,false⟩:bz),e0):=by
    (unfold bN;try dsimp only);(try simp only [hr0]);(repeat' split)<;>first|rfl|omega|(exfalso;omega)|(subst_vars;rfl)|(simp_all;done)|(simp_all;omega)
  rw [hX] at hr;clear hX
  simp only [Prod.mk.injEq] at hr;obtain ⟨rfl,rfl⟩:=hr
  refine ah aa [1] 0 rfl rfl rfl rfl rfl rfl ?_ ?_
  all_goals first|rfl|(simp [au];done)|(simp [au];omega)
 have hc1':=of_decide_eq_false hc1
 refine aP ?_
 refine af ?_
 refine cq 21 ((decide (kind < 1))||(decide (kind > 8))) ?_ ?_
 ·
  refine aw ?_
  refine ab aa 3 rfl ?_
  refine bA (t:=18) rfl (fun hb2=>?_) (fun hb2=>?_)
  ·
   have hb2':=of_decide_eq_true hb2
   refine ab aa 3 rfl ?_
   refine ae ?_
   exact aD.bG 7 rfl rfl (by first|(simp [hb2];done)|(simp_all;done)|(exfalso;simp_all;done)|(simp_all;omega)) rfl
  have hb2':=of_decide_eq_false hb2
  refine ab aa 3 rfl ?_
  refine ae ?_
  exact aD.bG 7 rfl rfl (by first|(simp [hb2];done)|(simp_all;done)|(exfalso;simp_all;done)|(simp_all;omega)) rfl
 refine ag rfl (fun hc3=>?_) (fun hc3=>?_)
 ·
  have hc3':=hc3;try simp only [bm,bM] at hc3'
  refine ad aa 3 rfl ?_
  refine ar ?_
  refine ao ?_
  have hX:bN a kind n=((⟨0,0,0,0,0,0,0,false⟩:bz),1):=by
    (unfold bN;try dsimp only);(try simp only [hr0]);(repeat' split)<;>first|rfl|omega|(exfalso;omega)|(subst_vars;rfl)|(simp_all;done)|(simp_all;omega)
  rw [hX] at hr;clear hX
  simp only [Prod.mk.injEq] at hr;obtain ⟨rfl,rfl⟩:=hr
  refine ah aa [1] 0 rfl rfl rfl rfl rfl rfl ?_ ?_
  all_goals first|rfl|(simp [au];done)|(simp [au];omega)
 have hc3':=hc3;try simp only [bm,bM] at hc3'
 refine aP ?_
 refine af ?_
 refine cq 28 ((decide (n < 1))||(decide (n > 1000000))) ?_ ?_
 ·
  refine aw ?_
  refine ab aa 3 rfl ?_
  refine bA (t:=25) rfl (fun hb4=>?_) (fun hb4=>?_)
  ·
   have hb4':=of_decide_eq_true hb4
   refine ab aa 3 rfl ?_
   refine ae ?_
   exact aD.bG 7 rfl rfl (by first|(simp [hb4];done)|(simp_all;done)|(exfalso;simp_all;done)|(simp_all;omega)) rfl
  have hb4':=of_decide_eq_false hb4
  refine ab aa 3 rfl ?_
  refine ae ?_
  exact aD.bG 7 rfl rfl (by first|(simp [hb4];done)|(simp_all;done)|(exfalso;simp_all;done)|(simp_all;omega)) rfl
 refine ag rfl (fun hc5=>?_) (fun hc5=>?_)
 ·
  have hc5':=hc5;try simp only [bm,bM] at hc5'
  refine ad aa 3 rfl ?_
  refine ar ?_
  refine ao ?_
  have hX:bN a kind n=((⟨0,0,0,0,0,0,0,false⟩:bz),3):=by
    (unfold bN;try dsimp only);(try simp only [hr0]);(repeat' split)<;>first|rfl|omega|(exfalso;omega)|(subst_vars;rfl)|(simp_all;done)|(simp_all;omega)
  rw [hX] at hr;clear hX
  simp only [Prod.mk.injEq] at hr;obtain ⟨rfl,rfl⟩:=hr
  refine ah aa [1] 0 rfl rfl rfl rfl rfl rfl ?_ ?_
  all_goals first|rfl|(simp [au];done)|(simp [au];omega)
 have hc5':=hc5;try simp only [bm,bM] at hc5'
 refine aP ?_
 refine ad aa 1 rfl ?_
 refine af ?_
 refine ad aa 1 rfl ?_
 refine aV ?_
 refine af ?_
 refine ad aa 2 rfl ?_
 refine ag rfl (fun hc6=>?_) (fun hc6=>?_)
 ·
  have hc6':=of_decide_eq_true hc6
  refine aP ?_
  refine ag rfl (fun _=>?_) (fun hno=>absurd (hc6.symm.trans hno) (by decide))
  refine az aa 1 rfl ?_
  refine aL 2 [0,1] (cv id id (pO a (by first|assumption|omega)) CS rfl rfl ⟨⟨_,rfl,.inl ⟨rfl,rfl⟩⟩,trivial⟩ ⟨rfl,trivial⟩ rfl rfl rfl rfl rfl rfl trivial ⟨⟨trivial,trivial,trivial,trivial,trivial,trivial,trivial,trivial,trivial⟩,trivial⟩ rfl rfl rfl rfl) rfl ?_
  refine ab aa 1 rfl ?_
  refine ae ?_
  refine ag rfl (fun hc8=>?_) (fun hc8=>?_)
  ·
   have hc8':=of_decide_eq_true hc8
   refine aw ?_
   refine ab aa 1 rfl ?_
   refine bZ ?_
   refine bp ?_
   refine then_ok ?_
   refine af ?_
   refine az aa 1 rfl ?_
   refine ay (aM rfl rfl rfl (show _=some (Value.bool true) from rfl)) rfl ?_
   refine ae ?_
   refine ag rfl (fun _=>?_) (fun hno=>by cases hno)
   refine ad aa 4 rfl ?_
   refine ar ?_
   refine ao ?_
   have hX:bN a kind n=((⟨0,0,0,0,0,0,0,false⟩:bz),10):=by
     (unfold bN;try dsimp only);(try simp only [hr0]);(repeat' split)<;>first|rfl|omega|(exfalso;omega)|(subst_vars;rfl)|(simp_all;done)|(simp_all;omega)
   rw [hX] at hr;clear hX
   simp only [Prod.mk.injEq] at hr;obtain ⟨rfl,rfl⟩:=hr
   refine ah aa [1] 0 rfl rfl rfl rfl rfl rfl ?_ ?_
   all_goals first|rfl|(simp [au];done)|(simp [au];omega)
  have hc8':=of_decide_eq_false hc8
  refine ad aa 2 rfl ?_
  refine ag rfl (fun _=>?_) (fun hno=>absurd (hc6.symm.trans hno) (by decide))
  refine aw ?_
  refine ab aa 3 rfl ?_
  refine ay (aM rfl rfl rfl (aH (by first|omega|(simp;done)|(simp;omega)))) rfl ?_
  refine ab aa 2 rfl ?_
  refine bZ ?_
  refine bp ?_
  refine then_ok ?_
  refine af ?_
  refine az aa 1 rfl ?_
  refine ay (aM rfl rfl rfl (show _=some (Value.bool false) from rfl)) rfl ?_
  refine ae ?_
  refine ag rfl (fun hno=>by cases hno) (fun _=>?_)
  refine aP ?_
  refine ad aa 3 rfl ?_
  refine ar ?_
  have hX:bN a kind n=((⟨a.aJ,a.ax,a.sum,a.captured,a.br+n,a.bd,a.cS,a.shut⟩:bz),0):=by
    (unfold bN;try dsimp only);(try simp only [hr0]);(repeat' split)<;>first|rfl|omega|(exfalso;omega)|(subst_vars;rfl)|(simp_all;done)|(simp_all;omega)
  rw [hX] at hr;clear hX
  simp only [Prod.mk.injEq] at hr;obtain ⟨rfl,rfl⟩:=hr
  refine ah aa [1] 0 rfl rfl rfl rfl rfl rfl ?_ ?_
  all_goals first|rfl|(simp [au];done)|(simp [au];omega)
 have hc6':=of_decide_eq_false hc6
 refine aw ?_
 refine ab aa 2 rfl ?_
 refine ae ?_
 refine ag rfl (fun hc12=>?_) (fun hc12=>?_)
 ·
  have hc12':=of_decide_eq_true hc12
  refine az aa 1 rfl ?_
  refine aL 2 [0,1] (cv id id (pO a (by first|assumption|omega)) CS rfl rfl ⟨⟨_,rfl,.inl ⟨rfl,rfl⟩⟩,trivial⟩ ⟨rfl,trivial⟩ rfl rfl rfl rfl rfl rfl trivial ⟨⟨trivial,trivial,trivial,trivial,trivial,trivial,trivial,trivial,trivial⟩,trivial⟩ rfl rfl rfl rfl) rfl ?_
  refine ab aa 1 rfl ?_
  refine ae ?_
  refine ag rfl (fun hc13=>?_) (fun hc13=>?_)
  ·
   have hc13':=of_decide_eq_true hc13
   refine aw ?_
   refine ab aa 1 rfl ?_
   refine bZ ?_
   refine bp ?_
   refine then_ok ?_
   refine af ?_
   refine az aa 1 rfl ?_
   refine ay (aM rfl rfl rfl (show _=some (Value.bool true) from rfl)) rfl ?_
   refine ae ?_
   refine ag rfl (fun _=>?_) (fun hno=>by cases hno)
   refine ad aa 4 rfl ?_
   refine ar ?_
   refine ao ?_
   have hX:bN a kind n=((⟨0,0,0,0,0,0,0,false⟩:bz),10):=by
     (unfold bN;try dsimp only);(try simp only [hr0]);(repeat' split)<;>first|rfl|omega|(exfalso;omega)|(subst_vars;rfl)|(simp_all;done)|(simp_all;omega)
   rw [hX] at hr;clear hX
   simp only [Prod.mk.injEq] at hr;obtain ⟨rfl,rfl⟩:=hr
   refine ah aa [1] 0 rfl rfl rfl rfl rfl rfl ?_ ?_
   all_goals first|rfl|(simp [au];done)|(simp [au];omega)
  have hc13':=of_decide_eq_false hc13
  refine ad aa 2 rfl ?_
  refine ag rfl (fun hno=>absurd (hc6.symm.trans hno) (by decide)) (fun _=>?_)
  refine aw ?_
  refine ab aa 3 rfl ?_
  refine ay (aM rfl rfl rfl (aH (by first|omega|(simp;done)|(simp;omega)))) rfl ?_
  refine ab aa 2 rfl ?_
  refine bZ ?_
  refine bp ?_
  refine then_ok ?_
  refine af ?_
  refine az aa 1 rfl ?_
  refine ay (aM rfl rfl rfl (show _=some (Value.bool false) from rfl)) rfl ?_
  refine ae ?_
  refine ag rfl (fun hno=>by cases hno) (fun _=>?_)
  refine aP ?_
  refine ad aa 3 rfl ?_
  refine ar ?_
  have hX:bN a kind n=((⟨a.aJ,a.ax,a.sum,a.captured,a.br,a.bd+n,a.cS,a.shut⟩:bz),0):=by
    (unfold bN;try dsimp only);(try simp only [hr0]);(repeat' split)<;>first|rfl|omega|(exfalso;omega)|(subst_vars;rfl)|(simp_all;done)|(simp_all;omega)
  rw [hX] at hr;clear hX
  simp only [Prod.mk.injEq] at hr;obtain ⟨rfl,rfl⟩:=hr
  refine ah aa [1] 0 rfl rfl rfl rfl rfl rfl ?_ ?_
  all_goals first|rfl|(simp [au];done)|(simp [au];omega)
 have hc12':=of_decide_eq_false hc12
 refine af ?_
 refine ad aa 2 rfl ?_
 refine ag rfl (fun hc17=>?_) (fun hc17=>?_)
 ·
  have hc17':=of_decide_eq_true hc17
  refine aP ?_
  refine ag rfl (fun _=>?_) (fun hno=>absurd (hc17.symm.trans hno) (by decide))
  refine af ?_
  refine ad aa 4 rfl ?_
  refine ag rfl (fun hc19=>?_) (fun hc19=>?_)
  ·
   have hc19':=of_decide_eq_true hc19
   refine ad aa 1 rfl ?_
   refine cp ?_
   refine aR ?_
   refine bQ ?_
   refine then_ok ?_
   refine af ?_
   refine az aa 1 rfl ?_
   refine ay (aM rfl rfl rfl (show _=some (Value.bool true) from rfl)) rfl ?_
   refine ae ?_
   refine ag rfl (fun _=>?_) (fun hno=>by cases hno)
   refine ad aa 4 rfl ?_
   refine ar ?_
   refine ao ?_
   have hX:bN a kind n=((⟨0,0,0,0,0,0,0,false⟩:bz),10):=by
     (unfold bN;try dsimp only);(try simp only [hr0]);(repeat' split)<;>first|rfl|omega|(exfalso;omega)|(subst_vars;rfl)|(simp_all;done)|(simp_all;omega)
   rw [hX] at hr;clear hX
   simp only [Prod.mk.injEq] at hr;obtain ⟨rfl,rfl⟩:=hr
   refine ah aa [1] 0 rfl rfl rfl rfl rfl rfl ?_ ?_
   all_goals first|rfl|(simp [au];done)|(simp [au];omega)
  have hc19':=of_decide_eq_false hc19
  refine aP ?_
  refine az aa 3 rfl ?_
  refine ay (aM rfl rfl rfl (aH (by first|omega|(simp;done)|(simp;omega)))) rfl ?_
  refine ab aa 2 rfl ?_
  refine ae ?_
  refine ad aa 2 rfl ?_
  refine ag rfl (fun _=>?_) (fun hno=>absurd (hc17.symm.trans hno) (by decide))
  refine aw ?_
  refine ab aa 3 rfl ?_
  refine ay (aM rfl rfl rfl (aH (by first|omega|(simp;done)|(simp;omega)))) rfl ?_
  refine ab aa 2 rfl ?_
  refine bZ ?_
  refine bp ?_
  refine then_ok ?_
  refine af ?_
  refine az aa 1 rfl ?_
  refine ay (aM rfl rfl rfl (show _=some (Value.bool false) from rfl)) rfl ?_
  refine ae ?_
  refine ag rfl (fun hno=>by cases hno) (fun _=>?_)
  refine aP ?_
  refine ad aa 3 rfl ?_
  refine ar ?_
  have hX:bN a kind n=((⟨a.aJ,a.ax,a.sum,a.captured,a.br+n,a.bd - n,a.cS,a.shut⟩:bz),0):=by
    (unfold bN;try dsimp only);(try simp only [hr0]);(repeat' split)<;>first|rfl|omega|(exfalso;omega)|(subst_vars;rfl)|(simp_all;done)|(simp_all;omega)
  rw [hX] at hr;clear hX
  simp only [Prod.mk.injEq] at hr;obtain ⟨rfl,rfl⟩:=hr
  refine ah aa [1] 0 rfl rfl rfl rfl rfl rfl ?_ ?_
  all_goals first|rfl|(simp [au];done)|(simp [au];omega)
 have hc17':=of_decide_eq_false hc17
 refine aw ?_
 refine ab aa 2 rfl ?_
 refine ae ?_
 refine ag rfl (fun hc23=>?_) (fun hc23=>?_)
 ·
  have hc23':=of_decide_eq_true hc23
  refine af ?_
  refine ad aa 4 rfl ?_
  refine ag rfl (fun hc24=>?_) (fun hc24=>?_)
  ·
   have hc24':=of_decide_eq_true hc24
   refine ad aa 1 rfl ?_
   refine cp ?_
   refine aR ?_
   refine bQ ?_
   refine then_ok ?_
   refine af ?_
   refine az aa 1 rfl ?_
   refine ay (aM rfl rfl rfl (show _=some (Value.bool true) from rfl)) rfl ?_
   refine ae ?_
   refine ag rfl (fun _=>?_) (fun hno=>by cases hno)
   refine ad aa 4 rfl ?_
   refine ar ?_
   refine ao ?_
   have hX:bN a kind n=((⟨0,0,0,0,0,0,0,false⟩:bz),10):=by
     (unfold bN;try dsimp only);(try simp only [hr0]);(repeat' split)<;>first|rfl|omega|(exfalso;omega)|(subst_vars;rfl)|(simp_all;done)|(simp_all;omega)
   rw [hX] at hr;clear hX
   simp only [Prod.mk.injEq] at hr;obtain ⟨rfl,rfl⟩:=hr
   refine ah aa [1] 0 rfl rfl rfl rfl rfl rfl ?_ ?_
   all_goals first|rfl|(simp [au];done)|(simp [au];omega)
  have hc24':=of_decide_eq_false hc24
  refine aP ?_
  refine az aa 3 rfl ?_
  refine ay (aM rfl rfl rfl (aH (by first|omega|(simp;done)|(simp;omega)))) rfl ?_
  refine ab aa 2 rfl ?_
  refine ae ?_
  refine ad aa 2 rfl ?_
  refine ag rfl (fun hno=>absurd (hc17.symm.trans hno) (by decide)) (fun _=>?_)
  refine cU ?_
  refine bp ?_
  refine then_ok ?_
  refine af ?_
  refine az aa 1 rfl ?_
  refine ay (aM rfl rfl rfl (show _=some (Value.bool false) from rfl)) rfl ?_
  refine ae ?_
  refine ag rfl (fun hno=>by cases hno) (fun _=>?_)
  refine aP ?_
  refine ad aa 3 rfl ?_
  refine ar ?_
  have hX:bN a kind n=((⟨a.aJ,a.ax,a.sum,a.captured,a.br,a.bd - n,a.cS,a.shut⟩:bz),0):=by
    (unfold bN;try dsimp only);(try simp only [hr0]);(repeat' split)<;>first|rfl|omega|(exfalso;omega)|(subst_vars;rfl)|(simp_all;done)|(simp_all;omega)
  rw [hX] at hr;clear hX
  simp only [Prod.mk.injEq] at hr;obtain ⟨rfl,rfl⟩:=hr
  refine ah aa [1] 0 rfl rfl rfl rfl rfl rfl ?_ ?_
  all_goals first|rfl|(simp [au];done)|(simp [au];omega)
 have hc23':=of_decide_eq_false hc23
 refine aw ?_
 refine ab aa 2 rfl ?_
 obtain ⟨b1,e1,hr1⟩:∃ (b1:bz) (e1:Int),dm a kind n=(b1,e1):=⟨_,_,rfl⟩
 refine aL 2 [0,1] (cv id id (wR a kind n (by first|assumption|omega) (by omega) (by omega) b1 e1 hr1) FX rfl rfl ⟨⟨_,rfl,.inl ⟨rfl,rfl⟩⟩,⟨_,rfl,.inr (.c (.d _))⟩,⟨_,rfl,.inr (.c (.d _))⟩,trivial⟩ ⟨rfl,trivial⟩ rfl rfl rfl rfl rfl rfl trivial ⟨⟨trivial,trivial,trivial,trivial,trivial,trivial,trivial,trivial,trivial⟩,trivial⟩ rfl rfl rfl rfl) rfl ?_
 refine ab aa 1 rfl ?_
 refine bZ ?_
 refine bp ?_
 refine then_ok ?_
 refine af ?_
 refine ad aa 2 rfl ?_
 refine ag rfl (fun hc28=>?_) (fun hc28=>?_)
 ·
  have hc28':=of_decide_eq_true hc28
  refine ad aa 4 rfl ?_
  refine ar ?_
  refine ao ?_
  have hX:bN a kind n=((⟨0,0,0,0,0,0,0,false⟩:bz),e1):=by
    (unfold bN;try dsimp only);(try simp only [hr0]);(try simp only [hr1]);(repeat' split)<;>first|rfl|omega|(exfalso;omega)|(subst_vars;rfl)|(simp_all;done)|(simp_all;omega)
  rw [hX] at hr;clear hX
  simp only [Prod.mk.injEq] at hr;obtain ⟨rfl,rfl⟩:=hr
  refine ah aa [1] 0 rfl rfl rfl rfl rfl rfl ?_ ?_
  all_goals first|rfl|(simp [au];done)|(simp [au];omega)
 have hc28':=of_decide_eq_false hc28
 refine aP ?_
 refine ad aa 3 rfl ?_
 refine ar ?_
 have hX:bN a kind n=(b1,0):=by
   (unfold bN;try dsimp only);(try simp only [hr0]);(try simp only [hr1]);(repeat' split)<;>first|rfl|omega|(exfalso;omega)|(subst_vars;rfl)|(simp_all;done)|(simp_all;omega)
 rw [hX] at hr;clear hX
 simp only [Prod.mk.injEq] at hr;obtain ⟨rfl,rfl⟩:=hr
 refine ah aa [1] 0 rfl rfl rfl rfl rfl rfl ?_ ?_
 all_goals first|rfl|(simp [au];done)|(simp [au];omega)
end Go.Proofs.Ytegepioggeggaaa.Dev
