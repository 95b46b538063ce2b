/- A part of the proof: Card3, Card4, Del2, Post1, Post2, Post3, Auth1, Auth2, Auth3. No condition. -/
import Derived.Test.YtegepioggeggaaaD07
set_option linter.unusedVariables false
set_option linter.unusedSimpArgs false
set_option maxHeartbeats 1000000
set_option maxRecDepth 100000
namespace Go.Proofs.Ytegepioggeggaaa.Dev
open Go.RowKit

theorem vw (c:bx) (held bp:Int) (x:bx) (e:Int) (hr:dT c held bp=(x,e)):Fn Try.prog 97 [(.g [(cI c.bp),(cI c.held),(cI c.bX.cH),(cI c.bX.count),(cI c.bX.sum),(fm c.cD)]),(.c (cI held)),(.c (cI bp))] (.t [(.g [(cI x.bp),(cI x.held),(cI x.bX.cH),(cI x.bX.count),(cI x.bX.sum),(.s 0 0 2 x.cD.length)]),(.c (cI e))]) [(0,(oI x.cD))]:=by
 refine Fn.mk' 52 [(0,(aG [(cI c.bp),(cI c.held),(cI c.bX.cH),(cI c.bX.count),(cI c.bX.sum),(fm c.cD)])),(1,(aI held)),(2,(aI bp))] Try.func97 rfl rfl rfl rfl ?_
 intro W0 T0
 refine fg 0 5 rfl rfl (fun hlen0_5=>?_)
 have hrc:=@gq c
 have hrl:=@mR c
 refine ad aa 3 rfl ?_
 refine af ?_
 refine aA aa 1 rfl ?_
 obtain ⟨e0,hr0⟩:∃ (e0:Int),cu c=e0:=⟨_,rfl⟩
 refine aL 2 [1,0] (bO 2 (jH c e0 hr0) ye rfl rfl ⟨⟨_,rfl,.g ⟨.d _,.d _,.d _,.d _,.d _,.d _,trivial⟩⟩,trivial⟩ trivial trivial rfl rfl rfl rfl) rfl ?_
 refine ab aa 1 rfl ?_
 refine ae ?_
 refine ad aa 2 rfl ?_
 refine ag rfl (fun hc1=>?_) (fun hc1=>?_)
 ·
  have hc1':=of_decide_eq_true hc1
  refine ad aa 4 rfl ?_
  refine ar ?_
  refine ao ?_
  refine cb 1 5 125 2 rfl rfl rfl ?_
  have hX:dT c held bp=((⟨0,0,(⟨0,0,0⟩:dk),([]:List cT)⟩:bx),e0):=by
    unfold dT;rw [if_pos (by omega),hr0];rfl
  rw [hX] at hr;clear hX
  simp only [Prod.mk.injEq] at hr;obtain ⟨rfl,rfl⟩:=hr
  refine ah aa [2,1] 1 rfl rfl rfl rfl rfl rfl ?_ ?_
  all_goals first|rfl|(simp [au];done)|(simp [au];omega)
 have hc1':=of_decide_eq_false hc1
 refine aN ?_
 refine af ?_
 refine aA aa 2 rfl ?_
 refine aL 3 [2,1,0] (dA (ys:=[(0,(.c (cI held))),(1,(.c (cI bp)))]) (rows:=([held,bp]).map rI) 2 lZ rfl (by decide) ⟨⟨rfl,rfl⟩,⟨rfl,rfl⟩,trivial⟩ rfl rfl rfl rfl) rfl ?_
 refine ax (dn rfl rfl rfl rfl rfl Try.underlying30) rfl ?_
 refine ab aa 1 rfl ?_
 refine ae ?_
 refine aU ?_
 refine ct (β:=Nat) (fun (q:Nat)=>⟨[(1,(aI held)),(2,(aI bp)),(3,(aC (.p 0 0 0 0))),(6,(aC (.p 1 0 0 0))),(20,(aC (.s 2 0 1 2))),(21,(aI 2)),(22,(aI (↑q:Int)))],[(2,(dF ([held,bp]))),(1,(.box 61 [(cI 0),(cI 0),(cI 0),(cI 0),(cI 0),cN])),(0,(.box 61 [(cI c.bp),(cI c.held),(cI c.bX.cH),(cI c.bX.count),(cI c.bX.sum),(fm c.cD)]))],3⟩) (fun (q:Nat)=>q<=2/\(0 < q->-1000000000000<=held/\held<=1000000000000)/\(1 < q->-1000000000000<=bp/\bp<=1000000000000)) (fun (q:Nat)=>2 - q) 0 ?_ ?_ ?_
 ·exact ⟨by omega,by omega,by omega⟩
 ·exact aD.bW id (by refine ⟨?_,?_,?_,?_,?_,?_,?_,trivial⟩<;>first|rfl|(simp only [bm];done)|(congr 3;omega)|(congr 4;omega)|(simp only [bn];rfl)) (by refine ⟨?_,?_,?_,trivial⟩<;>first|rfl|(simp only [bm];done)|(congr 3;omega)|(congr 4;omega)|(simp only [bn];rfl)) rfl
 rintro q ⟨hi0_0,hi0_1,hi0_2⟩
 refine ad aa 1 rfl ?_
 refine af ?_
 refine ag rfl (fun hc2=>?_) (fun hc2=>?_)
 ·
  have hc2':=of_decide_eq_true hc2
  refine aN ?_
  refine af ?_
  refine aU ?_
  refine eC ?_
  refine ax (bo (i:=q) rfl rfl rfl Try.underlying30 fH (by first|omega|(simp;done)|(simp;omega)) (by first|omega|(simp;done)|(simp;omega))) rfl ?_
  obtain ⟨x1,hx1⟩:=ck (xs:=([held,bp]:List Int)) (i:=q) (by first|omega|(simp;done)|(simp;omega))
  have hx1v:=DJ hx1
  refine ax (eD rfl rfl rfl Try.underlying3 rfl (bu hx1) rfl) rfl ?_
  refine ab aa 1 rfl ?_
  refine ae ?_
  refine cp 31 ((decide (x1 < (-1000000000000)))||(decide (x1 > 1000000000000))) ?_ ?_
  ·
   refine aw ?_
   refine ab aa 3 rfl ?_
   refine bz (t:=28) rfl (fun hb3=>?_) (fun hb3=>?_)
   ·
    have hb3':=of_decide_eq_true hb3
    refine ab aa 3 rfl ?_
    refine ae ?_
    exact aD.bD 7 rfl rfl (by first|(simp [hb3];done)|(simp_all;done)|(exfalso;simp_all;done)|(simp_all;omega)) rfl
   have hb3':=of_decide_eq_false hb3
   refine ab aa 3 rfl ?_
   refine ae ?_
   exact aD.bD 7 rfl rfl (by first|(simp [hb3];done)|(simp_all;done)|(exfalso;simp_all;done)|(simp_all;omega)) rfl
  refine ag rfl (fun hc4=>?_) (fun hc4=>?_)
  ·
   have hc4':=hc4;try simp only [bj,bL] at hc4'
   refine ad aa 3 rfl ?_
   refine ar ?_
   refine bf ?_
   refine ao ?_
   refine ao ?_
   refine bf ?_
   refine ao ?_
   refine cb 1 5 125 2 rfl rfl rfl ?_
   have hX:dT c held bp=((⟨0,0,(⟨0,0,0⟩:dk),([]:List cT)⟩:bx),3):=by
     unfold dT;rw [if_neg (by omega),if_pos (by omega)];rfl
   rw [hX] at hr;clear hX
   simp only [Prod.mk.injEq] at hr;obtain ⟨rfl,rfl⟩:=hr
   refine ah aa [3,1] 1 rfl rfl rfl rfl rfl rfl ?_ ?_
   all_goals first|rfl|(simp [au];done)|(simp [au];omega)
  have hc4':=hc4;try simp only [bj,bL] at hc4'
  refine cU ?_
  refine bl ?_
  refine then_ok ?_
  refine aw ?_
  refine ax (aJ rfl rfl rfl (aF (by first|omega|(simp;done)|(simp;omega)))) rfl ?_
  refine ab aa 1 rfl ?_
  refine ae ?_
  refine ⟨q+1,⟨by omega,by omega,by omega⟩,by first|omega|(simp;done)|(simp;omega),aD.bW id (by refine ⟨?_,?_,?_,?_,?_,?_,?_,trivial⟩<;>first|rfl|(simp only [bm];done)|(congr 3;omega)|(congr 4;omega)|(simp only [bn];rfl)) (by refine ⟨?_,?_,?_,trivial⟩<;>first|rfl|(simp only [bm];done)|(congr 3;omega)|(congr 4;omega)|(simp only [bn];rfl)) rfl⟩
 have hc2':=of_decide_eq_false hc2
 refine cm ?_
 refine aP ?_
 refine aP ?_
 refine bN ?_
 refine then_ok ?_
 refine aA aa 1 rfl ?_
 refine aL 4 [3,2,1,0] (bO 3 (rm c (by first|assumption|omega)) Ck rfl rfl ⟨⟨_,rfl,.g ⟨.d _,.d _,.d _,.d _,.d _,.d _,trivial⟩⟩,trivial⟩ ⟨trivial,trivial,trivial,trivial,trivial,trivial,trivial⟩ ⟨(fun _ _ _ _=>trivial),trivial⟩ rfl rfl rfl rfl) rfl ?_
 refine ab aa 1 rfl ?_
 refine ae ?_
 refine aA aa 3 rfl ?_
 refine ax (aJ rfl rfl rfl (aF (by first|omega|(simp;done)|(simp;omega)))) rfl ?_
 refine ab aa 2 rfl ?_
 refine ae ?_
 refine aA aa 3 rfl ?_
 refine ax (aJ rfl rfl rfl (aF (by first|omega|(simp;done)|(simp;omega)))) rfl ?_
 refine ab aa 2 rfl ?_
 refine ae ?_
 refine af ?_
 refine aA aa 1 rfl ?_
 obtain ⟨e1,hr1⟩:∃ (e1:Int),cu (⟨c.bp+bp,c.held+held,c.bX,c.cD⟩:bx)=e1:=⟨_,rfl⟩
 refine aL 4 [3,2,1,0] (fM 4 [3] (jH (⟨c.bp+bp,c.held+held,c.bX,c.cD⟩:bx) e1 hr1) ye rfl rfl ⟨⟨_,rfl,.g ⟨.d _,.d _,.d _,.d _,.d _,.s rfl (by decide) (by first|omega|(simp;done)|(simp;omega)),trivial⟩⟩,trivial⟩ rfl trivial rfl rfl rfl rfl) rfl ?_
 refine ab aa 1 rfl ?_
 refine ae ?_
 refine ad aa 2 rfl ?_
 refine ag rfl (fun hc5=>?_) (fun hc5=>?_)
 ·
  have hc5':=of_decide_eq_true hc5
  refine ad aa 3 rfl ?_
  refine ar ?_
  refine ao ?_
  refine cb 1 5 125 2 rfl rfl rfl ?_
  have hX:dT c held bp=((⟨0,0,(⟨0,0,0⟩:dk),([]:List cT)⟩:bx),10):=by
    unfold dT;rw [if_neg (by omega),if_neg (by omega),if_pos (by first|omega|(intro hz;have hy:=gq hz;dsimp only at hy;omega))];rfl
  rw [hX] at hr;clear hX
  simp only [Prod.mk.injEq] at hr;obtain ⟨rfl,rfl⟩:=hr
  refine ah aa [4,1] 1 rfl rfl rfl rfl rfl rfl ?_ ?_
  all_goals first|rfl|(simp [au];done)|(simp [au];omega)
 have hc5':=of_decide_eq_false hc5
 refine aN ?_
 refine ad aa 3 rfl ?_
 refine ar ?_
 have hX:dT c held bp=((⟨c.bp+bp,c.held+held,c.bX,c.cD⟩:bx),0):=by
   unfold dT;rw [if_neg (by omega),if_neg (by omega),if_neg (by first|omega|(have hz:=oP (c:=⟨c.bp+bp,c.held+held,c.bX,c.cD⟩) (by dsimp only;omega) (hrc (by omega)).2.2.2.2.1 (hrc (by omega)).2.2.2.2.2;omega))]
 rw [hX] at hr;clear hX
 simp only [Prod.mk.injEq] at hr;obtain ⟨rfl,rfl⟩:=hr
 refine ah aa [3,1] 1 rfl rfl rfl rfl rfl rfl ?_ ?_
 all_goals first|rfl|(simp [au];done)|(simp [au];omega)
section
open Go.RowKit
end

theorem qo (l:List aV) (fn:FuncId) (bc:List (List D)) (pr:aV->Bool) (hp:∀ x:aV,Fn Try.prog fn ([.g [cI x.number,cI x.kind,cI x.ba,cI x.sum]]++bc.map fun r=>GV.c (.q r 0)) (aB (pr x)) []) (hen:bd Try.prog fn) (r:Int) (hr:gH pr l=r):Fn Try.prog 113 [(.c (db l)),(.c (.d (.f fn bc)))] (.v (.c (cI r))) []:=by
 refine Fn.mk' 19 [(0,(aC (db l))),(1,(aC (.d (.f fn bc))))] Try.func113 rfl rfl rfl rfl ?_
 intro W0 T0
 refine dz 0 rfl (fun hlen0=>?_)
 refine ad aa 1 rfl ?_
 refine af ?_
 refine aA aa 1 rfl ?_
 refine ax (cM rfl rfl rfl rfl rfl Try.underlying32) rfl ?_
 refine ab aa 1 rfl ?_
 refine ae ?_
 refine aU ?_
 refine ct (β:=Nat) (fun (q:Nat)=>⟨[(0,(aC (db l))),(1,(aC (.d (.f fn bc)))),(7,(aI (↑l.length:Int))),(8,(aI (↑q:Int)))],[],0⟩) (fun (q:Nat)=>q<=l.length/\(l.take q).all (fun y=>!pr y)=true) (fun (q:Nat)=>l.length - q) 0 ?_ ?_ ?_
 ·exact ⟨by omega,by simp⟩
 ·exact aD.bW id (by refine ⟨?_,?_,?_,?_,trivial⟩<;>first|rfl|(simp only [bm];done)|(congr 3;omega)|(congr 4;omega)|(simp only [bn];rfl)) (trivial) rfl
 rintro q ⟨hi0_0,hi0_1⟩
 refine ad aa 1 rfl ?_
 refine af ?_
 refine ag rfl (fun hc1=>?_) (fun hc1=>?_)
 ·
  have hc1':=of_decide_eq_true hc1
  refine aN ?_
  refine af ?_
  refine aU ?_
  refine ad aa 2 rfl ?_
  refine aA aa 3 rfl ?_
  obtain ⟨x1,hx1⟩:=ck (xs:=l) (i:=q) (by first|omega|(simp;done)|(simp;omega))
  refine ax (cP (i:=q) rfl rfl rfl Try.underlying32 lU (by first|omega|(simp;done)|(simp;omega)) (bu hx1)) rfl ?_
  refine ab aa 1 rfl ?_
  refine ax (gS 0 (hp x1) hen rfl rfl rfl ⟨⟨_,rfl,.g ⟨.d _,.d _,.d _,.d _,trivial⟩⟩,trivial⟩ trivial trivial rfl rfl rfl rfl) rfl ?_
  refine ae ?_
  refine ag rfl (fun hc2=>?_) (fun hc2=>?_)
  ·
   have hc2':=hc2;try simp only [bj,bL] at hc2'
   refine ad aa 2 rfl ?_
   refine ar ?_
   refine bf ?_
   refine ao ?_
   refine ao ?_
   refine bf ?_
   refine ao ?_
   have hX:gH pr l=(↑q:Int):=by
     exact tb hi0_1 hx1 hc2
   rw [hX] at hr;clear hX
   subst hr
   refine ah aa [] 0 rfl rfl rfl rfl rfl rfl ?_ ?_
   all_goals first|rfl|(simp [au];done)|(simp [au];omega)
  have hc2':=hc2;try simp only [bj,bL] at hc2'
  refine cU ?_
  refine bl ?_
  refine then_ok ?_
  refine aw ?_
  refine ax (aJ rfl rfl rfl (aF (by first|omega|(simp;done)|(simp;omega)))) rfl ?_
  refine ab aa 1 rfl ?_
  refine ae ?_
  refine ⟨q+1,⟨by omega,vK hi0_1 hx1 hc2⟩,by first|omega|(simp;done)|(simp;omega),aD.bW id (by refine ⟨?_,?_,?_,?_,trivial⟩<;>first|rfl|(simp only [bm];done)|(congr 3;omega)|(congr 4;omega)|(simp only [bn];rfl)) (trivial) rfl⟩
 have hc1':=of_decide_eq_false hc1
 refine cm ?_
 refine aP ?_
 refine aP ?_
 refine bN ?_
 refine then_ok ?_
 refine ad aa 1 rfl ?_
 refine ar ?_
 have hX:gH pr l=(-1):=by
   exact uV (by rw [<-List.take_of_length_le (l:=l) (i:=q) (by omega)];exact hi0_1)
 rw [hX] at hr;clear hX
 subst hr
 refine ah aa [] 0 rfl rfl rfl rfl rfl rfl ?_ ?_
 all_goals first|rfl|(simp [au];done)|(simp [au];omega)
theorem pf (l:List aV) (fn:FuncId) (bc:List (List D)) (pr:aV->Bool) (hp:∀ x:aV,Fn Try.prog fn ([.g [cI x.number,cI x.kind,cI x.ba,cI x.sum]]++bc.map fun r=>GV.c (.q r 0)) (aB (pr x)) []) (hen:bd Try.prog fn) (r:List aV) (hr:dq pr l=r):cz Try.prog 105 [(.c (.s 0 0 4 l.length)),(.c (.d (.f fn bc)))] [(0,(xn l))] [] (.v (.c (.s 0 0 4 r.length))) [(0,(xn r))]:=by
 refine cz.mk 42 [(0,(aC (.s 0 0 4 l.length))),(1,(aC (.d (.f fn bc))))] 1 Try.func105 rfl rfl rfl rfl rfl rfl rfl rfl rfl ?_
 intro W0 F0 T0 pg
 refine fN 0 rfl (fun hlen0=>?_)
 have hic:=tc pr l
 have hib:gH pr l<=l.length/\-1<=gH pr l:=by rcases hic with ⟨h,_⟩|⟨i,h,h1,_⟩<;>omega
 refine ad aa 1 rfl ?_
 refine aA aa 2 rfl ?_
 obtain ⟨r0,hr0⟩:∃ (r0:Int),gH pr l=r0:=⟨_,rfl⟩
 refine aL 1 [0] (fM 1 [0] (qo l fn bc pr hp hen r0 hr0) Ft rfl rfl ⟨⟨_,rfl,.c (.s rfl (by decide) (by first|omega|(simp;done)|(simp;omega)))⟩,⟨_,rfl,.c (.d _)⟩,trivial⟩ rfl trivial rfl rfl rfl rfl) rfl ?_
 refine ab aa 1 rfl ?_
 refine ae ?_
 refine af ?_
 refine ad aa 2 rfl ?_
 refine ag rfl (fun hc1=>?_) (fun hc1=>?_)
 ·
  have hc1':=of_decide_eq_true hc1
  refine ad aa 2 rfl ?_
  refine ar ?_
  refine ao ?_
  have hX:dq pr l=l:=by
    rcases hic with ⟨_,h⟩|⟨i0,h,_⟩
    ·exact h
    ·exfalso;omega
  rw [hX] at hr;clear hX
  subst hr
  refine ah aa [0] 1 rfl rfl rfl rfl rfl rfl ?_ ?_
  all_goals first|rfl|(simp [au];done)|(simp [au];omega)
 have hc1':=of_decide_eq_false hc1
 refine aN ?_
 refine af ?_
 refine aA aa 1 rfl ?_
 refine ax (aJ rfl rfl rfl (aF (by first|omega|(simp;done)|(simp;omega)))) rfl ?_
 refine ab aa 1 rfl ?_
 refine ae ?_
 refine aU ?_
 obtain ⟨i0,hi0,hil,x0,hx0,hp0,hk0⟩:∃ i:Nat,gH pr l=i/\i < l.length/\∃ x,l[i]?=some x/\pr x=true/\dq pr (l.take i)=l.take i:=by
     rcases hic with ⟨h,_⟩|h
     ·exfalso;omega
     ·exact h
 obtain rfl:r0=(i0:Int):=by omega
 refine ct (β:=Nat×Nat×List aV) (fun (p:Nat×Nat×List aV)=>match p with|(j,i,c)=>⟨[(0,(aC (.s 0 0 4 l.length))),(1,(aC (.d (.f fn bc)))),(4,(aC cN)),(5,(aI (↑i:Int))),(6,(aI (↑j:Int)))],[(0,(xn c))],1⟩) (fun (p:Nat×Nat×List aV)=>match p with|(j,i,c)=>kK pr l c i j) (fun (p:Nat×Nat×List aV)=>match p with|(j,i,c)=>l.length - j) (i0+1,i0,l) ?_ ?_ ?_
 ·exact kK.start hx0 hp0 hk0
 ·exact aD.bW id (by refine ⟨?_,?_,?_,?_,?_,trivial⟩<;>first|rfl|(simp only [bm];done)|(congr 3;omega)|(congr 4;omega)|(simp only [bn];rfl)) (⟨by first|rfl|(simp only [bm];done)|(congr 3;omega)|(congr 4;omega)|(simp only [bn];rfl),trivial⟩) rfl
 rintro ⟨j,i,c⟩ hd
 have hdl:=hd.len;have hdi:=hd.ij;have hdj:=hd.jl
 refine af ?_
 refine aA aa 2 rfl ?_
 refine ax (dn rfl rfl rfl rfl rfl Try.underlying32) rfl ?_
 refine ab aa 1 rfl ?_
 refine ae ?_
 refine ag rfl (fun hc2=>?_) (fun hc2=>?_)
 ·
  have hc2':=of_decide_eq_true hc2
  refine aN ?_
  refine af ?_
  refine aU ?_
  refine aA aa 2 rfl ?_
  refine ax (bo (i:=j) rfl rfl rfl Try.underlying32 lU (by first|omega|(simp;done)|(simp;omega)) (by first|omega|(simp;done)|(simp;omega))) rfl ?_
  obtain ⟨x1,hx1⟩:=ck (xs:=c) (i:=j) (by first|omega|(simp;done)|(simp;omega))
  refine ax (da rfl rfl rfl Try.underlying80 rfl lU (bu hx1) rfl) rfl ?_
  refine ab aa 2 rfl ?_
  refine ae ?_
  refine aA aa 2 rfl ?_
  refine ax (gS 2 (hp x1) hen rfl rfl rfl ⟨⟨_,rfl,.g ⟨.d _,.d _,.d _,.d _,trivial⟩⟩,trivial⟩ trivial trivial rfl rfl rfl rfl) rfl ?_
  refine ab aa 1 rfl ?_
  refine ae ?_
  refine ag rfl (fun hc3=>?_) (fun hc3=>?_)
  ·
   have hc3':=hc3;try simp only [bj,bL] at hc3'
   refine aA aa 3 rfl ?_
   refine ax (bo (i:=i) rfl rfl rfl Try.underlying32 lU (by first|omega|(simp;done)|(simp;omega)) (by first|omega|(simp;done)|(simp;omega))) rfl ?_
   obtain ⟨x2,hx2⟩:=ck (xs:=c) (i:=i) (by first|omega|(simp;done)|(simp;omega))
   refine fY [1,0] (dL (ds:=[(dI x1.number),(dI x1.kind),(dI x1.ba),(dI x1.sum)]) rfl rfl rfl rfl rfl lU rfl (Nat.le_of_ble_eq_true rfl) (bu hx2) rfl (eH (x':=x1) rfl)) rfl ?_
   refine ae ?_
   refine aw ?_
   refine ab aa 1 rfl ?_
   refine ax (aJ rfl rfl rfl (aF (by first|omega|(simp;done)|(simp;omega)))) rfl ?_
   refine ab aa 1 rfl ?_
   refine bY ?_
   refine bl ?_
   refine then_ok ?_
   refine aw ?_
   refine ab aa 1 rfl ?_
   refine ax (aJ rfl rfl rfl (aF (by first|omega|(simp;done)|(simp;omega)))) rfl ?_
   refine ab aa 1 rfl ?_
   refine ae ?_
   refine ⟨(j+1,(i)+1,(c).set i x1),hd.cE hx1 (by simpa using hc3),by first|omega|(simp;done)|(simp;omega),aD.bW id (by refine ⟨?_,?_,?_,?_,?_,trivial⟩<;>first|rfl|(simp only [bm];done)|(congr 3;omega)|(congr 4;omega)|(simp only [bn];rfl)) (⟨by first|rfl|(simp only [bm];done)|(congr 3;omega)|(congr 4;omega)|(simp only [bn];rfl),trivial⟩) rfl⟩
  have hc3':=hc3;try simp only [bj,bL] at hc3'
  refine cU ?_
  refine bl ?_
  refine then_ok ?_
  refine aw ?_
  refine ab aa 1 rfl ?_
  refine ax (aJ rfl rfl rfl (aF (by first|omega|(simp;done)|(simp;omega)))) rfl ?_
  refine ab aa 1 rfl ?_
  refine ae ?_
  refine ⟨(j+1,i,c),hd.skip hx1 (by simpa using hc3),by first|omega|(simp;done)|(simp;omega),aD.bW id (by refine ⟨?_,?_,?_,?_,?_,trivial⟩<;>first|rfl|(simp only [bm];done)|(congr 3;omega)|(congr 4;omega)|(simp only [bn];rfl)) (⟨by first|rfl|(simp only [bm];done)|(congr 3;omega)|(congr 4;omega)|(simp only [bn];rfl),trivial⟩) rfl⟩
 have hc2':=of_decide_eq_false hc2
 refine cm ?_
 refine aP ?_
 refine aP ?_
 refine bN ?_
 refine then_ok ?_
 refine aA aa 2 rfl ?_
 refine ax (nf (l:=i) (h:=l.length) rfl Try.underlying32 lU rfl (.inr ⟨_,rfl,rfl⟩) (.inl ⟨rfl,rfl⟩) (by first|omega|(simp;done)|(simp;omega)) (by first|omega|(simp;done)|(simp;omega)) (by first|omega|(simp;done)|(simp;omega)) rfl) rfl ?_
 refine fY [0] (rV (rows':=(c.take i).map ft) um FQ rfl rfl rfl rfl rfl rfl rfl rfl rfl (by simp [List.map_take])) rfl ?_
 refine ae ?_
 refine aA aa 2 rfl ?_
 refine ax (nf (l:=0) (h:=i) rfl Try.underlying32 lU rfl (.inl ⟨rfl,rfl⟩) (.inr ⟨_,rfl,rfl⟩) (by first|omega|(simp;done)|(simp;omega)) (by first|omega|(simp;done)|(simp;omega)) (by first|omega|(simp;done)|(simp;omega)) rfl) rfl ?_
 refine ab aa 1 rfl ?_
 refine ae ?_
 refine ar ?_
 have hX:dq pr l=(c.take i):=by
   have hdone:=hd.done (by omega)
   rw [<-hdone]
 rw [hX] at hr;clear hX
 subst hr
 refine ah aa [0] 1 rfl rfl rfl rfl rfl rfl ?_ ?_
 all_goals first|rfl|(simp [au];done)|(simp [au];omega)


theorem jV {s : bS} {t : aV} (hI : ∀ t ∈ s.kept, fB t.number) (h : 0 ≤ s.bG ∧ s.bG ≤ 1000000) : ∀ u ∈ s.kept ++ [(⟨s.bG + 1, t.kind, t.ba, t.sum⟩ : aV)], fB u.number := by
  intro u hu
  rcases List.mem_append.1 hu with hu | hu
  · exact hI u hu
  · have : u = ⟨s.bG + 1, t.kind, t.ba, t.sum⟩ := by simpa using hu
    subst this; unfold fB; dsimp only; omega
theorem ji {s x:bS} {seen e:Int} (hI:∀ t∈s.kept,fB t.number) (h:dK s seen=(x,e)):∀ u∈x.kept,fB u.number:=by
  intro u hu
  rcases pa h with ⟨_,rfl⟩|⟨_,_,_,_,rfl⟩
  ·simp [wO] at hu
  ·exact hI u (jS hu)

theorem lp (s:bS) (hI:∀ t∈s.kept,fB t.number) (f:cV) (hr:cj s=f):Fn Try.prog 29 [(.g [(cI s.bG),(db s.kept)])] (.v (.g [(cI f.err),(cI f.at_)])) []:=by
 refine Fn.mk' 79 [(0,(aG [(cI s.bG),(db s.kept)]))] Try.func29 rfl rfl rfl rfl ?_
 intro W0 T0
 refine fg 0 1 rfl rfl (fun hlen0_1=>?_)
 refine ad aa 2 rfl ?_
 refine af ?_
 refine aA aa 2 rfl ?_
 refine ax (cM rfl rfl rfl rfl rfl Try.underlying32) rfl ?_
 refine ab aa 1 rfl ?_
 refine ae ?_
 refine ag rfl (fun hc1=>?_) (fun hc1=>?_)
 ·
  have hc1':=of_decide_eq_true hc1
  refine ad aa 2 rfl ?_
  refine ar ?_
  refine ao ?_
  have hX:cj s=(⟨5,0⟩:cV):=by
    unfold cj iU;rw [if_pos (by omega)]
  rw [hX] at hr;clear hX
  subst hr
  refine ah aa [1] 0 rfl rfl rfl rfl rfl rfl ?_ ?_
  all_goals first|rfl|(simp [au];done)|(simp [au];omega)
 have hc1':=of_decide_eq_false hc1
 refine aN ?_
 refine af ?_
 refine cp 20 ((decide (s.bG < (↑s.kept.length:Int)))||(decide (s.bG > 1000000))) ?_ ?_
 ·
  refine aw ?_
  refine ab aa 4 rfl ?_
  refine ax (cM rfl rfl rfl rfl rfl Try.underlying32) rfl ?_
  refine ab aa 2 rfl ?_
  refine bz (t:=16) rfl (fun hb2=>?_) (fun hb2=>?_)
  ·
   have hb2':=of_decide_eq_true hb2
   refine ab aa 4 rfl ?_
   refine ae ?_
   exact aD.bD 12 rfl rfl (by first|(simp [hb2];done)|(simp_all;done)|(exfalso;simp_all;done)|(simp_all;omega)) rfl
  have hb2':=of_decide_eq_false hb2
  refine ab aa 4 rfl ?_
  refine ae ?_
  exact aD.bD 12 rfl rfl (by first|(simp [hb2];done)|(simp_all;done)|(exfalso;simp_all;done)|(simp_all;omega)) rfl
 refine ag rfl (fun hc3=>?_) (fun hc3=>?_)
 ·
  have hc3':=hc3;try simp only [bj,bL] at hc3'
  refine ad aa 2 rfl ?_
  refine ar ?_
  refine ao ?_
  have hX:cj s=(⟨3,0⟩:cV):=by
    unfold cj iU;rw [if_neg (by omega),if_pos (by omega)]
  rw [hX] at hr;clear hX
  subst hr
  refine ah aa [1] 0 rfl rfl rfl rfl rfl rfl ?_ ?_
  all_goals first|rfl|(simp [au];done)|(simp [au];omega)
 have hc3':=hc3;try simp only [bj,bL] at hc3'
 refine aN ?_
 refine af ?_
 refine aA aa 2 rfl ?_
 refine ax (cM rfl rfl rfl rfl rfl Try.underlying32) rfl ?_
 refine ab aa 1 rfl ?_
 refine ae ?_
 refine aU ?_
 refine ct (β:=Nat) (fun (q:Nat)=>⟨[(1,(aC (.p 0 0 0 0))),(2,(aC (.p 1 0 0 0))),(23,(aC (db s.kept))),(24,(aI (↑s.kept.length:Int))),(25,(aI (↑q:Int)))],[(1,(.box 50 [(cI 0),(cI 0)])),(0,(.box 34 [(cI s.bG),(db s.kept)]))],2⟩) (fun (q:Nat)=>q<=s.kept.length/\scan (jL s) 0 s.kept.length=scan (jL s) q (s.kept.length - q)) (fun (q:Nat)=>s.kept.length - q) 0 ?_ ?_ ?_
 ·exact ⟨by omega,rfl⟩
 ·exact aD.bW id (by refine ⟨?_,?_,?_,?_,?_,trivial⟩<;>first|rfl|(simp only [bm];done)|(congr 3;omega)|(congr 4;omega)|(simp only [bn];rfl)) (by refine ⟨?_,?_,trivial⟩<;>first|rfl|(simp only [bm];done)|(congr 3;omega)|(congr 4;omega)|(simp only [bn];rfl)) rfl
 rintro q ⟨hi0_0,hi0_1⟩
 refine ad aa 1 rfl ?_
 refine af ?_
 refine ag rfl (fun hc4=>?_) (fun hc4=>?_)
 ·
  have hc4':=of_decide_eq_true hc4
  refine aN ?_
  refine af ?_
  refine aU ?_
  refine aA aa 1 rfl ?_
  obtain ⟨x1,hx1⟩:=ck (xs:=s.kept) (i:=q) (by first|omega|(simp;done)|(simp;omega))
  have hx1b:=hI x1 (List.mem_of_getElem? hx1)
  unfold fB at hx1b
  refine ax (cP (i:=q) rfl rfl rfl Try.underlying32 lU (by first|omega|(simp;done)|(simp;omega)) (bu hx1)) rfl ?_
  refine ab aa 4 rfl ?_
  refine ae ?_
  refine aU ?_
  refine cp 30 ((decide (x1.kind < 1))||(decide (x1.kind > 3))) ?_ ?_
  ·
   refine aw ?_
   refine ab aa 4 rfl ?_
   refine bz (t:=34) rfl (fun hb5=>?_) (fun hb5=>?_)
   ·
    have hb5':=of_decide_eq_true hb5
    refine ab aa 5 rfl ?_
    refine ae ?_
    exact aD.bD 10 rfl rfl (by first|(simp [hb5];done)|(simp_all;done)|(exfalso;simp_all;done)|(simp_all;omega)) rfl
   have hb5':=of_decide_eq_false hb5
   refine ab aa 5 rfl ?_
   refine ae ?_
   exact aD.bD 10 rfl rfl (by first|(simp [hb5];done)|(simp_all;done)|(exfalso;simp_all;done)|(simp_all;omega)) rfl
  refine ag rfl (fun hc6=>?_) (fun hc6=>?_)
  ·
   have hc6':=hc6;try simp only [bj,bL] at hc6'
   refine ad aa 3 rfl ?_
   refine ar ?_
   refine bf ?_
   refine bf ?_
   refine ao ?_
   refine ao ?_
   refine bf ?_
   refine ao ?_
   have hX:cj s=(⟨1,(↑q:Int)⟩:cV):=by
     unfold cj iU;rw [if_neg (by omega),if_neg (by omega),hi0_1,gY (c:=1) (by omega) (by unfold jL;simp only [hx1];rw [if_pos (by omega)]) (by decide)]
   rw [hX] at hr;clear hX
   subst hr
   refine ah aa [1] 0 rfl rfl rfl rfl rfl rfl ?_ ?_
   all_goals first|rfl|(simp [au];done)|(simp [au];omega)
  have hc6':=hc6;try simp only [bj,bL] at hc6'
  refine cp 41 ((((decide (x1.ba < 0))||(decide (x1.ba>=30)))||(decide (x1.sum < 1)))||(decide (x1.sum > 1000000))) ?_ ?_
  ·
   refine aw ?_
   refine ab aa 4 rfl ?_
   refine bz (t:=45) rfl (fun hb7=>?_) (fun hb7=>?_)
   ·
    have hb7':=of_decide_eq_true hb7
    refine ab aa 15 rfl ?_
    refine ae ?_
    exact aD.bD 20 rfl rfl (by first|(simp [hb7];done)|(simp_all;done)|(exfalso;simp_all;done)|(simp_all;omega)) rfl
   have hb7':=of_decide_eq_false hb7
   refine ab aa 5 rfl ?_
   refine bz (t:=50) rfl (fun hb8=>?_) (fun hb8=>?_)
   ·
    have hb8':=of_decide_eq_true hb8
    refine ab aa 10 rfl ?_
    refine ae ?_
    exact aD.bD 21 rfl rfl (by first|(simp [hb7,hb8];done)|(simp_all;done)|(exfalso;simp_all;done)|(simp_all;omega)) rfl
   have hb8':=of_decide_eq_false hb8
   refine ab aa 5 rfl ?_
   refine bz (t:=55) rfl (fun hb9=>?_) (fun hb9=>?_)
   ·
    have hb9':=of_decide_eq_true hb9
    refine ab aa 5 rfl ?_
    refine ae ?_
    exact aD.bD 22 rfl rfl (by first|(simp [hb7,hb8,hb9];done)|(simp_all;done)|(exfalso;simp_all;done)|(simp_all;omega)) rfl
   have hb9':=of_decide_eq_false hb9
   refine ab aa 5 rfl ?_
   refine ae ?_
   exact aD.bD 22 rfl rfl (by first|(simp [hb7,hb8,hb9];done)|(simp_all;done)|(exfalso;simp_all;done)|(simp_all;omega)) rfl
  refine ag rfl (fun hc10=>?_) (fun hc10=>?_)
  ·
   have hc10':=hc10;try simp only [bj,bL] at hc10'
   refine ad aa 3 rfl ?_
   refine ar ?_
   refine bf ?_
   refine bf ?_
   refine ao ?_
   refine ao ?_
   refine bf ?_
   refine ao ?_
   have hX:cj s=(⟨3,(↑q:Int)⟩:cV):=by
     unfold cj iU;rw [if_neg (by omega),if_neg (by omega),hi0_1,gY (c:=3) (by omega) (by unfold jL;simp only [hx1];rw [if_neg (by omega),if_pos (by omega)]) (by decide)]
   rw [hX] at hr;clear hX
   subst hr
   refine ah aa [1] 0 rfl rfl rfl rfl rfl rfl ?_ ?_
   all_goals first|rfl|(simp [au];done)|(simp [au];omega)
  have hc10':=hc10;try simp only [bj,bL] at hc10'
  refine aA aa 6 rfl ?_
  refine ax (cM rfl rfl rfl rfl rfl Try.underlying32) rfl ?_
  refine ax (aJ rfl rfl rfl (aF (by first|omega|(simp;done)|(simp;omega)))) rfl ?_
  refine ax (aJ rfl rfl rfl (aF (by first|omega|(simp;done)|(simp;omega)))) rfl ?_
  refine ab aa 1 rfl ?_
  refine ax (aJ rfl rfl rfl (aF (by first|omega|(simp;done)|(simp;omega)))) rfl ?_
  refine ab aa 2 rfl ?_
  refine ae ?_
  refine ag rfl (fun hc11=>?_) (fun hc11=>?_)
  ·
   have hc11':=of_decide_eq_true hc11
   refine ad aa 3 rfl ?_
   refine ar ?_
   refine bf ?_
   refine bf ?_
   refine ao ?_
   refine ao ?_
   refine bf ?_
   refine ao ?_
   have hX:cj s=(⟨2,(↑q:Int)⟩:cV):=by
     unfold cj iU;rw [if_neg (by omega),if_neg (by omega),hi0_1,gY (c:=2) (by omega) (by unfold jL;simp only [hx1];rw [if_neg (by omega),if_neg (by omega),if_pos (by omega)]) (by decide)]
   rw [hX] at hr;clear hX
   subst hr
   refine ah aa [1] 0 rfl rfl rfl rfl rfl rfl ?_ ?_
   all_goals first|rfl|(simp [au];done)|(simp [au];omega)
  have hc11':=of_decide_eq_false hc11
  refine cU ?_
  refine bl ?_
  refine bl ?_
  refine then_ok ?_
  refine aw ?_
  refine ax (aJ rfl rfl rfl (aF (by first|omega|(simp;done)|(simp;omega)))) rfl ?_
  refine ab aa 1 rfl ?_
  refine ae ?_
  refine ⟨q+1,⟨by omega,by rw [hi0_1];exact mq (by omega) (by unfold jL;simp only [hx1];rw [if_neg (by omega),if_neg (by omega),if_neg (by omega)])⟩,by first|omega|(simp;done)|(simp;omega),aD.bW id (by refine ⟨?_,?_,?_,?_,?_,trivial⟩<;>first|rfl|(simp only [bm];done)|(congr 3;omega)|(congr 4;omega)|(simp only [bn];rfl)) (by refine ⟨?_,?_,trivial⟩<;>first|rfl|(simp only [bm];done)|(congr 3;omega)|(congr 4;omega)|(simp only [bn];rfl)) rfl⟩
 have hc4':=of_decide_eq_false hc4
 refine cm ?_
 refine aP ?_
 refine aP ?_
 refine bN ?_
 refine then_ok ?_
 refine ad aa 2 rfl ?_
 refine ar ?_
 have hX:cj s=(⟨0,0⟩:cV):=by
   unfold cj iU;rw [if_neg (by omega),if_neg (by omega),hi0_1,mO (by omega)]
 rw [hX] at hr;clear hX
 subst hr
 refine ah aa [1] 0 rfl rfl rfl rfl rfl rfl ?_ ?_
 all_goals first|rfl|(simp [au];done)|(simp [au];omega)

theorem rl (s:bS) (t:aV) (hI:∀ t∈s.kept,fB t.number) (x:bS) (e:Int) (hr:fF s t=(x,e)):Fn Try.prog 103 [(.g [(cI s.bG),(db s.kept)]),(.g [(cI t.number),(cI t.kind),(cI t.ba),(cI t.sum)])] (.t [(.g [(cI x.bG),(.s 0 0 4 x.kept.length)]),(.c (cI e))]) [(0,(xn x.kept))]:=by
 refine Fn.mk' 40 [(0,(aG [(cI s.bG),(db s.kept)])),(1,(aG [(cI t.number),(cI t.kind),(cI t.ba),(cI t.sum)]))] Try.func103 rfl rfl rfl rfl ?_
 intro W0 T0
 refine fg 0 1 rfl rfl (fun hlen0_1=>?_)
 have hrs:=@kL s
 refine ad aa 4 rfl ?_
 refine af ?_
 refine aA aa 1 rfl ?_
 obtain ⟨f0,hr0⟩:∃ (f0:cV),cj s=f0:=⟨_,rfl⟩
 have hq0:(cj s).err=f0.err:=by rw [hr0]
 refine aL 3 [2,1,0] (bO 3 (lp s (by first|assumption|exact jV (by assumption) (by omega)|exact ji (by assumption) (by assumption)|(simp [fB];done)) f0 hr0) Br rfl rfl ⟨⟨_,rfl,.g ⟨.d _,.d _,trivial⟩⟩,trivial⟩ ⟨trivial,trivial,trivial⟩ trivial rfl rfl rfl rfl) rfl ?_
 refine ab aa 2 rfl ?_
 refine ae ?_
 refine ad aa 3 rfl ?_
 refine ag rfl (fun hc1=>?_) (fun hc1=>?_)
 ·
  have hc1':=of_decide_eq_true hc1
  refine af ?_
  refine cW [2,3,4,6] [3,2,1,0] mixed rfl rfl ?_
  refine bQ (kn:=[]) aa 5 rfl trivial ?_
  refine dO [2,3,4,5] [2,1,0] rfl rfl (by kernel_rfl) ?_
  refine then_ok ?_
  refine ar ?_
  refine ao ?_
  refine cb 2 1 80 4 rfl rfl rfl ?_
  have hX:fF s t=((⟨0,([]:List aV)⟩:bS),f0.err):=by
    unfold fF;rw [if_pos (by omega),hr0];rfl
  rw [hX] at hr;clear hX
  simp only [Prod.mk.injEq] at hr;obtain ⟨rfl,rfl⟩:=hr
  refine ah aa [4,2] 1 rfl rfl rfl rfl rfl rfl ?_ ?_
  all_goals first|rfl|(simp [au];done)|(simp [au];omega)
 have hc1':=of_decide_eq_false hc1
 refine aN ?_
 refine aA aa 2 rfl ?_
 refine ax (aJ rfl rfl rfl (aF (by first|omega|(simp;done)|(simp;omega)))) rfl ?_
 refine ab aa 2 rfl ?_
 refine ae ?_
 refine af ?_
 refine bb [2,3,4] [2,1,0] mixed rfl rfl ?_
 refine az (kn:=[]) aa 2 rfl trivial ?_
 refine aT (n':=4) [22] [] rfl rfl (.inl ⟨(aj.plain rfl),aH.cast (aJ rfl rfl rfl (aF (by first|omega|(simp;done)|(simp;omega)))) rfl⟩) rfl ?_
 refine az (kn:=[]) aa 2 rfl trivial ?_
 refine aT (n':=5) [25] [] rfl rfl (.inl ⟨(aj.plain rfl),aH.cast (bO 4 (lq s.kept (by first|omega|(simp;done)|(simp;omega))) Cl rfl rfl ⟨⟨_,rfl,.c (.d _)⟩,trivial⟩ trivial ⟨(fun _ _ _ _=>trivial),trivial⟩ rfl rfl rfl rfl) rfl⟩) rfl ?_
 refine az (kn:=[]) aa 1 rfl trivial ?_
 refine aT (n':=6) [27] [] rfl rfl (.inl ⟨(aj.plain rfl),aH.cast (dA (ys:=[(0,(.g [(cI (s.bG+1)),(cI t.kind),(cI t.ba),(cI t.sum)]))]) (rows:=([(⟨s.bG+1,t.kind,t.ba,t.sum⟩:aV)]).map ft) 5 um rfl (by decide) ⟨⟨rfl,rfl⟩,trivial⟩ rfl rfl rfl rfl) rfl⟩) rfl ?_
 refine aT (n':=7) [26,28] [5,4] rfl rfl (.inl ⟨(aj.plain rfl),aH.cast (de (m:=1) (N:=s.kept.length+1) (k2:=6) (ys:=([(⟨s.bG+1,t.kind,t.ba,t.sum⟩:aV)]).map ft) um rfl rfl rfl rfl rfl rfl (by first|omega|(simp;done)|(simp;omega)) rfl (.s rfl (by first|omega|(simp;done)|(simp;omega))) (by first|omega|(simp;done)|(simp;omega)) (by first|omega|(simp;done)|(simp;omega)) eY (by decide) (by first|omega|(simp;done)|(simp;omega)) (by first|omega|(simp;done)|(simp;omega))) rfl⟩) rfl ?_
 refine az (n':=8) (kn:=[]) aa 2 rfl trivial ?_
 refine bA [7,6,2,1,0] rfl rfl rfl rfl (by kernel_rfl) ?_
 refine ab aa 1 rfl ?_
 refine ae ?_
 refine af ?_
 refine aA aa 1 rfl ?_
 obtain ⟨f1,hr1⟩:∃ (f1:cV),cj (⟨s.bG+1,s.kept++([(⟨s.bG+1,t.kind,t.ba,t.sum⟩:aV)])⟩:bS)=f1:=⟨_,rfl⟩
 have hq1:(cj (⟨s.bG+1,s.kept++([(⟨s.bG+1,t.kind,t.ba,t.sum⟩:aV)])⟩:bS)).err=f1.err:=by rw [hr1]
 refine aL 8 [7,6,2,1,0] (fM 8 [6] (lp (⟨s.bG+1,s.kept++([(⟨s.bG+1,t.kind,t.ba,t.sum⟩:aV)])⟩:bS) (by first|assumption|exact jV (by assumption) (by omega)|exact ji (by assumption) (by assumption)|(simp [fB];done)) f1 hr1) Br rfl rfl ⟨⟨_,rfl,.g ⟨.d _,.s rfl (by decide) (by first|omega|(simp;done)|(simp;omega)),trivial⟩⟩,trivial⟩ ⟨rfl,rfl,trivial⟩ trivial rfl rfl rfl rfl) rfl ?_
 refine ab aa 2 rfl ?_
 refine ae ?_
 refine ad aa 3 rfl ?_
 refine ag rfl (fun hc2=>?_) (fun hc2=>?_)
 ·
  have hc2':=of_decide_eq_true hc2
  refine af ?_
  refine cW [4,7,8] [8,7,6,2] mixed rfl rfl ?_
  refine bQ (kn:=[]) aa 5 rfl trivial ?_
  refine dO [4,7,5] [2,7,6] rfl rfl (by kernel_rfl) ?_
  refine then_ok ?_
  refine ar ?_
  refine ao ?_
  refine cb 2 1 80 4 rfl rfl rfl ?_
  have hX:fF s t=((⟨0,([]:List aV)⟩:bS),f1.err):=by
    have hout:cj (iA s t)=f1:=hr1
    unfold fF;rw [if_neg (by omega),if_pos (by rw [hout];omega),hout];rfl
  rw [hX] at hr;clear hX
  simp only [Prod.mk.injEq] at hr;obtain ⟨rfl,rfl⟩:=hr
  refine ah aa [9,2] 1 rfl rfl rfl rfl rfl rfl ?_ ?_
  all_goals first|rfl|(simp [au];done)|(simp [au];omega)
 have hc2':=of_decide_eq_false hc2
 refine aN ?_
 refine ad aa 3 rfl ?_
 refine ar ?_
 have hX:fF s t=((⟨s.bG+1,s.kept++([(⟨s.bG+1,t.kind,t.ba,t.sum⟩:aV)])⟩:bS),0):=by
   have hout:cj (iA s t)=f1:=hr1
   unfold fF;rw [if_neg (by omega),if_neg (by rw [hout];omega)];rfl
 rw [hX] at hr;clear hX
 simp only [Prod.mk.injEq] at hr;obtain ⟨rfl,rfl⟩:=hr
 refine ah aa [6,2] 1 rfl rfl rfl rfl rfl rfl ?_ ?_
 all_goals first|rfl|(simp [au];done)|(simp [au];omega)
theorem pB (seen:Int) (t:aV) (n:Int) (ok:Bool) (hr:fo seen t=(n,ok)):Fn Try.prog 88 [(.c (cI seen)),(.g [(cI t.number),(cI t.kind),(cI t.ba),(cI t.sum)])] (.t [(.c (cI n)),(.c (cB ok))]) []:=by
 refine Fn.mk' 22 [(0,(aI seen)),(1,(aG [(cI t.number),(cI t.kind),(cI t.ba),(cI t.sum)]))] Try.func88 rfl rfl rfl rfl ?_
 intro W0 T0
 refine ad aa 3 rfl ?_
 refine af ?_
 refine cp 18 (((decide (seen < 0))||(decide (seen>=1000000)))||(decide (¬t.number=(seen+1)))) ?_ ?_
 ·
  refine aw ?_
  refine ab aa 3 rfl ?_
  refine bz (t:=8) rfl (fun hb1=>?_) (fun hb1=>?_)
  ·
   have hb1':=of_decide_eq_true hb1
   refine ab aa 10 rfl ?_
   refine ae ?_
   exact aD.bD 14 rfl rfl (by first|(simp [hb1];done)|(simp_all;done)|(exfalso;simp_all;done)|(simp_all;omega)) rfl
  have hb1':=of_decide_eq_false hb1
  refine ab aa 4 rfl ?_
  refine bz (t:=12) rfl (fun hb2=>?_) (fun hb2=>?_)
  ·
   have hb2':=of_decide_eq_true hb2
   refine ab aa 6 rfl ?_
   refine ae ?_
   exact aD.bD 15 rfl rfl (by first|(simp [hb1,hb2];done)|(simp_all;done)|(exfalso;simp_all;done)|(simp_all;omega)) rfl
  have hb2':=of_decide_eq_false hb2
  refine ab aa 3 rfl ?_
  refine dP (aj.yes rfl rfl rfl) (aJ rfl rfl rfl (aF (by first|omega|(simp;done)|(simp;omega)))) rfl rfl ?_
  refine ab aa 2 rfl ?_
  refine ae ?_
  exact aD.bD 15 rfl rfl (by first|(simp [hb1,hb2];done)|(simp_all;done)|(exfalso;simp_all;done)|(simp_all;omega)) rfl
 refine ag rfl (fun hc3=>?_) (fun hc3=>?_)
 ·
  have hc3':=hc3;try simp only [bj,bL] at hc3'
  refine ad aa 3 rfl ?_
  refine ar ?_
  refine ao ?_
  have hX:fo seen t=(seen,false):=by
    (unfold fo;try dsimp only);(repeat' split)<;>first|rfl|omega|(exfalso;omega)|(subst_vars;rfl)|(simp_all;done)|(simp_all;omega)
  rw [hX] at hr;clear hX
  simp only [Prod.mk.injEq] at hr;obtain ⟨rfl,rfl⟩:=hr
  refine ah aa [] 0 rfl rfl rfl rfl rfl rfl ?_ ?_
  all_goals first|rfl|(simp [au];done)|(simp [au];omega)
 have hc3':=hc3;try simp only [bj,bL] at hc3'
 refine aN ?_
 refine aA aa 1 rfl ?_
 refine ax (aJ rfl rfl rfl (aF (by first|omega|(simp;done)|(simp;omega)))) rfl ?_
 refine ab aa 2 rfl ?_
 refine ae ?_
 refine ar ?_
 have hX:fo seen t=(seen+1,true):=by
   (unfold fo;try dsimp only);(repeat' split)<;>first|rfl|omega|(exfalso;omega)|(subst_vars;rfl)|(simp_all;done)|(simp_all;omega)
 rw [hX] at hr;clear hX
 simp only [Prod.mk.injEq] at hr;obtain ⟨rfl,rfl⟩:=hr
 refine ah aa [] 0 rfl rfl rfl rfl rfl rfl ?_ ?_
 all_goals first|rfl|(simp [au];done)|(simp [au];omega)

theorem Da (t:aV) (seen:Int):Fn Try.prog 107 [(.g [(cI t.number),(cI t.kind),(cI t.ba),(cI t.sum)]),(.c (.q ([dI seen]) 0))] (aB (came seen t)) []:=by
 refine Fn.mk' 8 [(0,(aG [(cI t.number),(cI t.kind),(cI t.ba),(cI t.sum)])),(1,(aC (.q ([dI seen]) 0)))] Try.func107 rfl rfl rfl rfl ?_
 intro W0 T0
 refine ad aa 2 rfl ?_
 refine ad aa 5 rfl ?_
 refine ar ?_
 refine ah aa [] 0 rfl rfl rfl rfl rfl rfl ?_ ?_
 all_goals first|rfl|(simp [au];done)|(simp [au];omega)
theorem pC (s:bS) (seen:Int) (hI:∀ t∈s.kept,fB t.number) (x:bS) (e:Int) (hr:dK s seen=(x,e)):Fn Try.prog 86 [(.g [(cI s.bG),(db s.kept)]),(.c (cI seen))] (.t [(.g [(cI x.bG),(.s 0 0 4 x.kept.length)]),(.c (cI e))]) [(0,(xn x.kept))]:=by
 refine Fn.mk' 32 [(0,(aG [(cI s.bG),(db s.kept)])),(1,(aI seen))] Try.func86 rfl rfl rfl rfl ?_
 intro W0 T0
 refine fg 0 1 rfl rfl (fun hlen0_1=>?_)
 have hrs:=@kL s
 refine ad aa 4 rfl ?_
 refine af ?_
 refine aA aa 1 rfl ?_
 obtain ⟨f0,hr0⟩:∃ (f0:cV),cj s=f0:=⟨_,rfl⟩
 have hq0:(cj s).err=f0.err:=by rw [hr0]
 refine aL 3 [2,1,0] (bO 3 (lp s (by first|assumption|exact jV (by assumption) (by omega)|exact ji (by assumption) (by assumption)|(simp [fB];done)) f0 hr0) Br rfl rfl ⟨⟨_,rfl,.g ⟨.d _,.d _,trivial⟩⟩,trivial⟩ ⟨trivial,trivial,trivial⟩ trivial rfl rfl rfl rfl) rfl ?_
 refine ab aa 2 rfl ?_
 refine ae ?_
 refine ad aa 3 rfl ?_
 refine ag rfl (fun hc1=>?_) (fun hc1=>?_)
 ·
  have hc1':=of_decide_eq_true hc1
  refine af ?_
  refine cW [2,3,4,6] [3,2,1,0] mixed rfl rfl ?_
  refine bQ (kn:=[]) aa 5 rfl trivial ?_
  refine dO [2,3,4,5] [2,1,0] rfl rfl (by kernel_rfl) ?_
  refine then_ok ?_
  refine ar ?_
  refine ao ?_
  refine cb 2 1 80 4 rfl rfl rfl ?_
  have hX:dK s seen=((⟨0,([]:List aV)⟩:bS),f0.err):=by
    unfold dK;rw [if_pos (by omega),hr0];rfl
  rw [hX] at hr;clear hX
  simp only [Prod.mk.injEq] at hr;obtain ⟨rfl,rfl⟩:=hr
  refine ah aa [4,2] 1 rfl rfl rfl rfl rfl rfl ?_ ?_
  all_goals first|rfl|(simp [au];done)|(simp [au];omega)
 have hc1':=of_decide_eq_false hc1
 refine aN ?_
 refine af ?_
 refine cp 22 ((decide (seen < 0))||(decide (seen > s.bG))) ?_ ?_
 ·
  refine aw ?_
  refine ab aa 3 rfl ?_
  refine bz (t:=17) rfl (fun hb2=>?_) (fun hb2=>?_)
  ·
   have hb2':=of_decide_eq_true hb2
   refine ab aa 5 rfl ?_
   refine ae ?_
   exact aD.bD 9 rfl rfl (by first|(simp [hb2];done)|(simp_all;done)|(exfalso;simp_all;done)|(simp_all;omega)) rfl
  have hb2':=of_decide_eq_false hb2
  refine ab aa 5 rfl ?_
  refine ae ?_
  exact aD.bD 9 rfl rfl (by first|(simp [hb2];done)|(simp_all;done)|(exfalso;simp_all;done)|(simp_all;omega)) rfl
 refine ag rfl (fun hc3=>?_) (fun hc3=>?_)
 ·
  have hc3':=hc3;try simp only [bj,bL] at hc3'
  refine ad aa 3 rfl ?_
  refine ar ?_
  refine ao ?_
  refine cb 2 1 80 4 rfl rfl rfl ?_
  have hX:dK s seen=((⟨0,([]:List aV)⟩:bS),3):=by
    unfold dK;rw [if_neg (by omega),if_pos (by omega)];rfl
  rw [hX] at hr;clear hX
  simp only [Prod.mk.injEq] at hr;obtain ⟨rfl,rfl⟩:=hr
  refine ah aa [4,2] 1 rfl rfl rfl rfl rfl rfl ?_ ?_
  all_goals first|rfl|(simp [au];done)|(simp [au];omega)
 have hc3':=hc3;try simp only [bj,bL] at hc3'
 refine aN ?_
 refine af ?_
 obtain ⟨r1,hr1⟩:∃ (r1:List aV),dq (came seen) s.kept=r1:=⟨_,rfl⟩
 refine bb [2,3,4] [2,1,0] mixed rfl rfl ?_
 refine az (kn:=[]) aa 4 rfl trivial ?_
 refine aT (n':=5) [27] [] rfl rfl (.inl ⟨(aj.plain rfl),aH.cast (bO 4 (lq s.kept (by first|omega|(simp;done)|(simp;omega))) Cl rfl rfl ⟨⟨_,rfl,.c (.d _)⟩,trivial⟩ trivial ⟨(fun _ _ _ _=>trivial),trivial⟩ rfl rfl rfl rfl) rfl⟩) rfl ?_
 refine aT (n':=5) [3] [] rfl rfl (.inl ⟨(aj.plain rfl),aH.cast (zC (ks:=[1]) rfl ⟨rfl,trivial⟩) rfl⟩) rfl ?_
 refine aT (n':=6) [28,29] [1,4] rfl rfl (.inl ⟨(aj.plain rfl),aH.cast (vd (aW [4]) (aW [5]) [1] (pf s.kept 107 ([[(dI seen)]]) (came seen) (fun x=>Da x seen) Fv r1 hr1) Fw rfl rfl ⟨⟨_,rfl,.inl ⟨rfl,rfl⟩⟩,⟨_,rfl,.inr (.c (.fn ⟨⟨by decide,_,rfl⟩,trivial⟩))⟩,trivial⟩ ⟨rfl,trivial⟩ rfl rfl rfl rfl rfl rfl rfl rfl trivial ⟨(tG _),trivial⟩ rfl rfl rfl rfl) rfl⟩) rfl ?_
 refine az (kn:=[]) aa 1 rfl trivial ?_
 refine bA [5,2,1,0] rfl rfl rfl rfl (by kernel_rfl) ?_
 refine ab aa 2 rfl ?_
 refine ae ?_
 refine ar ?_
 have hX:dK s seen=((⟨s.bG,r1⟩:bS),0):=by
   unfold dK;rw [if_neg (by omega),if_neg (by omega),hr1]
 rw [hX] at hr;clear hX
 simp only [Prod.mk.injEq] at hr;obtain ⟨rfl,rfl⟩:=hr
 refine ah aa [5,2] 1 rfl rfl rfl rfl rfl rfl ?_ ?_
 all_goals first|rfl|(simp [au];done)|(simp [au];omega)


theorem Ge {a b c d x:Int} {q:Nat} (h:[a,b,c,d][q]?=some x):(q=0/\x=a)\/(q=1/\x=b)\/(q=2/\x=c)\/(q=3/\x=d):=by
  match q with
  |0=>left;simp_all
  |1=>right;left;simp_all
  |2=>right;right;left;simp_all
  |3=>right;right;right;simp_all
  |q+4=>simp at h

theorem oF (a:bB) (e:Int) (hr:bE a=e):Fn Try.prog 26 [(.g [(cI a.aK),(cI a.ay),(cI a.sum),(cI a.captured),(cI a.bw),(cI a.bg),(cI a.cO),(cB a.shut)])] (.v (.c (cI e))) []:=by
 refine Fn.mk' 71 [(0,(aG [(cI a.aK),(cI a.ay),(cI a.sum),(cI a.captured),(cI a.bw),(cI a.bg),(cI a.cO),(cB a.shut)]))] Try.func26 rfl rfl rfl rfl ?_
 intro W0 T0
 refine ad aa 2 rfl ?_
 refine af ?_
 refine aA aa 8 rfl ?_
 refine aL 2 [1,0] (dA (ys:=[(0,(.c (cI a.sum))),(1,(.c (cI a.captured))),(2,(.c (cI a.bw))),(3,(.c (cI a.bg)))]) (rows:=([a.sum,a.captured,a.bw,a.bg]).map rI) 1 lZ rfl (by decide) ⟨⟨rfl,rfl⟩,⟨rfl,rfl⟩,⟨rfl,rfl⟩,⟨rfl,rfl⟩,trivial⟩ rfl rfl rfl rfl) rfl ?_
 refine ax (dn rfl rfl rfl rfl rfl Try.underlying30) rfl ?_
 refine ab aa 1 rfl ?_
 refine ae ?_
 refine aU ?_
 refine ct (β:=Nat) (fun (q:Nat)=>⟨[(1,(aC (.p 0 0 0 0))),(13,(aC (.s 1 0 1 4))),(14,(aI 4)),(15,(aI (↑q:Int)))],[(1,(dF ([a.sum,a.captured,a.bw,a.bg]))),(0,(.box 67 [(cI a.aK),(cI a.ay),(cI a.sum),(cI a.captured),(cI a.bw),(cI a.bg),(cI a.cO),(cB a.shut)]))],2⟩) (fun (q:Nat)=>q<=4/\(0 < q->0<=a.sum/\a.sum<=1000000)/\(1 < q->0<=a.captured/\a.captured<=1000000)/\(2 < q->0<=a.bw/\a.bw<=1000000)/\(3 < q->0<=a.bg/\a.bg<=1000000)) (fun (q:Nat)=>4 - q) 0 ?_ ?_ ?_
 ·exact ⟨by omega,by omega,by omega,by omega,by omega⟩
 ·exact aD.bW id (by refine ⟨?_,?_,?_,?_,trivial⟩<;>first|rfl|(simp only [bm];done)|(congr 3;omega)|(congr 4;omega)|(simp only [bn];rfl)) (by refine ⟨?_,?_,trivial⟩<;>first|rfl|(simp only [bm];done)|(congr 3;omega)|(congr 4;omega)|(simp only [bn];rfl)) rfl
 rintro q ⟨hi0_0,hi0_1,hi0_2,hi0_3,hi0_4⟩
 refine ad aa 1 rfl ?_
 refine af ?_
 refine ag rfl (fun hc1=>?_) (fun hc1=>?_)
 ·
  have hc1':=of_decide_eq_true hc1
  refine aN ?_
  refine af ?_
  refine aU ?_
  refine eC ?_
  refine ax (bo (i:=q) rfl rfl rfl Try.underlying30 fH (by first|omega|(simp;done)|(simp;omega)) (by first|omega|(simp;done)|(simp;omega))) rfl ?_
  obtain ⟨x1,hx1⟩:=ck (xs:=([a.sum,a.captured,a.bw,a.bg]:List Int)) (i:=q) (by first|omega|(simp;done)|(simp;omega))
  have hx1v:=Ge hx1
  refine ax (eD rfl rfl rfl Try.underlying3 rfl (bu hx1) rfl) rfl ?_
  refine ab aa 1 rfl ?_
  refine ae ?_
  refine cp 24 ((decide (x1 < 0))||(decide (x1 > 1000000))) ?_ ?_
  ·
   refine aw ?_
   refine ab aa 3 rfl ?_
   refine bz (t:=21) rfl (fun hb2=>?_) (fun hb2=>?_)
   ·
    have hb2':=of_decide_eq_true hb2
    refine ab aa 3 rfl ?_
    refine ae ?_
    exact aD.bD 7 rfl rfl (by first|(simp [hb2];done)|(simp_all;done)|(exfalso;simp_all;done)|(simp_all;omega)) rfl
   have hb2':=of_decide_eq_false hb2
   refine ab aa 3 rfl ?_
   refine ae ?_
   exact aD.bD 7 rfl rfl (by first|(simp [hb2];done)|(simp_all;done)|(exfalso;simp_all;done)|(simp_all;omega)) rfl
  refine ag rfl (fun hc3=>?_) (fun hc3=>?_)
  ·
   have hc3':=hc3;try simp only [bj,bL] at hc3'
   refine ad aa 1 rfl ?_
   refine ar ?_
   refine bf ?_
   refine ao ?_
   refine ao ?_
   refine bf ?_
   refine ao ?_
   have hX:bE a=3:=by
     (unfold bE;try dsimp only);(repeat' split)<;>first|rfl|omega|(exfalso;omega)|(subst_vars;rfl)|(simp_all;done)|(simp_all;omega)
   rw [hX] at hr;clear hX
   subst hr
   refine ah aa [] 0 rfl rfl rfl rfl rfl rfl ?_ ?_
   all_goals first|rfl|(simp [au];done)|(simp [au];omega)
  have hc3':=hc3;try simp only [bj,bL] at hc3'
  refine cU ?_
  refine bl ?_
  refine then_ok ?_
  refine aw ?_
  refine ax (aJ rfl rfl rfl (aF (by first|omega|(simp;done)|(simp;omega)))) rfl ?_
  refine ab aa 1 rfl ?_
  refine ae ?_
  refine ⟨q+1,⟨by omega,by omega,by omega,by omega,by omega⟩,by first|omega|(simp;done)|(simp;omega),aD.bW id (by refine ⟨?_,?_,?_,?_,trivial⟩<;>first|rfl|(simp only [bm];done)|(congr 3;omega)|(congr 4;omega)|(simp only [bn];rfl)) (by refine ⟨?_,?_,trivial⟩<;>first|rfl|(simp only [bm];done)|(congr 3;omega)|(congr 4;omega)|(simp only [bn];rfl)) rfl⟩
 have hc1':=of_decide_eq_false hc1
 refine cm ?_
 refine aP ?_
 refine aP ?_
 refine bN ?_
 refine then_ok ?_
 refine af ?_
 refine aU ?_
 refine cp 26 ((((((decide (a.aK < 0))||(decide (a.aK>=8)))||(decide (a.ay < 0)))||(decide (a.ay>=8)))||(decide (a.cO < 0)))||(decide (a.cO > 1000100))) ?_ ?_
 ·
  refine aw ?_
  refine ab aa 4 rfl ?_
  refine bz (t:=30) rfl (fun hb4=>?_) (fun hb4=>?_)
  ·
   have hb4':=of_decide_eq_true hb4
   refine ab aa 25 rfl ?_
   refine ae ?_
   exact aD.bD 30 rfl rfl (by first|(simp [hb4];done)|(simp_all;done)|(exfalso;simp_all;done)|(simp_all;omega)) rfl
  have hb4':=of_decide_eq_false hb4
  refine ab aa 5 rfl ?_
  refine bz (t:=35) rfl (fun hb5=>?_) (fun hb5=>?_)
  ·
   have hb5':=of_decide_eq_true hb5
   refine ab aa 20 rfl ?_
   refine ae ?_
   exact aD.bD 31 rfl rfl (by first|(simp [hb4,hb5];done)|(simp_all;done)|(exfalso;simp_all;done)|(simp_all;omega)) rfl
  have hb5':=of_decide_eq_false hb5
  refine ab aa 5 rfl ?_
  refine bz (t:=40) rfl (fun hb6=>?_) (fun hb6=>?_)
  ·
   have hb6':=of_decide_eq_true hb6
   refine ab aa 15 rfl ?_
   refine ae ?_
   exact aD.bD 32 rfl rfl (by first|(simp [hb4,hb5,hb6];done)|(simp_all;done)|(exfalso;simp_all;done)|(simp_all;omega)) rfl
  have hb6':=of_decide_eq_false hb6
  refine ab aa 5 rfl ?_
  refine bz (t:=45) rfl (fun hb7=>?_) (fun hb7=>?_)
  ·
   have hb7':=of_decide_eq_true hb7
   refine ab aa 10 rfl ?_
   refine ae ?_
   exact aD.bD 33 rfl rfl (by first|(simp [hb4,hb5,hb6,hb7];done)|(simp_all;done)|(exfalso;simp_all;done)|(simp_all;omega)) rfl
  have hb7':=of_decide_eq_false hb7
  refine ab aa 5 rfl ?_
  refine bz (t:=50) rfl (fun hb8=>?_) (fun hb8=>?_)
  ·
   have hb8':=of_decide_eq_true hb8
   refine ab aa 5 rfl ?_
   refine ae ?_
   exact aD.bD 34 rfl rfl (by first|(simp [hb4,hb5,hb6,hb7,hb8];done)|(simp_all;done)|(exfalso;simp_all;done)|(simp_all;omega)) rfl
  have hb8':=of_decide_eq_false hb8
  refine ab aa 5 rfl ?_
  refine ae ?_
  exact aD.bD 34 rfl rfl (by first|(simp [hb4,hb5,hb6,hb7,hb8];done)|(simp_all;done)|(exfalso;simp_all;done)|(simp_all;omega)) rfl
 refine ag rfl (fun hc9=>?_) (fun hc9=>?_)
 ·
  have hc9':=hc9;try simp only [bj,bL] at hc9'
  refine ad aa 1 rfl ?_
  refine ar ?_
  refine bf ?_
  refine ao ?_
  have hX:bE a=3:=by
    (unfold bE;try dsimp only);(repeat' split)<;>first|rfl|omega|(exfalso;omega)|(subst_vars;rfl)|(simp_all;done)|(simp_all;omega)
  rw [hX] at hr;clear hX
  subst hr
  refine ah aa [] 0 rfl rfl rfl rfl rfl rfl ?_ ?_
  all_goals first|rfl|(simp [au];done)|(simp [au];omega)
 have hc9':=hc9;try simp only [bj,bL] at hc9'
 refine cp 55 ((decide (a.captured > a.sum))||(decide ((a.bw+a.bg) > a.captured))) ?_ ?_
 ·
  refine aw ?_
  refine ab aa 6 rfl ?_
  refine bz (t:=61) rfl (fun hb10=>?_) (fun hb10=>?_)
  ·
   have hb10':=of_decide_eq_true hb10
   refine ab aa 10 rfl ?_
   refine ae ?_
   exact aD.bD 17 rfl rfl (by first|(simp [hb10];done)|(simp_all;done)|(exfalso;simp_all;done)|(simp_all;omega)) rfl
  have hb10':=of_decide_eq_false hb10
  refine ab aa 4 rfl ?_
  refine dP (aj.yes rfl rfl rfl) (aJ rfl rfl rfl (aF (by first|omega|(simp;done)|(simp;omega)))) rfl rfl ?_
  refine ab aa 5 rfl ?_
  refine ae ?_
  exact aD.bD 17 rfl rfl (by first|(simp [hb10];done)|(simp_all;done)|(exfalso;simp_all;done)|(simp_all;omega)) rfl
 refine ag rfl (fun hc11=>?_) (fun hc11=>?_)
 ·
  have hc11':=hc11;try simp only [bj,bL] at hc11'
  refine ad aa 1 rfl ?_
  refine ar ?_
  refine bf ?_
  refine ao ?_
  have hX:bE a=8:=by
    (unfold bE;try dsimp only);(repeat' split)<;>first|rfl|omega|(exfalso;omega)|(subst_vars;rfl)|(simp_all;done)|(simp_all;omega)
  rw [hX] at hr;clear hX
  subst hr
  refine ah aa [] 0 rfl rfl rfl rfl rfl rfl ?_ ?_
  all_goals first|rfl|(simp [au];done)|(simp [au];omega)
 have hc11':=hc11;try simp only [bj,bL] at hc11'
 refine cU ?_
 refine bl ?_
 refine then_ok ?_
 refine ad aa 1 rfl ?_
 refine ar ?_
 have hX:bE a=0:=by
   (unfold bE;try dsimp only);(repeat' split)<;>first|rfl|omega|(exfalso;omega)|(subst_vars;rfl)|(simp_all;done)|(simp_all;omega)
 rw [hX] at hr;clear hX
 subst hr
 refine ah aa [] 0 rfl rfl rfl rfl rfl rfl ?_ ?_
 all_goals first|rfl|(simp [au];done)|(simp [au];omega)
theorem rp (aK ay n time:Int) (b:bB) (e:Int) (hr:cY aK ay n time=(b,e)):Fn Try.prog 79 [(.c (cI aK)),(.c (cI ay)),(.c (cI n)),(.c (cI time))] (.t [(.g [(cI b.aK),(cI b.ay),(cI b.sum),(cI b.captured),(cI b.bw),(cI b.bg),(cI b.cO),(cB b.shut)]),(.c (cI e))]) []:=by
 refine Fn.mk' 40 [(0,(aI aK)),(1,(aI ay)),(2,(aI n)),(3,(aI time))] Try.func79 rfl rfl rfl rfl ?_
 intro W0 T0
 refine ad aa 2 rfl ?_
 refine af ?_
 refine cp 25 ((((decide (n < 1))||(decide (n > 1000000)))||(decide (time < 0)))||(decide (time > 1000000))) ?_ ?_
 ·
  refine aw ?_
  refine ab aa 3 rfl ?_
  refine bz (t:=14) rfl (fun hb1=>?_) (fun hb1=>?_)
  ·
   have hb1':=of_decide_eq_true hb1
   refine ab aa 11 rfl ?_
   refine ae ?_
   exact aD.bD 15 rfl rfl (by first|(simp [hb1];done)|(simp_all;done)|(exfalso;simp_all;done)|(simp_all;omega)) rfl
  have hb1':=of_decide_eq_false hb1
  refine ab aa 4 rfl ?_
  refine bz (t:=18) rfl (fun hb2=>?_) (fun hb2=>?_)
  ·
   have hb2':=of_decide_eq_true hb2
   refine ab aa 7 rfl ?_
   refine ae ?_
   exact aD.bD 16 rfl rfl (by first|(simp [hb1,hb2];done)|(simp_all;done)|(exfalso;simp_all;done)|(simp_all;omega)) rfl
  have hb2':=of_decide_eq_false hb2
  refine ab aa 4 rfl ?_
  refine bz (t:=22) rfl (fun hb3=>?_) (fun hb3=>?_)
  ·
   have hb3':=of_decide_eq_true hb3
   refine ab aa 3 rfl ?_
   refine ae ?_
   exact aD.bD 17 rfl rfl (by first|(simp [hb1,hb2,hb3];done)|(simp_all;done)|(exfalso;simp_all;done)|(simp_all;omega)) rfl
  have hb3':=of_decide_eq_false hb3
  refine ab aa 3 rfl ?_
  refine ae ?_
  exact aD.bD 17 rfl rfl (by first|(simp [hb1,hb2,hb3];done)|(simp_all;done)|(exfalso;simp_all;done)|(simp_all;omega)) rfl
 refine ag rfl (fun hc4=>?_) (fun hc4=>?_)
 ·
  have hc4':=hc4;try simp only [bj,bL] at hc4'
  refine ad aa 3 rfl ?_
  refine ar ?_
  refine ao ?_
  have hX:cY aK ay n time=((⟨0,0,0,0,0,0,0,false⟩:bB),3):=by
    (try (unfold bE at hr0;dsimp only at hr0;(repeat' split at hr0)))<;>((unfold cY;try dsimp only);(repeat' split)<;>first|rfl|omega|(exfalso;omega)|(subst_vars;rfl)|(simp_all;done)|(simp_all;omega))
  rw [hX] at hr;clear hX
  simp only [Prod.mk.injEq] at hr;obtain ⟨rfl,rfl⟩:=hr
  refine ah aa [0] 0 rfl rfl rfl rfl rfl rfl ?_ ?_
  all_goals first|rfl|(simp [au];done)|(simp [au];omega)
 have hc4':=hc4;try simp only [bj,bL] at hc4'
 refine aN ?_
 refine aA aa 4 rfl ?_
 refine ax (aJ rfl rfl rfl (aF (by first|omega|(simp;done)|(simp;omega)))) rfl ?_
 refine ab aa 3 rfl ?_
 refine ae ?_
 refine af ?_
 refine aA aa 1 rfl ?_
 obtain ⟨e0,hr0⟩:∃ (e0:Int),bE (⟨aK,ay,n,0,0,0,time+100,false⟩:bB)=e0:=⟨_,rfl⟩
 refine aL 2 [1,0] (bO 2 (oF (⟨aK,ay,n,0,0,0,time+100,false⟩:bB) e0 hr0) Ep rfl rfl ⟨⟨_,rfl,.g ⟨.d _,.d _,.d _,.d _,.d _,.d _,.d _,.d _,trivial⟩⟩,trivial⟩ trivial trivial rfl rfl rfl rfl) rfl ?_
 refine ab aa 1 rfl ?_
 refine ae ?_
 refine ad aa 2 rfl ?_
 refine ag rfl (fun hc5=>?_) (fun hc5=>?_)
 ·
  have hc5':=of_decide_eq_true hc5
  refine ad aa 4 rfl ?_
  refine ar ?_
  refine ao ?_
  have hX:cY aK ay n time=((⟨0,0,0,0,0,0,0,false⟩:bB),e0):=by
    (try (unfold bE at hr0;dsimp only at hr0;(repeat' split at hr0)))<;>((unfold cY;try dsimp only);(repeat' split)<;>first|rfl|omega|(exfalso;omega)|(subst_vars;rfl)|(simp_all;done)|(simp_all;omega))
  rw [hX] at hr;clear hX
  simp only [Prod.mk.injEq] at hr;obtain ⟨rfl,rfl⟩:=hr
  refine ah aa [0] 0 rfl rfl rfl rfl rfl rfl ?_ ?_
  all_goals first|rfl|(simp [au];done)|(simp [au];omega)
 have hc5':=of_decide_eq_false hc5
 refine aN ?_
 refine ad aa 3 rfl ?_
 refine ar ?_
 have hX:cY aK ay n time=((⟨aK,ay,n,0,0,0,time+100,false⟩:bB),0):=by
   (try (unfold bE at hr0;dsimp only at hr0;(repeat' split at hr0)))<;>((unfold cY;try dsimp only);(repeat' split)<;>first|rfl|omega|(exfalso;omega)|(subst_vars;rfl)|(simp_all;done)|(simp_all;omega))
 rw [hX] at hr;clear hX
 simp only [Prod.mk.injEq] at hr;obtain ⟨rfl,rfl⟩:=hr
 refine ah aa [0] 0 rfl rfl rfl rfl rfl rfl ?_ ?_
 all_goals first|rfl|(simp [au];done)|(simp [au];omega)

theorem wv (a:bB) (t:Int) (b:bB) (hr:ed a t=b):Fn Try.prog 104 [(.g [(cI a.aK),(cI a.ay),(cI a.sum),(cI a.captured),(cI a.bw),(cI a.bg),(cI a.cO),(cB a.shut)]),(.c (cI t))] (.v (.g [(cI b.aK),(cI b.ay),(cI b.sum),(cI b.captured),(cI b.bw),(cI b.bg),(cI b.cO),(cB b.shut)])) []:=by
 refine Fn.mk' 11 [(0,(aG [(cI a.aK),(cI a.ay),(cI a.sum),(cI a.captured),(cI a.bw),(cI a.bg),(cI a.cO),(cB a.shut)])),(1,(aI t))] Try.func104 rfl rfl rfl rfl ?_
 intro W0 T0
 refine ad aa 2 rfl ?_
 refine af ?_
 refine ad aa 4 rfl ?_
 refine ag rfl (fun hc1=>?_) (fun hc1=>?_)
 ·
  have hc1':=of_decide_eq_true hc1
  refine aw ?_
  refine ab aa 2 rfl ?_
  refine ae ?_
  refine ad aa 2 rfl ?_
  refine ar ?_
  have hX:ed a t=(⟨a.aK,a.ay,a.sum,a.captured,a.bw,a.bg,a.cO,true⟩:bB):=by
    refine vG rfl rfl rfl rfl rfl rfl rfl ?_;by_cases hT:a.cO<=t<;>first|(exfalso;omega)|simp [ed,hT]
  rw [hX] at hr;clear hX
  subst hr
  refine ah aa [1] 0 rfl rfl rfl rfl rfl rfl ?_ ?_
  all_goals first|rfl|(simp [au];done)|(simp [au];omega)
 have hc1':=of_decide_eq_false hc1
 refine aN ?_
 refine ad aa 2 rfl ?_
 refine ar ?_
 have hX:ed a t=a:=by
   refine vG rfl rfl rfl rfl rfl rfl rfl ?_;by_cases hT:a.cO<=t<;>first|(exfalso;omega)|simp [ed,hT]
 rw [hX] at hr;clear hX
 subst hr
 refine ah aa [1] 0 rfl rfl rfl rfl rfl rfl ?_ ?_
 all_goals first|rfl|(simp [au];done)|(simp [au];omega)
theorem kg (a:bB) (ha:bE a=0) (e:Int) (hr:bq a=e):Fn Try.prog 27 [(.g [(cI a.aK),(cI a.ay),(cI a.sum),(cI a.captured),(cI a.bw),(cI a.bg),(cI a.cO),(cB a.shut)])] (.v (.c (cI e))) []:=by
 refine Fn.mk' 10 [(0,(aG [(cI a.aK),(cI a.ay),(cI a.sum),(cI a.captured),(cI a.bw),(cI a.bg),(cI a.cO),(cB a.shut)]))] Try.func27 rfl rfl rfl rfl ?_
 intro W0 T0
 have hw:=eJ ha
 refine ad aa 2 rfl ?_
 refine af ?_
 refine ad aa 2 rfl ?_
 refine ag rfl (fun hc1=>?_) (fun hc1=>?_)
 ·
  have hc1':=hc1;try simp only [bj,bL] at hc1'
  refine ad aa 1 rfl ?_
  refine ar ?_
  refine ao ?_
  have hX:bq a=0:=by
    (unfold bq;try dsimp only);(repeat' split)<;>first|rfl|omega|(exfalso;omega)|(subst_vars;rfl)|(simp_all;done)|(simp_all;omega)
  rw [hX] at hr;clear hX
  subst hr
  refine ah aa [] 0 rfl rfl rfl rfl rfl rfl ?_ ?_
  all_goals first|rfl|(simp [au];done)|(simp [au];omega)
 have hc1':=hc1;try simp only [bj,bL] at hc1'
 refine aN ?_
 refine aA aa 4 rfl ?_
 refine ax (aJ rfl rfl rfl (aF (by first|omega|(simp;done)|(simp;omega)))) rfl ?_
 refine ab aa 1 rfl ?_
 refine ae ?_
 refine ar ?_
 have hX:bq a=(a.sum - a.captured):=by
   (unfold bq;try dsimp only);(repeat' split)<;>first|rfl|omega|(exfalso;omega)|(subst_vars;rfl)|(simp_all;done)|(simp_all;omega)
 rw [hX] at hr;clear hX
 subst hr
 refine ah aa [] 0 rfl rfl rfl rfl rfl rfl ?_ ?_
 all_goals first|rfl|(simp [au];done)|(simp [au];omega)
theorem pE (a:bB) (h:bE a=0):cz Try.prog 101 [(.c (.p 0 0 0 0))] [(0,(.box 67 [(cI a.aK),(cI a.ay),(cI a.sum),(cI a.captured),(cI a.bw),(cI a.bg),(cI a.cO),(cB a.shut)]))] [0] (aI (a.captured - a.bw - a.bg)) [(0,(.box 67 [(cI a.aK),(cI a.ay),(cI a.sum),(cI a.captured),(cI a.bw),(cI a.bg),(cI a.cO),(cB a.shut)]))]:=by
 refine cz.mk 17 [(0,(aC (.p 0 0 0 0)))] 1 Try.func101 rfl rfl rfl rfl rfl rfl rfl rfl rfl ?_
 intro W0 F0 T0 pg
 have hw:=eJ h
 refine ad aa 1 rfl ?_
 refine af ?_
 refine bb [0] [0] mixed rfl rfl ?_
 refine az (kn:=[]) aa 8 rfl trivial ?_
 refine aT (n':=1) [6,10] [] rfl rfl (.inl ⟨(aj.plain rfl),aH.cast (aJ rfl rfl rfl (aF (by first|omega|(simp;done)|(simp;omega)))) rfl⟩) rfl ?_
 refine az (kn:=[]) aa 4 rfl trivial ?_
 refine aT (n':=1) [11,15] [] rfl rfl (.inl ⟨(aj.plain rfl),aH.cast (aJ rfl rfl rfl (aF (by first|omega|(simp;done)|(simp;omega)))) rfl⟩) rfl ?_
 refine az (kn:=[]) aa 1 rfl trivial ?_
 refine bA [0] rfl rfl rfl rfl (by kernel_rfl) ?_
 refine ae ?_
 refine ar ?_
 refine ah aa [0] 1 rfl rfl rfl rfl rfl rfl ?_ ?_
 all_goals first|rfl|(simp [au];done)|(simp [au];omega)
theorem wq (a:bB) (kind n:Int) (h:bE a=0) (h1:1<=n) (h2:n<=1000000) (b:bB) (e:Int) (hr:dh a kind n=(b,e)):cz Try.prog 102 [(.c (.p 0 0 0 0)),(.c (cI kind)),(.c (cI n))] [(0,(.box 67 [(cI a.aK),(cI a.ay),(cI a.sum),(cI a.captured),(cI a.bw),(cI a.bg),(cI a.cO),(cB a.shut)]))] [0] (.v (.c (cI e))) [(0,(.box 67 [(cI b.aK),(cI b.ay),(cI b.sum),(cI b.captured),(cI b.bw),(cI b.bg),(cI b.cO),(cB b.shut)]))]:=by
 refine cz.mk 91 [(0,(aC (.p 0 0 0 0))),(1,(aI kind)),(2,(aI n))] 1 Try.func102 rfl rfl rfl rfl rfl rfl rfl rfl rfl ?_
 intro W0 F0 T0 pg
 have hw:=eJ h
 refine ad aa 1 rfl ?_
 refine af ?_
 refine bb [0,1,2] [0] mixed rfl rfl ?_
 refine az (kn:=[]) aa 8 rfl trivial ?_
 refine aT (n':=1) [11,15] [] rfl rfl (.inl ⟨(aj.plain rfl),aH.cast (aJ rfl rfl rfl (aF (by first|omega|(simp;done)|(simp;omega)))) rfl⟩) rfl ?_
 refine az (kn:=[]) aa 1 rfl trivial ?_
 refine bA [0] rfl rfl rfl rfl (by kernel_rfl) ?_
 refine ae ?_
 refine af ?_
 refine aU ?_
 refine ad aa 5 rfl ?_
 refine ag rfl (fun hc1=>?_) (fun hc1=>?_)
 ·
  have hc1':=hc1;try simp only [bj,bL] at hc1'
  refine ad aa 1 rfl ?_
  refine ar ?_
  refine bf ?_
  refine ao ?_
  have hX:dh a kind n=(a,9):=by
    (unfold dh;try dsimp only);(repeat' split)<;>first|rfl|omega|(exfalso;omega)|(subst_vars;rfl)|(simp_all;done)|(simp_all;omega)
  rw [hX] at hr;clear hX
  simp only [Prod.mk.injEq] at hr;obtain ⟨rfl,rfl⟩:=hr
  refine ah aa [0] 1 rfl rfl rfl rfl rfl rfl ?_ ?_
  all_goals first|rfl|(simp [au];done)|(simp [au];omega)
 have hc1':=hc1;try simp only [bj,bL] at hc1'
 refine ad aa 3 rfl ?_
 refine ag rfl (fun hc2=>?_) (fun hc2=>?_)
 ·
  have hc2':=of_decide_eq_true hc2
  refine af ?_
  refine aA aa 5 rfl ?_
  refine ax (aJ rfl rfl rfl (aF (by first|omega|(simp;done)|(simp;omega)))) rfl ?_
  refine ab aa 1 rfl ?_
  refine ae ?_
  refine ag rfl (fun hc3=>?_) (fun hc3=>?_)
  ·
   have hc3':=of_decide_eq_true hc3
   refine ad aa 1 rfl ?_
   refine ar ?_
   refine ao ?_
   refine bf ?_
   refine ao ?_
   have hX:dh a kind n=(a,4):=by
     (unfold dh;try dsimp only);(repeat' split)<;>first|rfl|omega|(exfalso;omega)|(subst_vars;rfl)|(simp_all;done)|(simp_all;omega)
   rw [hX] at hr;clear hX
   simp only [Prod.mk.injEq] at hr;obtain ⟨rfl,rfl⟩:=hr
   refine ah aa [0] 1 rfl rfl rfl rfl rfl rfl ?_ ?_
   all_goals first|rfl|(simp [au];done)|(simp [au];omega)
  have hc3':=of_decide_eq_false hc3
  refine aN ?_
  refine aA aa 5 rfl ?_
  refine ax (aJ rfl rfl rfl (aF (by first|omega|(simp;done)|(simp;omega)))) rfl ?_
  refine ab aa 3 rfl ?_
  refine ae ?_
  refine ad aa 1 rfl ?_
  refine ar ?_
  refine bf ?_
  refine ao ?_
  have hX:dh a kind n=((⟨a.aK,a.ay,a.sum+n,a.captured,a.bw,a.bg,a.cO,a.shut⟩:bB),0):=by
    (unfold dh;try dsimp only);(repeat' split)<;>first|rfl|omega|(exfalso;omega)|(subst_vars;rfl)|(simp_all;done)|(simp_all;omega)
  rw [hX] at hr;clear hX
  simp only [Prod.mk.injEq] at hr;obtain ⟨rfl,rfl⟩:=hr
  refine ah aa [0] 1 rfl rfl rfl rfl rfl rfl ?_ ?_
  all_goals first|rfl|(simp [au];done)|(simp [au];omega)
 have hc2':=of_decide_eq_false hc2
 refine ad aa 4 rfl ?_
 refine ag rfl (fun hc4=>?_) (fun hc4=>?_)
 ·
  have hc4':=of_decide_eq_true hc4
  refine ad aa 1 rfl ?_
  refine ar ?_
  refine bf ?_
  refine ao ?_
  have hX:dh a kind n=(a,10):=by
    (unfold dh;try dsimp only);(repeat' split)<;>first|rfl|omega|(exfalso;omega)|(subst_vars;rfl)|(simp_all;done)|(simp_all;omega)
  rw [hX] at hr;clear hX
  simp only [Prod.mk.injEq] at hr;obtain ⟨rfl,rfl⟩:=hr
  refine ah aa [0] 1 rfl rfl rfl rfl rfl rfl ?_ ?_
  all_goals first|rfl|(simp [au];done)|(simp [au];omega)
 have hc4':=of_decide_eq_false hc4
 refine ad aa 3 rfl ?_
 refine ag rfl (fun hc5=>?_) (fun hc5=>?_)
 ·
  have hc5':=of_decide_eq_true hc5
  refine aA aa 5 rfl ?_
  refine ax (aJ rfl rfl rfl (aF (by first|omega|(simp;done)|(simp;omega)))) rfl ?_
  refine ab aa 3 rfl ?_
  refine ae ?_
  refine af ?_
  refine bb [0,1,2] [0] mixed rfl rfl ?_
  refine az (kn:=[]) aa 12 rfl trivial ?_
  refine bA [0] rfl rfl rfl rfl (by kernel_rfl) ?_
  refine ab aa 1 rfl ?_
  refine ae ?_
  refine ad aa 1 rfl ?_
  refine ar ?_
  refine bf ?_
  refine ao ?_
  have hX:dh a kind n=((⟨a.aK,a.ay,a.sum - n,a.captured,a.bw,a.bg,a.cO,decide ((a.sum - n)=a.captured)⟩:bB),0):=by
    (unfold dh;try dsimp only);(repeat' split)<;>first|rfl|omega|(exfalso;omega)|(subst_vars;rfl)|(simp_all;done)|(simp_all;omega)
  rw [hX] at hr;clear hX
  simp only [Prod.mk.injEq] at hr;obtain ⟨rfl,rfl⟩:=hr
  refine ah aa [0] 1 rfl rfl rfl rfl rfl rfl ?_ ?_
  all_goals first|rfl|(simp [au];done)|(simp [au];omega)
 have hc5':=of_decide_eq_false hc5
 refine cU ?_
 refine bl ?_
 refine then_ok ?_
 refine aA aa 5 rfl ?_
 refine ax (aJ rfl rfl rfl (aF (by first|omega|(simp;done)|(simp;omega)))) rfl ?_
 refine ab aa 3 rfl ?_
 refine ae ?_
 refine af ?_
 rcases Bool.eq_false_or_eq_true (decide (kind=3)) with hb6|hb6
 ·
  have hb6':=of_decide_eq_true hb6
  refine bb [0,1] [0] mixed rfl rfl ?_
  refine az (kn:=[(77,true)]) aa 16 rfl ⟨hb6,trivial⟩ ?_
  refine bA [0] rfl rfl rfl rfl (by kernel_rfl) ?_
  refine ab aa 1 rfl ?_
  refine ae ?_
  refine ad aa 1 rfl ?_
  refine ar ?_
  have hX:dh a kind n=((⟨a.aK,a.ay,a.sum,a.captured+n,a.bw,a.bg,a.cO,true⟩:bB),0):=by
    (unfold dh;try dsimp only);(repeat' split)<;>first|rfl|omega|(exfalso;omega)|(subst_vars;rfl)|(simp_all;done)|(simp_all;omega)
  rw [hX] at hr;clear hX
  simp only [Prod.mk.injEq] at hr;obtain ⟨rfl,rfl⟩:=hr
  refine ah aa [0] 1 rfl rfl rfl rfl rfl rfl ?_ ?_
  all_goals first|rfl|(simp [au];done)|(simp [au];omega)
 have hb6':=of_decide_eq_false hb6
 refine bb [0,1] [0] mixed rfl rfl ?_
 refine az (kn:=[(77,false)]) aa 16 rfl ⟨hb6,trivial⟩ ?_
 refine bA [0] rfl rfl rfl rfl (by kernel_rfl) ?_
 refine ab aa 1 rfl ?_
 refine ae ?_
 refine ad aa 1 rfl ?_
 refine ar ?_
 have hX:dh a kind n=((⟨a.aK,a.ay,a.sum,a.captured+n,a.bw,a.bg,a.cO,decide ((a.captured+n)=a.sum)⟩:bB),0):=by
   (unfold dh;try dsimp only);(repeat' split)<;>first|rfl|omega|(exfalso;omega)|(subst_vars;rfl)|(simp_all;done)|(simp_all;omega)
 rw [hX] at hr;clear hX
 simp only [Prod.mk.injEq] at hr;obtain ⟨rfl,rfl⟩:=hr
 refine ah aa [0] 1 rfl rfl rfl rfl rfl rfl ?_ ?_
 all_goals first|rfl|(simp [au];done)|(simp [au];omega)
theorem wu (a:bB) (kind n:Int) (b:bB) (e:Int) (hr:bZ a kind n=(b,e)):Fn Try.prog 81 [(.g [(cI a.aK),(cI a.ay),(cI a.sum),(cI a.captured),(cI a.bw),(cI a.bg),(cI a.cO),(cB a.shut)]),(.c (cI kind)),(.c (cI n))] (.t [(.g [(cI b.aK),(cI b.ay),(cI b.sum),(cI b.captured),(cI b.bw),(cI b.bg),(cI b.cO),(cB b.shut)]),(.c (cI e))]) []:=by
 refine Fn.mk' 76 [(0,(aG [(cI a.aK),(cI a.ay),(cI a.sum),(cI a.captured),(cI a.bw),(cI a.bg),(cI a.cO),(cB a.shut)])),(1,(aI kind)),(2,(aI n))] Try.func81 rfl rfl rfl rfl ?_
 intro W0 T0
 have hw:=@eJ a
 refine ad aa 3 rfl ?_
 refine af ?_
 refine aA aa 1 rfl ?_
 obtain ⟨e0,hr0⟩:∃ (e0:Int),bE a=e0:=⟨_,rfl⟩
 refine aL 2 [1,0] (bO 2 (oF a e0 hr0) Ep rfl rfl ⟨⟨_,rfl,.g ⟨.d _,.d _,.d _,.d _,.d _,.d _,.d _,.d _,trivial⟩⟩,trivial⟩ trivial trivial rfl rfl rfl rfl) rfl ?_
 refine ab aa 1 rfl ?_
 refine ae ?_
 refine ad aa 2 rfl ?_
 refine ag rfl (fun hc1=>?_) (fun hc1=>?_)
 ·
  have hc1':=of_decide_eq_true hc1
  refine ad aa 4 rfl ?_
  refine ar ?_
  refine ao ?_
  have hX:bZ a kind n=((⟨0,0,0,0,0,0,0,false⟩:bB),e0):=by
    (unfold bZ;try dsimp only);(try simp only [hr0]);(repeat' split)<;>first|rfl|omega|(exfalso;omega)|(subst_vars;rfl)|(simp_all;done)|(simp_all;omega)
  rw [hX] at hr;clear hX
  simp only [Prod.mk.injEq] at hr;obtain ⟨rfl,rfl⟩:=hr
  refine ah aa [1] 0 rfl rfl rfl rfl rfl rfl ?_ ?_
  all_goals first|rfl|(simp [au];done)|(simp [au];omega)
 have hc1':=of_decide_eq_false hc1
 refine aN ?_
 refine af ?_
 refine cp 21 ((decide (kind < 1))||(decide (kind > 8))) ?_ ?_
 ·
  refine aw ?_
  refine ab aa 3 rfl ?_
  refine bz (t:=18) rfl (fun hb2=>?_) (fun hb2=>?_)
  ·
   have hb2':=of_decide_eq_true hb2
   refine ab aa 3 rfl ?_
   refine ae ?_
   exact aD.bD 7 rfl rfl (by first|(simp [hb2];done)|(simp_all;done)|(exfalso;simp_all;done)|(simp_all;omega)) rfl
  have hb2':=of_decide_eq_false hb2
  refine ab aa 3 rfl ?_
  refine ae ?_
  exact aD.bD 7 rfl rfl (by first|(simp [hb2];done)|(simp_all;done)|(exfalso;simp_all;done)|(simp_all;omega)) rfl
 refine ag rfl (fun hc3=>?_) (fun hc3=>?_)
 ·
  have hc3':=hc3;try simp only [bj,bL] at hc3'
  refine ad aa 3 rfl ?_
  refine ar ?_
  refine ao ?_
  have hX:bZ a kind n=((⟨0,0,0,0,0,0,0,false⟩:bB),1):=by
    (unfold bZ;try dsimp only);(try simp only [hr0]);(repeat' split)<;>first|rfl|omega|(exfalso;omega)|(subst_vars;rfl)|(simp_all;done)|(simp_all;omega)
  rw [hX] at hr;clear hX
  simp only [Prod.mk.injEq] at hr;obtain ⟨rfl,rfl⟩:=hr
  refine ah aa [1] 0 rfl rfl rfl rfl rfl rfl ?_ ?_
  all_goals first|rfl|(simp [au];done)|(simp [au];omega)
 have hc3':=hc3;try simp only [bj,bL] at hc3'
 refine aN ?_
 refine af ?_
 refine cp 28 ((decide (n < 1))||(decide (n > 1000000))) ?_ ?_
 ·
  refine aw ?_
  refine ab aa 3 rfl ?_
  refine bz (t:=25) rfl (fun hb4=>?_) (fun hb4=>?_)
  ·
   have hb4':=of_decide_eq_true hb4
   refine ab aa 3 rfl ?_
   refine ae ?_
   exact aD.bD 7 rfl rfl (by first|(simp [hb4];done)|(simp_all;done)|(exfalso;simp_all;done)|(simp_all;omega)) rfl
  have hb4':=of_decide_eq_false hb4
  refine ab aa 3 rfl ?_
  refine ae ?_
  exact aD.bD 7 rfl rfl (by first|(simp [hb4];done)|(simp_all;done)|(exfalso;simp_all;done)|(simp_all;omega)) rfl
 refine ag rfl (fun hc5=>?_) (fun hc5=>?_)
 ·
  have hc5':=hc5;try simp only [bj,bL] at hc5'
  refine ad aa 3 rfl ?_
  refine ar ?_
  refine ao ?_
  have hX:bZ a kind n=((⟨0,0,0,0,0,0,0,false⟩:bB),3):=by
    (unfold bZ;try dsimp only);(try simp only [hr0]);(repeat' split)<;>first|rfl|omega|(exfalso;omega)|(subst_vars;rfl)|(simp_all;done)|(simp_all;omega)
  rw [hX] at hr;clear hX
  simp only [Prod.mk.injEq] at hr;obtain ⟨rfl,rfl⟩:=hr
  refine ah aa [1] 0 rfl rfl rfl rfl rfl rfl ?_ ?_
  all_goals first|rfl|(simp [au];done)|(simp [au];omega)
 have hc5':=hc5;try simp only [bj,bL] at hc5'
 refine aN ?_
 refine ad aa 1 rfl ?_
 refine af ?_
 refine ad aa 1 rfl ?_
 refine aU ?_
 refine af ?_
 refine ad aa 2 rfl ?_
 refine ag rfl (fun hc6=>?_) (fun hc6=>?_)
 ·
  have hc6':=of_decide_eq_true hc6
  refine aN ?_
  refine ag rfl (fun _=>?_) (fun hno=>absurd (hc6.symm.trans hno) (by decide))
  refine aA aa 1 rfl ?_
  refine aL 2 [0,1] (cx id id (pE a (by first|assumption|omega)) Cn rfl rfl ⟨⟨_,rfl,.inl ⟨rfl,rfl⟩⟩,trivial⟩ ⟨rfl,trivial⟩ rfl rfl rfl rfl rfl rfl trivial ⟨⟨trivial,trivial,trivial,trivial,trivial,trivial,trivial,trivial,trivial⟩,trivial⟩ rfl rfl rfl rfl) rfl ?_
  refine ab aa 1 rfl ?_
  refine ae ?_
  refine ag rfl (fun hc8=>?_) (fun hc8=>?_)
  ·
   have hc8':=of_decide_eq_true hc8
   refine aw ?_
   refine ab aa 1 rfl ?_
   refine bY ?_
   refine bl ?_
   refine then_ok ?_
   refine af ?_
   refine aA aa 1 rfl ?_
   refine ax (aJ rfl rfl rfl (show _=some (Value.bool true) from rfl)) rfl ?_
   refine ae ?_
   refine ag rfl (fun _=>?_) (fun hno=>by cases hno)
   refine ad aa 4 rfl ?_
   refine ar ?_
   refine ao ?_
   have hX:bZ a kind n=((⟨0,0,0,0,0,0,0,false⟩:bB),10):=by
     (unfold bZ;try dsimp only);(try simp only [hr0]);(repeat' split)<;>first|rfl|omega|(exfalso;omega)|(subst_vars;rfl)|(simp_all;done)|(simp_all;omega)
   rw [hX] at hr;clear hX
   simp only [Prod.mk.injEq] at hr;obtain ⟨rfl,rfl⟩:=hr
   refine ah aa [1] 0 rfl rfl rfl rfl rfl rfl ?_ ?_
   all_goals first|rfl|(simp [au];done)|(simp [au];omega)
  have hc8':=of_decide_eq_false hc8
  refine ad aa 2 rfl ?_
  refine ag rfl (fun _=>?_) (fun hno=>absurd (hc6.symm.trans hno) (by decide))
  refine aw ?_
  refine ab aa 3 rfl ?_
  refine ax (aJ rfl rfl rfl (aF (by first|omega|(simp;done)|(simp;omega)))) rfl ?_
  refine ab aa 2 rfl ?_
  refine bY ?_
  refine bl ?_
  refine then_ok ?_
  refine af ?_
  refine aA aa 1 rfl ?_
  refine ax (aJ rfl rfl rfl (show _=some (Value.bool false) from rfl)) rfl ?_
  refine ae ?_
  refine ag rfl (fun hno=>by cases hno) (fun _=>?_)
  refine aN ?_
  refine ad aa 3 rfl ?_
  refine ar ?_
  have hX:bZ a kind n=((⟨a.aK,a.ay,a.sum,a.captured,a.bw+n,a.bg,a.cO,a.shut⟩:bB),0):=by
    (unfold bZ;try dsimp only);(try simp only [hr0]);(repeat' split)<;>first|rfl|omega|(exfalso;omega)|(subst_vars;rfl)|(simp_all;done)|(simp_all;omega)
  rw [hX] at hr;clear hX
  simp only [Prod.mk.injEq] at hr;obtain ⟨rfl,rfl⟩:=hr
  refine ah aa [1] 0 rfl rfl rfl rfl rfl rfl ?_ ?_
  all_goals first|rfl|(simp [au];done)|(simp [au];omega)
 have hc6':=of_decide_eq_false hc6
 refine aw ?_
 refine ab aa 2 rfl ?_
 refine ae ?_
 refine ag rfl (fun hc12=>?_) (fun hc12=>?_)
 ·
  have hc12':=of_decide_eq_true hc12
  refine aA aa 1 rfl ?_
  refine aL 2 [0,1] (cx id id (pE a (by first|assumption|omega)) Cn rfl rfl ⟨⟨_,rfl,.inl ⟨rfl,rfl⟩⟩,trivial⟩ ⟨rfl,trivial⟩ rfl rfl rfl rfl rfl rfl trivial ⟨⟨trivial,trivial,trivial,trivial,trivial,trivial,trivial,trivial,trivial⟩,trivial⟩ rfl rfl rfl rfl) rfl ?_
  refine ab aa 1 rfl ?_
  refine ae ?_
  refine ag rfl (fun hc13=>?_) (fun hc13=>?_)
  ·
   have hc13':=of_decide_eq_true hc13
   refine aw ?_
   refine ab aa 1 rfl ?_
   refine bY ?_
   refine bl ?_
   refine then_ok ?_
   refine af ?_
   refine aA aa 1 rfl ?_
   refine ax (aJ rfl rfl rfl (show _=some (Value.bool true) from rfl)) rfl ?_
   refine ae ?_
   refine ag rfl (fun _=>?_) (fun hno=>by cases hno)
   refine ad aa 4 rfl ?_
   refine ar ?_
   refine ao ?_
   have hX:bZ a kind n=((⟨0,0,0,0,0,0,0,false⟩:bB),10):=by
     (unfold bZ;try dsimp only);(try simp only [hr0]);(repeat' split)<;>first|rfl|omega|(exfalso;omega)|(subst_vars;rfl)|(simp_all;done)|(simp_all;omega)
   rw [hX] at hr;clear hX
   simp only [Prod.mk.injEq] at hr;obtain ⟨rfl,rfl⟩:=hr
   refine ah aa [1] 0 rfl rfl rfl rfl rfl rfl ?_ ?_
   all_goals first|rfl|(simp [au];done)|(simp [au];omega)
  have hc13':=of_decide_eq_false hc13
  refine ad aa 2 rfl ?_
  refine ag rfl (fun hno=>absurd (hc6.symm.trans hno) (by decide)) (fun _=>?_)
  refine aw ?_
  refine ab aa 3 rfl ?_
  refine ax (aJ rfl rfl rfl (aF (by first|omega|(simp;done)|(simp;omega)))) rfl ?_
  refine ab aa 2 rfl ?_
  refine bY ?_
  refine bl ?_
  refine then_ok ?_
  refine af ?_
  refine aA aa 1 rfl ?_
  refine ax (aJ rfl rfl rfl (show _=some (Value.bool false) from rfl)) rfl ?_
  refine ae ?_
  refine ag rfl (fun hno=>by cases hno) (fun _=>?_)
  refine aN ?_
  refine ad aa 3 rfl ?_
  refine ar ?_
  have hX:bZ a kind n=((⟨a.aK,a.ay,a.sum,a.captured,a.bw,a.bg+n,a.cO,a.shut⟩:bB),0):=by
    (unfold bZ;try dsimp only);(try simp only [hr0]);(repeat' split)<;>first|rfl|omega|(exfalso;omega)|(subst_vars;rfl)|(simp_all;done)|(simp_all;omega)
  rw [hX] at hr;clear hX
  simp only [Prod.mk.injEq] at hr;obtain ⟨rfl,rfl⟩:=hr
  refine ah aa [1] 0 rfl rfl rfl rfl rfl rfl ?_ ?_
  all_goals first|rfl|(simp [au];done)|(simp [au];omega)
 have hc12':=of_decide_eq_false hc12
 refine af ?_
 refine ad aa 2 rfl ?_
 refine ag rfl (fun hc17=>?_) (fun hc17=>?_)
 ·
  have hc17':=of_decide_eq_true hc17
  refine aN ?_
  refine ag rfl (fun _=>?_) (fun hno=>absurd (hc17.symm.trans hno) (by decide))
  refine af ?_
  refine ad aa 4 rfl ?_
  refine ag rfl (fun hc19=>?_) (fun hc19=>?_)
  ·
   have hc19':=of_decide_eq_true hc19
   refine ad aa 1 rfl ?_
   refine cm ?_
   refine aP ?_
   refine bN ?_
   refine then_ok ?_
   refine af ?_
   refine aA aa 1 rfl ?_
   refine ax (aJ rfl rfl rfl (show _=some (Value.bool true) from rfl)) rfl ?_
   refine ae ?_
   refine ag rfl (fun _=>?_) (fun hno=>by cases hno)
   refine ad aa 4 rfl ?_
   refine ar ?_
   refine ao ?_
   have hX:bZ a kind n=((⟨0,0,0,0,0,0,0,false⟩:bB),10):=by
     (unfold bZ;try dsimp only);(try simp only [hr0]);(repeat' split)<;>first|rfl|omega|(exfalso;omega)|(subst_vars;rfl)|(simp_all;done)|(simp_all;omega)
   rw [hX] at hr;clear hX
   simp only [Prod.mk.injEq] at hr;obtain ⟨rfl,rfl⟩:=hr
   refine ah aa [1] 0 rfl rfl rfl rfl rfl rfl ?_ ?_
   all_goals first|rfl|(simp [au];done)|(simp [au];omega)
  have hc19':=of_decide_eq_false hc19
  refine aN ?_
  refine aA aa 3 rfl ?_
  refine ax (aJ rfl rfl rfl (aF (by first|omega|(simp;done)|(simp;omega)))) rfl ?_
  refine ab aa 2 rfl ?_
  refine ae ?_
  refine ad aa 2 rfl ?_
  refine ag rfl (fun _=>?_) (fun hno=>absurd (hc17.symm.trans hno) (by decide))
  refine aw ?_
  refine ab aa 3 rfl ?_
  refine ax (aJ rfl rfl rfl (aF (by first|omega|(simp;done)|(simp;omega)))) rfl ?_
  refine ab aa 2 rfl ?_
  refine bY ?_
  refine bl ?_
  refine then_ok ?_
  refine af ?_
  refine aA aa 1 rfl ?_
  refine ax (aJ rfl rfl rfl (show _=some (Value.bool false) from rfl)) rfl ?_
  refine ae ?_
  refine ag rfl (fun hno=>by cases hno) (fun _=>?_)
  refine aN ?_
  refine ad aa 3 rfl ?_
  refine ar ?_
  have hX:bZ a kind n=((⟨a.aK,a.ay,a.sum,a.captured,a.bw+n,a.bg - n,a.cO,a.shut⟩:bB),0):=by
    (unfold bZ;try dsimp only);(try simp only [hr0]);(repeat' split)<;>first|rfl|omega|(exfalso;omega)|(subst_vars;rfl)|(simp_all;done)|(simp_all;omega)
  rw [hX] at hr;clear hX
  simp only [Prod.mk.injEq] at hr;obtain ⟨rfl,rfl⟩:=hr
  refine ah aa [1] 0 rfl rfl rfl rfl rfl rfl ?_ ?_
  all_goals first|rfl|(simp [au];done)|(simp [au];omega)
 have hc17':=of_decide_eq_false hc17
 refine aw ?_
 refine ab aa 2 rfl ?_
 refine ae ?_
 refine ag rfl (fun hc23=>?_) (fun hc23=>?_)
 ·
  have hc23':=of_decide_eq_true hc23
  refine af ?_
  refine ad aa 4 rfl ?_
  refine ag rfl (fun hc24=>?_) (fun hc24=>?_)
  ·
   have hc24':=of_decide_eq_true hc24
   refine ad aa 1 rfl ?_
   refine cm ?_
   refine aP ?_
   refine bN ?_
   refine then_ok ?_
   refine af ?_
   refine aA aa 1 rfl ?_
   refine ax (aJ rfl rfl rfl (show _=some (Value.bool true) from rfl)) rfl ?_
   refine ae ?_
   refine ag rfl (fun _=>?_) (fun hno=>by cases hno)
   refine ad aa 4 rfl ?_
   refine ar ?_
   refine ao ?_
   have hX:bZ a kind n=((⟨0,0,0,0,0,0,0,false⟩:bB),10):=by
     (unfold bZ;try dsimp only);(try simp only [hr0]);(repeat' split)<;>first|rfl|omega|(exfalso;omega)|(subst_vars;rfl)|(simp_all;done)|(simp_all;omega)
   rw [hX] at hr;clear hX
   simp only [Prod.mk.injEq] at hr;obtain ⟨rfl,rfl⟩:=hr
   refine ah aa [1] 0 rfl rfl rfl rfl rfl rfl ?_ ?_
   all_goals first|rfl|(simp [au];done)|(simp [au];omega)
  have hc24':=of_decide_eq_false hc24
  refine aN ?_
  refine aA aa 3 rfl ?_
  refine ax (aJ rfl rfl rfl (aF (by first|omega|(simp;done)|(simp;omega)))) rfl ?_
  refine ab aa 2 rfl ?_
  refine ae ?_
  refine ad aa 2 rfl ?_
  refine ag rfl (fun hno=>absurd (hc17.symm.trans hno) (by decide)) (fun _=>?_)
  refine cU ?_
  refine bl ?_
  refine then_ok ?_
  refine af ?_
  refine aA aa 1 rfl ?_
  refine ax (aJ rfl rfl rfl (show _=some (Value.bool false) from rfl)) rfl ?_
  refine ae ?_
  refine ag rfl (fun hno=>by cases hno) (fun _=>?_)
  refine aN ?_
  refine ad aa 3 rfl ?_
  refine ar ?_
  have hX:bZ a kind n=((⟨a.aK,a.ay,a.sum,a.captured,a.bw,a.bg - n,a.cO,a.shut⟩:bB),0):=by
    (unfold bZ;try dsimp only);(try simp only [hr0]);(repeat' split)<;>first|rfl|omega|(exfalso;omega)|(subst_vars;rfl)|(simp_all;done)|(simp_all;omega)
  rw [hX] at hr;clear hX
  simp only [Prod.mk.injEq] at hr;obtain ⟨rfl,rfl⟩:=hr
  refine ah aa [1] 0 rfl rfl rfl rfl rfl rfl ?_ ?_
  all_goals first|rfl|(simp [au];done)|(simp [au];omega)
 have hc23':=of_decide_eq_false hc23
 refine aw ?_
 refine ab aa 2 rfl ?_
 obtain ⟨b1,e1,hr1⟩:∃ (b1:bB) (e1:Int),dh a kind n=(b1,e1):=⟨_,_,rfl⟩
 refine aL 2 [0,1] (cx id id (wq a kind n (by first|assumption|omega) (by omega) (by omega) b1 e1 hr1) Fy rfl rfl ⟨⟨_,rfl,.inl ⟨rfl,rfl⟩⟩,⟨_,rfl,.inr (.c (.d _))⟩,⟨_,rfl,.inr (.c (.d _))⟩,trivial⟩ ⟨rfl,trivial⟩ rfl rfl rfl rfl rfl rfl trivial ⟨⟨trivial,trivial,trivial,trivial,trivial,trivial,trivial,trivial,trivial⟩,trivial⟩ rfl rfl rfl rfl) rfl ?_
 refine ab aa 1 rfl ?_
 refine bY ?_
 refine bl ?_
 refine then_ok ?_
 refine af ?_
 refine ad aa 2 rfl ?_
 refine ag rfl (fun hc28=>?_) (fun hc28=>?_)
 ·
  have hc28':=of_decide_eq_true hc28
  refine ad aa 4 rfl ?_
  refine ar ?_
  refine ao ?_
  have hX:bZ a kind n=((⟨0,0,0,0,0,0,0,false⟩:bB),e1):=by
    (unfold bZ;try dsimp only);(try simp only [hr0]);(try simp only [hr1]);(repeat' split)<;>first|rfl|omega|(exfalso;omega)|(subst_vars;rfl)|(simp_all;done)|(simp_all;omega)
  rw [hX] at hr;clear hX
  simp only [Prod.mk.injEq] at hr;obtain ⟨rfl,rfl⟩:=hr
  refine ah aa [1] 0 rfl rfl rfl rfl rfl rfl ?_ ?_
  all_goals first|rfl|(simp [au];done)|(simp [au];omega)
 have hc28':=of_decide_eq_false hc28
 refine aN ?_
 refine ad aa 3 rfl ?_
 refine ar ?_
 have hX:bZ a kind n=(b1,0):=by
   (unfold bZ;try dsimp only);(try simp only [hr0]);(try simp only [hr1]);(repeat' split)<;>first|rfl|omega|(exfalso;omega)|(subst_vars;rfl)|(simp_all;done)|(simp_all;omega)
 rw [hX] at hr;clear hX
 simp only [Prod.mk.injEq] at hr;obtain ⟨rfl,rfl⟩:=hr
 refine ah aa [1] 0 rfl rfl rfl rfl rfl rfl ?_ ?_
 all_goals first|rfl|(simp [au];done)|(simp [au];omega)
section
open Go.RowKit
end
end Go.Proofs.Ytegepioggeggaaa.Dev
