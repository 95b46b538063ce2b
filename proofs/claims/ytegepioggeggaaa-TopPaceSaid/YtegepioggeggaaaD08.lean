/- A part of the proof: Del2, Post1, Post2, Post3, Auth1, Auth2, Stand1, Stand2. No condition. -/
import Derived.Test.YtegepioggeggaaaD06
set_option linter.unusedVariables false
set_option linter.unusedSimpArgs false
set_option maxHeartbeats 1000000
set_option maxRecDepth 100000
namespace Go.Proofs.Ytegepioggeggaaa.Dev
open Go.RowKit

theorem qn (l:List bj) (fn:FuncId) (bd:List (List D)) (pr:bj->Bool) (hp:∀ x:bj,Fn Try.prog fn ([.g [cI x.number,cI x.kind,cI x.ba,cI x.sum]]++bd.map fun r=>GV.c (.q r 0)) (aB (pr x)) []) (hen:bg Try.prog fn) (r:Int) (hr:gE pr l=r):Fn Try.prog 113 [(.c (de l)),(.c (.d (.f fn bd)))] (.v (.c (cI r))) []:=by
 refine Fn.mk' 19 [(0,(aC (de l))),(1,(aC (.d (.f fn bd))))] Try.func113 rfl rfl rfl rfl ?_
 intro W0 T0
 refine dF 0 rfl (fun hlen0=>?_)
 refine ad aa 1 rfl ?_
 refine af ?_
 refine aE aa 1 rfl ?_
 refine ay (cY rfl rfl rfl rfl rfl Try.underlying32) rfl ?_
 refine ab aa 1 rfl ?_
 refine ae ?_
 refine aW ?_
 refine cw (β:=Nat) (fun (q:Nat)=>⟨[(0,(aC (de l))),(1,(aC (.d (.f fn bd)))),(7,(aI (↑l.length:Int))),(8,(aI (↑q:Int)))],[],0⟩) (fun (q:Nat)=>q<=l.length/\(l.take q).all (fun y=>!pr y)=true) (fun (q:Nat)=>l.length - q) 0 ?_ ?_ ?_
 ·exact ⟨by omega,by simp⟩
 ·exact aD.bY id (by refine ⟨?_,?_,?_,?_,trivial⟩<;>first|rfl|(simp only [bo];done)|(congr 3;omega)|(congr 4;omega)|(simp only [bp];rfl)) (trivial) rfl
 rintro q ⟨hi0_0,hi0_1⟩
 refine ad aa 1 rfl ?_
 refine af ?_
 refine ag rfl (fun hc1=>?_) (fun hc1=>?_)
 ·
  have hc1':=of_decide_eq_true hc1
  refine aP ?_
  refine af ?_
  refine aW ?_
  refine ad aa 2 rfl ?_
  refine aE aa 3 rfl ?_
  obtain ⟨x1,hx1⟩:=cq (xs:=l) (i:=q) (by first|omega|(simp;done)|(simp;omega))
  refine ay (cS (i:=q) rfl rfl rfl Try.underlying32 lT (by first|omega|(simp;done)|(simp;omega)) (bu hx1)) rfl ?_
  refine ab aa 1 rfl ?_
  refine ay (gP 0 (hp x1) hen rfl rfl rfl ⟨⟨_,rfl,.g ⟨.d _,.d _,.d _,.d _,trivial⟩⟩,trivial⟩ trivial trivial rfl rfl rfl rfl) rfl ?_
  refine ae ?_
  refine ag rfl (fun hc2=>?_) (fun hc2=>?_)
  ·
   have hc2':=hc2;try simp only [bl,bJ] at hc2'
   refine ad aa 2 rfl ?_
   refine ax ?_
   refine bf ?_
   refine an ?_
   refine an ?_
   refine bf ?_
   refine an ?_
   have hX:gE pr l=(↑q:Int):=by
     exact sZ hi0_1 hx1 hc2
   rw [hX] at hr;clear hX
   subst hr
   refine al aa [] 0 rfl rfl rfl rfl rfl rfl ?_ ?_
   all_goals first|rfl|(simp [ar];done)|(simp [ar];omega)
  have hc2':=hc2;try simp only [bl,bJ] at hc2'
  refine cW ?_
  refine bn ?_
  refine then_ok ?_
  refine aw ?_
  refine ay (aK rfl rfl rfl (aH (by first|omega|(simp;done)|(simp;omega)))) rfl ?_
  refine ab aa 1 rfl ?_
  refine ae ?_
  refine ⟨q+1,⟨by omega,vz hi0_1 hx1 hc2⟩,by first|omega|(simp;done)|(simp;omega),aD.bY id (by refine ⟨?_,?_,?_,?_,trivial⟩<;>first|rfl|(simp only [bo];done)|(congr 3;omega)|(congr 4;omega)|(simp only [bp];rfl)) (trivial) rfl⟩
 have hc1':=of_decide_eq_false hc1
 refine cm ?_
 refine aQ ?_
 refine aQ ?_
 refine bO ?_
 refine then_ok ?_
 refine ad aa 1 rfl ?_
 refine ax ?_
 have hX:gE pr l=(-1):=by
   exact uO (by rw [<-List.take_of_length_le (l:=l) (i:=q) (by omega)];exact hi0_1)
 rw [hX] at hr;clear hX
 subst hr
 refine al aa [] 0 rfl rfl rfl rfl rfl rfl ?_ ?_
 all_goals first|rfl|(simp [ar];done)|(simp [ar];omega)
theorem pd (l:List bj) (fn:FuncId) (bd:List (List D)) (pr:bj->Bool) (hp:∀ x:bj,Fn Try.prog fn ([.g [cI x.number,cI x.kind,cI x.ba,cI x.sum]]++bd.map fun r=>GV.c (.q r 0)) (aB (pr x)) []) (hen:bg Try.prog fn) (r:List bj) (hr:dz pr l=r):cA Try.prog 105 [(.c (.s 0 0 4 l.length)),(.c (.d (.f fn bd)))] [(0,(wW l))] [] (.v (.c (.s 0 0 4 r.length))) [(0,(wW r))]:=by
 refine cA.mk 42 [(0,(aC (.s 0 0 4 l.length))),(1,(aC (.d (.f fn bd))))] 1 Try.func105 rfl rfl rfl rfl rfl rfl rfl rfl rfl ?_
 intro W0 F0 T0 pg
 refine fK 0 rfl (fun hlen0=>?_)
 have hic:=ta pr l
 have hib:gE pr l<=l.length/\-1<=gE pr l:=by rcases hic with ⟨h,_⟩|⟨i,h,h1,_⟩<;>omega
 refine ad aa 1 rfl ?_
 refine aE aa 2 rfl ?_
 obtain ⟨r0,hr0⟩:∃ (r0:Int),gE pr l=r0:=⟨_,rfl⟩
 refine aM 1 [0] (fH 1 [0] (qn l fn bd pr hp hen r0 hr0) EN rfl rfl ⟨⟨_,rfl,.c (.s rfl (by decide) (by first|omega|(simp;done)|(simp;omega)))⟩,⟨_,rfl,.c (.d _)⟩,trivial⟩ rfl trivial rfl rfl rfl rfl) rfl ?_
 refine ab aa 1 rfl ?_
 refine ae ?_
 refine af ?_
 refine ad aa 2 rfl ?_
 refine ag rfl (fun hc1=>?_) (fun hc1=>?_)
 ·
  have hc1':=of_decide_eq_true hc1
  refine ad aa 2 rfl ?_
  refine ax ?_
  refine an ?_
  have hX:dz pr l=l:=by
    rcases hic with ⟨_,h⟩|⟨i0,h,_⟩
    ·exact h
    ·exfalso;omega
  rw [hX] at hr;clear hX
  subst hr
  refine al aa [0] 1 rfl rfl rfl rfl rfl rfl ?_ ?_
  all_goals first|rfl|(simp [ar];done)|(simp [ar];omega)
 have hc1':=of_decide_eq_false hc1
 refine aP ?_
 refine af ?_
 refine aE aa 1 rfl ?_
 refine ay (aK rfl rfl rfl (aH (by first|omega|(simp;done)|(simp;omega)))) rfl ?_
 refine ab aa 1 rfl ?_
 refine ae ?_
 refine aW ?_
 obtain ⟨i0,hi0,hil,x0,hx0,hp0,hk0⟩:∃ i:Nat,gE pr l=i/\i < l.length/\∃ x,l[i]?=some x/\pr x=true/\dz pr (l.take i)=l.take i:=by
     rcases hic with ⟨h,_⟩|h
     ·exfalso;omega
     ·exact h
 obtain rfl:r0=(i0:Int):=by omega
 refine cw (β:=Nat×Nat×List bj) (fun (p:Nat×Nat×List bj)=>match p with|(j,i,c)=>⟨[(0,(aC (.s 0 0 4 l.length))),(1,(aC (.d (.f fn bd)))),(4,(aC cN)),(5,(aI (↑i:Int))),(6,(aI (↑j:Int)))],[(0,(wW c))],1⟩) (fun (p:Nat×Nat×List bj)=>match p with|(j,i,c)=>kE pr l c i j) (fun (p:Nat×Nat×List bj)=>match p with|(j,i,c)=>l.length - j) (i0+1,i0,l) ?_ ?_ ?_
 ·exact kE.start hx0 hp0 hk0
 ·exact aD.bY id (by refine ⟨?_,?_,?_,?_,?_,trivial⟩<;>first|rfl|(simp only [bo];done)|(congr 3;omega)|(congr 4;omega)|(simp only [bp];rfl)) (⟨by first|rfl|(simp only [bo];done)|(congr 3;omega)|(congr 4;omega)|(simp only [bp];rfl),trivial⟩) rfl
 rintro ⟨j,i,c⟩ hd
 have hdl:=hd.len;have hdi:=hd.ij;have hdj:=hd.jl
 refine af ?_
 refine aE aa 2 rfl ?_
 refine ay (dm rfl rfl rfl rfl rfl Try.underlying32) rfl ?_
 refine ab aa 1 rfl ?_
 refine ae ?_
 refine ag rfl (fun hc2=>?_) (fun hc2=>?_)
 ·
  have hc2':=of_decide_eq_true hc2
  refine aP ?_
  refine af ?_
  refine aW ?_
  refine aE aa 2 rfl ?_
  refine ay (br (i:=j) rfl rfl rfl Try.underlying32 lT (by first|omega|(simp;done)|(simp;omega)) (by first|omega|(simp;done)|(simp;omega))) rfl ?_
  obtain ⟨x1,hx1⟩:=cq (xs:=c) (i:=j) (by first|omega|(simp;done)|(simp;omega))
  refine ay (dc rfl rfl rfl Try.underlying80 rfl lT (bu hx1) rfl) rfl ?_
  refine ab aa 2 rfl ?_
  refine ae ?_
  refine aE aa 2 rfl ?_
  refine ay (gP 2 (hp x1) hen rfl rfl rfl ⟨⟨_,rfl,.g ⟨.d _,.d _,.d _,.d _,trivial⟩⟩,trivial⟩ trivial trivial rfl rfl rfl rfl) rfl ?_
  refine ab aa 1 rfl ?_
  refine ae ?_
  refine ag rfl (fun hc3=>?_) (fun hc3=>?_)
  ·
   have hc3':=hc3;try simp only [bl,bJ] at hc3'
   refine aE aa 3 rfl ?_
   refine ay (br (i:=i) rfl rfl rfl Try.underlying32 lT (by first|omega|(simp;done)|(simp;omega)) (by first|omega|(simp;done)|(simp;omega))) rfl ?_
   obtain ⟨x2,hx2⟩:=cq (xs:=c) (i:=i) (by first|omega|(simp;done)|(simp;omega))
   refine fV [1,0] (dH (ds:=[(dI x1.number),(dI x1.kind),(dI x1.ba),(dI x1.sum)]) rfl rfl rfl rfl rfl lT rfl (Nat.le_of_ble_eq_true rfl) (bu hx2) rfl (eG (x':=x1) rfl)) rfl ?_
   refine ae ?_
   refine aw ?_
   refine ab aa 1 rfl ?_
   refine ay (aK rfl rfl rfl (aH (by first|omega|(simp;done)|(simp;omega)))) rfl ?_
   refine ab aa 1 rfl ?_
   refine bX ?_
   refine bn ?_
   refine then_ok ?_
   refine aw ?_
   refine ab aa 1 rfl ?_
   refine ay (aK rfl rfl rfl (aH (by first|omega|(simp;done)|(simp;omega)))) rfl ?_
   refine ab aa 1 rfl ?_
   refine ae ?_
   refine ⟨(j+1,(i)+1,(c).set i x1),hd.cH hx1 (by simpa using hc3),by first|omega|(simp;done)|(simp;omega),aD.bY id (by refine ⟨?_,?_,?_,?_,?_,trivial⟩<;>first|rfl|(simp only [bo];done)|(congr 3;omega)|(congr 4;omega)|(simp only [bp];rfl)) (⟨by first|rfl|(simp only [bo];done)|(congr 3;omega)|(congr 4;omega)|(simp only [bp];rfl),trivial⟩) rfl⟩
  have hc3':=hc3;try simp only [bl,bJ] at hc3'
  refine cW ?_
  refine bn ?_
  refine then_ok ?_
  refine aw ?_
  refine ab aa 1 rfl ?_
  refine ay (aK rfl rfl rfl (aH (by first|omega|(simp;done)|(simp;omega)))) rfl ?_
  refine ab aa 1 rfl ?_
  refine ae ?_
  refine ⟨(j+1,i,c),hd.skip hx1 (by simpa using hc3),by first|omega|(simp;done)|(simp;omega),aD.bY id (by refine ⟨?_,?_,?_,?_,?_,trivial⟩<;>first|rfl|(simp only [bo];done)|(congr 3;omega)|(congr 4;omega)|(simp only [bp];rfl)) (⟨by first|rfl|(simp only [bo];done)|(congr 3;omega)|(congr 4;omega)|(simp only [bp];rfl),trivial⟩) rfl⟩
 have hc2':=of_decide_eq_false hc2
 refine cm ?_
 refine aQ ?_
 refine aQ ?_
 refine bO ?_
 refine then_ok ?_
 refine aE aa 2 rfl ?_
 refine ay (nj (l:=i) (h:=l.length) rfl Try.underlying32 lT rfl (.inr ⟨_,rfl,rfl⟩) (.inl ⟨rfl,rfl⟩) (by first|omega|(simp;done)|(simp;omega)) (by first|omega|(simp;done)|(simp;omega)) (by first|omega|(simp;done)|(simp;omega)) rfl) rfl ?_
 refine fV [0] (rT (rows':=(c.take i).map fo) uh Fo rfl rfl rfl rfl rfl rfl rfl rfl rfl (by simp [List.map_take])) rfl ?_
 refine ae ?_
 refine aE aa 2 rfl ?_
 refine ay (nj (l:=0) (h:=i) rfl Try.underlying32 lT rfl (.inl ⟨rfl,rfl⟩) (.inr ⟨_,rfl,rfl⟩) (by first|omega|(simp;done)|(simp;omega)) (by first|omega|(simp;done)|(simp;omega)) (by first|omega|(simp;done)|(simp;omega)) rfl) rfl ?_
 refine ab aa 1 rfl ?_
 refine ae ?_
 refine ax ?_
 have hX:dz pr l=(c.take i):=by
   have hdone:=hd.done (by omega)
   rw [<-hdone]
 rw [hX] at hr;clear hX
 subst hr
 refine al aa [0] 1 rfl rfl rfl rfl rfl rfl ?_ ?_
 all_goals first|rfl|(simp [ar];done)|(simp [ar];omega)


theorem jO {s : bV} {t : bj} (hI : ∀ t ∈ s.kept, fz t.number) (h : 0 ≤ s.bW ∧ s.bW ≤ 1000000) : ∀ u ∈ s.kept ++ [(⟨s.bW + 1, t.kind, t.ba, t.sum⟩ : bj)], fz u.number := by
  intro u hu
  rcases List.mem_append.1 hu with hu | hu
  · exact hI u hu
  · have : u = ⟨s.bW + 1, t.kind, t.ba, t.sum⟩ := by simpa using hu
    subst this; unfold fz; dsimp only; omega
theorem ja {s x:bV} {seen e:Int} (hI:∀ t∈s.kept,fz t.number) (h:dW s seen=(x,e)):∀ u∈x.kept,fz u.number:=by
  intro u hu
  rcases oZ h with ⟨_,rfl⟩|⟨_,_,_,_,rfl⟩
  ·simp [wy] at hu
  ·exact hI u (iY hu)

theorem lj (s:bV) (hI:∀ t∈s.kept,fz t.number) (f:cX) (hr:cJ s=f):Fn Try.prog 29 [(.g [(cI s.bW),(de s.kept)])] (.v (.g [(cI f.err),(cI f.at_)])) []:=by
 refine Fn.mk' 79 [(0,(aG [(cI s.bW),(de s.kept)]))] Try.func29 rfl rfl rfl rfl ?_
 intro W0 T0
 refine ff 0 1 rfl rfl (fun hlen0_1=>?_)
 refine ad aa 2 rfl ?_
 refine af ?_
 refine aE aa 2 rfl ?_
 refine ay (cY rfl rfl rfl rfl rfl Try.underlying32) rfl ?_
 refine ab aa 1 rfl ?_
 refine ae ?_
 refine ag rfl (fun hc1=>?_) (fun hc1=>?_)
 ·
  have hc1':=of_decide_eq_true hc1
  refine ad aa 2 rfl ?_
  refine ax ?_
  refine an ?_
  have hX:cJ s=(⟨5,0⟩:cX):=by
    unfold cJ jj;rw [if_pos (by omega)]
  rw [hX] at hr;clear hX
  subst hr
  refine al aa [1] 0 rfl rfl rfl rfl rfl rfl ?_ ?_
  all_goals first|rfl|(simp [ar];done)|(simp [ar];omega)
 have hc1':=of_decide_eq_false hc1
 refine aP ?_
 refine af ?_
 refine cp 20 ((decide (s.bW < (↑s.kept.length:Int)))||(decide (s.bW > 1000000))) ?_ ?_
 ·
  refine aw ?_
  refine ab aa 4 rfl ?_
  refine ay (cY rfl rfl rfl rfl rfl Try.underlying32) rfl ?_
  refine ab aa 2 rfl ?_
  refine bw (t:=16) rfl (fun hb2=>?_) (fun hb2=>?_)
  ·
   have hb2':=of_decide_eq_true hb2
   refine ab aa 4 rfl ?_
   refine ae ?_
   exact aD.bA 12 rfl rfl (by first|(simp [hb2];done)|(simp_all;done)|(exfalso;simp_all;done)|(simp_all;omega)) rfl
  have hb2':=of_decide_eq_false hb2
  refine ab aa 4 rfl ?_
  refine ae ?_
  exact aD.bA 12 rfl rfl (by first|(simp [hb2];done)|(simp_all;done)|(exfalso;simp_all;done)|(simp_all;omega)) rfl
 refine ag rfl (fun hc3=>?_) (fun hc3=>?_)
 ·
  have hc3':=hc3;try simp only [bl,bJ] at hc3'
  refine ad aa 2 rfl ?_
  refine ax ?_
  refine an ?_
  have hX:cJ s=(⟨3,0⟩:cX):=by
    unfold cJ jj;rw [if_neg (by omega),if_pos (by omega)]
  rw [hX] at hr;clear hX
  subst hr
  refine al aa [1] 0 rfl rfl rfl rfl rfl rfl ?_ ?_
  all_goals first|rfl|(simp [ar];done)|(simp [ar];omega)
 have hc3':=hc3;try simp only [bl,bJ] at hc3'
 refine aP ?_
 refine af ?_
 refine aE aa 2 rfl ?_
 refine ay (cY rfl rfl rfl rfl rfl Try.underlying32) rfl ?_
 refine ab aa 1 rfl ?_
 refine ae ?_
 refine aW ?_
 refine cw (β:=Nat) (fun (q:Nat)=>⟨[(1,(aC (.p 0 0 0 0))),(2,(aC (.p 1 0 0 0))),(23,(aC (de s.kept))),(24,(aI (↑s.kept.length:Int))),(25,(aI (↑q:Int)))],[(1,(.box 50 [(cI 0),(cI 0)])),(0,(.box 34 [(cI s.bW),(de s.kept)]))],2⟩) (fun (q:Nat)=>q<=s.kept.length/\scan (lS s) 0 s.kept.length=scan (lS s) q (s.kept.length - q)) (fun (q:Nat)=>s.kept.length - q) 0 ?_ ?_ ?_
 ·exact ⟨by omega,rfl⟩
 ·exact aD.bY id (by refine ⟨?_,?_,?_,?_,?_,trivial⟩<;>first|rfl|(simp only [bo];done)|(congr 3;omega)|(congr 4;omega)|(simp only [bp];rfl)) (by refine ⟨?_,?_,trivial⟩<;>first|rfl|(simp only [bo];done)|(congr 3;omega)|(congr 4;omega)|(simp only [bp];rfl)) rfl
 rintro q ⟨hi0_0,hi0_1⟩
 refine ad aa 1 rfl ?_
 refine af ?_
 refine ag rfl (fun hc4=>?_) (fun hc4=>?_)
 ·
  have hc4':=of_decide_eq_true hc4
  refine aP ?_
  refine af ?_
  refine aW ?_
  refine aE aa 1 rfl ?_
  obtain ⟨x1,hx1⟩:=cq (xs:=s.kept) (i:=q) (by first|omega|(simp;done)|(simp;omega))
  have hx1b:=hI x1 (List.mem_of_getElem? hx1)
  unfold fz at hx1b
  refine ay (cS (i:=q) rfl rfl rfl Try.underlying32 lT (by first|omega|(simp;done)|(simp;omega)) (bu hx1)) rfl ?_
  refine ab aa 4 rfl ?_
  refine ae ?_
  refine aW ?_
  refine cp 30 ((decide (x1.kind < 1))||(decide (x1.kind > 3))) ?_ ?_
  ·
   refine aw ?_
   refine ab aa 4 rfl ?_
   refine bw (t:=34) rfl (fun hb5=>?_) (fun hb5=>?_)
   ·
    have hb5':=of_decide_eq_true hb5
    refine ab aa 5 rfl ?_
    refine ae ?_
    exact aD.bA 10 rfl rfl (by first|(simp [hb5];done)|(simp_all;done)|(exfalso;simp_all;done)|(simp_all;omega)) rfl
   have hb5':=of_decide_eq_false hb5
   refine ab aa 5 rfl ?_
   refine ae ?_
   exact aD.bA 10 rfl rfl (by first|(simp [hb5];done)|(simp_all;done)|(exfalso;simp_all;done)|(simp_all;omega)) rfl
  refine ag rfl (fun hc6=>?_) (fun hc6=>?_)
  ·
   have hc6':=hc6;try simp only [bl,bJ] at hc6'
   refine ad aa 3 rfl ?_
   refine ax ?_
   refine bf ?_
   refine bf ?_
   refine an ?_
   refine an ?_
   refine bf ?_
   refine an ?_
   have hX:cJ s=(⟨1,(↑q:Int)⟩:cX):=by
     unfold cJ jj;rw [if_neg (by omega),if_neg (by omega),hi0_1,gW (c:=1) (by omega) (by unfold lS;simp only [hx1];rw [if_pos (by omega)]) (by decide)]
   rw [hX] at hr;clear hX
   subst hr
   refine al aa [1] 0 rfl rfl rfl rfl rfl rfl ?_ ?_
   all_goals first|rfl|(simp [ar];done)|(simp [ar];omega)
  have hc6':=hc6;try simp only [bl,bJ] at hc6'
  refine cp 41 ((((decide (x1.ba < 0))||(decide (x1.ba>=30)))||(decide (x1.sum < 1)))||(decide (x1.sum > 1000000))) ?_ ?_
  ·
   refine aw ?_
   refine ab aa 4 rfl ?_
   refine bw (t:=45) rfl (fun hb7=>?_) (fun hb7=>?_)
   ·
    have hb7':=of_decide_eq_true hb7
    refine ab aa 15 rfl ?_
    refine ae ?_
    exact aD.bA 20 rfl rfl (by first|(simp [hb7];done)|(simp_all;done)|(exfalso;simp_all;done)|(simp_all;omega)) rfl
   have hb7':=of_decide_eq_false hb7
   refine ab aa 5 rfl ?_
   refine bw (t:=50) rfl (fun hb8=>?_) (fun hb8=>?_)
   ·
    have hb8':=of_decide_eq_true hb8
    refine ab aa 10 rfl ?_
    refine ae ?_
    exact aD.bA 21 rfl rfl (by first|(simp [hb7,hb8];done)|(simp_all;done)|(exfalso;simp_all;done)|(simp_all;omega)) rfl
   have hb8':=of_decide_eq_false hb8
   refine ab aa 5 rfl ?_
   refine bw (t:=55) rfl (fun hb9=>?_) (fun hb9=>?_)
   ·
    have hb9':=of_decide_eq_true hb9
    refine ab aa 5 rfl ?_
    refine ae ?_
    exact aD.bA 22 rfl rfl (by first|(simp [hb7,hb8,hb9];done)|(simp_all;done)|(exfalso;simp_all;done)|(simp_all;omega)) rfl
   have hb9':=of_decide_eq_false hb9
   refine ab aa 5 rfl ?_
   refine ae ?_
   exact aD.bA 22 rfl rfl (by first|(simp [hb7,hb8,hb9];done)|(simp_all;done)|(exfalso;simp_all;done)|(simp_all;omega)) rfl
  refine ag rfl (fun hc10=>?_) (fun hc10=>?_)
  ·
   have hc10':=hc10;try simp only [bl,bJ] at hc10'
   refine ad aa 3 rfl ?_
   refine ax ?_
   refine bf ?_
   refine bf ?_
   refine an ?_
   refine an ?_
   refine bf ?_
   refine an ?_
   have hX:cJ s=(⟨3,(↑q:Int)⟩:cX):=by
     unfold cJ jj;rw [if_neg (by omega),if_neg (by omega),hi0_1,gW (c:=3) (by omega) (by unfold lS;simp only [hx1];rw [if_neg (by omega),if_pos (by omega)]) (by decide)]
   rw [hX] at hr;clear hX
   subst hr
   refine al aa [1] 0 rfl rfl rfl rfl rfl rfl ?_ ?_
   all_goals first|rfl|(simp [ar];done)|(simp [ar];omega)
  have hc10':=hc10;try simp only [bl,bJ] at hc10'
  refine aE aa 6 rfl ?_
  refine ay (cY rfl rfl rfl rfl rfl Try.underlying32) rfl ?_
  refine ay (aK rfl rfl rfl (aH (by first|omega|(simp;done)|(simp;omega)))) rfl ?_
  refine ay (aK rfl rfl rfl (aH (by first|omega|(simp;done)|(simp;omega)))) rfl ?_
  refine ab aa 1 rfl ?_
  refine ay (aK rfl rfl rfl (aH (by first|omega|(simp;done)|(simp;omega)))) rfl ?_
  refine ab aa 2 rfl ?_
  refine ae ?_
  refine ag rfl (fun hc11=>?_) (fun hc11=>?_)
  ·
   have hc11':=of_decide_eq_true hc11
   refine ad aa 3 rfl ?_
   refine ax ?_
   refine bf ?_
   refine bf ?_
   refine an ?_
   refine an ?_
   refine bf ?_
   refine an ?_
   have hX:cJ s=(⟨2,(↑q:Int)⟩:cX):=by
     unfold cJ jj;rw [if_neg (by omega),if_neg (by omega),hi0_1,gW (c:=2) (by omega) (by unfold lS;simp only [hx1];rw [if_neg (by omega),if_neg (by omega),if_pos (by omega)]) (by decide)]
   rw [hX] at hr;clear hX
   subst hr
   refine al aa [1] 0 rfl rfl rfl rfl rfl rfl ?_ ?_
   all_goals first|rfl|(simp [ar];done)|(simp [ar];omega)
  have hc11':=of_decide_eq_false hc11
  refine cW ?_
  refine bn ?_
  refine bn ?_
  refine then_ok ?_
  refine aw ?_
  refine ay (aK rfl rfl rfl (aH (by first|omega|(simp;done)|(simp;omega)))) rfl ?_
  refine ab aa 1 rfl ?_
  refine ae ?_
  refine ⟨q+1,⟨by omega,by rw [hi0_1];exact mo (by omega) (by unfold lS;simp only [hx1];rw [if_neg (by omega),if_neg (by omega),if_neg (by omega)])⟩,by first|omega|(simp;done)|(simp;omega),aD.bY id (by refine ⟨?_,?_,?_,?_,?_,trivial⟩<;>first|rfl|(simp only [bo];done)|(congr 3;omega)|(congr 4;omega)|(simp only [bp];rfl)) (by refine ⟨?_,?_,trivial⟩<;>first|rfl|(simp only [bo];done)|(congr 3;omega)|(congr 4;omega)|(simp only [bp];rfl)) rfl⟩
 have hc4':=of_decide_eq_false hc4
 refine cm ?_
 refine aQ ?_
 refine aQ ?_
 refine bO ?_
 refine then_ok ?_
 refine ad aa 2 rfl ?_
 refine ax ?_
 have hX:cJ s=(⟨0,0⟩:cX):=by
   unfold cJ jj;rw [if_neg (by omega),if_neg (by omega),hi0_1,mQ (by omega)]
 rw [hX] at hr;clear hX
 subst hr
 refine al aa [1] 0 rfl rfl rfl rfl rfl rfl ?_ ?_
 all_goals first|rfl|(simp [ar];done)|(simp [ar];omega)

theorem rm (s:bV) (t:bj) (hI:∀ t∈s.kept,fz t.number) (x:bV) (e:Int) (hr:gf s t=(x,e)):Fn Try.prog 103 [(.g [(cI s.bW),(de s.kept)]),(.g [(cI t.number),(cI t.kind),(cI t.ba),(cI t.sum)])] (.t [(.g [(cI x.bW),(.s 0 0 4 x.kept.length)]),(.c (cI e))]) [(0,(wW x.kept))]:=by
 refine Fn.mk' 40 [(0,(aG [(cI s.bW),(de s.kept)])),(1,(aG [(cI t.number),(cI t.kind),(cI t.ba),(cI t.sum)]))] Try.func103 rfl rfl rfl rfl ?_
 intro W0 T0
 refine ff 0 1 rfl rfl (fun hlen0_1=>?_)
 have hrs:=@kF s
 refine ad aa 4 rfl ?_
 refine af ?_
 refine aE aa 1 rfl ?_
 obtain ⟨f0,hr0⟩:∃ (f0:cX),cJ s=f0:=⟨_,rfl⟩
 have hq0:(cJ s).err=f0.err:=by rw [hr0]
 refine aM 3 [2,1,0] (bP 3 (lj s (by first|assumption|exact jO (by assumption) (by omega)|exact ja (by assumption) (by assumption)|(simp [fz];done)) f0 hr0) AU rfl rfl ⟨⟨_,rfl,.g ⟨.d _,.d _,trivial⟩⟩,trivial⟩ ⟨trivial,trivial,trivial⟩ trivial rfl rfl rfl rfl) rfl ?_
 refine ab aa 2 rfl ?_
 refine ae ?_
 refine ad aa 3 rfl ?_
 refine ag rfl (fun hc1=>?_) (fun hc1=>?_)
 ·
  have hc1':=of_decide_eq_true hc1
  refine af ?_
  refine cZ [2,3,4,6] [3,2,1,0] mixed rfl rfl ?_
  refine bQ (kn:=[]) aa 5 rfl trivial ?_
  refine dL [2,3,4,5] [2,1,0] rfl rfl (by kernel_rfl) ?_
  refine then_ok ?_
  refine ax ?_
  refine an ?_
  refine cb 2 1 80 4 rfl rfl rfl ?_
  have hX:gf s t=((⟨0,([]:List bj)⟩:bV),f0.err):=by
    unfold gf;rw [if_pos (by omega),hr0];rfl
  rw [hX] at hr;clear hX
  simp only [Prod.mk.injEq] at hr;obtain ⟨rfl,rfl⟩:=hr
  refine al aa [4,2] 1 rfl rfl rfl rfl rfl rfl ?_ ?_
  all_goals first|rfl|(simp [ar];done)|(simp [ar];omega)
 have hc1':=of_decide_eq_false hc1
 refine aP ?_
 refine aE aa 2 rfl ?_
 refine ay (aK rfl rfl rfl (aH (by first|omega|(simp;done)|(simp;omega)))) rfl ?_
 refine ab aa 2 rfl ?_
 refine ae ?_
 refine af ?_
 refine bc [2,3,4] [2,1,0] mixed rfl rfl ?_
 refine aA (kn:=[]) aa 2 rfl trivial ?_
 refine aT (n':=4) [22] [] rfl rfl (.inl ⟨(ah.plain rfl),aJ.cast (aK rfl rfl rfl (aH (by first|omega|(simp;done)|(simp;omega)))) rfl⟩) rfl ?_
 refine aA (kn:=[]) aa 2 rfl trivial ?_
 refine aT (n':=5) [25] [] rfl rfl (.inl ⟨(ah.plain rfl),aJ.cast (bP 4 (lk s.kept (by first|omega|(simp;done)|(simp;omega))) BM rfl rfl ⟨⟨_,rfl,.c (.d _)⟩,trivial⟩ trivial ⟨(fun _ _ _ _=>trivial),trivial⟩ rfl rfl rfl rfl) rfl⟩) rfl ?_
 refine aA (kn:=[]) aa 1 rfl trivial ?_
 refine aT (n':=6) [27] [] rfl rfl (.inl ⟨(ah.plain rfl),aJ.cast (dv (ys:=[(0,(.g [(cI (s.bW+1)),(cI t.kind),(cI t.ba),(cI t.sum)]))]) (rows:=([(⟨s.bW+1,t.kind,t.ba,t.sum⟩:bj)]).map fo) 5 uh rfl (by decide) ⟨⟨rfl,rfl⟩,trivial⟩ rfl rfl rfl rfl) rfl⟩) rfl ?_
 refine aT (n':=7) [26,28] [5,4] rfl rfl (.inl ⟨(ah.plain rfl),aJ.cast (dd (m:=1) (N:=s.kept.length+1) (k2:=6) (ys:=([(⟨s.bW+1,t.kind,t.ba,t.sum⟩:bj)]).map fo) uh rfl rfl rfl rfl rfl rfl (by first|omega|(simp;done)|(simp;omega)) rfl (.s rfl (by first|omega|(simp;done)|(simp;omega))) (by first|omega|(simp;done)|(simp;omega)) (by first|omega|(simp;done)|(simp;omega)) eP (by decide) (by first|omega|(simp;done)|(simp;omega)) (by first|omega|(simp;done)|(simp;omega))) rfl⟩) rfl ?_
 refine aA (n':=8) (kn:=[]) aa 2 rfl trivial ?_
 refine bC [7,6,2,1,0] rfl rfl rfl rfl (by kernel_rfl) ?_
 refine ab aa 1 rfl ?_
 refine ae ?_
 refine af ?_
 refine aE aa 1 rfl ?_
 obtain ⟨f1,hr1⟩:∃ (f1:cX),cJ (⟨s.bW+1,s.kept++([(⟨s.bW+1,t.kind,t.ba,t.sum⟩:bj)])⟩:bV)=f1:=⟨_,rfl⟩
 have hq1:(cJ (⟨s.bW+1,s.kept++([(⟨s.bW+1,t.kind,t.ba,t.sum⟩:bj)])⟩:bV)).err=f1.err:=by rw [hr1]
 refine aM 8 [7,6,2,1,0] (fH 8 [6] (lj (⟨s.bW+1,s.kept++([(⟨s.bW+1,t.kind,t.ba,t.sum⟩:bj)])⟩:bV) (by first|assumption|exact jO (by assumption) (by omega)|exact ja (by assumption) (by assumption)|(simp [fz];done)) f1 hr1) AU rfl rfl ⟨⟨_,rfl,.g ⟨.d _,.s rfl (by decide) (by first|omega|(simp;done)|(simp;omega)),trivial⟩⟩,trivial⟩ ⟨rfl,rfl,trivial⟩ trivial rfl rfl rfl rfl) rfl ?_
 refine ab aa 2 rfl ?_
 refine ae ?_
 refine ad aa 3 rfl ?_
 refine ag rfl (fun hc2=>?_) (fun hc2=>?_)
 ·
  have hc2':=of_decide_eq_true hc2
  refine af ?_
  refine cZ [4,7,8] [8,7,6,2] mixed rfl rfl ?_
  refine bQ (kn:=[]) aa 5 rfl trivial ?_
  refine dL [4,7,5] [2,7,6] rfl rfl (by kernel_rfl) ?_
  refine then_ok ?_
  refine ax ?_
  refine an ?_
  refine cb 2 1 80 4 rfl rfl rfl ?_
  have hX:gf s t=((⟨0,([]:List bj)⟩:bV),f1.err):=by
    have hout:cJ (la s t)=f1:=hr1
    unfold gf;rw [if_neg (by omega),if_pos (by rw [hout];omega),hout];rfl
  rw [hX] at hr;clear hX
  simp only [Prod.mk.injEq] at hr;obtain ⟨rfl,rfl⟩:=hr
  refine al aa [9,2] 1 rfl rfl rfl rfl rfl rfl ?_ ?_
  all_goals first|rfl|(simp [ar];done)|(simp [ar];omega)
 have hc2':=of_decide_eq_false hc2
 refine aP ?_
 refine ad aa 3 rfl ?_
 refine ax ?_
 have hX:gf s t=((⟨s.bW+1,s.kept++([(⟨s.bW+1,t.kind,t.ba,t.sum⟩:bj)])⟩:bV),0):=by
   have hout:cJ (la s t)=f1:=hr1
   unfold gf;rw [if_neg (by omega),if_neg (by rw [hout];omega)];rfl
 rw [hX] at hr;clear hX
 simp only [Prod.mk.injEq] at hr;obtain ⟨rfl,rfl⟩:=hr
 refine al aa [6,2] 1 rfl rfl rfl rfl rfl rfl ?_ ?_
 all_goals first|rfl|(simp [ar];done)|(simp [ar];omega)
theorem pB (seen:Int) (t:bj) (n:Int) (ok:Bool) (hr:gV seen t=(n,ok)):Fn Try.prog 88 [(.c (cI seen)),(.g [(cI t.number),(cI t.kind),(cI t.ba),(cI t.sum)])] (.t [(.c (cI n)),(.c (cB ok))]) []:=by
 refine Fn.mk' 22 [(0,(aI seen)),(1,(aG [(cI t.number),(cI t.kind),(cI t.ba),(cI t.sum)]))] Try.func88 rfl rfl rfl rfl ?_
 intro W0 T0
 refine ad aa 3 rfl ?_
 refine af ?_
 refine cp 18 (((decide (seen < 0))||(decide (seen>=1000000)))||(decide (¬t.number=(seen+1)))) ?_ ?_
 ·
  refine aw ?_
  refine ab aa 3 rfl ?_
  refine bw (t:=8) rfl (fun hb1=>?_) (fun hb1=>?_)
  ·
   have hb1':=of_decide_eq_true hb1
   refine ab aa 10 rfl ?_
   refine ae ?_
   exact aD.bA 14 rfl rfl (by first|(simp [hb1];done)|(simp_all;done)|(exfalso;simp_all;done)|(simp_all;omega)) rfl
  have hb1':=of_decide_eq_false hb1
  refine ab aa 4 rfl ?_
  refine bw (t:=12) rfl (fun hb2=>?_) (fun hb2=>?_)
  ·
   have hb2':=of_decide_eq_true hb2
   refine ab aa 6 rfl ?_
   refine ae ?_
   exact aD.bA 15 rfl rfl (by first|(simp [hb1,hb2];done)|(simp_all;done)|(exfalso;simp_all;done)|(simp_all;omega)) rfl
  have hb2':=of_decide_eq_false hb2
  refine ab aa 3 rfl ?_
  refine dD (ah.yes rfl rfl rfl) (aK rfl rfl rfl (aH (by first|omega|(simp;done)|(simp;omega)))) rfl rfl ?_
  refine ab aa 2 rfl ?_
  refine ae ?_
  exact aD.bA 15 rfl rfl (by first|(simp [hb1,hb2];done)|(simp_all;done)|(exfalso;simp_all;done)|(simp_all;omega)) rfl
 refine ag rfl (fun hc3=>?_) (fun hc3=>?_)
 ·
  have hc3':=hc3;try simp only [bl,bJ] at hc3'
  refine ad aa 3 rfl ?_
  refine ax ?_
  refine an ?_
  have hX:gV seen t=(seen,false):=by
    (unfold gV;try dsimp only);(repeat' split)<;>first|rfl|omega|(exfalso;omega)|(subst_vars;rfl)|(simp_all;done)|(simp_all;omega)
  rw [hX] at hr;clear hX
  simp only [Prod.mk.injEq] at hr;obtain ⟨rfl,rfl⟩:=hr
  refine al aa [] 0 rfl rfl rfl rfl rfl rfl ?_ ?_
  all_goals first|rfl|(simp [ar];done)|(simp [ar];omega)
 have hc3':=hc3;try simp only [bl,bJ] at hc3'
 refine aP ?_
 refine aE aa 1 rfl ?_
 refine ay (aK rfl rfl rfl (aH (by first|omega|(simp;done)|(simp;omega)))) rfl ?_
 refine ab aa 2 rfl ?_
 refine ae ?_
 refine ax ?_
 have hX:gV seen t=(seen+1,true):=by
   (unfold gV;try dsimp only);(repeat' split)<;>first|rfl|omega|(exfalso;omega)|(subst_vars;rfl)|(simp_all;done)|(simp_all;omega)
 rw [hX] at hr;clear hX
 simp only [Prod.mk.injEq] at hr;obtain ⟨rfl,rfl⟩:=hr
 refine al aa [] 0 rfl rfl rfl rfl rfl rfl ?_ ?_
 all_goals first|rfl|(simp [ar];done)|(simp [ar];omega)

theorem CA (t:bj) (seen:Int):Fn Try.prog 107 [(.g [(cI t.number),(cI t.kind),(cI t.ba),(cI t.sum)]),(.c (.q ([dI seen]) 0))] (aB (came seen t)) []:=by
 refine Fn.mk' 8 [(0,(aG [(cI t.number),(cI t.kind),(cI t.ba),(cI t.sum)])),(1,(aC (.q ([dI seen]) 0)))] Try.func107 rfl rfl rfl rfl ?_
 intro W0 T0
 refine ad aa 2 rfl ?_
 refine ad aa 5 rfl ?_
 refine ax ?_
 refine al aa [] 0 rfl rfl rfl rfl rfl rfl ?_ ?_
 all_goals first|rfl|(simp [ar];done)|(simp [ar];omega)
theorem pC (s:bV) (seen:Int) (hI:∀ t∈s.kept,fz t.number) (x:bV) (e:Int) (hr:dW s seen=(x,e)):Fn Try.prog 86 [(.g [(cI s.bW),(de s.kept)]),(.c (cI seen))] (.t [(.g [(cI x.bW),(.s 0 0 4 x.kept.length)]),(.c (cI e))]) [(0,(wW x.kept))]:=by
 refine Fn.mk' 32 [(0,(aG [(cI s.bW),(de s.kept)])),(1,(aI seen))] Try.func86 rfl rfl rfl rfl ?_
 intro W0 T0
 refine ff 0 1 rfl rfl (fun hlen0_1=>?_)
 have hrs:=@kF s
 refine ad aa 4 rfl ?_
 refine af ?_
 refine aE aa 1 rfl ?_
 obtain ⟨f0,hr0⟩:∃ (f0:cX),cJ s=f0:=⟨_,rfl⟩
 have hq0:(cJ s).err=f0.err:=by rw [hr0]
 refine aM 3 [2,1,0] (bP 3 (lj s (by first|assumption|exact jO (by assumption) (by omega)|exact ja (by assumption) (by assumption)|(simp [fz];done)) f0 hr0) AU rfl rfl ⟨⟨_,rfl,.g ⟨.d _,.d _,trivial⟩⟩,trivial⟩ ⟨trivial,trivial,trivial⟩ trivial rfl rfl rfl rfl) rfl ?_
 refine ab aa 2 rfl ?_
 refine ae ?_
 refine ad aa 3 rfl ?_
 refine ag rfl (fun hc1=>?_) (fun hc1=>?_)
 ·
  have hc1':=of_decide_eq_true hc1
  refine af ?_
  refine cZ [2,3,4,6] [3,2,1,0] mixed rfl rfl ?_
  refine bQ (kn:=[]) aa 5 rfl trivial ?_
  refine dL [2,3,4,5] [2,1,0] rfl rfl (by kernel_rfl) ?_
  refine then_ok ?_
  refine ax ?_
  refine an ?_
  refine cb 2 1 80 4 rfl rfl rfl ?_
  have hX:dW s seen=((⟨0,([]:List bj)⟩:bV),f0.err):=by
    unfold dW;rw [if_pos (by omega),hr0];rfl
  rw [hX] at hr;clear hX
  simp only [Prod.mk.injEq] at hr;obtain ⟨rfl,rfl⟩:=hr
  refine al aa [4,2] 1 rfl rfl rfl rfl rfl rfl ?_ ?_
  all_goals first|rfl|(simp [ar];done)|(simp [ar];omega)
 have hc1':=of_decide_eq_false hc1
 refine aP ?_
 refine af ?_
 refine cp 22 ((decide (seen < 0))||(decide (seen > s.bW))) ?_ ?_
 ·
  refine aw ?_
  refine ab aa 3 rfl ?_
  refine bw (t:=17) rfl (fun hb2=>?_) (fun hb2=>?_)
  ·
   have hb2':=of_decide_eq_true hb2
   refine ab aa 5 rfl ?_
   refine ae ?_
   exact aD.bA 9 rfl rfl (by first|(simp [hb2];done)|(simp_all;done)|(exfalso;simp_all;done)|(simp_all;omega)) rfl
  have hb2':=of_decide_eq_false hb2
  refine ab aa 5 rfl ?_
  refine ae ?_
  exact aD.bA 9 rfl rfl (by first|(simp [hb2];done)|(simp_all;done)|(exfalso;simp_all;done)|(simp_all;omega)) rfl
 refine ag rfl (fun hc3=>?_) (fun hc3=>?_)
 ·
  have hc3':=hc3;try simp only [bl,bJ] at hc3'
  refine ad aa 3 rfl ?_
  refine ax ?_
  refine an ?_
  refine cb 2 1 80 4 rfl rfl rfl ?_
  have hX:dW s seen=((⟨0,([]:List bj)⟩:bV),3):=by
    unfold dW;rw [if_neg (by omega),if_pos (by omega)];rfl
  rw [hX] at hr;clear hX
  simp only [Prod.mk.injEq] at hr;obtain ⟨rfl,rfl⟩:=hr
  refine al aa [4,2] 1 rfl rfl rfl rfl rfl rfl ?_ ?_
  all_goals first|rfl|(simp [ar];done)|(simp [ar];omega)
 have hc3':=hc3;try simp only [bl,bJ] at hc3'
 refine aP ?_
 refine af ?_
 obtain ⟨r1,hr1⟩:∃ (r1:List bj),dz (came seen) s.kept=r1:=⟨_,rfl⟩
 refine bc [2,3,4] [2,1,0] mixed rfl rfl ?_
 refine aA (kn:=[]) aa 4 rfl trivial ?_
 refine aT (n':=5) [27] [] rfl rfl (.inl ⟨(ah.plain rfl),aJ.cast (bP 4 (lk s.kept (by first|omega|(simp;done)|(simp;omega))) BM rfl rfl ⟨⟨_,rfl,.c (.d _)⟩,trivial⟩ trivial ⟨(fun _ _ _ _=>trivial),trivial⟩ rfl rfl rfl rfl) rfl⟩) rfl ?_
 refine aT (n':=5) [3] [] rfl rfl (.inl ⟨(ah.plain rfl),aJ.cast (zm (ks:=[1]) rfl ⟨rfl,trivial⟩) rfl⟩) rfl ?_
 refine aT (n':=6) [28,29] [1,4] rfl rfl (.inl ⟨(ah.plain rfl),aJ.cast (uW (aX [4]) (aX [5]) [1] (pd s.kept 107 ([[(dI seen)]]) (came seen) (fun x=>CA x seen) EP r1 hr1) ER rfl rfl ⟨⟨_,rfl,.inl ⟨rfl,rfl⟩⟩,⟨_,rfl,.inr (.c (.fn ⟨⟨by decide,_,rfl⟩,trivial⟩))⟩,trivial⟩ ⟨rfl,trivial⟩ rfl rfl rfl rfl rfl rfl rfl rfl trivial ⟨(tC _),trivial⟩ rfl rfl rfl rfl) rfl⟩) rfl ?_
 refine aA (kn:=[]) aa 1 rfl trivial ?_
 refine bC [5,2,1,0] rfl rfl rfl rfl (by kernel_rfl) ?_
 refine ab aa 2 rfl ?_
 refine ae ?_
 refine ax ?_
 have hX:dW s seen=((⟨s.bW,r1⟩:bV),0):=by
   unfold dW;rw [if_neg (by omega),if_neg (by omega),hr1]
 rw [hX] at hr;clear hX
 simp only [Prod.mk.injEq] at hr;obtain ⟨rfl,rfl⟩:=hr
 refine al aa [5,2] 1 rfl rfl rfl rfl rfl rfl ?_ ?_
 all_goals first|rfl|(simp [ar];done)|(simp [ar];omega)


theorem FB {a b c d x:Int} {q:Nat} (h:[a,b,c,d][q]?=some x):(q=0/\x=a)\/(q=1/\x=b)\/(q=2/\x=c)\/(q=3/\x=d):=by
  match q with
  |0=>left;simp_all
  |1=>right;left;simp_all
  |2=>right;right;left;simp_all
  |3=>right;right;right;simp_all
  |q+4=>simp at h

theorem oD (a:bB) (e:Int) (hr:bG a=e):Fn Try.prog 26 [(.g [(cI a.aL),(cI a.az),(cI a.sum),(cI a.captured),(cI a.bz),(cI a.bm),(cI a.cQ),(cB a.shut)])] (.v (.c (cI e))) []:=by
 refine Fn.mk' 71 [(0,(aG [(cI a.aL),(cI a.az),(cI a.sum),(cI a.captured),(cI a.bz),(cI a.bm),(cI a.cQ),(cB a.shut)]))] Try.func26 rfl rfl rfl rfl ?_
 intro W0 T0
 refine ad aa 2 rfl ?_
 refine af ?_
 refine aE aa 8 rfl ?_
 refine aM 2 [1,0] (dv (ys:=[(0,(.c (cI a.sum))),(1,(.c (cI a.captured))),(2,(.c (cI a.bz))),(3,(.c (cI a.bm)))]) (rows:=([a.sum,a.captured,a.bz,a.bm]).map rI) 1 mM rfl (by decide) ⟨⟨rfl,rfl⟩,⟨rfl,rfl⟩,⟨rfl,rfl⟩,⟨rfl,rfl⟩,trivial⟩ rfl rfl rfl rfl) rfl ?_
 refine ay (dm rfl rfl rfl rfl rfl Try.underlying30) rfl ?_
 refine ab aa 1 rfl ?_
 refine ae ?_
 refine aW ?_
 refine cw (β:=Nat) (fun (q:Nat)=>⟨[(1,(aC (.p 0 0 0 0))),(13,(aC (.s 1 0 1 4))),(14,(aI 4)),(15,(aI (↑q:Int)))],[(1,(dC ([a.sum,a.captured,a.bz,a.bm]))),(0,(.box 67 [(cI a.aL),(cI a.az),(cI a.sum),(cI a.captured),(cI a.bz),(cI a.bm),(cI a.cQ),(cB a.shut)]))],2⟩) (fun (q:Nat)=>q<=4/\(0 < q->0<=a.sum/\a.sum<=1000000)/\(1 < q->0<=a.captured/\a.captured<=1000000)/\(2 < q->0<=a.bz/\a.bz<=1000000)/\(3 < q->0<=a.bm/\a.bm<=1000000)) (fun (q:Nat)=>4 - q) 0 ?_ ?_ ?_
 ·exact ⟨by omega,by omega,by omega,by omega,by omega⟩
 ·exact aD.bY id (by refine ⟨?_,?_,?_,?_,trivial⟩<;>first|rfl|(simp only [bo];done)|(congr 3;omega)|(congr 4;omega)|(simp only [bp];rfl)) (by refine ⟨?_,?_,trivial⟩<;>first|rfl|(simp only [bo];done)|(congr 3;omega)|(congr 4;omega)|(simp only [bp];rfl)) rfl
 rintro q ⟨hi0_0,hi0_1,hi0_2,hi0_3,hi0_4⟩
 refine ad aa 1 rfl ?_
 refine af ?_
 refine ag rfl (fun hc1=>?_) (fun hc1=>?_)
 ·
  have hc1':=of_decide_eq_true hc1
  refine aP ?_
  refine af ?_
  refine aW ?_
  refine eN ?_
  refine ay (br (i:=q) rfl rfl rfl Try.underlying30 fX (by first|omega|(simp;done)|(simp;omega)) (by first|omega|(simp;done)|(simp;omega))) rfl ?_
  obtain ⟨x1,hx1⟩:=cq (xs:=([a.sum,a.captured,a.bz,a.bm]:List Int)) (i:=q) (by first|omega|(simp;done)|(simp;omega))
  have hx1v:=FB hx1
  refine ay (eB rfl rfl rfl Try.underlying3 rfl (bu hx1) rfl) rfl ?_
  refine ab aa 1 rfl ?_
  refine ae ?_
  refine cp 24 ((decide (x1 < 0))||(decide (x1 > 1000000))) ?_ ?_
  ·
   refine aw ?_
   refine ab aa 3 rfl ?_
   refine bw (t:=21) rfl (fun hb2=>?_) (fun hb2=>?_)
   ·
    have hb2':=of_decide_eq_true hb2
    refine ab aa 3 rfl ?_
    refine ae ?_
    exact aD.bA 7 rfl rfl (by first|(simp [hb2];done)|(simp_all;done)|(exfalso;simp_all;done)|(simp_all;omega)) rfl
   have hb2':=of_decide_eq_false hb2
   refine ab aa 3 rfl ?_
   refine ae ?_
   exact aD.bA 7 rfl rfl (by first|(simp [hb2];done)|(simp_all;done)|(exfalso;simp_all;done)|(simp_all;omega)) rfl
  refine ag rfl (fun hc3=>?_) (fun hc3=>?_)
  ·
   have hc3':=hc3;try simp only [bl,bJ] at hc3'
   refine ad aa 1 rfl ?_
   refine ax ?_
   refine bf ?_
   refine an ?_
   refine an ?_
   refine bf ?_
   refine an ?_
   have hX:bG a=3:=by
     (unfold bG;try dsimp only);(repeat' split)<;>first|rfl|omega|(exfalso;omega)|(subst_vars;rfl)|(simp_all;done)|(simp_all;omega)
   rw [hX] at hr;clear hX
   subst hr
   refine al aa [] 0 rfl rfl rfl rfl rfl rfl ?_ ?_
   all_goals first|rfl|(simp [ar];done)|(simp [ar];omega)
  have hc3':=hc3;try simp only [bl,bJ] at hc3'
  refine cW ?_
  refine bn ?_
  refine then_ok ?_
  refine aw ?_
  refine ay (aK rfl rfl rfl (aH (by first|omega|(simp;done)|(simp;omega)))) rfl ?_
  refine ab aa 1 rfl ?_
  refine ae ?_
  refine ⟨q+1,⟨by omega,by omega,by omega,by omega,by omega⟩,by first|omega|(simp;done)|(simp;omega),aD.bY id (by refine ⟨?_,?_,?_,?_,trivial⟩<;>first|rfl|(simp only [bo];done)|(congr 3;omega)|(congr 4;omega)|(simp only [bp];rfl)) (by refine ⟨?_,?_,trivial⟩<;>first|rfl|(simp only [bo];done)|(congr 3;omega)|(congr 4;omega)|(simp only [bp];rfl)) rfl⟩
 have hc1':=of_decide_eq_false hc1
 refine cm ?_
 refine aQ ?_
 refine aQ ?_
 refine bO ?_
 refine then_ok ?_
 refine af ?_
 refine aW ?_
 refine cp 26 ((((((decide (a.aL < 0))||(decide (a.aL>=8)))||(decide (a.az < 0)))||(decide (a.az>=8)))||(decide (a.cQ < 0)))||(decide (a.cQ > 1000100))) ?_ ?_
 ·
  refine aw ?_
  refine ab aa 4 rfl ?_
  refine bw (t:=30) rfl (fun hb4=>?_) (fun hb4=>?_)
  ·
   have hb4':=of_decide_eq_true hb4
   refine ab aa 25 rfl ?_
   refine ae ?_
   exact aD.bA 30 rfl rfl (by first|(simp [hb4];done)|(simp_all;done)|(exfalso;simp_all;done)|(simp_all;omega)) rfl
  have hb4':=of_decide_eq_false hb4
  refine ab aa 5 rfl ?_
  refine bw (t:=35) rfl (fun hb5=>?_) (fun hb5=>?_)
  ·
   have hb5':=of_decide_eq_true hb5
   refine ab aa 20 rfl ?_
   refine ae ?_
   exact aD.bA 31 rfl rfl (by first|(simp [hb4,hb5];done)|(simp_all;done)|(exfalso;simp_all;done)|(simp_all;omega)) rfl
  have hb5':=of_decide_eq_false hb5
  refine ab aa 5 rfl ?_
  refine bw (t:=40) rfl (fun hb6=>?_) (fun hb6=>?_)
  ·
   have hb6':=of_decide_eq_true hb6
   refine ab aa 15 rfl ?_
   refine ae ?_
   exact aD.bA 32 rfl rfl (by first|(simp [hb4,hb5,hb6];done)|(simp_all;done)|(exfalso;simp_all;done)|(simp_all;omega)) rfl
  have hb6':=of_decide_eq_false hb6
  refine ab aa 5 rfl ?_
  refine bw (t:=45) rfl (fun hb7=>?_) (fun hb7=>?_)
  ·
   have hb7':=of_decide_eq_true hb7
   refine ab aa 10 rfl ?_
   refine ae ?_
   exact aD.bA 33 rfl rfl (by first|(simp [hb4,hb5,hb6,hb7];done)|(simp_all;done)|(exfalso;simp_all;done)|(simp_all;omega)) rfl
  have hb7':=of_decide_eq_false hb7
  refine ab aa 5 rfl ?_
  refine bw (t:=50) rfl (fun hb8=>?_) (fun hb8=>?_)
  ·
   have hb8':=of_decide_eq_true hb8
   refine ab aa 5 rfl ?_
   refine ae ?_
   exact aD.bA 34 rfl rfl (by first|(simp [hb4,hb5,hb6,hb7,hb8];done)|(simp_all;done)|(exfalso;simp_all;done)|(simp_all;omega)) rfl
  have hb8':=of_decide_eq_false hb8
  refine ab aa 5 rfl ?_
  refine ae ?_
  exact aD.bA 34 rfl rfl (by first|(simp [hb4,hb5,hb6,hb7,hb8];done)|(simp_all;done)|(exfalso;simp_all;done)|(simp_all;omega)) rfl
 refine ag rfl (fun hc9=>?_) (fun hc9=>?_)
 ·
  have hc9':=hc9;try simp only [bl,bJ] at hc9'
  refine ad aa 1 rfl ?_
  refine ax ?_
  refine bf ?_
  refine an ?_
  have hX:bG a=3:=by
    (unfold bG;try dsimp only);(repeat' split)<;>first|rfl|omega|(exfalso;omega)|(subst_vars;rfl)|(simp_all;done)|(simp_all;omega)
  rw [hX] at hr;clear hX
  subst hr
  refine al aa [] 0 rfl rfl rfl rfl rfl rfl ?_ ?_
  all_goals first|rfl|(simp [ar];done)|(simp [ar];omega)
 have hc9':=hc9;try simp only [bl,bJ] at hc9'
 refine cp 55 ((decide (a.captured > a.sum))||(decide ((a.bz+a.bm) > a.captured))) ?_ ?_
 ·
  refine aw ?_
  refine ab aa 6 rfl ?_
  refine bw (t:=61) rfl (fun hb10=>?_) (fun hb10=>?_)
  ·
   have hb10':=of_decide_eq_true hb10
   refine ab aa 10 rfl ?_
   refine ae ?_
   exact aD.bA 17 rfl rfl (by first|(simp [hb10];done)|(simp_all;done)|(exfalso;simp_all;done)|(simp_all;omega)) rfl
  have hb10':=of_decide_eq_false hb10
  refine ab aa 4 rfl ?_
  refine dD (ah.yes rfl rfl rfl) (aK rfl rfl rfl (aH (by first|omega|(simp;done)|(simp;omega)))) rfl rfl ?_
  refine ab aa 5 rfl ?_
  refine ae ?_
  exact aD.bA 17 rfl rfl (by first|(simp [hb10];done)|(simp_all;done)|(exfalso;simp_all;done)|(simp_all;omega)) rfl
 refine ag rfl (fun hc11=>?_) (fun hc11=>?_)
 ·
  have hc11':=hc11;try simp only [bl,bJ] at hc11'
  refine ad aa 1 rfl ?_
  refine ax ?_
  refine bf ?_
  refine an ?_
  have hX:bG a=8:=by
    (unfold bG;try dsimp only);(repeat' split)<;>first|rfl|omega|(exfalso;omega)|(subst_vars;rfl)|(simp_all;done)|(simp_all;omega)
  rw [hX] at hr;clear hX
  subst hr
  refine al aa [] 0 rfl rfl rfl rfl rfl rfl ?_ ?_
  all_goals first|rfl|(simp [ar];done)|(simp [ar];omega)
 have hc11':=hc11;try simp only [bl,bJ] at hc11'
 refine cW ?_
 refine bn ?_
 refine then_ok ?_
 refine ad aa 1 rfl ?_
 refine ax ?_
 have hX:bG a=0:=by
   (unfold bG;try dsimp only);(repeat' split)<;>first|rfl|omega|(exfalso;omega)|(subst_vars;rfl)|(simp_all;done)|(simp_all;omega)
 rw [hX] at hr;clear hX
 subst hr
 refine al aa [] 0 rfl rfl rfl rfl rfl rfl ?_ ?_
 all_goals first|rfl|(simp [ar];done)|(simp [ar];omega)
theorem rp (aL az n time:Int) (b:bB) (e:Int) (hr:cV aL az n time=(b,e)):Fn Try.prog 79 [(.c (cI aL)),(.c (cI az)),(.c (cI n)),(.c (cI time))] (.t [(.g [(cI b.aL),(cI b.az),(cI b.sum),(cI b.captured),(cI b.bz),(cI b.bm),(cI b.cQ),(cB b.shut)]),(.c (cI e))]) []:=by
 refine Fn.mk' 40 [(0,(aI aL)),(1,(aI az)),(2,(aI n)),(3,(aI time))] Try.func79 rfl rfl rfl rfl ?_
 intro W0 T0
 refine ad aa 2 rfl ?_
 refine af ?_
 refine cp 25 ((((decide (n < 1))||(decide (n > 1000000)))||(decide (time < 0)))||(decide (time > 1000000))) ?_ ?_
 ·
  refine aw ?_
  refine ab aa 3 rfl ?_
  refine bw (t:=14) rfl (fun hb1=>?_) (fun hb1=>?_)
  ·
   have hb1':=of_decide_eq_true hb1
   refine ab aa 11 rfl ?_
   refine ae ?_
   exact aD.bA 15 rfl rfl (by first|(simp [hb1];done)|(simp_all;done)|(exfalso;simp_all;done)|(simp_all;omega)) rfl
  have hb1':=of_decide_eq_false hb1
  refine ab aa 4 rfl ?_
  refine bw (t:=18) rfl (fun hb2=>?_) (fun hb2=>?_)
  ·
   have hb2':=of_decide_eq_true hb2
   refine ab aa 7 rfl ?_
   refine ae ?_
   exact aD.bA 16 rfl rfl (by first|(simp [hb1,hb2];done)|(simp_all;done)|(exfalso;simp_all;done)|(simp_all;omega)) rfl
  have hb2':=of_decide_eq_false hb2
  refine ab aa 4 rfl ?_
  refine bw (t:=22) rfl (fun hb3=>?_) (fun hb3=>?_)
  ·
   have hb3':=of_decide_eq_true hb3
   refine ab aa 3 rfl ?_
   refine ae ?_
   exact aD.bA 17 rfl rfl (by first|(simp [hb1,hb2,hb3];done)|(simp_all;done)|(exfalso;simp_all;done)|(simp_all;omega)) rfl
  have hb3':=of_decide_eq_false hb3
  refine ab aa 3 rfl ?_
  refine ae ?_
  exact aD.bA 17 rfl rfl (by first|(simp [hb1,hb2,hb3];done)|(simp_all;done)|(exfalso;simp_all;done)|(simp_all;omega)) rfl
 refine ag rfl (fun hc4=>?_) (fun hc4=>?_)
 ·
  have hc4':=hc4;try simp only [bl,bJ] at hc4'
  refine ad aa 3 rfl ?_
  refine ax ?_
  refine an ?_
  have hX:cV aL az n time=((⟨0,0,0,0,0,0,0,false⟩:bB),3):=by
    (try (unfold bG at hr0;dsimp only at hr0;(repeat' split at hr0)))<;>((unfold cV;try dsimp only);(repeat' split)<;>first|rfl|omega|(exfalso;omega)|(subst_vars;rfl)|(simp_all;done)|(simp_all;omega))
  rw [hX] at hr;clear hX
  simp only [Prod.mk.injEq] at hr;obtain ⟨rfl,rfl⟩:=hr
  refine al aa [0] 0 rfl rfl rfl rfl rfl rfl ?_ ?_
  all_goals first|rfl|(simp [ar];done)|(simp [ar];omega)
 have hc4':=hc4;try simp only [bl,bJ] at hc4'
 refine aP ?_
 refine aE aa 4 rfl ?_
 refine ay (aK rfl rfl rfl (aH (by first|omega|(simp;done)|(simp;omega)))) rfl ?_
 refine ab aa 3 rfl ?_
 refine ae ?_
 refine af ?_
 refine aE aa 1 rfl ?_
 obtain ⟨e0,hr0⟩:∃ (e0:Int),bG (⟨aL,az,n,0,0,0,time+100,false⟩:bB)=e0:=⟨_,rfl⟩
 refine aM 2 [1,0] (bP 2 (oD (⟨aL,az,n,0,0,0,time+100,false⟩:bB) e0 hr0) DP rfl rfl ⟨⟨_,rfl,.g ⟨.d _,.d _,.d _,.d _,.d _,.d _,.d _,.d _,trivial⟩⟩,trivial⟩ trivial trivial rfl rfl rfl rfl) rfl ?_
 refine ab aa 1 rfl ?_
 refine ae ?_
 refine ad aa 2 rfl ?_
 refine ag rfl (fun hc5=>?_) (fun hc5=>?_)
 ·
  have hc5':=of_decide_eq_true hc5
  refine ad aa 4 rfl ?_
  refine ax ?_
  refine an ?_
  have hX:cV aL az n time=((⟨0,0,0,0,0,0,0,false⟩:bB),e0):=by
    (try (unfold bG at hr0;dsimp only at hr0;(repeat' split at hr0)))<;>((unfold cV;try dsimp only);(repeat' split)<;>first|rfl|omega|(exfalso;omega)|(subst_vars;rfl)|(simp_all;done)|(simp_all;omega))
  rw [hX] at hr;clear hX
  simp only [Prod.mk.injEq] at hr;obtain ⟨rfl,rfl⟩:=hr
  refine al aa [0] 0 rfl rfl rfl rfl rfl rfl ?_ ?_
  all_goals first|rfl|(simp [ar];done)|(simp [ar];omega)
 have hc5':=of_decide_eq_false hc5
 refine aP ?_
 refine ad aa 3 rfl ?_
 refine ax ?_
 have hX:cV aL az n time=((⟨aL,az,n,0,0,0,time+100,false⟩:bB),0):=by
   (try (unfold bG at hr0;dsimp only at hr0;(repeat' split at hr0)))<;>((unfold cV;try dsimp only);(repeat' split)<;>first|rfl|omega|(exfalso;omega)|(subst_vars;rfl)|(simp_all;done)|(simp_all;omega))
 rw [hX] at hr;clear hX
 simp only [Prod.mk.injEq] at hr;obtain ⟨rfl,rfl⟩:=hr
 refine al aa [0] 0 rfl rfl rfl rfl rfl rfl ?_ ?_
 all_goals first|rfl|(simp [ar];done)|(simp [ar];omega)

theorem vY (a:bB) (t:Int) (b:bB) (hr:dU a t=b):Fn Try.prog 104 [(.g [(cI a.aL),(cI a.az),(cI a.sum),(cI a.captured),(cI a.bz),(cI a.bm),(cI a.cQ),(cB a.shut)]),(.c (cI t))] (.v (.g [(cI b.aL),(cI b.az),(cI b.sum),(cI b.captured),(cI b.bz),(cI b.bm),(cI b.cQ),(cB b.shut)])) []:=by
 refine Fn.mk' 11 [(0,(aG [(cI a.aL),(cI a.az),(cI a.sum),(cI a.captured),(cI a.bz),(cI a.bm),(cI a.cQ),(cB a.shut)])),(1,(aI t))] Try.func104 rfl rfl rfl rfl ?_
 intro W0 T0
 refine ad aa 2 rfl ?_
 refine af ?_
 refine ad aa 4 rfl ?_
 refine ag rfl (fun hc1=>?_) (fun hc1=>?_)
 ·
  have hc1':=of_decide_eq_true hc1
  refine aw ?_
  refine ab aa 2 rfl ?_
  refine ae ?_
  refine ad aa 2 rfl ?_
  refine ax ?_
  have hX:dU a t=(⟨a.aL,a.az,a.sum,a.captured,a.bz,a.bm,a.cQ,true⟩:bB):=by
    refine vx rfl rfl rfl rfl rfl rfl rfl ?_;by_cases hT:a.cQ<=t<;>first|(exfalso;omega)|simp [dU,hT]
  rw [hX] at hr;clear hX
  subst hr
  refine al aa [1] 0 rfl rfl rfl rfl rfl rfl ?_ ?_
  all_goals first|rfl|(simp [ar];done)|(simp [ar];omega)
 have hc1':=of_decide_eq_false hc1
 refine aP ?_
 refine ad aa 2 rfl ?_
 refine ax ?_
 have hX:dU a t=a:=by
   refine vx rfl rfl rfl rfl rfl rfl rfl ?_;by_cases hT:a.cQ<=t<;>first|(exfalso;omega)|simp [dU,hT]
 rw [hX] at hr;clear hX
 subst hr
 refine al aa [1] 0 rfl rfl rfl rfl rfl rfl ?_ ?_
 all_goals first|rfl|(simp [ar];done)|(simp [ar];omega)
theorem jZ (a:bB) (ha:bG a=0) (e:Int) (hr:bK a=e):Fn Try.prog 27 [(.g [(cI a.aL),(cI a.az),(cI a.sum),(cI a.captured),(cI a.bz),(cI a.bm),(cI a.cQ),(cB a.shut)])] (.v (.c (cI e))) []:=by
 refine Fn.mk' 10 [(0,(aG [(cI a.aL),(cI a.az),(cI a.sum),(cI a.captured),(cI a.bz),(cI a.bm),(cI a.cQ),(cB a.shut)]))] Try.func27 rfl rfl rfl rfl ?_
 intro W0 T0
 have hw:=eI ha
 refine ad aa 2 rfl ?_
 refine af ?_
 refine ad aa 2 rfl ?_
 refine ag rfl (fun hc1=>?_) (fun hc1=>?_)
 ·
  have hc1':=hc1;try simp only [bl,bJ] at hc1'
  refine ad aa 1 rfl ?_
  refine ax ?_
  refine an ?_
  have hX:bK a=0:=by
    (unfold bK;try dsimp only);(repeat' split)<;>first|rfl|omega|(exfalso;omega)|(subst_vars;rfl)|(simp_all;done)|(simp_all;omega)
  rw [hX] at hr;clear hX
  subst hr
  refine al aa [] 0 rfl rfl rfl rfl rfl rfl ?_ ?_
  all_goals first|rfl|(simp [ar];done)|(simp [ar];omega)
 have hc1':=hc1;try simp only [bl,bJ] at hc1'
 refine aP ?_
 refine aE aa 4 rfl ?_
 refine ay (aK rfl rfl rfl (aH (by first|omega|(simp;done)|(simp;omega)))) rfl ?_
 refine ab aa 1 rfl ?_
 refine ae ?_
 refine ax ?_
 have hX:bK a=(a.sum - a.captured):=by
   (unfold bK;try dsimp only);(repeat' split)<;>first|rfl|omega|(exfalso;omega)|(subst_vars;rfl)|(simp_all;done)|(simp_all;omega)
 rw [hX] at hr;clear hX
 subst hr
 refine al aa [] 0 rfl rfl rfl rfl rfl rfl ?_ ?_
 all_goals first|rfl|(simp [ar];done)|(simp [ar];omega)
theorem pE (a:bB) (h:bG a=0):cA Try.prog 101 [(.c (.p 0 0 0 0))] [(0,(.box 67 [(cI a.aL),(cI a.az),(cI a.sum),(cI a.captured),(cI a.bz),(cI a.bm),(cI a.cQ),(cB a.shut)]))] [0] (aI (a.captured - a.bz - a.bm)) [(0,(.box 67 [(cI a.aL),(cI a.az),(cI a.sum),(cI a.captured),(cI a.bz),(cI a.bm),(cI a.cQ),(cB a.shut)]))]:=by
 refine cA.mk 17 [(0,(aC (.p 0 0 0 0)))] 1 Try.func101 rfl rfl rfl rfl rfl rfl rfl rfl rfl ?_
 intro W0 F0 T0 pg
 have hw:=eI h
 refine ad aa 1 rfl ?_
 refine af ?_
 refine bc [0] [0] mixed rfl rfl ?_
 refine aA (kn:=[]) aa 8 rfl trivial ?_
 refine aT (n':=1) [6,10] [] rfl rfl (.inl ⟨(ah.plain rfl),aJ.cast (aK rfl rfl rfl (aH (by first|omega|(simp;done)|(simp;omega)))) rfl⟩) rfl ?_
 refine aA (kn:=[]) aa 4 rfl trivial ?_
 refine aT (n':=1) [11,15] [] rfl rfl (.inl ⟨(ah.plain rfl),aJ.cast (aK rfl rfl rfl (aH (by first|omega|(simp;done)|(simp;omega)))) rfl⟩) rfl ?_
 refine aA (kn:=[]) aa 1 rfl trivial ?_
 refine bC [0] rfl rfl rfl rfl (by kernel_rfl) ?_
 refine ae ?_
 refine ax ?_
 refine al aa [0] 1 rfl rfl rfl rfl rfl rfl ?_ ?_
 all_goals first|rfl|(simp [ar];done)|(simp [ar];omega)
theorem vW (a:bB) (kind n:Int) (h:bG a=0) (h1:1<=n) (h2:n<=1000000) (b:bB) (e:Int) (hr:dG a kind n=(b,e)):cA Try.prog 102 [(.c (.p 0 0 0 0)),(.c (cI kind)),(.c (cI n))] [(0,(.box 67 [(cI a.aL),(cI a.az),(cI a.sum),(cI a.captured),(cI a.bz),(cI a.bm),(cI a.cQ),(cB a.shut)]))] [0] (.v (.c (cI e))) [(0,(.box 67 [(cI b.aL),(cI b.az),(cI b.sum),(cI b.captured),(cI b.bz),(cI b.bm),(cI b.cQ),(cB b.shut)]))]:=by
 refine cA.mk 91 [(0,(aC (.p 0 0 0 0))),(1,(aI kind)),(2,(aI n))] 1 Try.func102 rfl rfl rfl rfl rfl rfl rfl rfl rfl ?_
 intro W0 F0 T0 pg
 have hw:=eI h
 refine ad aa 1 rfl ?_
 refine af ?_
 refine bc [0,1,2] [0] mixed rfl rfl ?_
 refine aA (kn:=[]) aa 8 rfl trivial ?_
 refine aT (n':=1) [11,15] [] rfl rfl (.inl ⟨(ah.plain rfl),aJ.cast (aK rfl rfl rfl (aH (by first|omega|(simp;done)|(simp;omega)))) rfl⟩) rfl ?_
 refine aA (kn:=[]) aa 1 rfl trivial ?_
 refine bC [0] rfl rfl rfl rfl (by kernel_rfl) ?_
 refine ae ?_
 refine af ?_
 refine aW ?_
 refine ad aa 5 rfl ?_
 refine ag rfl (fun hc1=>?_) (fun hc1=>?_)
 ·
  have hc1':=hc1;try simp only [bl,bJ] at hc1'
  refine ad aa 1 rfl ?_
  refine ax ?_
  refine bf ?_
  refine an ?_
  have hX:dG a kind n=(a,9):=by
    (unfold dG;try dsimp only);(repeat' split)<;>first|rfl|omega|(exfalso;omega)|(subst_vars;rfl)|(simp_all;done)|(simp_all;omega)
  rw [hX] at hr;clear hX
  simp only [Prod.mk.injEq] at hr;obtain ⟨rfl,rfl⟩:=hr
  refine al aa [0] 1 rfl rfl rfl rfl rfl rfl ?_ ?_
  all_goals first|rfl|(simp [ar];done)|(simp [ar];omega)
 have hc1':=hc1;try simp only [bl,bJ] at hc1'
 refine ad aa 3 rfl ?_
 refine ag rfl (fun hc2=>?_) (fun hc2=>?_)
 ·
  have hc2':=of_decide_eq_true hc2
  refine af ?_
  refine aE aa 5 rfl ?_
  refine ay (aK rfl rfl rfl (aH (by first|omega|(simp;done)|(simp;omega)))) rfl ?_
  refine ab aa 1 rfl ?_
  refine ae ?_
  refine ag rfl (fun hc3=>?_) (fun hc3=>?_)
  ·
   have hc3':=of_decide_eq_true hc3
   refine ad aa 1 rfl ?_
   refine ax ?_
   refine an ?_
   refine bf ?_
   refine an ?_
   have hX:dG a kind n=(a,4):=by
     (unfold dG;try dsimp only);(repeat' split)<;>first|rfl|omega|(exfalso;omega)|(subst_vars;rfl)|(simp_all;done)|(simp_all;omega)
   rw [hX] at hr;clear hX
   simp only [Prod.mk.injEq] at hr;obtain ⟨rfl,rfl⟩:=hr
   refine al aa [0] 1 rfl rfl rfl rfl rfl rfl ?_ ?_
   all_goals first|rfl|(simp [ar];done)|(simp [ar];omega)
  have hc3':=of_decide_eq_false hc3
  refine aP ?_
  refine aE aa 5 rfl ?_
  refine ay (aK rfl rfl rfl (aH (by first|omega|(simp;done)|(simp;omega)))) rfl ?_
  refine ab aa 3 rfl ?_
  refine ae ?_
  refine ad aa 1 rfl ?_
  refine ax ?_
  refine bf ?_
  refine an ?_
  have hX:dG a kind n=((⟨a.aL,a.az,a.sum+n,a.captured,a.bz,a.bm,a.cQ,a.shut⟩:bB),0):=by
    (unfold dG;try dsimp only);(repeat' split)<;>first|rfl|omega|(exfalso;omega)|(subst_vars;rfl)|(simp_all;done)|(simp_all;omega)
  rw [hX] at hr;clear hX
  simp only [Prod.mk.injEq] at hr;obtain ⟨rfl,rfl⟩:=hr
  refine al aa [0] 1 rfl rfl rfl rfl rfl rfl ?_ ?_
  all_goals first|rfl|(simp [ar];done)|(simp [ar];omega)
 have hc2':=of_decide_eq_false hc2
 refine ad aa 4 rfl ?_
 refine ag rfl (fun hc4=>?_) (fun hc4=>?_)
 ·
  have hc4':=of_decide_eq_true hc4
  refine ad aa 1 rfl ?_
  refine ax ?_
  refine bf ?_
  refine an ?_
  have hX:dG a kind n=(a,10):=by
    (unfold dG;try dsimp only);(repeat' split)<;>first|rfl|omega|(exfalso;omega)|(subst_vars;rfl)|(simp_all;done)|(simp_all;omega)
  rw [hX] at hr;clear hX
  simp only [Prod.mk.injEq] at hr;obtain ⟨rfl,rfl⟩:=hr
  refine al aa [0] 1 rfl rfl rfl rfl rfl rfl ?_ ?_
  all_goals first|rfl|(simp [ar];done)|(simp [ar];omega)
 have hc4':=of_decide_eq_false hc4
 refine ad aa 3 rfl ?_
 refine ag rfl (fun hc5=>?_) (fun hc5=>?_)
 ·
  have hc5':=of_decide_eq_true hc5
  refine aE aa 5 rfl ?_
  refine ay (aK rfl rfl rfl (aH (by first|omega|(simp;done)|(simp;omega)))) rfl ?_
  refine ab aa 3 rfl ?_
  refine ae ?_
  refine af ?_
  refine bc [0,1,2] [0] mixed rfl rfl ?_
  refine aA (kn:=[]) aa 12 rfl trivial ?_
  refine bC [0] rfl rfl rfl rfl (by kernel_rfl) ?_
  refine ab aa 1 rfl ?_
  refine ae ?_
  refine ad aa 1 rfl ?_
  refine ax ?_
  refine bf ?_
  refine an ?_
  have hX:dG a kind n=((⟨a.aL,a.az,a.sum - n,a.captured,a.bz,a.bm,a.cQ,decide ((a.sum - n)=a.captured)⟩:bB),0):=by
    (unfold dG;try dsimp only);(repeat' split)<;>first|rfl|omega|(exfalso;omega)|(subst_vars;rfl)|(simp_all;done)|(simp_all;omega)
  rw [hX] at hr;clear hX
  simp only [Prod.mk.injEq] at hr;obtain ⟨rfl,rfl⟩:=hr
  refine al aa [0] 1 rfl rfl rfl rfl rfl rfl ?_ ?_
  all_goals first|rfl|(simp [ar];done)|(simp [ar];omega)
 have hc5':=of_decide_eq_false hc5
 refine cW ?_
 refine bn ?_
 refine then_ok ?_
 refine aE aa 5 rfl ?_
 refine ay (aK rfl rfl rfl (aH (by first|omega|(simp;done)|(simp;omega)))) rfl ?_
 refine ab aa 3 rfl ?_
 refine ae ?_
 refine af ?_
 rcases Bool.eq_false_or_eq_true (decide (kind=3)) with hb6|hb6
 ·
  have hb6':=of_decide_eq_true hb6
  refine bc [0,1] [0] mixed rfl rfl ?_
  refine aA (kn:=[(77,true)]) aa 16 rfl ⟨hb6,trivial⟩ ?_
  refine bC [0] rfl rfl rfl rfl (by kernel_rfl) ?_
  refine ab aa 1 rfl ?_
  refine ae ?_
  refine ad aa 1 rfl ?_
  refine ax ?_
  have hX:dG a kind n=((⟨a.aL,a.az,a.sum,a.captured+n,a.bz,a.bm,a.cQ,true⟩:bB),0):=by
    (unfold dG;try dsimp only);(repeat' split)<;>first|rfl|omega|(exfalso;omega)|(subst_vars;rfl)|(simp_all;done)|(simp_all;omega)
  rw [hX] at hr;clear hX
  simp only [Prod.mk.injEq] at hr;obtain ⟨rfl,rfl⟩:=hr
  refine al aa [0] 1 rfl rfl rfl rfl rfl rfl ?_ ?_
  all_goals first|rfl|(simp [ar];done)|(simp [ar];omega)
 have hb6':=of_decide_eq_false hb6
 refine bc [0,1] [0] mixed rfl rfl ?_
 refine aA (kn:=[(77,false)]) aa 16 rfl ⟨hb6,trivial⟩ ?_
 refine bC [0] rfl rfl rfl rfl (by kernel_rfl) ?_
 refine ab aa 1 rfl ?_
 refine ae ?_
 refine ad aa 1 rfl ?_
 refine ax ?_
 have hX:dG a kind n=((⟨a.aL,a.az,a.sum,a.captured+n,a.bz,a.bm,a.cQ,decide ((a.captured+n)=a.sum)⟩:bB),0):=by
   (unfold dG;try dsimp only);(repeat' split)<;>first|rfl|omega|(exfalso;omega)|(subst_vars;rfl)|(simp_all;done)|(simp_all;omega)
 rw [hX] at hr;clear hX
 simp only [Prod.mk.injEq] at hr;obtain ⟨rfl,rfl⟩:=hr
 refine al aa [0] 1 rfl rfl rfl rfl rfl rfl ?_ ?_
 all_goals first|rfl|(simp [ar];done)|(simp [ar];omega)
theorem vX (a:bB) (kind n:Int) (b:bB) (e:Int) (hr:ck a kind n=(b,e)):Fn Try.prog 81 [(.g [(cI a.aL),(cI a.az),(cI a.sum),(cI a.captured),(cI a.bz),(cI a.bm),(cI a.cQ),(cB a.shut)]),(.c (cI kind)),(.c (cI n))] (.t [(.g [(cI b.aL),(cI b.az),(cI b.sum),(cI b.captured),(cI b.bz),(cI b.bm),(cI b.cQ),(cB b.shut)]),(.c (cI e))]) []:=by
 refine Fn.mk' 76 [(0,(aG [(cI a.aL),(cI a.az),(cI a.sum),(cI a.captured),(cI a.bz),(cI a.bm),(cI a.cQ),(cB a.shut)])),(1,(aI kind)),(2,(aI n))] Try.func81 rfl rfl rfl rfl ?_
 intro W0 T0
 have hw:=@eI a
 refine ad aa 3 rfl ?_
 refine af ?_
 refine aE aa 1 rfl ?_
 obtain ⟨e0,hr0⟩:∃ (e0:Int),bG a=e0:=⟨_,rfl⟩
 refine aM 2 [1,0] (bP 2 (oD a e0 hr0) DP rfl rfl ⟨⟨_,rfl,.g ⟨.d _,.d _,.d _,.d _,.d _,.d _,.d _,.d _,trivial⟩⟩,trivial⟩ trivial trivial rfl rfl rfl rfl) rfl ?_
 refine ab aa 1 rfl ?_
 refine ae ?_
 refine ad aa 2 rfl ?_
 refine ag rfl (fun hc1=>?_) (fun hc1=>?_)
 ·
  have hc1':=of_decide_eq_true hc1
  refine ad aa 4 rfl ?_
  refine ax ?_
  refine an ?_
  have hX:ck a kind n=((⟨0,0,0,0,0,0,0,false⟩:bB),e0):=by
    (unfold ck;try dsimp only);(try simp only [hr0]);(repeat' split)<;>first|rfl|omega|(exfalso;omega)|(subst_vars;rfl)|(simp_all;done)|(simp_all;omega)
  rw [hX] at hr;clear hX
  simp only [Prod.mk.injEq] at hr;obtain ⟨rfl,rfl⟩:=hr
  refine al aa [1] 0 rfl rfl rfl rfl rfl rfl ?_ ?_
  all_goals first|rfl|(simp [ar];done)|(simp [ar];omega)
 have hc1':=of_decide_eq_false hc1
 refine aP ?_
 refine af ?_
 refine cp 21 ((decide (kind < 1))||(decide (kind > 8))) ?_ ?_
 ·
  refine aw ?_
  refine ab aa 3 rfl ?_
  refine bw (t:=18) rfl (fun hb2=>?_) (fun hb2=>?_)
  ·
   have hb2':=of_decide_eq_true hb2
   refine ab aa 3 rfl ?_
   refine ae ?_
   exact aD.bA 7 rfl rfl (by first|(simp [hb2];done)|(simp_all;done)|(exfalso;simp_all;done)|(simp_all;omega)) rfl
  have hb2':=of_decide_eq_false hb2
  refine ab aa 3 rfl ?_
  refine ae ?_
  exact aD.bA 7 rfl rfl (by first|(simp [hb2];done)|(simp_all;done)|(exfalso;simp_all;done)|(simp_all;omega)) rfl
 refine ag rfl (fun hc3=>?_) (fun hc3=>?_)
 ·
  have hc3':=hc3;try simp only [bl,bJ] at hc3'
  refine ad aa 3 rfl ?_
  refine ax ?_
  refine an ?_
  have hX:ck a kind n=((⟨0,0,0,0,0,0,0,false⟩:bB),1):=by
    (unfold ck;try dsimp only);(try simp only [hr0]);(repeat' split)<;>first|rfl|omega|(exfalso;omega)|(subst_vars;rfl)|(simp_all;done)|(simp_all;omega)
  rw [hX] at hr;clear hX
  simp only [Prod.mk.injEq] at hr;obtain ⟨rfl,rfl⟩:=hr
  refine al aa [1] 0 rfl rfl rfl rfl rfl rfl ?_ ?_
  all_goals first|rfl|(simp [ar];done)|(simp [ar];omega)
 have hc3':=hc3;try simp only [bl,bJ] at hc3'
 refine aP ?_
 refine af ?_
 refine cp 28 ((decide (n < 1))||(decide (n > 1000000))) ?_ ?_
 ·
  refine aw ?_
  refine ab aa 3 rfl ?_
  refine bw (t:=25) rfl (fun hb4=>?_) (fun hb4=>?_)
  ·
   have hb4':=of_decide_eq_true hb4
   refine ab aa 3 rfl ?_
   refine ae ?_
   exact aD.bA 7 rfl rfl (by first|(simp [hb4];done)|(simp_all;done)|(exfalso;simp_all;done)|(simp_all;omega)) rfl
  have hb4':=of_decide_eq_false hb4
  refine ab aa 3 rfl ?_
  refine ae ?_
  exact aD.bA 7 rfl rfl (by first|(simp [hb4];done)|(simp_all;done)|(exfalso;simp_all;done)|(simp_all;omega)) rfl
 refine ag rfl (fun hc5=>?_) (fun hc5=>?_)
 ·
  have hc5':=hc5;try simp only [bl,bJ] at hc5'
  refine ad aa 3 rfl ?_
  refine ax ?_
  refine an ?_
  have hX:ck a kind n=((⟨0,0,0,0,0,0,0,false⟩:bB),3):=by
    (unfold ck;try dsimp only);(try simp only [hr0]);(repeat' split)<;>first|rfl|omega|(exfalso;omega)|(subst_vars;rfl)|(simp_all;done)|(simp_all;omega)
  rw [hX] at hr;clear hX
  simp only [Prod.mk.injEq] at hr;obtain ⟨rfl,rfl⟩:=hr
  refine al aa [1] 0 rfl rfl rfl rfl rfl rfl ?_ ?_
  all_goals first|rfl|(simp [ar];done)|(simp [ar];omega)
 have hc5':=hc5;try simp only [bl,bJ] at hc5'
 refine aP ?_
 refine ad aa 1 rfl ?_
 refine af ?_
 refine ad aa 1 rfl ?_
 refine aW ?_
 refine af ?_
 refine ad aa 2 rfl ?_
 refine ag rfl (fun hc6=>?_) (fun hc6=>?_)
 ·
  have hc6':=of_decide_eq_true hc6
  refine aP ?_
  refine ag rfl (fun _=>?_) (fun hno=>absurd (hc6.symm.trans hno) (by decide))
  refine aE aa 1 rfl ?_
  refine aM 2 [0,1] (cE id id (pE a (by first|assumption|omega)) BO rfl rfl ⟨⟨_,rfl,.inl ⟨rfl,rfl⟩⟩,trivial⟩ ⟨rfl,trivial⟩ rfl rfl rfl rfl rfl rfl trivial ⟨⟨trivial,trivial,trivial,trivial,trivial,trivial,trivial,trivial,trivial⟩,trivial⟩ rfl rfl rfl rfl) rfl ?_
  refine ab aa 1 rfl ?_
  refine ae ?_
  refine ag rfl (fun hc8=>?_) (fun hc8=>?_)
  ·
   have hc8':=of_decide_eq_true hc8
   refine aw ?_
   refine ab aa 1 rfl ?_
   refine bX ?_
   refine bn ?_
   refine then_ok ?_
   refine af ?_
   refine aE aa 1 rfl ?_
   refine ay (aK rfl rfl rfl (show _=some (Value.bool true) from rfl)) rfl ?_
   refine ae ?_
   refine ag rfl (fun _=>?_) (fun hno=>by cases hno)
   refine ad aa 4 rfl ?_
   refine ax ?_
   refine an ?_
   have hX:ck a kind n=((⟨0,0,0,0,0,0,0,false⟩:bB),10):=by
     (unfold ck;try dsimp only);(try simp only [hr0]);(repeat' split)<;>first|rfl|omega|(exfalso;omega)|(subst_vars;rfl)|(simp_all;done)|(simp_all;omega)
   rw [hX] at hr;clear hX
   simp only [Prod.mk.injEq] at hr;obtain ⟨rfl,rfl⟩:=hr
   refine al aa [1] 0 rfl rfl rfl rfl rfl rfl ?_ ?_
   all_goals first|rfl|(simp [ar];done)|(simp [ar];omega)
  have hc8':=of_decide_eq_false hc8
  refine ad aa 2 rfl ?_
  refine ag rfl (fun _=>?_) (fun hno=>absurd (hc6.symm.trans hno) (by decide))
  refine aw ?_
  refine ab aa 3 rfl ?_
  refine ay (aK rfl rfl rfl (aH (by first|omega|(simp;done)|(simp;omega)))) rfl ?_
  refine ab aa 2 rfl ?_
  refine bX ?_
  refine bn ?_
  refine then_ok ?_
  refine af ?_
  refine aE aa 1 rfl ?_
  refine ay (aK rfl rfl rfl (show _=some (Value.bool false) from rfl)) rfl ?_
  refine ae ?_
  refine ag rfl (fun hno=>by cases hno) (fun _=>?_)
  refine aP ?_
  refine ad aa 3 rfl ?_
  refine ax ?_
  have hX:ck a kind n=((⟨a.aL,a.az,a.sum,a.captured,a.bz+n,a.bm,a.cQ,a.shut⟩:bB),0):=by
    (unfold ck;try dsimp only);(try simp only [hr0]);(repeat' split)<;>first|rfl|omega|(exfalso;omega)|(subst_vars;rfl)|(simp_all;done)|(simp_all;omega)
  rw [hX] at hr;clear hX
  simp only [Prod.mk.injEq] at hr;obtain ⟨rfl,rfl⟩:=hr
  refine al aa [1] 0 rfl rfl rfl rfl rfl rfl ?_ ?_
  all_goals first|rfl|(simp [ar];done)|(simp [ar];omega)
 have hc6':=of_decide_eq_false hc6
 refine aw ?_
 refine ab aa 2 rfl ?_
 refine ae ?_
 refine ag rfl (fun hc12=>?_) (fun hc12=>?_)
 ·
  have hc12':=of_decide_eq_true hc12
  refine aE aa 1 rfl ?_
  refine aM 2 [0,1] (cE id id (pE a (by first|assumption|omega)) BO rfl rfl ⟨⟨_,rfl,.inl ⟨rfl,rfl⟩⟩,trivial⟩ ⟨rfl,trivial⟩ rfl rfl rfl rfl rfl rfl trivial ⟨⟨trivial,trivial,trivial,trivial,trivial,trivial,trivial,trivial,trivial⟩,trivial⟩ rfl rfl rfl rfl) rfl ?_
  refine ab aa 1 rfl ?_
  refine ae ?_
  refine ag rfl (fun hc13=>?_) (fun hc13=>?_)
  ·
   have hc13':=of_decide_eq_true hc13
   refine aw ?_
   refine ab aa 1 rfl ?_
   refine bX ?_
   refine bn ?_
   refine then_ok ?_
   refine af ?_
   refine aE aa 1 rfl ?_
   refine ay (aK rfl rfl rfl (show _=some (Value.bool true) from rfl)) rfl ?_
   refine ae ?_
   refine ag rfl (fun _=>?_) (fun hno=>by cases hno)
   refine ad aa 4 rfl ?_
   refine ax ?_
   refine an ?_
   have hX:ck a kind n=((⟨0,0,0,0,0,0,0,false⟩:bB),10):=by
     (unfold ck;try dsimp only);(try simp only [hr0]);(repeat' split)<;>first|rfl|omega|(exfalso;omega)|(subst_vars;rfl)|(simp_all;done)|(simp_all;omega)
   rw [hX] at hr;clear hX
   simp only [Prod.mk.injEq] at hr;obtain ⟨rfl,rfl⟩:=hr
   refine al aa [1] 0 rfl rfl rfl rfl rfl rfl ?_ ?_
   all_goals first|rfl|(simp [ar];done)|(simp [ar];omega)
  have hc13':=of_decide_eq_false hc13
  refine ad aa 2 rfl ?_
  refine ag rfl (fun hno=>absurd (hc6.symm.trans hno) (by decide)) (fun _=>?_)
  refine aw ?_
  refine ab aa 3 rfl ?_
  refine ay (aK rfl rfl rfl (aH (by first|omega|(simp;done)|(simp;omega)))) rfl ?_
  refine ab aa 2 rfl ?_
  refine bX ?_
  refine bn ?_
  refine then_ok ?_
  refine af ?_
  refine aE aa 1 rfl ?_
  refine ay (aK rfl rfl rfl (show _=some (Value.bool false) from rfl)) rfl ?_
  refine ae ?_
  refine ag rfl (fun hno=>by cases hno) (fun _=>?_)
  refine aP ?_
  refine ad aa 3 rfl ?_
  refine ax ?_
  have hX:ck a kind n=((⟨a.aL,a.az,a.sum,a.captured,a.bz,a.bm+n,a.cQ,a.shut⟩:bB),0):=by
    (unfold ck;try dsimp only);(try simp only [hr0]);(repeat' split)<;>first|rfl|omega|(exfalso;omega)|(subst_vars;rfl)|(simp_all;done)|(simp_all;omega)
  rw [hX] at hr;clear hX
  simp only [Prod.mk.injEq] at hr;obtain ⟨rfl,rfl⟩:=hr
  refine al aa [1] 0 rfl rfl rfl rfl rfl rfl ?_ ?_
  all_goals first|rfl|(simp [ar];done)|(simp [ar];omega)
 have hc12':=of_decide_eq_false hc12
 refine af ?_
 refine ad aa 2 rfl ?_
 refine ag rfl (fun hc17=>?_) (fun hc17=>?_)
 ·
  have hc17':=of_decide_eq_true hc17
  refine aP ?_
  refine ag rfl (fun _=>?_) (fun hno=>absurd (hc17.symm.trans hno) (by decide))
  refine af ?_
  refine ad aa 4 rfl ?_
  refine ag rfl (fun hc19=>?_) (fun hc19=>?_)
  ·
   have hc19':=of_decide_eq_true hc19
   refine ad aa 1 rfl ?_
   refine cm ?_
   refine aQ ?_
   refine bO ?_
   refine then_ok ?_
   refine af ?_
   refine aE aa 1 rfl ?_
   refine ay (aK rfl rfl rfl (show _=some (Value.bool true) from rfl)) rfl ?_
   refine ae ?_
   refine ag rfl (fun _=>?_) (fun hno=>by cases hno)
   refine ad aa 4 rfl ?_
   refine ax ?_
   refine an ?_
   have hX:ck a kind n=((⟨0,0,0,0,0,0,0,false⟩:bB),10):=by
     (unfold ck;try dsimp only);(try simp only [hr0]);(repeat' split)<;>first|rfl|omega|(exfalso;omega)|(subst_vars;rfl)|(simp_all;done)|(simp_all;omega)
   rw [hX] at hr;clear hX
   simp only [Prod.mk.injEq] at hr;obtain ⟨rfl,rfl⟩:=hr
   refine al aa [1] 0 rfl rfl rfl rfl rfl rfl ?_ ?_
   all_goals first|rfl|(simp [ar];done)|(simp [ar];omega)
  have hc19':=of_decide_eq_false hc19
  refine aP ?_
  refine aE aa 3 rfl ?_
  refine ay (aK rfl rfl rfl (aH (by first|omega|(simp;done)|(simp;omega)))) rfl ?_
  refine ab aa 2 rfl ?_
  refine ae ?_
  refine ad aa 2 rfl ?_
  refine ag rfl (fun _=>?_) (fun hno=>absurd (hc17.symm.trans hno) (by decide))
  refine aw ?_
  refine ab aa 3 rfl ?_
  refine ay (aK rfl rfl rfl (aH (by first|omega|(simp;done)|(simp;omega)))) rfl ?_
  refine ab aa 2 rfl ?_
  refine bX ?_
  refine bn ?_
  refine then_ok ?_
  refine af ?_
  refine aE aa 1 rfl ?_
  refine ay (aK rfl rfl rfl (show _=some (Value.bool false) from rfl)) rfl ?_
  refine ae ?_
  refine ag rfl (fun hno=>by cases hno) (fun _=>?_)
  refine aP ?_
  refine ad aa 3 rfl ?_
  refine ax ?_
  have hX:ck a kind n=((⟨a.aL,a.az,a.sum,a.captured,a.bz+n,a.bm - n,a.cQ,a.shut⟩:bB),0):=by
    (unfold ck;try dsimp only);(try simp only [hr0]);(repeat' split)<;>first|rfl|omega|(exfalso;omega)|(subst_vars;rfl)|(simp_all;done)|(simp_all;omega)
  rw [hX] at hr;clear hX
  simp only [Prod.mk.injEq] at hr;obtain ⟨rfl,rfl⟩:=hr
  refine al aa [1] 0 rfl rfl rfl rfl rfl rfl ?_ ?_
  all_goals first|rfl|(simp [ar];done)|(simp [ar];omega)
 have hc17':=of_decide_eq_false hc17
 refine aw ?_
 refine ab aa 2 rfl ?_
 refine ae ?_
 refine ag rfl (fun hc23=>?_) (fun hc23=>?_)
 ·
  have hc23':=of_decide_eq_true hc23
  refine af ?_
  refine ad aa 4 rfl ?_
  refine ag rfl (fun hc24=>?_) (fun hc24=>?_)
  ·
   have hc24':=of_decide_eq_true hc24
   refine ad aa 1 rfl ?_
   refine cm ?_
   refine aQ ?_
   refine bO ?_
   refine then_ok ?_
   refine af ?_
   refine aE aa 1 rfl ?_
   refine ay (aK rfl rfl rfl (show _=some (Value.bool true) from rfl)) rfl ?_
   refine ae ?_
   refine ag rfl (fun _=>?_) (fun hno=>by cases hno)
   refine ad aa 4 rfl ?_
   refine ax ?_
   refine an ?_
   have hX:ck a kind n=((⟨0,0,0,0,0,0,0,false⟩:bB),10):=by
     (unfold ck;try dsimp only);(try simp only [hr0]);(repeat' split)<;>first|rfl|omega|(exfalso;omega)|(subst_vars;rfl)|(simp_all;done)|(simp_all;omega)
   rw [hX] at hr;clear hX
   simp only [Prod.mk.injEq] at hr;obtain ⟨rfl,rfl⟩:=hr
   refine al aa [1] 0 rfl rfl rfl rfl rfl rfl ?_ ?_
   all_goals first|rfl|(simp [ar];done)|(simp [ar];omega)
  have hc24':=of_decide_eq_false hc24
  refine aP ?_
  refine aE aa 3 rfl ?_
  refine ay (aK rfl rfl rfl (aH (by first|omega|(simp;done)|(simp;omega)))) rfl ?_
  refine ab aa 2 rfl ?_
  refine ae ?_
  refine ad aa 2 rfl ?_
  refine ag rfl (fun hno=>absurd (hc17.symm.trans hno) (by decide)) (fun _=>?_)
  refine cW ?_
  refine bn ?_
  refine then_ok ?_
  refine af ?_
  refine aE aa 1 rfl ?_
  refine ay (aK rfl rfl rfl (show _=some (Value.bool false) from rfl)) rfl ?_
  refine ae ?_
  refine ag rfl (fun hno=>by cases hno) (fun _=>?_)
  refine aP ?_
  refine ad aa 3 rfl ?_
  refine ax ?_
  have hX:ck a kind n=((⟨a.aL,a.az,a.sum,a.captured,a.bz,a.bm - n,a.cQ,a.shut⟩:bB),0):=by
    (unfold ck;try dsimp only);(try simp only [hr0]);(repeat' split)<;>first|rfl|omega|(exfalso;omega)|(subst_vars;rfl)|(simp_all;done)|(simp_all;omega)
  rw [hX] at hr;clear hX
  simp only [Prod.mk.injEq] at hr;obtain ⟨rfl,rfl⟩:=hr
  refine al aa [1] 0 rfl rfl rfl rfl rfl rfl ?_ ?_
  all_goals first|rfl|(simp [ar];done)|(simp [ar];omega)
 have hc23':=of_decide_eq_false hc23
 refine aw ?_
 refine ab aa 2 rfl ?_
 obtain ⟨b1,e1,hr1⟩:∃ (b1:bB) (e1:Int),dG a kind n=(b1,e1):=⟨_,_,rfl⟩
 refine aM 2 [0,1] (cE id id (vW a kind n (by first|assumption|omega) (by omega) (by omega) b1 e1 hr1) ET rfl rfl ⟨⟨_,rfl,.inl ⟨rfl,rfl⟩⟩,⟨_,rfl,.inr (.c (.d _))⟩,⟨_,rfl,.inr (.c (.d _))⟩,trivial⟩ ⟨rfl,trivial⟩ rfl rfl rfl rfl rfl rfl trivial ⟨⟨trivial,trivial,trivial,trivial,trivial,trivial,trivial,trivial,trivial⟩,trivial⟩ rfl rfl rfl rfl) rfl ?_
 refine ab aa 1 rfl ?_
 refine bX ?_
 refine bn ?_
 refine then_ok ?_
 refine af ?_
 refine ad aa 2 rfl ?_
 refine ag rfl (fun hc28=>?_) (fun hc28=>?_)
 ·
  have hc28':=of_decide_eq_true hc28
  refine ad aa 4 rfl ?_
  refine ax ?_
  refine an ?_
  have hX:ck a kind n=((⟨0,0,0,0,0,0,0,false⟩:bB),e1):=by
    (unfold ck;try dsimp only);(try simp only [hr0]);(try simp only [hr1]);(repeat' split)<;>first|rfl|omega|(exfalso;omega)|(subst_vars;rfl)|(simp_all;done)|(simp_all;omega)
  rw [hX] at hr;clear hX
  simp only [Prod.mk.injEq] at hr;obtain ⟨rfl,rfl⟩:=hr
  refine al aa [1] 0 rfl rfl rfl rfl rfl rfl ?_ ?_
  all_goals first|rfl|(simp [ar];done)|(simp [ar];omega)
 have hc28':=of_decide_eq_false hc28
 refine aP ?_
 refine ad aa 3 rfl ?_
 refine ax ?_
 have hX:ck a kind n=(b1,0):=by
   (unfold ck;try dsimp only);(try simp only [hr0]);(try simp only [hr1]);(repeat' split)<;>first|rfl|omega|(exfalso;omega)|(subst_vars;rfl)|(simp_all;done)|(simp_all;omega)
 rw [hX] at hr;clear hX
 simp only [Prod.mk.injEq] at hr;obtain ⟨rfl,rfl⟩:=hr
 refine al aa [1] 0 rfl rfl rfl rfl rfl rfl ?_ ?_
 all_goals first|rfl|(simp [ar];done)|(simp [ar];omega)

theorem tG (cap:Int) (used:List Int) (advs:List ca):Fn Try.prog 30 [(.g [(cI cap),(gn used),(gI advs)])] (aI (bT ⟨cap,used,advs⟩)) []:=by
 refine Fn.mk' 109 [(0,(aG [(cI cap),(gn used),(gI advs)]))] Try.func30 rfl rfl rfl rfl ?_
 intro W0 T0
 refine ff 0 1 rfl rfl (fun hlen0_1=>?_)
 refine ff 0 2 rfl rfl (fun hlen0_2=>?_)
 refine ad aa 2 rfl ?_
 refine af ?_
 refine cp 17 ((decide ((↑used.length:Int) > 8))||(decide ((↑advs.length:Int) > 20))) ?_ ?_
 ·
  refine aw ?_
  refine ab aa 2 rfl ?_
  refine ay (cY rfl rfl rfl rfl rfl Try.underlying30) rfl ?_
  refine ab aa 2 rfl ?_
  refine bw (t:=12) rfl (fun hb1=>?_) (fun hb1=>?_)
  ·
   have hb1':=of_decide_eq_true hb1
   refine ab aa 5 rfl ?_
   refine ae ?_
   exact aD.bA 11 rfl rfl (by first|(simp [hb1];done)|(simp_all;done)|(exfalso;simp_all;done)|(simp_all;omega)) rfl
  have hb1':=of_decide_eq_false hb1
  refine ab aa 2 rfl ?_
  refine dD (ah.yes rfl rfl rfl) (cY rfl rfl rfl rfl rfl Try.underlying39) rfl rfl ?_
  refine ab aa 2 rfl ?_
  refine ae ?_
  exact aD.bA 11 rfl rfl (by first|(simp [hb1];done)|(simp_all;done)|(exfalso;simp_all;done)|(simp_all;omega)) rfl
 refine ag rfl (fun hc2=>?_) (fun hc2=>?_)
 ·
  have hc2':=hc2;try simp only [bl,bJ] at hc2'
  refine ad aa 1 rfl ?_
  refine ax ?_
  refine an ?_
  refine al aa [] 0 rfl rfl rfl rfl rfl rfl ?_ ?_
  ·(have h:=nJ (s:=⟨cap,used,advs⟩) (show 8 < used.length\/20 < advs.length by omega));show aI _=aI _;rw [h]
  ·rfl
 have hc2':=hc2;try simp only [bl,bJ] at hc2'
 refine aP ?_
 refine af ?_
 refine cp 25 ((decide (cap < 0))||(decide (cap > 1000000))) ?_ ?_
 ·
  refine aw ?_
  refine ab aa 4 rfl ?_
  refine bw (t:=21) rfl (fun hb3=>?_) (fun hb3=>?_)
  ·
   have hb3':=of_decide_eq_true hb3
   refine ab aa 4 rfl ?_
   refine ae ?_
   exact aD.bA 9 rfl rfl (by first|(simp [hb3];done)|(simp_all;done)|(exfalso;simp_all;done)|(simp_all;omega)) rfl
  have hb3':=of_decide_eq_false hb3
  refine ab aa 4 rfl ?_
  refine ae ?_
  exact aD.bA 9 rfl rfl (by first|(simp [hb3];done)|(simp_all;done)|(exfalso;simp_all;done)|(simp_all;omega)) rfl
 refine ag rfl (fun hc4=>?_) (fun hc4=>?_)
 ·
  have hc4':=hc4;try simp only [bl,bJ] at hc4'
  refine ad aa 1 rfl ?_
  refine ax ?_
  refine an ?_
  refine al aa [] 0 rfl rfl rfl rfl rfl rfl ?_ ?_
  ·(have h:=mj (s:=⟨cap,used,advs⟩) (show ¬(8 < (⟨cap,used,advs⟩:cv).used.length\/20 < (⟨cap,used,advs⟩:cv).aY.length) by simp only;omega) (show gh cap=false by simp only [gh,decide_eq_false_iff_not];omega));show aI _=aI _;rw [h]
  ·rfl
 have hc4':=hc4;try simp only [bl,bJ] at hc4'
 refine aP ?_
 refine aE aa 2 rfl ?_
 refine ay (cY rfl rfl rfl rfl rfl Try.underlying30) rfl ?_
 refine aM 2 [1,0] (oT 1 mM Bx rfl rfl rfl (n:=used.length) (by first|omega|(simp;omega)|(simp [df];omega)) (by first|omega|(simp;omega)|(simp [df];omega)) (by first|omega|(simp;omega)|(simp [df];omega)) (by first|omega|(simp;omega)|(simp [df];omega))) rfl ?_
 refine ab aa 1 rfl ?_
 refine ae ?_
 refine af ?_
 refine aE aa 2 rfl ?_
 refine ay (cY rfl rfl rfl rfl rfl Try.underlying39) rfl ?_
 refine ab aa 1 rfl ?_
 refine ae ?_
 refine aW ?_
 refine cw (β:=Nat) (fun (q:Nat)=>⟨[(1,(aC (.p 0 0 0 0))),(3,(aC (.s 1 0 1 used.length))),(31,(aC (gI advs))),(32,(aI (↑advs.length:Int))),(33,(aI (↑q:Int)))],[(1,(dC (iw used.length (advs.take q)))),(0,(.box 41 [(cI cap),(gn used),(gI advs)]))],2⟩) (fun (q:Nat)=>q<=advs.length/\(advs.take q).all (gj used.length)=true) (fun (q:Nat)=>advs.length - q) 0 ?_ ?_ ?_
 ·exact ⟨by omega,by simp⟩
 ·exact aD.bY id (by refine ⟨?_,?_,?_,?_,?_,trivial⟩<;>first|rfl|(simp only [bo];done)|(congr 3;omega)|(congr 4;omega)|(simp only [bp];rfl)) (by refine ⟨?_,?_,trivial⟩<;>first|rfl|(simp only [bo];done)|(congr 3;omega)|(congr 4;omega)|(simp only [bp];rfl)|((rw [List.take_zero,<-yu];rfl))) rfl
 rintro q ⟨hi0_0,hi0_1⟩
 refine ad aa 1 rfl ?_
 refine af ?_
 refine ag rfl (fun hc5=>?_) (fun hc5=>?_)
 ·
  have hc5':=of_decide_eq_true hc5
  refine aP ?_
  refine af ?_
  refine aW ?_
  refine eN ?_
  obtain ⟨x1,hx1⟩:=cq (xs:=advs) (i:=q) (by first|omega|(simp [df];omega))
  refine ay (cS (i:=q) rfl rfl rfl Try.underlying39 BC (by first|omega|(simp;omega)|(simp [df];omega)) (bu hx1)) rfl ?_
  refine ab aa 3 rfl ?_
  refine ae ?_
  refine af ?_
  refine cp 77 ((((((((decide (x1.aL < 0))||(decide (x1.aL>=(↑used.length:Int))))||(decide (x1.az < 0)))||(decide (x1.az>=8)))||(decide (x1.sum < 1)))||(decide (x1.sum > 1000000)))||(decide (x1.time < 0)))||(decide (x1.time > 1000000))) ?_ ?_
  ·
   refine aw ?_
   refine ab aa 4 rfl ?_
   refine bw (t:=40) rfl (fun hb6=>?_) (fun hb6=>?_)
   ·
    have hb6':=of_decide_eq_true hb6
    refine ab aa 37 rfl ?_
    refine ae ?_
    exact aD.bA 42 rfl rfl (by first|(simp [hb6];done)|(simp_all;done)|(exfalso;simp_all;done)|(simp_all;omega)) rfl
   have hb6':=of_decide_eq_false hb6
   refine ab aa 4 rfl ?_
   refine dD (ah.yes rfl rfl rfl) (cY rfl rfl rfl rfl rfl Try.underlying30) rfl rfl ?_
   refine ab aa 3 rfl ?_
   refine bw (t:=48) rfl (fun hb7=>?_) (fun hb7=>?_)
   ·
    have hb7':=of_decide_eq_true hb7
    refine ab aa 29 rfl ?_
    refine ae ?_
    exact aD.bA 43 rfl rfl (by first|(simp [hb6,hb7];done)|(simp_all;done)|(exfalso;simp_all;done)|(simp_all;omega)) rfl
   have hb7':=of_decide_eq_false hb7
   refine ab aa 5 rfl ?_
   refine bw (t:=53) rfl (fun hb8=>?_) (fun hb8=>?_)
   ·
    have hb8':=of_decide_eq_true hb8
    refine ab aa 24 rfl ?_
    refine ae ?_
    exact aD.bA 44 rfl rfl (by first|(simp [hb6,hb7,hb8];done)|(simp_all;done)|(exfalso;simp_all;done)|(simp_all;omega)) rfl
   have hb8':=of_decide_eq_false hb8
   refine ab aa 5 rfl ?_
   refine bw (t:=58) rfl (fun hb9=>?_) (fun hb9=>?_)
   ·
    have hb9':=of_decide_eq_true hb9
    refine ab aa 19 rfl ?_
    refine ae ?_
    exact aD.bA 45 rfl rfl (by first|(simp [hb6,hb7,hb8,hb9];done)|(simp_all;done)|(exfalso;simp_all;done)|(simp_all;omega)) rfl
   have hb9':=of_decide_eq_false hb9
   refine ab aa 5 rfl ?_
   refine bw (t:=63) rfl (fun hb10=>?_) (fun hb10=>?_)
   ·
    have hb10':=of_decide_eq_true hb10
    refine ab aa 14 rfl ?_
    refine ae ?_
    exact aD.bA 46 rfl rfl (by first|(simp [hb6,hb7,hb8,hb9,hb10];done)|(simp_all;done)|(exfalso;simp_all;done)|(simp_all;omega)) rfl
   have hb10':=of_decide_eq_false hb10
   refine ab aa 5 rfl ?_
   refine bw (t:=68) rfl (fun hb11=>?_) (fun hb11=>?_)
   ·
    have hb11':=of_decide_eq_true hb11
    refine ab aa 9 rfl ?_
    refine ae ?_
    exact aD.bA 47 rfl rfl (by first|(simp [hb6,hb7,hb8,hb9,hb10,hb11];done)|(simp_all;done)|(exfalso;simp_all;done)|(simp_all;omega)) rfl
   have hb11':=of_decide_eq_false hb11
   refine ab aa 5 rfl ?_
   refine bw (t:=73) rfl (fun hb12=>?_) (fun hb12=>?_)
   ·
    have hb12':=of_decide_eq_true hb12
    refine ab aa 4 rfl ?_
    refine ae ?_
    exact aD.bA 48 rfl rfl (by first|(simp [hb6,hb7,hb8,hb9,hb10,hb11,hb12];done)|(simp_all;done)|(exfalso;simp_all;done)|(simp_all;omega)) rfl
   have hb12':=of_decide_eq_false hb12
   refine ab aa 4 rfl ?_
   refine ae ?_
   exact aD.bA 48 rfl rfl (by first|(simp [hb6,hb7,hb8,hb9,hb10,hb11,hb12];done)|(simp_all;done)|(exfalso;simp_all;done)|(simp_all;omega)) rfl
  refine ag rfl (fun hc13=>?_) (fun hc13=>?_)
  ·
   have hc13':=hc13;try simp only [bl,bJ] at hc13'
   refine ad aa 1 rfl ?_
   refine ax ?_
   refine an ?_
   refine bf ?_
   refine an ?_
   refine an ?_
   refine bf ?_
   refine an ?_
   refine al aa [] 0 rfl rfl rfl rfl rfl rfl ?_ ?_
   ·(have h:=jF (s:=⟨cap,used,advs⟩) (show ¬(8 < (⟨cap,used,advs⟩:cv).used.length\/20 < (⟨cap,used,advs⟩:cv).aY.length) by simp only;omega) (show gh (⟨cap,used,advs⟩:cv).cap=true by simp only [gh,decide_eq_true_eq];omega) (Ed hx1 (by simp only [gj,decide_eq_false_iff_not];omega)));show aI _=aI _;rw [h]
   ·rfl
  have hc13':=hc13;try simp only [bl,bJ] at hc13'
  refine aP ?_
  obtain ⟨x2,hx2⟩:=cq (xs:=(iw used.length (advs.take q))) (i:=Int.toNat (x1.aL)) (by first|omega|(simp [df];omega))
  have hx2v:=ss hx2
  have hgb:=pz used.length (x1.aL) (advs.take q) hi0_1
  have hgl:(advs.take q).length<=q:=List.length_take_le _ _
  rw [Int.toNat_of_nonneg (by omega)] at hx2v
  refine bc [1,3,31,32,33,5] [2,1,0] mixed rfl rfl ?_
  refine aA (kn:=[]) aa 3 rfl trivial ?_
  refine aT (n':=3) [78,80] [1] rfl rfl (.inl ⟨(ah.plain rfl),aJ.cast (br (i:=Int.toNat (x1.aL)) rfl rfl rfl Try.underlying30 fX (by first|omega|(simp;omega)|(simp [df];omega)) (by first|omega|(simp;omega)|(simp [df];omega))) rfl⟩) rfl ?_
  refine aT (n':=3) [81] [1] rfl rfl (.inl ⟨(ah.plain rfl),aJ.cast (eB rfl rfl rfl Try.underlying3 rfl (bu hx2) rfl) rfl⟩) rfl ?_
  refine aA (kn:=[]) aa 2 rfl trivial ?_
  refine aT (n':=3) [82,84] [] rfl rfl (.inl ⟨(ah.plain rfl),aJ.cast (aK rfl rfl rfl (aH (by first|omega|(simp;omega)|(simp [df];omega)))) rfl⟩) rfl ?_
  refine aT (n':=3) [78,80] [1] rfl rfl (.inl ⟨(ah.plain rfl),aJ.cast (br (i:=Int.toNat (x1.aL)) rfl rfl rfl Try.underlying30 fX (by first|omega|(simp;omega)|(simp [df];omega)) (by first|omega|(simp;omega)|(simp [df];omega))) rfl⟩) rfl ?_
  refine bC [2,1,0] rfl rfl rfl rfl (by kernel_rfl) ?_
  refine fV [2,1,0] (dH (ds:=[(dI (x2+x1.sum))]) rfl rfl rfl rfl rfl fX rfl (Nat.le_of_ble_eq_true rfl) (bu hx2) rfl (eG (x':=x2+x1.sum) rfl)) rfl ?_
  refine bX ?_
  refine bn ?_
  refine then_ok ?_
  refine aw ?_
  refine ay (aK rfl rfl rfl (aH (by first|omega|(simp;omega)|(simp [df];omega)))) rfl ?_
  refine ab aa 1 rfl ?_
  refine ae ?_
  refine ⟨q+1,⟨by omega,wV hi0_1 hx1 (by simp only [gj,decide_eq_true_eq];omega)⟩,by first|omega|(simp;done)|(simp;omega),aD.bY id (by refine ⟨?_,?_,?_,?_,?_,trivial⟩<;>first|rfl|(simp only [bo];done)|(congr 3;omega)|(congr 4;omega)|(simp only [bp];rfl)) (by refine ⟨?_,?_,trivial⟩<;>first|rfl|(simp only [bo];done)|(congr 3;omega)|(congr 4;omega)|(simp only [bp];rfl)|((rw [il hx1,<-yr (i:=Int.toNat x1.aL) (v:=x2+x1.sum) (by omega) (by omega) (by rw [hx2v])];rfl))) rfl⟩
 have hc5':=of_decide_eq_false hc5
 refine cm ?_
 refine aQ ?_
 refine aQ ?_
 refine bO ?_
 refine then_ok ?_
 refine af ?_
 refine aE aa 2 rfl ?_
 refine ay (cY rfl rfl rfl rfl rfl Try.underlying30) rfl ?_
 refine ab aa 1 rfl ?_
 refine ae ?_
 refine aW ?_
 have hta:advs.take q=advs:=List.take_of_length_le (by omega)
 have hall:advs.all (gj used.length)=true:=by rw [<-hta];exact hi0_1
 rw [hta]
 refine cw (β:=Nat) (fun (p:Nat)=>⟨[(1,(aC (.p 0 0 0 0))),(3,(aC (.s 1 0 1 used.length))),(31,(aC (gI advs))),(32,(aI (↑advs.length:Int))),(33,(aI (↑q:Int))),(89,(aC (gn used))),(90,(aI (↑used.length:Int))),(91,(aI (↑p:Int)))],[(1,(dC (iw used.length advs))),(0,(.box 41 [(cI cap),(gn used),(gI advs)]))],2⟩) (fun (p:Nat)=>p<=used.length/\eL cap advs 0 used=eL cap advs p (used.drop p)) (fun (p:Nat)=>used.length - p) 0 ?_ ?_ ?_
 ·exact ⟨by omega,rfl⟩
 ·exact aD.bY id (by refine ⟨?_,?_,?_,?_,?_,?_,?_,?_,trivial⟩<;>first|rfl|(simp only [bo];done)|(congr 3;omega)|(congr 4;omega)|(simp only [bp];rfl)) (by refine ⟨?_,?_,trivial⟩<;>first|rfl|(simp only [bo];done)|(congr 3;omega)|(congr 4;omega)|(simp only [bp];rfl)) rfl
 rintro p ⟨hi1_0,hi1_1⟩
 refine ad aa 1 rfl ?_
 refine af ?_
 refine ag rfl (fun hc14=>?_) (fun hc14=>?_)
 ·
  have hc14':=of_decide_eq_true hc14
  refine aP ?_
  refine af ?_
  refine aW ?_
  refine aE aa 1 rfl ?_
  obtain ⟨x1,hx1⟩:=cq (xs:=used) (i:=p) (by first|omega|(simp [df];omega))
  refine ay (cS (i:=p) rfl rfl rfl Try.underlying30 fX (by first|omega|(simp;omega)|(simp [df];omega)) (bu hx1)) rfl ?_
  refine ab aa 3 rfl ?_
  refine ae ?_
  refine aE aa 3 rfl ?_
  refine ay (br (i:=p) rfl rfl rfl Try.underlying30 fX (by first|omega|(simp;omega)|(simp [df];omega)) (by first|omega|(simp;omega)|(simp [df];omega))) rfl ?_
  obtain ⟨x2,hx2⟩:=cq (xs:=(iw used.length advs)) (i:=p) (by first|omega|(simp [df];omega))
  have hx2v:=ss hx2
  refine ay (eB rfl rfl rfl Try.underlying3 rfl (bu hx2) rfl) rfl ?_
  refine ab aa 2 rfl ?_
  refine bw (t:=102) rfl (fun hb15=>?_) (fun hb15=>?_)
  ·
   have hb15':=of_decide_eq_true hb15
   refine ab aa 5 rfl ?_
   refine ae ?_
   refine ag rfl (fun _=>?_) (fun hno=>by cases hno)
   refine ad aa 1 rfl ?_
   refine ax ?_
   refine bf ?_
   refine an ?_
   refine an ?_
   refine bf ?_
   refine an ?_
   refine al aa [] 0 rfl rfl rfl rfl rfl rfl ?_ ?_
   ·(have h:=fZ (s:=⟨cap,used,advs⟩) (show ¬(8 < (⟨cap,used,advs⟩:cv).used.length\/20 < (⟨cap,used,advs⟩:cv).aY.length) by simp only;omega) (show gh (⟨cap,used,advs⟩:cv).cap=true by simp only [gh,decide_eq_true_eq];omega) hall);show aI _=aI _;rw [h];show aI _=aI (eL cap advs 0 used);rw [hi1_1,qj hx1,eL,if_neg (by omega)]
   ·rfl
  have hb15':=of_decide_eq_false hb15
  refine ab aa 5 rfl ?_
  refine ae ?_
  refine ag rfl (fun hc17=>?_) (fun hc17=>?_)
  ·
   have hc17':=of_decide_eq_true hc17
   refine ad aa 1 rfl ?_
   refine ax ?_
   refine bf ?_
   refine an ?_
   refine an ?_
   refine bf ?_
   refine an ?_
   refine al aa [] 0 rfl rfl rfl rfl rfl rfl ?_ ?_
   ·(have h:=fZ (s:=⟨cap,used,advs⟩) (show ¬(8 < (⟨cap,used,advs⟩:cv).used.length\/20 < (⟨cap,used,advs⟩:cv).aY.length) by simp only;omega) (show gh (⟨cap,used,advs⟩:cv).cap=true by simp only [gh,decide_eq_true_eq];omega) hall);show aI _=aI _;rw [h];show aI _=aI (eL cap advs 0 used);rw [hi1_1,qj hx1,eL,if_neg (by omega)]
   ·rfl
  have hc17':=of_decide_eq_false hc17
  refine cW ?_
  refine bn ?_
  refine then_ok ?_
  refine aw ?_
  refine ay (aK rfl rfl rfl (aH (by first|omega|(simp;omega)|(simp [df];omega)))) rfl ?_
  refine ab aa 1 rfl ?_
  refine ae ?_
  refine ⟨p+1,⟨by omega,by rw [hi1_1,qj hx1,eL,if_pos (by omega),Int.natCast_add];rfl⟩,by first|omega|(simp;done)|(simp;omega),aD.bY id (by refine ⟨?_,?_,?_,?_,?_,?_,?_,?_,trivial⟩<;>first|rfl|(simp only [bo];done)|(congr 3;omega)|(congr 4;omega)|(simp only [bp];rfl)) (by refine ⟨?_,?_,trivial⟩<;>first|rfl|(simp only [bo];done)|(congr 3;omega)|(congr 4;omega)|(simp only [bp];rfl)) rfl⟩
 have hc14':=of_decide_eq_false hc14
 refine cm ?_
 refine aQ ?_
 refine aQ ?_
 refine bO ?_
 refine then_ok ?_
 refine ad aa 1 rfl ?_
 refine ax ?_
 refine al aa [] 0 rfl rfl rfl rfl rfl rfl ?_ ?_
 ·(have h:=fZ (s:=⟨cap,used,advs⟩) (show ¬(8 < (⟨cap,used,advs⟩:cv).used.length\/20 < (⟨cap,used,advs⟩:cv).aY.length) by simp only;omega) (show gh (⟨cap,used,advs⟩:cv).cap=true by simp only [gh,decide_eq_true_eq];omega) hall);show aI _=aI _;rw [h];show aI _=aI (eL cap advs 0 used);rw [hi1_1,List.drop_of_length_le (by omega)];rfl
 ·rfl


theorem iB (s:cv) (e:Int) (hr:bT s=e):Fn Try.prog 30 [(.g [cI s.cap,cR 1 (s.used.map rI),cR 4 (s.aY.map hP)])] (.v (.c (cI e))) []:=hr▸tG s.cap s.used s.aY
end Go.Proofs.Ytegepioggeggaaa.Dev
