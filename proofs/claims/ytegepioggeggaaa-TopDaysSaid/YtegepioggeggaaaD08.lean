/- A part of the proof: Del1, Pace3, Pace5, Card1, Card2, Card3, Del2, Post1, Post2, Post3. No condition. -/
import Derived.Test.YtegepioggeggaaaD07
set_option linter.unusedVariables false
set_option linter.unusedSimpArgs false
set_option maxHeartbeats 1000000
set_option maxRecDepth 100000
namespace Go.Proofs.Ytegepioggeggaaa.Dev
open Go.RowKit

theorem yp (l:List db) (fn:FuncId) (bj:List (List D)) (pr:db->Bool) (hp:∀ x:db,Fn Try.prog fn ([.g [cI x.time,cI x.sum]]++bj.map fun r=>GV.c (.q r 0)) (aB (pr x)) []) (hen:bl Try.prog fn) (r:Int) (hr:im pr l=r):Fn Try.prog 123 [(.c (fI l)),(.c (.d (.f fn bj)))] (.v (.c (cI r))) []:=by
 refine Fn.mk' 19 [(0,(aC (fI l))),(1,(aC (.d (.f fn bj))))] Try.func123 rfl rfl rfl rfl ?_
 intro W0 T0
 refine dr 0 rfl (fun hlen0=>?_)
 refine ae aa 1 rfl ?_
 refine ag ?_
 refine aH aa 1 rfl ?_
 refine aA (cM rfl rfl rfl rfl rfl Try.underlying59) rfl ?_
 refine ad aa 1 rfl ?_
 refine af ?_
 refine aX ?_
 refine cw (β:=Nat) (fun (q:Nat)=>⟨[(0,(aC (fI l))),(1,(aC (.d (.f fn bj)))),(7,(aI (↑l.length:Int))),(8,(aI (↑q:Int)))],[],0⟩) (fun (q:Nat)=>q<=l.length/\(l.take q).all (fun y=>!pr y)=true) (fun (q:Nat)=>l.length - q) 0 ?_ ?_ ?_
 ·exact ⟨by omega,by simp⟩
 ·exact aF.bW id (by refine ⟨?_,?_,?_,?_,trivial⟩<;>first|rfl|(simp only [bm];done)|(congr 3;omega)|(congr 4;omega)|(simp only [bn];rfl)) (trivial) rfl
 rintro q ⟨hi0_0,hi0_1⟩
 refine ae aa 1 rfl ?_
 refine ag ?_
 refine ah rfl (fun hc1=>?_) (fun hc1=>?_)
 ·
  have hc1':=of_decide_eq_true hc1
  refine aQ ?_
  refine ag ?_
  refine aX ?_
  refine ae aa 2 rfl ?_
  refine aH aa 3 rfl ?_
  obtain ⟨x1,hx1⟩:=ck (xs:=l) (i:=q) (by first|omega|(simp;done)|(simp;omega))
  refine aA (cH (i:=q) rfl rfl rfl Try.underlying59 iZ (by first|omega|(simp;done)|(simp;omega)) (bw hx1)) rfl ?_
  refine ad aa 1 rfl ?_
  refine aA (gW 0 (hp x1) hen rfl rfl rfl ⟨⟨_,rfl,.g ⟨.d _,.d _,trivial⟩⟩,trivial⟩ trivial trivial rfl rfl rfl rfl) rfl ?_
  refine af ?_
  refine ah rfl (fun hc2=>?_) (fun hc2=>?_)
  ·
   have hc2':=hc2;try simp only [bu,bU] at hc2'
   refine ae aa 2 rfl ?_
   refine az ?_
   refine bp ?_
   refine aq ?_
   refine aq ?_
   refine bp ?_
   refine aq ?_
   have hX:im pr l=(↑q:Int):=by
     exact uW hi0_1 hx1 hc2
   rw [hX] at hr;clear hX
   subst hr
   refine an aa [] 0 rfl rfl rfl rfl rfl rfl ?_ ?_
   all_goals first|rfl|(simp [ay];done)|(simp [ay];omega)
  have hc2':=hc2;try simp only [bu,bU] at hc2'
  refine cZ ?_
  refine bh ?_
  refine then_ok ?_
  refine au ?_
  refine aA (aL rfl rfl rfl (aJ (by first|omega|(simp;done)|(simp;omega)))) rfl ?_
  refine ad aa 1 rfl ?_
  refine af ?_
  refine ⟨q+1,⟨by omega,xH hi0_1 hx1 hc2⟩,by first|omega|(simp;done)|(simp;omega),aF.bW id (by refine ⟨?_,?_,?_,?_,trivial⟩<;>first|rfl|(simp only [bm];done)|(congr 3;omega)|(congr 4;omega)|(simp only [bn];rfl)) (trivial) rfl⟩
 have hc1':=of_decide_eq_false hc1
 refine cj ?_
 refine aP ?_
 refine aP ?_
 refine bK ?_
 refine then_ok ?_
 refine ae aa 1 rfl ?_
 refine az ?_
 have hX:im pr l=(-1):=by
   exact wQ (by rw [<-List.take_of_length_le (l:=l) (i:=q) (by omega)];exact hi0_1)
 rw [hX] at hr;clear hX
 subst hr
 refine an aa [] 0 rfl rfl rfl rfl rfl rfl ?_ ?_
 all_goals first|rfl|(simp [ay];done)|(simp [ay];omega)
theorem xz (l:List db) (fn:FuncId) (bj:List (List D)) (pr:db->Bool) (hp:∀ x:db,Fn Try.prog fn ([.g [cI x.time,cI x.sum]]++bj.map fun r=>GV.c (.q r 0)) (aB (pr x)) []) (hen:bl Try.prog fn) (r:List db) (hr:dC pr l=r):cJ Try.prog 117 [(.c (.s 0 0 2 l.length)),(.c (.d (.f fn bj)))] [(0,(pX l))] [] (.v (.c (.s 0 0 2 r.length))) [(0,(pX r))]:=by
 refine cJ.mk 42 [(0,(aC (.s 0 0 2 l.length))),(1,(aC (.d (.f fn bj))))] 1 Try.func117 rfl rfl rfl rfl rfl rfl rfl rfl rfl ?_
 intro W0 F0 T0 pg
 refine gn 0 rfl (fun hlen0=>?_)
 have hic:=uX pr l
 have hib:im pr l<=l.length/\-1<=im pr l:=by rcases hic with ⟨h,_⟩|⟨i,h,h1,_⟩<;>omega
 refine ae aa 1 rfl ?_
 refine aH aa 2 rfl ?_
 obtain ⟨r0,hr0⟩:∃ (r0:Int),im pr l=r0:=⟨_,rfl⟩
 refine aN 1 [0] (ff 1 [0] (yp l fn bj pr hp hen r0 hr0) HM rfl rfl ⟨⟨_,rfl,.c (.s rfl (by decide) (by first|omega|(simp;done)|(simp;omega)))⟩,⟨_,rfl,.c (.d _)⟩,trivial⟩ rfl trivial rfl rfl rfl rfl) rfl ?_
 refine ad aa 1 rfl ?_
 refine af ?_
 refine ag ?_
 refine ae aa 2 rfl ?_
 refine ah rfl (fun hc1=>?_) (fun hc1=>?_)
 ·
  have hc1':=of_decide_eq_true hc1
  refine ae aa 2 rfl ?_
  refine az ?_
  refine aq ?_
  have hX:dC pr l=l:=by
    rcases hic with ⟨_,h⟩|⟨i0,h,_⟩
    ·exact h
    ·exfalso;omega
  rw [hX] at hr;clear hX
  subst hr
  refine an aa [0] 1 rfl rfl rfl rfl rfl rfl ?_ ?_
  all_goals first|rfl|(simp [ay];done)|(simp [ay];omega)
 have hc1':=of_decide_eq_false hc1
 refine aQ ?_
 refine ag ?_
 refine aH aa 1 rfl ?_
 refine aA (aL rfl rfl rfl (aJ (by first|omega|(simp;done)|(simp;omega)))) rfl ?_
 refine ad aa 1 rfl ?_
 refine af ?_
 refine aX ?_
 obtain ⟨i0,hi0,hil,x0,hx0,hp0,hk0⟩:∃ i:Nat,im pr l=i/\i < l.length/\∃ x,l[i]?=some x/\pr x=true/\dC pr (l.take i)=l.take i:=by
     rcases hic with ⟨h,_⟩|h
     ·exfalso;omega
     ·exact h
 obtain rfl:r0=(i0:Int):=by omega
 refine cw (β:=Nat×Nat×List db) (fun (p:Nat×Nat×List db)=>match p with|(j,i,c)=>⟨[(0,(aC (.s 0 0 2 l.length))),(1,(aC (.d (.f fn bj)))),(4,(aC cN)),(5,(aI (↑i:Int))),(6,(aI (↑j:Int)))],[(0,(pX c))],1⟩) (fun (p:Nat×Nat×List db)=>match p with|(j,i,c)=>lP pr l c i j) (fun (p:Nat×Nat×List db)=>match p with|(j,i,c)=>l.length - j) (i0+1,i0,l) ?_ ?_ ?_
 ·exact lP.start hx0 hp0 hk0
 ·exact aF.bW id (by refine ⟨?_,?_,?_,?_,?_,trivial⟩<;>first|rfl|(simp only [bm];done)|(congr 3;omega)|(congr 4;omega)|(simp only [bn];rfl)) (⟨by first|rfl|(simp only [bm];done)|(congr 3;omega)|(congr 4;omega)|(simp only [bn];rfl),trivial⟩) rfl
 rintro ⟨j,i,c⟩ hd
 have hdl:=hd.len;have hdi:=hd.ij;have hdj:=hd.jl
 refine ag ?_
 refine aH aa 2 rfl ?_
 refine aA (dz rfl rfl rfl rfl rfl Try.underlying59) rfl ?_
 refine ad aa 1 rfl ?_
 refine af ?_
 refine ah rfl (fun hc2=>?_) (fun hc2=>?_)
 ·
  have hc2':=of_decide_eq_true hc2
  refine aQ ?_
  refine ag ?_
  refine aX ?_
  refine aH aa 2 rfl ?_
  refine aA (bA (i:=j) rfl rfl rfl Try.underlying59 iZ (by first|omega|(simp;done)|(simp;omega)) (by first|omega|(simp;done)|(simp;omega))) rfl ?_
  obtain ⟨x1,hx1⟩:=ck (xs:=c) (i:=j) (by first|omega|(simp;done)|(simp;omega))
  refine aA (dm rfl rfl rfl Try.underlying125 rfl iZ (bw hx1) rfl) rfl ?_
  refine ad aa 2 rfl ?_
  refine af ?_
  refine aH aa 2 rfl ?_
  refine aA (gW 2 (hp x1) hen rfl rfl rfl ⟨⟨_,rfl,.g ⟨.d _,.d _,trivial⟩⟩,trivial⟩ trivial trivial rfl rfl rfl rfl) rfl ?_
  refine ad aa 1 rfl ?_
  refine af ?_
  refine ah rfl (fun hc3=>?_) (fun hc3=>?_)
  ·
   have hc3':=hc3;try simp only [bu,bU] at hc3'
   refine aH aa 3 rfl ?_
   refine aA (bA (i:=i) rfl rfl rfl Try.underlying59 iZ (by first|omega|(simp;done)|(simp;omega)) (by first|omega|(simp;done)|(simp;omega))) rfl ?_
   obtain ⟨x2,hx2⟩:=ck (xs:=c) (i:=i) (by first|omega|(simp;done)|(simp;omega))
   refine gI [1,0] (dU (ds:=[(dI x1.time),(dI x1.sum)]) rfl rfl rfl rfl rfl iZ rfl (Nat.le_of_ble_eq_true rfl) (bw hx2) rfl (eZ (x':=x1) rfl)) rfl ?_
   refine af ?_
   refine au ?_
   refine ad aa 1 rfl ?_
   refine aA (aL rfl rfl rfl (aJ (by first|omega|(simp;done)|(simp;omega)))) rfl ?_
   refine ad aa 1 rfl ?_
   refine bY ?_
   refine bh ?_
   refine then_ok ?_
   refine au ?_
   refine ad aa 1 rfl ?_
   refine aA (aL rfl rfl rfl (aJ (by first|omega|(simp;done)|(simp;omega)))) rfl ?_
   refine ad aa 1 rfl ?_
   refine af ?_
   refine ⟨(j+1,(i)+1,(c).set i x1),hd.cK hx1 (by simpa using hc3),by first|omega|(simp;done)|(simp;omega),aF.bW id (by refine ⟨?_,?_,?_,?_,?_,trivial⟩<;>first|rfl|(simp only [bm];done)|(congr 3;omega)|(congr 4;omega)|(simp only [bn];rfl)) (⟨by first|rfl|(simp only [bm];done)|(congr 3;omega)|(congr 4;omega)|(simp only [bn];rfl),trivial⟩) rfl⟩
  have hc3':=hc3;try simp only [bu,bU] at hc3'
  refine cZ ?_
  refine bh ?_
  refine then_ok ?_
  refine au ?_
  refine ad aa 1 rfl ?_
  refine aA (aL rfl rfl rfl (aJ (by first|omega|(simp;done)|(simp;omega)))) rfl ?_
  refine ad aa 1 rfl ?_
  refine af ?_
  refine ⟨(j+1,i,c),hd.skip hx1 (by simpa using hc3),by first|omega|(simp;done)|(simp;omega),aF.bW id (by refine ⟨?_,?_,?_,?_,?_,trivial⟩<;>first|rfl|(simp only [bm];done)|(congr 3;omega)|(congr 4;omega)|(simp only [bn];rfl)) (⟨by first|rfl|(simp only [bm];done)|(congr 3;omega)|(congr 4;omega)|(simp only [bn];rfl),trivial⟩) rfl⟩
 have hc2':=of_decide_eq_false hc2
 refine cj ?_
 refine aP ?_
 refine aP ?_
 refine bK ?_
 refine then_ok ?_
 refine aH aa 2 rfl ?_
 refine aA (ot (l:=i) (h:=l.length) rfl Try.underlying59 iZ rfl (.inr ⟨_,rfl,rfl⟩) (.inl ⟨rfl,rfl⟩) (by first|omega|(simp;done)|(simp;omega)) (by first|omega|(simp;done)|(simp;omega)) (by first|omega|(simp;done)|(simp;omega)) rfl) rfl ?_
 refine gI [0] (tT (rows':=(c.take i).map iB) oZ Ht rfl rfl rfl rfl rfl rfl rfl rfl rfl (by simp [List.map_take])) rfl ?_
 refine af ?_
 refine aH aa 2 rfl ?_
 refine aA (ot (l:=0) (h:=i) rfl Try.underlying59 iZ rfl (.inl ⟨rfl,rfl⟩) (.inr ⟨_,rfl,rfl⟩) (by first|omega|(simp;done)|(simp;omega)) (by first|omega|(simp;done)|(simp;omega)) (by first|omega|(simp;done)|(simp;omega)) rfl) rfl ?_
 refine ad aa 1 rfl ?_
 refine af ?_
 refine az ?_
 have hX:dC pr l=(c.take i):=by
   have hdone:=hd.done (by omega)
   rw [<-hdone]
 rw [hX] at hr;clear hX
 subst hr
 refine an aa [0] 1 rfl rfl rfl rfl rfl rfl ?_ ?_
 all_goals first|rfl|(simp [ay];done)|(simp [ay];omega)

theorem lI (p:dw) (e:Int) (hr:fA p=e):Fn Try.prog 44 [(.g [cI p.cU,cI p.count,cI p.sum])] (.v (.c (cI e))) []:=hr▸xo p.cU p.count p.sum
theorem pQ (l:List db) (f:dc) (hr:fx l=f):Fn Try.prog 45 [.c (cR 2 (l.map iB))] (.v (.g [cI f.err,cI f.at_])) []:=hr▸yg l

theorem Cg (x:db) (t:Int) (p:dw) (hb:-9223372036854775808<=t - p.cU/\t - p.cU<=9223372036854775807):Fn Try.prog 118 [(.g [(cI x.time),(cI x.sum)]),(.c (.q ([dI t]) 0)),(.c (.q ([dI p.cU,dI p.count,dI p.sum]) 0))] (aB (cC p t x)) []:=by
 refine Fn.mk' 12 [(0,(aG [(cI x.time),(cI x.sum)])),(1,(aC (.q ([dI t]) 0))),(2,(aC (.q ([dI p.cU,dI p.count,dI p.sum]) 0)))] Try.func118 rfl rfl rfl rfl ?_
 intro W0 T0
 refine ae aa 2 rfl ?_
 refine aH aa 5 rfl ?_
 refine aA (aL rfl rfl rfl (aJ (by first|omega|(simp;done)|(simp;omega)))) rfl ?_
 refine ad aa 2 rfl ?_
 refine af ?_
 refine az ?_
 refine an aa [] 0 rfl rfl rfl rfl rfl rfl ?_ ?_
 all_goals first|rfl|(simp [ay];done)|(simp [ay];omega)
theorem oO (p:dw) (l:List db) (t:Int) (hb:-9223372036854775808<=t - p.cU/\t - p.cU<=9223372036854775807) (hl:l.length * 16<=140737488355328) (r:List db) (hr:dM p l t=r):Fn Try.prog 112 [(.g [(cI p.cU),(cI p.count),(cI p.sum)]),(.c (fI l)),(.c (cI t))] (.v (.c (.s 0 0 2 r.length))) [(0,(pX r))]:=by
 refine Fn.mk' 11 [(0,(aG [(cI p.cU),(cI p.count),(cI p.sum)])),(1,(aC (fI l))),(2,(aI t))] Try.func112 rfl rfl rfl rfl ?_
 intro W0 T0
 refine dr 1 rfl (fun hlen1=>?_)
 refine ae aa 3 rfl ?_
 refine aH aa 1 rfl ?_
 refine aN 3 [2,1,0] (bQ 2 (qX l (by first|omega|(simp;done)|(simp;omega))) Ey rfl rfl ⟨⟨_,rfl,.c (.d _)⟩,trivial⟩ trivial ⟨(fun _ _ _ _=>trivial),trivial⟩ rfl rfl rfl rfl) rfl ?_
 refine aA (wX (ks:=[1,0]) rfl ⟨rfl,rfl,trivial⟩) rfl ?_
 obtain ⟨r0,hr0⟩:∃ (r0:List db),dC (cC p t) l=r0:=⟨_,rfl⟩
 refine aN 4 [3,1,0] (wY (bd [2]) (bd [3]) [0,1] (xz l 118 ([[(dI t)],[(dI p.cU),(dI p.count),(dI p.sum)]]) (cC p t) (fun x=>Cg x t p hb) HQ r0 hr0) HR rfl rfl ⟨⟨_,rfl,.inl ⟨rfl,rfl⟩⟩,⟨_,rfl,.inr (.c (.fn ⟨⟨by decide,_,rfl⟩,⟨by decide,_,rfl⟩,trivial⟩))⟩,trivial⟩ ⟨rfl,trivial⟩ rfl rfl rfl rfl rfl rfl rfl rfl trivial ⟨(De _),trivial⟩ rfl rfl rfl rfl) rfl ?_
 refine ad aa 1 rfl ?_
 refine af ?_
 refine az ?_
 have hX:dM p l t=r0:=by
   assumption
 rw [hX] at hr;clear hX
 subst hr
 refine an aa [3] 1 rfl rfl rfl rfl rfl rfl ?_ ?_
 all_goals first|rfl|(simp [ay];done)|(simp [ay];omega)

theorem Ai (p:dw) (l:List db) (x:db) (r:List db) (e:Int) (hr:ez p l x=(r,e)):Fn Try.prog 100 [(.g [(cI p.cU),(cI p.count),(cI p.sum)]),(.c (fI l)),(.g [(cI x.time),(cI x.sum)])] (.t [(.c (.s 0 0 2 r.length)),(.c (cI e))]) [(0,(pX r))]:=by
 refine Fn.mk' 87 [(0,(aG [(cI p.cU),(cI p.count),(cI p.sum)])),(1,(aC (fI l))),(2,(aG [(cI x.time),(cI x.sum)]))] Try.func100 rfl rfl rfl rfl ?_
 intro W0 T0
 refine dr 1 rfl (fun hlen1=>?_)
 have hrp:=@ph p
 have hru:(fx l).err=0->l.length<=30:=fun h=>(ko h).1
 have hrx:(fx [x]).err=0->0<=x.time/\x.time<=1000000/\0<=x.sum/\x.sum<=1000000:=fun h=>(@ko [x] h).2 x (by simp)
 refine ae aa 4 rfl ?_
 refine ag ?_
 refine aH aa 1 rfl ?_
 obtain ⟨e0,hr0⟩:∃ (e0:Int),fA p=e0:=⟨_,rfl⟩
 refine aN 2 [1,0] (bQ 2 (lI p e0 hr0) DC rfl rfl ⟨⟨_,rfl,.g ⟨.d _,.d _,.d _,trivial⟩⟩,trivial⟩ trivial trivial rfl rfl rfl rfl) rfl ?_
 refine ad aa 1 rfl ?_
 refine af ?_
 refine ae aa 2 rfl ?_
 refine ah rfl (fun hc1=>?_) (fun hc1=>?_)
 ·
  have hc1':=of_decide_eq_true hc1
  refine ae aa 3 rfl ?_
  refine az ?_
  refine aq ?_
  refine cT (aF.nil 6 125 2 (by decide) rfl) ?_
  have hX:ez p l x=(([]:List db),e0):=by
    unfold ez;rw [if_pos (by omega),hr0]
  rw [hX] at hr;clear hX
  simp only [Prod.mk.injEq] at hr;obtain ⟨rfl,rfl⟩:=hr
  refine an aa [2] 1 rfl rfl rfl rfl rfl rfl ?_ ?_
  all_goals first|rfl|(simp [ay];done)|(simp [ay];omega)
 have hc1':=of_decide_eq_false hc1
 refine aQ ?_
 refine ag ?_
 refine aH aa 2 rfl ?_
 refine aN 3 [2,1,0] (dy (ys:=[(0,(.g [(cI x.time),(cI x.sum)]))]) (rows:=([x]).map iB) 2 oZ rfl (by decide) ⟨⟨rfl,rfl⟩,trivial⟩ rfl rfl rfl rfl) rfl ?_
 refine mX (s':=[(0,(aG [(cI p.cU),(cI p.count),(cI p.sum)])),(1,(aC (fI l))),(2,(aG [(cI x.time),(cI x.sum)])),(3,(aC (.p 0 0 0 0))),(5,(aC (.p 1 0 0 0))),(6,(aC cN)),(7,(aI 0)),(17,(aG [(cI p.cU),(cI p.count),(cI p.sum)])),(18,(aI e0)),(8,(aI e0)),(19,(aI e0)),(20,(aB (decide (¬e0=0)))),(22,(aC (fI l))),(23,(aG [(cI x.time),(cI x.sum)])),(24,(aC (fI ([x]))))]) (h':=[(1,(.box 125 [(cI x.time),(cI x.sum)])),(0,(.box 58 [(cI p.cU),(cI p.count),(cI p.sum)]))]) 2 rfl ⟨⟨_,rfl,.inl ⟨rfl,rfl⟩⟩,⟨_,rfl,.inl ⟨rfl,rfl⟩⟩,⟨_,rfl,.inl ⟨rfl,rfl⟩⟩,⟨_,rfl,.inl ⟨rfl,rfl⟩⟩,⟨_,rfl,.inl ⟨rfl,rfl⟩⟩,⟨_,rfl,.inl ⟨rfl,rfl⟩⟩,⟨_,rfl,.inl ⟨rfl,rfl⟩⟩,⟨_,rfl,.inl ⟨rfl,rfl⟩⟩,⟨_,rfl,.inl ⟨rfl,rfl⟩⟩,⟨_,rfl,.inl ⟨rfl,rfl⟩⟩,⟨_,rfl,.inl ⟨rfl,rfl⟩⟩,⟨_,rfl,.inl ⟨rfl,rfl⟩⟩,⟨_,rfl,.inl ⟨rfl,rfl⟩⟩,⟨_,rfl,.inl ⟨rfl,rfl⟩⟩,⟨_,rfl,.inr ⟨_,_,rfl,rfl,.s rfl (by decide) (by first|omega|(simp;done)|(simp;omega))⟩⟩,trivial⟩ ⟨rfl,rfl,trivial⟩ rfl ?_
 refine aN 4 [3,1,0] (dy (ys:=[(0,(.c (fI l))),(1,(.c (fI ([x]))))]) (rows:=([l,[x]]).map vF) 3 Hw rfl (by decide) ⟨⟨rfl,rfl⟩,⟨rfl,rfl⟩,trivial⟩ rfl rfl rfl rfl) rfl ?_
 refine aA (dz rfl rfl rfl rfl rfl Try.underlying181) rfl ?_
 refine ad aa 1 rfl ?_
 refine af ?_
 refine aX ?_
 refine cw (β:=Nat) (fun (q:Nat)=>⟨[(1,(aC (fI l))),(3,(aC (.p 0 0 0 0))),(5,(aC (.p 1 0 0 0))),(25,(aC (.s 3 0 1 2))),(26,(aI 2)),(27,(aI (↑q:Int)))],[(3,(.arr 59 1 (([l,[x]]).map vF))),(1,(.box 125 [(cI x.time),(cI x.sum)])),(0,(.box 58 [(cI p.cU),(cI p.count),(cI p.sum)]))],4⟩) (fun (q:Nat)=>q<=2/\(0 < q->(fx l).err=0)/\(1 < q->(fx [x]).err=0)) (fun (q:Nat)=>2 - q) 0 ?_ ?_ ?_
 ·exact ⟨by omega,by omega,by omega⟩
 ·exact aF.bW id (by refine ⟨?_,?_,?_,?_,?_,?_,trivial⟩<;>first|rfl|(simp only [bm];done)|(congr 3;omega)|(congr 4;omega)|(simp only [bn];rfl)) (by refine ⟨?_,?_,?_,trivial⟩<;>first|rfl|(simp only [bm];done)|(congr 3;omega)|(congr 4;omega)|(simp only [bn];rfl)) rfl
 rintro q ⟨hi0_0,hi0_1,hi0_2⟩
 refine ae aa 1 rfl ?_
 refine ag ?_
 refine ah rfl (fun hc2=>?_) (fun hc2=>?_)
 ·
  have hc2':=of_decide_eq_true hc2
  refine aQ ?_
  refine ag ?_
  refine aX ?_
  refine eB ?_
  refine aA (bA (i:=q) rfl rfl rfl Try.underlying181 Iw (by first|omega|(simp;done)|(simp;omega)) (by first|omega|(simp;done)|(simp;omega))) rfl ?_
  obtain ⟨x1,hx1⟩:=ck (xs:=([l,[x]]:List (List db))) (i:=q) (by first|omega|(simp;done)|(simp;omega))
  have hx1v:=Gk hx1
  refine aA (eU rfl rfl rfl Try.underlying59 rfl (bw hx1) rfl) rfl ?_
  refine ad aa 1 rfl ?_
  refine af ?_
  refine aH aa 1 rfl ?_
  obtain ⟨f1,hr1⟩:∃ (f1:dc),fx x1=f1:=⟨_,rfl⟩
  refine aN 4 [3,1,0] (bQ 4 (pQ x1 f1 hr1) GR rfl rfl ⟨⟨_,rfl,.c (.d _)⟩,trivial⟩ ⟨trivial,trivial,trivial⟩ trivial rfl rfl rfl rfl) rfl ?_
  refine ad aa 2 rfl ?_
  refine af ?_
  refine ae aa 3 rfl ?_
  refine ah rfl (fun hc3=>?_) (fun hc3=>?_)
  ·
   have hc3':=of_decide_eq_true hc3
   refine ag ?_
   refine ba [1,3,5,25,26,27,11] [4,3,1,0] mixed rfl rfl ?_
   refine aE (kn:=[]) aa 4 rfl trivial ?_
   refine bC [4,3,1,0] rfl rfl rfl rfl (by kernel_rfl) ?_
   refine af ?_
   refine az ?_
   refine bp ?_
   refine aq ?_
   refine aq ?_
   refine bp ?_
   refine aq ?_
   refine cT (aF.nil 6 125 2 (by decide) rfl) ?_
   have hX:ez p l x=(([]:List db),f1.err):=by
     unfold ez;rcases hx1v with ⟨hq,hx⟩|⟨hq,hx⟩<;>subst hx
     ·rw [if_neg (by omega),if_pos (by rw [hr1];omega),hr1]
     ·rw [if_neg (by omega),if_neg (by have:=hi0_1 (by omega);omega),if_pos (by rw [hr1];omega),hr1]
   rw [hX] at hr;clear hX
   simp only [Prod.mk.injEq] at hr;obtain ⟨rfl,rfl⟩:=hr
   refine an aa [5] 1 rfl rfl rfl rfl rfl rfl ?_ ?_
   all_goals first|rfl|(simp [ay];done)|(simp [ay];omega)
  have hc3':=of_decide_eq_false hc3
  refine cZ ?_
  refine bh ?_
  refine then_ok ?_
  refine au ?_
  refine aA (aL rfl rfl rfl (aJ (by first|omega|(simp;done)|(simp;omega)))) rfl ?_
  refine ad aa 1 rfl ?_
  refine af ?_
  refine ⟨q+1,⟨by omega,(fun h=>by rcases hx1v with ⟨hq,hx⟩|⟨hq,hx⟩<;>first|(exact hi0_1 (by omega))|(subst hx;rw [hr1];omega)),(fun h=>by rcases hx1v with ⟨hq,hx⟩|⟨hq,hx⟩<;>first|(exfalso;omega)|(subst hx;rw [hr1];omega))⟩,by first|omega|(simp;done)|(simp;omega),aF.bW id (by refine ⟨?_,?_,?_,?_,?_,?_,trivial⟩<;>first|rfl|(simp only [bm];done)|(congr 3;omega)|(congr 4;omega)|(simp only [bn];rfl)) (by refine ⟨?_,?_,?_,trivial⟩<;>first|rfl|(simp only [bm];done)|(congr 3;omega)|(congr 4;omega)|(simp only [bn];rfl)) rfl⟩
 have hc2':=of_decide_eq_false hc2
 refine cj ?_
 refine aP ?_
 refine aP ?_
 refine bK ?_
 refine then_ok ?_
 refine ag ?_
 refine aH aa 1 rfl ?_
 refine aA (cM rfl rfl rfl rfl rfl Try.underlying59) rfl ?_
 refine aA (aL rfl rfl rfl (aJ (by first|omega|(simp;done)|(simp;omega)))) rfl ?_
 refine ad aa 1 rfl ?_
 refine af ?_
 refine ag ?_
 rcases Bool.eq_false_or_eq_true (decide (((↑l.length:Int) - 1)>=0)) with hb4|hb4
 ·
  have hb4':=of_decide_eq_true hb4
  obtain ⟨x1,hx1⟩:=ck (xs:=l) (i:=(l.length) - 1) (by first|omega|(simp;done)|(simp;omega))
  refine ba [1,3,5,25,26,27,12] [3,1,0] mixed rfl rfl ?_
  refine aE (kn:=[(43,true)]) aa 5 rfl ⟨hb4,trivial⟩ ?_
  refine aU (n':=4) [45,46,44] [] rfl rfl (.inl ⟨(ak.yes rfl rfl rfl),aM.cast (cH (i:=(l.length) - 1) rfl rfl rfl Try.underlying59 iZ (by first|omega|(simp;done)|(simp;omega)) (bw hx1)) rfl⟩) rfl ?_
  refine aE (kn:=[]) aa 6 rfl trivial ?_
  refine bC [3,1,0] rfl rfl rfl rfl (by kernel_rfl) ?_
  refine af ?_
  refine ah rfl (fun hc5=>?_) (fun hc5=>?_)
  ·
   have hc5':=of_decide_eq_true hc5
   refine ae aa 2 rfl ?_
   refine az ?_
   refine aq ?_
   refine cT (aF.nil 6 125 2 (by decide) rfl) ?_
   have hX:ez p l x=(([]:List db),2):=by
     unfold ez;rw [if_neg (by omega),if_neg (by have:=hi0_1 (by omega);omega),if_neg (by have:=hi0_2 (by omega);omega),if_pos (by rw [nC hx1,decide_eq_true_eq];omega)]
   rw [hX] at hr;clear hX
   simp only [Prod.mk.injEq] at hr;obtain ⟨rfl,rfl⟩:=hr
   refine an aa [4] 1 rfl rfl rfl rfl rfl rfl ?_ ?_
   all_goals first|rfl|(simp [ay];done)|(simp [ay];omega)
  have hc5':=of_decide_eq_false hc5
  refine aQ ?_
  refine aH aa 4 rfl ?_
  obtain ⟨r2,hr2⟩:∃ (r2:List db),dM p l x.time=r2:=⟨_,rfl⟩
  refine aN 5 [4,3,1,0] (bQ 4 (oO p l x.time (by first|assumption|omega|(have q1:=ph (hr2.trans (by omega));have q2:=uses1 (x:=x) (by simp_all);omega)) (by first|assumption|omega) r2 hr2) Ez rfl rfl ⟨⟨_,rfl,.g ⟨.d _,.d _,.d _,trivial⟩⟩,⟨_,rfl,.c (.d _)⟩,⟨_,rfl,.c (.d _)⟩,trivial⟩ trivial ⟨(fun _ _ _ _=>trivial),trivial⟩ rfl rfl rfl rfl) rfl ?_
  refine ad aa 1 rfl ?_
  refine af ?_
  refine ae aa 3 rfl ?_
  refine ag ?_
  refine aH aa 1 rfl ?_
  refine aA (dz rfl rfl rfl rfl rfl Try.underlying59) rfl ?_
  refine ad aa 1 rfl ?_
  refine af ?_
  refine aX ?_
  refine cw (β:=Nat) (fun (k:Nat)=>⟨[(1,(aC (fI l))),(3,(aC (.p 0 0 0 0))),(5,(aC (.p 1 0 0 0))),(25,(aC (.s 3 0 1 2))),(26,(aI 2)),(27,(aI (↑q:Int))),(13,(aC (.s 4 0 2 r2.length))),(14,(aI (x.sum+ib ((r2).take k)))),(61,(aC (.s 4 0 2 r2.length))),(62,(aI (↑r2.length:Int))),(63,(aI (↑k:Int)))],[(4,(pX r2)),(3,(.arr 59 1 (([l,[x]]).map vF))),(1,(.box 125 [(cI x.time),(cI x.sum)])),(0,(.box 58 [(cI p.cU),(cI p.count),(cI p.sum)]))],5⟩) (fun (k:Nat)=>k<=(r2).length) (fun (k:Nat)=>(r2).length - k) 0 ?_ ?_ ?_
  ·exact (by omega)
  ·exact aF.bW id (by refine ⟨?_,?_,?_,?_,?_,?_,?_,?_,?_,?_,?_,trivial⟩<;>first|rfl|(simp only [bm];done)|(congr 3;omega)|(congr 4;omega)|(simp only [bn];rfl)|((rw [List.take_zero,ib,Int.add_zero];rfl))) (by refine ⟨?_,?_,?_,?_,trivial⟩<;>first|rfl|(simp only [bm];done)|(congr 3;omega)|(congr 4;omega)|(simp only [bn];rfl)) rfl
  rintro k hi1_0
  have hsb:=qC (p:=p) (l:=l) (t:=x.time) (k:=k) (hi0_1 (by omega))
  rw [hr2] at hsb
  have hrl:(r2).length<=30:=by rw [<-hr2];exact Nat.le_trans (pC _ _) (hru (hi0_1 (by omega)))
  refine ae aa 1 rfl ?_
  refine ag ?_
  refine ah rfl (fun hc6=>?_) (fun hc6=>?_)
  ·
   have hc6':=of_decide_eq_true hc6
   refine aQ ?_
   refine ag ?_
   refine aX ?_
   refine eB ?_
   refine aA (bA (i:=k) rfl rfl rfl Try.underlying59 iZ (by first|omega|(simp;done)|(simp;omega)) (by first|omega|(simp;done)|(simp;omega))) rfl ?_
   obtain ⟨x2,hx2⟩:=ck (xs:=r2) (i:=k) (by first|omega|(simp;done)|(simp;omega))
   have hx2v:=(ko (hi0_1 (by omega))).2 x2 (kP (hr2.symm▸List.mem_of_getElem? hx2:x2∈dM p l x.time))
   refine aA (dm rfl rfl rfl Try.underlying125 rfl iZ (bw hx2) rfl) rfl ?_
   refine ad aa 2 rfl ?_
   refine af ?_
   refine au ?_
   refine ad aa 3 rfl ?_
   refine aA (aL rfl rfl rfl (aJ (by first|omega|(simp;done)|(simp;omega)))) rfl ?_
   refine ad aa 1 rfl ?_
   refine bY ?_
   refine bh ?_
   refine then_ok ?_
   refine au ?_
   refine aA (aL rfl rfl rfl (aJ (by first|omega|(simp;done)|(simp;omega)))) rfl ?_
   refine ad aa 1 rfl ?_
   refine af ?_
   refine ⟨k+1,by first|omega|trivial,by first|omega|(simp;done)|(simp;omega),aF.bW id (by refine ⟨?_,?_,?_,?_,?_,?_,?_,?_,?_,?_,?_,trivial⟩<;>first|rfl|(simp only [bm];done)|(congr 3;omega)|(congr 4;omega)|(simp only [bn];rfl)|(first|(rw [ia hx2,lp,<-Int.add_assoc];rfl)|(rw [ia hx1,lp,<-Int.add_assoc];rfl))) (by refine ⟨?_,?_,?_,?_,trivial⟩<;>first|rfl|(simp only [bm];done)|(congr 3;omega)|(congr 4;omega)|(simp only [bn];rfl)) rfl⟩
  have hc6':=of_decide_eq_false hc6
  refine cj ?_
  refine aP ?_
  refine aP ?_
  refine bK ?_
  refine then_ok ?_
  refine ag ?_
  refine cx 82 ((decide ((↑r2.length:Int)>=p.count))||(decide ((x.sum+ib ((r2).take k)) > p.sum))) ?_ ?_
  ·
   refine au ?_
   refine ad aa 1 rfl ?_
   refine aA (dz rfl rfl rfl rfl rfl Try.underlying59) rfl ?_
   refine ad aa 4 rfl ?_
   refine bI (t:=77) rfl (fun hb7=>?_) (fun hb7=>?_)
   ·
    have hb7':=of_decide_eq_true hb7
    refine ad aa 5 rfl ?_
    refine af ?_
    exact aF.bH 12 rfl rfl (by first|(simp [hb7];done)|(simp_all;done)|(exfalso;simp_all;done)|(simp_all;omega)) rfl
   have hb7':=of_decide_eq_false hb7
   refine ad aa 5 rfl ?_
   refine af ?_
   exact aF.bH 12 rfl rfl (by first|(simp [hb7];done)|(simp_all;done)|(exfalso;simp_all;done)|(simp_all;omega)) rfl
  refine ah rfl (fun hc8=>?_) (fun hc8=>?_)
  ·
   have hc8':=hc8;try simp only [bu,bU] at hc8'
   refine ae aa 2 rfl ?_
   refine az ?_
   refine aq ?_
   refine cT (aF.nil 6 125 2 (by decide) rfl) ?_
   have hX:ez p l x=(([]:List db),11):=by
     have hlate:gQ l x.time=false:=by first|(rw [nC hx1];simp;omega)|(have:l=[]:=List.eq_nil_of_length_eq_zero (by omega);subst this;rfl)
     have hk:(r2).take k=r2:=List.take_of_length_le (by omega)
     rw [hk] at hc8'
     unfold ez;rw [if_neg (by omega),if_neg (by have:=hi0_1 (by omega);omega),if_neg (by have:=hi0_2 (by omega);omega),if_neg (by rw [hlate];simp),hr2,if_pos (by omega)]
   rw [hX] at hr;clear hX
   simp only [Prod.mk.injEq] at hr;obtain ⟨rfl,rfl⟩:=hr
   refine an aa [5] 1 rfl rfl rfl rfl rfl rfl ?_ ?_
   all_goals first|rfl|(simp [ay];done)|(simp [ay];omega)
  have hc8':=hc8;try simp only [bu,bU] at hc8'
  refine aQ ?_
  refine aH aa 2 rfl ?_
  refine aN 6 [5,4,3,1,0] (dy (ys:=[(0,(.g [(cI x.time),(cI x.sum)]))]) (rows:=([x]).map iB) 5 oZ rfl (by decide) ⟨⟨rfl,rfl⟩,trivial⟩ rfl rfl rfl rfl) rfl ?_
  refine aN 7 [6,5,3,1,0] (cX (m:=1) (N:=r2.length+1) (k2:=6) (ys:=([x]).map iB) oZ rfl rfl rfl rfl rfl rfl (by first|omega|(simp;done)|(simp;omega)) rfl (.s rfl (by first|omega|(simp;done)|(simp;omega))) (by first|omega|(simp;done)|(simp;omega)) (by first|omega|(simp;done)|(simp;omega)) eH (by decide) (by first|omega|(simp;done)|(simp;omega)) (by first|omega|(simp;done)|(simp;omega))) rfl ?_
  refine ad aa 2 rfl ?_
  refine af ?_
  refine az ?_
  have hX:ez p l x=(r2++([x]),0):=by
    have hlate:gQ l x.time=false:=by first|(rw [nC hx1];simp;omega)|(have:l=[]:=List.eq_nil_of_length_eq_zero (by omega);subst this;rfl)
    have hk:(r2).take k=r2:=List.take_of_length_le (by omega)
    rw [hk] at hc8'
    unfold ez;rw [if_neg (by omega),if_neg (by have:=hi0_1 (by omega);omega),if_neg (by have:=hi0_2 (by omega);omega),if_neg (by rw [hlate];simp),hr2,if_neg (by omega)]
  rw [hX] at hr;clear hX
  simp only [Prod.mk.injEq] at hr;obtain ⟨rfl,rfl⟩:=hr
  refine an aa [6] 1 rfl rfl rfl rfl rfl rfl ?_ ?_
  all_goals first|rfl|(simp [ay];done)|(simp [ay];omega)
 have hb4':=of_decide_eq_false hb4
 refine ba [1,3,5,25,26,27,12] [3,1,0] mixed rfl rfl ?_
 refine aE (kn:=[(43,false)]) aa 12 rfl ⟨hb4,trivial⟩ ?_
 refine bC [3,1,0] rfl rfl rfl rfl (by kernel_rfl) ?_
 refine af ?_
 refine ah rfl (fun hno=>by cases hno) (fun _=>?_)
 refine aQ ?_
 refine aH aa 4 rfl ?_
 obtain ⟨r3,hr3⟩:∃ (r3:List db),dM p l x.time=r3:=⟨_,rfl⟩
 refine aN 5 [4,3,1,0] (bQ 4 (oO p l x.time (by first|assumption|omega|(have q1:=ph (hr2.trans (by omega));have q2:=uses1 (x:=x) (by simp_all);omega)) (by first|assumption|omega) r3 hr3) Ez rfl rfl ⟨⟨_,rfl,.g ⟨.d _,.d _,.d _,trivial⟩⟩,⟨_,rfl,.c (.d _)⟩,⟨_,rfl,.c (.d _)⟩,trivial⟩ trivial ⟨(fun _ _ _ _=>trivial),trivial⟩ rfl rfl rfl rfl) rfl ?_
 refine ad aa 1 rfl ?_
 refine af ?_
 refine ae aa 3 rfl ?_
 refine ag ?_
 refine aH aa 1 rfl ?_
 refine aA (dz rfl rfl rfl rfl rfl Try.underlying59) rfl ?_
 refine ad aa 1 rfl ?_
 refine af ?_
 refine aX ?_
 refine cw (β:=Nat) (fun (k:Nat)=>⟨[(1,(aC (fI l))),(3,(aC (.p 0 0 0 0))),(5,(aC (.p 1 0 0 0))),(25,(aC (.s 3 0 1 2))),(26,(aI 2)),(27,(aI (↑q:Int))),(13,(aC (.s 4 0 2 r3.length))),(14,(aI (x.sum+ib ((r3).take k)))),(61,(aC (.s 4 0 2 r3.length))),(62,(aI (↑r3.length:Int))),(63,(aI (↑k:Int)))],[(4,(pX r3)),(3,(.arr 59 1 (([l,[x]]).map vF))),(1,(.box 125 [(cI x.time),(cI x.sum)])),(0,(.box 58 [(cI p.cU),(cI p.count),(cI p.sum)]))],5⟩) (fun (k:Nat)=>k<=(r3).length) (fun (k:Nat)=>(r3).length - k) 0 ?_ ?_ ?_
 ·exact (by omega)
 ·exact aF.bW id (by refine ⟨?_,?_,?_,?_,?_,?_,?_,?_,?_,?_,?_,trivial⟩<;>first|rfl|(simp only [bm];done)|(congr 3;omega)|(congr 4;omega)|(simp only [bn];rfl)|((rw [List.take_zero,ib,Int.add_zero];rfl))) (by refine ⟨?_,?_,?_,?_,trivial⟩<;>first|rfl|(simp only [bm];done)|(congr 3;omega)|(congr 4;omega)|(simp only [bn];rfl)) rfl
 rintro k hi1_0
 have hsb:=qC (p:=p) (l:=l) (t:=x.time) (k:=k) (hi0_1 (by omega))
 rw [hr3] at hsb
 have hrl:(r3).length<=30:=by rw [<-hr3];exact Nat.le_trans (pC _ _) (hru (hi0_1 (by omega)))
 refine ae aa 1 rfl ?_
 refine ag ?_
 refine ah rfl (fun hc10=>?_) (fun hc10=>?_)
 ·
  have hc10':=of_decide_eq_true hc10
  refine aQ ?_
  refine ag ?_
  refine aX ?_
  refine eB ?_
  refine aA (bA (i:=k) rfl rfl rfl Try.underlying59 iZ (by first|omega|(simp;done)|(simp;omega)) (by first|omega|(simp;done)|(simp;omega))) rfl ?_
  obtain ⟨x1,hx1⟩:=ck (xs:=r3) (i:=k) (by first|omega|(simp;done)|(simp;omega))
  have hx1v:=(ko (hi0_1 (by omega))).2 x1 (kP (hr3.symm▸List.mem_of_getElem? hx1:x1∈dM p l x.time))
  refine aA (dm rfl rfl rfl Try.underlying125 rfl iZ (bw hx1) rfl) rfl ?_
  refine ad aa 2 rfl ?_
  refine af ?_
  refine au ?_
  refine ad aa 3 rfl ?_
  refine aA (aL rfl rfl rfl (aJ (by first|omega|(simp;done)|(simp;omega)))) rfl ?_
  refine ad aa 1 rfl ?_
  refine bY ?_
  refine bh ?_
  refine then_ok ?_
  refine au ?_
  refine aA (aL rfl rfl rfl (aJ (by first|omega|(simp;done)|(simp;omega)))) rfl ?_
  refine ad aa 1 rfl ?_
  refine af ?_
  refine ⟨k+1,by first|omega|trivial,by first|omega|(simp;done)|(simp;omega),aF.bW id (by refine ⟨?_,?_,?_,?_,?_,?_,?_,?_,?_,?_,?_,trivial⟩<;>first|rfl|(simp only [bm];done)|(congr 3;omega)|(congr 4;omega)|(simp only [bn];rfl)|(first|(rw [ia hx2,lp,<-Int.add_assoc];rfl)|(rw [ia hx1,lp,<-Int.add_assoc];rfl))) (by refine ⟨?_,?_,?_,?_,trivial⟩<;>first|rfl|(simp only [bm];done)|(congr 3;omega)|(congr 4;omega)|(simp only [bn];rfl)) rfl⟩
 have hc10':=of_decide_eq_false hc10
 refine cj ?_
 refine aP ?_
 refine aP ?_
 refine bK ?_
 refine then_ok ?_
 refine ag ?_
 refine cx 82 ((decide ((↑r3.length:Int)>=p.count))||(decide ((x.sum+ib ((r3).take k)) > p.sum))) ?_ ?_
 ·
  refine au ?_
  refine ad aa 1 rfl ?_
  refine aA (dz rfl rfl rfl rfl rfl Try.underlying59) rfl ?_
  refine ad aa 4 rfl ?_
  refine bI (t:=77) rfl (fun hb11=>?_) (fun hb11=>?_)
  ·
   have hb11':=of_decide_eq_true hb11
   refine ad aa 5 rfl ?_
   refine af ?_
   exact aF.bH 12 rfl rfl (by first|(simp [hb11];done)|(simp_all;done)|(exfalso;simp_all;done)|(simp_all;omega)) rfl
  have hb11':=of_decide_eq_false hb11
  refine ad aa 5 rfl ?_
  refine af ?_
  exact aF.bH 12 rfl rfl (by first|(simp [hb11];done)|(simp_all;done)|(exfalso;simp_all;done)|(simp_all;omega)) rfl
 refine ah rfl (fun hc12=>?_) (fun hc12=>?_)
 ·
  have hc12':=hc12;try simp only [bu,bU] at hc12'
  refine ae aa 2 rfl ?_
  refine az ?_
  refine aq ?_
  refine cT (aF.nil 6 125 2 (by decide) rfl) ?_
  have hX:ez p l x=(([]:List db),11):=by
    have hlate:gQ l x.time=false:=by first|(rw [nC hx1];simp;omega)|(have:l=[]:=List.eq_nil_of_length_eq_zero (by omega);subst this;rfl)
    have hk:(r3).take k=r3:=List.take_of_length_le (by omega)
    rw [hk] at hc12'
    unfold ez;rw [if_neg (by omega),if_neg (by have:=hi0_1 (by omega);omega),if_neg (by have:=hi0_2 (by omega);omega),if_neg (by rw [hlate];simp),hr3,if_pos (by omega)]
  rw [hX] at hr;clear hX
  simp only [Prod.mk.injEq] at hr;obtain ⟨rfl,rfl⟩:=hr
  refine an aa [5] 1 rfl rfl rfl rfl rfl rfl ?_ ?_
  all_goals first|rfl|(simp [ay];done)|(simp [ay];omega)
 have hc12':=hc12;try simp only [bu,bU] at hc12'
 refine aQ ?_
 refine aH aa 2 rfl ?_
 refine aN 6 [5,4,3,1,0] (dy (ys:=[(0,(.g [(cI x.time),(cI x.sum)]))]) (rows:=([x]).map iB) 5 oZ rfl (by decide) ⟨⟨rfl,rfl⟩,trivial⟩ rfl rfl rfl rfl) rfl ?_
 refine aN 7 [6,5,3,1,0] (cX (m:=1) (N:=r3.length+1) (k2:=6) (ys:=([x]).map iB) oZ rfl rfl rfl rfl rfl rfl (by first|omega|(simp;done)|(simp;omega)) rfl (.s rfl (by first|omega|(simp;done)|(simp;omega))) (by first|omega|(simp;done)|(simp;omega)) (by first|omega|(simp;done)|(simp;omega)) eH (by decide) (by first|omega|(simp;done)|(simp;omega)) (by first|omega|(simp;done)|(simp;omega))) rfl ?_
 refine ad aa 2 rfl ?_
 refine af ?_
 refine az ?_
 have hX:ez p l x=(r3++([x]),0):=by
   have hlate:gQ l x.time=false:=by first|(rw [nC hx1];simp;omega)|(have:l=[]:=List.eq_nil_of_length_eq_zero (by omega);subst this;rfl)
   have hk:(r3).take k=r3:=List.take_of_length_le (by omega)
   rw [hk] at hc12'
   unfold ez;rw [if_neg (by omega),if_neg (by have:=hi0_1 (by omega);omega),if_neg (by have:=hi0_2 (by omega);omega),if_neg (by rw [hlate];simp),hr3,if_neg (by omega)]
 rw [hX] at hr;clear hX
 simp only [Prod.mk.injEq] at hr;obtain ⟨rfl,rfl⟩:=hr
 refine an aa [6] 1 rfl rfl rfl rfl rfl rfl ?_ ?_
 all_goals first|rfl|(simp [ay];done)|(simp [ay];omega)

theorem kE (c:bE) (e:Int) (hr:cA c=e):Fn Try.prog 28 [(.g [(cI c.bx),(cI c.held),(cI c.ch.cU),(cI c.ch.count),(cI c.ch.sum),(fI c.cO)])] (.v (.c (cI e))) []:=by
 refine Fn.mk' 32 [(0,(aG [(cI c.bx),(cI c.held),(cI c.ch.cU),(cI c.ch.count),(cI c.ch.sum),(fI c.cO)]))] Try.func28 rfl rfl rfl rfl ?_
 intro W0 T0
 refine fE 0 5 rfl rfl (fun hlen0_5=>?_)
 refine ae aa 2 rfl ?_
 refine ag ?_
 refine cx 21 ((((decide (c.bx < (-1000000000000)))||(decide (c.bx > 1000000000000)))||(decide (c.held < 0)))||(decide (c.held > 1000000000000))) ?_ ?_
 ·
  refine au ?_
  refine ad aa 4 rfl ?_
  refine bI (t:=7) rfl (fun hb1=>?_) (fun hb1=>?_)
  ·
   have hb1':=of_decide_eq_true hb1
   refine ad aa 14 rfl ?_
   refine af ?_
   exact aF.bH 19 rfl rfl (by first|(simp [hb1];done)|(simp_all;done)|(exfalso;simp_all;done)|(simp_all;omega)) rfl
  have hb1':=of_decide_eq_false hb1
  refine ad aa 5 rfl ?_
  refine bI (t:=12) rfl (fun hb2=>?_) (fun hb2=>?_)
  ·
   have hb2':=of_decide_eq_true hb2
   refine ad aa 9 rfl ?_
   refine af ?_
   exact aF.bH 20 rfl rfl (by first|(simp [hb1,hb2];done)|(simp_all;done)|(exfalso;simp_all;done)|(simp_all;omega)) rfl
  have hb2':=of_decide_eq_false hb2
  refine ad aa 5 rfl ?_
  refine bI (t:=17) rfl (fun hb3=>?_) (fun hb3=>?_)
  ·
   have hb3':=of_decide_eq_true hb3
   refine ad aa 4 rfl ?_
   refine af ?_
   exact aF.bH 21 rfl rfl (by first|(simp [hb1,hb2,hb3];done)|(simp_all;done)|(exfalso;simp_all;done)|(simp_all;omega)) rfl
  have hb3':=of_decide_eq_false hb3
  refine ad aa 4 rfl ?_
  refine af ?_
  exact aF.bH 21 rfl rfl (by first|(simp [hb1,hb2,hb3];done)|(simp_all;done)|(exfalso;simp_all;done)|(simp_all;omega)) rfl
 refine ah rfl (fun hc4=>?_) (fun hc4=>?_)
 ·
  have hc4':=hc4;try simp only [bu,bU] at hc4'
  refine ae aa 1 rfl ?_
  refine az ?_
  refine aq ?_
  have hX:cA c=3:=by
    unfold cA;rw [if_pos (by omega)]
  rw [hX] at hr;clear hX
  subst hr
  refine an aa [] 0 rfl rfl rfl rfl rfl rfl ?_ ?_
  all_goals first|rfl|(simp [ay];done)|(simp [ay];omega)
 have hc4':=hc4;try simp only [bu,bU] at hc4'
 refine aQ ?_
 refine ag ?_
 refine aH aa 2 rfl ?_
 obtain ⟨e0,hr0⟩:∃ (e0:Int),fA c.ch=e0:=⟨_,rfl⟩
 refine aN 1 [0] (bQ 1 (lI c.ch e0 hr0) DC rfl rfl ⟨⟨_,rfl,.g ⟨.d _,.d _,.d _,trivial⟩⟩,trivial⟩ trivial trivial rfl rfl rfl rfl) rfl ?_
 refine ad aa 1 rfl ?_
 refine af ?_
 refine ae aa 2 rfl ?_
 refine ah rfl (fun hc5=>?_) (fun hc5=>?_)
 ·
  have hc5':=of_decide_eq_true hc5
  refine ae aa 2 rfl ?_
  refine az ?_
  refine aq ?_
  have hX:cA c=e0:=by
    unfold cA;rw [if_neg (by omega),if_pos (by omega),hr0]
  rw [hX] at hr;clear hX
  subst hr
  refine an aa [] 0 rfl rfl rfl rfl rfl rfl ?_ ?_
  all_goals first|rfl|(simp [ay];done)|(simp [ay];omega)
 have hc5':=of_decide_eq_false hc5
 refine aQ ?_
 refine aH aa 2 rfl ?_
 obtain ⟨f1,hr1⟩:∃ (f1:dc),fx c.cO=f1:=⟨_,rfl⟩
 refine aN 1 [0] (bQ 1 (pQ c.cO f1 hr1) GR rfl rfl ⟨⟨_,rfl,.c (.d _)⟩,trivial⟩ ⟨trivial,trivial,trivial⟩ trivial rfl rfl rfl rfl) rfl ?_
 refine aA (Ds rfl rfl Try.underlying50 rfl Try.underlying48 rfl rfl) rfl ?_
 refine ad aa 1 rfl ?_
 refine af ?_
 refine az ?_
 have hX:cA c=f1.err:=by
   unfold cA;rw [if_neg (by omega),if_neg (by omega),hr1]
 rw [hX] at hr;clear hX
 subst hr
 refine an aa [] 0 rfl rfl rfl rfl rfl rfl ?_ ?_
 all_goals first|rfl|(simp [ay];done)|(simp [ay];omega)
theorem qU (c:bE) (hb:-9223372036854775808<=c.bx - c.held/\c.bx - c.held<=9223372036854775807):Fn Try.prog 24 [(.g [(cI c.bx),(cI c.held),(cI c.ch.cU),(cI c.ch.count),(cI c.ch.sum),(fI c.cO)])] (aI (c.bx - c.held)) []:=by
 refine Fn.mk' 8 [(0,(aG [(cI c.bx),(cI c.held),(cI c.ch.cU),(cI c.ch.count),(cI c.ch.sum),(fI c.cO)]))] Try.func24 rfl rfl rfl rfl ?_
 intro W0 T0
 refine fE 0 5 rfl rfl (fun hlen0_5=>?_)
 obtain ⟨hb1,hb2⟩:=hb
 refine ae aa 2 rfl ?_
 refine aH aa 4 rfl ?_
 refine aA (aL rfl rfl rfl (aJ (by first|omega|(simp;done)|(simp;omega)))) rfl ?_
 refine ad aa 1 rfl ?_
 refine af ?_
 refine az ?_
 refine an aa [] 0 rfl rfl rfl rfl rfl rfl ?_ ?_
 all_goals first|rfl|(simp [ay];done)|(simp [ay];omega)
theorem sY (c:bE) (hl:c.cO.length<=1048576):Fn Try.prog 108 [(.g [(cI c.bx),(cI c.held),(cI c.ch.cU),(cI c.ch.count),(cI c.ch.sum),(fI c.cO)])] (.v (.g [cI c.bx,cI c.held,cI c.ch.cU,cI c.ch.count,cI c.ch.sum,.s 0 0 2 c.cO.length])) [(0,.arr 125 2 (c.cO.map iB))]:=by
 refine Fn.mk' 8 [(0,(aG [(cI c.bx),(cI c.held),(cI c.ch.cU),(cI c.ch.count),(cI c.ch.sum),(fI c.cO)]))] Try.func108 rfl rfl rfl rfl ?_
 intro W0 T0
 refine fE 0 5 rfl rfl (fun hlen0_5=>?_)
 refine ae aa 2 rfl ?_
 refine aH aa 2 rfl ?_
 refine aN 3 [2,1,0] (bQ 2 (qX c.cO (by first|omega|(simp;done)|(simp;omega))) Ey rfl rfl ⟨⟨_,rfl,.c (.d _)⟩,trivial⟩ trivial ⟨(fun _ _ _ _=>trivial),trivial⟩ rfl rfl rfl rfl) rfl ?_
 refine ad aa 2 rfl ?_
 refine af ?_
 refine ae aa 2 rfl ?_
 refine az ?_
 refine an aa [2,1] 1 rfl rfl rfl rfl rfl rfl ?_ ?_
 all_goals first|rfl|(simp [ay];done)|(simp [ay];omega)

theorem xu (c:bE) (n time:Int) (x:bE) (e:Int) (hr:dO c n time=(x,e)):Fn Try.prog 80 [(.g [(cI c.bx),(cI c.held),(cI c.ch.cU),(cI c.ch.count),(cI c.ch.sum),(fI c.cO)]),(.c (cI n)),(.c (cI time))] (.t [(.g [(cI x.bx),(cI x.held),(cI x.ch.cU),(cI x.ch.count),(cI x.ch.sum),(.s 0 0 2 x.cO.length)]),(.c (cI e))]) [(0,(pX x.cO))]:=by
 refine Fn.mk' 60 [(0,(aG [(cI c.bx),(cI c.held),(cI c.ch.cU),(cI c.ch.count),(cI c.ch.sum),(fI c.cO)])),(1,(aI n)),(2,(aI time))] Try.func80 rfl rfl rfl rfl ?_
 intro W0 T0
 refine fE 0 5 rfl rfl (fun hlen0_5=>?_)
 have hrc:=@gO c
 have hrl:=@nX c
 refine ae aa 3 rfl ?_
 refine ag ?_
 refine aH aa 1 rfl ?_
 obtain ⟨e0,hr0⟩:∃ (e0:Int),cA c=e0:=⟨_,rfl⟩
 refine aN 2 [1,0] (bQ 2 (kE c e0 hr0) zZ rfl rfl ⟨⟨_,rfl,.g ⟨.d _,.d _,.d _,.d _,.d _,.d _,trivial⟩⟩,trivial⟩ trivial trivial rfl rfl rfl rfl) rfl ?_
 refine ad aa 1 rfl ?_
 refine af ?_
 refine ae aa 2 rfl ?_
 refine ah rfl (fun hc1=>?_) (fun hc1=>?_)
 ·
  have hc1':=of_decide_eq_true hc1
  refine ae aa 4 rfl ?_
  refine az ?_
  refine aq ?_
  refine cp 1 5 125 2 rfl rfl rfl ?_
  have hX:dO c n time=((⟨0,0,(⟨0,0,0⟩:dw),([]:List db)⟩:bE),e0):=by
    unfold dO;rw [if_pos (by omega),hr0];rfl
  rw [hX] at hr;clear hX
  simp only [Prod.mk.injEq] at hr;obtain ⟨rfl,rfl⟩:=hr
  refine an aa [2,1] 1 rfl rfl rfl rfl rfl rfl ?_ ?_
  all_goals first|rfl|(simp [ay];done)|(simp [ay];omega)
 have hc1':=of_decide_eq_false hc1
 refine aQ ?_
 refine ag ?_
 refine cx 30 ((((decide (n < 1))||(decide (n > 1000000)))||(decide (time < 0)))||(decide (time > 1000000))) ?_ ?_
 ·
  refine au ?_
  refine ad aa 3 rfl ?_
  refine bI (t:=19) rfl (fun hb2=>?_) (fun hb2=>?_)
  ·
   have hb2':=of_decide_eq_true hb2
   refine ad aa 11 rfl ?_
   refine af ?_
   exact aF.bH 15 rfl rfl (by first|(simp [hb2];done)|(simp_all;done)|(exfalso;simp_all;done)|(simp_all;omega)) rfl
  have hb2':=of_decide_eq_false hb2
  refine ad aa 4 rfl ?_
  refine bI (t:=23) rfl (fun hb3=>?_) (fun hb3=>?_)
  ·
   have hb3':=of_decide_eq_true hb3
   refine ad aa 7 rfl ?_
   refine af ?_
   exact aF.bH 16 rfl rfl (by first|(simp [hb2,hb3];done)|(simp_all;done)|(exfalso;simp_all;done)|(simp_all;omega)) rfl
  have hb3':=of_decide_eq_false hb3
  refine ad aa 4 rfl ?_
  refine bI (t:=27) rfl (fun hb4=>?_) (fun hb4=>?_)
  ·
   have hb4':=of_decide_eq_true hb4
   refine ad aa 3 rfl ?_
   refine af ?_
   exact aF.bH 17 rfl rfl (by first|(simp [hb2,hb3,hb4];done)|(simp_all;done)|(exfalso;simp_all;done)|(simp_all;omega)) rfl
  have hb4':=of_decide_eq_false hb4
  refine ad aa 3 rfl ?_
  refine af ?_
  exact aF.bH 17 rfl rfl (by first|(simp [hb2,hb3,hb4];done)|(simp_all;done)|(exfalso;simp_all;done)|(simp_all;omega)) rfl
 refine ah rfl (fun hc5=>?_) (fun hc5=>?_)
 ·
  have hc5':=hc5;try simp only [bu,bU] at hc5'
  refine ae aa 3 rfl ?_
  refine az ?_
  refine aq ?_
  refine cp 1 5 125 2 rfl rfl rfl ?_
  have hX:dO c n time=((⟨0,0,(⟨0,0,0⟩:dw),([]:List db)⟩:bE),3):=by
    unfold dO;rw [if_neg (by omega),if_pos (by omega)];rfl
  rw [hX] at hr;clear hX
  simp only [Prod.mk.injEq] at hr;obtain ⟨rfl,rfl⟩:=hr
  refine an aa [2,1] 1 rfl rfl rfl rfl rfl rfl ?_ ?_
  all_goals first|rfl|(simp [ay];done)|(simp [ay];omega)
 have hc5':=hc5;try simp only [bu,bU] at hc5'
 refine aQ ?_
 refine ag ?_
 refine aH aa 2 rfl ?_
 refine aN 2 [1,0] (bQ 2 (qU c (by first|assumption|omega|(constructor<;>decide)|(have hz:=gO (by first|assumption|omega);omega))) GW rfl rfl ⟨⟨_,rfl,.g ⟨.d _,.d _,.d _,.d _,.d _,.d _,trivial⟩⟩,trivial⟩ trivial trivial rfl rfl rfl rfl) rfl ?_
 refine ad aa 1 rfl ?_
 refine af ?_
 refine ah rfl (fun hc6=>?_) (fun hc6=>?_)
 ·
  have hc6':=of_decide_eq_true hc6
  refine ae aa 3 rfl ?_
  refine az ?_
  refine aq ?_
  refine cp 1 5 125 2 rfl rfl rfl ?_
  have hX:dO c n time=((⟨0,0,(⟨0,0,0⟩:dw),([]:List db)⟩:bE),10):=by
    unfold dO;rw [if_neg (by omega),if_neg (by omega),if_pos (by omega)];rfl
  rw [hX] at hr;clear hX
  simp only [Prod.mk.injEq] at hr;obtain ⟨rfl,rfl⟩:=hr
  refine an aa [2,1] 1 rfl rfl rfl rfl rfl rfl ?_ ?_
  all_goals first|rfl|(simp [ay];done)|(simp [ay];omega)
 have hc6':=of_decide_eq_false hc6
 refine aQ ?_
 refine aH aa 7 rfl ?_
 obtain ⟨r1,e1,hr1⟩:∃ (r1:List db) (e1:Int),ez c.ch c.cO (⟨time,n⟩:db)=(r1,e1):=⟨_,_,rfl⟩
 refine aN 3 [2,1,0] (bQ 2 (Ai c.ch c.cO (⟨time,n⟩:db) r1 e1 hr1) Ia rfl rfl ⟨⟨_,rfl,.g ⟨.d _,.d _,.d _,trivial⟩⟩,⟨_,rfl,.c (.d _)⟩,⟨_,rfl,.g ⟨.d _,.d _,trivial⟩⟩,trivial⟩ ⟨trivial,trivial,trivial⟩ ⟨(fun _ _ _ _=>trivial),trivial⟩ rfl rfl rfl rfl) rfl ?_
 refine ad aa 5 rfl ?_
 refine af ?_
 refine ag ?_
 refine ae aa 2 rfl ?_
 refine ah rfl (fun hc7=>?_) (fun hc7=>?_)
 ·
  have hc7':=of_decide_eq_true hc7
  refine ae aa 4 rfl ?_
  refine az ?_
  refine aq ?_
  refine cp 1 5 125 2 rfl rfl rfl ?_
  have hX:dO c n time=((⟨0,0,(⟨0,0,0⟩:dw),([]:List db)⟩:bE),e1):=by
    have ha:=hr1
    unfold dO;rw [if_neg (by omega),if_neg (by omega),if_neg (by omega),if_pos (by rw [ha];dsimp only;omega),ha];rfl
  rw [hX] at hr;clear hX
  simp only [Prod.mk.injEq] at hr;obtain ⟨rfl,rfl⟩:=hr
  refine an aa [3,1] 1 rfl rfl rfl rfl rfl rfl ?_ ?_
  all_goals first|rfl|(simp [ay];done)|(simp [ay];omega)
 have hc7':=of_decide_eq_false hc7
 refine aQ ?_
 refine ae aa 3 rfl ?_
 refine aH aa 3 rfl ?_
 refine aA (aL rfl rfl rfl (aJ (by first|omega|(simp;done)|(simp;omega)))) rfl ?_
 refine ad aa 2 rfl ?_
 refine af ?_
 refine ae aa 3 rfl ?_
 refine az ?_
 have hX:dO c n time=((⟨c.bx,c.held+n,c.ch,r1⟩:bE),0):=by
   have ha:=hr1
   unfold dO;rw [if_neg (by omega),if_neg (by omega),if_neg (by omega),if_neg (by rw [ha];dsimp only;omega),ha]
 rw [hX] at hr;clear hX
 simp only [Prod.mk.injEq] at hr;obtain ⟨rfl,rfl⟩:=hr
 refine an aa [2,1] 1 rfl rfl rfl rfl rfl rfl ?_ ?_
 all_goals first|rfl|(simp [ay];done)|(simp [ay];omega)
theorem xr (c:bE) (n:Int) (x:bE) (e:Int) (hr:fe c n=(x,e)):Fn Try.prog 91 [(.g [(cI c.bx),(cI c.held),(cI c.ch.cU),(cI c.ch.count),(cI c.ch.sum),(fI c.cO)]),(.c (cI n))] (.t [(.g [(cI x.bx),(cI x.held),(cI x.ch.cU),(cI x.ch.count),(cI x.ch.sum),(.s 0 0 2 x.cO.length)]),(.c (cI e))]) [(0,(pX x.cO))]:=by
 refine Fn.mk' 35 [(0,(aG [(cI c.bx),(cI c.held),(cI c.ch.cU),(cI c.ch.count),(cI c.ch.sum),(fI c.cO)])),(1,(aI n))] Try.func91 rfl rfl rfl rfl ?_
 intro W0 T0
 refine fE 0 5 rfl rfl (fun hlen0_5=>?_)
 have hrc:=@gO c
 have hrl:=@nX c
 refine ae aa 3 rfl ?_
 refine ag ?_
 refine aH aa 1 rfl ?_
 obtain ⟨e0,hr0⟩:∃ (e0:Int),cA c=e0:=⟨_,rfl⟩
 refine aN 2 [1,0] (bQ 2 (kE c e0 hr0) zZ rfl rfl ⟨⟨_,rfl,.g ⟨.d _,.d _,.d _,.d _,.d _,.d _,trivial⟩⟩,trivial⟩ trivial trivial rfl rfl rfl rfl) rfl ?_
 refine ad aa 1 rfl ?_
 refine af ?_
 refine ae aa 2 rfl ?_
 refine ah rfl (fun hc1=>?_) (fun hc1=>?_)
 ·
  have hc1':=of_decide_eq_true hc1
  refine ae aa 4 rfl ?_
  refine az ?_
  refine aq ?_
  refine cp 1 5 125 2 rfl rfl rfl ?_
  have hX:fe c n=((⟨0,0,(⟨0,0,0⟩:dw),([]:List db)⟩:bE),e0):=by
    unfold fe;rw [if_pos (by omega),hr0];rfl
  rw [hX] at hr;clear hX
  simp only [Prod.mk.injEq] at hr;obtain ⟨rfl,rfl⟩:=hr
  refine an aa [2,1] 1 rfl rfl rfl rfl rfl rfl ?_ ?_
  all_goals first|rfl|(simp [ay];done)|(simp [ay];omega)
 have hc1':=of_decide_eq_false hc1
 refine aQ ?_
 refine ag ?_
 refine cx 25 (((decide (n < 1))||(decide (n > 1000000)))||(decide (n > (1000000000000 - c.held)))) ?_ ?_
 ·
  refine au ?_
  refine ad aa 3 rfl ?_
  refine bI (t:=15) rfl (fun hb2=>?_) (fun hb2=>?_)
  ·
   have hb2':=of_decide_eq_true hb2
   refine ad aa 10 rfl ?_
   refine af ?_
   exact aF.bH 14 rfl rfl (by first|(simp [hb2];done)|(simp_all;done)|(exfalso;simp_all;done)|(simp_all;omega)) rfl
  have hb2':=of_decide_eq_false hb2
  refine ad aa 4 rfl ?_
  refine bI (t:=19) rfl (fun hb3=>?_) (fun hb3=>?_)
  ·
   have hb3':=of_decide_eq_true hb3
   refine ad aa 6 rfl ?_
   refine af ?_
   exact aF.bH 15 rfl rfl (by first|(simp [hb2,hb3];done)|(simp_all;done)|(exfalso;simp_all;done)|(simp_all;omega)) rfl
  have hb3':=of_decide_eq_false hb3
  refine ad aa 3 rfl ?_
  refine dQ (ak.yes rfl rfl rfl) (aL rfl rfl rfl (aJ (by first|omega|(simp;done)|(simp;omega)))) rfl rfl ?_
  refine ad aa 2 rfl ?_
  refine af ?_
  exact aF.bH 15 rfl rfl (by first|(simp [hb2,hb3];done)|(simp_all;done)|(exfalso;simp_all;done)|(simp_all;omega)) rfl
 refine ah rfl (fun hc4=>?_) (fun hc4=>?_)
 ·
  have hc4':=hc4;try simp only [bu,bU] at hc4'
  refine ae aa 3 rfl ?_
  refine az ?_
  refine aq ?_
  refine cp 1 5 125 2 rfl rfl rfl ?_
  have hX:fe c n=((⟨0,0,(⟨0,0,0⟩:dw),([]:List db)⟩:bE),3):=by
    unfold fe;rw [if_neg (by omega),if_pos (by omega)];rfl
  rw [hX] at hr;clear hX
  simp only [Prod.mk.injEq] at hr;obtain ⟨rfl,rfl⟩:=hr
  refine an aa [2,1] 1 rfl rfl rfl rfl rfl rfl ?_ ?_
  all_goals first|rfl|(simp [ay];done)|(simp [ay];omega)
 have hc4':=hc4;try simp only [bu,bU] at hc4'
 refine aQ ?_
 refine aH aa 1 rfl ?_
 refine aN 3 [2,1,0] (bQ 2 (sY c (by first|assumption|omega)) EB rfl rfl ⟨⟨_,rfl,.g ⟨.d _,.d _,.d _,.d _,.d _,.d _,trivial⟩⟩,trivial⟩ ⟨trivial,trivial,trivial,trivial,trivial,trivial,trivial⟩ ⟨(fun _ _ _ _=>trivial),trivial⟩ rfl rfl rfl rfl) rfl ?_
 refine ad aa 1 rfl ?_
 refine af ?_
 refine aH aa 3 rfl ?_
 refine aA (aL rfl rfl rfl (aJ (by first|omega|(simp;done)|(simp;omega)))) rfl ?_
 refine ad aa 2 rfl ?_
 refine af ?_
 refine ae aa 3 rfl ?_
 refine az ?_
 have hX:fe c n=((⟨c.bx,c.held+n,c.ch,c.cO⟩:bE),0):=by
   unfold fe;rw [if_neg (by omega),if_neg (by omega)]
 rw [hX] at hr;clear hX
 simp only [Prod.mk.injEq] at hr;obtain ⟨rfl,rfl⟩:=hr
 refine an aa [2,1] 1 rfl rfl rfl rfl rfl rfl ?_ ?_
 all_goals first|rfl|(simp [ay];done)|(simp [ay];omega)

theorem xq (c:bE) (held bx:Int) (x:bE) (e:Int) (hr:ec c held bx=(x,e)):Fn Try.prog 97 [(.g [(cI c.bx),(cI c.held),(cI c.ch.cU),(cI c.ch.count),(cI c.ch.sum),(fI c.cO)]),(.c (cI held)),(.c (cI bx))] (.t [(.g [(cI x.bx),(cI x.held),(cI x.ch.cU),(cI x.ch.count),(cI x.ch.sum),(.s 0 0 2 x.cO.length)]),(.c (cI e))]) [(0,(pX x.cO))]:=by
 refine Fn.mk' 52 [(0,(aG [(cI c.bx),(cI c.held),(cI c.ch.cU),(cI c.ch.count),(cI c.ch.sum),(fI c.cO)])),(1,(aI held)),(2,(aI bx))] Try.func97 rfl rfl rfl rfl ?_
 intro W0 T0
 refine fE 0 5 rfl rfl (fun hlen0_5=>?_)
 have hrc:=@gO c
 have hrl:=@nX c
 refine ae aa 3 rfl ?_
 refine ag ?_
 refine aH aa 1 rfl ?_
 obtain ⟨e0,hr0⟩:∃ (e0:Int),cA c=e0:=⟨_,rfl⟩
 refine aN 2 [1,0] (bQ 2 (kE c e0 hr0) zZ rfl rfl ⟨⟨_,rfl,.g ⟨.d _,.d _,.d _,.d _,.d _,.d _,trivial⟩⟩,trivial⟩ trivial trivial rfl rfl rfl rfl) rfl ?_
 refine ad aa 1 rfl ?_
 refine af ?_
 refine ae aa 2 rfl ?_
 refine ah rfl (fun hc1=>?_) (fun hc1=>?_)
 ·
  have hc1':=of_decide_eq_true hc1
  refine ae aa 4 rfl ?_
  refine az ?_
  refine aq ?_
  refine cp 1 5 125 2 rfl rfl rfl ?_
  have hX:ec c held bx=((⟨0,0,(⟨0,0,0⟩:dw),([]:List db)⟩:bE),e0):=by
    unfold ec;rw [if_pos (by omega),hr0];rfl
  rw [hX] at hr;clear hX
  simp only [Prod.mk.injEq] at hr;obtain ⟨rfl,rfl⟩:=hr
  refine an aa [2,1] 1 rfl rfl rfl rfl rfl rfl ?_ ?_
  all_goals first|rfl|(simp [ay];done)|(simp [ay];omega)
 have hc1':=of_decide_eq_false hc1
 refine aQ ?_
 refine ag ?_
 refine aH aa 2 rfl ?_
 refine aN 3 [2,1,0] (dy (ys:=[(0,(.c (cI held))),(1,(.c (cI bx)))]) (rows:=([held,bx]).map rI) 2 nh rfl (by decide) ⟨⟨rfl,rfl⟩,⟨rfl,rfl⟩,trivial⟩ rfl rfl rfl rfl) rfl ?_
 refine aA (dz rfl rfl rfl rfl rfl Try.underlying30) rfl ?_
 refine ad aa 1 rfl ?_
 refine af ?_
 refine aX ?_
 refine cw (β:=Nat) (fun (q:Nat)=>⟨[(1,(aI held)),(2,(aI bx)),(3,(aC (.p 0 0 0 0))),(6,(aC (.p 1 0 0 0))),(20,(aC (.s 2 0 1 2))),(21,(aI 2)),(22,(aI (↑q:Int)))],[(2,(dP ([held,bx]))),(1,(.box 61 [(cI 0),(cI 0),(cI 0),(cI 0),(cI 0),cN])),(0,(.box 61 [(cI c.bx),(cI c.held),(cI c.ch.cU),(cI c.ch.count),(cI c.ch.sum),(fI c.cO)]))],3⟩) (fun (q:Nat)=>q<=2/\(0 < q->-1000000000000<=held/\held<=1000000000000)/\(1 < q->-1000000000000<=bx/\bx<=1000000000000)) (fun (q:Nat)=>2 - q) 0 ?_ ?_ ?_
 ·exact ⟨by omega,by omega,by omega⟩
 ·exact aF.bW id (by refine ⟨?_,?_,?_,?_,?_,?_,?_,trivial⟩<;>first|rfl|(simp only [bm];done)|(congr 3;omega)|(congr 4;omega)|(simp only [bn];rfl)) (by refine ⟨?_,?_,?_,trivial⟩<;>first|rfl|(simp only [bm];done)|(congr 3;omega)|(congr 4;omega)|(simp only [bn];rfl)) rfl
 rintro q ⟨hi0_0,hi0_1,hi0_2⟩
 refine ae aa 1 rfl ?_
 refine ag ?_
 refine ah rfl (fun hc2=>?_) (fun hc2=>?_)
 ·
  have hc2':=of_decide_eq_true hc2
  refine aQ ?_
  refine ag ?_
  refine aX ?_
  refine eB ?_
  refine aA (bA (i:=q) rfl rfl rfl Try.underlying30 fX (by first|omega|(simp;done)|(simp;omega)) (by first|omega|(simp;done)|(simp;omega))) rfl ?_
  obtain ⟨x1,hx1⟩:=ck (xs:=([held,bx]:List Int)) (i:=q) (by first|omega|(simp;done)|(simp;omega))
  have hx1v:=Gk hx1
  refine aA (eU rfl rfl rfl Try.underlying3 rfl (bw hx1) rfl) rfl ?_
  refine ad aa 1 rfl ?_
  refine af ?_
  refine cx 31 ((decide (x1 < (-1000000000000)))||(decide (x1 > 1000000000000))) ?_ ?_
  ·
   refine au ?_
   refine ad aa 3 rfl ?_
   refine bI (t:=28) rfl (fun hb3=>?_) (fun hb3=>?_)
   ·
    have hb3':=of_decide_eq_true hb3
    refine ad aa 3 rfl ?_
    refine af ?_
    exact aF.bH 7 rfl rfl (by first|(simp [hb3];done)|(simp_all;done)|(exfalso;simp_all;done)|(simp_all;omega)) rfl
   have hb3':=of_decide_eq_false hb3
   refine ad aa 3 rfl ?_
   refine af ?_
   exact aF.bH 7 rfl rfl (by first|(simp [hb3];done)|(simp_all;done)|(exfalso;simp_all;done)|(simp_all;omega)) rfl
  refine ah rfl (fun hc4=>?_) (fun hc4=>?_)
  ·
   have hc4':=hc4;try simp only [bu,bU] at hc4'
   refine ae aa 3 rfl ?_
   refine az ?_
   refine bp ?_
   refine aq ?_
   refine aq ?_
   refine bp ?_
   refine aq ?_
   refine cp 1 5 125 2 rfl rfl rfl ?_
   have hX:ec c held bx=((⟨0,0,(⟨0,0,0⟩:dw),([]:List db)⟩:bE),3):=by
     unfold ec;rw [if_neg (by omega),if_pos (by omega)];rfl
   rw [hX] at hr;clear hX
   simp only [Prod.mk.injEq] at hr;obtain ⟨rfl,rfl⟩:=hr
   refine an aa [3,1] 1 rfl rfl rfl rfl rfl rfl ?_ ?_
   all_goals first|rfl|(simp [ay];done)|(simp [ay];omega)
  have hc4':=hc4;try simp only [bu,bU] at hc4'
  refine cZ ?_
  refine bh ?_
  refine then_ok ?_
  refine au ?_
  refine aA (aL rfl rfl rfl (aJ (by first|omega|(simp;done)|(simp;omega)))) rfl ?_
  refine ad aa 1 rfl ?_
  refine af ?_
  refine ⟨q+1,⟨by omega,by omega,by omega⟩,by first|omega|(simp;done)|(simp;omega),aF.bW id (by refine ⟨?_,?_,?_,?_,?_,?_,?_,trivial⟩<;>first|rfl|(simp only [bm];done)|(congr 3;omega)|(congr 4;omega)|(simp only [bn];rfl)) (by refine ⟨?_,?_,?_,trivial⟩<;>first|rfl|(simp only [bm];done)|(congr 3;omega)|(congr 4;omega)|(simp only [bn];rfl)) rfl⟩
 have hc2':=of_decide_eq_false hc2
 refine cj ?_
 refine aP ?_
 refine aP ?_
 refine bK ?_
 refine then_ok ?_
 refine aH aa 1 rfl ?_
 refine aN 4 [3,2,1,0] (bQ 3 (sY c (by first|assumption|omega)) EB rfl rfl ⟨⟨_,rfl,.g ⟨.d _,.d _,.d _,.d _,.d _,.d _,trivial⟩⟩,trivial⟩ ⟨trivial,trivial,trivial,trivial,trivial,trivial,trivial⟩ ⟨(fun _ _ _ _=>trivial),trivial⟩ rfl rfl rfl rfl) rfl ?_
 refine ad aa 1 rfl ?_
 refine af ?_
 refine aH aa 3 rfl ?_
 refine aA (aL rfl rfl rfl (aJ (by first|omega|(simp;done)|(simp;omega)))) rfl ?_
 refine ad aa 2 rfl ?_
 refine af ?_
 refine aH aa 3 rfl ?_
 refine aA (aL rfl rfl rfl (aJ (by first|omega|(simp;done)|(simp;omega)))) rfl ?_
 refine ad aa 2 rfl ?_
 refine af ?_
 refine ag ?_
 refine aH aa 1 rfl ?_
 obtain ⟨e1,hr1⟩:∃ (e1:Int),cA (⟨c.bx+bx,c.held+held,c.ch,c.cO⟩:bE)=e1:=⟨_,rfl⟩
 refine aN 4 [3,2,1,0] (ff 4 [3] (kE (⟨c.bx+bx,c.held+held,c.ch,c.cO⟩:bE) e1 hr1) zZ rfl rfl ⟨⟨_,rfl,.g ⟨.d _,.d _,.d _,.d _,.d _,.s rfl (by decide) (by first|omega|(simp;done)|(simp;omega)),trivial⟩⟩,trivial⟩ rfl trivial rfl rfl rfl rfl) rfl ?_
 refine ad aa 1 rfl ?_
 refine af ?_
 refine ae aa 2 rfl ?_
 refine ah rfl (fun hc5=>?_) (fun hc5=>?_)
 ·
  have hc5':=of_decide_eq_true hc5
  refine ae aa 3 rfl ?_
  refine az ?_
  refine aq ?_
  refine cp 1 5 125 2 rfl rfl rfl ?_
  have hX:ec c held bx=((⟨0,0,(⟨0,0,0⟩:dw),([]:List db)⟩:bE),10):=by
    unfold ec;rw [if_neg (by omega),if_neg (by omega),if_pos (by first|omega|(intro hz;have hy:=gO hz;dsimp only at hy;omega))];rfl
  rw [hX] at hr;clear hX
  simp only [Prod.mk.injEq] at hr;obtain ⟨rfl,rfl⟩:=hr
  refine an aa [4,1] 1 rfl rfl rfl rfl rfl rfl ?_ ?_
  all_goals first|rfl|(simp [ay];done)|(simp [ay];omega)
 have hc5':=of_decide_eq_false hc5
 refine aQ ?_
 refine ae aa 3 rfl ?_
 refine az ?_
 have hX:ec c held bx=((⟨c.bx+bx,c.held+held,c.ch,c.cO⟩:bE),0):=by
   unfold ec;rw [if_neg (by omega),if_neg (by omega),if_neg (by first|omega|(have hz:=qf (c:=⟨c.bx+bx,c.held+held,c.ch,c.cO⟩) (by dsimp only;omega) (hrc (by omega)).2.2.2.2.1 (hrc (by omega)).2.2.2.2.2;omega))]
 rw [hX] at hr;clear hX
 simp only [Prod.mk.injEq] at hr;obtain ⟨rfl,rfl⟩:=hr
 refine an aa [3,1] 1 rfl rfl rfl rfl rfl rfl ?_ ?_
 all_goals first|rfl|(simp [ay];done)|(simp [ay];omega)

theorem rR (l:List aT) (fn:FuncId) (bj:List (List D)) (pr:aT->Bool) (hp:∀ x:aT,Fn Try.prog fn ([.g [cI x.number,cI x.kind,cI x.bc,cI x.sum]]++bj.map fun r=>GV.c (.q r 0)) (aB (pr x)) []) (hen:bl Try.prog fn) (r:Int) (hr:im pr l=r):Fn Try.prog 113 [(.c (dn l)),(.c (.d (.f fn bj)))] (.v (.c (cI r))) []:=by
 refine Fn.mk' 19 [(0,(aC (dn l))),(1,(aC (.d (.f fn bj))))] Try.func113 rfl rfl rfl rfl ?_
 intro W0 T0
 refine dr 0 rfl (fun hlen0=>?_)
 refine ae aa 1 rfl ?_
 refine ag ?_
 refine aH aa 1 rfl ?_
 refine aA (cM rfl rfl rfl rfl rfl Try.underlying32) rfl ?_
 refine ad aa 1 rfl ?_
 refine af ?_
 refine aX ?_
 refine cw (β:=Nat) (fun (q:Nat)=>⟨[(0,(aC (dn l))),(1,(aC (.d (.f fn bj)))),(7,(aI (↑l.length:Int))),(8,(aI (↑q:Int)))],[],0⟩) (fun (q:Nat)=>q<=l.length/\(l.take q).all (fun y=>!pr y)=true) (fun (q:Nat)=>l.length - q) 0 ?_ ?_ ?_
 ·exact ⟨by omega,by simp⟩
 ·exact aF.bW id (by refine ⟨?_,?_,?_,?_,trivial⟩<;>first|rfl|(simp only [bm];done)|(congr 3;omega)|(congr 4;omega)|(simp only [bn];rfl)) (trivial) rfl
 rintro q ⟨hi0_0,hi0_1⟩
 refine ae aa 1 rfl ?_
 refine ag ?_
 refine ah rfl (fun hc1=>?_) (fun hc1=>?_)
 ·
  have hc1':=of_decide_eq_true hc1
  refine aQ ?_
  refine ag ?_
  refine aX ?_
  refine ae aa 2 rfl ?_
  refine aH aa 3 rfl ?_
  obtain ⟨x1,hx1⟩:=ck (xs:=l) (i:=q) (by first|omega|(simp;done)|(simp;omega))
  refine aA (cH (i:=q) rfl rfl rfl Try.underlying32 na (by first|omega|(simp;done)|(simp;omega)) (bw hx1)) rfl ?_
  refine ad aa 1 rfl ?_
  refine aA (gW 0 (hp x1) hen rfl rfl rfl ⟨⟨_,rfl,.g ⟨.d _,.d _,.d _,.d _,trivial⟩⟩,trivial⟩ trivial trivial rfl rfl rfl rfl) rfl ?_
  refine af ?_
  refine ah rfl (fun hc2=>?_) (fun hc2=>?_)
  ·
   have hc2':=hc2;try simp only [bu,bU] at hc2'
   refine ae aa 2 rfl ?_
   refine az ?_
   refine bp ?_
   refine aq ?_
   refine aq ?_
   refine bp ?_
   refine aq ?_
   have hX:im pr l=(↑q:Int):=by
     exact uW hi0_1 hx1 hc2
   rw [hX] at hr;clear hX
   subst hr
   refine an aa [] 0 rfl rfl rfl rfl rfl rfl ?_ ?_
   all_goals first|rfl|(simp [ay];done)|(simp [ay];omega)
  have hc2':=hc2;try simp only [bu,bU] at hc2'
  refine cZ ?_
  refine bh ?_
  refine then_ok ?_
  refine au ?_
  refine aA (aL rfl rfl rfl (aJ (by first|omega|(simp;done)|(simp;omega)))) rfl ?_
  refine ad aa 1 rfl ?_
  refine af ?_
  refine ⟨q+1,⟨by omega,xH hi0_1 hx1 hc2⟩,by first|omega|(simp;done)|(simp;omega),aF.bW id (by refine ⟨?_,?_,?_,?_,trivial⟩<;>first|rfl|(simp only [bm];done)|(congr 3;omega)|(congr 4;omega)|(simp only [bn];rfl)) (trivial) rfl⟩
 have hc1':=of_decide_eq_false hc1
 refine cj ?_
 refine aP ?_
 refine aP ?_
 refine bK ?_
 refine then_ok ?_
 refine ae aa 1 rfl ?_
 refine az ?_
 have hX:im pr l=(-1):=by
   exact wQ (by rw [<-List.take_of_length_le (l:=l) (i:=q) (by omega)];exact hi0_1)
 rw [hX] at hr;clear hX
 subst hr
 refine an aa [] 0 rfl rfl rfl rfl rfl rfl ?_ ?_
 all_goals first|rfl|(simp [ay];done)|(simp [ay];omega)
theorem qy (l:List aT) (fn:FuncId) (bj:List (List D)) (pr:aT->Bool) (hp:∀ x:aT,Fn Try.prog fn ([.g [cI x.number,cI x.kind,cI x.bc,cI x.sum]]++bj.map fun r=>GV.c (.q r 0)) (aB (pr x)) []) (hen:bl Try.prog fn) (r:List aT) (hr:dC pr l=r):cJ Try.prog 105 [(.c (.s 0 0 4 l.length)),(.c (.d (.f fn bj)))] [(0,(zg l))] [] (.v (.c (.s 0 0 4 r.length))) [(0,(zg r))]:=by
 refine cJ.mk 42 [(0,(aC (.s 0 0 4 l.length))),(1,(aC (.d (.f fn bj))))] 1 Try.func105 rfl rfl rfl rfl rfl rfl rfl rfl rfl ?_
 intro W0 F0 T0 pg
 refine gn 0 rfl (fun hlen0=>?_)
 have hic:=uX pr l
 have hib:im pr l<=l.length/\-1<=im pr l:=by rcases hic with ⟨h,_⟩|⟨i,h,h1,_⟩<;>omega
 refine ae aa 1 rfl ?_
 refine aH aa 2 rfl ?_
 obtain ⟨r0,hr0⟩:∃ (r0:Int),im pr l=r0:=⟨_,rfl⟩
 refine aN 1 [0] (ff 1 [0] (rR l fn bj pr hp hen r0 hr0) HU rfl rfl ⟨⟨_,rfl,.c (.s rfl (by decide) (by first|omega|(simp;done)|(simp;omega)))⟩,⟨_,rfl,.c (.d _)⟩,trivial⟩ rfl trivial rfl rfl rfl rfl) rfl ?_
 refine ad aa 1 rfl ?_
 refine af ?_
 refine ag ?_
 refine ae aa 2 rfl ?_
 refine ah rfl (fun hc1=>?_) (fun hc1=>?_)
 ·
  have hc1':=of_decide_eq_true hc1
  refine ae aa 2 rfl ?_
  refine az ?_
  refine aq ?_
  have hX:dC pr l=l:=by
    rcases hic with ⟨_,h⟩|⟨i0,h,_⟩
    ·exact h
    ·exfalso;omega
  rw [hX] at hr;clear hX
  subst hr
  refine an aa [0] 1 rfl rfl rfl rfl rfl rfl ?_ ?_
  all_goals first|rfl|(simp [ay];done)|(simp [ay];omega)
 have hc1':=of_decide_eq_false hc1
 refine aQ ?_
 refine ag ?_
 refine aH aa 1 rfl ?_
 refine aA (aL rfl rfl rfl (aJ (by first|omega|(simp;done)|(simp;omega)))) rfl ?_
 refine ad aa 1 rfl ?_
 refine af ?_
 refine aX ?_
 obtain ⟨i0,hi0,hil,x0,hx0,hp0,hk0⟩:∃ i:Nat,im pr l=i/\i < l.length/\∃ x,l[i]?=some x/\pr x=true/\dC pr (l.take i)=l.take i:=by
     rcases hic with ⟨h,_⟩|h
     ·exfalso;omega
     ·exact h
 obtain rfl:r0=(i0:Int):=by omega
 refine cw (β:=Nat×Nat×List aT) (fun (p:Nat×Nat×List aT)=>match p with|(j,i,c)=>⟨[(0,(aC (.s 0 0 4 l.length))),(1,(aC (.d (.f fn bj)))),(4,(aC cN)),(5,(aI (↑i:Int))),(6,(aI (↑j:Int)))],[(0,(zg c))],1⟩) (fun (p:Nat×Nat×List aT)=>match p with|(j,i,c)=>lP pr l c i j) (fun (p:Nat×Nat×List aT)=>match p with|(j,i,c)=>l.length - j) (i0+1,i0,l) ?_ ?_ ?_
 ·exact lP.start hx0 hp0 hk0
 ·exact aF.bW id (by refine ⟨?_,?_,?_,?_,?_,trivial⟩<;>first|rfl|(simp only [bm];done)|(congr 3;omega)|(congr 4;omega)|(simp only [bn];rfl)) (⟨by first|rfl|(simp only [bm];done)|(congr 3;omega)|(congr 4;omega)|(simp only [bn];rfl),trivial⟩) rfl
 rintro ⟨j,i,c⟩ hd
 have hdl:=hd.len;have hdi:=hd.ij;have hdj:=hd.jl
 refine ag ?_
 refine aH aa 2 rfl ?_
 refine aA (dz rfl rfl rfl rfl rfl Try.underlying32) rfl ?_
 refine ad aa 1 rfl ?_
 refine af ?_
 refine ah rfl (fun hc2=>?_) (fun hc2=>?_)
 ·
  have hc2':=of_decide_eq_true hc2
  refine aQ ?_
  refine ag ?_
  refine aX ?_
  refine aH aa 2 rfl ?_
  refine aA (bA (i:=j) rfl rfl rfl Try.underlying32 na (by first|omega|(simp;done)|(simp;omega)) (by first|omega|(simp;done)|(simp;omega))) rfl ?_
  obtain ⟨x1,hx1⟩:=ck (xs:=c) (i:=j) (by first|omega|(simp;done)|(simp;omega))
  refine aA (dm rfl rfl rfl Try.underlying80 rfl na (bw hx1) rfl) rfl ?_
  refine ad aa 2 rfl ?_
  refine af ?_
  refine aH aa 2 rfl ?_
  refine aA (gW 2 (hp x1) hen rfl rfl rfl ⟨⟨_,rfl,.g ⟨.d _,.d _,.d _,.d _,trivial⟩⟩,trivial⟩ trivial trivial rfl rfl rfl rfl) rfl ?_
  refine ad aa 1 rfl ?_
  refine af ?_
  refine ah rfl (fun hc3=>?_) (fun hc3=>?_)
  ·
   have hc3':=hc3;try simp only [bu,bU] at hc3'
   refine aH aa 3 rfl ?_
   refine aA (bA (i:=i) rfl rfl rfl Try.underlying32 na (by first|omega|(simp;done)|(simp;omega)) (by first|omega|(simp;done)|(simp;omega))) rfl ?_
   obtain ⟨x2,hx2⟩:=ck (xs:=c) (i:=i) (by first|omega|(simp;done)|(simp;omega))
   refine gI [1,0] (dU (ds:=[(dI x1.number),(dI x1.kind),(dI x1.bc),(dI x1.sum)]) rfl rfl rfl rfl rfl na rfl (Nat.le_of_ble_eq_true rfl) (bw hx2) rfl (eZ (x':=x1) rfl)) rfl ?_
   refine af ?_
   refine au ?_
   refine ad aa 1 rfl ?_
   refine aA (aL rfl rfl rfl (aJ (by first|omega|(simp;done)|(simp;omega)))) rfl ?_
   refine ad aa 1 rfl ?_
   refine bY ?_
   refine bh ?_
   refine then_ok ?_
   refine au ?_
   refine ad aa 1 rfl ?_
   refine aA (aL rfl rfl rfl (aJ (by first|omega|(simp;done)|(simp;omega)))) rfl ?_
   refine ad aa 1 rfl ?_
   refine af ?_
   refine ⟨(j+1,(i)+1,(c).set i x1),hd.cK hx1 (by simpa using hc3),by first|omega|(simp;done)|(simp;omega),aF.bW id (by refine ⟨?_,?_,?_,?_,?_,trivial⟩<;>first|rfl|(simp only [bm];done)|(congr 3;omega)|(congr 4;omega)|(simp only [bn];rfl)) (⟨by first|rfl|(simp only [bm];done)|(congr 3;omega)|(congr 4;omega)|(simp only [bn];rfl),trivial⟩) rfl⟩
  have hc3':=hc3;try simp only [bu,bU] at hc3'
  refine cZ ?_
  refine bh ?_
  refine then_ok ?_
  refine au ?_
  refine ad aa 1 rfl ?_
  refine aA (aL rfl rfl rfl (aJ (by first|omega|(simp;done)|(simp;omega)))) rfl ?_
  refine ad aa 1 rfl ?_
  refine af ?_
  refine ⟨(j+1,i,c),hd.skip hx1 (by simpa using hc3),by first|omega|(simp;done)|(simp;omega),aF.bW id (by refine ⟨?_,?_,?_,?_,?_,trivial⟩<;>first|rfl|(simp only [bm];done)|(congr 3;omega)|(congr 4;omega)|(simp only [bn];rfl)) (⟨by first|rfl|(simp only [bm];done)|(congr 3;omega)|(congr 4;omega)|(simp only [bn];rfl),trivial⟩) rfl⟩
 have hc2':=of_decide_eq_false hc2
 refine cj ?_
 refine aP ?_
 refine aP ?_
 refine bK ?_
 refine then_ok ?_
 refine aH aa 2 rfl ?_
 refine aA (ot (l:=i) (h:=l.length) rfl Try.underlying32 na rfl (.inr ⟨_,rfl,rfl⟩) (.inl ⟨rfl,rfl⟩) (by first|omega|(simp;done)|(simp;omega)) (by first|omega|(simp;done)|(simp;omega)) (by first|omega|(simp;done)|(simp;omega)) rfl) rfl ?_
 refine gI [0] (tT (rows':=(c.take i).map fO) wc It rfl rfl rfl rfl rfl rfl rfl rfl rfl (by simp [List.map_take])) rfl ?_
 refine af ?_
 refine aH aa 2 rfl ?_
 refine aA (ot (l:=0) (h:=i) rfl Try.underlying32 na rfl (.inl ⟨rfl,rfl⟩) (.inr ⟨_,rfl,rfl⟩) (by first|omega|(simp;done)|(simp;omega)) (by first|omega|(simp;done)|(simp;omega)) (by first|omega|(simp;done)|(simp;omega)) rfl) rfl ?_
 refine ad aa 1 rfl ?_
 refine af ?_
 refine az ?_
 have hX:dC pr l=(c.take i):=by
   have hdone:=hd.done (by omega)
   rw [<-hdone]
 rw [hX] at hr;clear hX
 subst hr
 refine an aa [0] 1 rfl rfl rfl rfl rfl rfl ?_ ?_
 all_goals first|rfl|(simp [ay];done)|(simp [ay];omega)


theorem kR {s : bX} {t : aT} (hI : ∀ t ∈ s.kept, gi t.number) (h : 0 ≤ s.bL ∧ s.bL ≤ 1000000) : ∀ u ∈ s.kept ++ [(⟨s.bL + 1, t.kind, t.bc, t.sum⟩ : aT)], gi u.number := by
  intro u hu
  rcases List.mem_append.1 hu with hu | hu
  · exact hI u hu
  · have : u = ⟨s.bL + 1, t.kind, t.bc, t.sum⟩ := by simpa using hu
    subst this; unfold gi; dsimp only; omega
theorem jT {s x:bX} {seen e:Int} (hI:∀ t∈s.kept,gi t.number) (h:dT s seen=(x,e)):∀ u∈x.kept,gi u.number:=by
  intro u hu
  rcases qt h with ⟨_,rfl⟩|⟨_,_,_,_,rfl⟩
  ·simp [yH] at hu
  ·exact hI u (kP hu)

theorem mw (s:bX) (hI:∀ t∈s.kept,gi t.number) (f:dc) (hr:ct s=f):Fn Try.prog 29 [(.g [(cI s.bL),(dn s.kept)])] (.v (.g [(cI f.err),(cI f.at_)])) []:=by
 refine Fn.mk' 79 [(0,(aG [(cI s.bL),(dn s.kept)]))] Try.func29 rfl rfl rfl rfl ?_
 intro W0 T0
 refine fE 0 1 rfl rfl (fun hlen0_1=>?_)
 refine ae aa 2 rfl ?_
 refine ag ?_
 refine aH aa 2 rfl ?_
 refine aA (cM rfl rfl rfl rfl rfl Try.underlying32) rfl ?_
 refine ad aa 1 rfl ?_
 refine af ?_
 refine ah rfl (fun hc1=>?_) (fun hc1=>?_)
 ·
  have hc1':=of_decide_eq_true hc1
  refine ae aa 2 rfl ?_
  refine az ?_
  refine aq ?_
  have hX:ct s=(⟨5,0⟩:dc):=by
    unfold ct kh;rw [if_pos (by omega)]
  rw [hX] at hr;clear hX
  subst hr
  refine an aa [1] 0 rfl rfl rfl rfl rfl rfl ?_ ?_
  all_goals first|rfl|(simp [ay];done)|(simp [ay];omega)
 have hc1':=of_decide_eq_false hc1
 refine aQ ?_
 refine ag ?_
 refine cx 20 ((decide (s.bL < (↑s.kept.length:Int)))||(decide (s.bL > 1000000))) ?_ ?_
 ·
  refine au ?_
  refine ad aa 4 rfl ?_
  refine aA (cM rfl rfl rfl rfl rfl Try.underlying32) rfl ?_
  refine ad aa 2 rfl ?_
  refine bI (t:=16) rfl (fun hb2=>?_) (fun hb2=>?_)
  ·
   have hb2':=of_decide_eq_true hb2
   refine ad aa 4 rfl ?_
   refine af ?_
   exact aF.bH 12 rfl rfl (by first|(simp [hb2];done)|(simp_all;done)|(exfalso;simp_all;done)|(simp_all;omega)) rfl
  have hb2':=of_decide_eq_false hb2
  refine ad aa 4 rfl ?_
  refine af ?_
  exact aF.bH 12 rfl rfl (by first|(simp [hb2];done)|(simp_all;done)|(exfalso;simp_all;done)|(simp_all;omega)) rfl
 refine ah rfl (fun hc3=>?_) (fun hc3=>?_)
 ·
  have hc3':=hc3;try simp only [bu,bU] at hc3'
  refine ae aa 2 rfl ?_
  refine az ?_
  refine aq ?_
  have hX:ct s=(⟨3,0⟩:dc):=by
    unfold ct kh;rw [if_neg (by omega),if_pos (by omega)]
  rw [hX] at hr;clear hX
  subst hr
  refine an aa [1] 0 rfl rfl rfl rfl rfl rfl ?_ ?_
  all_goals first|rfl|(simp [ay];done)|(simp [ay];omega)
 have hc3':=hc3;try simp only [bu,bU] at hc3'
 refine aQ ?_
 refine ag ?_
 refine aH aa 2 rfl ?_
 refine aA (cM rfl rfl rfl rfl rfl Try.underlying32) rfl ?_
 refine ad aa 1 rfl ?_
 refine af ?_
 refine aX ?_
 refine cw (β:=Nat) (fun (q:Nat)=>⟨[(1,(aC (.p 0 0 0 0))),(2,(aC (.p 1 0 0 0))),(23,(aC (dn s.kept))),(24,(aI (↑s.kept.length:Int))),(25,(aI (↑q:Int)))],[(1,(.box 50 [(cI 0),(cI 0)])),(0,(.box 34 [(cI s.bL),(dn s.kept)]))],2⟩) (fun (q:Nat)=>q<=s.kept.length/\scan (mZ s) 0 s.kept.length=scan (mZ s) q (s.kept.length - q)) (fun (q:Nat)=>s.kept.length - q) 0 ?_ ?_ ?_
 ·exact ⟨by omega,rfl⟩
 ·exact aF.bW id (by refine ⟨?_,?_,?_,?_,?_,trivial⟩<;>first|rfl|(simp only [bm];done)|(congr 3;omega)|(congr 4;omega)|(simp only [bn];rfl)) (by refine ⟨?_,?_,trivial⟩<;>first|rfl|(simp only [bm];done)|(congr 3;omega)|(congr 4;omega)|(simp only [bn];rfl)) rfl
 rintro q ⟨hi0_0,hi0_1⟩
 refine ae aa 1 rfl ?_
 refine ag ?_
 refine ah rfl (fun hc4=>?_) (fun hc4=>?_)
 ·
  have hc4':=of_decide_eq_true hc4
  refine aQ ?_
  refine ag ?_
  refine aX ?_
  refine aH aa 1 rfl ?_
  obtain ⟨x1,hx1⟩:=ck (xs:=s.kept) (i:=q) (by first|omega|(simp;done)|(simp;omega))
  have hx1b:=hI x1 (List.mem_of_getElem? hx1)
  unfold gi at hx1b
  refine aA (cH (i:=q) rfl rfl rfl Try.underlying32 na (by first|omega|(simp;done)|(simp;omega)) (bw hx1)) rfl ?_
  refine ad aa 4 rfl ?_
  refine af ?_
  refine aX ?_
  refine cx 30 ((decide (x1.kind < 1))||(decide (x1.kind > 3))) ?_ ?_
  ·
   refine au ?_
   refine ad aa 4 rfl ?_
   refine bI (t:=34) rfl (fun hb5=>?_) (fun hb5=>?_)
   ·
    have hb5':=of_decide_eq_true hb5
    refine ad aa 5 rfl ?_
    refine af ?_
    exact aF.bH 10 rfl rfl (by first|(simp [hb5];done)|(simp_all;done)|(exfalso;simp_all;done)|(simp_all;omega)) rfl
   have hb5':=of_decide_eq_false hb5
   refine ad aa 5 rfl ?_
   refine af ?_
   exact aF.bH 10 rfl rfl (by first|(simp [hb5];done)|(simp_all;done)|(exfalso;simp_all;done)|(simp_all;omega)) rfl
  refine ah rfl (fun hc6=>?_) (fun hc6=>?_)
  ·
   have hc6':=hc6;try simp only [bu,bU] at hc6'
   refine ae aa 3 rfl ?_
   refine az ?_
   refine bp ?_
   refine bp ?_
   refine aq ?_
   refine aq ?_
   refine bp ?_
   refine aq ?_
   have hX:ct s=(⟨1,(↑q:Int)⟩:dc):=by
     unfold ct kh;rw [if_neg (by omega),if_neg (by omega),hi0_1,iJ (c:=1) (by omega) (by unfold mZ;simp only [hx1];rw [if_pos (by omega)]) (by decide)]
   rw [hX] at hr;clear hX
   subst hr
   refine an aa [1] 0 rfl rfl rfl rfl rfl rfl ?_ ?_
   all_goals first|rfl|(simp [ay];done)|(simp [ay];omega)
  have hc6':=hc6;try simp only [bu,bU] at hc6'
  refine cx 41 ((((decide (x1.bc < 0))||(decide (x1.bc>=30)))||(decide (x1.sum < 1)))||(decide (x1.sum > 1000000))) ?_ ?_
  ·
   refine au ?_
   refine ad aa 4 rfl ?_
   refine bI (t:=45) rfl (fun hb7=>?_) (fun hb7=>?_)
   ·
    have hb7':=of_decide_eq_true hb7
    refine ad aa 15 rfl ?_
    refine af ?_
    exact aF.bH 20 rfl rfl (by first|(simp [hb7];done)|(simp_all;done)|(exfalso;simp_all;done)|(simp_all;omega)) rfl
   have hb7':=of_decide_eq_false hb7
   refine ad aa 5 rfl ?_
   refine bI (t:=50) rfl (fun hb8=>?_) (fun hb8=>?_)
   ·
    have hb8':=of_decide_eq_true hb8
    refine ad aa 10 rfl ?_
    refine af ?_
    exact aF.bH 21 rfl rfl (by first|(simp [hb7,hb8];done)|(simp_all;done)|(exfalso;simp_all;done)|(simp_all;omega)) rfl
   have hb8':=of_decide_eq_false hb8
   refine ad aa 5 rfl ?_
   refine bI (t:=55) rfl (fun hb9=>?_) (fun hb9=>?_)
   ·
    have hb9':=of_decide_eq_true hb9
    refine ad aa 5 rfl ?_
    refine af ?_
    exact aF.bH 22 rfl rfl (by first|(simp [hb7,hb8,hb9];done)|(simp_all;done)|(exfalso;simp_all;done)|(simp_all;omega)) rfl
   have hb9':=of_decide_eq_false hb9
   refine ad aa 5 rfl ?_
   refine af ?_
   exact aF.bH 22 rfl rfl (by first|(simp [hb7,hb8,hb9];done)|(simp_all;done)|(exfalso;simp_all;done)|(simp_all;omega)) rfl
  refine ah rfl (fun hc10=>?_) (fun hc10=>?_)
  ·
   have hc10':=hc10;try simp only [bu,bU] at hc10'
   refine ae aa 3 rfl ?_
   refine az ?_
   refine bp ?_
   refine bp ?_
   refine aq ?_
   refine aq ?_
   refine bp ?_
   refine aq ?_
   have hX:ct s=(⟨3,(↑q:Int)⟩:dc):=by
     unfold ct kh;rw [if_neg (by omega),if_neg (by omega),hi0_1,iJ (c:=3) (by omega) (by unfold mZ;simp only [hx1];rw [if_neg (by omega),if_pos (by omega)]) (by decide)]
   rw [hX] at hr;clear hX
   subst hr
   refine an aa [1] 0 rfl rfl rfl rfl rfl rfl ?_ ?_
   all_goals first|rfl|(simp [ay];done)|(simp [ay];omega)
  have hc10':=hc10;try simp only [bu,bU] at hc10'
  refine aH aa 6 rfl ?_
  refine aA (cM rfl rfl rfl rfl rfl Try.underlying32) rfl ?_
  refine aA (aL rfl rfl rfl (aJ (by first|omega|(simp;done)|(simp;omega)))) rfl ?_
  refine aA (aL rfl rfl rfl (aJ (by first|omega|(simp;done)|(simp;omega)))) rfl ?_
  refine ad aa 1 rfl ?_
  refine aA (aL rfl rfl rfl (aJ (by first|omega|(simp;done)|(simp;omega)))) rfl ?_
  refine ad aa 2 rfl ?_
  refine af ?_
  refine ah rfl (fun hc11=>?_) (fun hc11=>?_)
  ·
   have hc11':=of_decide_eq_true hc11
   refine ae aa 3 rfl ?_
   refine az ?_
   refine bp ?_
   refine bp ?_
   refine aq ?_
   refine aq ?_
   refine bp ?_
   refine aq ?_
   have hX:ct s=(⟨2,(↑q:Int)⟩:dc):=by
     unfold ct kh;rw [if_neg (by omega),if_neg (by omega),hi0_1,iJ (c:=2) (by omega) (by unfold mZ;simp only [hx1];rw [if_neg (by omega),if_neg (by omega),if_pos (by omega)]) (by decide)]
   rw [hX] at hr;clear hX
   subst hr
   refine an aa [1] 0 rfl rfl rfl rfl rfl rfl ?_ ?_
   all_goals first|rfl|(simp [ay];done)|(simp [ay];omega)
  have hc11':=of_decide_eq_false hc11
  refine cZ ?_
  refine bh ?_
  refine bh ?_
  refine then_ok ?_
  refine au ?_
  refine aA (aL rfl rfl rfl (aJ (by first|omega|(simp;done)|(simp;omega)))) rfl ?_
  refine ad aa 1 rfl ?_
  refine af ?_
  refine ⟨q+1,⟨by omega,by rw [hi0_1];exact nw (by omega) (by unfold mZ;simp only [hx1];rw [if_neg (by omega),if_neg (by omega),if_neg (by omega)])⟩,by first|omega|(simp;done)|(simp;omega),aF.bW id (by refine ⟨?_,?_,?_,?_,?_,trivial⟩<;>first|rfl|(simp only [bm];done)|(congr 3;omega)|(congr 4;omega)|(simp only [bn];rfl)) (by refine ⟨?_,?_,trivial⟩<;>first|rfl|(simp only [bm];done)|(congr 3;omega)|(congr 4;omega)|(simp only [bn];rfl)) rfl⟩
 have hc4':=of_decide_eq_false hc4
 refine cj ?_
 refine aP ?_
 refine aP ?_
 refine bK ?_
 refine then_ok ?_
 refine ae aa 2 rfl ?_
 refine az ?_
 have hX:ct s=(⟨0,0⟩:dc):=by
   unfold ct kh;rw [if_neg (by omega),if_neg (by omega),hi0_1,nU (by omega)]
 rw [hX] at hr;clear hX
 subst hr
 refine an aa [1] 0 rfl rfl rfl rfl rfl rfl ?_ ?_
 all_goals first|rfl|(simp [ay];done)|(simp [ay];omega)

theorem sX (s:bX) (t:aT) (hI:∀ t∈s.kept,gi t.number) (x:bX) (e:Int) (hr:fL s t=(x,e)):Fn Try.prog 103 [(.g [(cI s.bL),(dn s.kept)]),(.g [(cI t.number),(cI t.kind),(cI t.bc),(cI t.sum)])] (.t [(.g [(cI x.bL),(.s 0 0 4 x.kept.length)]),(.c (cI e))]) [(0,(zg x.kept))]:=by
 refine Fn.mk' 40 [(0,(aG [(cI s.bL),(dn s.kept)])),(1,(aG [(cI t.number),(cI t.kind),(cI t.bc),(cI t.sum)]))] Try.func103 rfl rfl rfl rfl ?_
 intro W0 T0
 refine fE 0 1 rfl rfl (fun hlen0_1=>?_)
 have hrs:=@lQ s
 refine ae aa 4 rfl ?_
 refine ag ?_
 refine aH aa 1 rfl ?_
 obtain ⟨f0,hr0⟩:∃ (f0:dc),ct s=f0:=⟨_,rfl⟩
 have hq0:(ct s).err=f0.err:=by rw [hr0]
 refine aN 3 [2,1,0] (bQ 3 (mw s (by first|assumption|exact kR (by assumption) (by omega)|exact jT (by assumption) (by assumption)|(simp [gi];done)) f0 hr0) DF rfl rfl ⟨⟨_,rfl,.g ⟨.d _,.d _,trivial⟩⟩,trivial⟩ ⟨trivial,trivial,trivial⟩ trivial rfl rfl rfl rfl) rfl ?_
 refine ad aa 2 rfl ?_
 refine af ?_
 refine ae aa 3 rfl ?_
 refine ah rfl (fun hc1=>?_) (fun hc1=>?_)
 ·
  have hc1':=of_decide_eq_true hc1
  refine ag ?_
  refine dg [2,3,4,6] [3,2,1,0] mixed rfl rfl ?_
  refine ca (kn:=[]) aa 5 rfl trivial ?_
  refine dX [2,3,4,5] [2,1,0] rfl rfl (by kernel_rfl) ?_
  refine then_ok ?_
  refine az ?_
  refine aq ?_
  refine cp 2 1 80 4 rfl rfl rfl ?_
  have hX:fL s t=((⟨0,([]:List aT)⟩:bX),f0.err):=by
    unfold fL;rw [if_pos (by omega),hr0];rfl
  rw [hX] at hr;clear hX
  simp only [Prod.mk.injEq] at hr;obtain ⟨rfl,rfl⟩:=hr
  refine an aa [4,2] 1 rfl rfl rfl rfl rfl rfl ?_ ?_
  all_goals first|rfl|(simp [ay];done)|(simp [ay];omega)
 have hc1':=of_decide_eq_false hc1
 refine aQ ?_
 refine aH aa 2 rfl ?_
 refine aA (aL rfl rfl rfl (aJ (by first|omega|(simp;done)|(simp;omega)))) rfl ?_
 refine ad aa 2 rfl ?_
 refine af ?_
 refine ag ?_
 refine ba [2,3,4] [2,1,0] mixed rfl rfl ?_
 refine aE (kn:=[]) aa 2 rfl trivial ?_
 refine aU (n':=4) [22] [] rfl rfl (.inl ⟨(ak.plain rfl),aM.cast (aL rfl rfl rfl (aJ (by first|omega|(simp;done)|(simp;omega)))) rfl⟩) rfl ?_
 refine aE (kn:=[]) aa 2 rfl trivial ?_
 refine aU (n':=5) [25] [] rfl rfl (.inl ⟨(ak.plain rfl),aM.cast (bQ 4 (my s.kept (by first|omega|(simp;done)|(simp;omega))) EC rfl rfl ⟨⟨_,rfl,.c (.d _)⟩,trivial⟩ trivial ⟨(fun _ _ _ _=>trivial),trivial⟩ rfl rfl rfl rfl) rfl⟩) rfl ?_
 refine aE (kn:=[]) aa 1 rfl trivial ?_
 refine aU (n':=6) [27] [] rfl rfl (.inl ⟨(ak.plain rfl),aM.cast (dy (ys:=[(0,(.g [(cI (s.bL+1)),(cI t.kind),(cI t.bc),(cI t.sum)]))]) (rows:=([(⟨s.bL+1,t.kind,t.bc,t.sum⟩:aT)]).map fO) 5 wc rfl (by decide) ⟨⟨rfl,rfl⟩,trivial⟩ rfl rfl rfl rfl) rfl⟩) rfl ?_
 refine aU (n':=7) [26,28] [5,4] rfl rfl (.inl ⟨(ak.plain rfl),aM.cast (cX (m:=1) (N:=s.kept.length+1) (k2:=6) (ys:=([(⟨s.bL+1,t.kind,t.bc,t.sum⟩:aT)]).map fO) wc rfl rfl rfl rfl rfl rfl (by first|omega|(simp;done)|(simp;omega)) rfl (.s rfl (by first|omega|(simp;done)|(simp;omega))) (by first|omega|(simp;done)|(simp;omega)) (by first|omega|(simp;done)|(simp;omega)) eH (by decide) (by first|omega|(simp;done)|(simp;omega)) (by first|omega|(simp;done)|(simp;omega))) rfl⟩) rfl ?_
 refine aE (n':=8) (kn:=[]) aa 2 rfl trivial ?_
 refine bC [7,6,2,1,0] rfl rfl rfl rfl (by kernel_rfl) ?_
 refine ad aa 1 rfl ?_
 refine af ?_
 refine ag ?_
 refine aH aa 1 rfl ?_
 obtain ⟨f1,hr1⟩:∃ (f1:dc),ct (⟨s.bL+1,s.kept++([(⟨s.bL+1,t.kind,t.bc,t.sum⟩:aT)])⟩:bX)=f1:=⟨_,rfl⟩
 have hq1:(ct (⟨s.bL+1,s.kept++([(⟨s.bL+1,t.kind,t.bc,t.sum⟩:aT)])⟩:bX)).err=f1.err:=by rw [hr1]
 refine aN 8 [7,6,2,1,0] (ff 8 [6] (mw (⟨s.bL+1,s.kept++([(⟨s.bL+1,t.kind,t.bc,t.sum⟩:aT)])⟩:bX) (by first|assumption|exact kR (by assumption) (by omega)|exact jT (by assumption) (by assumption)|(simp [gi];done)) f1 hr1) DF rfl rfl ⟨⟨_,rfl,.g ⟨.d _,.s rfl (by decide) (by first|omega|(simp;done)|(simp;omega)),trivial⟩⟩,trivial⟩ ⟨rfl,rfl,trivial⟩ trivial rfl rfl rfl rfl) rfl ?_
 refine ad aa 2 rfl ?_
 refine af ?_
 refine ae aa 3 rfl ?_
 refine ah rfl (fun hc2=>?_) (fun hc2=>?_)
 ·
  have hc2':=of_decide_eq_true hc2
  refine ag ?_
  refine dg [4,7,8] [8,7,6,2] mixed rfl rfl ?_
  refine ca (kn:=[]) aa 5 rfl trivial ?_
  refine dX [4,7,5] [2,7,6] rfl rfl (by kernel_rfl) ?_
  refine then_ok ?_
  refine az ?_
  refine aq ?_
  refine cp 2 1 80 4 rfl rfl rfl ?_
  have hX:fL s t=((⟨0,([]:List aT)⟩:bX),f1.err):=by
    have hout:ct (mm s t)=f1:=hr1
    unfold fL;rw [if_neg (by omega),if_pos (by rw [hout];omega),hout];rfl
  rw [hX] at hr;clear hX
  simp only [Prod.mk.injEq] at hr;obtain ⟨rfl,rfl⟩:=hr
  refine an aa [9,2] 1 rfl rfl rfl rfl rfl rfl ?_ ?_
  all_goals first|rfl|(simp [ay];done)|(simp [ay];omega)
 have hc2':=of_decide_eq_false hc2
 refine aQ ?_
 refine ae aa 3 rfl ?_
 refine az ?_
 have hX:fL s t=((⟨s.bL+1,s.kept++([(⟨s.bL+1,t.kind,t.bc,t.sum⟩:aT)])⟩:bX),0):=by
   have hout:ct (mm s t)=f1:=hr1
   unfold fL;rw [if_neg (by omega),if_neg (by rw [hout];omega)];rfl
 rw [hX] at hr;clear hX
 simp only [Prod.mk.injEq] at hr;obtain ⟨rfl,rfl⟩:=hr
 refine an aa [6,2] 1 rfl rfl rfl rfl rfl rfl ?_ ?_
 all_goals first|rfl|(simp [ay];done)|(simp [ay];omega)
theorem qR (seen:Int) (t:aT) (n:Int) (ok:Bool) (hr:fJ seen t=(n,ok)):Fn Try.prog 88 [(.c (cI seen)),(.g [(cI t.number),(cI t.kind),(cI t.bc),(cI t.sum)])] (.t [(.c (cI n)),(.c (cB ok))]) []:=by
 refine Fn.mk' 22 [(0,(aI seen)),(1,(aG [(cI t.number),(cI t.kind),(cI t.bc),(cI t.sum)]))] Try.func88 rfl rfl rfl rfl ?_
 intro W0 T0
 refine ae aa 3 rfl ?_
 refine ag ?_
 refine cx 18 (((decide (seen < 0))||(decide (seen>=1000000)))||(decide (¬t.number=(seen+1)))) ?_ ?_
 ·
  refine au ?_
  refine ad aa 3 rfl ?_
  refine bI (t:=8) rfl (fun hb1=>?_) (fun hb1=>?_)
  ·
   have hb1':=of_decide_eq_true hb1
   refine ad aa 10 rfl ?_
   refine af ?_
   exact aF.bH 14 rfl rfl (by first|(simp [hb1];done)|(simp_all;done)|(exfalso;simp_all;done)|(simp_all;omega)) rfl
  have hb1':=of_decide_eq_false hb1
  refine ad aa 4 rfl ?_
  refine bI (t:=12) rfl (fun hb2=>?_) (fun hb2=>?_)
  ·
   have hb2':=of_decide_eq_true hb2
   refine ad aa 6 rfl ?_
   refine af ?_
   exact aF.bH 15 rfl rfl (by first|(simp [hb1,hb2];done)|(simp_all;done)|(exfalso;simp_all;done)|(simp_all;omega)) rfl
  have hb2':=of_decide_eq_false hb2
  refine ad aa 3 rfl ?_
  refine dQ (ak.yes rfl rfl rfl) (aL rfl rfl rfl (aJ (by first|omega|(simp;done)|(simp;omega)))) rfl rfl ?_
  refine ad aa 2 rfl ?_
  refine af ?_
  exact aF.bH 15 rfl rfl (by first|(simp [hb1,hb2];done)|(simp_all;done)|(exfalso;simp_all;done)|(simp_all;omega)) rfl
 refine ah rfl (fun hc3=>?_) (fun hc3=>?_)
 ·
  have hc3':=hc3;try simp only [bu,bU] at hc3'
  refine ae aa 3 rfl ?_
  refine az ?_
  refine aq ?_
  have hX:fJ seen t=(seen,false):=by
    (unfold fJ;try dsimp only);(repeat' split)<;>first|rfl|omega|(exfalso;omega)|(subst_vars;rfl)|(simp_all;done)|(simp_all;omega)
  rw [hX] at hr;clear hX
  simp only [Prod.mk.injEq] at hr;obtain ⟨rfl,rfl⟩:=hr
  refine an aa [] 0 rfl rfl rfl rfl rfl rfl ?_ ?_
  all_goals first|rfl|(simp [ay];done)|(simp [ay];omega)
 have hc3':=hc3;try simp only [bu,bU] at hc3'
 refine aQ ?_
 refine aH aa 1 rfl ?_
 refine aA (aL rfl rfl rfl (aJ (by first|omega|(simp;done)|(simp;omega)))) rfl ?_
 refine ad aa 2 rfl ?_
 refine af ?_
 refine az ?_
 have hX:fJ seen t=(seen+1,true):=by
   (unfold fJ;try dsimp only);(repeat' split)<;>first|rfl|omega|(exfalso;omega)|(subst_vars;rfl)|(simp_all;done)|(simp_all;omega)
 rw [hX] at hr;clear hX
 simp only [Prod.mk.injEq] at hr;obtain ⟨rfl,rfl⟩:=hr
 refine an aa [] 0 rfl rfl rfl rfl rfl rfl ?_ ?_
 all_goals first|rfl|(simp [ay];done)|(simp [ay];omega)

theorem FA (t:aT) (seen:Int):Fn Try.prog 107 [(.g [(cI t.number),(cI t.kind),(cI t.bc),(cI t.sum)]),(.c (.q ([dI seen]) 0))] (aB (came seen t)) []:=by
 refine Fn.mk' 8 [(0,(aG [(cI t.number),(cI t.kind),(cI t.bc),(cI t.sum)])),(1,(aC (.q ([dI seen]) 0)))] Try.func107 rfl rfl rfl rfl ?_
 intro W0 T0
 refine ae aa 2 rfl ?_
 refine ae aa 5 rfl ?_
 refine az ?_
 refine an aa [] 0 rfl rfl rfl rfl rfl rfl ?_ ?_
 all_goals first|rfl|(simp [ay];done)|(simp [ay];omega)
theorem qS (s:bX) (seen:Int) (hI:∀ t∈s.kept,gi t.number) (x:bX) (e:Int) (hr:dT s seen=(x,e)):Fn Try.prog 86 [(.g [(cI s.bL),(dn s.kept)]),(.c (cI seen))] (.t [(.g [(cI x.bL),(.s 0 0 4 x.kept.length)]),(.c (cI e))]) [(0,(zg x.kept))]:=by
 refine Fn.mk' 32 [(0,(aG [(cI s.bL),(dn s.kept)])),(1,(aI seen))] Try.func86 rfl rfl rfl rfl ?_
 intro W0 T0
 refine fE 0 1 rfl rfl (fun hlen0_1=>?_)
 have hrs:=@lQ s
 refine ae aa 4 rfl ?_
 refine ag ?_
 refine aH aa 1 rfl ?_
 obtain ⟨f0,hr0⟩:∃ (f0:dc),ct s=f0:=⟨_,rfl⟩
 have hq0:(ct s).err=f0.err:=by rw [hr0]
 refine aN 3 [2,1,0] (bQ 3 (mw s (by first|assumption|exact kR (by assumption) (by omega)|exact jT (by assumption) (by assumption)|(simp [gi];done)) f0 hr0) DF rfl rfl ⟨⟨_,rfl,.g ⟨.d _,.d _,trivial⟩⟩,trivial⟩ ⟨trivial,trivial,trivial⟩ trivial rfl rfl rfl rfl) rfl ?_
 refine ad aa 2 rfl ?_
 refine af ?_
 refine ae aa 3 rfl ?_
 refine ah rfl (fun hc1=>?_) (fun hc1=>?_)
 ·
  have hc1':=of_decide_eq_true hc1
  refine ag ?_
  refine dg [2,3,4,6] [3,2,1,0] mixed rfl rfl ?_
  refine ca (kn:=[]) aa 5 rfl trivial ?_
  refine dX [2,3,4,5] [2,1,0] rfl rfl (by kernel_rfl) ?_
  refine then_ok ?_
  refine az ?_
  refine aq ?_
  refine cp 2 1 80 4 rfl rfl rfl ?_
  have hX:dT s seen=((⟨0,([]:List aT)⟩:bX),f0.err):=by
    unfold dT;rw [if_pos (by omega),hr0];rfl
  rw [hX] at hr;clear hX
  simp only [Prod.mk.injEq] at hr;obtain ⟨rfl,rfl⟩:=hr
  refine an aa [4,2] 1 rfl rfl rfl rfl rfl rfl ?_ ?_
  all_goals first|rfl|(simp [ay];done)|(simp [ay];omega)
 have hc1':=of_decide_eq_false hc1
 refine aQ ?_
 refine ag ?_
 refine cx 22 ((decide (seen < 0))||(decide (seen > s.bL))) ?_ ?_
 ·
  refine au ?_
  refine ad aa 3 rfl ?_
  refine bI (t:=17) rfl (fun hb2=>?_) (fun hb2=>?_)
  ·
   have hb2':=of_decide_eq_true hb2
   refine ad aa 5 rfl ?_
   refine af ?_
   exact aF.bH 9 rfl rfl (by first|(simp [hb2];done)|(simp_all;done)|(exfalso;simp_all;done)|(simp_all;omega)) rfl
  have hb2':=of_decide_eq_false hb2
  refine ad aa 5 rfl ?_
  refine af ?_
  exact aF.bH 9 rfl rfl (by first|(simp [hb2];done)|(simp_all;done)|(exfalso;simp_all;done)|(simp_all;omega)) rfl
 refine ah rfl (fun hc3=>?_) (fun hc3=>?_)
 ·
  have hc3':=hc3;try simp only [bu,bU] at hc3'
  refine ae aa 3 rfl ?_
  refine az ?_
  refine aq ?_
  refine cp 2 1 80 4 rfl rfl rfl ?_
  have hX:dT s seen=((⟨0,([]:List aT)⟩:bX),3):=by
    unfold dT;rw [if_neg (by omega),if_pos (by omega)];rfl
  rw [hX] at hr;clear hX
  simp only [Prod.mk.injEq] at hr;obtain ⟨rfl,rfl⟩:=hr
  refine an aa [4,2] 1 rfl rfl rfl rfl rfl rfl ?_ ?_
  all_goals first|rfl|(simp [ay];done)|(simp [ay];omega)
 have hc3':=hc3;try simp only [bu,bU] at hc3'
 refine aQ ?_
 refine ag ?_
 obtain ⟨r1,hr1⟩:∃ (r1:List aT),dC (came seen) s.kept=r1:=⟨_,rfl⟩
 refine ba [2,3,4] [2,1,0] mixed rfl rfl ?_
 refine aE (kn:=[]) aa 4 rfl trivial ?_
 refine aU (n':=5) [27] [] rfl rfl (.inl ⟨(ak.plain rfl),aM.cast (bQ 4 (my s.kept (by first|omega|(simp;done)|(simp;omega))) EC rfl rfl ⟨⟨_,rfl,.c (.d _)⟩,trivial⟩ trivial ⟨(fun _ _ _ _=>trivial),trivial⟩ rfl rfl rfl rfl) rfl⟩) rfl ?_
 refine aU (n':=5) [3] [] rfl rfl (.inl ⟨(ak.plain rfl),aM.cast (wX (ks:=[1]) rfl ⟨rfl,trivial⟩) rfl⟩) rfl ?_
 refine aU (n':=6) [28,29] [1,4] rfl rfl (.inl ⟨(ak.plain rfl),aM.cast (wY (bd [4]) (bd [5]) [1] (qy s.kept 107 ([[(dI seen)]]) (came seen) (fun x=>FA x seen) HW r1 hr1) HX rfl rfl ⟨⟨_,rfl,.inl ⟨rfl,rfl⟩⟩,⟨_,rfl,.inr (.c (.fn ⟨⟨by decide,_,rfl⟩,trivial⟩))⟩,trivial⟩ ⟨rfl,trivial⟩ rfl rfl rfl rfl rfl rfl rfl rfl trivial ⟨(vv _),trivial⟩ rfl rfl rfl rfl) rfl⟩) rfl ?_
 refine aE (kn:=[]) aa 1 rfl trivial ?_
 refine bC [5,2,1,0] rfl rfl rfl rfl (by kernel_rfl) ?_
 refine ad aa 2 rfl ?_
 refine af ?_
 refine az ?_
 have hX:dT s seen=((⟨s.bL,r1⟩:bX),0):=by
   unfold dT;rw [if_neg (by omega),if_neg (by omega),hr1]
 rw [hX] at hr;clear hX
 simp only [Prod.mk.injEq] at hr;obtain ⟨rfl,rfl⟩:=hr
 refine an aa [5,2] 1 rfl rfl rfl rfl rfl rfl ?_ ?_
 all_goals first|rfl|(simp [ay];done)|(simp [ay];omega)
end Go.Proofs.Ytegepioggeggaaa.Dev
