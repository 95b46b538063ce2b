/- A part of the proof: Ref10, PlLaw1, PlLaw2, PlZ3, PlZ4, Ref11, LBankTells. No condition. -/
import Derived.Test.YtnfopdlnboeheaaGreatD15
set_option linter.unusedVariables false
set_option linter.unusedSimpArgs false
set_option maxHeartbeats 8000000
set_option maxRecDepth 100000
namespace Go.Proofs.YtnfopdlnboeheaaGreat.Dev
open Go.RowKit

theorem zq (s:Setup) (f:cM) (hr:eC s=f):Fn Tryz.prog 7 [(.g [(cR 3 ((s.cF).map gE)),(cI s.gp),(cI s.cap)])] (.v (.g [(cI f.err),(cI f.at_)])) []:=by
 refine Fn.mk' 47 [(0,(aG [(cR 3 ((s.cF).map gE)),(cI s.gp),(cI s.cap)]))] Tryz.func7 rfl rfl rfl rfl ?_
 intro W0 T0
 refine ck 0 0 rfl rfl (fun hlen0_0=>?_)
 refine ag 2 rfl (af (bQ 19 (((decide ((↑s.cF.length:Int) > 8))||(decide (s.gp < 0)))||(decide (s.gp > 8))) ?_ ?_))
 ·
  refine ah (ad 2 rfl (az (cD rfl rfl nd) rfl (ad 2 rfl (bz 10 rfl (fun hb1'=>?_) (fun hb1'=>?_)))))
  ·
   exact ad 9 rfl (ae (aq.pz 15 rfl))
  refine ad 5 rfl (bz 15 rfl (fun hb2'=>?_) (fun hb2'=>?_))
  ·
   exact ad 4 rfl (ae (aq.pz 16 rfl))
  exact ad 4 rfl (ae (aq.pz 16 rfl))
 refine ax rfl (fun hc3=>?_) (fun hc3=>?_)
 ·
  have hc3':=hc3;try simp only [aT,bx] at hc3'
  refine ag 2 rfl (al (aj ?_))
  have hX:eC s=(⟨5,0⟩:cM):=by
    unfold eC;rw [if_pos aa]
  rw [hX] at hr;clear hX
  subst hr
  exact bb [1] 0 rfl
 have hc3':=hc3;try simp only [aT,bx] at hc3'
 refine aD (af (bQ 28 ((decide (s.cap < 0))||(decide (s.cap > 1000000))) ?_ ?_))
 ·
  refine ah (ad 4 rfl (bz 24 rfl (fun hb4'=>?_) (fun hb4'=>?_)))
  ·
   exact ad 4 rfl (ae (aq.pz 9 rfl))
  exact ad 4 rfl (ae (aq.pz 9 rfl))
 refine ax rfl (fun hc5=>?_) (fun hc5=>?_)
 ·
  have hc5':=hc5;try simp only [aT,bx] at hc5'
  refine ag 2 rfl (al (aj ?_))
  have hX:eC s=(⟨3,0⟩:cM):=by
    unfold eC;rw [if_neg aa,if_pos aa]
  rw [hX] at hr;clear hX
  subst hr
  exact bb [1] 0 rfl
 have hc5':=hc5;try simp only [aT,bx] at hc5'
 refine aD (af (aw 2 rfl (az (cD rfl rfl nd) rfl (ad 1 rfl (ae (aL (cb (β:=Nat) (fun (q:Nat)=>⟨[(2,(aC (.p 1 0 0 0))),(31,(aC (cR 3 ((s.cF).map gE)))),(32,(aI (↑s.cF.length:Int))),(33,(aI (↑q:Int)))],[(1,(.box 47 [(cI 0),(cI 0)]))],2⟩) (fun (q:Nat)=>q<=s.cF.length/\pU s.cF 0=pU (s.cF.drop q) q) (fun (q:Nat)=>s.cF.length - q) 0 ?_ ?_ ?_)))))))
 ·exact ⟨aa,rfl⟩
 ·exact aq.rz id
 rintro q ⟨hi0_0,hi0_1⟩
 refine ag 1 rfl (af (aO rfl (fun hc6'=>?_) (fun hc6'=>?_)))
 ·
  refine aD (af (aL (aw 1 rfl ?_)))
  obtain ⟨x1,hx1⟩:=bO (xs:=s.cF) (i:=q) aa
  refine az (dO (i:=q) rfl rfl rfl nd BI (aV hx1)) rfl (ad 4 rfl (ae (aw 1 rfl ?_)))
  obtain ⟨e0,hr0⟩:∃ (e0:Int),gd x1=e0:=⟨_,rfl⟩
  refine ay 3 [2,1] (cA 3 (mr x1 e0 hr0) FF rfl) rfl (ad 1 rfl (ae (ag 2 rfl (aO rfl (fun hc7'=>?_) (fun hc7'=>?_)))))
  ·
   refine ag 4 rfl (al (aY (aj (aj (aY (aj ?_))))))
   have hX:eC s=(⟨e0,(↑q:Int)⟩:cM):=by
     unfold eC;rw [if_neg aa,if_neg aa,hi0_1,py hx1,if_pos aa];simp_all
   rw [hX] at hr;clear hX
   subst hr
   exact bb [1] 0 rfl
  refine cv (aN (then_ok (ah (bl rfl rfl rfl rfl aa (ad 1 rfl (ae (⟨q+1,⟨aa,by rw [hi0_1,py hx1,if_neg aa]⟩,bT,aq.rz id⟩)))))))
 refine bR (aE (aE (bw (then_ok (ag 2 rfl (al ?_))))))
 have hX:eC s=(⟨0,0⟩:cM):=by
   unfold eC;rw [if_neg aa,if_neg aa,hi0_1,List.drop_of_length_le aa];rfl
 rw [hX] at hr;clear hX
 subst hr
 exact bb [1] 0 rfl
def nI (l:List bF):Prop:=∀ c∈l,0<=c.bB - c.held
theorem te {l:List bF} {e k h m:Int} (hl:nI l) (hc:∀ c,l[k.toNat]?=some c->h - m<=c.bB - c.held):nI (cP l e k h m).1:=by
 unfold cP
 split
 ·exact hl
 ·rename_i c hk
  split
  ·rename_i h0
   intro z hz
   rcases iJ hz with hz|rfl
   ·exact hl z hz
   ·have he:=(iM h0).2
    rcases tN (show eg c h m=((eg c h m).1,(eg c h m).2) from rfl) with ⟨h1,_⟩|h1
    ·exact absurd he h1
    ·have h2:=h1.2.2.2.2.2.2.1
     have h3:=hc c hk
     rw [h2];dsimp only;omega
  ·exact hl
theorem lM {l:List bF} {e k h m:Int} (hl:nI l) (hm:h<=m):nI (cP l e k h m).1:=te hl fun c hc=>by have:=hl c (List.mem_of_getElem? hc);omega
theorem DN {a:bG} {t:Int} (h:bI a=0):bE (dF a t) - bE a<=0:=by
 have:=dA h
 unfold bE dF
 cases hs:a.shut<;>cases ht:decide (a.da<=t)<;>simp<;>omega
theorem uX {time:Int}:∀ (l:List bG) (i:Nat) (ak:List bF) (an:List bG) (e:Int),(∀ a∈l,bI a=0)->nI ak->nI (fU time l i ak an e).1
 |[],_,_,_,_,_,h=>h
 |a::l,i,ak,an,e,hw,h=>uX l (i+1) _ _ _ (fun x hx=>hw x (List.mem_cons_of_mem _ hx)) (lM h (DN (hw a List.mem_cons_self)))
theorem uZ {time:Int} {n:Int}:∀ (l:List bG) (i:Nat) (ak:List bF) (an:List bG) (e:Int),(∀ a∈l,a.aX=n)->(∀ a∈an,a.aX=n)->∀ a∈(fU time l i ak an e).2.1,a.aX=n
 |[],_,_,_,_,_,h=>h
 |a::l,i,ak,an,e,hl,h=>uZ l (i+1) _ _ _ (fun x hx=>hl x (List.mem_cons_of_mem _ hx)) fun x hx=>by
  rcases iJ hx with hx|rfl
  ·exact h x hx
  ·exact hl a List.mem_cons_self
structure gu (b:Bk):Prop where
 ok:cH b
 up:b.down=false
 kI:∀ a∈b.an,a.aX=0
 free:nI b.ak
 k0:∀ t∈b.s0.kept,0<=t.sum
 k1:∀ t∈b.s1.kept,0<=t.sum
 p0:∀ p∈b.w0,0<=p.bD.sum
 p1:∀ p∈b.w1,0<=p.bD.sum
theorem gu.eH {b c:Bk} {e:Int} (h:gu b) (hc:e=0->gu c):gu (eH b c e).1:=by
 unfold Dev.eH;split
 ·exact hc dr
 ·exact h
theorem gu.late {b:Bk} (h:gu b):gu (jG b):=by
 have hok:=h.ok.late
 unfold jG at hok ⊢
 split
 ·rename_i h0
  rw [if_pos h0] at hok
  exact ⟨hok,h.up,uZ _ _ _ _ _ h.kI h.kI,uX _ _ _ _ _ (fun a ha=>(h.ok.perm a ha).1) h.free,h.k0,h.k1,h.p0,h.p1⟩
 ·exact h
theorem gu.start {s:Setup} (h:(eC s).err=0):gu (ke s):=
 ⟨cH.start h,rfl,fun a ha=>(by cases ha),fun c hc=>(by
  obtain ⟨p,_,rfl⟩:=List.mem_map.1 (show c∈s.cF.map pJ from hc)
  exact Int.le_refl _),fun a ha=>(by cases ha),fun a ha=>(by cases ha),fun a ha=>(by cases ha),fun a ha=>(by cases ha)⟩
theorem CO {c:bF} {n t:Int} (h:(eh c n t).2=0):0<=(eh c n t).1.bB - (eh c n t).1.held:=by
 rcases ux (show eh c n t=((eh c n t).1,(eh c n t).2) from rfl) with ⟨h5,_⟩|⟨h5,h6,h7,h8,h9,h10,h11,l,h12,h13⟩
 ·exact absurd h h5
 ·rw [h13];dsimp only;omega
theorem gu.asks {b:Bk} (h:gu b) (d:bW):gu (dw b d).1:=by
 have hok:=h.ok.asks d
 unfold dw at hok ⊢
 rw [h.up] at hok ⊢
 simp only [Bool.false_eq_true,if_false] at hok ⊢
 split
 ·exact h
 rename_i c1
 rw [if_neg c1] at hok
 split
 ·exact h
 rename_i c2
 rw [if_neg c2] at hok
 split
 ·exact h
 rename_i c3
 rw [if_neg c3] at hok
 obtain ⟨_,w2,_⟩:=rW (show (dm d.n d.au d.sum b.time).2=0 by omega)
 split
 ·exact h
 rename_i c hc
 rw [hc] at hok
 dsimp only at hok
 split
 ·exact h
 rename_i c4
 rw [if_neg c4] at hok
 refine ⟨hok,rfl,fun a ha=>?_,fun z hz=>?_,h.k0,h.k1,h.p0,h.p1⟩
 ·rcases List.mem_append.1 ha with ha|ha
  ·exact h.kI a ha
  ·obtain rfl:=List.mem_singleton.1 ha;rw [w2]
 ·rcases iJ hz with hz|rfl
  ·exact h.free z hz
  ·exact CO aa
theorem Cd {a b:bG} {k n:Int} (hw:bI a=0) (h1:1<=n) (hm:mT a k n b):(k=1->bE b - bE a=n)/\(k=2\/k=3->bE b - bE a<=0 - n)/\(k=4->bE b - bE a<=0)/\(k=6\/b.aX<=a.aX):=by
 have hr:=dA hw
 cases hm with
 |more h hs hn=>subst h;unfold bE;rw [hs];simp;omega
 |take h hs hn=>
  unfold bE;rw [hs];dsimp only
  refine ⟨fun h=>by omega,fun _=>?_,fun h=>by omega,.inr (Int.le_refl _)⟩
  split<;>simp at *<;>omega
 |less h hs hn=>
  subst h;unfold bE;rw [hs];dsimp only
  refine ⟨fun h=>by omega,fun h=>by omega,fun _=>?_,.inr (Int.le_refl _)⟩
  split<;>simp at *<;>omega
 |yq h hn=>subst h;exact ⟨fun h=>by omega,fun h=>by omega,fun h=>by omega,.inr (Int.le_refl _)⟩
 |vZ h hn=>subst h;exact ⟨fun h=>by omega,fun h=>by omega,fun h=>by omega,.inl rfl⟩
 |vW h hn=>subst h;exact ⟨fun h=>by omega,fun h=>by omega,fun h=>by omega,.inr (by dsimp only;omega)⟩
 |vV h hn=>subst h;exact ⟨fun h=>by omega,fun h=>by omega,fun h=>by omega,.inr (by dsimp only;omega)⟩
theorem Cc {a b:bG} {k n:Int} (hm:mT a k n b) (h1:1<=n) (hk:k=7\/k=8):1<=a.aX:=by
 cases hm<;>omega
theorem rN {s:bK} {e:Int} {t:aZ} (h:∀ t∈s.kept,0<=t.sum) (ht:0<=t.sum):∀ u∈(ej s e t).1.kept,0<=u.sum:=by
 unfold ej
 split
 ·rename_i h0
  have he:=(iM h0).2
  unfold gL at he
  split at he
  ·rename_i h1;exact absurd he h1
  split at he
  ·rename_i h1;exact absurd he h1
  ·rename_i h1 h2
   have hp:(gL s t).1=nh s t:=by unfold gL;rw [if_neg h1,if_neg h2]
   dsimp only
   rw [hp]
   intro u hu
   rcases List.mem_append.1 hu with hu|hu
   ·exact h u hu
   ·obtain rfl:=List.mem_singleton.1 hu;exact ht
 ·exact h
theorem gu.ph {b:Bk} (h:gu b) (d:bW) (hd:¬d.move=6):gu (eX b d).1:=by
 have hok:=h.ok.ph d
 unfold eX at hok ⊢
 rw [h.up] at hok ⊢
 simp only [Bool.false_eq_true,if_false] at hok ⊢
 split
 ·exact h
 rename_i c1
 rw [if_neg c1] at hok
 split
 ·exact h
 rename_i cu ho
 rw [ho] at hok
 dsimp only at hok
 split
 ·exact h
 rename_i c2
 rw [if_neg c2] at hok
 split
 ·exact h
 rename_i c3
 rw [if_neg c3] at hok
 have hmv:bV cu d.move d.sum=((bV cu d.move d.sum).1,0):=Prod.ext rfl (by dsimp only;omega)
 generalize (bV cu d.move d.sum).1=a at *
 rcases qP hmv with ⟨h4,_⟩|⟨_,hw,hn1,hn2,hm⟩
 ·exact absurd rfl h4
 have hold:=h.kI cu (List.mem_of_getElem? ho)
 have hr:=dA hw
 obtain ⟨m1,m2,m3,m4⟩:=Cd hw hn1 hm
 have hcard:a.aA=cu.aA:=(tj hmv).2.1
 have hra:=dA (tj hmv).1
 unfold pI at hok ⊢
 have hcards:nI (eS b a cu d).1:=by
  unfold eS
  split
  ·rename_i hk
   rcases hk with hk|hk
   ·refine te h.free fun c hc=>?_
    have hf:¬d.sum > jE b.ak a.aA:=fun hf=>c3 ⟨hk,hf⟩
    unfold jE at hf;rw [hc] at hf;dsimp only at hf
    have:=m1 hk;omega
   ·exact lM h.free (m3 hk)
  split
  ·rename_i hk;exact lM h.free (m2 hk)
  split
  ·exact h.free
  split
  ·exact h.free
  split
  ·rename_i hk;have:=Cc hm hn1 (.inr hk);omega
  ·exact h.free
 unfold Dev.eH at hok ⊢
 split
 ·rename_i h0
  rw [if_pos h0] at hok
  have hks:(∀ t∈(eS b a cu d).2.2.2.1.kept,0<=t.sum)/\∀ t∈(eS b a cu d).2.2.2.2.1.kept,0<=t.sum:=by
   unfold eS
   split
   ·exact ⟨h.k0,h.k1⟩
   split
   ·exact ⟨rN h.k0 (by dsimp only;omega),h.k1⟩
   split
   ·exact ⟨h.k0,rN h.k1 (by dsimp only;omega)⟩
   split
   ·exact ⟨rN h.k0 (by dsimp only;omega),h.k1⟩
   split
   ·exact ⟨h.k0,h.k1⟩
   ·exact ⟨h.k0,h.k1⟩
  refine ⟨hok,h.up,fun x hx=>?_,hcards,hks.1,hks.2,h.p0,h.p1⟩
  rcases iJ hx with hx|rfl
  ·exact h.kI x hx
  ·rcases m4 with h6|h6
   ·exact absurd h6 hd
   ·omega
 ·exact h
theorem uI {an:List bG} {due:List Int} {ak:List bF} {book:List Entry} {e:Int} {t:aZ} (h:nI ak) (ht:0<=t.sum):nI (eD an due ak book e t).2.1:=by
 unfold eD
 split
 ·exact h
 split
 ·exact h
 split
 ·exact lM h ht
 split
 ·exact h
 ·exact h
theorem gu.load {b:Bk} (h:gu b) (d:bW):gu (iK b d).1:=by
 have hok:=h.ok.load d
 unfold iK at hok ⊢
 split
 ·exact h
 rename_i c1
 rw [if_neg c1] at hok
 split
 ·exact h
 rename_i c2
 rw [if_neg c2] at hok
 unfold Dev.eH at hok ⊢
 split
 ·rename_i h0;rw [if_pos h0] at hok;exact ⟨hok,h.up,h.kI,lM h.free aa,h.k0,h.k1,h.p0,h.p1⟩
 ·exact h
theorem gu.yv {b:Bk} (h:gu b) (d:bW):gu (jT b d).1:=by
 have hok:=h.ok.yv d
 unfold jT at hok ⊢
 split
 ·exact h
 rename_i c1
 rw [if_neg c1] at hok
 split
 ·exact h
 rename_i c2
 rw [if_neg c2] at hok
 unfold Dev.eH at hok ⊢
 split
 ·rename_i h0;rw [if_pos h0] at hok;exact ⟨hok,h.up,h.kI,h.free,h.k0,h.k1,h.p0,h.p1⟩
 ·exact h
theorem gu.cw {b:Bk} (h:gu b) (d:bW):gu (gN b d).1:=by
 unfold gN
 split
 ·exact h
 ·rw [h.up]
  simp only [Bool.false_eq_true,if_false]
  have h1:gu {b with time:=b.time+d.sum}:=⟨h.ok.tick (by have:=h.ok.time;omega) (by have:=h.ok.time;omega),h.up,h.kI,h.free,h.k0,h.k1,h.p0,h.p1⟩
  have h2:=h1.late
  rwa [show ({b with time:=b.time+d.sum}:Bk)={b with time:=b.time+d.sum,down:=false} by rw [<-h.up]] at h2
theorem wE {w:List bL} {ks:List aZ} {n:Int} (h:∀ p∈w,0<=p.bD.sum) (hk:∀ t∈ks,0<=t.sum):∀ p∈(lW w ks n).1,0<=p.bD.sum:=by
 unfold lW
 split
 ·exact h
 ·intro p hp
  rcases wM hp with hp|⟨t,ht,rfl⟩|rfl
  ·exact h p hp
  ·exact hk t ht
  ·exact Int.le_refl _
theorem gu.send {b:Bk} (h:gu b) (d:bW):gu {b with w0:=(fY b.s0 b.s1 b.n0 b.n1 b.w0 b.w1 d).1,w1:=(fY b.s0 b.s1 b.n0 b.n1 b.w0 b.w1 d).2.1}:=by
 refine ⟨h.ok.send d,h.up,h.kI,h.free,h.k0,h.k1,?_,?_⟩
 ·dsimp only;unfold fY
  split
  ·exact h.p0
  split
  ·exact wE h.p0 h.k1
  ·exact h.p0
 ·dsimp only;unfold fY
  split
  ·exact wE h.p1 h.k0
  split
  ·exact h.p1
  ·exact h.p1
theorem xp {s:bK} {n:Int} (h:∀ t∈s.kept,0<=t.sum) (hb:(en s n).2=0):∀ t∈(en s n).1.kept,0<=t.sum:=by
 rcases sZ (show en s n=((en s n).1,(en s n).2) from rfl) with ⟨h1,_⟩|⟨_,_,_,_,h2⟩
 ·exact absurd hb h1
 ·rw [h2];exact fun t ht=>h t (wS ht)
theorem gu.pk {b:Bk} (h:gu b) (d:bW):gu (db b d).1:=by
 have hok:=h.ok.pk d
 unfold db at hok ⊢
 split
 ·rename_i c0
  rw [if_pos c0] at hok
  unfold iG at hok ⊢
  split
  ·exact h
  rename_i p hp
  rw [hp] at hok
  dsimp only at hok
  have hps:=h.p0 p (List.mem_of_getElem? hp)
  have hd:∀ p∈b.w0.drop 1,0<=p.bD.sum:=fun p hp=>h.p0 p (List.mem_of_mem_drop hp)
  split
  ·rename_i c1;rw [if_pos c1] at hok;exact ⟨hok,h.up,h.kI,h.free,h.k0,h.k1,hd,h.p1⟩
  rename_i c1
  rw [if_neg c1] at hok
  split
  ·rename_i c2
   rw [if_pos c2] at hok
   split
   ·rename_i c3;rw [if_pos c3] at hok;exact ⟨hok,h.up,h.kI,h.free,xp h.k0 c3,h.k1,hd,h.p1⟩
   ·exact h
  rename_i c2
  rw [if_neg c2] at hok
  split
  ·rename_i c3
   rw [if_pos c3] at hok
   unfold Dev.eH at hok ⊢
   split
   ·rename_i c4;rw [if_pos c4] at hok;exact ⟨hok,h.up,h.kI,uI h.free hps,h.k0,h.k1,hd,h.p1⟩
   ·exact h
  ·rename_i c3;rw [if_neg c3] at hok;exact ⟨hok,h.up,h.kI,h.free,h.k0,h.k1,hd,h.p1⟩
 rename_i c0
 rw [if_neg c0] at hok
 split
 ·rename_i c01
  rw [if_pos c01] at hok
  unfold iF at hok ⊢
  split
  ·exact h
  rename_i p hp
  rw [hp] at hok
  dsimp only at hok
  have hps:=h.p1 p (List.mem_of_getElem? hp)
  have hd:∀ p∈b.w1.drop 1,0<=p.bD.sum:=fun p hp=>h.p1 p (List.mem_of_mem_drop hp)
  split
  ·rename_i c1;rw [if_pos c1] at hok;exact ⟨hok,h.up,h.kI,h.free,h.k0,h.k1,h.p0,hd⟩
  rename_i c1
  rw [if_neg c1] at hok
  split
  ·rename_i c2
   rw [if_pos c2] at hok
   split
   ·rename_i c3;rw [if_pos c3] at hok;exact ⟨hok,h.up,h.kI,h.free,h.k0,xp h.k1 c3,h.p0,hd⟩
   ·exact h
  rename_i c2
  rw [if_neg c2] at hok
  split
  ·rename_i c3
   rw [if_pos c3] at hok
   unfold Dev.eH at hok ⊢
   split
   ·rename_i c4;rw [if_pos c4] at hok;exact ⟨hok,h.up,h.kI,uI h.free hps,h.k0,h.k1,h.p0,hd⟩
   ·exact h
  ·rename_i c3;rw [if_neg c3] at hok;exact ⟨hok,h.up,h.kI,h.free,h.k0,h.k1,h.p0,hd⟩
 ·exact h
theorem gu.zo {b:Bk} (h:gu b) (y:List (List Int)) (d:bW) (h8:¬d.kind=8) (h6:¬(d.kind=3/\d.move=6)):gu (fV b y d).1:=by
 unfold fV
 split
 ·exact h.load d
 split
 ·exact h.asks d
 split
 ·rename_i h3;exact h.ph d fun e=>h6 ⟨h3,e⟩
 split
 ·exact h.cw d
 split
 ·exact h.send d
 split
 ·exact h.pk d
 split
 ·have:(kK b).1=b:=by unfold kK;rw [if_pos h.up]
  rw [this];exact h
 split
 ·exact ⟨h.ok.tO (pA (y:=y) h.ok.aM).1,h.up,h.kI,h.free,h.k0,h.k1,h.p0,h.p1⟩
 split
 ·exact h.yv d
 ·exact h
section
def fq (k:Int):List bG->Int
 |[]=>0
 |a::l=>(if a.aA=k then bE a else 0)+fq k l
theorem vd (k:Int) (u v:List bG):fq k (u++v)=fq k u+fq k v:=by
 induction u with
 |nil=>simp [fq]
 |cons a u ih=>simp only [List.cons_append,fq,ih];omega
theorem oy (k:Int) (b:bG):∀ {l:List bG} {i:Nat} {a:bG},l[i]?=some a->fq k (l.set i b)=fq k l - (if a.aA=k then bE a else 0)+(if b.aA=k then bE b else 0)
 |x::l,0,a,h=>by
  have:x=a:=by simpa using h
  subst this
  simp only [List.set_cons_zero,fq];omega
 |x::l,i+1,a,h=>by
  have h:l[i]?=some a:=by simpa using h
  simp only [List.set_cons_succ,fq,oy k b h];omega
def jr (ak:List bF) (an:List bG):Prop:=∀ (k:Nat) (c:bF),ak[k]?=some c->c.held=fq k an
theorem td {l:List bF} {e k h m:Int} (hz:(cP l e k h m).2=0):e=0/\((l[k.toNat]?=none/\(cP l e k h m).1=l)\/∃ c,l[k.toNat]?=some c/\(cP l e k h m).1=l.set k.toNat ⟨c.bB+m,c.held+h,c.bJ,c.cO⟩):=by
 unfold cP at hz ⊢
 cases hc:l[k.toNat]? with
 |none=>rw [hc] at hz;exact ⟨hz,.inl ⟨rfl,rfl⟩⟩
 |some c=>
  rw [hc] at hz
  dsimp only at hz ⊢
  split at hz
  ·rename_i h0
   obtain ⟨h1,h2⟩:=iM h0
   rcases tN (show eg c h m=((eg c h m).1,(eg c h m).2) from rfl) with ⟨h3,_⟩|h3
   ·exact absurd h2 h3
   ·rw [if_pos h0]
    exact ⟨h1,.inr ⟨c,rfl,by dsimp only;rw [h3.2.2.2.2.2.2.1]⟩⟩
  ·rename_i h0;exact absurd hz h0
theorem jr.shift {ak:List bF} {an auths':List bG} {e k h m:Int} (hh:jr ak an) (hz:(cP ak e k h m).2=0) (ha:∀ j:Nat,fq j auths'=fq j an+if j=k.toNat then h else 0):jr (cP ak e k h m).1 auths':=by
 obtain ⟨_,hz⟩:=td hz
 intro j c hc
 rcases hz with ⟨h1,h2⟩|⟨c0,h1,h2⟩
 ·rw [h2] at hc
  have:j≠k.toNat:=fun e=>by subst e;rw [h1] at hc;cases hc
  rw [hh j c hc,ha j,if_neg this];omega
 ·rw [h2,List.getElem?_set] at hc
  split at hc
  ·rename_i e
   split at hc
   ·injection hc with hc;subst hc
    have:=hh _ c0 h1
    rw [ha j,if_pos e.symm,<-e];dsimp only;omega
   ·cases hc
  ·rename_i e
   rw [hh j c hc,ha j,if_neg (Ne.symm e)];omega
theorem jr.same {ak:List bF} {an:List bG} {e k m:Int} (hh:jr ak an) (hz:(cP ak e k 0 m).2=0):jr (cP ak e k 0 m).1 an:=hh.shift hz fun j=>by split<;>omega
theorem qE {s:bK} {e:Int} {t:aZ} (h:(ej s e t).2=0):e=0/\(gL s t).2=0/\(ej s e t).1=(gL s t).1:=by
 unfold ej at h ⊢
 split at h
 ·rename_i h0;obtain ⟨h1,h2⟩:=iM h0;rw [if_pos h0];exact ⟨h1,h2,rfl⟩
 ·rename_i h0;exact absurd h h0
theorem yu {s:bK} {t:aZ} (h:(gL s t).2=0):(cK s).err=0/\(cK (nh s t)).err=0/\(gL s t).1=nh s t:=by
 unfold gL at h ⊢
 split at h
 ·rename_i h1;exact absurd h h1
 split at h
 ·rename_i h1;exact absurd h h1
 ·rename_i h1 h2;rw [if_neg h1,if_neg h2];exact ⟨aa,aa,rfl⟩
theorem Bz {s:bK} {n:Int} (h:(en s n).2=0):(cK s).err=0/\0<=n/\n<=s.bj/\(en s n).1=⟨s.bj,ez (came n) s.kept⟩/\(cK (en s n).1).err=0:=by
 rcases sZ (show en s n=((en s n).1,(en s n).2) from rfl) with ⟨h1,_⟩|⟨_,h1,h2,h3,h4⟩
 ·exact absurd h h1
 ·exact ⟨h1,h2,h3,h4,by rw [h4];exact CM h1 h2 h3⟩
structure eO (b:Bk):Prop where
 ok:cH b
 held:jr b.ak b.an
 s0:(cK b.s0).err=0
 s1:(cK b.s1).err=0
 st:cj b.aQ=0
 used:b.aQ.used.length=b.ak.length
 aM:∀ x∈b.aM,yx x
theorem uV {time:Int}:∀ (l:List bG) (i:Nat) (ak:List bF) (an:List bG) (e:Int),(fU time l i ak an e).2.2=0->e=0
 |[],_,_,_,_,h=>h
 |a::l,i,ak,an,e,h=>(td (uV l _ _ _ _ h)).1
theorem uW {time:Int}:∀ (l:List bG) (i:Nat) (ak:List bF) (an:List bG) (e:Int),(fU time l i ak an e).2.2=0->an.drop i=l->(∀ a∈l,0<=a.aA)->jr ak an->jr (fU time l i ak an e).1 (fU time l i ak an e).2.1
 |[],_,_,_,_,_,_,_,h=>h
 |a::l,i,ak,an,e,hz,hd,hp,h=>by
  have hat:an[i]?=some a:=by
   have:(an.drop i)[0]?=some a:=by rw [hd];rfl
   rwa [List.getElem?_drop,Nat.add_zero] at this
  have hilt:=(List.getElem?_eq_some_iff.1 hat).1
  refine uW l (i+1) _ _ _ hz ?_ (fun x hx=>hp x (List.mem_cons_of_mem _ hx)) (h.shift (uV l _ _ _ _ hz) fun j=>?_)
  ·rw [List.drop_set_of_lt aa]
   have:an.drop (i+1)=(an.drop i).drop 1:=by rw [List.drop_drop]
   rw [this,hd];rfl
  ·have hc:=hp a List.mem_cons_self
   rw [oy _ _ hat]
   have:(dF a time).aA=a.aA:=rfl
   rw [this]
   by_cases e:a.aA=(j:Int)
   ·rw [if_pos e,if_pos e,if_pos aa];omega
   ·rw [if_neg e,if_neg e,if_neg aa];omega
theorem DF {time:Int} (l:List bG) (i:Nat) (ak:List bF) (an:List bG) (e:Int):(fU time l i ak an e).1.length=ak.length:=by
 induction l generalizing i ak an e with
 |nil=>rfl
 |cons a l ih=>exact (ih (i+1) _ _ _).trans (fT _ _ _ _ _)
theorem eO.late {b:Bk} (h:eO b):eO (jG b):=by
 have hok:=h.ok.late
 unfold jG at hok ⊢
 split
 ·rename_i h0
  rw [if_pos h0] at hok
  exact ⟨hok,uW _ _ _ _ _ h0 rfl (fun a ha=>(h.ok.perm a ha).2.1) h.held,h.s0,h.s1,h.st,by dsimp only;rw [DF];exact h.used,h.aM⟩
 ·exact h
theorem eO.start {s:Setup} (h:(eC s).err=0):eO (ke s):=by
 obtain ⟨h1,h2,h3,h4,h5,h6⟩:=lU h
 have hn:eL s.cap s.cF.length=({cap:=s.cap,used:=List.replicate s.cF.length 0,aH:=[]},0):=pV h1 ⟨h4,h5⟩
 refine ⟨cH.start h,fun k c hc=>?_,rfl,rfl,?_,?_,fun x hx=>by cases hx⟩
 ·have hc:(s.cF.map pJ)[k]?=some c:=hc
  rw [List.getElem?_map] at hc
  cases hp:s.cF[k]? with
  |none=>rw [hp] at hc;cases hc
  |some p=>rw [hp] at hc;injection hc with hc;subst hc;rfl
 ·show cj (eL s.cap s.cF.length).1=0
  rw [hn];exact wO _ _ h1 h4 h5
 ·show (eL s.cap s.cF.length).1.used.length=(s.cF.map pJ).length
  rw [hn];simp
theorem eO.load {b:Bk} (h:eO b) (d:bW):eO (iK b d).1:=by
 have hok:=h.ok.load d
 unfold iK at hok ⊢
 split
 ·exact h
 rename_i c1
 rw [if_neg c1] at hok
 split
 ·exact h
 rename_i c2
 rw [if_neg c2] at hok
 unfold Dev.eH at hok ⊢
 split
 ·rename_i h0
  rw [if_pos h0] at hok
  exact ⟨hok,h.held.same (mM h0).1,h.s0,h.s1,h.st,by dsimp only;rw [fT];exact h.used,h.aM⟩
 ·exact h
theorem eO.yv {b:Bk} (h:eO b) (d:bW):eO (jT b d).1:=by
 have hok:=h.ok.yv d
 unfold jT at hok ⊢
 split
 ·exact h
 rename_i c1
 rw [if_neg c1] at hok
 split
 ·exact h
 rename_i c2
 rw [if_neg c2] at hok
 unfold Dev.eH at hok ⊢
 split
 ·rename_i h0;rw [if_pos h0] at hok;exact ⟨hok,h.held,h.s0,h.s1,h.st,h.used,h.aM⟩
 ·exact h
theorem eO.cw {b:Bk} (h:eO b) (d:bW):eO (gN b d).1:=by
 unfold gN
 split
 ·exact h
 ·have h1:eO {b with time:=b.time+d.sum}:=⟨h.ok.tick (by have:=h.ok.time;omega) (by have:=h.ok.time;omega),h.held,h.s0,h.s1,h.st,h.used,h.aM⟩
  dsimp only
  split
  ·exact h1
  ·exact h1.late
theorem eO.send {b:Bk} (h:eO b) (d:bW):eO {b with w0:=(fY b.s0 b.s1 b.n0 b.n1 b.w0 b.w1 d).1,w1:=(fY b.s0 b.s1 b.n0 b.n1 b.w0 b.w1 d).2.1}:=
 ⟨h.ok.send d,h.held,h.s0,h.s1,h.st,h.used,h.aM⟩
theorem uH {an:List bG} {due:List Int} {ak:List bF} {book:List Entry} {e:Int} {t:aZ} (h:jr ak an) (hz:(eD an due ak book e t).2.2.2=0):jr (eD an due ak book e t).2.1 an/\(eD an due ak book e t).2.1.length=ak.length:=by
 unfold eD at hz ⊢
 split
 ·exact ⟨h,rfl⟩
 rename_i a ha
 rw [ha] at hz
 dsimp only at hz
 split
 ·exact ⟨h,rfl⟩
 rename_i c1
 rw [if_neg c1] at hz
 split
 ·rename_i c2;rw [if_pos c2] at hz;exact ⟨h.same (mM hz).1,fT _ _ _ _ _⟩
 split
 ·exact ⟨h,rfl⟩
 ·exact ⟨h,rfl⟩
theorem eO.pk {b:Bk} (h:eO b) (d:bW):eO (db b d).1:=by
 have hok:=h.ok.pk d
 unfold db at hok ⊢
 split
 ·rename_i c0
  rw [if_pos c0] at hok
  unfold iG at hok ⊢
  split
  ·exact h
  rename_i p hp
  rw [hp] at hok
  dsimp only at hok
  split
  ·rename_i c1;rw [if_pos c1] at hok;exact ⟨hok,h.held,h.s0,h.s1,h.st,h.used,h.aM⟩
  rename_i c1
  rw [if_neg c1] at hok
  split
  ·rename_i c2
   rw [if_pos c2] at hok
   split
   ·rename_i c3;rw [if_pos c3] at hok;exact ⟨hok,h.held,(Bz c3).2.2.2.2,h.s1,h.st,h.used,h.aM⟩
   ·exact h
  rename_i c2
  rw [if_neg c2] at hok
  split
  ·rename_i c3
   rw [if_pos c3] at hok
   unfold Dev.eH at hok ⊢
   split
   ·rename_i c4;rw [if_pos c4] at hok;obtain ⟨r1,r2⟩:=uH h.held c4;exact ⟨hok,r1,h.s0,h.s1,h.st,h.used.trans r2.symm,h.aM⟩
   ·exact h
  ·rename_i c3;rw [if_neg c3] at hok;exact ⟨hok,h.held,h.s0,h.s1,h.st,h.used,h.aM⟩
 rename_i c0
 rw [if_neg c0] at hok
 split
 ·rename_i c01
  rw [if_pos c01] at hok
  unfold iF at hok ⊢
  split
  ·exact h
  rename_i p hp
  rw [hp] at hok
  dsimp only at hok
  split
  ·rename_i c1;rw [if_pos c1] at hok;exact ⟨hok,h.held,h.s0,h.s1,h.st,h.used,h.aM⟩
  rename_i c1
  rw [if_neg c1] at hok
  split
  ·rename_i c2
   rw [if_pos c2] at hok
   split
   ·rename_i c3;rw [if_pos c3] at hok;exact ⟨hok,h.held,h.s0,(Bz c3).2.2.2.2,h.st,h.used,h.aM⟩
   ·exact h
  rename_i c2
  rw [if_neg c2] at hok
  split
  ·rename_i c3
   rw [if_pos c3] at hok
   unfold Dev.eH at hok ⊢
   split
   ·rename_i c4;rw [if_pos c4] at hok;obtain ⟨r1,r2⟩:=uH h.held c4;exact ⟨hok,r1,h.s0,h.s1,h.st,h.used.trans r2.symm,h.aM⟩
   ·exact h
  ·rename_i c3;rw [if_neg c3] at hok;exact ⟨hok,h.held,h.s0,h.s1,h.st,h.used,h.aM⟩
 ·exact h
theorem DR {s:cT} {a:ch} (h:(cC s a).2=0):(cC s a).1.used.length=s.used.length:=by
 unfold cC at h ⊢
 split at h
 ·rename_i h1;exact absurd h h1
 split at h
 ·cases h
 split at h
 ·cases h
 split at h
 ·cases h
 ·rename_i h1 h2 h3 h4;rw [if_neg h1,if_neg h2,if_neg h3,if_neg h4];exact List.length_set ..
theorem jr.new {ak:List bF} {an:List bG} {k:Int} {c c':bF} {a:bG} (hh:jr ak an) (hk:0<=k) (hc:ak[k.toNat]?=some c) (ha:a.aA=k) (h':c'.held=c.held+bE a):jr (ak.set k.toNat c') (an++[a]):=by
 intro j z hz
 rw [vd]
 have h1:fq j [a]=if a.aA=j then bE a else 0:=by simp [fq]
 rw [h1]
 rw [List.getElem?_set] at hz
 split at hz
 ·rename_i e
  split at hz
  ·injection hz with hz;subst hz
   have:=hh _ c hc
   rw [if_pos aa,<-e];omega
  ·cases hz
 ·rename_i e
  rw [hh j z hz,if_neg aa];omega
theorem eO.asks {b:Bk} (h:eO b) (d:bW):eO (dw b d).1:=by
 have hok:=h.ok.asks d
 unfold dw at hok ⊢
 split
 ·exact h
 rename_i c0
 rw [if_neg c0] at hok
 split
 ·rename_i cd
  rw [if_pos cd] at hok
  split
  ·exact h
  rename_i c1
  rw [if_neg c1] at hok
  split
  ·exact h
  rename_i c2
  rw [if_neg c2] at hok
  have he:=vo (show gO (cC b.aQ ⟨d.n,d.au,d.sum,b.time⟩).2=0 by omega)
  exact ⟨hok,h.held,h.s0,h.s1,(Cg h.st he).1,(DR he).trans h.used,h.aM⟩
 rename_i cd
 rw [if_neg cd] at hok
 split
 ·exact h
 rename_i c2
 rw [if_neg c2] at hok
 split
 ·exact h
 rename_i c3
 rw [if_neg c3] at hok
 obtain ⟨_,w2,_⟩:=rW (show (dm d.n d.au d.sum b.time).2=0 by omega)
 split
 ·exact h
 rename_i c hc
 rw [hc] at hok
 dsimp only at hok
 split
 ·exact h
 rename_i c4
 rw [if_neg c4] at hok
 refine ⟨hok,h.held.new aa hc (by rw [w2]) ?_,h.s0,h.s1,h.st,by dsimp only;rw [List.length_set];exact h.used,h.aM⟩
 rcases ux (show eh c d.sum b.time=((eh c d.sum b.time).1,(eh c d.sum b.time).2) from rfl) with ⟨h5,_⟩|⟨h5,h6,h7,h8,h9,h10,h11,l,h12,h13⟩
 ·omega
 ·rw [h13,w2];simp [bE]
theorem qw:∀ (l:List ch) (cs:List bF) (xs:List bG),(gS l cs xs).2.2=0->jr cs xs->(∀ a∈l,0<=a.aA/\a.aA < cs.length)->jr (gS l cs xs).1 (gS l cs xs).2.1/\(gS l cs xs).1.length=cs.length
 |[],cs,xs,_,h,_=>⟨h,rfl⟩
 |x::l,cs,xs,hz,h,hl=>by
  unfold gS at hz ⊢
  split at hz
  ·rename_i h1;exact absurd hz h1
  rename_i h1
  rw [if_neg h1]
  have hx:=hl x List.mem_cons_self
  cases hc:cs[x.aA.toNat]? with
  |none=>have:=List.getElem?_eq_none_iff.1 hc;omega
  |some c=>
   rw [hc] at hz
   dsimp only at hz ⊢
   split at hz
   ·rename_i h2;exact absurd hz h2
   rename_i h2
   rw [if_neg h2]
   obtain ⟨_,w2,_⟩:=rW (show (dm x.aA x.au x.sum x.time).2=0 by omega)
   obtain ⟨_,f2,_⟩:=si (show (eB c x.sum).2=0 by omega)
   have:=qw l _ _ hz (h.new hx.1 hc (by rw [w2]) (by rw [f2,w2];simp [bE])) (fun a ha=>by rw [List.length_set];exact hl a (List.mem_cons_of_mem _ ha))
   rw [List.length_set] at this
   exact this
theorem eO.HF {b:Bk} (h:eO b):eO (kK b).1:=by
 unfold kK
 split
 ·exact h
 split
 ·exact h
 split
 ·exact h
 rename_i c1 c2 c3
 have h0:(dN b.aQ).2.2=0:=aa
 obtain ⟨r1,r2,r3⟩:=uq h0
 have hu:=h.ok.EA h0
 have hz:(gS (dN b.aQ).2.1 b.ak b.an).2.2=0:=aa
 obtain ⟨u1,u2⟩:=qw _ _ _ hz h.held (fun a ha=>by rw [r3] at ha;have:=h.ok.ku a ha;omega)
 have hp:=jt h.st
 refine eO.late ⟨hu,u1,h.s0,h.s1,?_,?_,h.aM⟩
 ·dsimp only;rw [r2]
  have hc:0<=b.aQ.cap/\b.aQ.cap<=1000000:=by simpa [gY] using hp.2.2.1
  exact wO _ _ hp.1 hc.1 hc.2
 ·dsimp only;rw [r2,u2];simp [h.used]
theorem eO.ph {b:Bk} (h:eO b) (d:bW):eO (eX b d).1:=by
 have hok:=h.ok.ph d
 unfold eX at hok ⊢
 split
 ·exact h
 rename_i cd
 rw [if_neg cd] at hok
 split
 ·exact h
 rename_i c1
 rw [if_neg c1] at hok
 split
 ·exact h
 rename_i cu ho
 rw [ho] at hok
 dsimp only at hok
 split
 ·exact h
 rename_i c2
 rw [if_neg c2] at hok
 split
 ·exact h
 rename_i c3
 rw [if_neg c3] at hok
 have hmv:bV cu d.move d.sum=((bV cu d.move d.sum).1,0):=Prod.ext rfl (by dsimp only;omega)
 generalize (bV cu d.move d.sum).1=a at *
 obtain ⟨_,hwa,hcard,hshop,hk1,hk2,hn1,hn2⟩:=lQ hmv
 rcases qP hmv with ⟨h4,_⟩|⟨_,hw,_,_,hm⟩
 ·exact absurd rfl h4
 have hp:=h.ok.perm cu (List.mem_of_getElem? ho)
 have hra:=dA hwa
 have hset:∀ j:Nat,fq j (b.an.set d.n.toNat a)=fq j b.an+if j=a.aA.toNat then bE a - bE cu else 0:=fun j=>by
  rw [oy _ _ ho,hcard]
  by_cases e:cu.aA=(j:Int)
  ·rw [if_pos e,if_pos e,if_pos aa];omega
  ·rw [if_neg e,if_neg e,if_neg aa];omega
 have hsame:bE a=bE cu->∀ j:Nat,fq j (b.an.set d.n.toNat a)=fq j b.an:=fun e j=>by rw [hset j];split<;>omega
 have hh:d.move=5\/d.move=6\/d.move=7\/d.move=8->bE a=bE cu:=fun e=>by
  cases hm with
  |yq _ _=>rfl
  |vZ _ _=>rfl
  |vW _ _=>rfl
  |vV _ _=>rfl
  |more h _ _=>omega
  |take h _ _=>omega
  |less h _ _=>omega
 unfold pI Dev.eH at hok ⊢
 split
 rotate_left
 ·exact h
 rename_i h0
 rw [if_pos h0] at hok
 obtain ⟨e0,hl0,hnote⟩:=Ca h0
 have key:jr (eS b a cu d).1 (b.an.set d.n.toNat a)/\(cK (eS b a cu d).2.2.2.1).err=0/\(cK (eS b a cu d).2.2.2.2.1).err=0/\(eS b a cu d).1.length=b.ak.length:=by
  unfold eS at e0 ⊢
  split at e0
  ·rename_i hk;rw [if_pos hk];exact ⟨h.held.shift e0 hset,h.s0,h.s1,fT _ _ _ _ _⟩
  rename_i k1
  rw [if_neg k1]
  split at e0
  ·rename_i hk;rw [if_pos hk]
   obtain ⟨e1,e2,e3⟩:=qE e0
   obtain ⟨_,p2,p3⟩:=yu e2
   exact ⟨h.held.shift (mM e1).1 hset,by dsimp only;rw [e3,p3];exact p2,h.s1,fT _ _ _ _ _⟩
  rename_i k2
  rw [if_neg k2]
  split at e0
  ·rename_i hk;rw [if_pos hk]
   obtain ⟨e1,e2,e3⟩:=qE e0
   obtain ⟨_,p2,p3⟩:=yu e2
   exact ⟨fun j c hc=>by rw [hsame (hh (.inl hk)) j];exact h.held j c hc,h.s0,by dsimp only;rw [e3,p3];exact p2,rfl⟩
  rename_i k3
  rw [if_neg k3]
  split at e0
  ·rename_i hk;rw [if_pos hk]
   exact ⟨h.held.shift (mM e0).1 fun j=>by rw [hsame (hh (.inr (.inl hk))) j];split<;>omega,h.s0,h.s1,fT _ _ _ _ _⟩
  rename_i k4
  rw [if_neg k4]
  split at e0
  ·rename_i hk;rw [if_pos hk]
   obtain ⟨e1,e2,e3⟩:=qE e0
   obtain ⟨_,p2,p3⟩:=yu e2
   exact ⟨fun j c hc=>by rw [hsame (hh (.inr (.inr (.inl hk)))) j];exact h.held j c hc,by dsimp only;rw [e3,p3];exact p2,h.s1,rfl⟩
  rename_i k5
  rw [if_neg k5]
  split at e0
  ·rename_i hk;rw [if_pos hk]
   exact ⟨h.held.shift (mM e0).1 fun j=>by rw [hsame (hh (.inr (.inr (.inr hk)))) j];split<;>omega,h.s0,h.s1,fT _ _ _ _ _⟩
  ·omega
 refine ⟨hok,key.1,key.2.1,key.2.2.1,h.st,h.used.trans key.2.2.2.symm,fun x hx=>?_⟩
 dsimp only at hx
 rw [hnote] at hx
 rcases List.mem_append.1 hx with hx|hx
 ·exact h.aM x hx
 ·obtain rfl:=List.mem_singleton.1 hx
  have hlen:=h.ok.an
  constructor
  ·unfold ny;dsimp only;omega
  ·unfold pj;dsimp only;omega
theorem eO.zo {b:Bk} (h:eO b) (y:List (List Int)) (d:bW):eO (fV b y d).1:=by
 unfold fV
 split
 ·exact h.load d
 split
 ·exact h.asks d
 split
 ·exact h.ph d
 split
 ·exact h.cw d
 split
 ·exact h.send d
 split
 ·exact h.pk d
 split
 ·split
  ·exact h
  ·exact ⟨⟨h.ok.time,h.ok.ak,h.ok.due,h.ok.an,h.ok.aM,h.ok.w0,h.ok.w1,h.ok.perm,h.ok.ku,h.ok.k0,h.ok.k1,h.ok.right,h.ok.l0,h.ok.l1,h.ok.p0,h.ok.p1,h.ok.n0,h.ok.n1,fun h=>by cases h⟩,h.held,h.s0,h.s1,h.st,h.used,h.aM⟩
 split
 ·exact h.HF
 split
 ·refine ⟨h.ok.tO (pA (y:=y) h.ok.aM).1,h.held,h.s0,h.s1,h.st,h.used,?_⟩
  unfold kO
  split
  ·exact h.aM
  ·exact fun x hx=>by cases hx
 split
 ·exact h.yv d
 ·exact h
end
section
structure HL (n:Nat) (an:List bG) (hl:List Int):Prop where
 len:hl.length=n
 at_:∀ k:Nat,k < n->hl[k]?=some (fq k an)
theorem HL.start (n:Nat):HL n [] (List.replicate n 0):=⟨List.length_replicate,fun k hk=>by rw [List.getElem?_replicate,if_pos hk];rfl⟩
theorem HL.step {n:Nat} {u:List bG} {hl:List Int} {a:bG} {x v:Int} (h:HL n u hl) (ha:0<=a.aA/\a.aA < n) (hx:hl[a.aA.toNat]?=some x) (hv:v=x+bE a):HL n (u++[a]) (hl.set a.aA.toNat v):=by
 refine ⟨(List.length_set ..).trans h.len,fun k hk=>?_⟩
 rw [vd]
 have h1:fq k [a]=if a.aA=k then bE a else 0:=by simp [fq]
 rw [h1,List.getElem?_set]
 have h2:=h.at_ k hk
 split
 ·rename_i e
  rw [e] at hx
  rw [hx] at h2
  injection h2 with h2
  rw [if_pos (by rw [h.len];omega),if_pos aa,hv,h2]
 ·rename_i e
  rw [if_neg aa,h2];simp
theorem ub (k:Int):∀ {l:List bG},(∀ a∈l,bI a=0)->0<=fq k l/\fq k l<=1000000 * l.length
 |[],_=>by simp [fq]
 |a::l,h=>by
  have:=ub k (l:=l) fun x hx=>h x (List.mem_cons_of_mem _ hx)
  have h2:=kB (h a List.mem_cons_self)
  simp only [fq,List.length_cons]
  split<;>omega
theorem HL.b {n:Nat} {u:List bG} {hl:List Int} {k:Nat} {x:Int} (h:HL n u hl) (hx:hl[k]?=some x) (hu:∀ a∈u,bI a=0) (hl':u.length<=30):0<=x/\x<=30000000:=by
 have hk:=(List.getElem?_eq_some_iff.1 hx).1
 have h2:=h.at_ k (by rw [<-h.len];exact hk)
 rw [hx] at h2;injection h2 with h2
 have:=ub k hu
 omega
end
theorem zW {l:List bF} {k:Int} {c:bF} (hc:l[k.toNat]?=some c) (hw:df c=0):cP l 0 k 0 0=(l,0):=by
 have hs:eg c 0 0=(c,0):=by
  unfold eg
  rw [if_neg aa,if_neg aa,Int.add_zero,Int.add_zero,if_neg (by show ¬df c≠0;omega)]
 obtain ⟨hk,rfl⟩:=List.getElem?_eq_some_iff.1 hc
 rw [my hc,hs]
 exact (if_pos rfl).trans (by rw [List.set_getElem_self])
theorem xa {k:Int}:∀ {l:List bG} {i:Nat} {a:bG},(∀ a∈l,bI a=0)->l[i]?=some a->a.aA=k->bE a<=fq k l
 |x::l,0,a,h,ha,hk=>by
  have ha:x=a:=by simpa using ha
  subst ha
  have:=ub k (l:=l) fun y hy=>h y (List.mem_cons_of_mem _ hy)
  simp only [fq,if_pos hk];omega
 |x::l,i+1,a,h,ha,hk=>by
  have:=xa (l:=l) (i:=i) (fun y hy=>h y (List.mem_cons_of_mem _ hy)) (by simpa using ha) hk
  have h2:=kB (h x List.mem_cons_self)
  simp only [fq];split<;>omega
theorem uU {time:Int}:∀ (l:List bG) (i:Nat) (ak:List bF) (an:List bG),an.drop i=l->jr ak an->(∀ a∈an,bI a=0/\0<=a.aA/\a.aA < ak.length)->(∀ c∈ak,df c=0)->(fU time l i ak an 0).2.2=0
 |[],_,_,_,_,_,_,_=>rfl
 |a::l,i,ak,an,hd,hh,hp,hr=>by
  have hat:an[i]?=some a:=by
   have:(an.drop i)[0]?=some a:=by rw [hd];rfl
   rwa [List.getElem?_drop,Nat.add_zero] at this
  have hilt:=(List.getElem?_eq_some_iff.1 hat).1
  have ha:=hp a (List.mem_of_getElem? hat)
  obtain ⟨c,hc⟩:∃ c,ak[a.aA.toNat]?=some c:=⟨_,List.getElem?_eq_getElem aa⟩
  have hw:=jB (hr c (List.mem_of_getElem? hc))
  have hcd:=hh _ c hc
  have hge:=xa (fun x hx=>(hp x hx).1) hat (show a.aA=((a.aA.toNat:Nat):Int) by omega)
  have h1:=kB ha.1
  have h2:=kB (qg (t:=time) ha.1)
  have h3:bE (dF a time)<=bE a:=by
   unfold bE dF
   have:=dA ha.1
   dsimp only
   split<;>split<;>simp_all<;>omega
  have hs:eg c (bE (dF a time) - bE a) 0=(⟨c.bB+0,c.held+(bE (dF a time) - bE a),c.bJ,c.cO⟩,0):=by
   have hw':df ⟨c.bB+0,c.held+(bE (dF a time) - bE a),c.bJ,c.cO⟩=0:=oJ (by dsimp only;omega) hw.2.2.2.2.1 hw.2.2.2.2.2
   unfold eg
   rw [if_neg (by rw [hr c (List.mem_of_getElem? hc)];simp),if_neg aa,if_neg (by rw [hw'];simp)]
  have hz:cP ak 0 a.aA (bE (dF a time) - bE a) 0=(ak.set a.aA.toNat ⟨c.bB+0,c.held+(bE (dF a time) - bE a),c.bJ,c.cO⟩,0):=by rw [my hc,hs];exact if_pos rfl
  have hz2:=congrArg Prod.snd hz
  have key:=fun hH=>uU (time:=time) l (i+1) (cP ak 0 a.aA (bE (dF a time) - bE a) 0).1 (an.set i (dF a time)) (by
   rw [List.drop_set_of_lt aa]
   have:an.drop (i+1)=(an.drop i).drop 1:=by rw [List.drop_drop]
   rw [this,hd];rfl) hH (fun x hx=>by
    rw [fT]
    rcases iJ hx with hx|rfl
    ·exact hp x hx
    ·exact ⟨qg ha.1,ha.2⟩) (kV hr)
  unfold fU
  rw [hz2]
  refine key (hh.shift hz2 fun j=>?_)
  rw [oy _ _ hat]
  have:(dF a time).aA=a.aA:=rfl
  rw [this]
  by_cases e:a.aA=(j:Int)
  ·rw [if_pos e,if_pos e,if_pos aa];omega
  ·rw [if_neg e,if_neg e,if_neg aa];omega
theorem rZ {b:Bk} (ok:cH b) (hh:jr b.ak b.an):(mH b).2=0/\jG b=(mH b).1:=by
 have h:=uU (time:=b.time) b.an 0 b.ak b.an rfl hh (fun a ha=>⟨(ok.perm a ha).1,(ok.perm a ha).2.1,(ok.perm a ha).2.2.1⟩) ok.right
 refine ⟨h,?_⟩
 unfold jG
 rw [if_pos h]
 rfl
theorem Hl {b:Bk} {cu a:bG} {d:bW} (ok:cH b) (ho:cu∈b.an) (hm:bV cu d.move d.sum=(a,0)):
  iV b a d (cP b.ak 0 a.aA (bE a - bE cu) (gF [(2,0 - d.sum),(3,0 - d.sum),(6,d.sum),(8,0 - d.sum)] d.move)).1 (cP b.ak 0 a.aA (bE a - bE cu) (gF [(2,0 - d.sum),(3,0 - d.sum),(6,d.sum),(8,0 - d.sum)] d.move)).2=eS b a cu d:=by
 obtain ⟨hw,_,hc,_,hk1,hk8,_⟩:=lQ hm
 have hp:=ok.perm cu ho
 obtain ⟨c,hcc⟩:∃ c,b.ak[a.aA.toNat]?=some c:=⟨_,List.getElem?_eq_getElem (by rw [hc];omega)⟩
 have hn:=zW hcc (ok.right c (List.mem_of_getElem? hcc))
 have h5:5<=d.move->bE a - bE cu=0:=fun h=>by
  rcases qP hm with ⟨h0,_⟩|⟨_,_,_,_,hM⟩
  ·exact absurd rfl h0
  ·unfold bE;cases hM<;>first|omega|(dsimp only;split<;>omega)
 obtain ⟨idn,kind,n,au,move,sum⟩:=d
 dsimp only at *
 have h8:move=1\/move=2\/move=3\/move=4\/move=5\/move=6\/move=7\/move=8:=aa
 rcases h8 with rfl|rfl|rfl|rfl|rfl|rfl|rfl|rfl
 case inr.inr.inr.inr.inl|inr.inr.inr.inr.inr.inr.inl=>rw [h5 aa];simp [iV,eS,gF,hn]
 case inr.inr.inr.inr.inr.inl|inr.inr.inr.inr.inr.inr.inr=>rw [h5 aa];simp [iV,eS,gF]
 all_goals simp [iV,eS,gF]
theorem Fz {b b2:Bk} {a:bG} {d:bW} {r:List bF×List Int×List Entry×bK×bK×Int} {e:Int} (ht:b.aM.length<=100) (h:ze b a d r=(b2,e)):pI b a d r=if e=0 then (b2,⟨0,0⟩) else (b,⟨e,0⟩):=by
 unfold ze at h
 unfold pI eH kP
 by_cases c:b.aM.length=100
 ·rw [if_pos aa] at h
  have hf:cp r.2.2.2.2.2 5≠0:=by unfold cp;split<;>omega
  obtain ⟨rfl,rfl⟩:=Prod.mk.inj h
  simp only [if_pos c];rw [if_neg hf,if_neg hf]
 ·rw [if_neg aa] at h
  obtain ⟨rfl,rfl⟩:=Prod.mk.inj h
  simp only [if_neg c]
theorem Dx {b b2:Bk} {d:bW} {e:Int} (ok:cH b) (h:hP b d=(b2,e)):eX b d=if e=0 then (b2,⟨0,0⟩) else (b,⟨e,0⟩):=by
 unfold hP at h
 unfold eX
 split at h
 ·rename_i c;obtain ⟨rfl,rfl⟩:=Prod.mk.inj h;rw [if_pos c];rfl
 rename_i c;rw [if_neg c]
 split at h
 ·rename_i c;obtain ⟨rfl,rfl⟩:=Prod.mk.inj h;rw [if_pos c];rfl
 rename_i c;rw [if_neg c]
 split at h
 ·rename_i c;obtain ⟨rfl,rfl⟩:=Prod.mk.inj h;rw [c];rfl
 rename_i cu c;rw [c]
 dsimp only
 split at h
 ·rename_i c;obtain ⟨rfl,rfl⟩:=Prod.mk.inj h;rw [if_pos c,if_neg c]
 rename_i c1;rw [if_neg c1]
 split at h
 ·rename_i c;obtain ⟨rfl,rfl⟩:=Prod.mk.inj h;rw [if_pos c];rfl
 rename_i c;rw [if_neg c]
 rw [Hl ok (List.mem_of_getElem? ‹_›) (show _=((bV cu d.move d.sum).1,(0:Int)) from Prod.ext rfl (by simpa using c1))] at h
 exact Fz ok.aM h
theorem wu {n:Int} {t:aZ} (h:0<=n):jK n t=if t.number≠IntKind.i64.wrap (n+1)\/n>=1000000 then (n,false) else (n+1,true):=by
 unfold jK
 by_cases c:n>=1000000
 ·rw [if_pos aa,if_pos aa]
 ·rw [show IntKind.i64.wrap (n+1)=n+1 from IntWalk.i64_in _ aa]
  by_cases c2:t.number=n+1
  ·rw [if_neg aa,if_neg aa]
  ·rw [if_pos aa,if_pos aa]
theorem zL {b b2:Bk} {d:bW} {l:Bool} {e:Int} (ok:cH b) (hl:l=true↔d.kind=7) (h:ei b d.n l=(b2,e)):db b d=if e=0 then (b2,⟨0,0⟩) else (b,⟨e,0⟩):=by
 unfold ei at h
 unfold db
 split at h
 ·rename_i c;rw [if_pos c]
  unfold ma at h;unfold iG
  split at h
  ·rename_i c;obtain ⟨rfl,rfl⟩:=Prod.mk.inj h;rw [c];rfl
  rename_i p c;rw [c];dsimp only
  split at h
  ·rename_i c;obtain ⟨rfl,rfl⟩:=Prod.mk.inj h;rw [if_pos (hl.1 c)];rfl
  rename_i c;rw [if_neg fun h=>c (hl.2 h)]
  split at h
  ·rename_i c;rw [if_pos c]
   split at h
   ·rename_i c;obtain ⟨rfl,rfl⟩:=Prod.mk.inj h;rw [if_pos c];rfl
   ·rename_i c;obtain ⟨rfl,rfl⟩:=Prod.mk.inj h;rw [if_neg c,if_neg c]
  rename_i c;rw [if_neg c,wu ok.n0]
  split at h
  ·rename_i c;obtain ⟨rfl,rfl⟩:=Prod.mk.inj h;rw [if_pos c];rfl
  ·rename_i c;obtain ⟨rfl,rfl⟩:=Prod.mk.inj h;rw [if_neg c];rfl
 rename_i c;rw [if_neg c]
 split at h
 ·rename_i c;rw [if_pos c]
  unfold lZ at h;unfold iF
  split at h
  ·rename_i c;obtain ⟨rfl,rfl⟩:=Prod.mk.inj h;rw [c];rfl
  rename_i p c;rw [c];dsimp only
  split at h
  ·rename_i c;obtain ⟨rfl,rfl⟩:=Prod.mk.inj h;rw [if_pos (hl.1 c)];rfl
  rename_i c;rw [if_neg fun h=>c (hl.2 h)]
  split at h
  ·rename_i c;rw [if_pos c]
   split at h
   ·rename_i c;obtain ⟨rfl,rfl⟩:=Prod.mk.inj h;rw [if_pos c];rfl
   ·rename_i c;obtain ⟨rfl,rfl⟩:=Prod.mk.inj h;rw [if_neg c,if_neg c]
  rename_i c;rw [if_neg c,wu ok.n1]
  split at h
  ·rename_i c;obtain ⟨rfl,rfl⟩:=Prod.mk.inj h;rw [if_pos c];rfl
  ·rename_i c;obtain ⟨rfl,rfl⟩:=Prod.mk.inj h;rw [if_neg c];rfl
 ·rename_i c;obtain ⟨rfl,rfl⟩:=Prod.mk.inj h;rw [if_neg c];rfl
theorem HA {b:Bk} {d:bW} (h:(dw b d).2.err≠0):dw b d=(b,⟨(dw b d).2.err,0⟩):=by
 unfold dw at h ⊢
 (repeat' split)<;>first|rfl|(simp_all;done)
theorem GL {b:Bk} (H:eO b) (hd:b.down=true):kK b=if (kJ b.aQ.aH b.ak b.an 0).2.2=0 then ((mH (qx b)).1,⟨0,0⟩) else (b,⟨(kJ b.aQ.aH b.ak b.an 0).2.2,0⟩):=by
 have ha:∀ a∈b.aQ.aH,0<=a.aA/\a.aA < b.ak.length:=fun a ha=>⟨(H.ok.ku a ha).1,(H.ok.ku a ha).2.1⟩
 obtain ⟨u1,u2⟩:=sK _ b.ak b.an ha
 have hcl:dN b.aQ=(⟨b.aQ.cap,List.replicate b.aQ.used.length 0,[]⟩,b.aQ.aH,0):=by
  unfold dN;rw [if_neg (by rw [H.st];simp)]
 unfold kK
 rw [if_neg (by rw [hd];simp),hcl,u1]
 dsimp only
 rw [if_neg ca]
 by_cases h0:(gS b.aQ.aH b.ak b.an).2.2=0
 ·rw [if_neg aa,if_pos h0]
  have hU:=u2 h0
  obtain ⟨k1,k2⟩:=qw _ _ _ h0 H.held ha
  have hs:=H.ok.HG (s:=⟨b.aQ.cap,List.replicate b.aQ.used.length 0,[]⟩) rfl
  have hB:qx b={b with ak:=(gS b.aQ.aH b.ak b.an).1,an:=(gS b.aQ.aH b.ak b.an).2.1,aQ:=⟨b.aQ.cap,List.replicate b.aQ.used.length 0,[]⟩,down:=false}:=by
   unfold qx;rw [hU,k2,H.used]
  rw [hB,(rZ hs k1).2]
 ·rw [if_pos h0,if_neg h0]
theorem Bq {b b2:Bk} {y y2:List (List Int)} {d:bW} {e n:Int} (H:eO b) (h5:¬d.kind=5) (h:fO b y d=(b2,y2,e,n)):fV b y d=if e=0 then (b2,y2,⟨0,n⟩) else (b,y,⟨e,0⟩):=by
 have P4:∀ {x1 b2:Bk} {x2 y2:List (List Int)} {x3 e x4 n:Int},(x1,x2,x3,x4)=(b2,y2,e,n)->x1=b2/\x2=y2/\x3=e/\x4=n:=fun h=>by simpa using h
 unfold fO at h
 unfold fV
 by_cases c:d.kind=1
 ·rw [if_pos c] at h ⊢;unfold iK eH
  by_cases c:d.n < 0\/d.n>=b.ak.length
  ·rw [if_pos c] at h ⊢;obtain ⟨rfl,rfl,rfl,rfl⟩:=P4 h;rfl
  rw [if_neg c] at h ⊢
  by_cases c:d.sum < 1\/d.sum > 1000000
  ·rw [if_pos c] at h ⊢;obtain ⟨rfl,rfl,rfl,rfl⟩:=P4 h;rfl
  ·rw [if_neg c] at h ⊢;obtain ⟨rfl,rfl,rfl,rfl⟩:=P4 h;split<;>rfl
 rw [if_neg c] at h ⊢
 by_cases c:d.kind=2
 ·rw [if_pos c] at h ⊢;obtain ⟨rfl,rfl,rfl,rfl⟩:=P4 h
  split
  ·rename_i h0;rw [<-h0]
  ·rename_i h0;rw [HA h0]
 rw [if_neg c] at h ⊢
 by_cases c:d.kind=3
 ·rw [if_pos c] at h ⊢;obtain ⟨rfl,rfl,rfl,rfl⟩:=P4 h
  rw [Dx H.ok (show hP b d=((hP b d).1,(hP b d).2) from rfl)];split<;>rfl
 rw [if_neg c] at h ⊢
 by_cases c:d.kind=4
 ·rw [if_pos c] at h ⊢;unfold gN
  have ht:=H.ok.time
  by_cases c:d.sum < 0\/d.sum > 1000000\/b.time+d.sum > 1000000
  ·rw [if_pos c] at h;obtain ⟨rfl,rfl,rfl,rfl⟩:=P4 h;rw [if_pos aa];rfl
  rw [if_neg c] at h;rw [if_neg aa]
  by_cases c2:b.down=true
  ·rw [if_pos c2] at h ⊢;obtain ⟨rfl,rfl,rfl,rfl⟩:=P4 h;rfl
  ·rw [if_neg c2] at h ⊢;obtain ⟨rfl,rfl,rfl,rfl⟩:=P4 h
   rw [(rZ (b:={b with time:=b.time+d.sum}) (H.ok.tick aa aa) H.held).2];rfl
 rw [if_neg c] at h ⊢;rw [if_neg h5]
 by_cases c:d.kind=6
 ·rw [if_pos c] at h;rw [if_pos (.inl c)];obtain ⟨rfl,rfl,rfl,rfl⟩:=P4 h
  rw [zL H.ok (l:=false) (by simp [c]) (show ei b d.n false=((ei b d.n false).1,(ei b d.n false).2) from rfl)];split<;>rfl
 rw [if_neg c] at h
 by_cases c:d.kind=7
 ·rw [if_pos c] at h;rw [if_pos (.inr c)];obtain ⟨rfl,rfl,rfl,rfl⟩:=P4 h
  rw [zL H.ok (l:=true) (by simp [c]) (show ei b d.n true=((ei b d.n true).1,(ei b d.n true).2) from rfl)];split<;>rfl
 rw [if_neg c] at h;rw [if_neg aa]
 by_cases c:d.kind=8
 ·rw [if_pos c] at h ⊢;obtain ⟨rfl,rfl,rfl,rfl⟩:=P4 h;split<;>rfl
 rw [if_neg c] at h ⊢
 by_cases c:d.kind=9
 ·rw [if_pos c] at h ⊢
  by_cases c:b.down=false
  ·rw [if_pos c] at h;obtain ⟨rfl,rfl,rfl,rfl⟩:=P4 h;unfold kK;rw [if_pos c];rfl
  rw [if_neg c] at h;rw [GL H (by simpa using c)]
  by_cases c2:(kJ b.aQ.aH b.ak b.an 0).2.2=0
  ·rw [if_pos c2] at h ⊢;obtain ⟨rfl,rfl,rfl,rfl⟩:=P4 h
   have ha:∀ a∈b.aQ.aH,0<=a.aA/\a.aA < b.ak.length:=fun a ha=>⟨(H.ok.ku a ha).1,(H.ok.ku a ha).2.1⟩
   obtain ⟨u1,u2⟩:=sK _ b.ak b.an ha
   have hk:=H.ok.HH (show kJ b.aQ.aH b.ak b.an 0=((kJ b.aQ.aH b.ak b.an 0).1,(kJ b.aQ.aH b.ak b.an 0).2.1,0) from Prod.ext rfl (Prod.ext rfl c2))
   rw [u1] at c2
   have k1:=(qw _ _ _ c2 H.held ha).1
   rw [<-u2 c2] at k1
   rw [(rZ (b:=qx b) hk k1).1,if_pos rfl]
  ·rw [if_neg c2] at h ⊢;obtain ⟨rfl,rfl,rfl,rfl⟩:=P4 h;rw [if_neg c2]
 rw [if_neg c] at h ⊢
 by_cases c:d.kind=10
 ·rw [if_pos c] at h ⊢;unfold kO;obtain ⟨rfl,rfl,rfl,rfl⟩:=P4 h
  by_cases h0:(iy b.aM).2.err=0
  ·rw [if_pos h0,if_neg aa]
  ·rw [if_neg h0,if_pos h0]
 rw [if_neg c] at h ⊢
 by_cases c:d.kind=11
 ·rw [if_pos c] at h ⊢;unfold jT eH
  by_cases c:d.n < 0\/d.n>=b.due.length
  ·rw [if_pos c] at h ⊢;obtain ⟨rfl,rfl,rfl,rfl⟩:=P4 h;rfl
  rw [if_neg c] at h ⊢
  by_cases c:b.due.getD d.n.toNat 0 < 1
  ·rw [if_pos c] at h;obtain ⟨rfl,rfl,rfl,rfl⟩:=P4 h;rw [if_pos aa];rfl
  ·rw [if_neg c] at h;obtain ⟨rfl,rfl,rfl,rfl⟩:=P4 h;rw [if_neg aa];split<;>rfl
 ·rw [if_neg c] at h ⊢;obtain ⟨rfl,rfl,rfl,rfl⟩:=P4 h;rfl
theorem wD {b:Bk} {y:List (List Int)} {d:bW} {v0 v1:List bL} {e:Int} (h5:d.kind=5) (h:jL b.s0 b.s1 b.n0 b.n1 b.w0 b.w1 d=(v0,v1,e)):fV b y d=if e=0 then ({b with w0:=v0,w1:=v1},y,⟨0,0⟩) else (b,y,⟨e,0⟩):=by
 unfold jL at h
 unfold fV
 rw [if_neg aa,if_neg aa,if_neg aa,if_neg aa,if_pos h5]
 unfold fY lW
 split at h
 ·rename_i c;simp only [Prod.mk.injEq] at h;obtain ⟨rfl,rfl,rfl⟩:=h;rw [if_pos c];split<;>rfl
 rename_i c;rw [if_neg c]
 split at h
 ·rename_i c;simp only [Prod.mk.injEq] at h;obtain ⟨rfl,rfl,rfl⟩:=h;rw [if_pos c];split<;>rfl
 ·rename_i c;simp only [Prod.mk.injEq] at h;obtain ⟨rfl,rfl,rfl⟩:=h;rw [if_neg c];rfl
theorem rC {a i:Int} {v:Answer}:∀ {l:List (Int×Answer)},gf (lC l a v) i=if a=i then some v else gf l i
 |[]=>by simp [gf,lC]
 |(k,u)::l=>by
  have ih:=rC (a:=a) (i:=i) (v:=v) (l:=l)
  unfold lC
  by_cases h:k=a
  ·rw [if_pos h];subst h;simp only [gf];split<;>simp_all
  ·rw [if_neg h];simp only [gf,ih];split<;>split<;>simp_all
structure lf (l:List bW) (out:List Answer) (told:List (Int×Answer)) (u:Nat):Prop where
 len:out.length=u
 at_:∀ (j:Nat) (y:bW),j < u->l[j]?=some y->y.id≠0->gf told y.id=out[j]?
 only:∀ (i:Int) (a:Answer),i≠0->gf told i=some a->∃ (j:Nat) (y:bW),j < u/\l[j]?=some y/\y.id=i
theorem lf.no {l:List bW} {out:List Answer} {told:List (Int×Answer)} {u:Nat} (h:lf l out told u) {x:bW} (hn:x.id=0\/∀ (j:Nat) (y:bW),j < u->l[j]?=some y->y.id≠x.id):¬((gf told x.id).isSome=true/\x.id≠0):=fun ⟨h1,h2⟩=>by
 obtain ⟨a,ha⟩:=Option.isSome_iff_exists.1 h1
 obtain ⟨j,y,hj,hy,e⟩:=h.only _ a h2 ha
 rcases hn with hn|hn
 ·exact h2 hn
 ·exact hn j y hj hy e
theorem lf.new {l:List bW} {out:List Answer} {told:List (Int×Answer)} {u:Nat} (h:lf l out told u) {x:bW} (hx:l[u]?=some x) (hn:¬((gf told x.id).isSome=true/\x.id≠0)) (a:Answer):lf l (out++[a]) (lC told x.id a) (u+1):=by
 have hlen:=h.len
 refine ⟨by rw [List.length_append,hlen];rfl,fun j y hj hy h0=>?_,fun i z h0 hz=>?_⟩
 ·rw [rC]
  by_cases e:j=u
  ·subst e;rw [hx] at hy;injection hy with hy;subst hy
   rw [if_pos rfl,<-hlen];simp
  ·have hm:=h.at_ j y aa hy h0
   have hl:out[j]?=some out[j]:=List.getElem?_eq_getElem aa
   rw [if_neg (fun he:x.id=y.id=>hn ⟨by rw [he,hm,hl];rfl,by rw [he];exact h0⟩),hm,List.getElem?_append_left aa]
 ·rw [rC] at hz
  split at hz
  ·rename_i e;exact ⟨u,x,aa,hx,e⟩
  ·obtain ⟨j,y,hj,h2⟩:=h.only i z h0 hz;exact ⟨j,y,aa,h2⟩
theorem lf.cu {l:List bW} {out:List Answer} {told:List (Int×Answer)} {u:Nat} (h:lf l out told u) {x:bW} (hx:l[u]?=some x) {a:Answer} (ha:gf told x.id=some a):lf l (out++[a]) told (u+1):=by
 have hlen:=h.len
 refine ⟨by rw [List.length_append,hlen];rfl,fun j y hj hy h0=>?_,fun i z h0 hz=>?_⟩
 ·by_cases e:j=u
  ·subst e;rw [hx] at hy;injection hy with hy;subst hy
   rw [ha,<-hlen];simp
  ·rw [h.at_ j y aa hy h0,List.getElem?_append_left aa]
 ·obtain ⟨j,y,hj,h2⟩:=h.only i z h0 hz;exact ⟨j,y,aa,h2⟩
def xQ (l:List bW) (u m:Nat) (i:Int):Prop:=∀ (j:Nat) (y:bW),m<=j->j < u->l[j]?=some y->y.id≠i
theorem xQ.step {l:List bW} {u m:Nat} {i:Int} {x:bW} (h:xQ l u m i) (hx:l[m - 1]?=some x) (hn:¬x.id=i):xQ l u (m - 1) i:=fun j y h1 h2 h3=>by
 by_cases e:j=m - 1
 ·subst e;rw [hx] at h3;injection h3 with h3;rw [<-h3];exact hn
 ·exact h j y aa h2 h3
theorem lf.Md {l:List bW} {out:List Answer} {told:List (Int×Answer)} {u k:Nat} (h:lf l out told u) {x:bW} {i:Int} {a:Answer} (hk:k < u) (hx:l[k]?=some x) (he:x.id=i) (h0:¬i=0) (ha:out[k]?=some a):i≠0/\gf told i=some a:=
 ⟨h0,by have h1:=h.at_ k x hk hx (by rw [he];exact h0);rw [he] at h1;exact h1.trans ha⟩
theorem qN {b:Bk} {days:List (List Int)} {told:List (Int×Answer)} {cl:Nat} {d:bW} (h:¬((gf told d.id).isSome=true/\d.id≠0)):hO b days told cl d=((fV b days d).1,(fV b days d).2.1,lC told d.id (fV b days d).2.2,if (gf told d.id).isSome then cl else cl+1,(fV b days d).2.2):=by
 unfold hO;rw [if_neg h]
theorem EV {b:Bk} {days:List (List Int)} {told:List (Int×Answer)} {cl:Nat} {d:bW} {a:Answer} (h:gf told d.id=some a) (h0:d.id≠0):hO b days told cl d=(b,days,told,cl,a):=by
 unfold hO;rw [if_pos ⟨by rw [h];rfl,h0⟩,h];rfl
theorem eO.next {b b2:Bk} {days y2:List (List Int)} {d:bW} {a:Answer} (h:eO b) (hd:fV b days d=(b2,y2,a)):eO b2/\y2.length<=days.length+1:=by
 have h1:=h.zo days d
 have h2:=(h.ok.zo days d).2
 rw [hd] at h1 h2
 exact ⟨h1,h2⟩
theorem wJ:∀ (l:List bW) (b:Bk) (y:List (List Int)) (told:List (Int×Answer)) (cl:Nat) (out:List Answer),(lY l b y told cl out).2.2.length=out.length+l.length
 |[],_,_,_,_,_=>rfl
 |d::l,b,y,told,cl,out=>by
  unfold lY
  rw [wJ l];simp;omega
theorem GW {s:Setup} {l:List bW} {b:Bk} {y:List (List Int)} {o:List Answer} {f:cM} (hr:jO s l=(b,y,o,f)):o.length<=150:=by
 unfold jO at hr
 split at hr
 ·simp only [Prod.mk.injEq] at hr;rw [<-hr.2.2.1];exact Nat.zero_le _
 split at hr
 ·simp only [Prod.mk.injEq] at hr;rw [<-hr.2.2.1];exact Nat.zero_le _
 ·simp only [Prod.mk.injEq] at hr;rw [<-hr.2.2.1,wJ];simp;omega

def zJ (b:Bk) (y:List (List Int)):List CV:=[(cI b.time),(cB b.down),(jA b.ak),(dt b.due),(iQ b.an),(cI b.s0.bj),(bX b.s0.kept),(cI b.s1.bj),(bX b.s1.kept),(cI b.n0),(cI b.n1),(dj b.w0),(dj b.w1),(cI b.aQ.cap),(dt b.aQ.used),(eo b.aQ.aH),(eZ b.aM),(js y),(cE b.book)]
theorem Hq (s:Setup) (l:List bW) (b2:Bk) (y2:List (List Int)) (o2:List Answer) (f2:cM) (hr:jO s l=(b2,y2,o2,f2)):Fn Tryz.prog 5 [(.g [(cR 3 ((s.cF).map gE)),(cI s.gp),(cI s.cap)]),(.c (kR l))] (.t [(.g [(cI b2.time),(cB b2.down),(jA b2.ak),(dt b2.due),(iQ b2.an),(cI b2.s0.bj),(bX b2.s0.kept),(cI b2.s1.bj),(bX b2.s1.kept),(cI b2.n0),(cI b2.n1),(dj b2.w0),(dj b2.w1),(cI b2.aQ.cap),(dt b2.aQ.used),(eo b2.aQ.aH),(eZ b2.aM),(js y2),(cE b2.book)]),(.c (.s 0 0 2 o2.length)),(.g [(cI f2.err),(cI f2.at_)])]) [(0,(tC o2))]:=by
 refine Fn.mk' 127 [(0,(aG [(cR 3 ((s.cF).map gE)),(cI s.gp),(cI s.cap)])),(1,(aC (kR l)))] Tryz.func5 rfl rfl rfl rfl ?_
 intro W0 T0
 refine ck 0 0 rfl rfl (fun hlen0_0=>?_)
 refine dE 1 rfl (fun hlen1=>?_)
 refine ag 4 rfl (af (aw 1 rfl ?_))
 obtain ⟨f0,hr0⟩:∃ (f0:cM),eC s=f0:=⟨_,rfl⟩
 refine ay 3 [2,1,0] (cA 3 (zq s f0 hr0) KG rfl) rfl (ad 2 rfl (ae (ag 3 rfl (aO rfl (fun hc1'=>?_) (fun hc1'=>?_)))))
 ·
  refine af (eJ [1,2,4,6,7] [3,2,1,0] rfl (cV 5 rfl (eb [1,2,4,6,5] [2,1,0] rfl rfl aJ (then_ok (al (aj (cZ 1 2 6 rfl rfl rfl (cZ 1 3 1 rfl rfl rfl (cZ 1 4 8 rfl rfl rfl (cZ 1 6 4 rfl rfl rfl (cZ 1 8 4 rfl rfl rfl (cZ 1 11 5 rfl rfl rfl (cZ 1 12 5 rfl rfl rfl (cZ 1 14 1 rfl rfl rfl (cZ 1 15 4 rfl rfl rfl (cZ 1 16 4 rfl rfl rfl (cZ 1 17 1 rfl rfl rfl (cZ 1 18 2 rfl rfl rfl (cW (aq.nil 5 53 2 cm rfl) ?_)))))))))))))))))))
  have hX:jO s l=((⟨0,false,[],[],[],(⟨0,[]⟩:bK),(⟨0,[]⟩:bK),0,0,[],[],(⟨0,[],[]⟩:cT),[],[]⟩:Bk),[],([]:List Answer),f0):=by
    unfold jO;rw [hr0,if_pos aa];rfl
  rw [hX] at hr;clear hX
  simp only [Prod.mk.injEq] at hr;obtain ⟨rfl,rfl,rfl,rfl⟩:=hr
  exact bb [4,1,2] 1 rfl
 refine aD (af (aw 1 rfl (az (cD rfl rfl qy) rfl (ad 1 rfl (ae (aO rfl (fun hc2'=>?_) (fun hc2'=>?_)))))))
 ·
  refine ag 5 rfl (al (aj (cZ 1 2 6 rfl rfl rfl (cZ 1 3 1 rfl rfl rfl (cZ 1 4 8 rfl rfl rfl (cZ 1 6 4 rfl rfl rfl (cZ 1 8 4 rfl rfl rfl (cZ 1 11 5 rfl rfl rfl (cZ 1 12 5 rfl rfl rfl (cZ 1 14 1 rfl rfl rfl (cZ 1 15 4 rfl rfl rfl (cZ 1 16 4 rfl rfl rfl (cZ 1 17 1 rfl rfl rfl (cZ 1 18 2 rfl rfl rfl (cW (aq.nil 5 53 2 cm rfl) ?_)))))))))))))))
  have hX:jO s l=((⟨0,false,[],[],[],(⟨0,[]⟩:bK),(⟨0,[]⟩:bK),0,0,[],[],(⟨0,[],[]⟩:cT),[],[]⟩:Bk),[],([]:List Answer),(⟨5,0⟩:cM)):=by
    unfold jO;rw [hr0,if_neg aa,if_pos aa];rfl
  rw [hX] at hr;clear hX
  simp only [Prod.mk.injEq] at hr;obtain ⟨rfl,rfl,rfl,rfl⟩:=hr
  exact bb [4,1,2] 1 rfl
 refine aD ?_
 obtain ⟨w1,w2,w3,w4,w5,w6⟩:=lU (s:=s) (by rw [hr0];omega)
 refine af (bg [1,2,4,6] [2,1,0] rfl (aF 2 rfl (bM 4 [31] [] rfl (vS lF uB rfl rfl rfl (n:=Int.toNat (s.gp)) aa aa aa aa) rfl (aF 4 rfl (bh 4 [36] [] rfl (cD rfl rfl nd) (bM 4 [37] [] rfl (vS lF uB rfl rfl rfl (n:=s.cF.length) aa aa aa aa) rfl (bC (n':=5) (kn:=[]) bn 3 rfl trivial (bf [4,2,1,0] rfl (ad 1 rfl (ae (af (oO 4 2 63 6 rfl rfl rfl (ig 4 4 8 rfl rfl rfl (ig 4 6 4 rfl rfl rfl (ig 4 8 4 rfl rfl rfl (ig 4 11 5 rfl rfl rfl (ig 4 12 5 rfl rfl rfl (ig 4 15 4 rfl rfl rfl (ig 4 16 4 rfl rfl rfl (ig 4 17 1 rfl rfl rfl (ig 4 18 2 rfl rfl rfl (aw 2 rfl (az (cD rfl rfl nd) rfl (ad 1 rfl (ae (aL (cb (β:=Nat×List bF) (fun (p:Nat×List bF)=>match p with|(q,m)=>⟨[(1,(aC (kR l))),(4,(aC (.p 1 0 0 0))),(6,(aC (.p 2 0 0 0))),(8,(aC (.p 4 0 0 0))),(42,(aC (cR 3 ((s.cF).map gE)))),(43,(aI (↑s.cF.length:Int))),(44,(aI (↑q:Int)))],[(5,(dS m)),(4,(.box 43 [(cI 0),(cB false),(.s 5 0 6 m.length),(dt (List.replicate (Int.toNat (s.gp)) (0:Int))),(iQ ([]:List bG)),(cI 0),(bX ([]:List aZ)),(cI 0),(bX ([]:List aZ)),(cI 0),(cI 0),(dj ([]:List bL)),(dj ([]:List bL)),(cI s.cap),(dt (List.replicate s.cF.length (0:Int))),(eo ([]:List ch)),(eZ ([]:List ar)),(js ([]:List (List Int))),(cE ([]:List Entry))])),(2,(.box 47 [(cI 0),(cI 0)])),(1,(.box 43 [(cI 0),(cB false),cN,cN,cN,(cI 0),cN,(cI 0),cN,(cI 0),(cI 0),cN,cN,(cI 0),cN,cN,cN,cN,cN]))],6⟩) (fun (p:Nat×List bF)=>match p with|(q,m)=>q<=s.cF.length/\m=(s.cF.take q).map pJ/\m.length=q) (fun (p:Nat×List bF)=>match p with|(q,m)=>s.cF.length - q) (0,([]:List bF)) ?_ ?_ ?_)))))))))))))))))))))))))))
 ·exact ⟨aa,rfl,rfl⟩
 ·exact aq.rz id
 rintro ⟨q,m⟩ ⟨hi0_0,hi0_1,hi0_2⟩
 refine ag 1 rfl (af (aO rfl (fun hc3'=>?_) (fun hc3'=>?_)))
 ·
  refine aD (af (aL (dq ?_)))
  obtain ⟨x1,hx1⟩:=bO (xs:=s.cF) (i:=q) aa
  refine az (dO (i:=q) rfl rfl rfl nd BI (aV hx1)) rfl (ad 3 rfl (ae (ah (ad 3 rfl (az (bU.EW (cs':=[(cI 0),(cI 0),(cI x1.cw),(cI x1.count),(cI x1.sum),(eF ([]:List dh))]) 5 2 (sX (ys:=[(2,(.g [(cI x1.cw),(cI x1.count),(cI x1.sum)]))]) rfl GI rfl ⟨⟨rfl,rfl⟩,trivial⟩ rfl rfl) rfl rfl) rfl (ay 8 [7,6,5,4,2,1] (dM (ys:=[(0,(.g [(cI 0),(cI 0),(cI x1.cw),(cI x1.count),(cI x1.sum),(eF ([]:List dh))]))]) (rows:=([(⟨0,0,x1,([]:List dh)⟩:bF)]).map nD) 7 rK rfl) rfl (ay 9 [8,7,6,4,2,1] (dU (m:=1) (N:=m.length+1) (k2:=8) (ys:=([(⟨0,0,x1,([]:List dh)⟩:bF)]).map nD) rK rfl rfl rfl rfl dv) rfl (ad 2 rfl (bq (aN (then_ok (ah (bl rfl rfl rfl rfl aa (ad 1 rfl (ae (⟨(q+1,m++([(⟨0,0,x1,([]:List dh)⟩:bF)])),⟨aa,by rw [gh hx1,List.map_append,<-hi0_1];rfl,by rw [List.length_append,hi0_2];rfl⟩,bT,aq.rz (fun k=>if k=5 then 8 else k)⟩))))))))))))))))
 refine bR (aE (aE (bw (then_ok (oG (s':=[(1,(aC (kR l))),(4,(aC (.p 1 0 0 0))),(6,(aC (.p 2 0 0 0))),(8,(aC (.p 4 0 0 0))),(42,(aC (cR 3 ((s.cF).map gE)))),(43,(aI (↑s.cF.length:Int))),(44,(aI (↑q:Int))),(45,(aB (decide ((↑q:Int) < (↑s.cF.length:Int)))))]) (h':=[(4,(.box 43 [(cI 0),(cB false),(jA m),(dt (List.replicate (Int.toNat (s.gp)) (0:Int))),(iQ ([]:List bG)),(cI 0),(bX ([]:List aZ)),(cI 0),(bX ([]:List aZ)),(cI 0),(cI 0),(dj ([]:List bL)),(dj ([]:List bL)),(cI s.cap),(dt (List.replicate s.cF.length (0:Int))),(eo ([]:List ch)),(eZ ([]:List ar)),(js ([]:List (List Int))),(cE ([]:List Entry))])),(2,(.box 47 [(cI 0),(cI 0)])),(1,(.box 43 [(cI 0),(cB false),cN,cN,cN,(cI 0),cN,(cI 0),cN,(cI 0),(cI 0),cN,cN,(cI 0),cN,cN,cN,cN,cN]))]) [5] rfl ⟨rfl,rfl,rfl,rfl,rfl,rfl,rfl,rfl,trivial⟩ rfl ⟨⟨_,rfl,.inr ⟨_,_,_,rfl,rfl,⟨.inl rfl,.inl rfl,.inr (.s rfl cm ca),.inl rfl,.inl rfl,.inl rfl,.inl rfl,.inl rfl,.inl rfl,.inl rfl,.inl rfl,.inl rfl,.inl rfl,.inl rfl,.inl rfl,.inl rfl,.inl rfl,.inl rfl,.inl rfl,trivial⟩⟩⟩,⟨_,rfl,.inl rfl⟩,⟨_,rfl,.inl rfl⟩,trivial⟩ rfl (ag 1 rfl (af (aw 1 rfl (az (cD rfl rfl qy) rfl (ad 1 rfl (ae (aL (ie (aq.nil 11 53 2 cm rfl) ?_)))))))))))))
 have htk:m=s.cF.map pJ:=by rw [hi0_1,List.take_of_length_le aa]
 subst htk
 have hst:(eL s.cap s.cF.length).1=⟨s.cap,List.replicate s.cF.length 0,[]⟩:=by rw [pV w1 ⟨w4,w5⟩]
 refine cb (β:=Nat×Bk×List (List Int)×List (Int×Answer)×Nat×List Answer) (fun (p:Nat×Bk×List (List Int)×List (Int×Answer)×Nat×List Answer)=>match p with|(u,b,days,told,cl,out)=>⟨[(1,(aC (kR l))),(4,(aC (.p 1 0 0 0))),(6,(aC (.p 2 0 0 0))),(8,(aC (.p 4 0 0 0))),(42,(aC (cR 3 ((s.cF).map gE)))),(43,(aI (↑s.cF.length:Int))),(44,(aI (↑q:Int))),(11,(aC (.s 6 0 2 out.length))),(56,(aC (kR l))),(57,(aI (↑l.length:Int))),(58,(aI (↑u:Int)))],[(6,(tC out)),(4,(.box 43 (zJ b days))),(2,(.box 47 [(cI 0),(cI 0)])),(1,(.box 43 [(cI 0),(cB false),cN,cN,cN,(cI 0),cN,(cI 0),cN,(cI 0),(cI 0),cN,cN,(cI 0),cN,cN,cN,cN,cN]))],7⟩) (fun (p:Nat×Bk×List (List Int)×List (Int×Answer)×Nat×List Answer)=>match p with|(u,b,days,told,cl,out)=>u<=l.length/\lY l (ke s) [] [] 0 []=lY (l.drop u) b days told cl out/\eO b/\days.length<=u/\lf l out told u) (fun (p:Nat×Bk×List (List Int)×List (Int×Answer)×Nat×List Answer)=>match p with|(u,b,days,told,cl,out)=>l.length - u) (0,ke s,([]:List (List Int)),([]:List (Int×Answer)),0,([]:List Answer)) ?_ ?_ ?_
 ·exact ⟨aa,rfl,eO.start (by rw [hr0];omega),ca,⟨rfl,fun j y h=>absurd h (Nat.not_lt_zero j),fun i a _ h=>by cases h⟩⟩
 ·exact aq.rx id (by refine ⟨?_,?_,?_,?_,trivial⟩<;>first|rfl|(simp only [fQ];done)|(congr 3;omega)|(congr 4;omega)|(simp only [fR];rfl)|(simp only [zJ,ke,hst];rfl))
 rintro ⟨u,b,days,told,cl,out⟩ ⟨hi1_0,hi1_1,hi1_2,hi1_3,hi1_4⟩
 have hol:=hi1_4.len
 have okb:=hi1_2.ok
 refine ag 1 rfl (af (aO rfl (fun hc4'=>?_) (fun hc4'=>?_)))
 ·
  refine aD (af (aL (aw 1 rfl ?_)))
  obtain ⟨x1,hx1⟩:=bO (xs:=l) (i:=u) aa
  refine az (dO (i:=u) rfl rfl rfl qy EH (aV hx1)) rfl (ad 4 rfl (ae (ag 1 rfl (af (aw 1 rfl (bl rfl rfl rfl rfl aa (ad 1 rfl (ae (aL (cb (β:=Bool×Nat×Answer) (fun (p:Bool×Nat×Answer)=>match p with|(false,m,a)=>⟨[(1,(aC (kR l))),(4,(aC (.p 1 0 0 0))),(6,(aC (.p 2 0 0 0))),(8,(aC (.p 4 0 0 0))),(42,(aC (cR 3 ((s.cF).map gE)))),(43,(aI (↑s.cF.length:Int))),(44,(aI (↑q:Int))),(11,(aC (.s 6 0 2 out.length))),(56,(aC (kR l))),(57,(aI (↑l.length:Int))),(58,(aI (↑u:Int))),(13,(aC (.p 7 0 0 0))),(14,(aB false)),(15,(aI ((↑m:Int) - 1)))],[(7,(.box 69 [(cI x1.id),(cI x1.kind),(cI x1.n),(cI x1.au),(cI x1.move),(cI x1.sum)])),(6,(tC out)),(4,(.box 43 (zJ b days))),(2,(.box 47 [(cI 0),(cI 0)])),(1,(.box 43 [(cI 0),(cB false),cN,cN,cN,(cI 0),cN,(cI 0),cN,(cI 0),(cI 0),cN,cN,(cI 0),cN,cN,cN,cN,cN]))],8⟩|(true,m,a)=>⟨[(1,(aC (kR l))),(4,(aC (.p 1 0 0 0))),(6,(aC (.p 2 0 0 0))),(8,(aC (.p 4 0 0 0))),(42,(aC (cR 3 ((s.cF).map gE)))),(43,(aI (↑s.cF.length:Int))),(44,(aI (↑q:Int))),(11,(aC (.s 6 0 2 ((out++[a]).length)))),(56,(aC (kR l))),(57,(aI (↑l.length:Int))),(58,(aI (↑u:Int))),(13,(aC (.p 7 0 0 0))),(14,(aB true)),(15,(aI ((↑m:Int) - 1)))],[(7,(.box 69 [(cI x1.id),(cI x1.kind),(cI x1.n),(cI x1.au),(cI x1.move),(cI x1.sum)])),(6,(tC (out++[a]))),(4,(.box 43 (zJ b days))),(2,(.box 47 [(cI 0),(cI 0)])),(1,(.box 43 [(cI 0),(cB false),cN,cN,cN,(cI 0),cN,(cI 0),cN,(cI 0),(cI 0),cN,cN,(cI 0),cN,cN,cN,cN,cN]))],8⟩) (fun (p:Bool×Nat×Answer)=>match p with|(vf,m,a)=>m<=u/\(vf=false->xQ l u m x1.id)/\(vf=true->x1.id≠0/\gf told x1.id=some a)) (fun (p:Bool×Nat×Answer)=>match p with|(vf,m,a)=>m) (false,u,(⟨0,0⟩:Answer)) ?_ ?_ ?_))))))))))
  ·exact ⟨aa,fun _ j y h1 h2 _=>by omega,fun h=>by cases h⟩
  ·exact aq.rz id
  rintro ⟨vflag,m,a⟩ ⟨hi2_0,hi2_1,hi2_2⟩
  cases vflag
  ·
   refine af (bQ 75 ((decide (((↑m:Int) - 1)>=0)) && (decide (¬x1.id=0))) ?_ ?_)
   ·
    refine ah (ad 3 rfl (iz (t:=67) rfl (fun hb5=>?_) (fun hb5=>?_)))
    ·
     have hb5':=of_decide_eq_true hb5
     refine ad 5 rfl (iz (t:=72) rfl (fun hb6=>?_) (fun hb6=>?_))
     ·
      have hb6':=of_decide_eq_true hb6
      exact ad 3 rfl (ae (aq.ng 13 rfl rfl (by first|(simp only [hb5,hb6];done)|(simp only [hb5,hb6];rfl)|(simp [hb5,hb6];done)|(simp_all;done)|(exfalso;simp_all;done)|(simp_all;omega)) rfl))
     have hb6':=of_decide_eq_false hb6
     exact ad 3 rfl (ae (aq.ng 13 rfl rfl (by first|(simp only [hb5,hb6];done)|(simp only [hb5,hb6];rfl)|(simp [hb5,hb6];done)|(simp_all;done)|(exfalso;simp_all;done)|(simp_all;omega)) rfl))
    have hb5':=of_decide_eq_false hb5
    exact ad 8 rfl (ae (aq.ng 12 rfl rfl (by first|(simp only [hb5];done)|(simp only [hb5];rfl)|(simp [hb5];done)|(simp_all;done)|(exfalso;simp_all;done)|(simp_all;omega)) rfl))
   refine ax rfl (fun hc7=>?_) (fun hc7=>?_)
   ·
    have hc7':=hc7;try simp only [aT,bx] at hc7'
    refine aD (af (aL (af ?_)))
    obtain ⟨x2,hx2⟩:=bO (xs:=l) (i:=(m) - 1) aa
    refine bg [1,4,6,8,42,43,44,11,56,57,58,13,14,15] [7,6,4,2,1] rfl (aF 2 rfl (bh 8 [78,79] [] rfl (dO (i:=(m) - 1) rfl rfl rfl qy EH (aV hx2)) (aF 5 rfl (bf [7,6,4,2,1] rfl (ae (aO rfl (fun hc8'=>?_) (fun hc8'=>?_)))))))
    ·
     refine aw 3 rfl (az (cU (i:=(m) - 1) rfl rfl rfl tJ BJ) rfl ?_)
     obtain ⟨x3,hx3⟩:=bO (xs:=out) (i:=(m) - 1) aa
     refine az (dk rfl rfl rfl Tryz.underlying53 rfl BJ (aV hx3) rfl) rfl (ay 9 [8,7,6,4,2,1] (dM (ys:=[(0,(.g [(cI x3.err),(cI x3.ba)]))]) (rows:=([x3]).map ib) 8 nX rfl) rfl (ay 10 [9,8,7,4,2,1] (dU (m:=1) (N:=out.length+1) (k2:=9) (ys:=([x3]).map ib) nX rfl rfl rfl rfl dv) rfl (ad 1 rfl (ae (ah (ad 1 rfl (bq (aN (then_ok (ah (ad 1 rfl (bl rfl rfl rfl rfl aa (ad 1 rfl (ae (⟨(true,m - 1,x3),⟨aa,(fun h=>by cases h),fun _=>hi1_4.Md aa hx2 hc8' qd hx3⟩,bT,aq.rz (fun k=>if k=6 then 9 else k)⟩)))))))))))))))
    refine cv (aN (then_ok (ah (ad 1 rfl (bl rfl rfl rfl rfl aa (ad 1 rfl (ae (⟨(false,m - 1,a),⟨aa,fun _=>(hi2_1 rfl).step hx2 hc8',fun h=>by cases h⟩,bT,aq.rz id⟩))))))))
   have hc7':=hc7;try simp only [aT,bx] at hc7'
   refine bR (aE (aE (bw (then_ok (af (ag 1 rfl (ax rfl (fun hno=>by cases hno) (fun _=>?_))))))))
   refine aD ?_
   have hno:=hi1_4.no (x:=x1) (if h0:x1.id=0 then .inl h0 else .inr fun j y h2 h3=>hi2_1 rfl j y (by first|omega|(simp_all;omega)) h2 h3)
   obtain ⟨okt,okc,okd,oka,oky,okw0,okw1,okp,okv,okk0,okk1,okg,okl0,okl1,okp0,okp1,okn0,okn1,okq⟩:=id okb
   refine aw 1 rfl (ay 15 [8,9,10,11,12,13,14,7,6,4,2,1] (cA 8 (Jf b days (by first|assumption) hJ) LP rfl) rfl (ad 3 rfl (ae ?_)))
   rcases (show x1.kind=5\/¬x1.kind=5 from aa) with hs10|hs10
   ·
    refine aw 2 rfl ?_
    obtain ⟨v01,v11,e21,hr1⟩:∃ (v01:List bL) (v11:List bL) (e21:Int),jL b.s0 b.s1 b.n0 b.n1 b.w0 b.w1 x1=(v01,v11,e21):=⟨_,_,_,rfl⟩
    refine ay 18 [15,16,17,8,9,10,13,14,7,6,4,2,1] (cz (bp [15,11,12]) (bp [15,16,17]) (ms:=[none,none,none,none,none,some (cI b.s0.bj),some (bX b.s0.kept),some (cI b.s1.bj),some (bX b.s1.kept),some (cI b.n0),some (cI b.n1),some (.s 1 0 5 b.w0.length),some (.s 2 0 5 b.w1.length),none,none,none,none,none,none,some (cI 0)]) (ms':=[none,none,none,none,none,some (cI b.s0.bj),some (bX b.s0.kept),some (cI b.s1.bj),some (bX b.s1.kept),some (cI b.n0),some (cI b.n1),some (.s 1 0 5 v01.length),some (.s 2 0 5 v11.length),none,none,none,none,none,none,some (cI e21)]) (fun x hx=>Je x hx b.s0 b.s1 b.n0 b.n1 b.w0 b.w1 x1 hJ aa aa aa aa v01 v11 e21 hr1) IY rfl) rfl (ad 1 rfl (ae (oG (s':=[(1,(aC (kR l))),(4,(aC (.p 1 0 0 0))),(6,(aC (.p 2 0 0 0))),(8,(aC (.p 4 0 0 0))),(42,(aC (cR 3 ((s.cF).map gE)))),(43,(aI (↑s.cF.length:Int))),(44,(aI (↑q:Int))),(11,(aC (.s 6 0 2 out.length))),(56,(aC (kR l))),(57,(aI (↑l.length:Int))),(58,(aI (↑u:Int))),(13,(aC (.p 7 0 0 0))),(14,(aB false)),(15,(aI ((↑m:Int) - 1))),(75,(aB ((decide (((↑m:Int) - 1)>=0)) && (decide (¬x1.id=0))))),(93,(aB false)),(94,(aG [(cI b.time),(cB b.down),(jA b.ak),(dt b.due),(iQ b.an),(cI b.s0.bj),(bX b.s0.kept),(cI b.s1.bj),(bX b.s1.kept),(cI b.n0),(cI b.n1),(dj b.w0),(dj b.w1),(cI b.aQ.cap),(dt b.aQ.used),(eo b.aQ.aH),(eZ b.aM),(js days),(cE b.book)])),(97,(aC (.p 15 0 0 0))),(16,(aC (.p 15 0 0 0))),(98,(aC (.p 15 0 0 0))),(99,(aG [(cI x1.id),(cI x1.kind),(cI x1.n),(cI x1.au),(cI x1.move),(cI x1.sum)])),(100,(aI 0)),(17,(aI 0))]) (h':=[(15,(.box 73 (((((((cf b 0 0 0 0 (js days) (cI e21)).set 2 (jA b.ak)).set 3 (dt b.due)).set 4 (iQ b.an)).set 11 (dj v01)).set 12 (dj v11)).set 16 (eZ b.aM)))),(7,(.box 69 [(cI x1.id),(cI x1.kind),(cI x1.n),(cI x1.au),(cI x1.move),(cI x1.sum)])),(6,(tC out)),(4,(.box 43 (zJ b days))),(2,(.box 47 [(cI 0),(cI 0)])),(1,(.box 43 [(cI 0),(cB false),cN,cN,cN,(cI 0),cN,(cI 0),cN,(cI 0),(cI 0),cN,cN,(cI 0),cN,cN,cN,cN,cN]))]) [8,9,10,16,17,13,14] rfl ⟨rfl,rfl,rfl,rfl,rfl,rfl,rfl,rfl,rfl,rfl,rfl,rfl,rfl,rfl,rfl,rfl,rfl,rfl,rfl,rfl,rfl,rfl,rfl,trivial⟩ rfl ⟨⟨_,rfl,.inr ⟨_,_,_,rfl,rfl,⟨.inl rfl,.inl rfl,.inr (.s rfl cm ca),.inr (.s rfl cm ca),.inr (.s rfl cm ca),.inl rfl,.inl rfl,.inl rfl,.inl rfl,.inl rfl,.inl rfl,.inr (.s rfl cm ca),.inr (.s rfl cm ca),.inl rfl,.inl rfl,.inl rfl,.inr (.s rfl cm ca),.inr (.s rfl cm ca),.inl rfl,.inl rfl,trivial⟩⟩⟩,⟨_,rfl,.inl rfl⟩,⟨_,rfl,.inl rfl⟩,⟨_,rfl,.inl rfl⟩,⟨_,rfl,.inl rfl⟩,⟨_,rfl,.inl rfl⟩,trivial⟩ rfl (ag 5 rfl (aO rfl (fun hc11'=>?_) (fun hc11'=>?_))))))
    ·
     refine ag 5 rfl (ah (ad 3 rfl (ay 19 [18,15,7,6,4,2,1] (dM (ys:=[(0,(.g [(cI 0),(cI 0)]))]) (rows:=([(⟨0,0⟩:Answer)]).map ib) 18 nX rfl) rfl (ay 20 [19,18,15,7,4,2,1] (dU (m:=1) (N:=out.length+1) (k2:=19) (ys:=([(⟨0,0⟩:Answer)]).map ib) nX rfl rfl rfl rfl dv) rfl (ad 1 rfl (bq (aN (then_ok (ah (bl rfl rfl rfl rfl aa (ad 1 rfl (ae ?_))))))))))))
     have hD:=wD (y:=days) hs10 hr1
     rw [if_pos aa] at hD
     refine ⟨(u+1,(⟨b.time,b.down,b.ak,b.due,b.an,b.s0,b.s1,b.n0,b.n1,v01,v11,b.aQ,b.aM,b.book⟩:Bk),days,lC told x1.id (⟨0,0⟩:Answer),if (gf told x1.id).isSome then cl else cl+1,out++([(⟨0,0⟩:Answer)])),⟨aa,by rw [hi1_1,ln hx1,qN hno,hD],(hi1_2.next hD).1,(by have:=(hi1_2.next hD).2;omega),hi1_4.new hx1 hno _⟩,bT,aq.rz (fun k=>if k=6 then 19 else k)⟩
    refine ah (ad 6 rfl (ay 19 [18,15,7,6,4,2,1] (dM (ys:=[(0,(.g [(cI e21),(cI 0)]))]) (rows:=([(⟨e21,0⟩:Answer)]).map ib) 18 nX rfl) rfl (ay 20 [19,18,15,7,4,2,1] (dU (m:=1) (N:=out.length+1) (k2:=19) (ys:=([(⟨e21,0⟩:Answer)]).map ib) nX rfl rfl rfl rfl dv) rfl (ad 1 rfl (bq (aN (then_ok (ah (bl rfl rfl rfl rfl aa (ad 1 rfl (ae ?_)))))))))))
    have hD:=wD (y:=days) hs10 hr1
    rw [if_neg aa] at hD
    refine ⟨(u+1,b,days,lC told x1.id (⟨e21,0⟩:Answer),if (gf told x1.id).isSome then cl else cl+1,out++([(⟨e21,0⟩:Answer)])),⟨aa,by rw [hi1_1,ln hx1,qN hno,hD],(hi1_2.next hD).1,(by have:=(hi1_2.next hD).2;omega),hi1_4.new hx1 hno _⟩,bT,aq.rz (fun k=>if k=6 then 19 else k)⟩
   refine oG (s':=[(1,(aC (kR l))),(4,(aC (.p 1 0 0 0))),(6,(aC (.p 2 0 0 0))),(8,(aC (.p 4 0 0 0))),(42,(aC (cR 3 ((s.cF).map gE)))),(43,(aI (↑s.cF.length:Int))),(44,(aI (↑q:Int))),(11,(aC (.s 6 0 2 out.length))),(56,(aC (kR l))),(57,(aI (↑l.length:Int))),(58,(aI (↑u:Int))),(13,(aC (.p 7 0 0 0))),(14,(aB false)),(15,(aI ((↑m:Int) - 1))),(75,(aB ((decide (((↑m:Int) - 1)>=0)) && (decide (¬x1.id=0))))),(93,(aB false)),(94,(aG [(cI b.time),(cB b.down),(jA b.ak),(dt b.due),(iQ b.an),(cI b.s0.bj),(bX b.s0.kept),(cI b.s1.bj),(bX b.s1.kept),(cI b.n0),(cI b.n1),(dj b.w0),(dj b.w1),(cI b.aQ.cap),(dt b.aQ.used),(eo b.aQ.aH),(eZ b.aM),(js days),(cE b.book)])),(97,(aC (.p 15 0 0 0))),(16,(aC (.p 15 0 0 0)))]) (h':=[(15,(.box 73 (cf b 8 9 10 13 (.s 14 0 1 days.length) (cI 0)))),(8,(dS b.ak)),(9,(dR b.due)),(10,(ec b.an)),(13,(cX b.aM)),(14,(mY days)),(7,(.box 69 [(cI x1.id),(cI x1.kind),(cI x1.n),(cI x1.au),(cI x1.move),(cI x1.sum)])),(6,(tC out)),(4,(.box 43 (zJ b days))),(2,(.box 47 [(cI 0),(cI 0)])),(1,(.box 43 [(cI 0),(cB false),cN,cN,cN,(cI 0),cN,(cI 0),cN,(cI 0),(cI 0),cN,cN,(cI 0),cN,cN,cN,cN,cN]))]) [11,12] rfl ⟨rfl,rfl,rfl,rfl,rfl,rfl,rfl,rfl,rfl,rfl,rfl,rfl,rfl,rfl,rfl,rfl,rfl,rfl,rfl,trivial⟩ rfl ⟨⟨_,rfl,.inr ⟨_,_,_,rfl,rfl,⟨.inl rfl,.inl rfl,.inl rfl,.inl rfl,.inl rfl,.inl rfl,.inl rfl,.inl rfl,.inl rfl,.inl rfl,.inl rfl,.inr (.s rfl cm ca),.inr (.s rfl cm ca),.inl rfl,.inl rfl,.inl rfl,.inl rfl,.inl rfl,.inl rfl,.inl rfl,trivial⟩⟩⟩,⟨_,rfl,.inl rfl⟩,⟨_,rfl,.inl rfl⟩,⟨_,rfl,.inl rfl⟩,⟨_,rfl,.inl rfl⟩,⟨_,rfl,.inl rfl⟩,⟨_,rfl,.inl rfl⟩,⟨_,rfl,.inl rfl⟩,⟨_,rfl,.inl rfl⟩,⟨_,rfl,.inl rfl⟩,⟨_,rfl,.inl rfl⟩,trivial⟩ rfl (aw 2 rfl ?_)
   obtain ⟨b22,y22,e22,n22,hr2⟩:∃ (b22:Bk) (y22:List (List Int)) (e22:Int) (n22:Int),fO b days x1=(b22,y22,e22,n22):=⟨_,_,_,_,rfl⟩
   refine ay 21 [15,16,17,18,19,20,7,6,4,2,1] (cz (bp [15,8,9,10,13,14]) (bp [15,16,17,18,19,20]) (ms:=(iW b 1 2 3 4 (some (.s 5 0 1 days.length)) (some (cI 0)))) (ms':=(iW b22 1 2 3 4 (some (.s 5 0 1 y22.length)) (some (cI e22)))) (fun x hx=>Ku x hx b days x1 (by first|assumption|exact cH.tick dr aa aa) aa hJ b22 y22 e22 n22 hr2) IY rfl) rfl (ad 1 rfl (ae (oG (s':=[(1,(aC (kR l))),(4,(aC (.p 1 0 0 0))),(6,(aC (.p 2 0 0 0))),(8,(aC (.p 4 0 0 0))),(42,(aC (cR 3 ((s.cF).map gE)))),(43,(aI (↑s.cF.length:Int))),(44,(aI (↑q:Int))),(11,(aC (.s 6 0 2 out.length))),(56,(aC (kR l))),(57,(aI (↑l.length:Int))),(58,(aI (↑u:Int))),(13,(aC (.p 7 0 0 0))),(14,(aB false)),(15,(aI ((↑m:Int) - 1))),(75,(aB ((decide (((↑m:Int) - 1)>=0)) && (decide (¬x1.id=0))))),(93,(aB false)),(94,(aG [(cI b.time),(cB b.down),(jA b.ak),(dt b.due),(iQ b.an),(cI b.s0.bj),(bX b.s0.kept),(cI b.s1.bj),(bX b.s1.kept),(cI b.n0),(cI b.n1),(dj b.w0),(dj b.w1),(cI b.aQ.cap),(dt b.aQ.used),(eo b.aQ.aH),(eZ b.aM),(js days),(cE b.book)])),(97,(aC (.p 15 0 0 0))),(16,(aC (.p 15 0 0 0))),(98,(aC (.p 15 0 0 0))),(99,(aG [(cI x1.id),(cI x1.kind),(cI x1.n),(cI x1.au),(cI x1.move),(cI x1.sum)])),(100,(aI n22)),(17,(aI n22))]) (h':=[(15,(.box 73 (((((cf b22 0 0 0 0 (js y22) (cI e22)).set 2 (jA b22.ak)).set 3 (dt b22.due)).set 4 (iQ b22.an)).set 16 (eZ b22.aM)))),(7,(.box 69 [(cI x1.id),(cI x1.kind),(cI x1.n),(cI x1.au),(cI x1.move),(cI x1.sum)])),(6,(tC out)),(4,(.box 43 (zJ b days))),(2,(.box 47 [(cI 0),(cI 0)])),(1,(.box 43 [(cI 0),(cB false),cN,cN,cN,(cI 0),cN,(cI 0),cN,(cI 0),(cI 0),cN,cN,(cI 0),cN,cN,cN,cN,cN]))]) [16,17,18,19,20] rfl ⟨rfl,rfl,rfl,rfl,rfl,rfl,rfl,rfl,rfl,rfl,rfl,rfl,rfl,rfl,rfl,rfl,rfl,rfl,rfl,rfl,rfl,rfl,rfl,trivial⟩ rfl ⟨⟨_,rfl,.inr ⟨_,_,_,rfl,rfl,⟨.inl rfl,.inl rfl,.inr (.s rfl cm ca),.inr (.s rfl cm ca),.inr (.s rfl cm ca),.inl rfl,.inl rfl,.inl rfl,.inl rfl,.inl rfl,.inl rfl,.inl rfl,.inl rfl,.inl rfl,.inl rfl,.inl rfl,.inr (.s rfl cm ca),.inr (.s rfl cm ca),.inl rfl,.inl rfl,trivial⟩⟩⟩,⟨_,rfl,.inl rfl⟩,⟨_,rfl,.inl rfl⟩,⟨_,rfl,.inl rfl⟩,⟨_,rfl,.inl rfl⟩,⟨_,rfl,.inl rfl⟩,trivial⟩ rfl (ag 5 rfl (aO rfl (fun hc12'=>?_) (fun hc12'=>?_))))))
   ·
    refine ag 5 rfl (ah (ad 3 rfl (ay 22 [21,15,7,6,4,2,1] (dM (ys:=[(0,(.g [(cI 0),(cI n22)]))]) (rows:=([(⟨0,n22⟩:Answer)]).map ib) 21 nX rfl) rfl (ay 23 [22,21,15,7,4,2,1] (dU (m:=1) (N:=out.length+1) (k2:=22) (ys:=([(⟨0,n22⟩:Answer)]).map ib) nX rfl rfl rfl rfl dv) rfl (ad 1 rfl (bq (aN (then_ok (ah (bl rfl rfl rfl rfl aa (ad 1 rfl (ae ?_))))))))))))
    have hD:=Bq hi1_2 hs10 hr2
    rw [if_pos aa] at hD
    refine ⟨(u+1,b22,y22,lC told x1.id (⟨0,n22⟩:Answer),if (gf told x1.id).isSome then cl else cl+1,out++([(⟨0,n22⟩:Answer)])),⟨aa,by rw [hi1_1,ln hx1,qN hno,hD],(hi1_2.next hD).1,(by have:=(hi1_2.next hD).2;omega),hi1_4.new hx1 hno _⟩,bT,aq.rz (fun k=>if k=6 then 22 else k)⟩
   refine ah (ad 6 rfl (ay 22 [21,15,7,6,4,2,1] (dM (ys:=[(0,(.g [(cI e22),(cI 0)]))]) (rows:=([(⟨e22,0⟩:Answer)]).map ib) 21 nX rfl) rfl (ay 23 [22,21,15,7,4,2,1] (dU (m:=1) (N:=out.length+1) (k2:=22) (ys:=([(⟨e22,0⟩:Answer)]).map ib) nX rfl rfl rfl rfl dv) rfl (ad 1 rfl (bq (aN (then_ok (ah (bl rfl rfl rfl rfl aa (ad 1 rfl (ae ?_)))))))))))
   have hD:=Bq hi1_2 hs10 hr2
   rw [if_neg aa] at hD
   refine ⟨(u+1,b,days,lC told x1.id (⟨e22,0⟩:Answer),if (gf told x1.id).isSome then cl else cl+1,out++([(⟨e22,0⟩:Answer)])),⟨aa,by rw [hi1_1,ln hx1,qN hno,hD],(hi1_2.next hD).1,(by have:=(hi1_2.next hD).2;omega),hi1_4.new hx1 hno _⟩,bT,aq.rz (fun k=>if k=6 then 22 else k)⟩
  refine af (bQ 75 (false) ?_ ?_)
  ·
   refine ah (ad 3 rfl (iz (t:=67) rfl (fun hb13=>?_) (fun hb13=>?_)))
   ·
    have hb13':=of_decide_eq_true hb13
    refine ad 5 rfl (iz (t:=72) rfl (fun hb14=>?_) (fun hb14=>?_))
    ·
     have hb14':=of_decide_eq_true hb14
     exact ad 3 rfl (ae (aq.ng 13 rfl rfl (by first|(simp only [hb13,hb14];done)|(simp only [hb13,hb14];rfl)|(simp [hb13,hb14];done)|(simp_all;done)|(exfalso;simp_all;done)|(simp_all;omega)) rfl))
    have hb14':=of_decide_eq_false hb14
    exact ad 3 rfl (ae (aq.ng 13 rfl rfl (by first|(simp only [hb13,hb14];done)|(simp only [hb13,hb14];rfl)|(simp [hb13,hb14];done)|(simp_all;done)|(exfalso;simp_all;done)|(simp_all;omega)) rfl))
   have hb13':=of_decide_eq_false hb13
   exact ad 8 rfl (ae (aq.ng 12 rfl rfl (by first|(simp only [hb13];done)|(simp only [hb13];rfl)|(simp [hb13];done)|(simp_all;done)|(exfalso;simp_all;done)|(simp_all;omega)) rfl))
  refine ax rfl (fun hno=>by cases hno) (fun _=>?_)
  refine bR (aE (aE (bw (then_ok (af (ag 1 rfl (ax rfl (fun _=>?_) (fun hno=>by cases hno))))))))
  refine bR (aE (bw (then_ok (ah (bl rfl rfl rfl rfl aa (ad 1 rfl (ae (⟨(u+1,b,days,told,cl,out++[a]),⟨aa,by rw [hi1_1,ln hx1,EV (hi2_2 rfl).2 (hi2_2 rfl).1],hi1_2,aa,hi1_4.cu hx1 (hi2_2 rfl).2⟩,bT,aq.rz id⟩))))))))
 refine bR (aE (aE (bw (then_ok (ag 6 rfl (al ?_))))))
 have hX:jO s l=(b,days,out,(⟨0,0⟩:cM)):=by
   unfold jO;rw [hr0,if_neg aa,if_neg aa,hi1_1,List.drop_of_length_le aa];rfl
 rw [hX] at hr;clear hX
 simp only [Prod.mk.injEq] at hr;obtain ⟨rfl,rfl,rfl,rfl⟩:=hr
 exact bb [6,1,2] 1 rfl

theorem AA (s:Setup) (l:List bW):Fn Tryz.prog 3 [(.g [(cR 3 ((s.cF).map gE)),(cI s.gp),(cI s.cap)]),(.c (kR l))] (aB true) []:=by
 refine Fn.mk' 64 [(0,(aG [(cR 3 ((s.cF).map gE)),(cI s.gp),(cI s.cap)])),(1,(aC (kR l)))] Tryz.func3 rfl rfl rfl rfl ?_
 intro W0 T0
 refine ck 0 0 rfl rfl (fun hlen0_0=>?_)
 refine dE 1 rfl (fun hlen1=>?_)
 refine ag 2 rfl (aw 2 rfl ?_)
 obtain ⟨b20,y20,o20,f20,hr0⟩:∃ (b20:Bk) (y20:List (List Int)) (o20:List Answer) (f20:cM),jO s l=(b20,y20,o20,f20):=⟨_,_,_,_,rfl⟩
 have hpl:=GW hr0
 refine ay 1 [0] (cA 1 (Fn.frozen (av':=(.t [(.g [(cI b20.time),(cB b20.down),(jA b20.ak),(dt b20.due),(iQ b20.an),(cI b20.s0.bj),(bX b20.s0.kept),(cI b20.s1.bj),(bX b20.s1.kept),(cI b20.n0),(cI b20.n1),(dj b20.w0),(dj b20.w1),(cI b20.aQ.cap),(dt b20.aQ.used),(eo b20.aQ.aH),(eZ b20.aM),(js y20),(cE b20.book)]),(.c (CS o20)),(.g [(cI f20.err),(cI f20.at_)])])) (Jq s l b20 y20 o20 f20 hr0) ⟨⟨.inl ⟨_,rfl,rfl⟩,.inl ⟨_,rfl,rfl⟩,.inr ⟨_,_,_,_,_,rfl,rfl,rfl,ca⟩,.inr ⟨_,_,_,_,_,rfl,rfl,rfl,ca⟩,.inr ⟨_,_,_,_,_,rfl,rfl,rfl,ca⟩,.inl ⟨_,rfl,rfl⟩,.inl ⟨_,rfl,rfl⟩,.inl ⟨_,rfl,rfl⟩,.inl ⟨_,rfl,rfl⟩,.inl ⟨_,rfl,rfl⟩,.inl ⟨_,rfl,rfl⟩,.inl ⟨_,rfl,rfl⟩,.inl ⟨_,rfl,rfl⟩,.inl ⟨_,rfl,rfl⟩,.inl ⟨_,rfl,rfl⟩,.inl ⟨_,rfl,rfl⟩,.inr ⟨_,_,_,_,_,rfl,rfl,rfl,ca⟩,.inr ⟨_,_,_,_,_,rfl,rfl,rfl,ca⟩,.inl ⟨_,rfl,rfl⟩,trivial⟩,.inr ⟨_,_,_,_,_,rfl,rfl,rfl,ca⟩,⟨.inl ⟨_,rfl,rfl⟩,.inl ⟨_,rfl,rfl⟩,trivial⟩,trivial⟩) Mh rfl) rfl (ad 9 rfl (ae (aw 2 rfl (ay 3 [2,1,0] (cA 3 (Fn.frozen (av':=(.t [(.g [(cI b20.time),(cB b20.down),(jA b20.ak),(dt b20.due),(iQ b20.an),(cI b20.s0.bj),(bX b20.s0.kept),(cI b20.s1.bj),(bX b20.s1.kept),(cI b20.n0),(cI b20.n1),(dj b20.w0),(dj b20.w1),(cI b20.aQ.cap),(dt b20.aQ.used),(eo b20.aQ.aH),(eZ b20.aM),(js y20),(cE b20.book)]),(.c (CS o20)),(.g [(cI f20.err),(cI f20.at_)])])) (Hq s l b20 y20 o20 f20 hr0) ⟨⟨.inl ⟨_,rfl,rfl⟩,.inl ⟨_,rfl,rfl⟩,.inl ⟨_,rfl,rfl⟩,.inl ⟨_,rfl,rfl⟩,.inl ⟨_,rfl,rfl⟩,.inl ⟨_,rfl,rfl⟩,.inl ⟨_,rfl,rfl⟩,.inl ⟨_,rfl,rfl⟩,.inl ⟨_,rfl,rfl⟩,.inl ⟨_,rfl,rfl⟩,.inl ⟨_,rfl,rfl⟩,.inl ⟨_,rfl,rfl⟩,.inl ⟨_,rfl,rfl⟩,.inl ⟨_,rfl,rfl⟩,.inl ⟨_,rfl,rfl⟩,.inl ⟨_,rfl,rfl⟩,.inl ⟨_,rfl,rfl⟩,.inl ⟨_,rfl,rfl⟩,.inl ⟨_,rfl,rfl⟩,trivial⟩,.inr ⟨_,_,_,_,_,rfl,rfl,rfl,ca⟩,⟨.inl ⟨_,rfl,rfl⟩,.inl ⟨_,rfl,rfl⟩,trivial⟩,trivial⟩) Mg rfl) rfl (ad 9 rfl (ae (af (af ?_))))))))
 obtain ⟨f2,hr2⟩:∃ (f2:cM),eC s=f2:=⟨_,rfl⟩
 refine bg [2,5,7,6,8,10,9] [4,3,2,1,0] rfl (aF 1 rfl (bM 5 [26] [] rfl (cA 5 (sD s f2 hr2) KH rfl) rfl (aF 1 rfl (bM 5 [28] [] rfl (cA 5 (zq s f2 hr2) KG rfl) rfl (bM 5 [27,29] [] rfl (bU.cast (oB (GF _ _ _ _) rfl rfl rfl rfl rfl rfl) (congrArg aB (show (!(fI [.int .i64 f2.err,.int .i64 f2.at_] [.int .i64 f2.err,.int .i64 f2.at_]))=false by simp [fI,kv]))) rfl (aF 3 rfl (cG (n':=5) [32,33,31] [] rfl rfl (.inl ⟨(aR.yes rfl rfl rfl),bU.cast (oB (GF _ _ _ _) rfl rfl rfl rfl rfl rfl) (congrArg aB (show (!(fI [.int .i64 f20.err,.int .i64 f20.at_] [.int .i64 f20.err,.int .i64 f20.at_]))=false by simp [fI,kv]))⟩) rfl (aF 4 rfl (cG (n':=5) [37,38,36] [] rfl rfl (.inl ⟨(aR.yes rfl rfl rfl),cA 5 (Jp b20 y20) Mf rfl⟩) rfl (aF 4 rfl (cG (n':=5) [43,42] [] rfl rfl (.inl ⟨(aR.yes rfl rfl rfl),cD rfl rfl tJ⟩) rfl (aF 1 rfl (cG (n':=5) [45,42] [] rfl rfl (.inl ⟨(aR.yes rfl rfl rfl),cD rfl rfl tJ⟩) rfl (bC (kn:=[(47,false)]) bn 2 rfl ⟨(decide_eq_false (fun h=>h rfl)),trivial⟩ (bf [4,3,2,1,0] rfl (ae (ax rfl (fun hno=>by cases hno) (fun _=>?_))))))))))))))))))
 refine aD (af (aw 1 rfl (az (cD rfl rfl tJ) rfl (ad 1 rfl (ae (aL (cb (β:=Nat) (fun (q:Nat)=>⟨[(6,(aC (CS o20))),(9,(aC (CS o20))),(50,(aI (↑o20.length:Int))),(51,(aI (↑q:Int)))],[],0⟩) (fun (q:Nat)=>q<=o20.length) (fun (q:Nat)=>o20.length - q) 0 ?_ ?_ ?_)))))))
 ·exact (by first|omega|simp)
 ·exact aq.rz id
 rintro q hi0_0
 refine ag 1 rfl (af (aO rfl (fun hc2'=>?_) (fun hc2'=>?_)))
 ·
  refine aD (af (aL (ag 2 rfl (af ?_))))
  obtain ⟨x1,hx1⟩:=bO (xs:=o20) (i:=q) aa
  refine bg [6,9,50,51,11] [] rfl (aF 2 rfl (bh 0 [54,55] [] rfl (dO (i:=q) rfl rfl rfl tJ BJ (aV hx1)) (aF 3 rfl (bh 0 [58,59] [] rfl (dO (i:=q) rfl rfl rfl tJ BJ (aV hx1)) (aF 1 rfl (bM 0 [57,61] [] rfl (bU.cast (oB (Ks _ _ _ _) rfl rfl rfl rfl rfl rfl) (congrArg aB (show (!(fI [.int .i64 x1.err,.int .i64 x1.ba] [.int .i64 x1.err,.int .i64 x1.ba]))=false by simp [fI,kv]))) rfl (bf [] rfl (ae (ax rfl (fun hno=>by cases hno) (fun _=>?_))))))))))
  refine cv (aN (then_ok (ah (bl rfl rfl rfl rfl aa (ad 1 rfl (ae (⟨q+1,aa,bT,aq.rz id⟩)))))))
 refine bR (aE (aE (bw (then_ok (ag 1 rfl (al (ct bn [] 0 rfl rfl rfl rfl rfl rfl ?_ ?_)))))))
 ·rfl
 ·rfl
end Go.Proofs.YtnfopdlnboeheaaGreat.Dev
