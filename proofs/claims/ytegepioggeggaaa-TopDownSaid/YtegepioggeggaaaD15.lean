/- A part of the proof: PlLaw1, PlLaw2, PlTop, PlTop2, PlDown, LTopDown. No condition. -/
import Derived.Test.YtegepioggeggaaaD14
set_option linter.unusedVariables false
set_option linter.unusedSimpArgs false
set_option maxHeartbeats 16000000
set_option maxRecDepth 100000
namespace Go.Proofs.Ytegepioggeggaaa.Dev
open Go.RowKit
def kc (l:List bC):Prop:=∀ c∈l,0<=c.bu - c.held
theorem py {l:List bC} {e k h m:Int} (hl:kc l) (hc:∀ c,l[k.toNat]?=some c->h - m<=c.bu - c.held):kc (cw l e k h m).1:=by
 unfold cw
 split
 ·exact hl
 ·rename_i c hk
  split
  ·rename_i h0
   intro z hz
   rcases fY hz with hz|rfl
   ·exact hl z hz
   ·have he:=(fE h0).2
    rcases pW (show dP c h m=((dP c h m).1,(dP c h m).2) from rfl) with ⟨h1,_⟩|h1
    ·exact absurd he h1
    ·have h2:=h1.2.2.2.2.2.2.1
     have h3:=hc c hk
     rw [h2];dsimp only;omega
  ·exact hl
theorem iN {l:List bC} {e k h m:Int} (hl:kc l) (hm:h<=m):kc (cw l e k h m).1:=py hl fun c hc=>by have:=hl c (List.mem_of_getElem? hc);omega
theorem ze {a:bz} {t:Int} (h:bG a=0):bJ (dT a t) - bJ a<=0:=by
 have:=eI h
 unfold bJ dT
 cases hs:a.shut<;>cases ht:decide (a.cP<=t)<;>simp<;>omega
theorem qY {time:Int}:∀ (l:List bz) (i:Nat) (ao:List bC) (au:List bz) (e:Int),(∀ a∈l,bG a=0)->kc ao->kc (fm time l i ao au e).1
 |[],_,_,_,_,_,h=>h
 |a::l,i,ao,au,e,hw,h=>qY l (i+1) _ _ _ (fun x hx=>hw x (List.mem_cons_of_mem _ hx)) (iN h (ze (hw a List.mem_cons_self)))
theorem qZ {time:Int} {n:Int}:∀ (l:List bz) (i:Nat) (ao:List bC) (au:List bz) (e:Int),(∀ a∈l,a.bm=n)->(∀ a∈au,a.bm=n)->∀ a∈(fm time l i ao au e).2.1,a.bm=n
 |[],_,_,_,_,_,h=>h
 |a::l,i,ao,au,e,hl,h=>qZ l (i+1) _ _ _ (fun x hx=>hl x (List.mem_cons_of_mem _ hx)) fun x hx=>by
  rcases fY hx with hx|rfl
  ·exact h x hx
  ·exact hl a List.mem_cons_self
structure eL (b:Bk):Prop where
 ok:cj b
 up:b.down=false
 hZ:∀ a∈b.au,a.bm=0
 free:kc b.ao
 k0:∀ t∈b.s0.kept,0<=t.sum
 k1:∀ t∈b.s1.kept,0<=t.sum
 p0:∀ p∈b.w0,0<=p.ct.sum
 p1:∀ p∈b.w1,0<=p.ct.sum
theorem eL.dt {b c:Bk} {e:Int} (h:eL b) (hc:e=0->eL c):eL (dt b c e).1:=by
 unfold Dev.dt;split
 ·exact hc (by assumption)
 ·exact h
theorem eL.late {b:Bk} (h:eL b):eL (gn b):=by
 have hok:=h.ok.late
 unfold gn at hok ⊢
 split
 ·rename_i h0
  rw [if_pos h0] at hok
  exact ⟨hok,h.up,qZ _ _ _ _ _ h.hZ h.hZ,qY _ _ _ _ _ (fun a ha=>(h.ok.perm a ha).1) h.free,h.k0,h.k1,h.p0,h.p1⟩
 ·exact h
theorem eL.start {s:Setup} (h:(eo s).err=0):eL (hJ s):=
 ⟨cj.start h,rfl,fun a ha=>(by cases ha),fun c hc=>(by
  obtain ⟨p,_,rfl⟩:=List.mem_map.1 (show c∈s.cY.map ph from hc)
  exact Int.le_refl _),fun a ha=>(by cases ha),fun a ha=>(by cases ha),fun a ha=>(by cases ha),fun a ha=>(by cases ha)⟩
theorem yd {c:bC} {n t:Int} (h:(dQ c n t).2=0):0<=(dQ c n t).1.bu - (dQ c n t).1.held:=by
 rcases qv (show dQ c n t=((dQ c n t).1,(dQ c n t).2) from rfl) with ⟨h5,_⟩|⟨h5,h6,h7,h8,h9,h10,h11,l,h12,h13⟩
 ·exact absurd h h5
 ·rw [h13];dsimp only;omega
theorem eL.asks {b:Bk} (h:eL b) (d:aZ):eL (du b d).1:=by
 have hok:=h.ok.asks d
 unfold du at hok ⊢
 rw [h.up] at hok ⊢
 simp only [Bool.false_eq_true,if_false] at hok ⊢
 split
 ·exact h
 rename_i c1
 rw [if_neg c1] at hok
 split
 ·exact h
 rename_i c2
 rw [if_neg c2] at hok
 split
 ·exact h
 rename_i c3
 rw [if_neg c3] at hok
 obtain ⟨_,w2,_⟩:=ox (show (cZ d.n d.ay d.sum b.time).2=0 by omega)
 split
 ·exact h
 rename_i c hc
 rw [hc] at hok
 dsimp only at hok
 split
 ·exact h
 rename_i c4
 rw [if_neg c4] at hok
 refine ⟨hok,rfl,fun a ha=>?_,fun z hz=>?_,h.k0,h.k1,h.p0,h.p1⟩
 ·rcases List.mem_append.1 ha with ha|ha
  ·exact h.hZ a ha
  ·obtain rfl:=List.mem_singleton.1 ha;rw [w2]
 ·rcases fY hz with hz|rfl
  ·exact h.free z hz
  ·exact yd (by omega)
theorem xB {a b:bz} {k n:Int} (hw:bG a=0) (h1:1<=n) (hm:jE a k n b):(k=1->bJ b - bJ a=n)/\(k=2\/k=3->bJ b - bJ a<=0 - n)/\(k=4->bJ b - bJ a<=0)/\(k=6\/b.bm<=a.bm):=by
 have hr:=eI hw
 cases hm with
 |more h hs hn=>subst h;unfold bJ;rw [hs];simp;omega
 |take h hs hn=>
  unfold bJ;rw [hs];dsimp only
  refine ⟨fun h=>by omega,fun _=>?_,fun h=>by omega,.inr (Int.le_refl _)⟩
  split<;>simp at *<;>omega
 |less h hs hn=>
  subst h;unfold bJ;rw [hs];dsimp only
  refine ⟨fun h=>by omega,fun h=>by omega,fun _=>?_,.inr (Int.le_refl _)⟩
  split<;>simp at *<;>omega
 |uw h hn=>subst h;exact ⟨fun h=>by omega,fun h=>by omega,fun h=>by omega,.inr (Int.le_refl _)⟩
 |sg h hn=>subst h;exact ⟨fun h=>by omega,fun h=>by omega,fun h=>by omega,.inl rfl⟩
 |sc h hn=>subst h;exact ⟨fun h=>by omega,fun h=>by omega,fun h=>by omega,.inr (by dsimp only;omega)⟩
 |sb h hn=>subst h;exact ⟨fun h=>by omega,fun h=>by omega,fun h=>by omega,.inr (by dsimp only;omega)⟩
theorem xA {a b:bz} {k n:Int} (hm:jE a k n b) (h1:1<=n) (hk:k=7\/k=8):1<=a.bm:=by
 cases hm<;>omega
theorem oc {s:bU} {e:Int} {t:bl} (h:∀ t∈s.kept,0<=t.sum) (ht:0<=t.sum):∀ u∈(eC s e t).1.kept,0<=u.sum:=by
 unfold eC
 split
 ·rename_i h0
  have he:=(fE h0).2
  unfold gl at he
  split at he
  ·rename_i h1;exact absurd he h1
  split at he
  ·rename_i h1;exact absurd he h1
  ·rename_i h1 h2
   have hp:(gl s t).1=lf s t:=by unfold gl;rw [if_neg h1,if_neg h2]
   dsimp only
   rw [hp]
   intro u hu
   rcases List.mem_append.1 hu with hu|hu
   ·exact h u hu
   ·obtain rfl:=List.mem_singleton.1 hu;exact ht
 ·exact h
theorem eL.lp {b:Bk} (h:eL b) (d:aZ) (hd:¬d.move=6):eL (dM b d).1:=by
 have hok:=h.ok.lp d
 unfold dM at hok ⊢
 rw [h.up] at hok ⊢
 simp only [Bool.false_eq_true,if_false] at hok ⊢
 split
 ·exact h
 rename_i c1
 rw [if_neg c1] at hok
 split
 ·exact h
 rename_i cx ho
 rw [ho] at hok
 dsimp only at hok
 split
 ·exact h
 rename_i c2
 rw [if_neg c2] at hok
 split
 ·exact h
 rename_i c3
 rw [if_neg c3] at hok
 have hmv:ck cx d.move d.sum=((ck cx d.move d.sum).1,0):=Prod.ext rfl (by dsimp only;omega)
 generalize (ck cx d.move d.sum).1=a at *
 rcases qd hmv with ⟨h4,_⟩|⟨_,hw,hn1,hn2,hm⟩
 ·exact absurd rfl h4
 have hold:=h.hZ cx (List.mem_of_getElem? ho)
 have hr:=eI hw
 obtain ⟨m1,m2,m3,m4⟩:=xB hw hn1 hm
 have hcard:a.aK=cx.aK:=(pD hmv).2.1
 have hra:=eI (pD hmv).1
 unfold pf at hok ⊢
 have hcards:kc (dS b a cx d).1:=by
  unfold dS
  split
  ·rename_i hk
   rcases hk with hk|hk
   ·refine py h.free fun c hc=>?_
    have hf:¬d.sum > ku b.ao a.aK:=fun hf=>c3 ⟨hk,hf⟩
    unfold ku at hf;rw [hc] at hf;dsimp only at hf
    have:=m1 hk;omega
   ·exact iN h.free (m3 hk)
  split
  ·rename_i hk;exact iN h.free (m2 hk)
  split
  ·exact h.free
  split
  ·exact h.free
  split
  ·rename_i hk;have:=xA hm hn1 (.inr hk);omega
  ·exact h.free
 unfold Dev.dt at hok ⊢
 split
 ·rename_i h0
  rw [if_pos h0] at hok
  have hks:(∀ t∈(dS b a cx d).2.2.2.1.kept,0<=t.sum)/\∀ t∈(dS b a cx d).2.2.2.2.1.kept,0<=t.sum:=by
   unfold dS
   split
   ·exact ⟨h.k0,h.k1⟩
   split
   ·exact ⟨oc h.k0 (by dsimp only;omega),h.k1⟩
   split
   ·exact ⟨h.k0,oc h.k1 (by dsimp only;omega)⟩
   split
   ·exact ⟨oc h.k0 (by dsimp only;omega),h.k1⟩
   split
   ·exact ⟨h.k0,h.k1⟩
   ·exact ⟨h.k0,h.k1⟩
  refine ⟨hok,h.up,fun x hx=>?_,hcards,hks.1,hks.2,h.p0,h.p1⟩
  rcases fY hx with hx|rfl
  ·exact h.hZ x hx
  ·rcases m4 with h6|h6
   ·exact absurd h6 hd
   ·omega
 ·exact h
theorem qG {au:List bz} {due:List Int} {ao:List bC} {book:List Entry} {e:Int} {t:bl} (h:kc ao) (ht:0<=t.sum):kc (eB au due ao book e t).2.1:=by
 unfold eB
 split
 ·exact h
 split
 ·exact h
 split
 ·exact iN h ht
 split
 ·exact h
 ·exact h
theorem eL.load {b:Bk} (h:eL b) (d:aZ):eL (fx b d).1:=by
 have hok:=h.ok.load d
 unfold fx at hok ⊢
 split
 ·exact h
 rename_i c1
 rw [if_neg c1] at hok
 split
 ·exact h
 rename_i c2
 rw [if_neg c2] at hok
 unfold Dev.dt at hok ⊢
 split
 ·rename_i h0;rw [if_pos h0] at hok;exact ⟨hok,h.up,h.hZ,iN h.free (by omega),h.k0,h.k1,h.p0,h.p1⟩
 ·exact h
theorem eL.uA {b:Bk} (h:eL b) (d:aZ):eL (gL b d).1:=by
 have hok:=h.ok.uA d
 unfold gL at hok ⊢
 split
 ·exact h
 rename_i c1
 rw [if_neg c1] at hok
 split
 ·exact h
 rename_i c2
 rw [if_neg c2] at hok
 unfold Dev.dt at hok ⊢
 split
 ·rename_i h0;rw [if_pos h0] at hok;exact ⟨hok,h.up,h.hZ,h.free,h.k0,h.k1,h.p0,h.p1⟩
 ·exact h
theorem eL.cH {b:Bk} (h:eL b) (d:aZ):eL (fe b d).1:=by
 unfold fe
 split
 ·exact h
 ·rw [h.up]
  simp only [Bool.false_eq_true,if_false]
  have h1:eL {b with time:=b.time+d.sum}:=⟨h.ok.tick (by have:=h.ok.time;omega) (by have:=h.ok.time;omega),h.up,h.hZ,h.free,h.k0,h.k1,h.p0,h.p1⟩
  have h2:=h1.late
  rwa [show ({b with time:=b.time+d.sum}:Bk)={b with time:=b.time+d.sum,down:=false} by rw [<-h.up]] at h2
theorem sJ {w:List cc} {ks:List bl} {n:Int} (h:∀ p∈w,0<=p.ct.sum) (hk:∀ t∈ks,0<=t.sum):∀ p∈(jo w ks n).1,0<=p.ct.sum:=by
 unfold jo
 split
 ·exact h
 ·intro p hp
  rcases sP hp with hp|⟨t,ht,rfl⟩|rfl
  ·exact h p hp
  ·exact hk t ht
  ·exact Int.le_refl _
theorem eL.send {b:Bk} (h:eL b) (d:aZ):eL {b with w0:=(eJ b.s0 b.s1 b.n0 b.n1 b.w0 b.w1 d).1,w1:=(eJ b.s0 b.s1 b.n0 b.n1 b.w0 b.w1 d).2.1}:=by
 refine ⟨h.ok.send d,h.up,h.hZ,h.free,h.k0,h.k1,?_,?_⟩
 ·dsimp only;unfold eJ
  split
  ·exact h.p0
  split
  ·exact sJ h.p0 h.k1
  ·exact h.p0
 ·dsimp only;unfold eJ
  split
  ·exact sJ h.p1 h.k0
  split
  ·exact h.p1
  ·exact h.p1
theorem tv {s:bU} {n:Int} (h:∀ t∈s.kept,0<=t.sum) (hb:(dX s n).2=0):∀ t∈(dX s n).1.kept,0<=t.sum:=by
 rcases pk (show dX s n=((dX s n).1,(dX s n).2) from rfl) with ⟨h1,_⟩|⟨_,_,_,_,h2⟩
 ·exact absurd hb h1
 ·rw [h2];exact fun t ht=>h t (sW ht)
theorem eL.lq {b:Bk} (h:eL b) (d:aZ):eL (cq b d).1:=by
 have hok:=h.ok.lq d
 unfold cq at hok ⊢
 split
 ·rename_i c0
  rw [if_pos c0] at hok
  unfold fN at hok ⊢
  split
  ·exact h
  rename_i p hp
  rw [hp] at hok
  dsimp only at hok
  have hps:=h.p0 p (List.mem_of_getElem? hp)
  have hd:∀ p∈b.w0.drop 1,0<=p.ct.sum:=fun p hp=>h.p0 p (List.mem_of_mem_drop hp)
  split
  ·rename_i c1;rw [if_pos c1] at hok;exact ⟨hok,h.up,h.hZ,h.free,h.k0,h.k1,hd,h.p1⟩
  rename_i c1
  rw [if_neg c1] at hok
  split
  ·rename_i c2
   rw [if_pos c2] at hok
   split
   ·rename_i c3;rw [if_pos c3] at hok;exact ⟨hok,h.up,h.hZ,h.free,tv h.k0 c3,h.k1,hd,h.p1⟩
   ·exact h
  rename_i c2
  rw [if_neg c2] at hok
  split
  ·rename_i c3
   rw [if_pos c3] at hok
   unfold Dev.dt at hok ⊢
   split
   ·rename_i c4;rw [if_pos c4] at hok;exact ⟨hok,h.up,h.hZ,qG h.free hps,h.k0,h.k1,hd,h.p1⟩
   ·exact h
  ·rename_i c3;rw [if_neg c3] at hok;exact ⟨hok,h.up,h.hZ,h.free,h.k0,h.k1,hd,h.p1⟩
 rename_i c0
 rw [if_neg c0] at hok
 split
 ·rename_i c01
  rw [if_pos c01] at hok
  unfold fM at hok ⊢
  split
  ·exact h
  rename_i p hp
  rw [hp] at hok
  dsimp only at hok
  have hps:=h.p1 p (List.mem_of_getElem? hp)
  have hd:∀ p∈b.w1.drop 1,0<=p.ct.sum:=fun p hp=>h.p1 p (List.mem_of_mem_drop hp)
  split
  ·rename_i c1;rw [if_pos c1] at hok;exact ⟨hok,h.up,h.hZ,h.free,h.k0,h.k1,h.p0,hd⟩
  rename_i c1
  rw [if_neg c1] at hok
  split
  ·rename_i c2
   rw [if_pos c2] at hok
   split
   ·rename_i c3;rw [if_pos c3] at hok;exact ⟨hok,h.up,h.hZ,h.free,h.k0,tv h.k1 c3,h.p0,hd⟩
   ·exact h
  rename_i c2
  rw [if_neg c2] at hok
  split
  ·rename_i c3
   rw [if_pos c3] at hok
   unfold Dev.dt at hok ⊢
   split
   ·rename_i c4;rw [if_pos c4] at hok;exact ⟨hok,h.up,h.hZ,qG h.free hps,h.k0,h.k1,h.p0,hd⟩
   ·exact h
  ·rename_i c3;rw [if_neg c3] at hok;exact ⟨hok,h.up,h.hZ,h.free,h.k0,h.k1,h.p0,hd⟩
 ·exact h
theorem eL.Bb {b:Bk} (h:eL b) (y:List (List Int)) (d:aZ) (h8:¬d.kind=8) (h6:¬(d.kind=3/\d.move=6)):eL (dU b y d).1:=by
 unfold dU
 split
 ·exact h.load d
 split
 ·exact h.asks d
 split
 ·rename_i h3;exact h.lp d fun e=>h6 ⟨h3,e⟩
 split
 ·exact h.cH d
 split
 ·exact h.send d
 split
 ·exact h.lq d
 split
 ·have:(ig b).1=b:=by unfold ig;rw [if_pos h.up]
  rw [this];exact h
 split
 ·exact ⟨h.ok.pX (lI (y:=y) h.ok.aQ).1,h.up,h.hZ,h.free,h.k0,h.k1,h.p0,h.p1⟩
 split
 ·exact h.uA d
 ·exact h
section
def ei (k:Int):List bz->Int
 |[]=>0
 |a::l=>(if a.aK=k then bJ a else 0)+ei k l
theorem rf (k:Int) (u v:List bz):ei k (u++v)=ei k u+ei k v:=by
 induction u with
 |nil=>simp [ei]
 |cons a u ih=>simp only [List.cons_append,ei,ih];omega
theorem nn (k:Int) (b:bz):∀ {l:List bz} {i:Nat} {a:bz},l[i]?=some a->ei k (l.set i b)=ei k l - (if a.aK=k then bJ a else 0)+(if b.aK=k then bJ b else 0)
 |x::l,0,a,h=>by
  have:x=a:=by simpa using h
  subst this
  simp only [List.set_cons_zero,ei];omega
 |x::l,i+1,a,h=>by
  have h:l[i]?=some a:=by simpa using h
  simp only [List.set_cons_succ,ei,nn k b h];omega
def gu (ao:List bC) (au:List bz):Prop:=∀ (k:Nat) (c:bC),ao[k]?=some c->c.held=ei k au
theorem px {l:List bC} {e k h m:Int} (hz:(cw l e k h m).2=0):e=0/\((l[k.toNat]?=none/\(cw l e k h m).1=l)\/∃ c,l[k.toNat]?=some c/\(cw l e k h m).1=l.set k.toNat ⟨c.bu+m,c.held+h,c.ca,c.cL⟩):=by
 unfold cw at hz ⊢
 cases hc:l[k.toNat]? with
 |none=>rw [hc] at hz;exact ⟨hz,.inl ⟨rfl,rfl⟩⟩
 |some c=>
  rw [hc] at hz
  dsimp only at hz ⊢
  split at hz
  ·rename_i h0
   obtain ⟨h1,h2⟩:=fE h0
   rcases pW (show dP c h m=((dP c h m).1,(dP c h m).2) from rfl) with ⟨h3,_⟩|h3
   ·exact absurd h2 h3
   ·rw [if_pos h0]
    exact ⟨h1,.inr ⟨c,rfl,by dsimp only;rw [h3.2.2.2.2.2.2.1]⟩⟩
  ·rename_i h0;exact absurd hz h0
theorem gu.shift {ao:List bC} {au auths':List bz} {e k h m:Int} (hh:gu ao au) (hz:(cw ao e k h m).2=0) (ha:∀ j:Nat,ei j auths'=ei j au+if j=k.toNat then h else 0):gu (cw ao e k h m).1 auths':=by
 obtain ⟨_,hz⟩:=px hz
 intro j c hc
 rcases hz with ⟨h1,h2⟩|⟨c0,h1,h2⟩
 ·rw [h2] at hc
  have:j≠k.toNat:=fun e=>by subst e;rw [h1] at hc;cases hc
  rw [hh j c hc,ha j,if_neg this];omega
 ·rw [h2,List.getElem?_set] at hc
  split at hc
  ·rename_i e
   split at hc
   ·injection hc with hc;subst hc
    have:=hh _ c0 h1
    rw [ha j,if_pos e.symm,<-e];dsimp only;omega
   ·cases hc
  ·rename_i e
   rw [hh j c hc,ha j,if_neg (Ne.symm e)];omega
theorem gu.same {ao:List bC} {au:List bz} {e k m:Int} (hh:gu ao au) (hz:(cw ao e k 0 m).2=0):gu (cw ao e k 0 m).1 au:=hh.shift hz fun j=>by split<;>omega
theorem mX {s:bU} {e:Int} {t:bl} (h:(eC s e t).2=0):e=0/\(gl s t).2=0/\(eC s e t).1=(gl s t).1:=by
 unfold eC at h ⊢
 split at h
 ·rename_i h0;obtain ⟨h1,h2⟩:=fE h0;rw [if_pos h0];exact ⟨h1,h2,rfl⟩
 ·rename_i h0;exact absurd h h0
theorem uz {s:bU} {t:bl} (h:(gl s t).2=0):(cE s).err=0/\(cE (lf s t)).err=0/\(gl s t).1=lf s t:=by
 unfold gl at h ⊢
 split at h
 ·rename_i h1;exact absurd h h1
 split at h
 ·rename_i h1;exact absurd h h1
 ·rename_i h1 h2;rw [if_neg h1,if_neg h2];exact ⟨by omega,by omega,rfl⟩
theorem wW {s:bU} {n:Int} (h:(dX s n).2=0):(cE s).err=0/\0<=n/\n<=s.bV/\(dX s n).1=⟨s.bV,dE (came n) s.kept⟩/\(cE (dX s n).1).err=0:=by
 rcases pk (show dX s n=((dX s n).1,(dX s n).2) from rfl) with ⟨h1,_⟩|⟨_,h1,h2,h3,h4⟩
 ·exact absurd h h1
 ·exact ⟨h1,h2,h3,h4,by rw [h4];exact yb h1 h2 h3⟩
structure dY (b:Bk):Prop where
 ok:cj b
 held:gu b.ao b.au
 s0:(cE b.s0).err=0
 s1:(cE b.s1).err=0
 st:bO b.bE=0
 used:b.bE.used.length=b.ao.length
 aQ:∀ x∈b.aQ,wz x
theorem qW {time:Int}:∀ (l:List bz) (i:Nat) (ao:List bC) (au:List bz) (e:Int),(fm time l i ao au e).2.2=0->e=0
 |[],_,_,_,_,h=>h
 |a::l,i,ao,au,e,h=>(px (qW l _ _ _ _ h)).1
theorem qX {time:Int}:∀ (l:List bz) (i:Nat) (ao:List bC) (au:List bz) (e:Int),(fm time l i ao au e).2.2=0->au.drop i=l->(∀ a∈l,0<=a.aK)->gu ao au->gu (fm time l i ao au e).1 (fm time l i ao au e).2.1
 |[],_,_,_,_,_,_,_,h=>h
 |a::l,i,ao,au,e,hz,hd,hp,h=>by
  have hat:au[i]?=some a:=by
   have:(au.drop i)[0]?=some a:=by rw [hd];rfl
   rwa [List.getElem?_drop,Nat.add_zero] at this
  have hilt:=(List.getElem?_eq_some_iff.1 hat).1
  refine qX l (i+1) _ _ _ hz ?_ (fun x hx=>hp x (List.mem_cons_of_mem _ hx)) (h.shift (qW l _ _ _ _ hz) fun j=>?_)
  ·rw [List.drop_set_of_lt (by omega)]
   have:au.drop (i+1)=(au.drop i).drop 1:=by rw [List.drop_drop]
   rw [this,hd];rfl
  ·have hc:=hp a List.mem_cons_self
   rw [nn _ _ hat]
   have:(dT a time).aK=a.aK:=rfl
   rw [this]
   by_cases e:a.aK=(j:Int)
   ·rw [if_pos e,if_pos e,if_pos (by omega)];omega
   ·rw [if_neg e,if_neg e,if_neg (by omega)];omega
theorem yX {time:Int} (l:List bz) (i:Nat) (ao:List bC) (au:List bz) (e:Int):(fm time l i ao au e).1.length=ao.length:=by
 induction l generalizing i ao au e with
 |nil=>rfl
 |cons a l ih=>exact (ih (i+1) _ _ _).trans (eW _ _ _ _ _)
theorem dY.late {b:Bk} (h:dY b):dY (gn b):=by
 have hok:=h.ok.late
 unfold gn at hok ⊢
 split
 ·rename_i h0
  rw [if_pos h0] at hok
  exact ⟨hok,qX _ _ _ _ _ h0 rfl (fun a ha=>(h.ok.perm a ha).2.1) h.held,h.s0,h.s1,h.st,by dsimp only;rw [yX];exact h.used,h.aQ⟩
 ·exact h
theorem dY.start {s:Setup} (h:(eo s).err=0):dY (hJ s):=by
 obtain ⟨h1,h2,h3,h4,h5,h6⟩:=kx h
 have hn:dq s.cap s.cY.length=({cap:=s.cap,used:=List.replicate s.cY.length 0,aU:=[]},0):=pE h1 ⟨h4,h5⟩
 refine ⟨cj.start h,fun k c hc=>?_,rfl,rfl,?_,?_,fun x hx=>by cases hx⟩
 ·have hc:(s.cY.map ph)[k]?=some c:=hc
  rw [List.getElem?_map] at hc
  cases hp:s.cY[k]? with
  |none=>rw [hp] at hc;cases hc
  |some p=>rw [hp] at hc;injection hc with hc;subst hc;rfl
 ·show bO (dq s.cap s.cY.length).1=0
  rw [hn];exact ow _ _ h1 h4 h5
 ·show (dq s.cap s.cY.length).1.used.length=(s.cY.map ph).length
  rw [hn];simp
theorem dY.load {b:Bk} (h:dY b) (d:aZ):dY (fx b d).1:=by
 have hok:=h.ok.load d
 unfold fx at hok ⊢
 split
 ·exact h
 rename_i c1
 rw [if_neg c1] at hok
 split
 ·exact h
 rename_i c2
 rw [if_neg c2] at hok
 unfold Dev.dt at hok ⊢
 split
 ·rename_i h0
  rw [if_pos h0] at hok
  exact ⟨hok,h.held.same (jv h0).1,h.s0,h.s1,h.st,by dsimp only;rw [eW];exact h.used,h.aQ⟩
 ·exact h
theorem dY.uA {b:Bk} (h:dY b) (d:aZ):dY (gL b d).1:=by
 have hok:=h.ok.uA d
 unfold gL at hok ⊢
 split
 ·exact h
 rename_i c1
 rw [if_neg c1] at hok
 split
 ·exact h
 rename_i c2
 rw [if_neg c2] at hok
 unfold Dev.dt at hok ⊢
 split
 ·rename_i h0;rw [if_pos h0] at hok;exact ⟨hok,h.held,h.s0,h.s1,h.st,h.used,h.aQ⟩
 ·exact h
theorem dY.cH {b:Bk} (h:dY b) (d:aZ):dY (fe b d).1:=by
 unfold fe
 split
 ·exact h
 ·have h1:dY {b with time:=b.time+d.sum}:=⟨h.ok.tick (by have:=h.ok.time;omega) (by have:=h.ok.time;omega),h.held,h.s0,h.s1,h.st,h.used,h.aQ⟩
  dsimp only
  split
  ·exact h1
  ·exact h1.late
theorem dY.send {b:Bk} (h:dY b) (d:aZ):dY {b with w0:=(eJ b.s0 b.s1 b.n0 b.n1 b.w0 b.w1 d).1,w1:=(eJ b.s0 b.s1 b.n0 b.n1 b.w0 b.w1 d).2.1}:=
 ⟨h.ok.send d,h.held,h.s0,h.s1,h.st,h.used,h.aQ⟩
theorem qF {au:List bz} {due:List Int} {ao:List bC} {book:List Entry} {e:Int} {t:bl} (h:gu ao au) (hz:(eB au due ao book e t).2.2.2=0):gu (eB au due ao book e t).2.1 au/\(eB au due ao book e t).2.1.length=ao.length:=by
 unfold eB at hz ⊢
 split
 ·exact ⟨h,rfl⟩
 rename_i a ha
 rw [ha] at hz
 dsimp only at hz
 split
 ·exact ⟨h,rfl⟩
 rename_i c1
 rw [if_neg c1] at hz
 split
 ·rename_i c2;rw [if_pos c2] at hz;exact ⟨h.same (jv hz).1,eW _ _ _ _ _⟩
 split
 ·exact ⟨h,rfl⟩
 ·exact ⟨h,rfl⟩
theorem dY.lq {b:Bk} (h:dY b) (d:aZ):dY (cq b d).1:=by
 have hok:=h.ok.lq d
 unfold cq at hok ⊢
 split
 ·rename_i c0
  rw [if_pos c0] at hok
  unfold fN at hok ⊢
  split
  ·exact h
  rename_i p hp
  rw [hp] at hok
  dsimp only at hok
  split
  ·rename_i c1;rw [if_pos c1] at hok;exact ⟨hok,h.held,h.s0,h.s1,h.st,h.used,h.aQ⟩
  rename_i c1
  rw [if_neg c1] at hok
  split
  ·rename_i c2
   rw [if_pos c2] at hok
   split
   ·rename_i c3;rw [if_pos c3] at hok;exact ⟨hok,h.held,(wW c3).2.2.2.2,h.s1,h.st,h.used,h.aQ⟩
   ·exact h
  rename_i c2
  rw [if_neg c2] at hok
  split
  ·rename_i c3
   rw [if_pos c3] at hok
   unfold Dev.dt at hok ⊢
   split
   ·rename_i c4;rw [if_pos c4] at hok;obtain ⟨r1,r2⟩:=qF h.held c4;exact ⟨hok,r1,h.s0,h.s1,h.st,h.used.trans r2.symm,h.aQ⟩
   ·exact h
  ·rename_i c3;rw [if_neg c3] at hok;exact ⟨hok,h.held,h.s0,h.s1,h.st,h.used,h.aQ⟩
 rename_i c0
 rw [if_neg c0] at hok
 split
 ·rename_i c01
  rw [if_pos c01] at hok
  unfold fM at hok ⊢
  split
  ·exact h
  rename_i p hp
  rw [hp] at hok
  dsimp only at hok
  split
  ·rename_i c1;rw [if_pos c1] at hok;exact ⟨hok,h.held,h.s0,h.s1,h.st,h.used,h.aQ⟩
  rename_i c1
  rw [if_neg c1] at hok
  split
  ·rename_i c2
   rw [if_pos c2] at hok
   split
   ·rename_i c3;rw [if_pos c3] at hok;exact ⟨hok,h.held,h.s0,(wW c3).2.2.2.2,h.st,h.used,h.aQ⟩
   ·exact h
  rename_i c2
  rw [if_neg c2] at hok
  split
  ·rename_i c3
   rw [if_pos c3] at hok
   unfold Dev.dt at hok ⊢
   split
   ·rename_i c4;rw [if_pos c4] at hok;obtain ⟨r1,r2⟩:=qF h.held c4;exact ⟨hok,r1,h.s0,h.s1,h.st,h.used.trans r2.symm,h.aQ⟩
   ·exact h
  ·rename_i c3;rw [if_neg c3] at hok;exact ⟨hok,h.held,h.s0,h.s1,h.st,h.used,h.aQ⟩
 ·exact h
theorem zj {s:cr} {a:bS} (h:(bW s a).2=0):(bW s a).1.used.length=s.used.length:=by
 unfold bW at h ⊢
 split at h
 ·rename_i h1;exact absurd h h1
 split at h
 ·cases h
 split at h
 ·cases h
 split at h
 ·cases h
 ·rename_i h1 h2 h3 h4;rw [if_neg h1,if_neg h2,if_neg h3,if_neg h4];exact List.length_set ..
theorem gu.new {ao:List bC} {au:List bz} {k:Int} {c c':bC} {a:bz} (hh:gu ao au) (hk:0<=k) (hc:ao[k.toNat]?=some c) (ha:a.aK=k) (h':c'.held=c.held+bJ a):gu (ao.set k.toNat c') (au++[a]):=by
 intro j z hz
 rw [rf]
 have h1:ei j [a]=if a.aK=j then bJ a else 0:=by simp [ei]
 rw [h1]
 rw [List.getElem?_set] at hz
 split at hz
 ·rename_i e
  split at hz
  ·injection hz with hz;subst hz
   have:=hh _ c hc
   rw [if_pos (by omega),<-e];omega
  ·cases hz
 ·rename_i e
  rw [hh j z hz,if_neg (by omega)];omega
theorem dY.asks {b:Bk} (h:dY b) (d:aZ):dY (du b d).1:=by
 have hok:=h.ok.asks d
 unfold du at hok ⊢
 split
 ·exact h
 rename_i c0
 rw [if_neg c0] at hok
 split
 ·rename_i cd
  rw [if_pos cd] at hok
  split
  ·exact h
  rename_i c1
  rw [if_neg c1] at hok
  split
  ·exact h
  rename_i c2
  rw [if_neg c2] at hok
  have he:=rn (show fL (bW b.bE ⟨d.n,d.ay,d.sum,b.time⟩).2=0 by omega)
  exact ⟨hok,h.held,h.s0,h.s1,(rk h.st he).1,(zj he).trans h.used,h.aQ⟩
 rename_i cd
 rw [if_neg cd] at hok
 split
 ·exact h
 rename_i c2
 rw [if_neg c2] at hok
 split
 ·exact h
 rename_i c3
 rw [if_neg c3] at hok
 obtain ⟨_,w2,_⟩:=ox (show (cZ d.n d.ay d.sum b.time).2=0 by omega)
 split
 ·exact h
 rename_i c hc
 rw [hc] at hok
 dsimp only at hok
 split
 ·exact h
 rename_i c4
 rw [if_neg c4] at hok
 refine ⟨hok,h.held.new (by omega) hc (by rw [w2]) ?_,h.s0,h.s1,h.st,by dsimp only;rw [List.length_set];exact h.used,h.aQ⟩
 rcases qv (show dQ c d.sum b.time=((dQ c d.sum b.time).1,(dQ c d.sum b.time).2) from rfl) with ⟨h5,_⟩|⟨h5,h6,h7,h8,h9,h10,h11,l,h12,h13⟩
 ·omega
 ·rw [h13,w2];simp [bJ]
theorem tX:∀ (l:List bS) (cs:List bC) (xs:List bz),(fA l cs xs).2.2=0->gu cs xs->(∀ a∈l,0<=a.aK/\a.aK < cs.length)->gu (fA l cs xs).1 (fA l cs xs).2.1/\(fA l cs xs).1.length=cs.length
 |[],cs,xs,_,h,_=>⟨h,rfl⟩
 |x::l,cs,xs,hz,h,hl=>by
  unfold fA at hz ⊢
  split at hz
  ·rename_i h1;exact absurd hz h1
  rename_i h1
  rw [if_neg h1]
  have hx:=hl x List.mem_cons_self
  cases hc:cs[x.aK.toNat]? with
  |none=>have:=List.getElem?_eq_none_iff.1 hc;omega
  |some c=>
   rw [hc] at hz
   dsimp only at hz ⊢
   split at hz
   ·rename_i h2;exact absurd hz h2
   rename_i h2
   rw [if_neg h2]
   obtain ⟨_,w2,_⟩:=ox (show (cZ x.aK x.ay x.sum x.time).2=0 by omega)
   obtain ⟨_,f2,_⟩:=oF (show (eu c x.sum).2=0 by omega)
   have:=tX l _ _ hz (h.new hx.1 hc (by rw [w2]) (by rw [f2,w2];simp [bJ])) (fun a ha=>by rw [List.length_set];exact hl a (List.mem_cons_of_mem _ ha))
   rw [List.length_set] at this
   exact this
theorem dY.CM {b:Bk} (h:dY b):dY (ig b).1:=by
 unfold ig
 split
 ·exact h
 split
 ·exact h
 split
 ·exact h
 rename_i c1 c2 c3
 have h0:(cM b.bE).2.2=0:=by omega
 obtain ⟨r1,r2,r3⟩:=qt h0
 have hu:=h.ok.zY h0
 have hz:(fA (cM b.bE).2.1 b.ao b.au).2.2=0:=by omega
 obtain ⟨u1,u2⟩:=tX _ _ _ hz h.held (fun a ha=>by rw [r3] at ha;have:=h.ok.jh a ha;omega)
 have hp:=gd h.st
 refine dY.late ⟨hu,u1,h.s0,h.s1,?_,?_,h.aQ⟩
 ·dsimp only;rw [r2]
  have hc:0<=b.bE.cap/\b.bE.cap<=1000000:=by simpa [fZ] using hp.2.2.1
  exact ow _ _ hp.1 hc.1 hc.2
 ·dsimp only;rw [r2,u2];simp [h.used]
theorem dY.lp {b:Bk} (h:dY b) (d:aZ):dY (dM b d).1:=by
 have hok:=h.ok.lp d
 unfold dM at hok ⊢
 split
 ·exact h
 rename_i cd
 rw [if_neg cd] at hok
 split
 ·exact h
 rename_i c1
 rw [if_neg c1] at hok
 split
 ·exact h
 rename_i cx ho
 rw [ho] at hok
 dsimp only at hok
 split
 ·exact h
 rename_i c2
 rw [if_neg c2] at hok
 split
 ·exact h
 rename_i c3
 rw [if_neg c3] at hok
 have hmv:ck cx d.move d.sum=((ck cx d.move d.sum).1,0):=Prod.ext rfl (by dsimp only;omega)
 generalize (ck cx d.move d.sum).1=a at *
 obtain ⟨_,hwa,hcard,hshop,hk1,hk2,hn1,hn2⟩:=mm hmv
 rcases qd hmv with ⟨h4,_⟩|⟨_,hw,_,_,hm⟩
 ·exact absurd rfl h4
 have hp:=h.ok.perm cx (List.mem_of_getElem? ho)
 have hra:=eI hwa
 have hset:∀ j:Nat,ei j (b.au.set d.n.toNat a)=ei j b.au+if j=a.aK.toNat then bJ a - bJ cx else 0:=fun j=>by
  rw [nn _ _ ho,hcard]
  by_cases e:cx.aK=(j:Int)
  ·rw [if_pos e,if_pos e,if_pos (by omega)];omega
  ·rw [if_neg e,if_neg e,if_neg (by omega)];omega
 have hsame:bJ a=bJ cx->∀ j:Nat,ei j (b.au.set d.n.toNat a)=ei j b.au:=fun e j=>by rw [hset j];split<;>omega
 have hh:d.move=5\/d.move=6\/d.move=7\/d.move=8->bJ a=bJ cx:=fun e=>by
  cases hm with
  |uw _ _=>rfl
  |sg _ _=>rfl
  |sc _ _=>rfl
  |sb _ _=>rfl
  |more h _ _=>omega
  |take h _ _=>omega
  |less h _ _=>omega
 unfold pf Dev.dt at hok ⊢
 split
 rotate_left
 ·exact h
 rename_i h0
 rw [if_pos h0] at hok
 obtain ⟨e0,hl0,hnote⟩:=xx h0
 have key:gu (dS b a cx d).1 (b.au.set d.n.toNat a)/\(cE (dS b a cx d).2.2.2.1).err=0/\(cE (dS b a cx d).2.2.2.2.1).err=0/\(dS b a cx d).1.length=b.ao.length:=by
  unfold dS at e0 ⊢
  split at e0
  ·rename_i hk;rw [if_pos hk];exact ⟨h.held.shift e0 hset,h.s0,h.s1,eW _ _ _ _ _⟩
  rename_i k1
  rw [if_neg k1]
  split at e0
  ·rename_i hk;rw [if_pos hk]
   obtain ⟨e1,e2,e3⟩:=mX e0
   obtain ⟨_,p2,p3⟩:=uz e2
   exact ⟨h.held.shift (jv e1).1 hset,by dsimp only;rw [e3,p3];exact p2,h.s1,eW _ _ _ _ _⟩
  rename_i k2
  rw [if_neg k2]
  split at e0
  ·rename_i hk;rw [if_pos hk]
   obtain ⟨e1,e2,e3⟩:=mX e0
   obtain ⟨_,p2,p3⟩:=uz e2
   exact ⟨fun j c hc=>by rw [hsame (hh (.inl hk)) j];exact h.held j c hc,h.s0,by dsimp only;rw [e3,p3];exact p2,rfl⟩
  rename_i k3
  rw [if_neg k3]
  split at e0
  ·rename_i hk;rw [if_pos hk]
   exact ⟨h.held.shift (jv e0).1 fun j=>by rw [hsame (hh (.inr (.inl hk))) j];split<;>omega,h.s0,h.s1,eW _ _ _ _ _⟩
  rename_i k4
  rw [if_neg k4]
  split at e0
  ·rename_i hk;rw [if_pos hk]
   obtain ⟨e1,e2,e3⟩:=mX e0
   obtain ⟨_,p2,p3⟩:=uz e2
   exact ⟨fun j c hc=>by rw [hsame (hh (.inr (.inr (.inl hk)))) j];exact h.held j c hc,by dsimp only;rw [e3,p3];exact p2,h.s1,rfl⟩
  rename_i k5
  rw [if_neg k5]
  split at e0
  ·rename_i hk;rw [if_pos hk]
   exact ⟨h.held.shift (jv e0).1 fun j=>by rw [hsame (hh (.inr (.inr (.inr hk)))) j];split<;>omega,h.s0,h.s1,eW _ _ _ _ _⟩
  ·omega
 refine ⟨hok,key.1,key.2.1,key.2.2.1,h.st,h.used.trans key.2.2.2.symm,fun x hx=>?_⟩
 dsimp only at hx
 rw [hnote] at hx
 rcases List.mem_append.1 hx with hx|hx
 ·exact h.aQ x hx
 ·obtain rfl:=List.mem_singleton.1 hx
  have hlen:=h.ok.au
  constructor
  ·unfold mq;dsimp only;omega
  ·unfold nC;dsimp only;omega
theorem dY.Bb {b:Bk} (h:dY b) (y:List (List Int)) (d:aZ):dY (dU b y d).1:=by
 unfold dU
 split
 ·exact h.load d
 split
 ·exact h.asks d
 split
 ·exact h.lp d
 split
 ·exact h.cH d
 split
 ·exact h.send d
 split
 ·exact h.lq d
 split
 ·split
  ·exact h
  ·exact ⟨⟨h.ok.time,h.ok.ao,h.ok.due,h.ok.au,h.ok.aQ,h.ok.w0,h.ok.w1,h.ok.perm,h.ok.jh,h.ok.k0,h.ok.k1,h.ok.right,h.ok.l0,h.ok.l1,h.ok.p0,h.ok.p1,h.ok.n0,h.ok.n1,fun h=>by cases h⟩,h.held,h.s0,h.s1,h.st,h.used,h.aQ⟩
 split
 ·exact h.CM
 split
 ·refine ⟨h.ok.pX (lI (y:=y) h.ok.aQ).1,h.held,h.s0,h.s1,h.st,h.used,?_⟩
  unfold iB
  split
  ·exact h.aQ
  ·exact fun x hx=>by cases hx
 split
 ·exact h.uA d
 ·exact h
end
section
structure HL (n:Nat) (au:List bz) (hl:List Int):Prop where
 len:hl.length=n
 at_:∀ k:Nat,k < n->hl[k]?=some (ei k au)
theorem HL.start (n:Nat):HL n [] (List.replicate n 0):=⟨List.length_replicate,fun k hk=>by rw [List.getElem?_replicate,if_pos hk];rfl⟩
theorem HL.step {n:Nat} {u:List bz} {hl:List Int} {a:bz} {x v:Int} (h:HL n u hl) (ha:0<=a.aK/\a.aK < n) (hx:hl[a.aK.toNat]?=some x) (hv:v=x+bJ a):HL n (u++[a]) (hl.set a.aK.toNat v):=by
 refine ⟨(List.length_set ..).trans h.len,fun k hk=>?_⟩
 rw [rf]
 have h1:ei k [a]=if a.aK=k then bJ a else 0:=by simp [ei]
 rw [h1,List.getElem?_set]
 have h2:=h.at_ k hk
 split
 ·rename_i e
  rw [e] at hx
  rw [hx] at h2
  injection h2 with h2
  rw [if_pos (by rw [h.len];omega),if_pos (by omega),hv,h2]
 ·rename_i e
  rw [if_neg (by omega),h2];simp
theorem uQ (k:Int):∀ {l:List bz},(∀ a∈l,bG a=0)->0<=ei k l/\ei k l<=1000000 * l.length
 |[],_=>by simp [ei]
 |a::l,h=>by
  have:=uQ k (l:=l) fun x hx=>h x (List.mem_cons_of_mem _ hx)
  have h2:=oC (h a List.mem_cons_self)
  simp only [ei,List.length_cons]
  split<;>omega
theorem HL.b {n:Nat} {u:List bz} {hl:List Int} {k:Nat} {x:Int} (h:HL n u hl) (hx:hl[k]?=some x) (hu:∀ a∈u,bG a=0) (hl':u.length<=30):0<=x/\x<=30000000:=by
 have hk:=(List.getElem?_eq_some_iff.1 hx).1
 have h2:=h.at_ k (by rw [<-h.len];exact hk)
 rw [hx] at h2;injection h2 with h2
 have:=uQ k hu
 omega
end
def mj:List aZ->Bk->List (List Int)->List Answer->Bk×List (List Int)×List Answer
 |[],b,y,out=>(b,y,out)
 |d::l,b,y,out=>mj l (dU b y d).1 (dU b y d).2.1 (out++[(dU b y d).2.2])
theorem qR:∀ {l:List aZ},(∀ d∈l,d.id=0)->∀ (b:Bk) (y:List (List Int)) (told:List (Int×Answer)) (cl:Nat) (out:List Answer),jY l b y told cl out=mj l b y out
 |[],_,_,_,_,_,_=>rfl
 |d::l,h,b,y,told,cl,out=>by
  have h0:fC b y told cl d=((dU b y d).1,(dU b y d).2.1,nW told d.id (dU b y d).2.2,if (il told d.id).isSome then cl else cl+1,(dU b y d).2.2):=by
   unfold fC;rw [if_neg (fun h'=>h'.2 (h d (by simp)))]
  unfold jY mj
  rw [h0]
  exact qR (fun x hx=>h x (by simp [hx])) _ _ _ _ _
theorem ki {d:aZ} {l:List aZ} {b b':Bk} {y y':List (List Int)} {out:List Answer} {a:Answer} (h:dU b y d=(b',y',a)):mj (d::l) b y out=mj l b' y' (out++[a]):=by
 rw [mj,h]
def jk (bA:Int):Bk:=⟨0,false,[⟨0,0,⟨1000,30,1000000000000⟩,[]⟩,⟨0,0,⟨1000,30,1000000000000⟩,[]⟩],[0,0],[],⟨0,[]⟩,⟨0,[]⟩,0,0,[],[],⟨bA,[0,0],[]⟩,[],[]⟩
theorem Cx {n:Int} (h0:0<=n) (h1:n<=1000000):fZ n=true:=by
 exact decide_eq_true ⟨h0,h1⟩
theorem Ey {bA:Int} {l:List aZ} (h0:0<=bA) (h1:bA<=1000000) (hl:l.length<=150) (hz:∀ d∈l,d.id=0):
  gW ⟨[⟨1000,30,1000000000000⟩,⟨1000,30,1000000000000⟩],2,bA⟩ l=((mj l (jk bA) [] []).1,(mj l (jk bA) [] []).2.1,(mj l (jk bA) [] []).2.2,⟨0,0⟩):=by
 have hw:eo ⟨[⟨1000,30,1000000000000⟩,⟨1000,30,1000000000000⟩],2,bA⟩=⟨0,0⟩:=by
  unfold eo
  rw [if_neg (by simp),if_neg (by dsimp only;omega)]
  rfl
 have hs:hJ ⟨[⟨1000,30,1000000000000⟩,⟨1000,30,1000000000000⟩],2,bA⟩=jk bA:=by
  unfold hJ jk dq
  rw [if_neg (by simp),if_neg (fun h=>h (Cx h0 h1))]
  rfl
 unfold gW
 rw [hw,if_neg (by simp),if_neg (by omega),hs,qR hz]
theorem As {l:List Entry} {src dst n:Int} (hw:(eg l).err=0) (hs:0<=src/\src<=57) (hd:0<=dst/\dst<=57) (hne:src≠dst) (hn:0<=n/\n<=1000000000000)
  (h1:-1000000000000<=dw l src - n) (h2:dw l dst+n<=1000000000000):
  ∃ r,dL l 0 src dst n=(r,0)/\(eg r).err=0/\∀ x,dw r x=dw l x+(if x=dst then n else 0) - (if x=src then n else 0):=by
 have hR:=(kK.1 hw).1
 have hbd:∀ a,-1000000000000<=dw l a/\dw l a<=1000000000000:=fun a=>xI fun x hx=>by
  have:=hR.ok x hx;omega
 have b1:=hbd src;have b2:=hbd dst
 have hp:∃ r,eV l [⟨src,0 - n⟩,⟨dst,n⟩]=some r:=by
  refine ⟨gy (gy l src (dw l src+(0 - n))) dst (dw l dst+n),?_⟩
  unfold eV
  rw [if_pos (lM.2 ⟨by dsimp only;omega,by dsimp only;omega⟩)]
  unfold eV
  dsimp only
  rw [qh hR.up,if_neg hne,if_pos (lM.2 ⟨by omega,by omega⟩)]
  rfl
 obtain ⟨r,hr⟩:=hp
 have hpo:fW l [⟨src,0 - n⟩,⟨dst,n⟩]=(r,0):=by
  rw [qc hw (by simp) (fun x hx=>by simp only [List.mem_cons,List.not_mem_nil,or_false] at hx;rcases hx with rfl|rfl<;>(unfold eP;dsimp only;omega)) (by simp only [ef];omega),hr]
 have hm:iD l src dst n=(r,0):=by unfold iD;rw [if_neg (by omega)];exact hpo
 refine ⟨r,?_,(oh hpo 0).1,fun x=>?_⟩
 ·unfold dL;rw [hm];rfl
 ·rw [(oh hpo x).2];simp only [lg]
  have e1:(src=x)=(x=src):=propext ⟨Eq.symm,Eq.symm⟩
  have e2:(dst=x)=(x=dst):=propext ⟨Eq.symm,Eq.symm⟩
  simp only [e1,e2]
  split<;>split<;>omega
theorem yi {c:bC} {m h:Int} (hw:cv c=0) (h1:-1000000000000<=m/\m<=1000000000000) (h2:0<=h/\h<=1000000000000):cv ⟨m,h,c.ca,c.cL⟩=0:=by
 have:=eU hw
 unfold cv;rw [if_neg (by dsimp only;omega),if_neg (fun x=>x this.2.2.2.2.1)];exact this.2.2.2.2.2
theorem sI {l:List bC} {k held bu:Int} {c:bC} (hc:l[k.toNat]?=some c) (hw:cv c=0) (h1:-1000000000000<=c.bu+bu/\c.bu+bu<=1000000000000) (h2:0<=c.held+held/\c.held+held<=1000000000000)
  (h3:-1000000000000<=held/\held<=1000000000000) (h4:-1000000000000<=bu/\bu<=1000000000000):cw l 0 k held bu=(l.set k.toNat ⟨c.bu+bu,c.held+held,c.ca,c.cL⟩,0):=by
 have hs:dP c held bu=(⟨c.bu+bu,c.held+held,c.ca,c.cL⟩,0):=by
  unfold dP;rw [if_neg (fun h=>h hw),if_neg (by omega),if_neg (fun h=>h (yi hw h1 h2))]
 rw [oa hc,hs];rfl
theorem Bd {b:Bk} {n s:Int} {c:bC} (hn:0<=n/\n<=7) (hs:1<=s/\s<=1000000) (hc:b.ao[n.toNat]?=some c) (hw:cv c=0) (hm:c.bu+s<=1000000000000) (hb:(eg b.book).err=0)
  (h1:-1000000000000<=dw b.book 0 - s) (h2:dw b.book (10+n)+s<=1000000000000):
  ∃ r,(∀ y,dU b y ⟨0,1,n,0,0,s⟩=({b with ao:=b.ao.set n.toNat ⟨c.bu+s,c.held,c.ca,c.cL⟩,book:=r},y,⟨0,0⟩))/\(eg r).err=0/\∀ x,dw r x=dw b.book x+(if x=10+n then s else 0) - (if x=0 then s else 0):=by
 have hlt:=(List.getElem?_eq_some_iff.1 hc).1
 have hR:=eU hw
 obtain ⟨r,hr,hrw,hrg⟩:=As (l:=b.book) (src:=0) (dst:=10+n) (n:=s) hb (by omega) (by omega) (by omega) (by omega) h1 h2
 refine ⟨r,fun y=>?_,hrw,hrg⟩
 have hS:=sI (l:=b.ao) (k:=n) (held:=0) (bu:=s) hc hw (by omega) (by omega) (by omega) (by omega)
 have hL:fx b ⟨0,1,n,0,0,s⟩=({b with ao:=b.ao.set n.toNat ⟨c.bu+s,c.held,c.ca,c.cL⟩,book:=r},⟨0,0⟩):=by
  unfold fx
  rw [if_neg (by dsimp only;omega),if_neg (by dsimp only;omega)]
  dsimp only
  rw [hS];dsimp only;rw [hr,Int.add_zero];rfl
 unfold dU;rw [if_pos rfl,hL]
def PT:di:=⟨1000,30,1000000000000⟩
theorem rJ {m h:Int} (h1:-1000000000000<=m/\m<=1000000000000) (h2:0<=h/\h<=1000000000000):cv ⟨m,h,PT,[]⟩=0:=by
 unfold cv;rw [if_neg (by dsimp only;omega)];rfl
theorem yW {a:bz} {t:Int} (h:t < a.cP):dT a t=a:=by
 unfold dT;rw [decide_eq_false (by omega),Bool.or_false]
theorem ra {time:Int}:∀ (l:List bz) (i:Nat) (ao:List bC) (au:List bz),au.drop i=l->(∀ a∈l,time < a.cP)->(∀ a∈l,∃ c,ao[a.aK.toNat]?=some c/\cv c=0)->fm time l i ao au 0=(ao,au,0)
 |[],_,_,_,_,_,_=>rfl
 |a::l,i,ao,au,h,ht,hc=>by
  obtain ⟨c,hg,hw⟩:=hc a List.mem_cons_self
  have hR:=eU hw
  have hl:=yW (ht a List.mem_cons_self)
  have hS:=sI (l:=ao) (k:=a.aK) (held:=0) (bu:=0) hg hw (by omega) (by omega) (by omega) (by omega)
  have hi:i < au.length:=by
   rcases Nat.lt_or_ge i au.length with h'|h'
   ·exact h'
   ·rw [List.drop_eq_nil_of_le h'] at h;cases h
  rw [List.drop_eq_getElem_cons hi] at h
  injection h with h1 h2
  have e1:ao.set a.aK.toNat ⟨c.bu+0,c.held+0,c.ca,c.cL⟩=ao:=by
   rw [Int.add_zero,Int.add_zero]
   obtain ⟨hlt,rfl⟩:=List.getElem?_eq_some_iff.1 hg
   exact List.set_getElem_self hlt
  have e2:au.set i a=au:=by rw [<-h1];exact List.set_getElem_self hi
  unfold fm
  rw [hl,Int.sub_self,hS];dsimp only
  rw [e1,e2]
  exact ra l (i+1) ao au h2 (fun x hx=>ht x (List.mem_cons_of_mem _ hx)) (fun x hx=>hc x (List.mem_cons_of_mem _ hx))
theorem Bf {b:Bk} (hd:b.down=false) (y:List (List Int)):dU b y ⟨0,8,0,0,0,0⟩=({b with down:=true},y,⟨0,0⟩):=by
 unfold dU
 rw [if_neg (by dsimp only;omega),if_neg (by dsimp only;omega),if_neg (by dsimp only;omega),if_neg (by dsimp only;omega),if_neg (by dsimp only;omega),if_neg (by dsimp only;omega),if_pos rfl,if_neg (by rw [hd];decide)]
theorem xD {b:Bk} (ht:∀ a∈b.au,b.time < a.cP) (hc:∀ a∈b.au,∃ c,b.ao[a.aK.toNat]?=some c/\cv c=0):gn b=b:=by
 unfold gn
 rw [ra b.au 0 b.ao b.au rfl ht hc,if_pos rfl]
theorem DX {b:Bk} {s:cr} {l:List bS} {cs:List bC} {xs:List bz} (hd:b.down=true) (hC:cM b.bE=(s,l,0)) (hU:fA l b.ao b.au=(cs,xs,0))
  (ht:∀ a∈xs,b.time < a.cP) (hc:∀ a∈xs,∃ c,cs[a.aK.toNat]?=some c/\cv c=0) (y:List (List Int)):
  dU b y ⟨0,9,0,0,0,0⟩=({b with ao:=cs,au:=xs,bE:=s,down:=false},y,⟨0,0⟩):=by
 have hL:ig b=({b with ao:=cs,au:=xs,bE:=s,down:=false},⟨0,0⟩):=by
  unfold ig
  rw [if_neg (by rw [hd];decide),hC]
  dsimp only
  rw [if_neg (by omega),hU]
  dsimp only
  rw [if_neg (by omega),xD ht hc]
 unfold dU
 rw [if_neg (by dsimp only;omega),if_neg (by dsimp only;omega),if_neg (by dsimp only;omega),if_neg (by dsimp only;omega),if_neg (by dsimp only;omega),if_neg (by dsimp only;omega),if_neg (by dsimp only;omega),if_pos rfl,hL]
theorem Be {b:Bk} {n p s:Int} {s':cr} (hd:b.down=true) (hn:0<=n/\n < b.ao.length) (hp:0<=p/\p < b.due.length) (hG:bW b.bE ⟨n,p,s,b.time⟩=(s',0)) (hl:b.au.length+s'.aU.length<=30) (y:List (List Int)):
  dU b y ⟨0,2,n,p,0,s⟩=({b with bE:=s'},y,⟨0,(b.au.length:Int)+s'.aU.length - 1⟩):=by
 have hL:du b ⟨0,2,n,p,0,s⟩=({b with bE:=s'},⟨0,(b.au.length:Int)+s'.aU.length - 1⟩):=by
  unfold du
  rw [if_neg (by dsimp only;omega),if_pos hd]
  dsimp only
  rw [hG]
  dsimp only
  rw [if_neg (by omega),if_neg (by simp [fL])]
 unfold dU;rw [if_neg (by dsimp only;omega),if_pos rfl,hL]
theorem Bc {b:Bk} {n p s:Int} {x:cr} (hd:b.down=true) (hn:0<=n/\n < b.ao.length) (hp:0<=p/\p < b.due.length) (hG:bW b.bE ⟨n,p,s,b.time⟩=(x,10)) (y:List (List Int)):
  dU b y ⟨0,2,n,p,0,s⟩=(b,y,⟨12,0⟩):=by
 have hL:du b ⟨0,2,n,p,0,s⟩=(b,⟨12,0⟩):=by
  unfold du
  rw [if_neg (by dsimp only;omega),if_pos hd]
  dsimp only
  rw [hG]
  dsimp only
  rw [if_neg (by simp [fL]),if_pos (by simp [fL])]
  rfl
 unfold dU;rw [if_neg (by dsimp only;omega),if_pos rfl,hL]
theorem zk {bA h s:Int} {l:List bS} (hw:bO ⟨bA,[h,0],l⟩=0) (hl:l.length < 20) (hs:1<=s/\s<=1000000):
  bW ⟨bA,[h,0],l⟩ ⟨0,0,s,0⟩=if bA < h+s then (eZ,10) else (⟨bA,[h+s,0],l++[⟨0,0,s,0⟩]⟩,0):=by
 have ho:fH [h,(0:Int)].length ⟨0,0,s,0⟩=true:=by simp [fH];omega
 unfold bW
 rw [if_neg (by rw [hw];decide),if_neg (by dsimp only;omega),if_neg (fun z=>z ho)]
 rfl
structure xb (bA h:Int) (l:List bS):Prop where
 right:bO ⟨bA,[h,0],l⟩=0
 all:∀ a∈l,∃ s,a=⟨0,0,s,0⟩/\1<=s/\s<=1000000
 sum:h=given 0 l
theorem xb.FG {bA h s:Int} {l:List bS} (H:xb bA h l) (hl:l.length < 20) (hs:1<=s/\s<=1000000) (hf:¬bA < h+s):xb bA (h+s) (l++[⟨0,0,s,0⟩]):=by
 have hG:=zk H.right hl hs
 rw [if_neg hf] at hG
 have hk:=rk (a:=⟨0,0,s,0⟩) H.right (by rw [hG])
 rw [hG] at hk
 refine ⟨hk.1,fun a ha=>?_,?_⟩
 ·rcases List.mem_append.1 ha with ha|ha
  ·exact H.all a ha
  ·exact ⟨s,List.mem_singleton.1 ha,hs⟩
 ·rw [nr,<-H.sum];rfl
def nO (has bA h:Int) (l:List bS) (r:List Entry):Bk:=⟨0,true,[⟨0+has,0,PT,[]⟩,⟨0,0,PT,[]⟩],[0,0],[],⟨0,[]⟩,⟨0,[]⟩,0,0,[],[],⟨bA,[h,0],l⟩,[],r⟩
theorem BW {has bA h s:Int} {l:List bS} {r:List Entry} (H:xb bA h l) (hl:l.length < 20) (hs:1<=s/\s<=1000000):
  ∃ h' l' z,(∀ y,dU (nO has bA h l r) y ⟨0,2,0,0,0,s⟩=(nO has bA h' l' r,y,z))/\xb bA h' l'/\l'.length<=l.length+1/\(h+s<=bA->z.err=0/\h'=h+s)/\(bA < h+s->z.err=12/\h'=h):=by
 have hG:=zk H.right hl hs
 by_cases hf:bA < h+s
 ·rw [if_pos hf] at hG
  exact ⟨h,l,⟨12,0⟩,fun y=>Bc (b:=nO has bA h l r) (n:=0) (p:=0) (s:=s) (x:=eZ) rfl (by simp [nO]) (by simp [nO]) hG y,H,by omega,fun z=>by omega,fun _=>⟨rfl,rfl⟩⟩
 ·rw [if_neg hf] at hG
  exact ⟨h+s,(l++[(⟨0,0,s,0⟩:bS)]:List bS),⟨0,_⟩,fun y=>Be (b:=nO has bA h l r) (n:=0) (p:=0) (s:=s) rfl (by simp [nO]) (by simp [nO]) hG (by simp [nO];omega) y,H.FG hl hs hf,by simp,fun _=>⟨rfl,rfl⟩,fun z=>by omega⟩
def Eh (s:Int):bz:=⟨0,0,s,0,0,0,100,false⟩
theorem BF {c2:bC} {m:Int} (hm:-1000000000000<=m/\m<=1000000000000):∀ (l:List bS) (h:Int) (xs:List bz),(∀ a∈l,∃ s,a=⟨0,0,s,0⟩/\1<=s/\s<=1000000)->0<=h->h+1000000 * l.length<=1000000000000->
  fA l [⟨m,h,PT,[]⟩,c2] xs=([⟨m,h+given 0 l,PT,[]⟩,c2],xs++l.map (fun a=>Eh a.sum),0)
 |[],h,xs,_,_,_=>by simp [fA,given]
 |a::l,h,xs,ha,h0,h1=>by
  obtain ⟨s,rfl,hs⟩:=ha a List.mem_cons_self
  rw [List.length_cons] at h1
  have hN:cZ 0 0 s 0=(⟨0,0,s,0,0,0,0+100,false⟩,0):=by unfold cZ;rw [if_neg (by omega)]
  have hF:eu ⟨m,h,PT,[]⟩ s=(⟨m,h+s,PT,[]⟩,0):=by
   unfold eu;rw [if_neg (fun z=>z (rJ hm (by omega))),if_neg (by dsimp only;omega)]
  have ih:=BF (c2:=c2) hm l (h+s) (xs++[Eh s]) (fun x hx=>ha x (List.mem_cons_of_mem _ hx)) (by omega) (by omega)
  unfold fA
  dsimp only
  rw [hN,if_neg (by simp)]
  rw [show ([⟨m,h,PT,[]⟩,c2]:List bC)[(0:Int).toNat]?=some ⟨m,h,PT,[]⟩ from rfl]
  dsimp only
  rw [hF,if_neg (by simp)]
  refine ih.trans ?_
  simp [given,Int.add_assoc]
theorem Cb {a b c:Int} {r:Bool} (h:decide (∀ n∈[a,b,c],1<=n/\n<=100000)=r) (hr:r=true):(1<=a/\a<=100000)/\(1<=b/\b<=100000)/\1<=c/\c<=100000:=by
 rw [hr] at h
 have h':=of_decide_eq_true h
 exact ⟨h' a (by simp),h' b (by simp),h' c (by simp)⟩
theorem Ba {bA has p q:Int} (h1:1<=has/\has<=100000) (h2:1<=p/\p<=100000) (h3:1<=q/\q<=100000) (h4:0<=bA) (h5:bA<=100000) {b:Bk} {y:List (List Int)} {o:List Answer} {f:cV}
  (hr:gW ⟨[⟨1000,30,1000000000000⟩,⟨1000,30,1000000000000⟩],2,bA⟩ [⟨0,1,0,0,0,has⟩,⟨0,8,0,0,0,0⟩,⟨0,2,0,0,0,p⟩,⟨0,2,0,0,0,q⟩,⟨0,9,0,0,0,0⟩]=(b,y,o,f)):
  f.err=0/\o.length=5/\b.ao.length=2/\b.down=false/\∃ h,(∀ c,b.ao[0]?=some c->c.bu=has/\c.held=h)/\∃ e1 e2,(∀ z,o[2]?=some z->z.err=e1)/\(∀ z,o[3]?=some z->z.err=e2)/\h<=bA/\0<=h/\
   ((p<=bA/\p+q<=bA/\e1=0/\e2=0/\h=p+q)\/(p<=bA/\bA < p+q/\e1=0/\e2=12/\h=p)\/(bA < p/\q<=bA/\e1=12/\e2=0/\h=q)\/(bA < p/\bA < q/\e1=12/\e2=12/\h=0)):=by
 rw [Ey (by omega) (by omega) (by simp) (by simp)] at hr
 obtain ⟨r1,d1,w1,g1⟩:=Bd (b:=jk bA) (n:=0) (s:=has) (c:=⟨0,0,PT,[]⟩) (by omega) (by omega) rfl (rJ (by omega) (by omega)) (by dsimp only;omega) rfl (by simp [jk,dw];omega) (by simp [jk,dw];omega)
 have e1:∀ y,dU (jk bA) y ⟨0,1,0,0,0,has⟩=((⟨0,false,[⟨0+has,0,PT,[]⟩,⟨0,0,PT,[]⟩],[0,0],[],⟨0,[]⟩,⟨0,[]⟩,0,0,[],[],⟨bA,[0,0],[]⟩,[],r1⟩:Bk),y,⟨0,0⟩):=d1
 have e2:∀ y,dU (⟨0,false,[⟨0+has,0,PT,[]⟩,⟨0,0,PT,[]⟩],[0,0],[],⟨0,[]⟩,⟨0,[]⟩,0,0,[],[],⟨bA,[0,0],[]⟩,[],r1⟩:Bk) y ⟨0,8,0,0,0,0⟩=(nO has bA 0 [] r1,y,⟨0,0⟩):=fun y=>Bf rfl y
 have H0:xb bA 0 []:=⟨ow bA 2 (by omega) h4 (by omega),fun a ha=>by (cases ha),rfl⟩
 obtain ⟨hA,lA,zA,dA,HA,lenA,yA,nA⟩:=BW (has:=has) (r:=r1) (s:=p) H0 (by simp) (by omega)
 rw [List.length_nil] at lenA
 obtain ⟨hB,lB,zB,dB,HB,lenB,yB,nB⟩:=BW (has:=has) (r:=r1) (s:=q) HA (by omega) (by omega)
 have hp:=gd HB.right
 have hsum:hB<=bA/\0<=hB:=by
  have h9:=mQ HB.right (i:=0) (x:=hB) rfl
  have:=(gh bA lB [hB,0] 0).1 hp.2.2.2.2 0 hB rfl
  exact ⟨this.2,h9.1⟩
 have hU:=BF (c2:=⟨0,0,PT,[]⟩) (m:=0+has) (by omega) lB 0 [] HB.all (by omega) (by omega)
 have hC:cM ⟨bA,[hB,0],lB⟩=(⟨bA,[0,0],[]⟩,lB,0):=by
  unfold cM;rw [if_neg (by rw [HB.right];decide)];rfl
 have e5:=fun y=>DX (b:=nO has bA hB lB r1) (s:=⟨bA,[0,0],[]⟩) (l:=lB) rfl hC hU (fun a ha=>by
   rw [List.nil_append,List.mem_map] at ha
   obtain ⟨x,_,rfl⟩:=ha
   simp [Eh,nO]) (fun a ha=>by
   rw [List.nil_append,List.mem_map] at ha
   obtain ⟨x,_,rfl⟩:=ha
   exact ⟨_,rfl,rJ (by omega) (by rw [<-HB.sum];omega)⟩) y
 rw [ki (e1 _),ki (e2 _),ki (dA _),ki (dB _),ki (e5 _)] at hr
 simp only [mj,Prod.mk.injEq] at hr
 obtain ⟨rfl,rfl,rfl,rfl⟩:=hr
 refine ⟨rfl,rfl,rfl,rfl,hB,fun c hc=>?_,zA.err,zB.err,fun z hz=>?_,fun z hz=>?_,hsum.1,hsum.2,?_⟩
 ·simp at hc;subst hc;rw [<-HB.sum];dsimp only;omega
 ·simp at hz;rw [<-hz]
 ·simp at hz;rw [<-hz]
 ·rw [Int.zero_add] at yA nA
  by_cases ha:p<=bA
  ·obtain ⟨a1,a2⟩:=yA ha
   by_cases hb:p+q<=bA
   ·have:=yB (by omega);exact .inl ⟨ha,hb,a1,this.1,by omega⟩
   ·have:=nB (by omega);exact .inr (.inl ⟨ha,by omega,a1,this.1,by omega⟩)
  ·obtain ⟨a1,a2⟩:=nA (by omega)
   by_cases hb:q<=bA
   ·have:=yB (by omega);exact .inr (.inr (.inl ⟨by omega,hb,a1,this.1,by omega⟩))
   ·have:=nB (by omega);exact .inr (.inr (.inr ⟨by omega,by omega,a1,this.1,by omega⟩))


def rh (q:Bool) (e:Int):Bool:=(q && decide (e=0))||(!q && decide (e=12))
theorem kq {p:Prop} [Decidable p] {e:Int} (h:(p/\e=0)\/(¬p/\e=12)):rh (decide p) e=true:=by
  rcases h with ⟨h,rfl⟩|⟨h,rfl⟩<;>simp [rh,h]

theorem jg (q:Bool) (e:Int) (r:Bool) (hr:rh q e=r):Fn Try.prog 38 [(.c (cB q)),(.c (cI e))] (.v (.c (cB r))) []:=by
 refine Fn.mk' 18 [(0,(aB q)),(1,(aI e))] Try.func38 rfl rfl rfl rfl ?_
 intro W0 T0
 refine ad aa 1 rfl ?_
 refine cm 4 ((q && (decide (e=0)))||((!q) && (decide (e=12)))) ?_ ?_
 ·
  refine aw ?_
  refine ab aa 2 rfl ?_
  refine bj (t:=6) rfl (fun hb1=>?_) (fun hb1=>?_)
  ·
   have hb1':=hb1;try simp only [bd,bF] at hb1'
   refine ab aa 4 rfl ?_
   refine bj (t:=10) rfl (fun hb2=>?_) (fun hb2=>?_)
   ·
    have hb2':=of_decide_eq_true hb2
    refine ab aa 8 rfl ?_
    refine ae ?_
    exact aD.bB 16 rfl rfl (by first|(simp [hb1,hb2];done)|(simp_all;done)|(exfalso;simp_all;done)|(simp_all;omega)) rfl
   have hb2':=of_decide_eq_false hb2
   refine ab aa 3 rfl ?_
   refine bj (t:=13) rfl (fun hno=>by simp [hb1] at hno) (fun _=>?_)
   refine ab aa 5 rfl ?_
   refine ae ?_
   exact aD.bB 17 rfl rfl (by first|(simp [hb1,hb2];done)|(simp_all;done)|(exfalso;simp_all;done)|(simp_all;omega)) rfl
  have hb1':=hb1;try simp only [bd,bF] at hb1'
  refine ab aa 7 rfl ?_
  refine bj (t:=13) rfl (fun _=>?_) (fun hno=>by simp [hb1] at hno)
  refine ab aa 5 rfl ?_
  refine ae ?_
  exact aD.bB 16 rfl rfl (by first|(simp [hb1];done)|(simp_all;done)|(exfalso;simp_all;done)|(simp_all;omega)) rfl
 refine aq ?_
 have hX:rh q e=((q && (decide (e=0)))||((!q) && (decide (e=12)))):=by
   simp [rh]
 rw [hX] at hr;clear hX
 subst hr
 refine aj aa [] 0 rfl rfl rfl rfl rfl rfl ?_ ?_
 all_goals first|rfl|(simp [ar,aR,aX];done)|(simp [ar,aR,aX];omega)
theorem zJ (bA has a b:Int):Fn Try.prog 12 [(.c (cI bA)),(.c (cI has)),(.c (cI a)),(.c (cI b))] (aB true) []:=by
 refine Fn.mk' 118 [(0,(aI bA)),(1,(aI has)),(2,(aI a)),(3,(aI b))] Try.func12 rfl rfl rfl rfl ?_
 intro W0 T0
 refine ad aa 1 rfl ?_
 refine af ?_
 refine eM ?_
 refine aL 0 [] (bI 0 (Bq) Gn rfl rfl trivial trivial trivial rfl rfl rfl rfl) rfl ?_
 refine ab aa 1 rfl ?_
 refine ae ?_
 refine ag rfl (fun hno=>by cases hno) (fun _=>?_)
 refine aN ?_
 refine af ?_
 refine az aa 3 rfl ?_
 refine aL 1 [0] (dD (ys:=[(0,(.c (cI has))),(1,(.c (cI a))),(2,(.c (cI b)))]) (rows:=([has,a,b]).map rI) 0 mf rfl (by decide) ⟨⟨rfl,rfl⟩,⟨rfl,rfl⟩,⟨rfl,rfl⟩,trivial⟩ rfl rfl rfl rfl) rfl ?_
 refine lU (s':=[(0,(aI bA)),(1,(aI has)),(2,(aI a)),(3,(aI b)),(8,(aB false)),(17,(aB true)),(18,(aB false)),(19,(aI has)),(20,(aI a)),(21,(aI b)),(22,(aC (fF ([has,a,b]))))]) (h':=[]) 0 rfl ⟨⟨_,rfl,.inl ⟨rfl,rfl⟩⟩,⟨_,rfl,.inl ⟨rfl,rfl⟩⟩,⟨_,rfl,.inl ⟨rfl,rfl⟩⟩,⟨_,rfl,.inl ⟨rfl,rfl⟩⟩,⟨_,rfl,.inl ⟨rfl,rfl⟩⟩,⟨_,rfl,.inl ⟨rfl,rfl⟩⟩,⟨_,rfl,.inl ⟨rfl,rfl⟩⟩,⟨_,rfl,.inl ⟨rfl,rfl⟩⟩,⟨_,rfl,.inl ⟨rfl,rfl⟩⟩,⟨_,rfl,.inl ⟨rfl,rfl⟩⟩,⟨_,rfl,.inr ⟨_,_,rfl,rfl,.s rfl (by decide) (by first|omega|(simp;done)|(simp;omega))⟩⟩,trivial⟩ trivial rfl ?_
 obtain ⟨r0,hr0⟩:∃ (r0:Bool),mz ([has,a,b])=r0:=⟨_,rfl⟩
 refine aL 1 [] (bI 1 (CA ([has,a,b]) r0 hr0) Gm rfl rfl ⟨⟨_,rfl,.c (.d _)⟩,trivial⟩ trivial trivial rfl rfl rfl rfl) rfl ?_
 refine ab aa 2 rfl ?_
 refine bj (t:=25) rfl (fun hb2=>?_) (fun hb2=>?_)
 ·
  have hb2':=hb2;try simp only [bd,bF] at hb2'
  refine ab aa 7 rfl ?_
  refine ae ?_
  refine ag rfl (fun _=>?_) (fun hno=>by cases hno)
  refine ad aa 1 rfl ?_
  refine aq ?_
  refine an ?_
  refine aj aa [] 0 rfl rfl rfl rfl rfl rfl ?_ ?_
  ·rfl
  ·rfl
 have hb2':=hb2;try simp only [bd,bF] at hb2'
 refine ab aa 4 rfl ?_
 refine bj (t:=29) rfl (fun hb4=>?_) (fun hb4=>?_)
 ·
  have hb4':=of_decide_eq_true hb4
  refine ab aa 3 rfl ?_
  refine ae ?_
  refine ag rfl (fun _=>?_) (fun hno=>by cases hno)
  refine ad aa 1 rfl ?_
  refine aq ?_
  refine an ?_
  refine aj aa [] 0 rfl rfl rfl rfl rfl rfl ?_ ?_
  ·rfl
  ·rfl
 have hb4':=of_decide_eq_false hb4
 refine ab aa 3 rfl ?_
 refine ae ?_
 refine ag rfl (fun hc6=>?_) (fun hc6=>?_)
 ·
  have hc6':=of_decide_eq_true hc6
  refine ad aa 1 rfl ?_
  refine aq ?_
  refine an ?_
  refine aj aa [] 0 rfl rfl rfl rfl rfl rfl ?_ ?_
  ·rfl
  ·rfl
 have hc6':=of_decide_eq_false hc6
 refine aN ?_
 have hsm:=Cb hr0 (by assumption)
 refine az aa 1 rfl ?_
 refine aL 1 [] (bI 1 (lQ 1 0 has) oJ rfl rfl ⟨⟨_,rfl,.c (.d _)⟩,⟨_,rfl,.c (.d _)⟩,⟨_,rfl,.c (.d _)⟩,trivial⟩ ⟨trivial,trivial,trivial,trivial,trivial,trivial,trivial⟩ trivial rfl rfl rfl rfl) rfl ?_
 refine ab aa 2 rfl ?_
 refine aL 1 [] (bI 1 (lQ 2 0 a) oJ rfl rfl ⟨⟨_,rfl,.c (.d _)⟩,⟨_,rfl,.c (.d _)⟩,⟨_,rfl,.c (.d _)⟩,trivial⟩ ⟨trivial,trivial,trivial,trivial,trivial,trivial,trivial⟩ trivial rfl rfl rfl rfl) rfl ?_
 refine ab aa 1 rfl ?_
 refine aL 1 [] (bI 1 (lQ 2 0 b) oJ rfl rfl ⟨⟨_,rfl,.c (.d _)⟩,⟨_,rfl,.c (.d _)⟩,⟨_,rfl,.c (.d _)⟩,trivial⟩ ⟨trivial,trivial,trivial,trivial,trivial,trivial,trivial⟩ trivial rfl rfl rfl rfl) rfl ?_
 refine ab aa 1 rfl ?_
 refine aL 2 [1] (dD (ys:=[(0,(.g [(cI 0),(cI 1),(cI 0),(cI 0),(cI 0),(cI has)])),(1,(.g [(cI 0),(cI 8),(cI 0),(cI 0),(cI 0),(cI 0)])),(2,(.g [(cI 0),(cI 2),(cI 0),(cI 0),(cI 0),(cI a)])),(3,(.g [(cI 0),(cI 2),(cI 0),(cI 0),(cI 0),(cI b)])),(4,(.g [(cI 0),(cI 9),(cI 0),(cI 0),(cI 0),(cI 0)]))]) (rows:=([(⟨0,1,0,0,0,has⟩:aZ),(⟨0,8,0,0,0,0⟩:aZ),(⟨0,2,0,0,0,a⟩:aZ),(⟨0,2,0,0,0,b⟩:aZ),(⟨0,9,0,0,0,0⟩:aZ)]).map cS) 1 rM rfl (by decide) ⟨⟨rfl,rfl⟩,⟨rfl,rfl⟩,⟨rfl,rfl⟩,⟨rfl,rfl⟩,⟨rfl,rfl⟩,trivial⟩ rfl rfl rfl rfl) rfl ?_
 refine ab aa 1 rfl ?_
 refine ae ?_
 refine az aa 1 rfl ?_
 refine aL 2 [1] (bI 2 (Fn.frozen (av':=(aG [(cR 3 (([(⟨1000,30,1000000000000⟩:di),(⟨1000,30,1000000000000⟩:di)]).map gV)),(cI 2),(cI bA)])) (vk bA) ⟨.inr ⟨_,_,_,_,_,rfl,rfl,rfl,by simp⟩,.inl ⟨_,rfl,rfl⟩,.inl ⟨_,rfl,rfl⟩,trivial⟩) DT rfl rfl ⟨⟨_,rfl,.c (.d _)⟩,trivial⟩ ⟨trivial,trivial,trivial,trivial⟩ trivial rfl rfl rfl rfl) rfl ?_
 refine ab aa 1 rfl ?_
 refine lU (s':=[(0,(aI bA)),(1,(aI has)),(2,(aI a)),(3,(aI b)),(8,(aB false)),(17,(aB true)),(18,(aB false)),(19,(aI has)),(20,(aI a)),(21,(aI b)),(22,(aC (fF ([has,a,b])))),(23,(aB r0)),(24,(aB (!r0))),(25,(aB false)),(26,(aI bA)),(27,(aB (decide (bA < 0)))),(28,(aB (decide (bA < 0)))),(29,(aB false)),(30,(aI bA)),(31,(aB (decide (bA > 100000)))),(32,(aB (decide (bA > 100000)))),(33,(aI has)),(34,(aG [(cI 0),(cI 1),(cI 0),(cI 0),(cI 0),(cI has)])),(35,(aG [(cI 0),(cI 8),(cI 0),(cI 0),(cI 0),(cI 0)])),(36,(aI a)),(37,(aG [(cI 0),(cI 2),(cI 0),(cI 0),(cI 0),(cI a)])),(38,(aI b)),(39,(aG [(cI 0),(cI 2),(cI 0),(cI 0),(cI 0),(cI b)])),(40,(aG [(cI 0),(cI 9),(cI 0),(cI 0),(cI 0),(cI 0)])),(41,(aC (qB ([(⟨0,1,0,0,0,has⟩:aZ),(⟨0,8,0,0,0,0⟩:aZ),(⟨0,2,0,0,0,a⟩:aZ),(⟨0,2,0,0,0,b⟩:aZ),(⟨0,9,0,0,0,0⟩:aZ)])))),(9,(aC (qB ([(⟨0,1,0,0,0,has⟩:aZ),(⟨0,8,0,0,0,0⟩:aZ),(⟨0,2,0,0,0,a⟩:aZ),(⟨0,2,0,0,0,b⟩:aZ),(⟨0,9,0,0,0,0⟩:aZ)])))),(43,(aI bA)),(44,(aG [(cR 3 (([(⟨1000,30,1000000000000⟩:di),(⟨1000,30,1000000000000⟩:di)]).map gV)),(cI 2),(cI bA)])),(45,(aC (qB ([(⟨0,1,0,0,0,has⟩:aZ),(⟨0,8,0,0,0,0⟩:aZ),(⟨0,2,0,0,0,a⟩:aZ),(⟨0,2,0,0,0,b⟩:aZ),(⟨0,9,0,0,0,0⟩:aZ)]))))]) (h':=[]) 1 rfl ⟨⟨_,rfl,.inl ⟨rfl,rfl⟩⟩,⟨_,rfl,.inl ⟨rfl,rfl⟩⟩,⟨_,rfl,.inl ⟨rfl,rfl⟩⟩,⟨_,rfl,.inl ⟨rfl,rfl⟩⟩,⟨_,rfl,.inl ⟨rfl,rfl⟩⟩,⟨_,rfl,.inl ⟨rfl,rfl⟩⟩,⟨_,rfl,.inl ⟨rfl,rfl⟩⟩,⟨_,rfl,.inl ⟨rfl,rfl⟩⟩,⟨_,rfl,.inl ⟨rfl,rfl⟩⟩,⟨_,rfl,.inl ⟨rfl,rfl⟩⟩,⟨_,rfl,.inl ⟨rfl,rfl⟩⟩,⟨_,rfl,.inl ⟨rfl,rfl⟩⟩,⟨_,rfl,.inl ⟨rfl,rfl⟩⟩,⟨_,rfl,.inl ⟨rfl,rfl⟩⟩,⟨_,rfl,.inl ⟨rfl,rfl⟩⟩,⟨_,rfl,.inl ⟨rfl,rfl⟩⟩,⟨_,rfl,.inl ⟨rfl,rfl⟩⟩,⟨_,rfl,.inl ⟨rfl,rfl⟩⟩,⟨_,rfl,.inl ⟨rfl,rfl⟩⟩,⟨_,rfl,.inl ⟨rfl,rfl⟩⟩,⟨_,rfl,.inl ⟨rfl,rfl⟩⟩,⟨_,rfl,.inl ⟨rfl,rfl⟩⟩,⟨_,rfl,.inl ⟨rfl,rfl⟩⟩,⟨_,rfl,.inl ⟨rfl,rfl⟩⟩,⟨_,rfl,.inl ⟨rfl,rfl⟩⟩,⟨_,rfl,.inl ⟨rfl,rfl⟩⟩,⟨_,rfl,.inl ⟨rfl,rfl⟩⟩,⟨_,rfl,.inl ⟨rfl,rfl⟩⟩,⟨_,rfl,.inl ⟨rfl,rfl⟩⟩,⟨_,rfl,.inr ⟨_,_,rfl,rfl,.s rfl (by decide) (by first|omega|(simp;done)|(simp;omega))⟩⟩,⟨_,rfl,.inr ⟨_,_,rfl,rfl,.s rfl (by decide) (by first|omega|(simp;done)|(simp;omega))⟩⟩,⟨_,rfl,.inl ⟨rfl,rfl⟩⟩,⟨_,rfl,.inl ⟨rfl,rfl⟩⟩,⟨_,rfl,.inr ⟨_,_,rfl,rfl,.s rfl (by decide) (by first|omega|(simp;done)|(simp;omega))⟩⟩,trivial⟩ trivial rfl ?_
 obtain ⟨b21,y21,o21,f21,hr1⟩:∃ (b21:Bk) (y21:List (List Int)) (o21:List Answer) (f21:cV),gW (⟨[(⟨1000,30,1000000000000⟩:di),(⟨1000,30,1000000000000⟩:di)],2,bA⟩:Setup) ([(⟨0,1,0,0,0,has⟩:aZ),(⟨0,8,0,0,0,0⟩:aZ),(⟨0,2,0,0,0,a⟩:aZ),(⟨0,2,0,0,0,b⟩:aZ),(⟨0,9,0,0,0,0⟩:aZ)])=(b21,y21,o21,f21):=⟨_,_,_,_,rfl⟩
 obtain ⟨ho1,ho2,ho3,hdn,hH,hoh,e1,e2,ho4,ho5,ho6,ho7,ho8⟩:=Ba (by omega) (by omega) (by omega) (by omega) (by omega) hr1
 refine aL 2 [] (bI 2 (Fn.frozen (av':=(.t [(.g [(cI b21.time),(cB b21.down),(CK b21.ao),(fF b21.due),(yl b21.au),(cI b21.s0.bV),(dd b21.s0.kept),(cI b21.s1.bV),(dd b21.s1.kept),(cI b21.n0),(cI b21.n1),(eh b21.w0),(eh b21.w1),(cI b21.bE.cap),(fF b21.bE.used),(gH b21.bE.aU),(iM b21.aQ),(CI y21),(dO b21.book)]),(.c (CJ o21)),(.g [(cI f21.err),(cI f21.at_)])])) (zL (⟨[(⟨1000,30,1000000000000⟩:di),(⟨1000,30,1000000000000⟩:di)],2,bA⟩:Setup) ([(⟨0,1,0,0,0,has⟩:aZ),(⟨0,8,0,0,0,0⟩:aZ),(⟨0,2,0,0,0,a⟩:aZ),(⟨0,2,0,0,0,b⟩:aZ),(⟨0,9,0,0,0,0⟩:aZ)]) b21 y21 o21 f21 hr1) ⟨⟨.inl ⟨_,rfl,rfl⟩,.inl ⟨_,rfl,rfl⟩,.inr ⟨_,_,_,_,_,rfl,rfl,rfl,by simp⟩,.inr ⟨_,_,_,_,_,rfl,rfl,rfl,by simp⟩,.inr ⟨_,_,_,_,_,rfl,rfl,rfl,by simp⟩,.inl ⟨_,rfl,rfl⟩,.inl ⟨_,rfl,rfl⟩,.inl ⟨_,rfl,rfl⟩,.inl ⟨_,rfl,rfl⟩,.inl ⟨_,rfl,rfl⟩,.inl ⟨_,rfl,rfl⟩,.inl ⟨_,rfl,rfl⟩,.inl ⟨_,rfl,rfl⟩,.inl ⟨_,rfl,rfl⟩,.inl ⟨_,rfl,rfl⟩,.inl ⟨_,rfl,rfl⟩,.inr ⟨_,_,_,_,_,rfl,rfl,rfl,by simp⟩,.inr ⟨_,_,_,_,_,rfl,rfl,rfl,by simp⟩,.inl ⟨_,rfl,rfl⟩,trivial⟩,.inr ⟨_,_,_,_,_,rfl,rfl,rfl,by simp⟩,⟨.inl ⟨_,rfl,rfl⟩,.inl ⟨_,rfl,rfl⟩,trivial⟩,trivial⟩) DU rfl rfl ⟨⟨_,rfl,.g ⟨.d _,.d _,.d _,trivial⟩⟩,⟨_,rfl,.c (.d _)⟩,trivial⟩ ⟨⟨trivial,trivial,trivial,trivial,trivial,trivial,trivial,trivial,trivial,trivial,trivial,trivial,trivial,trivial,trivial,trivial,trivial,trivial,trivial,trivial⟩,trivial,⟨trivial,trivial,trivial⟩,trivial⟩ trivial rfl rfl rfl rfl) rfl ?_
 refine ab aa 9 rfl ?_
 refine ae ?_
 refine af ?_
 refine ad aa 3 rfl ?_
 refine ag rfl (fun hc7=>?_) (fun hc7=>?_)
 ·
  have hc7':=of_decide_eq_true hc7
  refine ad aa 1 rfl ?_
  refine aq ?_
  refine an ?_
  refine aj aa [] 0 rfl rfl rfl rfl rfl rfl ?_ ?_
  ·exact congrArg aB (show (false)=true by (first|(exfalso;omega)|exact decide_eq_true (by omega)))
  ·rfl
 have hc7':=of_decide_eq_false hc7
 refine aN ?_
 refine ad aa 5 rfl ?_
 refine ad aa 1 rfl ?_
 refine af ?_
 refine ad aa 1 rfl ?_
 refine ag rfl (fun hc8=>?_) (fun hc8=>?_)
 ·
  have hc8':=of_decide_eq_true hc8
  refine aw ?_
  refine ab aa 2 rfl ?_
  refine ae ?_
  refine az aa 2 rfl ?_
  refine ax (aJ rfl rfl rfl (aE (by first|omega|(simp;done)|(simp;omega)))) rfl ?_
  refine ab aa 3 rfl ?_
  refine ae ?_
  refine af ?_
  refine ad aa 1 rfl ?_
  refine ag rfl (fun hc9=>?_) (fun hc9=>?_)
  ·
   have hc9':=of_decide_eq_true hc9
   refine aw ?_
   refine ab aa 2 rfl ?_
   refine ax (aJ rfl rfl rfl (aE (by first|omega|(simp;done)|(simp;omega)))) rfl ?_
   refine ab aa 1 rfl ?_
   refine ae ?_
   refine ad aa 1 rfl ?_
   refine az aa 3 rfl ?_
   obtain ⟨x1,hx1⟩:=bY (xs:=o21) (i:=2) (by first|omega|(simp;done)|(simp;omega))
   have hx1K:=ho4 x1 hx1
   refine ax (cf (i:=2) rfl rfl rfl Try.underlying47 nX (by first|omega|(simp;done)|(simp;omega)) (bf hx1)) rfl ?_
   refine ab aa 2 rfl ?_
   refine aL 4 [3,2] (iw 4 [] (ins:=[(.c (cB (decide (a<=bA)))),(.c (cI x1.err))]) (aT:=[]) ((fun q e=>jg q e _ rfl) (decide (a<=bA)) x1.err) oI rfl rfl rfl (.fn trivial) ⟨⟨_,rfl,.c (.d _)⟩,⟨_,rfl,.c (.d _)⟩,trivial⟩ rfl trivial rfl rfl rfl rfl) rfl ?_
   refine ab aa 1 rfl ?_
   refine bj (t:=74) rfl (fun hb10=>?_) (fun hb10=>?_)
   ·
    have hb10':=hb10;try simp only [bd,bF] at hb10'
    refine ab aa 3 rfl ?_
    obtain ⟨x2,hx2⟩:=bY (xs:=o21) (i:=3) (by first|omega|(simp;done)|(simp;omega))
    have hx2K:=ho5 x2 hx2
    refine cJ (ah.yes rfl rfl rfl) (cf (i:=3) rfl rfl rfl Try.underlying47 nX (by first|omega|(simp;done)|(simp;omega)) (bf hx2)) rfl rfl ?_
    refine ab aa 2 rfl ?_
    refine iH 4 [3,2] (ah.yes rfl rfl rfl) (iw 4 [] (ins:=[(.c (cB (decide ((a+b)<=bA)))),(.c (cI x2.err))]) (aT:=[]) ((fun q e=>jg q e _ rfl) (decide ((a+b)<=bA)) x2.err) oI rfl rfl rfl (.fn trivial) ⟨⟨_,rfl,.c (.d _)⟩,⟨_,rfl,.c (.d _)⟩,trivial⟩ rfl trivial rfl rfl rfl rfl) rfl ?_
    refine ab aa 2 rfl ?_
    refine bj (t:=83) rfl (fun hb11=>?_) (fun hb11=>?_)
    ·
     have hb11':=hb11;try simp only [bd,bF] at hb11'
     refine ab aa 2 rfl ?_
     obtain ⟨x3,hx3⟩:=bY (xs:=b21.ao) (i:=0) (by first|omega|(simp;done)|(simp;omega))
     have hx3K:=hoh x3 hx3
     refine cJ (ah.yes rfl rfl rfl) (cf (i:=0) rfl rfl rfl Try.underlying29 ft (by first|omega|(simp;done)|(simp;omega)) (bf hx3)) rfl rfl ?_
     refine ab aa 6 rfl ?_
     refine bj (t:=92) rfl (fun hb12=>?_) (fun hb12=>?_)
     ·
      have hb12':=of_decide_eq_true hb12
      refine ab aa 2 rfl ?_
      refine cJ (ah.yes rfl rfl rfl) (cf (i:=0) rfl rfl rfl Try.underlying29 ft (by first|omega|(simp;done)|(simp;omega)) (bf hx3)) rfl rfl ?_
      refine ab aa 1 rfl ?_
      refine iH 4 [3,2] (ah.yes rfl rfl rfl) (bI 4 (fk x3 (by first|assumption|omega|(constructor<;>decide)|(have hz:=eU (by first|assumption|omega);omega))) mo rfl rfl ⟨⟨_,rfl,.g ⟨.d _,.d _,.d _,.d _,.d _,.d _,trivial⟩⟩,trivial⟩ trivial trivial rfl rfl rfl rfl) rfl ?_
      refine ab aa 2 rfl ?_
      refine cJ (ah.yes rfl rfl rfl) (aJ rfl rfl rfl (aE (by first|omega|(simp;done)|(simp;omega)))) rfl rfl ?_
      refine ab aa 3 rfl ?_
      refine bj (t:=103) rfl (fun hb13=>?_) (fun hb13=>?_)
      ·
       have hb13':=of_decide_eq_true hb13
       refine ab aa 2 rfl ?_
       refine cJ (ah.yes rfl rfl rfl) (cf (i:=0) rfl rfl rfl Try.underlying29 ft (by first|omega|(simp;done)|(simp;omega)) (bf hx3)) rfl rfl ?_
       refine ab aa 1 rfl ?_
       refine iH 4 [3,2] (ah.yes rfl rfl rfl) (bI 4 (fk x3 (by first|assumption|omega|(constructor<;>decide)|(have hz:=eU (by first|assumption|omega);omega))) mo rfl rfl ⟨⟨_,rfl,.g ⟨.d _,.d _,.d _,.d _,.d _,.d _,trivial⟩⟩,trivial⟩ trivial trivial rfl rfl rfl rfl) rfl ?_
       refine ab aa 1 rfl ?_
       refine cJ (ah.yes rfl rfl rfl) (kr rfl rfl (aE (by first|omega|(simp;done)|(simp;omega)))) rfl rfl ?_
       refine ab aa 3 rfl ?_
       refine bj (t:=113) rfl (fun hb14=>?_) (fun hb14=>?_)
       ·
        have hb14':=of_decide_eq_true hb14
        refine ab aa 5 rfl ?_
        refine ae ?_
        refine aq ?_
        refine aj aa [] 0 rfl rfl rfl rfl rfl rfl ?_ ?_
        ·exact congrArg aB (show (!b21.down)=true by (rw [hdn];rfl))
        ·rfl
       have hb14':=of_decide_eq_false hb14
       refine ab aa 5 rfl ?_
       refine ae ?_
       refine aq ?_
       refine aj aa [] 0 rfl rfl rfl rfl rfl rfl ?_ ?_
       ·exact congrArg aB (show (false)=true by (first|(exfalso;omega)|exact decide_eq_true (by omega)))
       ·rfl
      have hb13':=of_decide_eq_false hb13
      refine ab aa 15 rfl ?_
      refine ae ?_
      refine aq ?_
      refine aj aa [] 0 rfl rfl rfl rfl rfl rfl ?_ ?_
      ·exact congrArg aB (show (false)=true by (first|(exfalso;omega)|exact decide_eq_true (by omega)))
      ·rfl
     have hb12':=of_decide_eq_false hb12
     refine ab aa 26 rfl ?_
     refine ae ?_
     refine aq ?_
     refine aj aa [] 0 rfl rfl rfl rfl rfl rfl ?_ ?_
     ·exact congrArg aB (show (false)=true by (first|(exfalso;omega)|exact decide_eq_true (by omega)))
     ·rfl
    have hb11':=hb11;try simp only [bd,bF] at hb11'
    refine ab aa 35 rfl ?_
    refine ae ?_
    refine aq ?_
    refine aj aa [] 0 rfl rfl rfl rfl rfl rfl ?_ ?_
    ·exact congrArg aB (show (false)=true by exact absurd ((kq (by omega)).symm.trans hb11) (by decide))
    ·rfl
   have hb10':=hb10;try simp only [bd,bF] at hb10'
   refine ab aa 44 rfl ?_
   refine ae ?_
   refine aq ?_
   refine aj aa [] 0 rfl rfl rfl rfl rfl rfl ?_ ?_
   ·exact congrArg aB (show (false)=true by exact absurd ((kq (by omega)).symm.trans hb10) (by decide))
   ·rfl
  have hc9':=of_decide_eq_false hc9
  refine aN ?_
  refine ad aa 1 rfl ?_
  refine az aa 3 rfl ?_
  obtain ⟨x1,hx1⟩:=bY (xs:=o21) (i:=2) (by first|omega|(simp;done)|(simp;omega))
  have hx1K:=ho4 x1 hx1
  refine ax (cf (i:=2) rfl rfl rfl Try.underlying47 nX (by first|omega|(simp;done)|(simp;omega)) (bf hx1)) rfl ?_
  refine ab aa 2 rfl ?_
  refine aL 4 [3,2] (iw 4 [] (ins:=[(.c (cB (decide (a<=bA)))),(.c (cI x1.err))]) (aT:=[]) ((fun q e=>jg q e _ rfl) (decide (a<=bA)) x1.err) oI rfl rfl rfl (.fn trivial) ⟨⟨_,rfl,.c (.d _)⟩,⟨_,rfl,.c (.d _)⟩,trivial⟩ rfl trivial rfl rfl rfl rfl) rfl ?_
  refine ab aa 1 rfl ?_
  refine bj (t:=74) rfl (fun hb15=>?_) (fun hb15=>?_)
  ·
   have hb15':=hb15;try simp only [bd,bF] at hb15'
   refine ab aa 3 rfl ?_
   obtain ⟨x2,hx2⟩:=bY (xs:=o21) (i:=3) (by first|omega|(simp;done)|(simp;omega))
   have hx2K:=ho5 x2 hx2
   refine cJ (ah.yes rfl rfl rfl) (cf (i:=3) rfl rfl rfl Try.underlying47 nX (by first|omega|(simp;done)|(simp;omega)) (bf hx2)) rfl rfl ?_
   refine ab aa 2 rfl ?_
   refine iH 4 [3,2] (ah.yes rfl rfl rfl) (iw 4 [] (ins:=[(.c (cB (decide ((a+b)<=bA)))),(.c (cI x2.err))]) (aT:=[]) ((fun q e=>jg q e _ rfl) (decide ((a+b)<=bA)) x2.err) oI rfl rfl rfl (.fn trivial) ⟨⟨_,rfl,.c (.d _)⟩,⟨_,rfl,.c (.d _)⟩,trivial⟩ rfl trivial rfl rfl rfl rfl) rfl ?_
   refine ab aa 2 rfl ?_
   refine bj (t:=83) rfl (fun hb16=>?_) (fun hb16=>?_)
   ·
    have hb16':=hb16;try simp only [bd,bF] at hb16'
    refine ab aa 2 rfl ?_
    obtain ⟨x3,hx3⟩:=bY (xs:=b21.ao) (i:=0) (by first|omega|(simp;done)|(simp;omega))
    have hx3K:=hoh x3 hx3
    refine cJ (ah.yes rfl rfl rfl) (cf (i:=0) rfl rfl rfl Try.underlying29 ft (by first|omega|(simp;done)|(simp;omega)) (bf hx3)) rfl rfl ?_
    refine ab aa 6 rfl ?_
    refine bj (t:=92) rfl (fun hb17=>?_) (fun hb17=>?_)
    ·
     have hb17':=of_decide_eq_true hb17
     refine ab aa 2 rfl ?_
     refine cJ (ah.yes rfl rfl rfl) (cf (i:=0) rfl rfl rfl Try.underlying29 ft (by first|omega|(simp;done)|(simp;omega)) (bf hx3)) rfl rfl ?_
     refine ab aa 1 rfl ?_
     refine iH 4 [3,2] (ah.yes rfl rfl rfl) (bI 4 (fk x3 (by first|assumption|omega|(constructor<;>decide)|(have hz:=eU (by first|assumption|omega);omega))) mo rfl rfl ⟨⟨_,rfl,.g ⟨.d _,.d _,.d _,.d _,.d _,.d _,trivial⟩⟩,trivial⟩ trivial trivial rfl rfl rfl rfl) rfl ?_
     refine ab aa 2 rfl ?_
     refine cJ (ah.yes rfl rfl rfl) (aJ rfl rfl rfl (aE (by first|omega|(simp;done)|(simp;omega)))) rfl rfl ?_
     refine ab aa 3 rfl ?_
     refine bj (t:=103) rfl (fun hb18=>?_) (fun hb18=>?_)
     ·
      have hb18':=of_decide_eq_true hb18
      refine ab aa 2 rfl ?_
      refine cJ (ah.yes rfl rfl rfl) (cf (i:=0) rfl rfl rfl Try.underlying29 ft (by first|omega|(simp;done)|(simp;omega)) (bf hx3)) rfl rfl ?_
      refine ab aa 1 rfl ?_
      refine iH 4 [3,2] (ah.yes rfl rfl rfl) (bI 4 (fk x3 (by first|assumption|omega|(constructor<;>decide)|(have hz:=eU (by first|assumption|omega);omega))) mo rfl rfl ⟨⟨_,rfl,.g ⟨.d _,.d _,.d _,.d _,.d _,.d _,trivial⟩⟩,trivial⟩ trivial trivial rfl rfl rfl rfl) rfl ?_
      refine ab aa 1 rfl ?_
      refine cJ (ah.yes rfl rfl rfl) (kr rfl rfl (aE (by first|omega|(simp;done)|(simp;omega)))) rfl rfl ?_
      refine ab aa 3 rfl ?_
      refine bj (t:=113) rfl (fun hb19=>?_) (fun hb19=>?_)
      ·
       have hb19':=of_decide_eq_true hb19
       refine ab aa 5 rfl ?_
       refine ae ?_
       refine aq ?_
       refine aj aa [] 0 rfl rfl rfl rfl rfl rfl ?_ ?_
       ·exact congrArg aB (show (!b21.down)=true by (rw [hdn];rfl))
       ·rfl
      have hb19':=of_decide_eq_false hb19
      refine ab aa 5 rfl ?_
      refine ae ?_
      refine aq ?_
      refine aj aa [] 0 rfl rfl rfl rfl rfl rfl ?_ ?_
      ·exact congrArg aB (show (false)=true by (first|(exfalso;omega)|exact decide_eq_true (by omega)))
      ·rfl
     have hb18':=of_decide_eq_false hb18
     refine ab aa 15 rfl ?_
     refine ae ?_
     refine aq ?_
     refine aj aa [] 0 rfl rfl rfl rfl rfl rfl ?_ ?_
     ·exact congrArg aB (show (false)=true by (first|(exfalso;omega)|exact decide_eq_true (by omega)))
     ·rfl
    have hb17':=of_decide_eq_false hb17
    refine ab aa 26 rfl ?_
    refine ae ?_
    refine aq ?_
    refine aj aa [] 0 rfl rfl rfl rfl rfl rfl ?_ ?_
    ·exact congrArg aB (show (false)=true by (first|(exfalso;omega)|exact decide_eq_true (by omega)))
    ·rfl
   have hb16':=hb16;try simp only [bd,bF] at hb16'
   refine ab aa 35 rfl ?_
   refine ae ?_
   refine aq ?_
   refine aj aa [] 0 rfl rfl rfl rfl rfl rfl ?_ ?_
   ·exact congrArg aB (show (false)=true by exact absurd ((kq (by omega)).symm.trans hb16) (by decide))
   ·rfl
  have hb15':=hb15;try simp only [bd,bF] at hb15'
  refine ab aa 44 rfl ?_
  refine ae ?_
  refine aq ?_
  refine aj aa [] 0 rfl rfl rfl rfl rfl rfl ?_ ?_
  ·exact congrArg aB (show (false)=true by exact absurd ((kq (by omega)).symm.trans hb15) (by decide))
  ·rfl
 have hc8':=of_decide_eq_false hc8
 refine aN ?_
 refine az aa 2 rfl ?_
 refine ax (aJ rfl rfl rfl (aE (by first|omega|(simp;done)|(simp;omega)))) rfl ?_
 refine ab aa 3 rfl ?_
 refine ae ?_
 refine af ?_
 refine ad aa 1 rfl ?_
 refine ag rfl (fun hc20=>?_) (fun hc20=>?_)
 ·
  have hc20':=of_decide_eq_true hc20
  refine aw ?_
  refine ab aa 2 rfl ?_
  refine ax (aJ rfl rfl rfl (aE (by first|omega|(simp;done)|(simp;omega)))) rfl ?_
  refine ab aa 1 rfl ?_
  refine ae ?_
  refine ad aa 1 rfl ?_
  refine az aa 3 rfl ?_
  obtain ⟨x1,hx1⟩:=bY (xs:=o21) (i:=2) (by first|omega|(simp;done)|(simp;omega))
  have hx1K:=ho4 x1 hx1
  refine ax (cf (i:=2) rfl rfl rfl Try.underlying47 nX (by first|omega|(simp;done)|(simp;omega)) (bf hx1)) rfl ?_
  refine ab aa 2 rfl ?_
  refine aL 4 [3,2] (iw 4 [] (ins:=[(.c (cB (decide (a<=bA)))),(.c (cI x1.err))]) (aT:=[]) ((fun q e=>jg q e _ rfl) (decide (a<=bA)) x1.err) oI rfl rfl rfl (.fn trivial) ⟨⟨_,rfl,.c (.d _)⟩,⟨_,rfl,.c (.d _)⟩,trivial⟩ rfl trivial rfl rfl rfl rfl) rfl ?_
  refine ab aa 1 rfl ?_
  refine bj (t:=74) rfl (fun hb21=>?_) (fun hb21=>?_)
  ·
   have hb21':=hb21;try simp only [bd,bF] at hb21'
   refine ab aa 3 rfl ?_
   obtain ⟨x2,hx2⟩:=bY (xs:=o21) (i:=3) (by first|omega|(simp;done)|(simp;omega))
   have hx2K:=ho5 x2 hx2
   refine cJ (ah.yes rfl rfl rfl) (cf (i:=3) rfl rfl rfl Try.underlying47 nX (by first|omega|(simp;done)|(simp;omega)) (bf hx2)) rfl rfl ?_
   refine ab aa 2 rfl ?_
   refine iH 4 [3,2] (ah.yes rfl rfl rfl) (iw 4 [] (ins:=[(.c (cB (decide ((0+b)<=bA)))),(.c (cI x2.err))]) (aT:=[]) ((fun q e=>jg q e _ rfl) (decide ((0+b)<=bA)) x2.err) oI rfl rfl rfl (.fn trivial) ⟨⟨_,rfl,.c (.d _)⟩,⟨_,rfl,.c (.d _)⟩,trivial⟩ rfl trivial rfl rfl rfl rfl) rfl ?_
   refine ab aa 2 rfl ?_
   refine bj (t:=83) rfl (fun hb22=>?_) (fun hb22=>?_)
   ·
    have hb22':=hb22;try simp only [bd,bF] at hb22'
    refine ab aa 2 rfl ?_
    obtain ⟨x3,hx3⟩:=bY (xs:=b21.ao) (i:=0) (by first|omega|(simp;done)|(simp;omega))
    have hx3K:=hoh x3 hx3
    refine cJ (ah.yes rfl rfl rfl) (cf (i:=0) rfl rfl rfl Try.underlying29 ft (by first|omega|(simp;done)|(simp;omega)) (bf hx3)) rfl rfl ?_
    refine ab aa 6 rfl ?_
    refine bj (t:=92) rfl (fun hb23=>?_) (fun hb23=>?_)
    ·
     have hb23':=of_decide_eq_true hb23
     refine ab aa 2 rfl ?_
     refine cJ (ah.yes rfl rfl rfl) (cf (i:=0) rfl rfl rfl Try.underlying29 ft (by first|omega|(simp;done)|(simp;omega)) (bf hx3)) rfl rfl ?_
     refine ab aa 1 rfl ?_
     refine iH 4 [3,2] (ah.yes rfl rfl rfl) (bI 4 (fk x3 (by first|assumption|omega|(constructor<;>decide)|(have hz:=eU (by first|assumption|omega);omega))) mo rfl rfl ⟨⟨_,rfl,.g ⟨.d _,.d _,.d _,.d _,.d _,.d _,trivial⟩⟩,trivial⟩ trivial trivial rfl rfl rfl rfl) rfl ?_
     refine ab aa 2 rfl ?_
     refine cJ (ah.yes rfl rfl rfl) (aJ rfl rfl rfl (aE (by first|omega|(simp;done)|(simp;omega)))) rfl rfl ?_
     refine ab aa 3 rfl ?_
     refine bj (t:=103) rfl (fun hb24=>?_) (fun hb24=>?_)
     ·
      have hb24':=of_decide_eq_true hb24
      refine ab aa 2 rfl ?_
      refine cJ (ah.yes rfl rfl rfl) (cf (i:=0) rfl rfl rfl Try.underlying29 ft (by first|omega|(simp;done)|(simp;omega)) (bf hx3)) rfl rfl ?_
      refine ab aa 1 rfl ?_
      refine iH 4 [3,2] (ah.yes rfl rfl rfl) (bI 4 (fk x3 (by first|assumption|omega|(constructor<;>decide)|(have hz:=eU (by first|assumption|omega);omega))) mo rfl rfl ⟨⟨_,rfl,.g ⟨.d _,.d _,.d _,.d _,.d _,.d _,trivial⟩⟩,trivial⟩ trivial trivial rfl rfl rfl rfl) rfl ?_
      refine ab aa 1 rfl ?_
      refine cJ (ah.yes rfl rfl rfl) (kr rfl rfl (aE (by first|omega|(simp;done)|(simp;omega)))) rfl rfl ?_
      refine ab aa 3 rfl ?_
      refine bj (t:=113) rfl (fun hb25=>?_) (fun hb25=>?_)
      ·
       have hb25':=of_decide_eq_true hb25
       refine ab aa 5 rfl ?_
       refine ae ?_
       refine aq ?_
       refine aj aa [] 0 rfl rfl rfl rfl rfl rfl ?_ ?_
       ·exact congrArg aB (show (!b21.down)=true by (rw [hdn];rfl))
       ·rfl
      have hb25':=of_decide_eq_false hb25
      refine ab aa 5 rfl ?_
      refine ae ?_
      refine aq ?_
      refine aj aa [] 0 rfl rfl rfl rfl rfl rfl ?_ ?_
      ·exact congrArg aB (show (false)=true by (first|(exfalso;omega)|exact decide_eq_true (by omega)))
      ·rfl
     have hb24':=of_decide_eq_false hb24
     refine ab aa 15 rfl ?_
     refine ae ?_
     refine aq ?_
     refine aj aa [] 0 rfl rfl rfl rfl rfl rfl ?_ ?_
     ·exact congrArg aB (show (false)=true by (first|(exfalso;omega)|exact decide_eq_true (by omega)))
     ·rfl
    have hb23':=of_decide_eq_false hb23
    refine ab aa 26 rfl ?_
    refine ae ?_
    refine aq ?_
    refine aj aa [] 0 rfl rfl rfl rfl rfl rfl ?_ ?_
    ·exact congrArg aB (show (false)=true by (first|(exfalso;omega)|exact decide_eq_true (by omega)))
    ·rfl
   have hb22':=hb22;try simp only [bd,bF] at hb22'
   refine ab aa 35 rfl ?_
   refine ae ?_
   refine aq ?_
   refine aj aa [] 0 rfl rfl rfl rfl rfl rfl ?_ ?_
   ·exact congrArg aB (show (false)=true by exact absurd ((kq (by omega)).symm.trans hb22) (by decide))
   ·rfl
  have hb21':=hb21;try simp only [bd,bF] at hb21'
  refine ab aa 44 rfl ?_
  refine ae ?_
  refine aq ?_
  refine aj aa [] 0 rfl rfl rfl rfl rfl rfl ?_ ?_
  ·exact congrArg aB (show (false)=true by exact absurd ((kq (by omega)).symm.trans hb21) (by decide))
  ·rfl
 have hc20':=of_decide_eq_false hc20
 refine aN ?_
 refine ad aa 1 rfl ?_
 refine az aa 3 rfl ?_
 obtain ⟨x1,hx1⟩:=bY (xs:=o21) (i:=2) (by first|omega|(simp;done)|(simp;omega))
 have hx1K:=ho4 x1 hx1
 refine ax (cf (i:=2) rfl rfl rfl Try.underlying47 nX (by first|omega|(simp;done)|(simp;omega)) (bf hx1)) rfl ?_
 refine ab aa 2 rfl ?_
 refine aL 4 [3,2] (iw 4 [] (ins:=[(.c (cB (decide (a<=bA)))),(.c (cI x1.err))]) (aT:=[]) ((fun q e=>jg q e _ rfl) (decide (a<=bA)) x1.err) oI rfl rfl rfl (.fn trivial) ⟨⟨_,rfl,.c (.d _)⟩,⟨_,rfl,.c (.d _)⟩,trivial⟩ rfl trivial rfl rfl rfl rfl) rfl ?_
 refine ab aa 1 rfl ?_
 refine bj (t:=74) rfl (fun hb26=>?_) (fun hb26=>?_)
 ·
  have hb26':=hb26;try simp only [bd,bF] at hb26'
  refine ab aa 3 rfl ?_
  obtain ⟨x2,hx2⟩:=bY (xs:=o21) (i:=3) (by first|omega|(simp;done)|(simp;omega))
  have hx2K:=ho5 x2 hx2
  refine cJ (ah.yes rfl rfl rfl) (cf (i:=3) rfl rfl rfl Try.underlying47 nX (by first|omega|(simp;done)|(simp;omega)) (bf hx2)) rfl rfl ?_
  refine ab aa 2 rfl ?_
  refine iH 4 [3,2] (ah.yes rfl rfl rfl) (iw 4 [] (ins:=[(.c (cB (decide ((0+b)<=bA)))),(.c (cI x2.err))]) (aT:=[]) ((fun q e=>jg q e _ rfl) (decide ((0+b)<=bA)) x2.err) oI rfl rfl rfl (.fn trivial) ⟨⟨_,rfl,.c (.d _)⟩,⟨_,rfl,.c (.d _)⟩,trivial⟩ rfl trivial rfl rfl rfl rfl) rfl ?_
  refine ab aa 2 rfl ?_
  refine bj (t:=83) rfl (fun hb27=>?_) (fun hb27=>?_)
  ·
   have hb27':=hb27;try simp only [bd,bF] at hb27'
   refine ab aa 2 rfl ?_
   obtain ⟨x3,hx3⟩:=bY (xs:=b21.ao) (i:=0) (by first|omega|(simp;done)|(simp;omega))
   have hx3K:=hoh x3 hx3
   refine cJ (ah.yes rfl rfl rfl) (cf (i:=0) rfl rfl rfl Try.underlying29 ft (by first|omega|(simp;done)|(simp;omega)) (bf hx3)) rfl rfl ?_
   refine ab aa 6 rfl ?_
   refine bj (t:=92) rfl (fun hb28=>?_) (fun hb28=>?_)
   ·
    have hb28':=of_decide_eq_true hb28
    refine ab aa 2 rfl ?_
    refine cJ (ah.yes rfl rfl rfl) (cf (i:=0) rfl rfl rfl Try.underlying29 ft (by first|omega|(simp;done)|(simp;omega)) (bf hx3)) rfl rfl ?_
    refine ab aa 1 rfl ?_
    refine iH 4 [3,2] (ah.yes rfl rfl rfl) (bI 4 (fk x3 (by first|assumption|omega|(constructor<;>decide)|(have hz:=eU (by first|assumption|omega);omega))) mo rfl rfl ⟨⟨_,rfl,.g ⟨.d _,.d _,.d _,.d _,.d _,.d _,trivial⟩⟩,trivial⟩ trivial trivial rfl rfl rfl rfl) rfl ?_
    refine ab aa 2 rfl ?_
    refine cJ (ah.yes rfl rfl rfl) (aJ rfl rfl rfl (aE (by first|omega|(simp;done)|(simp;omega)))) rfl rfl ?_
    refine ab aa 3 rfl ?_
    refine bj (t:=103) rfl (fun hb29=>?_) (fun hb29=>?_)
    ·
     have hb29':=of_decide_eq_true hb29
     refine ab aa 2 rfl ?_
     refine cJ (ah.yes rfl rfl rfl) (cf (i:=0) rfl rfl rfl Try.underlying29 ft (by first|omega|(simp;done)|(simp;omega)) (bf hx3)) rfl rfl ?_
     refine ab aa 1 rfl ?_
     refine iH 4 [3,2] (ah.yes rfl rfl rfl) (bI 4 (fk x3 (by first|assumption|omega|(constructor<;>decide)|(have hz:=eU (by first|assumption|omega);omega))) mo rfl rfl ⟨⟨_,rfl,.g ⟨.d _,.d _,.d _,.d _,.d _,.d _,trivial⟩⟩,trivial⟩ trivial trivial rfl rfl rfl rfl) rfl ?_
     refine ab aa 1 rfl ?_
     refine cJ (ah.yes rfl rfl rfl) (kr rfl rfl (aE (by first|omega|(simp;done)|(simp;omega)))) rfl rfl ?_
     refine ab aa 3 rfl ?_
     refine bj (t:=113) rfl (fun hb30=>?_) (fun hb30=>?_)
     ·
      have hb30':=of_decide_eq_true hb30
      refine ab aa 5 rfl ?_
      refine ae ?_
      refine aq ?_
      refine aj aa [] 0 rfl rfl rfl rfl rfl rfl ?_ ?_
      ·exact congrArg aB (show (!b21.down)=true by (rw [hdn];rfl))
      ·rfl
     have hb30':=of_decide_eq_false hb30
     refine ab aa 5 rfl ?_
     refine ae ?_
     refine aq ?_
     refine aj aa [] 0 rfl rfl rfl rfl rfl rfl ?_ ?_
     ·exact congrArg aB (show (false)=true by (first|(exfalso;omega)|exact decide_eq_true (by omega)))
     ·rfl
    have hb29':=of_decide_eq_false hb29
    refine ab aa 15 rfl ?_
    refine ae ?_
    refine aq ?_
    refine aj aa [] 0 rfl rfl rfl rfl rfl rfl ?_ ?_
    ·exact congrArg aB (show (false)=true by (first|(exfalso;omega)|exact decide_eq_true (by omega)))
    ·rfl
   have hb28':=of_decide_eq_false hb28
   refine ab aa 26 rfl ?_
   refine ae ?_
   refine aq ?_
   refine aj aa [] 0 rfl rfl rfl rfl rfl rfl ?_ ?_
   ·exact congrArg aB (show (false)=true by (first|(exfalso;omega)|exact decide_eq_true (by omega)))
   ·rfl
  have hb27':=hb27;try simp only [bd,bF] at hb27'
  refine ab aa 35 rfl ?_
  refine ae ?_
  refine aq ?_
  refine aj aa [] 0 rfl rfl rfl rfl rfl rfl ?_ ?_
  ·exact congrArg aB (show (false)=true by exact absurd ((kq (by omega)).symm.trans hb27) (by decide))
  ·rfl
 have hb26':=hb26;try simp only [bd,bF] at hb26'
 refine ab aa 44 rfl ?_
 refine ae ?_
 refine aq ?_
 refine aj aa [] 0 rfl rfl rfl rfl rfl rfl ?_ ?_
 ·exact congrArg aB (show (false)=true by exact absurd ((kq (by omega)).symm.trans hb26) (by decide))
 ·rfl
end Go.Proofs.Ytegepioggeggaaa.Dev
