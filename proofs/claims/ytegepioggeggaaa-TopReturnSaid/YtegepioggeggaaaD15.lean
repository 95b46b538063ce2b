/- A part of the proof: PlLaw1, PlLaw2, PlTop, PlTop2, PlCome, PlCome2, PlCome3, PlCome4, PlOver, PlBuy, PlBuy2, PlBack, PlBack2, PlReturn. No condition. -/
import Derived.Test.YtegepioggeggaaaD14
set_option linter.unusedVariables false
set_option linter.unusedSimpArgs false
namespace Go.Proofs.Ytegepioggeggaaa.Dev
def ku (l:List bx):Prop:=∀ c∈l,0<=c.bf - c.held
theorem pI {l:List bx} {e k h m:Int} (hl:ku l) (hc:∀ c,l[k.toNat]?=some c->h - m<=c.bf - c.held):ku (cx l e k h m).1:=by
 unfold cx
 split
 ·exact hl
 ·rename_i c hk
  split
  ·rename_i h0
   intro z hz
   rcases ga hz with hz|rfl
   ·exact hl z hz
   ·have he:=(fI h0).2
    rcases qi (show dU c h m=((dU c h m).1,(dU c h m).2) from rfl) with ⟨h1,_⟩|h1
    ·exact absurd he h1
    ·have h2:=h1.2.2.2.2.2.2.1
     have h3:=hc c hk
     rw [h2];dsimp only;omega
  ·exact hl
theorem jh {l:List bx} {e k h m:Int} (hl:ku l) (hm:h<=m):ku (cx l e k h m).1:=pI hl fun c hc=>by have:=hl c (List.mem_of_getElem? hc);omega
theorem Aa {a:bz} {t:Int} (h:bE a=0):br (eh a t) - br a<=0:=by
 have:=eN h
 unfold br eh
 cases hs:a.shut<;>cases ht:decide (a.cM<=t)<;>simp<;>omega
theorem rB {time:Int}:∀ (l:List bz) (i:Nat) (an:List bx) (aq:List bz) (e:Int),(∀ a∈l,bE a=0)->ku an->ku (fH time l i an aq e).1
 |[],_,_,_,_,_,h=>h
 |a::l,i,an,aq,e,hw,h=>rB l (i+1) _ _ _ (fun x hx=>hw x (List.mem_cons_of_mem _ hx)) (jh h (Aa (hw a List.mem_cons_self)))
theorem rC {time:Int} {n:Int}:∀ (l:List bz) (i:Nat) (an:List bx) (aq:List bz) (e:Int),(∀ a∈l,a.bh=n)->(∀ a∈aq,a.bh=n)->∀ a∈(fH time l i an aq e).2.1,a.bh=n
 |[],_,_,_,_,_,h=>h
 |a::l,i,an,aq,e,hl,h=>rC l (i+1) _ _ _ (fun x hx=>hl x (List.mem_cons_of_mem _ hx)) fun x hx=>by
  rcases ga hx with hx|rfl
  ·exact h x hx
  ·exact hl a List.mem_cons_self
structure eR (b:Bk):Prop where
 ok:ck b
 up:b.down=false
 iC:∀ a∈b.aq,a.bh=0
 free:ku b.an
 k0:∀ t∈b.s0.kept,0<=t.sum
 k1:∀ t∈b.s1.kept,0<=t.sum
 p0:∀ p∈b.w0,0<=p.ct.sum
 p1:∀ p∈b.w1,0<=p.ct.sum
theorem eR.dz {b c:Bk} {e:Int} (h:eR b) (hc:e=0->eR c):eR (dz b c e).1:=by
 unfold Dev.dz;split
 ·exact hc (by assumption)
 ·exact h
theorem eR.late {b:Bk} (h:eR b):eR (gP b):=by
 have hok:=h.ok.late
 unfold gP at hok ⊢
 split
 ·rename_i h0
  rw [if_pos h0] at hok
  exact ⟨hok,h.up,rC _ _ _ _ _ h.iC h.iC,rB _ _ _ _ _ (fun a ha=>(h.ok.perm a ha).1) h.free,h.k0,h.k1,h.p0,h.p1⟩
 ·exact h
theorem eR.start {s:Setup} (h:(ey s).err=0):eR (iv s):=
 ⟨ck.start h,rfl,fun a ha=>(by cases ha),fun c hc=>(by
  obtain ⟨p,_,rfl⟩:=List.mem_map.1 (show c∈s.cX.map pv from hc)
  exact Int.le_refl _),fun a ha=>(by cases ha),fun a ha=>(by cases ha),fun a ha=>(by cases ha),fun a ha=>(by cases ha)⟩
theorem yY {c:bx} {n t:Int} (h:(dF c n t).2=0):0<=(dF c n t).1.bf - (dF c n t).1.held:=by
 rcases qJ (show dF c n t=((dF c n t).1,(dF c n t).2) from rfl) with ⟨h5,_⟩|⟨h5,h6,h7,h8,h9,h10,h11,l,h12,h13⟩
 ·exact absurd h h5
 ·rw [h13];dsimp only;omega
theorem eR.asks {b:Bk} (h:eR b) (d:aS):eR (dD b d).1:=by
 have hok:=h.ok.asks d
 unfold dD at hok ⊢
 rw [h.up] at hok ⊢
 simp only [Bool.false_eq_true,if_false] at hok ⊢
 split
 ·exact h
 rename_i c1
 rw [if_neg c1] at hok
 split
 ·exact h
 rename_i c2
 rw [if_neg c2] at hok
 split
 ·exact h
 rename_i c3
 rw [if_neg c3] at hok
 obtain ⟨_,w2,_⟩:=oE (show (cY d.n d.ax d.sum b.time).2=0 by omega)
 split
 ·exact h
 rename_i c hc
 rw [hc] at hok
 dsimp only at hok
 split
 ·exact h
 rename_i c4
 rw [if_neg c4] at hok
 refine ⟨hok,rfl,fun a ha=>?_,fun z hz=>?_,h.k0,h.k1,h.p0,h.p1⟩
 ·rcases List.mem_append.1 ha with ha|ha
  ·exact h.iC a ha
  ·obtain rfl:=List.mem_singleton.1 ha;rw [w2]
 ·rcases ga hz with hz|rfl
  ·exact h.free z hz
  ·exact yY (by omega)
theorem yu {a b:bz} {k n:Int} (hw:bE a=0) (h1:1<=n) (hm:jR a k n b):(k=1->br b - br a=n)/\(k=2\/k=3->br b - br a<=0 - n)/\(k=4->br b - br a<=0)/\(k=6\/b.bh<=a.bh):=by
 have hr:=eN hw
 cases hm with
 |more h hs hn=>subst h;unfold br;rw [hs];simp;omega
 |take h hs hn=>
  unfold br;rw [hs];dsimp only
  refine ⟨fun h=>by omega,fun _=>?_,fun h=>by omega,.inr (Int.le_refl _)⟩
  split<;>simp at *<;>omega
 |less h hs hn=>
  subst h;unfold br;rw [hs];dsimp only
  refine ⟨fun h=>by omega,fun h=>by omega,fun _=>?_,.inr (Int.le_refl _)⟩
  split<;>simp at *<;>omega
 |uW h hn=>subst h;exact ⟨fun h=>by omega,fun h=>by omega,fun h=>by omega,.inr (Int.le_refl _)⟩
 |sI h hn=>subst h;exact ⟨fun h=>by omega,fun h=>by omega,fun h=>by omega,.inl rfl⟩
 |sF h hn=>subst h;exact ⟨fun h=>by omega,fun h=>by omega,fun h=>by omega,.inr (by dsimp only;omega)⟩
 |sE h hn=>subst h;exact ⟨fun h=>by omega,fun h=>by omega,fun h=>by omega,.inr (by dsimp only;omega)⟩
theorem yr {a b:bz} {k n:Int} (hm:jR a k n b) (h1:1<=n) (hk:k=7\/k=8):1<=a.bh:=by
 cases hm<;>omega
theorem ou {s:bP} {e:Int} {t:aR} (h:∀ t∈s.kept,0<=t.sum) (ht:0<=t.sum):∀ u∈(eA s e t).1.kept,0<=u.sum:=by
 unfold eA
 split
 ·rename_i h0
  have he:=(fI h0).2
  unfold fr at he
  split at he
  ·rename_i h1;exact absurd he h1
  split at he
  ·rename_i h1;exact absurd he h1
  ·rename_i h1 h2
   have hp:(fr s t).1=iL s t:=by unfold fr;rw [if_neg h1,if_neg h2]
   dsimp only
   rw [hp]
   intro u hu
   rcases List.mem_append.1 hu with hu|hu
   ·exact h u hu
   ·obtain rfl:=List.mem_singleton.1 hu;exact ht
 ·exact h
theorem eR.lF {b:Bk} (h:eR b) (d:aS) (hd:¬d.move=6):eR (dv b d).1:=by
 have hok:=h.ok.lF d
 unfold dv at hok ⊢
 rw [h.up] at hok ⊢
 simp only [Bool.false_eq_true,if_false] at hok ⊢
 split
 ·exact h
 rename_i c1
 rw [if_neg c1] at hok
 split
 ·exact h
 rename_i cz ho
 rw [ho] at hok
 dsimp only at hok
 split
 ·exact h
 rename_i c2
 rw [if_neg c2] at hok
 split
 ·exact h
 rename_i c3
 rw [if_neg c3] at hok
 have hmv:bW cz d.move d.sum=((bW cz d.move d.sum).1,0):=Prod.ext rfl (by dsimp only;omega)
 generalize (bW cz d.move d.sum).1=a at *
 rcases qp hmv with ⟨h4,_⟩|⟨_,hw,hn1,hn2,hm⟩
 ·exact absurd rfl h4
 have hold:=h.iC cz (List.mem_of_getElem? ho)
 have hr:=eN hw
 obtain ⟨m1,m2,m3,m4⟩:=yu hw hn1 hm
 have hcard:a.aJ=cz.aJ:=(pN hmv).2.1
 have hra:=eN (pN hmv).1
 unfold lZ at hok ⊢
 have hcards:ku (dK b a cz d).1:=by
  unfold dK
  split
  ·rename_i hk
   rcases hk with hk|hk
   ·refine pI h.free fun c hc=>?_
    have hf:¬d.sum > kH b.an a.aJ:=fun hf=>c3 ⟨hk,hf⟩
    unfold kH at hf;rw [hc] at hf;dsimp only at hf
    have:=m1 hk;omega
   ·exact jh h.free (m3 hk)
  split
  ·rename_i hk;exact jh h.free (m2 hk)
  split
  ·exact h.free
  split
  ·exact h.free
  split
  ·rename_i hk;have:=yr hm hn1 (.inr hk);omega
  ·exact h.free
 unfold Dev.dz at hok ⊢
 split
 ·rename_i h0
  rw [if_pos h0] at hok
  have hks:(∀ t∈(dK b a cz d).2.2.2.1.kept,0<=t.sum)/\∀ t∈(dK b a cz d).2.2.2.2.1.kept,0<=t.sum:=by
   unfold dK
   split
   ·exact ⟨h.k0,h.k1⟩
   split
   ·exact ⟨ou h.k0 (by dsimp only;omega),h.k1⟩
   split
   ·exact ⟨h.k0,ou h.k1 (by dsimp only;omega)⟩
   split
   ·exact ⟨ou h.k0 (by dsimp only;omega),h.k1⟩
   split
   ·exact ⟨h.k0,h.k1⟩
   ·exact ⟨h.k0,h.k1⟩
  refine ⟨hok,h.up,fun x hx=>?_,hcards,hks.1,hks.2,h.p0,h.p1⟩
  rcases ga hx with hx|rfl
  ·exact h.iC x hx
  ·rcases m4 with h6|h6
   ·exact absurd h6 hd
   ·omega
 ·exact h
theorem qV {aq:List bz} {due:List Int} {an:List bx} {book:List Entry} {e:Int} {t:aR} (h:ku an) (ht:0<=t.sum):ku (dX aq due an book e t).2.1:=by
 unfold dX
 split
 ·exact h
 split
 ·exact h
 split
 ·exact jh h ht
 split
 ·exact h
 ·exact h
theorem eR.load {b:Bk} (h:eR b) (d:aS):eR (fA b d).1:=by
 have hok:=h.ok.load d
 unfold fA at hok ⊢
 split
 ·exact h
 rename_i c1
 rw [if_neg c1] at hok
 split
 ·exact h
 rename_i c2
 rw [if_neg c2] at hok
 unfold Dev.dz at hok ⊢
 split
 ·rename_i h0;rw [if_pos h0] at hok;exact ⟨hok,h.up,h.iC,jh h.free (by omega),h.k0,h.k1,h.p0,h.p1⟩
 ·exact h
theorem eR.uZ {b:Bk} (h:eR b) (d:aS):eR (gV b d).1:=by
 have hok:=h.ok.uZ d
 unfold gV at hok ⊢
 split
 ·exact h
 rename_i c1
 rw [if_neg c1] at hok
 split
 ·exact h
 rename_i c2
 rw [if_neg c2] at hok
 unfold Dev.dz at hok ⊢
 split
 ·rename_i h0;rw [if_pos h0] at hok;exact ⟨hok,h.up,h.iC,h.free,h.k0,h.k1,h.p0,h.p1⟩
 ·exact h
theorem eR.cH {b:Bk} (h:eR b) (d:aS):eR (fm b d).1:=by
 unfold fm
 split
 ·exact h
 ·rw [h.up]
  simp only [Bool.false_eq_true,if_false]
  have h1:eR {b with time:=b.time+d.sum}:=⟨h.ok.tick (by have:=h.ok.time;omega) (by have:=h.ok.time;omega),h.up,h.iC,h.free,h.k0,h.k1,h.p0,h.p1⟩
  have h2:=h1.late
  rwa [show ({b with time:=b.time+d.sum}:Bk)={b with time:=b.time+d.sum,down:=false} by rw [<-h.up]] at h2
theorem sZ {w:List bU} {ks:List aR} {n:Int} (h:∀ p∈w,0<=p.ct.sum) (hk:∀ t∈ks,0<=t.sum):∀ p∈(ic w ks n).1,0<=p.ct.sum:=by
 unfold ic
 split
 ·exact h
 ·intro p hp
  rcases tj hp with hp|⟨t,ht,rfl⟩|rfl
  ·exact h p hp
  ·exact hk t ht
  ·exact Int.le_refl _
theorem eR.send {b:Bk} (h:eR b) (d:aS):eR {b with w0:=(ez b.s0 b.s1 b.n0 b.n1 b.w0 b.w1 d).1,w1:=(ez b.s0 b.s1 b.n0 b.n1 b.w0 b.w1 d).2.1}:=by
 refine ⟨h.ok.send d,h.up,h.iC,h.free,h.k0,h.k1,?_,?_⟩
 ·dsimp only;unfold ez
  split
  ·exact h.p0
  split
  ·exact sZ h.p0 h.k1
  ·exact h.p0
 ·dsimp only;unfold ez
  split
  ·exact sZ h.p1 h.k0
  split
  ·exact h.p1
  ·exact h.p1
theorem tU {s:bP} {n:Int} (h:∀ t∈s.kept,0<=t.sum) (hb:(dL s n).2=0):∀ t∈(dL s n).1.kept,0<=t.sum:=by
 rcases py (show dL s n=((dL s n).1,(dL s n).2) from rfl) with ⟨h1,_⟩|⟨_,_,_,_,h2⟩
 ·exact absurd hb h1
 ·rw [h2];exact fun t ht=>h t (tz ht)
theorem eR.lG {b:Bk} (h:eR b) (d:aS):eR (bQ b d).1:=by
 have hok:=h.ok.lG d
 unfold bQ at hok ⊢
 split
 ·rename_i c0
  rw [if_pos c0] at hok
  unfold fa at hok ⊢
  split
  ·exact h
  rename_i p hp
  rw [hp] at hok
  dsimp only at hok
  have hps:=h.p0 p (List.mem_of_getElem? hp)
  have hd:∀ p∈b.w0.drop 1,0<=p.ct.sum:=fun p hp=>h.p0 p (List.mem_of_mem_drop hp)
  split
  ·rename_i c1;rw [if_pos c1] at hok;exact ⟨hok,h.up,h.iC,h.free,h.k0,h.k1,hd,h.p1⟩
  rename_i c1
  rw [if_neg c1] at hok
  split
  ·rename_i c2
   rw [if_pos c2] at hok
   split
   ·rename_i c3;rw [if_pos c3] at hok;exact ⟨hok,h.up,h.iC,h.free,tU h.k0 c3,h.k1,hd,h.p1⟩
   ·exact h
  rename_i c2
  rw [if_neg c2] at hok
  split
  ·rename_i c3
   rw [if_pos c3] at hok
   unfold Dev.dz at hok ⊢
   split
   ·rename_i c4;rw [if_pos c4] at hok;exact ⟨hok,h.up,h.iC,qV h.free hps,h.k0,h.k1,hd,h.p1⟩
   ·exact h
  ·rename_i c3;rw [if_neg c3] at hok;exact ⟨hok,h.up,h.iC,h.free,h.k0,h.k1,hd,h.p1⟩
 rename_i c0
 rw [if_neg c0] at hok
 split
 ·rename_i c01
  rw [if_pos c01] at hok
  unfold eZ at hok ⊢
  split
  ·exact h
  rename_i p hp
  rw [hp] at hok
  dsimp only at hok
  have hps:=h.p1 p (List.mem_of_getElem? hp)
  have hd:∀ p∈b.w1.drop 1,0<=p.ct.sum:=fun p hp=>h.p1 p (List.mem_of_mem_drop hp)
  split
  ·rename_i c1;rw [if_pos c1] at hok;exact ⟨hok,h.up,h.iC,h.free,h.k0,h.k1,h.p0,hd⟩
  rename_i c1
  rw [if_neg c1] at hok
  split
  ·rename_i c2
   rw [if_pos c2] at hok
   split
   ·rename_i c3;rw [if_pos c3] at hok;exact ⟨hok,h.up,h.iC,h.free,h.k0,tU h.k1 c3,h.p0,hd⟩
   ·exact h
  rename_i c2
  rw [if_neg c2] at hok
  split
  ·rename_i c3
   rw [if_pos c3] at hok
   unfold Dev.dz at hok ⊢
   split
   ·rename_i c4;rw [if_pos c4] at hok;exact ⟨hok,h.up,h.iC,qV h.free hps,h.k0,h.k1,h.p0,hd⟩
   ·exact h
  ·rename_i c3;rw [if_neg c3] at hok;exact ⟨hok,h.up,h.iC,h.free,h.k0,h.k1,h.p0,hd⟩
 ·exact h
theorem eR.Ch {b:Bk} (h:eR b) (y:List (List Int)) (d:aS) (h8:¬d.kind=8) (h6:¬(d.kind=3/\d.move=6)):eR (dc b y d).1:=by
 unfold dc
 split
 ·exact h.load d
 split
 ·exact h.asks d
 split
 ·rename_i h3;exact h.lF d fun e=>h6 ⟨h3,e⟩
 split
 ·exact h.cH d
 split
 ·exact h.send d
 split
 ·exact h.lG d
 split
 ·have:(jg b).1=b:=by unfold jg;rw [if_pos h.up]
  rw [this];exact h
 split
 ·exact ⟨h.ok.qj (lS (y:=y) h.ok.aO).1,h.up,h.iC,h.free,h.k0,h.k1,h.p0,h.p1⟩
 split
 ·exact h.uZ d
 ·exact h
section
def ep (k:Int):List bz->Int
 |[]=>0
 |a::l=>(if a.aJ=k then br a else 0)+ep k l
theorem rF (k:Int) (u v:List bz):ep k (u++v)=ep k u+ep k v:=by
 induction u with
 |nil=>simp [ep]
 |cons a u ih=>simp only [List.cons_append,ep,ih];omega
theorem nz (k:Int) (b:bz):∀ {l:List bz} {i:Nat} {a:bz},l[i]?=some a->ep k (l.set i b)=ep k l - (if a.aJ=k then br a else 0)+(if b.aJ=k then br b else 0)
 |x::l,0,a,h=>by
  have:x=a:=by simpa using h
  subst this
  simp only [List.set_cons_zero,ep];omega
 |x::l,i+1,a,h=>by
  have h:l[i]?=some a:=by simpa using h
  simp only [List.set_cons_succ,ep,nz k b h];omega
def gD (an:List bx) (aq:List bz):Prop:=∀ (k:Nat) (c:bx),an[k]?=some c->c.held=ep k aq
theorem pH {l:List bx} {e k h m:Int} (hz:(cx l e k h m).2=0):e=0/\((l[k.toNat]?=none/\(cx l e k h m).1=l)\/∃ c,l[k.toNat]?=some c/\(cx l e k h m).1=l.set k.toNat ⟨c.bf+m,c.held+h,c.bY,c.cD⟩):=by
 unfold cx at hz ⊢
 cases hc:l[k.toNat]? with
 |none=>rw [hc] at hz;exact ⟨hz,.inl ⟨rfl,rfl⟩⟩
 |some c=>
  rw [hc] at hz
  dsimp only at hz ⊢
  split at hz
  ·rename_i h0
   obtain ⟨h1,h2⟩:=fI h0
   rcases qi (show dU c h m=((dU c h m).1,(dU c h m).2) from rfl) with ⟨h3,_⟩|h3
   ·exact absurd h2 h3
   ·rw [if_pos h0]
    exact ⟨h1,.inr ⟨c,rfl,by dsimp only;rw [h3.2.2.2.2.2.2.1]⟩⟩
  ·rename_i h0;exact absurd hz h0
theorem gD.shift {an:List bx} {aq auths':List bz} {e k h m:Int} (hh:gD an aq) (hz:(cx an e k h m).2=0) (ha:∀ j:Nat,ep j auths'=ep j aq+if j=k.toNat then h else 0):gD (cx an e k h m).1 auths':=by
 obtain ⟨_,hz⟩:=pH hz
 intro j c hc
 rcases hz with ⟨h1,h2⟩|⟨c0,h1,h2⟩
 ·rw [h2] at hc
  have:j≠k.toNat:=fun e=>by subst e;rw [h1] at hc;cases hc
  rw [hh j c hc,ha j,if_neg this];omega
 ·rw [h2,List.getElem?_set] at hc
  split at hc
  ·rename_i e
   split at hc
   ·injection hc with hc;subst hc
    have:=hh _ c0 h1
    rw [ha j,if_pos e.symm,<-e];dsimp only;omega
   ·cases hc
  ·rename_i e
   rw [hh j c hc,ha j,if_neg (Ne.symm e)];omega
theorem gD.same {an:List bx} {aq:List bz} {e k m:Int} (hh:gD an aq) (hz:(cx an e k 0 m).2=0):gD (cx an e k 0 m).1 aq:=hh.shift hz fun j=>by split<;>omega
theorem ng {s:bP} {e:Int} {t:aR} (h:(eA s e t).2=0):e=0/\(fr s t).2=0/\(eA s e t).1=(fr s t).1:=by
 unfold eA at h ⊢
 split at h
 ·rename_i h0;obtain ⟨h1,h2⟩:=fI h0;rw [if_pos h0];exact ⟨h1,h2,rfl⟩
 ·rename_i h0;exact absurd h h0
theorem rm {s:bP} {t:aR} (h:(fr s t).2=0):(cb s).err=0/\(cb (iL s t)).err=0/\(fr s t).1=iL s t:=by
 unfold fr at h ⊢
 split at h
 ·rename_i h1;exact absurd h h1
 split at h
 ·rename_i h1;exact absurd h h1
 ·rename_i h1 h2;rw [if_neg h1,if_neg h2];exact ⟨by omega,by omega,rfl⟩
theorem xR {s:bP} {n:Int} (h:(dL s n).2=0):(cb s).err=0/\0<=n/\n<=s.bF/\(dL s n).1=⟨s.bF,dr (came n) s.kept⟩/\(cb (dL s n).1).err=0:=by
 rcases py (show dL s n=((dL s n).1,(dL s n).2) from rfl) with ⟨h1,_⟩|⟨_,h1,h2,h3,h4⟩
 ·exact absurd h h1
 ·exact ⟨h1,h2,h3,h4,by rw [h4];exact yW h1 h2 h3⟩
structure ea (b:Bk):Prop where
 ok:ck b
 held:gD b.an b.aq
 s0:(cb b.s0).err=0
 s1:(cb b.s1).err=0
 st:bT b.bG=0
 used:b.bG.used.length=b.an.length
 aO:∀ x∈b.aO,xu x
theorem rz {time:Int}:∀ (l:List bz) (i:Nat) (an:List bx) (aq:List bz) (e:Int),(fH time l i an aq e).2.2=0->e=0
 |[],_,_,_,_,h=>h
 |a::l,i,an,aq,e,h=>(pH (rz l _ _ _ _ h)).1
theorem rA {time:Int}:∀ (l:List bz) (i:Nat) (an:List bx) (aq:List bz) (e:Int),(fH time l i an aq e).2.2=0->aq.drop i=l->(∀ a∈l,0<=a.aJ)->gD an aq->gD (fH time l i an aq e).1 (fH time l i an aq e).2.1
 |[],_,_,_,_,_,_,_,h=>h
 |a::l,i,an,aq,e,hz,hd,hp,h=>by
  have hat:aq[i]?=some a:=by
   have:(aq.drop i)[0]?=some a:=by rw [hd];rfl
   rwa [List.getElem?_drop,Nat.add_zero] at this
  have hilt:=(List.getElem?_eq_some_iff.1 hat).1
  refine rA l (i+1) _ _ _ hz ?_ (fun x hx=>hp x (List.mem_cons_of_mem _ hx)) (h.shift (rz l _ _ _ _ hz) fun j=>?_)
  ·rw [List.drop_set_of_lt (by omega)]
   have:aq.drop (i+1)=(aq.drop i).drop 1:=by rw [List.drop_drop]
   rw [this,hd];rfl
  ·have hc:=hp a List.mem_cons_self
   rw [nz _ _ hat]
   have:(eh a time).aJ=a.aJ:=rfl
   rw [this]
   by_cases e:a.aJ=(j:Int)
   ·rw [if_pos e,if_pos e,if_pos (by omega)];omega
   ·rw [if_neg e,if_neg e,if_neg (by omega)];omega
theorem zT {time:Int} (l:List bz) (i:Nat) (an:List bx) (aq:List bz) (e:Int):(fH time l i an aq e).1.length=an.length:=by
 induction l generalizing i an aq e with
 |nil=>rfl
 |cons a l ih=>exact (ih (i+1) _ _ _).trans (ff _ _ _ _ _)
theorem ea.late {b:Bk} (h:ea b):ea (gP b):=by
 have hok:=h.ok.late
 unfold gP at hok ⊢
 split
 ·rename_i h0
  rw [if_pos h0] at hok
  exact ⟨hok,rA _ _ _ _ _ h0 rfl (fun a ha=>(h.ok.perm a ha).2.1) h.held,h.s0,h.s1,h.st,by dsimp only;rw [zT];exact h.used,h.aO⟩
 ·exact h
theorem ea.start {s:Setup} (h:(ey s).err=0):ea (iv s):=by
 obtain ⟨h1,h2,h3,h4,h5,h6⟩:=kJ h
 have hn:dw s.cap s.cX.length=({cap:=s.cap,used:=List.replicate s.cX.length 0,aZ:=[]},0):=pO h1 ⟨h4,h5⟩
 refine ⟨ck.start h,fun k c hc=>?_,rfl,rfl,?_,?_,fun x hx=>by cases hx⟩
 ·have hc:(s.cX.map pv)[k]?=some c:=hc
  rw [List.getElem?_map] at hc
  cases hp:s.cX[k]? with
  |none=>rw [hp] at hc;cases hc
  |some p=>rw [hp] at hc;injection hc with hc;subst hc;rfl
 ·show bT (dw s.cap s.cX.length).1=0
  rw [hn];exact tq _ _ h1 h4 h5
 ·show (dw s.cap s.cX.length).1.used.length=(s.cX.map pv).length
  rw [hn];simp
theorem ea.load {b:Bk} (h:ea b) (d:aS):ea (fA b d).1:=by
 have hok:=h.ok.load d
 unfold fA at hok ⊢
 split
 ·exact h
 rename_i c1
 rw [if_neg c1] at hok
 split
 ·exact h
 rename_i c2
 rw [if_neg c2] at hok
 unfold Dev.dz at hok ⊢
 split
 ·rename_i h0
  rw [if_pos h0] at hok
  exact ⟨hok,h.held.same (jI h0).1,h.s0,h.s1,h.st,by dsimp only;rw [ff];exact h.used,h.aO⟩
 ·exact h
theorem ea.uZ {b:Bk} (h:ea b) (d:aS):ea (gV b d).1:=by
 have hok:=h.ok.uZ d
 unfold gV at hok ⊢
 split
 ·exact h
 rename_i c1
 rw [if_neg c1] at hok
 split
 ·exact h
 rename_i c2
 rw [if_neg c2] at hok
 unfold Dev.dz at hok ⊢
 split
 ·rename_i h0;rw [if_pos h0] at hok;exact ⟨hok,h.held,h.s0,h.s1,h.st,h.used,h.aO⟩
 ·exact h
theorem ea.cH {b:Bk} (h:ea b) (d:aS):ea (fm b d).1:=by
 unfold fm
 split
 ·exact h
 ·have h1:ea {b with time:=b.time+d.sum}:=⟨h.ok.tick (by have:=h.ok.time;omega) (by have:=h.ok.time;omega),h.held,h.s0,h.s1,h.st,h.used,h.aO⟩
  dsimp only
  split
  ·exact h1
  ·exact h1.late
theorem ea.send {b:Bk} (h:ea b) (d:aS):ea {b with w0:=(ez b.s0 b.s1 b.n0 b.n1 b.w0 b.w1 d).1,w1:=(ez b.s0 b.s1 b.n0 b.n1 b.w0 b.w1 d).2.1}:=
 ⟨h.ok.send d,h.held,h.s0,h.s1,h.st,h.used,h.aO⟩
theorem qU {aq:List bz} {due:List Int} {an:List bx} {book:List Entry} {e:Int} {t:aR} (h:gD an aq) (hz:(dX aq due an book e t).2.2.2=0):gD (dX aq due an book e t).2.1 aq/\(dX aq due an book e t).2.1.length=an.length:=by
 unfold dX at hz ⊢
 split
 ·exact ⟨h,rfl⟩
 rename_i a ha
 rw [ha] at hz
 dsimp only at hz
 split
 ·exact ⟨h,rfl⟩
 rename_i c1
 rw [if_neg c1] at hz
 split
 ·rename_i c2;rw [if_pos c2] at hz;exact ⟨h.same (jI hz).1,ff _ _ _ _ _⟩
 split
 ·exact ⟨h,rfl⟩
 ·exact ⟨h,rfl⟩
theorem ea.lG {b:Bk} (h:ea b) (d:aS):ea (bQ b d).1:=by
 have hok:=h.ok.lG d
 unfold bQ at hok ⊢
 split
 ·rename_i c0
  rw [if_pos c0] at hok
  unfold fa at hok ⊢
  split
  ·exact h
  rename_i p hp
  rw [hp] at hok
  dsimp only at hok
  split
  ·rename_i c1;rw [if_pos c1] at hok;exact ⟨hok,h.held,h.s0,h.s1,h.st,h.used,h.aO⟩
  rename_i c1
  rw [if_neg c1] at hok
  split
  ·rename_i c2
   rw [if_pos c2] at hok
   split
   ·rename_i c3;rw [if_pos c3] at hok;exact ⟨hok,h.held,(xR c3).2.2.2.2,h.s1,h.st,h.used,h.aO⟩
   ·exact h
  rename_i c2
  rw [if_neg c2] at hok
  split
  ·rename_i c3
   rw [if_pos c3] at hok
   unfold Dev.dz at hok ⊢
   split
   ·rename_i c4;rw [if_pos c4] at hok;obtain ⟨r1,r2⟩:=qU h.held c4;exact ⟨hok,r1,h.s0,h.s1,h.st,h.used.trans r2.symm,h.aO⟩
   ·exact h
  ·rename_i c3;rw [if_neg c3] at hok;exact ⟨hok,h.held,h.s0,h.s1,h.st,h.used,h.aO⟩
 rename_i c0
 rw [if_neg c0] at hok
 split
 ·rename_i c01
  rw [if_pos c01] at hok
  unfold eZ at hok ⊢
  split
  ·exact h
  rename_i p hp
  rw [hp] at hok
  dsimp only at hok
  split
  ·rename_i c1;rw [if_pos c1] at hok;exact ⟨hok,h.held,h.s0,h.s1,h.st,h.used,h.aO⟩
  rename_i c1
  rw [if_neg c1] at hok
  split
  ·rename_i c2
   rw [if_pos c2] at hok
   split
   ·rename_i c3;rw [if_pos c3] at hok;exact ⟨hok,h.held,h.s0,(xR c3).2.2.2.2,h.st,h.used,h.aO⟩
   ·exact h
  rename_i c2
  rw [if_neg c2] at hok
  split
  ·rename_i c3
   rw [if_pos c3] at hok
   unfold Dev.dz at hok ⊢
   split
   ·rename_i c4;rw [if_pos c4] at hok;obtain ⟨r1,r2⟩:=qU h.held c4;exact ⟨hok,r1,h.s0,h.s1,h.st,h.used.trans r2.symm,h.aO⟩
   ·exact h
  ·rename_i c3;rw [if_neg c3] at hok;exact ⟨hok,h.held,h.s0,h.s1,h.st,h.used,h.aO⟩
 ·exact h
theorem Af {s:cu} {a:ca} (h:(ch s a).2=0):(ch s a).1.used.length=s.used.length:=by
 unfold ch at h ⊢
 split at h
 ·rename_i h1;exact absurd h h1
 split at h
 ·cases h
 split at h
 ·cases h
 split at h
 ·cases h
 ·rename_i h1 h2 h3 h4;rw [if_neg h1,if_neg h2,if_neg h3,if_neg h4];exact List.length_set ..
theorem gD.new {an:List bx} {aq:List bz} {k:Int} {c c':bx} {a:bz} (hh:gD an aq) (hk:0<=k) (hc:an[k.toNat]?=some c) (ha:a.aJ=k) (h':c'.held=c.held+br a):gD (an.set k.toNat c') (aq++[a]):=by
 intro j z hz
 rw [rF]
 have h1:ep j [a]=if a.aJ=j then br a else 0:=by simp [ep]
 rw [h1]
 rw [List.getElem?_set] at hz
 split at hz
 ·rename_i e
  split at hz
  ·injection hz with hz;subst hz
   have:=hh _ c hc
   rw [if_pos (by omega),<-e];omega
  ·cases hz
 ·rename_i e
  rw [hh j z hz,if_neg (by omega)];omega
theorem ea.asks {b:Bk} (h:ea b) (d:aS):ea (dD b d).1:=by
 have hok:=h.ok.asks d
 unfold dD at hok ⊢
 split
 ·exact h
 rename_i c0
 rw [if_neg c0] at hok
 split
 ·rename_i cd
  rw [if_pos cd] at hok
  split
  ·exact h
  rename_i c1
  rw [if_neg c1] at hok
  split
  ·exact h
  rename_i c2
  rw [if_neg c2] at hok
  have he:=rL (show gz (ch b.bG ⟨d.n,d.ax,d.sum,b.time⟩).2=0 by omega)
  exact ⟨hok,h.held,h.s0,h.s1,(yA h.st he).1,(Af he).trans h.used,h.aO⟩
 rename_i cd
 rw [if_neg cd] at hok
 split
 ·exact h
 rename_i c2
 rw [if_neg c2] at hok
 split
 ·exact h
 rename_i c3
 rw [if_neg c3] at hok
 obtain ⟨_,w2,_⟩:=oE (show (cY d.n d.ax d.sum b.time).2=0 by omega)
 split
 ·exact h
 rename_i c hc
 rw [hc] at hok
 dsimp only at hok
 split
 ·exact h
 rename_i c4
 rw [if_neg c4] at hok
 refine ⟨hok,h.held.new (by omega) hc (by rw [w2]) ?_,h.s0,h.s1,h.st,by dsimp only;rw [List.length_set];exact h.used,h.aO⟩
 rcases qJ (show dF c d.sum b.time=((dF c d.sum b.time).1,(dF c d.sum b.time).2) from rfl) with ⟨h5,_⟩|⟨h5,h6,h7,h8,h9,h10,h11,l,h12,h13⟩
 ·omega
 ·rw [h13,w2];simp [br]
theorem uB:∀ (l:List ca) (cs:List bx) (xs:List bz),(gh l cs xs).2.2=0->gD cs xs->(∀ a∈l,0<=a.aJ/\a.aJ < cs.length)->gD (gh l cs xs).1 (gh l cs xs).2.1/\(gh l cs xs).1.length=cs.length
 |[],cs,xs,_,h,_=>⟨h,rfl⟩
 |x::l,cs,xs,hz,h,hl=>by
  unfold gh at hz ⊢
  split at hz
  ·rename_i h1;exact absurd hz h1
  rename_i h1
  rw [if_neg h1]
  have hx:=hl x List.mem_cons_self
  cases hc:cs[x.aJ.toNat]? with
  |none=>have:=List.getElem?_eq_none_iff.1 hc;omega
  |some c=>
   rw [hc] at hz
   dsimp only at hz ⊢
   split at hz
   ·rename_i h2;exact absurd hz h2
   rename_i h2
   rw [if_neg h2]
   obtain ⟨_,w2,_⟩:=oE (show (cY x.aJ x.ax x.sum x.time).2=0 by omega)
   obtain ⟨_,f2,_⟩:=oN (show (eO c x.sum).2=0 by omega)
   have:=uB l _ _ hz (h.new hx.1 hc (by rw [w2]) (by rw [f2,w2];simp [br])) (fun a ha=>by rw [List.length_set];exact hl a (List.mem_cons_of_mem _ ha))
   rw [List.length_set] at this
   exact this
theorem ea.DQ {b:Bk} (h:ea b):ea (jg b).1:=by
 unfold jg
 split
 ·exact h
 split
 ·exact h
 split
 ·exact h
 rename_i c1 c2 c3
 have h0:(cQ b.bG).2.2=0:=by omega
 obtain ⟨r1,r2,r3⟩:=qH h0
 have hu:=h.ok.Bd h0
 have hz:(gh (cQ b.bG).2.1 b.an b.aq).2.2=0:=by omega
 obtain ⟨u1,u2⟩:=uB _ _ _ hz h.held (fun a ha=>by rw [r3] at ha;have:=h.ok.jy a ha;omega)
 have hp:=gJ h.st
 refine ea.late ⟨hu,u1,h.s0,h.s1,?_,?_,h.aO⟩
 ·dsimp only;rw [r2]
  have hc:0<=b.bG.cap/\b.bG.cap<=1000000:=by simpa [gb] using hp.2.2.1
  exact tq _ _ hp.1 hc.1 hc.2
 ·dsimp only;rw [r2,u2];simp [h.used]
theorem ea.lF {b:Bk} (h:ea b) (d:aS):ea (dv b d).1:=by
 have hok:=h.ok.lF d
 unfold dv at hok ⊢
 split
 ·exact h
 rename_i cd
 rw [if_neg cd] at hok
 split
 ·exact h
 rename_i c1
 rw [if_neg c1] at hok
 split
 ·exact h
 rename_i cz ho
 rw [ho] at hok
 dsimp only at hok
 split
 ·exact h
 rename_i c2
 rw [if_neg c2] at hok
 split
 ·exact h
 rename_i c3
 rw [if_neg c3] at hok
 have hmv:bW cz d.move d.sum=((bW cz d.move d.sum).1,0):=Prod.ext rfl (by dsimp only;omega)
 generalize (bW cz d.move d.sum).1=a at *
 obtain ⟨_,hwa,hcard,hshop,hk1,hk2,hn1,hn2⟩:=my hmv
 rcases qp hmv with ⟨h4,_⟩|⟨_,hw,_,_,hm⟩
 ·exact absurd rfl h4
 have hp:=h.ok.perm cz (List.mem_of_getElem? ho)
 have hra:=eN hwa
 have hset:∀ j:Nat,ep j (b.aq.set d.n.toNat a)=ep j b.aq+if j=a.aJ.toNat then br a - br cz else 0:=fun j=>by
  rw [nz _ _ ho,hcard]
  by_cases e:cz.aJ=(j:Int)
  ·rw [if_pos e,if_pos e,if_pos (by omega)];omega
  ·rw [if_neg e,if_neg e,if_neg (by omega)];omega
 have hsame:br a=br cz->∀ j:Nat,ep j (b.aq.set d.n.toNat a)=ep j b.aq:=fun e j=>by rw [hset j];split<;>omega
 have hh:d.move=5\/d.move=6\/d.move=7\/d.move=8->br a=br cz:=fun e=>by
  cases hm with
  |uW _ _=>rfl
  |sI _ _=>rfl
  |sF _ _=>rfl
  |sE _ _=>rfl
  |more h _ _=>omega
  |take h _ _=>omega
  |less h _ _=>omega
 unfold lZ Dev.dz at hok ⊢
 split
 rotate_left
 ·exact h
 rename_i h0
 rw [if_pos h0] at hok
 obtain ⟨e0,hl0,hnote⟩:=yo h0
 have key:gD (dK b a cz d).1 (b.aq.set d.n.toNat a)/\(cb (dK b a cz d).2.2.2.1).err=0/\(cb (dK b a cz d).2.2.2.2.1).err=0/\(dK b a cz d).1.length=b.an.length:=by
  unfold dK at e0 ⊢
  split at e0
  ·rename_i hk;rw [if_pos hk];exact ⟨h.held.shift e0 hset,h.s0,h.s1,ff _ _ _ _ _⟩
  rename_i k1
  rw [if_neg k1]
  split at e0
  ·rename_i hk;rw [if_pos hk]
   obtain ⟨e1,e2,e3⟩:=ng e0
   obtain ⟨_,p2,p3⟩:=rm e2
   exact ⟨h.held.shift (jI e1).1 hset,by dsimp only;rw [e3,p3];exact p2,h.s1,ff _ _ _ _ _⟩
  rename_i k2
  rw [if_neg k2]
  split at e0
  ·rename_i hk;rw [if_pos hk]
   obtain ⟨e1,e2,e3⟩:=ng e0
   obtain ⟨_,p2,p3⟩:=rm e2
   exact ⟨fun j c hc=>by rw [hsame (hh (.inl hk)) j];exact h.held j c hc,h.s0,by dsimp only;rw [e3,p3];exact p2,rfl⟩
  rename_i k3
  rw [if_neg k3]
  split at e0
  ·rename_i hk;rw [if_pos hk]
   exact ⟨h.held.shift (jI e0).1 fun j=>by rw [hsame (hh (.inr (.inl hk))) j];split<;>omega,h.s0,h.s1,ff _ _ _ _ _⟩
  rename_i k4
  rw [if_neg k4]
  split at e0
  ·rename_i hk;rw [if_pos hk]
   obtain ⟨e1,e2,e3⟩:=ng e0
   obtain ⟨_,p2,p3⟩:=rm e2
   exact ⟨fun j c hc=>by rw [hsame (hh (.inr (.inr (.inl hk)))) j];exact h.held j c hc,by dsimp only;rw [e3,p3];exact p2,h.s1,rfl⟩
  rename_i k5
  rw [if_neg k5]
  split at e0
  ·rename_i hk;rw [if_pos hk]
   exact ⟨h.held.shift (jI e0).1 fun j=>by rw [hsame (hh (.inr (.inr (.inr hk)))) j];split<;>omega,h.s0,h.s1,ff _ _ _ _ _⟩
  ·omega
 refine ⟨hok,key.1,key.2.1,key.2.2.1,h.st,h.used.trans key.2.2.2.symm,fun x hx=>?_⟩
 dsimp only at hx
 rw [hnote] at hx
 rcases List.mem_append.1 hx with hx|hx
 ·exact h.aO x hx
 ·obtain rfl:=List.mem_singleton.1 hx
  have hlen:=h.ok.aq
  constructor
  ·unfold mB;dsimp only;omega
  ·unfold nK;dsimp only;omega
theorem ea.Ch {b:Bk} (h:ea b) (y:List (List Int)) (d:aS):ea (dc b y d).1:=by
 unfold dc
 split
 ·exact h.load d
 split
 ·exact h.asks d
 split
 ·exact h.lF d
 split
 ·exact h.cH d
 split
 ·exact h.send d
 split
 ·exact h.lG d
 split
 ·split
  ·exact h
  ·exact ⟨⟨h.ok.time,h.ok.an,h.ok.due,h.ok.aq,h.ok.aO,h.ok.w0,h.ok.w1,h.ok.perm,h.ok.jy,h.ok.k0,h.ok.k1,h.ok.right,h.ok.l0,h.ok.l1,h.ok.p0,h.ok.p1,h.ok.n0,h.ok.n1,fun h=>by cases h⟩,h.held,h.s0,h.s1,h.st,h.used,h.aO⟩
 split
 ·exact h.DQ
 split
 ·refine ⟨h.ok.qj (lS (y:=y) h.ok.aO).1,h.held,h.s0,h.s1,h.st,h.used,?_⟩
  unfold iT
  split
  ·exact h.aO
  ·exact fun x hx=>by cases hx
 split
 ·exact h.uZ d
 ·exact h
end
section
structure HL (n:Nat) (aq:List bz) (hl:List Int):Prop where
 len:hl.length=n
 at_:∀ k:Nat,k < n->hl[k]?=some (ep k aq)
theorem HL.start (n:Nat):HL n [] (List.replicate n 0):=⟨List.length_replicate,fun k hk=>by rw [List.getElem?_replicate,if_pos hk];rfl⟩
theorem HL.step {n:Nat} {u:List bz} {hl:List Int} {a:bz} {x v:Int} (h:HL n u hl) (ha:0<=a.aJ/\a.aJ < n) (hx:hl[a.aJ.toNat]?=some x) (hv:v=x+br a):HL n (u++[a]) (hl.set a.aJ.toNat v):=by
 refine ⟨(List.length_set ..).trans h.len,fun k hk=>?_⟩
 rw [rF]
 have h1:ep k [a]=if a.aJ=k then br a else 0:=by simp [ep]
 rw [h1,List.getElem?_set]
 have h2:=h.at_ k hk
 split
 ·rename_i e
  rw [e] at hx
  rw [hx] at h2
  injection h2 with h2
  rw [if_pos (by rw [h.len];omega),if_pos (by omega),hv,h2]
 ·rename_i e
  rw [if_neg (by omega),h2];simp
theorem vu (k:Int):∀ {l:List bz},(∀ a∈l,bE a=0)->0<=ep k l/\ep k l<=1000000 * l.length
 |[],_=>by simp [ep]
 |a::l,h=>by
  have:=vu k (l:=l) fun x hx=>h x (List.mem_cons_of_mem _ hx)
  have h2:=oK (h a List.mem_cons_self)
  simp only [ep,List.length_cons]
  split<;>omega
theorem HL.b {n:Nat} {u:List bz} {hl:List Int} {k:Nat} {x:Int} (h:HL n u hl) (hx:hl[k]?=some x) (hu:∀ a∈u,bE a=0) (hl':u.length<=30):0<=x/\x<=30000000:=by
 have hk:=(List.getElem?_eq_some_iff.1 hx).1
 have h2:=h.at_ k (by rw [<-h.len];exact hk)
 rw [hx] at h2;injection h2 with h2
 have:=vu k hu
 omega
end
def eP:List aS->Bk->List (List Int)->List Answer->Bk×List (List Int)×List Answer
 |[],b,y,out=>(b,y,out)
 |d::l,b,y,out=>eP l (dc b y d).1 (dc b y d).2.1 (out++[(dc b y d).2.2])
theorem rp:∀ {l:List aS},(∀ d∈l,d.id=0)->∀ (b:Bk) (y:List (List Int)) (told:List (Int×Answer)) (cl:Nat) (out:List Answer),km l b y told cl out=eP l b y out
 |[],_,_,_,_,_,_=>rfl
 |d::l,h,b,y,told,cl,out=>by
  have h0:fG b y told cl d=((dc b y d).1,(dc b y d).2.1,oh told d.id (dc b y d).2.2,if (iI told d.id).isSome then cl else cl+1,(dc b y d).2.2):=by
   unfold fG;rw [if_neg (fun h'=>h'.2 (h d (by simp)))]
  unfold km eP
  rw [h0]
  exact rp (fun x hx=>h x (by simp [hx])) _ _ _ _ _
theorem ec {d:aS} {l:List aS} {b b':Bk} {y y':List (List Int)} {out:List Answer} {a:Answer} (h:dc b y d=(b',y',a)):eP (d::l) b y out=eP l b' y' (out++[a]):=by
 rw [eP,h]
def iu (limit:Int):Bk:=⟨0,false,[⟨0,0,⟨1000,30,1000000000000⟩,[]⟩,⟨0,0,⟨1000,30,1000000000000⟩,[]⟩],[0,0],[],⟨0,[]⟩,⟨0,[]⟩,0,0,[],[],⟨limit,[0,0],[]⟩,[],[]⟩
theorem DC {n:Int} (h0:0<=n) (h1:n<=1000000):gb n=true:=by
 exact decide_eq_true ⟨h0,h1⟩
theorem FF {limit:Int} {l:List aS} (h0:0<=limit) (h1:limit<=1000000) (hl:l.length<=150) (hz:∀ d∈l,d.id=0):
  ik ⟨[⟨1000,30,1000000000000⟩,⟨1000,30,1000000000000⟩],2,limit⟩ l=((eP l (iu limit) [] []).1,(eP l (iu limit) [] []).2.1,(eP l (iu limit) [] []).2.2,⟨0,0⟩):=by
 have hw:ey ⟨[⟨1000,30,1000000000000⟩,⟨1000,30,1000000000000⟩],2,limit⟩=⟨0,0⟩:=by
  unfold ey
  rw [if_neg (by simp),if_neg (by dsimp only;omega)]
  rfl
 have hs:iv ⟨[⟨1000,30,1000000000000⟩,⟨1000,30,1000000000000⟩],2,limit⟩=iu limit:=by
  unfold iv iu dw
  rw [if_neg (by simp),if_neg (fun h=>h (DC h0 h1))]
  rfl
 unfold ik
 rw [hw,if_neg (by simp),if_neg (by omega),hs,rp hz]
theorem lx {l:List Entry} {src dst n:Int} (hw:(dn l).err=0) (hs:0<=src/\src<=57) (hd:0<=dst/\dst<=57) (hne:src≠dst) (hn:0<=n/\n<=1000000000000)
  (h1:-1000000000000<=cc l src - n) (h2:cc l dst+n<=1000000000000):
  ∃ r,dQ l 0 src dst n=(r,0)/\(dn r).err=0/\∀ x,cc r x=cc l x+(if x=dst then n else 0) - (if x=src then n else 0):=by
 have hR:=(jz.1 hw).1
 have hbd:∀ a,-1000000000000<=cc l a/\cc l a<=1000000000000:=fun a=>yB fun x hx=>by
  have:=hR.ok x hx;omega
 have b1:=hbd src;have b2:=hbd dst
 have hp:∃ r,fc l [⟨src,0 - n⟩,⟨dst,n⟩]=some r:=by
  refine ⟨gH (gH l src (cc l src+(0 - n))) dst (cc l dst+n),?_⟩
  unfold fc
  rw [if_pos (lW.2 ⟨by dsimp only;omega,by dsimp only;omega⟩)]
  unfold fc
  dsimp only
  rw [qv hR.up,if_neg hne,if_pos (lW.2 ⟨by omega,by omega⟩)]
  rfl
 obtain ⟨r,hr⟩:=hp
 have hpo:fZ l [⟨src,0 - n⟩,⟨dst,n⟩]=(r,0):=by
  rw [qo hw (by simp) (fun x hx=>by simp only [List.mem_cons,List.not_mem_nil,or_false] at hx;rcases hx with rfl|rfl<;>(unfold eV;dsimp only;omega)) (by simp only [en];omega),hr]
 have hm:iU l src dst n=(r,0):=by unfold iU;rw [if_neg (by omega)];exact hpo
 refine ⟨r,?_,(ox hpo 0).1,fun x=>?_⟩
 ·unfold dQ;rw [hm];rfl
 ·rw [(ox hpo x).2];simp only [ly]
  have e1:(src=x)=(x=src):=propext ⟨Eq.symm,Eq.symm⟩
  have e2:(dst=x)=(x=dst):=propext ⟨Eq.symm,Eq.symm⟩
  simp only [e1,e2]
  split<;>split<;>omega
theorem zd {c:bx} {m h:Int} (hw:cr c=0) (h1:-1000000000000<=m/\m<=1000000000000) (h2:0<=h/\h<=1000000000000):cr ⟨m,h,c.bY,c.cD⟩=0:=by
 have:=fW hw
 unfold cr;rw [if_neg (by dsimp only;omega),if_neg (fun x=>x this.2.2.2.2.1)];exact this.2.2.2.2.2
theorem oq {l:List bx} {k held bf:Int} {c:bx} (hc:l[k.toNat]?=some c) (hw:cr c=0) (h1:-1000000000000<=c.bf+bf/\c.bf+bf<=1000000000000) (h2:0<=c.held+held/\c.held+held<=1000000000000)
  (h3:-1000000000000<=held/\held<=1000000000000) (h4:-1000000000000<=bf/\bf<=1000000000000):cx l 0 k held bf=(l.set k.toNat ⟨c.bf+bf,c.held+held,c.bY,c.cD⟩,0):=by
 have hs:dU c held bf=(⟨c.bf+bf,c.held+held,c.bY,c.cD⟩,0):=by
  unfold dU;rw [if_neg (fun h=>h hw),if_neg (by omega),if_neg (fun h=>h (zd hw h1 h2))]
 rw [ot hc,hs];rfl
theorem Ci {b:Bk} {n s:Int} {c:bx} (hn:0<=n/\n<=7) (hs:1<=s/\s<=1000000) (hc:b.an[n.toNat]?=some c) (hw:cr c=0) (hm:c.bf+s<=1000000000000) (hb:(dn b.book).err=0)
  (h1:-1000000000000<=cc b.book 0 - s) (h2:cc b.book (10+n)+s<=1000000000000):
  ∃ r,(∀ y,dc b y ⟨0,1,n,0,0,s⟩=({b with an:=b.an.set n.toNat ⟨c.bf+s,c.held,c.bY,c.cD⟩,book:=r},y,⟨0,0⟩))/\(dn r).err=0/\∀ x,cc r x=cc b.book x+(if x=10+n then s else 0) - (if x=0 then s else 0):=by
 have hlt:=(List.getElem?_eq_some_iff.1 hc).1
 have hR:=fW hw
 obtain ⟨r,hr,hrw,hrg⟩:=lx (l:=b.book) (src:=0) (dst:=10+n) (n:=s) hb (by omega) (by omega) (by omega) (by omega) h1 h2
 refine ⟨r,fun y=>?_,hrw,hrg⟩
 have hS:=oq (l:=b.an) (k:=n) (held:=0) (bf:=s) hc hw (by omega) (by omega) (by omega) (by omega)
 have hL:fA b ⟨0,1,n,0,0,s⟩=({b with an:=b.an.set n.toNat ⟨c.bf+s,c.held,c.bY,c.cD⟩,book:=r},⟨0,0⟩):=by
  unfold fA
  rw [if_neg (by dsimp only;omega),if_neg (by dsimp only;omega)]
  dsimp only
  rw [hS];dsimp only;rw [hr,Int.add_zero];rfl
 unfold dc;rw [if_pos rfl,hL]
theorem DA {b:Bk} {n p s:Int} {c c':bx} (hd:b.down=false) (hn:0<=n/\n<=7) (hp:0<=p/\p < b.due.length) (hp7:p<=7) (hs:1<=s/\s<=1000000) (ht:0<=b.time/\b.time<=1000000) (ha:b.aq.length < 30) (hc:b.an[n.toNat]?=some c)
  (hA:dF c s b.time=(c',0)) (y:List (List Int)):
  dc b y ⟨0,2,n,p,0,s⟩=({b with an:=b.an.set n.toNat c',aq:=b.aq++[⟨n,p,s,0,0,0,b.time+100,false⟩]},y,⟨0,b.aq.length⟩):=by
 have hlt:=(List.getElem?_eq_some_iff.1 hc).1
 have hN:cY n p s b.time=(⟨n,p,s,0,0,0,b.time+100,false⟩,0):=by unfold cY;rw [if_neg (by omega)]
 have hL:dD b ⟨0,2,n,p,0,s⟩=({b with an:=b.an.set n.toNat c',aq:=b.aq++[⟨n,p,s,0,0,0,b.time+100,false⟩]},⟨0,b.aq.length⟩):=by
  unfold dD
  rw [if_neg (by dsimp only;omega),if_neg (by rw [hd];decide)]
  dsimp only
  rw [hN,if_neg (by omega),if_neg (by simp)]
  dsimp only
  rw [hc]
  dsimp only
  rw [hA,if_neg (by simp)]
 unfold dc;rw [if_neg (by dsimp only;omega),if_pos rfl,hL]
theorem Ao {c:bx} {s t:Int} (hw:cr c=0) (hs:1<=s/\s<=1000000) (ht:0<=t/\t<=1000000) (hm:c.held+s<=c.bf) (hP:c.bY=⟨1000,30,1000000000000⟩) (hu:c.cD=[]):
  dF c s t=(⟨c.bf,c.held+s,⟨1000,30,1000000000000⟩,[⟨t,s⟩]⟩,0):=by
 have hR:=fW hw
 have h1:(fe [⟨t,s⟩]).err=0:=by
  have h0:jb [⟨t,s⟩] 0=0:=by
   unfold jb
   dsimp only [List.getElem?_cons_zero]
   rw [if_neg (by omega),if_neg (by omega)]
  unfold fe cD
  rw [if_neg (by simp)]
  simp [scan,h0]
 have hA:ej ⟨1000,30,1000000000000⟩ [] ⟨t,s⟩=([⟨t,s⟩],0):=by
  unfold ej
  rw [if_neg (by decide),if_neg (by decide),if_neg (by omega),if_neg (by simp [gm])]
  rw [show dA ⟨1000,30,1000000000000⟩ [] t=[] from rfl]
  rw [if_neg (by simp [gF];omega)];rfl
 unfold dF
 rw [if_neg (by omega),if_neg (by omega),if_neg (by omega),hP,hu,hA,if_neg (by simp)]
theorem Dz {b:Bk} {n m s:Int} {a a':bz} {c:bx} {s':bP} (hd:b.down=false) (hm:m=2\/m=3) (hs:1<=s/\s<=1000000) (hn:0<=n) (ha:b.aq[n.toNat]?=some a) (hM:bW a m s=(a',0)) (hk:0<=a'.aJ/\a'.aJ<=7)
  (hc:b.an[a'.aJ.toNat]?=some c) (hw:cr c=0) (h1:-1000000000000<=c.bf - s) (h2:0<=c.held+(br a' - br a)/\c.held+(br a' - br a)<=1000000000000) (h3:-1000000000000<=br a' - br a/\br a' - br a<=1000000000000)
  (hb:(dn b.book).err=0) (h4:-1000000000000<=cc b.book (10+a'.aJ) - s) (h5:cc b.book 1+s<=1000000000000) (hP:fr b.s0 ⟨0,1,n,s⟩=(s',0)) (hT:b.aO.length < 100):
  ∃ r,(∀ y,dc b y ⟨0,3,n,0,m,s⟩=({b with an:=b.an.set a'.aJ.toNat ⟨c.bf - s,c.held+(br a' - br a),c.bY,c.cD⟩,book:=r,s0:=s',aO:=b.aO++[⟨a'.ax,n,m,s⟩],aq:=b.aq.set n.toNat a'},y,⟨0,0⟩))/\
   (dn r).err=0/\∀ x,cc r x=cc b.book x+(if x=1 then s else 0) - (if x=10+a'.aJ then s else 0):=by
 have hlt:=(List.getElem?_eq_some_iff.1 ha).1
 have hR:=fW hw
 obtain ⟨r,hr,hrw,hrg⟩:=lx (l:=b.book) (src:=10+a'.aJ) (dst:=1) (n:=s) hb (by omega) (by omega) (by omega) (by omega) h4 h5
 refine ⟨r,fun y=>?_,hrw,hrg⟩
 have hS:=oq (l:=b.an) (k:=a'.aJ) (held:=br a' - br a) (bf:=0 - s) hc hw (by omega) h2 h3 (by omega)
 rw [show c.bf+(0 - s)=c.bf - s by omega] at hS
 have hL:dv b ⟨0,3,n,0,m,s⟩=({b with an:=b.an.set a'.aJ.toNat ⟨c.bf - s,c.held+(br a' - br a),c.bY,c.cD⟩,book:=r,s0:=s',aO:=b.aO++[⟨a'.ax,n,m,s⟩],aq:=b.aq.set n.toNat a'},⟨0,0⟩):=by
  unfold dv
  rw [if_neg (by rw [hd];decide),if_neg (by dsimp only;omega)]
  dsimp only
  rw [ha]
  dsimp only
  rw [hM,if_neg (by simp),if_neg (by omega)]
  unfold dK
  dsimp only
  rw [if_neg (by omega),if_pos hm,hS]
  dsimp only
  rw [hr]
  unfold eA
  rw [hP]
  unfold lZ im
  dsimp only
  rw [if_pos (show dt 0 0=0 from rfl),if_neg (show ¬b.aO.length=100 by omega)]
  rfl
 unfold dc;rw [if_neg (by dsimp only;omega),if_neg (by dsimp only;omega),if_pos rfl,hL]
def PT:dk:=⟨1000,30,1000000000000⟩
theorem xa {m h:Int} (h1:-1000000000000<=m/\m<=1000000000000) (h2:0<=h/\h<=1000000000000):cr ⟨m,h,PT,[]⟩=0:=by
 unfold cr;rw [if_neg (by dsimp only;omega)];rfl
theorem te {k s:Int} (hk:1<=k/\k<=3) (hs:1<=s/\s<=1000000):fr ⟨0,[]⟩ ⟨0,k,0,s⟩=(⟨1,[⟨1,k,0,s⟩]⟩,0):=by
 have h0:jT (iL ⟨0,[]⟩ ⟨0,k,0,s⟩) 0=0:=by
  unfold jT iL
  simp only [List.nil_append,List.getElem?_cons_zero,List.length_singleton]
  rw [if_neg (by omega),if_neg (by omega),if_neg (by omega)]
 have hw:(cb (iL ⟨0,[]⟩ ⟨0,k,0,s⟩)).err=0:=by
  unfold cb jd
  rw [if_neg (by simp [iL]),if_neg (by simp [iL])]
  show (scan (jT (iL ⟨0,[]⟩ ⟨0,k,0,s⟩)) 0 1).1=0
  simp [scan,h0]
 unfold fr
 rw [if_neg (by decide),if_neg (fun h=>h hw)]
 rfl
theorem zN {a:bz} {m s:Int} (hw:bE a=0) (hm:1<=m/\m<=4) (hs:1<=s/\s<=1000000):bW a m s=if (dh a m s).2≠0 then (iN,(dh a m s).2) else dh a m s:=by
 unfold bW
 rw [if_neg (fun h=>h hw),if_neg (by omega),if_neg (by omega),if_neg (by omega),if_neg (by omega),if_neg (by omega),if_neg (by omega)]
theorem BC {a:bz} {m s:Int} (hw:bE a=0) (hm:m=2\/m=3) (hs:1<=s/\s<=1000000) (h:a.shut=false) (hc:s<=a.sum - a.captured):
  bW a m s=(⟨a.aJ,a.ax,a.sum,a.captured+s,a.bu,a.bh,a.cM,decide (m=3)||decide (a.captured+s=a.sum)⟩,0):=by
 have:dh a m s=(⟨a.aJ,a.ax,a.sum,a.captured+s,a.bu,a.bh,a.cM,decide (m=3)||decide (a.captured+s=a.sum)⟩,0):=by
  unfold dh;rw [if_neg (by rw [h];decide),if_neg (by omega),if_neg (by omega),if_neg (by omega)]
 rw [zN hw (by omega) hs,this,if_neg (by simp)]
theorem AO {b:Bk} (h:b.w0=[]) (y:List (List Int)):dc b y ⟨0,6,0,0,0,0⟩=(b,y,⟨6,0⟩):=by
 have hL:bQ b ⟨0,6,0,0,0,0⟩=(b,⟨6,0⟩):=by
  unfold bQ
  rw [if_pos rfl]
  unfold fa
  rw [h]
  rfl
 unfold dc;rw [if_neg (by dsimp only;omega),if_neg (by dsimp only;omega),if_neg (by dsimp only;omega),if_neg (by dsimp only;omega),if_neg (by dsimp only;omega),if_pos (Or.inl rfl),hL]

theorem wj {b:Bk} {w:List bU} {t:aR} {n:Int} {s:bP} (h:b.w0=⟨t,n⟩::w) (hn:0<=n) (hb:dL b.s0 n=(s,0)) (y:List (List Int)):dc b y ⟨0,6,0,0,0,0⟩=({b with w0:=w,s0:=s},y,⟨0,0⟩):=by
 have hL:bQ b ⟨0,6,0,0,0,0⟩=({b with w0:=w,s0:=s},⟨0,0⟩):=by
  unfold bQ
  rw [if_pos rfl]
  unfold fa
  rw [h]
  dsimp only [List.getElem?_cons_zero]
  rw [if_neg (by omega),if_pos hn,hb,if_pos rfl]
  rfl
 unfold dc;rw [if_neg (by dsimp only;omega),if_neg (by dsimp only;omega),if_neg (by dsimp only;omega),if_neg (by dsimp only;omega),if_neg (by dsimp only;omega),if_pos (Or.inl rfl),hL]

theorem Cz {b:Bk} {w:List bU} {t:aR} (h:b.w0=⟨t,-1⟩::w) (hn:t.number≠b.n0+1) (y:List (List Int)):dc b y ⟨0,6,0,0,0,0⟩=({b with w0:=w},y,⟨0,0⟩):=by
 have hT:fu b.n0 t=(b.n0,false):=by unfold fu;rw [if_pos (by omega)]
 have hL:bQ b ⟨0,6,0,0,0,0⟩=({b with w0:=w},⟨0,0⟩):=by
  unfold bQ
  rw [if_pos rfl]
  unfold fa
  rw [h]
  dsimp only [List.getElem?_cons_zero]
  rw [if_neg (by omega),if_neg (by omega),hT,if_neg (by simp)]
  rfl
 unfold dc;rw [if_neg (by dsimp only;omega),if_neg (by dsimp only;omega),if_neg (by dsimp only;omega),if_neg (by dsimp only;omega),if_neg (by dsimp only;omega),if_pos (Or.inl rfl),hL]

theorem AN {b:Bk} {w:List bU} {t:aR} {due:List Int} {cs:List bx} {bk:List Entry} (h:b.w0=⟨t,-1⟩::w) (hn:t.number=b.n0+1) (h0:0<=b.n0/\b.n0 < 1000000) (hk:dX b.aq b.due b.an b.book 0 t=(due,cs,bk,0)) (y:List (List Int)):dc b y ⟨0,6,0,0,0,0⟩=({b with w0:=w,n0:=b.n0+1,due:=due,an:=cs,book:=bk},y,⟨0,0⟩):=by
 have hT:fu b.n0 t=(b.n0+1,true):=by unfold fu;rw [if_neg (by omega)]
 have hL:bQ b ⟨0,6,0,0,0,0⟩=({b with w0:=w,n0:=b.n0+1,due:=due,an:=cs,book:=bk},⟨0,0⟩):=by
  unfold bQ
  rw [if_pos rfl]
  unfold fa
  rw [h]
  dsimp only [List.getElem?_cons_zero]
  rw [if_neg (by omega),if_neg (by omega),hT,if_pos rfl,hk]
  rfl
 unfold dc;rw [if_neg (by dsimp only;omega),if_neg (by dsimp only;omega),if_neg (by dsimp only;omega),if_neg (by dsimp only;omega),if_neg (by dsimp only;omega),if_pos (Or.inl rfl),hL]

theorem Bj {b:Bk} (h:(gw b.w1 b.s0.kept b.n0).length<=60) (y:List (List Int)):dc b y ⟨0,5,0,0,0,0⟩=({b with w1:=gw b.w1 b.s0.kept b.n0},y,⟨0,0⟩):=by
 have hQ:ic b.w1 b.s0.kept b.n0=(gw b.w1 b.s0.kept b.n0,⟨0,0⟩):=by unfold ic;rw [if_neg (by omega)]
 have hL:ez b.s0 b.s1 b.n0 b.n1 b.w0 b.w1 ⟨0,5,0,0,0,0⟩=(b.w0,gw b.w1 b.s0.kept b.n0,⟨0,0⟩):=by
  unfold ez
  rw [if_pos rfl,hQ]
 unfold dc;rw [if_neg (by dsimp only;omega),if_neg (by dsimp only;omega),if_neg (by dsimp only;omega),if_neg (by dsimp only;omega),if_pos rfl,hL]

theorem AM {b:Bk} (h:b.w1=[]) (y:List (List Int)):dc b y ⟨0,6,1,0,0,0⟩=(b,y,⟨6,0⟩):=by
 have hL:bQ b ⟨0,6,1,0,0,0⟩=(b,⟨6,0⟩):=by
  unfold bQ
  rw [if_neg (by decide),if_pos rfl]
  unfold eZ
  rw [h]
  rfl
 unfold dc;rw [if_neg (by dsimp only;omega),if_neg (by dsimp only;omega),if_neg (by dsimp only;omega),if_neg (by dsimp only;omega),if_neg (by dsimp only;omega),if_pos (Or.inl rfl),hL]

theorem wi {b:Bk} {w:List bU} {t:aR} {n:Int} {s:bP} (h:b.w1=⟨t,n⟩::w) (hn:0<=n) (hb:dL b.s1 n=(s,0)) (y:List (List Int)):dc b y ⟨0,6,1,0,0,0⟩=({b with w1:=w,s1:=s},y,⟨0,0⟩):=by
 have hL:bQ b ⟨0,6,1,0,0,0⟩=({b with w1:=w,s1:=s},⟨0,0⟩):=by
  unfold bQ
  rw [if_neg (by decide),if_pos rfl]
  unfold eZ
  rw [h]
  dsimp only [List.getElem?_cons_zero]
  rw [if_neg (by omega),if_pos hn,hb,if_pos rfl]
  rfl
 unfold dc;rw [if_neg (by dsimp only;omega),if_neg (by dsimp only;omega),if_neg (by dsimp only;omega),if_neg (by dsimp only;omega),if_neg (by dsimp only;omega),if_pos (Or.inl rfl),hL]

theorem Cy {b:Bk} {w:List bU} {t:aR} (h:b.w1=⟨t,-1⟩::w) (hn:t.number≠b.n1+1) (y:List (List Int)):dc b y ⟨0,6,1,0,0,0⟩=({b with w1:=w},y,⟨0,0⟩):=by
 have hT:fu b.n1 t=(b.n1,false):=by unfold fu;rw [if_pos (by omega)]
 have hL:bQ b ⟨0,6,1,0,0,0⟩=({b with w1:=w},⟨0,0⟩):=by
  unfold bQ
  rw [if_neg (by decide),if_pos rfl]
  unfold eZ
  rw [h]
  dsimp only [List.getElem?_cons_zero]
  rw [if_neg (by omega),if_neg (by omega),hT,if_neg (by simp)]
  rfl
 unfold dc;rw [if_neg (by dsimp only;omega),if_neg (by dsimp only;omega),if_neg (by dsimp only;omega),if_neg (by dsimp only;omega),if_neg (by dsimp only;omega),if_pos (Or.inl rfl),hL]

theorem AK {b:Bk} {w:List bU} {t:aR} {due:List Int} {cs:List bx} {bk:List Entry} (h:b.w1=⟨t,-1⟩::w) (hn:t.number=b.n1+1) (h0:0<=b.n1/\b.n1 < 1000000) (hk:dX b.aq b.due b.an b.book 0 t=(due,cs,bk,0)) (y:List (List Int)):dc b y ⟨0,6,1,0,0,0⟩=({b with w1:=w,n1:=b.n1+1,due:=due,an:=cs,book:=bk},y,⟨0,0⟩):=by
 have hT:fu b.n1 t=(b.n1+1,true):=by unfold fu;rw [if_neg (by omega)]
 have hL:bQ b ⟨0,6,1,0,0,0⟩=({b with w1:=w,n1:=b.n1+1,due:=due,an:=cs,book:=bk},⟨0,0⟩):=by
  unfold bQ
  rw [if_neg (by decide),if_pos rfl]
  unfold eZ
  rw [h]
  dsimp only [List.getElem?_cons_zero]
  rw [if_neg (by omega),if_neg (by omega),hT,if_pos rfl,hk]
  rfl
 unfold dc;rw [if_neg (by dsimp only;omega),if_neg (by dsimp only;omega),if_neg (by dsimp only;omega),if_neg (by dsimp only;omega),if_neg (by dsimp only;omega),if_pos (Or.inl rfl),hL]

theorem Bi {b:Bk} (h:(gw b.w0 b.s1.kept b.n1).length<=60) (y:List (List Int)):dc b y ⟨0,5,1,0,0,0⟩=({b with w0:=gw b.w0 b.s1.kept b.n1},y,⟨0,0⟩):=by
 have hQ:ic b.w0 b.s1.kept b.n1=(gw b.w0 b.s1.kept b.n1,⟨0,0⟩):=by unfold ic;rw [if_neg (by omega)]
 have hL:ez b.s0 b.s1 b.n0 b.n1 b.w0 b.w1 ⟨0,5,1,0,0,0⟩=(gw b.w0 b.s1.kept b.n1,b.w1,⟨0,0⟩):=by
  unfold ez
  rw [if_neg (by decide),if_pos rfl,hQ]
 unfold dc;rw [if_neg (by dsimp only;omega),if_neg (by dsimp only;omega),if_neg (by dsimp only;omega),if_neg (by dsimp only;omega),if_pos rfl,hL]
def gU (t:aR):bU:=⟨t,-1⟩
def lK:List aR->Int->Prop
 |[],_=>True
 |t::l,n=>t.number=n+1/\lK l (n+1)
theorem jx (n:Int) (k:Nat):dj n (k+1)=⟨0,6,n,0,0,0⟩::dj n k:=rfl
inductive kr (aq:List bz):List aR->List Int->List bx->List Entry->List Int->List bx->List Entry->Prop
 |nil {d c k}:kr aq [] d c k d c k
 |cons {t l d c k d1 c1 k1 d2 c2 k2}:dX aq d c k 0 t=(d1,c1,k1,0)->kr aq l d1 c1 k1 d2 c2 k2->kr aq (t::l) d c k d2 c2 k2
theorem nM:∀ (k:Nat) {rest:List aS} {b:Bk} {y:List (List Int)} {out:List Answer},b.w0=[]->eP (dj 0 k++rest) b y out=eP rest b y (out++List.replicate k ⟨6,0⟩)
 |0,rest,b,y,out,_=>by simp [dj]
 |k+1,rest,b,y,out,h=>by
  rw [jx,List.cons_append,ec (AO h y),nM k h,List.replicate_succ,List.append_assoc];rfl
theorem tX:∀ {l:List aR} {w:List bU} {rest:List aS} {b:Bk} {y:List (List Int)} {out:List Answer},b.w0=l.map gU++w->(∀ t∈l,t.number≠b.n0+1)->eP (dj 0 l.length++rest) b y out=eP rest {b with w0:=w} y (out++List.replicate l.length ⟨0,0⟩)
 |[],w,rest,b,y,out,h,_=>by
  have:b.w0=w:=h
  subst this;simp [dj]
 |t::l,w,rest,b,y,out,h,hn=>by
  have ih:=tX (l:=l) (w:=w) (rest:=rest) (b:={b with w0:=l.map gU++w}) (y:=y) (out:=out++[⟨0,0⟩]) rfl (fun x hx=>hn x (by simp [hx]))
  rw [List.length_cons,jx,List.cons_append,ec (Cz (w:=l.map gU++w) (t:=t) h (hn t (by simp)) y)]
  refine ih.trans ?_
  rw [List.replicate_succ,List.append_assoc];rfl
theorem rW:∀ {l:List aR} {w:List bU} {rest:List aS} {b:Bk} {due:List Int} {cs:List bx} {bk:List Entry} {y:List (List Int)} {out:List Answer},b.w0=l.map gU++w->lK l b.n0->0<=b.n0->b.n0+l.length<=1000000->kr b.aq l b.due b.an b.book due cs bk->
  eP (dj 0 l.length++rest) b y out=eP rest {b with w0:=w,n0:=b.n0+l.length,due:=due,an:=cs,book:=bk} y (out++List.replicate l.length ⟨0,0⟩)
 |[],w,rest,b,due,cs,bk,y,out,h,_,_,_,hT=>by
  cases hT
  have:b.w0=w:=h
  subst this;simp [dj]
 |t::l,w,rest,b,due,cs,bk,y,out,h,hN,h0,hl,hT=>by
  cases hT with
  |@cons _ _ _ _ _ d1 c1 k1 _ _ _ hk hT=>
  rw [List.length_cons] at hl
  have ih:=rW (l:=l) (w:=w) (rest:=rest) (b:={b with w0:=l.map gU++w,n0:=b.n0+1,due:=d1,an:=c1,book:=k1}) (y:=y) (out:=out++[⟨0,0⟩]) rfl hN.2 (by dsimp only;omega) (by dsimp only;omega) hT
  rw [List.length_cons,jx,List.cons_append,ec (AN (w:=l.map gU++w) (t:=t) h hN.1 ⟨h0,by omega⟩ hk y)]
  refine ih.trans ?_
  rw [List.replicate_succ,List.append_assoc]
  rw [show (b.n0+1+(l.length:Int))=b.n0+((l.length+1:Nat):Int) by omega]
  rfl
theorem nL:∀ (k:Nat) {rest:List aS} {b:Bk} {y:List (List Int)} {out:List Answer},b.w1=[]->eP (dj 1 k++rest) b y out=eP rest b y (out++List.replicate k ⟨6,0⟩)
 |0,rest,b,y,out,_=>by simp [dj]
 |k+1,rest,b,y,out,h=>by
  rw [jx,List.cons_append,ec (AM h y),nL k h,List.replicate_succ,List.append_assoc];rfl
theorem tW:∀ {l:List aR} {w:List bU} {rest:List aS} {b:Bk} {y:List (List Int)} {out:List Answer},b.w1=l.map gU++w->(∀ t∈l,t.number≠b.n1+1)->eP (dj 1 l.length++rest) b y out=eP rest {b with w1:=w} y (out++List.replicate l.length ⟨0,0⟩)
 |[],w,rest,b,y,out,h,_=>by
  have:b.w1=w:=h
  subst this;simp [dj]
 |t::l,w,rest,b,y,out,h,hn=>by
  have ih:=tW (l:=l) (w:=w) (rest:=rest) (b:={b with w1:=l.map gU++w}) (y:=y) (out:=out++[⟨0,0⟩]) rfl (fun x hx=>hn x (by simp [hx]))
  rw [List.length_cons,jx,List.cons_append,ec (Cy (w:=l.map gU++w) (t:=t) h (hn t (by simp)) y)]
  refine ih.trans ?_
  rw [List.replicate_succ,List.append_assoc];rfl
theorem rV:∀ {l:List aR} {w:List bU} {rest:List aS} {b:Bk} {due:List Int} {cs:List bx} {bk:List Entry} {y:List (List Int)} {out:List Answer},b.w1=l.map gU++w->lK l b.n1->0<=b.n1->b.n1+l.length<=1000000->kr b.aq l b.due b.an b.book due cs bk->
  eP (dj 1 l.length++rest) b y out=eP rest {b with w1:=w,n1:=b.n1+l.length,due:=due,an:=cs,book:=bk} y (out++List.replicate l.length ⟨0,0⟩)
 |[],w,rest,b,due,cs,bk,y,out,h,_,_,_,hT=>by
  cases hT
  have:b.w1=w:=h
  subst this;simp [dj]
 |t::l,w,rest,b,due,cs,bk,y,out,h,hN,h0,hl,hT=>by
  cases hT with
  |@cons _ _ _ _ _ d1 c1 k1 _ _ _ hk hT=>
  rw [List.length_cons] at hl
  have ih:=rV (l:=l) (w:=w) (rest:=rest) (b:={b with w1:=l.map gU++w,n1:=b.n1+1,due:=d1,an:=c1,book:=k1}) (y:=y) (out:=out++[⟨0,0⟩]) rfl hN.2 (by dsimp only;omega) (by dsimp only;omega) hT
  rw [List.length_cons,jx,List.cons_append,ec (AK (w:=l.map gU++w) (t:=t) h hN.1 ⟨h0,by omega⟩ hk y)]
  refine ih.trans ?_
  rw [List.replicate_succ,List.append_assoc]
  rw [show (b.n1+1+(l.length:Int))=b.n1+((l.length+1:Nat):Int) by omega]
  rfl
theorem gC (n:Int) (a b:Nat):dj n (a+b)=dj n a++dj n b:=by
 unfold dj;rw [List.replicate_append_replicate]
theorem mL:∀ {l:List aR} {n:Int},lK l n->∀ t∈l,n < t.number/\t.number<=n+l.length
 |[],_,_,t,h=>by cases h
 |x::l,n,h,t,ht=>by
  rw [List.length_cons]
  rcases List.mem_cons.1 ht with rfl|ht
  ·have:=h.1;omega
  ·have:=mL h.2 t ht;omega
theorem vk {l:List aR} {n:Int} (h:∀ t∈l,n < t.number):dr (came n) l=l:=by
 unfold dr
 exact List.filter_eq_self.2 fun t ht=>by have:=h t ht;simp [came];omega
theorem tx {l:List aR} {n:Int} (h:∀ t∈l,t.number<=n):dr (came n) l=[]:=by
 unfold dr
 exact List.filter_eq_nil_iff.2 fun t ht=>by have:=h t ht;simp [came];omega
theorem pz {s:bP} {n:Int} (h:(cb s).err=0) (h0:0<=n) (h1:n<=s.bF):dL s n=(⟨s.bF,dr (came n) s.kept⟩,0):=by
 unfold dL;rw [if_neg (fun x=>x h),if_neg (by omega)]
def dY (c:Nat):List aS:=[⟨0,5,0,0,0,0⟩,⟨0,5,1,0,0,0⟩]++dj 0 c++dj 1 c
theorem va (l:List aR) (n:Int):gw [] l n=l.map gU++[⟨⟨0,0,0,0⟩,n⟩]:=rfl
theorem uQ {b:Bk} (hw:b.w1=[]) (h:b.s0.kept.length<=40) (y:List (List Int)):dc b y ⟨0,5,0,0,0,0⟩=({b with w1:=b.s0.kept.map gU++[⟨⟨0,0,0,0⟩,b.n0⟩]},y,⟨0,0⟩):=by
 have:=Bj (b:=b) (by rw [hw,va];simp;omega) y
 rw [this,hw];rfl
theorem uP {b:Bk} (hw:b.w0=[]) (h:b.s1.kept.length<=40) (y:List (List Int)):dc b y ⟨0,5,1,0,0,0⟩=({b with w0:=b.s1.kept.map gU++[⟨⟨0,0,0,0⟩,b.n1⟩]},y,⟨0,0⟩):=by
 have:=Bi (b:=b) (by rw [hw,va];simp;omega) y
 rw [this,hw];rfl
theorem wD {b:Bk} {c:Nat} {rest:List aS} {y:List (List Int)} {out:List Answer} {d1 d2:List Int} {c1 c2:List bx} {k1 k2:List Entry} (hw0:b.w0=[]) (hw1:b.w1=[]) (hc0:b.s0.kept.length+1<=c) (hc1:b.s1.kept.length+1<=c) (h40:c<=40) (hn0:0<=b.n0) (hn1:0<=b.n1) (hS0:(cb b.s0).err=0) (hS1:(cb b.s1).err=0) (hN0:lK b.s0.kept b.n1) (hN1:lK b.s1.kept b.n0) (ht1:kr b.aq b.s1.kept b.due b.an b.book d1 c1 k1) (ht0:kr b.aq b.s0.kept d1 c1 k1 d2 c2 k2) (hm0:b.n1+b.s0.kept.length<=b.s0.bF) (hm1:b.n0+b.s1.kept.length<=b.s1.bF) (hx0:b.s0.bF<=1000000) (hx1:b.s1.bF<=1000000):
  ∃ o,eP (dY c++rest) b y out=eP rest {b with n0:=b.n0+b.s1.kept.length,n1:=b.n1+b.s0.kept.length,due:=d2,an:=c2,book:=k2} y (out++o)/\o.length=2+2 * c:=by
 obtain ⟨q0,hq0⟩:∃ q,c=b.s0.kept.length+(1+q):=⟨c - (b.s0.kept.length+1),by omega⟩
 obtain ⟨q1,hq1⟩:∃ q,c=b.s1.kept.length+(1+q):=⟨c - (b.s1.kept.length+1),by omega⟩
 have hsplit:dY c++rest=⟨0,5,0,0,0,0⟩::⟨0,5,1,0,0,0⟩::(dj 0 b.s1.kept.length++(dj 0 1++(dj 0 q1++(dj 1 b.s0.kept.length++(dj 1 1++(dj 1 q0++rest)))))):=by
  have e0:dj 0 c=dj 0 b.s1.kept.length++(dj 0 1++dj 0 q1):=by rw [hq1,gC,gC]
  have e1:dj 1 c=dj 1 b.s0.kept.length++(dj 1 1++dj 1 q0):=by rw [hq0,gC,gC]
  unfold dY
  rw [e0,e1];simp only [List.append_assoc,List.cons_append,List.nil_append]
 have s0:=uQ hw1 (by omega) y
 have s1:=uP (b:={b with w1:=b.s0.kept.map gU++[⟨⟨0,0,0,0⟩,b.n0⟩]}) hw0 (by dsimp only;omega) y
 have t0:=fun (rest:List aS) out=>rW (l:=b.s1.kept) (w:=[⟨⟨0,0,0,0⟩,b.n1⟩]) (rest:=rest) (b:={b with w0:=b.s1.kept.map gU++[⟨⟨0,0,0,0⟩,b.n1⟩],w1:=b.s0.kept.map gU++[⟨⟨0,0,0,0⟩,b.n0⟩]}) (y:=y) (out:=out) rfl hN1 hn0 (by dsimp only;omega) ht1
 have a0:=wj (b:={b with w0:=[⟨⟨0,0,0,0⟩,b.n1⟩],w1:=b.s0.kept.map gU++[⟨⟨0,0,0,0⟩,b.n0⟩],n0:=b.n0+b.s1.kept.length,due:=d1,an:=c1,book:=k1}) (w:=[]) (t:=⟨0,0,0,0⟩) (n:=b.n1) rfl hn1 (pz hS0 hn1 (by dsimp only;omega)) y
 have u0:=fun (rest:List aS) out=>nM q1 (rest:=rest) (b:={b with w0:=[],w1:=b.s0.kept.map gU++[⟨⟨0,0,0,0⟩,b.n0⟩],n0:=b.n0+b.s1.kept.length,due:=d1,an:=c1,book:=k1}) (y:=y) (out:=out) rfl
 have t1:=fun (rest:List aS) out=>rV (l:=b.s0.kept) (w:=[⟨⟨0,0,0,0⟩,b.n0⟩]) (rest:=rest) (b:={b with w0:=[],w1:=b.s0.kept.map gU++[⟨⟨0,0,0,0⟩,b.n0⟩],n0:=b.n0+b.s1.kept.length,due:=d1,an:=c1,book:=k1}) (y:=y) (out:=out) rfl hN0 hn1 (by dsimp only;omega) ht0
 have a1:=wi (b:={b with w0:=[],w1:=[⟨⟨0,0,0,0⟩,b.n0⟩],n0:=b.n0+b.s1.kept.length,n1:=b.n1+b.s0.kept.length,due:=d2,an:=c2,book:=k2}) (w:=[]) (t:=⟨0,0,0,0⟩) (n:=b.n0) rfl hn0 (pz hS1 hn0 (by dsimp only;omega)) y
 have u1:=fun (rest:List aS) out=>nL q0 (rest:=rest) (b:={b with w0:=[],w1:=[],n0:=b.n0+b.s1.kept.length,n1:=b.n1+b.s0.kept.length,due:=d2,an:=c2,book:=k2}) (y:=y) (out:=out) rfl
 rw [vk fun t ht=>(mL hN0 t ht).1] at a0
 rw [vk fun t ht=>(mL hN1 t ht).1] at a1
 rw [hsplit,ec s0,ec s1]
 refine ⟨[⟨0,0⟩]++[⟨0,0⟩]++List.replicate b.s1.kept.length ⟨0,0⟩++[⟨0,0⟩]++List.replicate q1 ⟨6,0⟩++List.replicate b.s0.kept.length ⟨0,0⟩++[⟨0,0⟩]++List.replicate q0 ⟨6,0⟩,?_,by simp;omega⟩
 refine (t0 _ _).trans ((ec a0).trans ((u0 _ _).trans ((t1 _ _).trans ((ec a1).trans ((u1 _ _).trans ?_)))))
 simp only [List.append_assoc]
 congr 1
 cases b;simp_all
theorem wE {b:Bk} {c:Nat} {rest:List aS} {y:List (List Int)} {out:List Answer} (hw0:b.w0=[]) (hw1:b.w1=[]) (hc0:b.s0.kept.length+1<=c) (hc1:b.s1.kept.length+1<=c) (h40:c<=40) (hn0:0<=b.n0) (hn1:0<=b.n1) (hS0:(cb b.s0).err=0) (hS1:(cb b.s1).err=0) (hN0:∀ t∈b.s0.kept,t.number<=b.n1) (hN1:∀ t∈b.s1.kept,t.number<=b.n0) (hm0:b.n1<=b.s0.bF) (hm1:b.n0<=b.s1.bF):
  ∃ o,eP (dY c++rest) b y out=eP rest {b with s0:=⟨b.s0.bF,[]⟩,s1:=⟨b.s1.bF,[]⟩} y (out++o)/\o.length=2+2 * c:=by
 obtain ⟨q0,hq0⟩:∃ q,c=b.s0.kept.length+(1+q):=⟨c - (b.s0.kept.length+1),by omega⟩
 obtain ⟨q1,hq1⟩:∃ q,c=b.s1.kept.length+(1+q):=⟨c - (b.s1.kept.length+1),by omega⟩
 have hsplit:dY c++rest=⟨0,5,0,0,0,0⟩::⟨0,5,1,0,0,0⟩::(dj 0 b.s1.kept.length++(dj 0 1++(dj 0 q1++(dj 1 b.s0.kept.length++(dj 1 1++(dj 1 q0++rest)))))):=by
  have e0:dj 0 c=dj 0 b.s1.kept.length++(dj 0 1++dj 0 q1):=by rw [hq1,gC,gC]
  have e1:dj 1 c=dj 1 b.s0.kept.length++(dj 1 1++dj 1 q0):=by rw [hq0,gC,gC]
  unfold dY
  rw [e0,e1];simp only [List.append_assoc,List.cons_append,List.nil_append]
 have s0:=uQ hw1 (by omega) y
 have s1:=uP (b:={b with w1:=b.s0.kept.map gU++[⟨⟨0,0,0,0⟩,b.n0⟩]}) hw0 (by dsimp only;omega) y
 have t0:=fun (rest:List aS) out=>tX (l:=b.s1.kept) (w:=[⟨⟨0,0,0,0⟩,b.n1⟩]) (rest:=rest) (b:={b with w0:=b.s1.kept.map gU++[⟨⟨0,0,0,0⟩,b.n1⟩],w1:=b.s0.kept.map gU++[⟨⟨0,0,0,0⟩,b.n0⟩]}) (y:=y) (out:=out) rfl (fun t ht=>by have:=hN1 t ht;dsimp only;omega)
 have a0:=wj (b:={b with w0:=[⟨⟨0,0,0,0⟩,b.n1⟩],w1:=b.s0.kept.map gU++[⟨⟨0,0,0,0⟩,b.n0⟩]}) (w:=[]) (t:=⟨0,0,0,0⟩) (n:=b.n1) rfl hn1 (pz hS0 hn1 (by dsimp only;omega)) y
 have u0:=fun (rest:List aS) out=>nM q1 (rest:=rest) (b:={b with w0:=[],w1:=b.s0.kept.map gU++[⟨⟨0,0,0,0⟩,b.n0⟩],s0:=⟨b.s0.bF,[]⟩}) (y:=y) (out:=out) rfl
 have t1:=fun (rest:List aS) out=>tW (l:=b.s0.kept) (w:=[⟨⟨0,0,0,0⟩,b.n0⟩]) (rest:=rest) (b:={b with w0:=[],w1:=b.s0.kept.map gU++[⟨⟨0,0,0,0⟩,b.n0⟩],s0:=⟨b.s0.bF,[]⟩}) (y:=y) (out:=out) rfl (fun t ht=>by have:=hN0 t ht;dsimp only;omega)
 have a1:=wi (b:={b with w0:=[],w1:=[⟨⟨0,0,0,0⟩,b.n0⟩],s0:=⟨b.s0.bF,[]⟩}) (w:=[]) (t:=⟨0,0,0,0⟩) (n:=b.n0) rfl hn0 (pz hS1 hn0 (by dsimp only;omega)) y
 have u1:=fun (rest:List aS) out=>nL q0 (rest:=rest) (b:={b with w0:=[],w1:=[],s0:=⟨b.s0.bF,[]⟩,s1:=⟨b.s1.bF,[]⟩}) (y:=y) (out:=out) rfl
 rw [tx hN0] at a0
 rw [tx hN1] at a1
 rw [hsplit,ec s0,ec s1]
 refine ⟨[⟨0,0⟩]++[⟨0,0⟩]++List.replicate b.s1.kept.length ⟨0,0⟩++[⟨0,0⟩]++List.replicate q1 ⟨6,0⟩++List.replicate b.s0.kept.length ⟨0,0⟩++[⟨0,0⟩]++List.replicate q0 ⟨6,0⟩,?_,by simp;omega⟩
 refine (t0 _ _).trans ((ec a0).trans ((u0 _ _).trans ((t1 _ _).trans ((ec a1).trans ((u1 _ _).trans ?_)))))
 simp only [List.append_assoc]
 congr 1
 cases b;simp_all
theorem vM {b:Bk} {c:Nat} {rest:List aS} {y:List (List Int)} {out:List Answer} {d1 d2:List Int} {c1 c2:List bx} {k1 k2:List Entry} (hw0:b.w0=[]) (hw1:b.w1=[]) (hc0:b.s0.kept.length+1<=c) (hc1:b.s1.kept.length+1<=c) (h40:c<=40) (hn0:0<=b.n0) (hn1:0<=b.n1) (hS0:(cb b.s0).err=0) (hS1:(cb b.s1).err=0)
  (hN0:lK b.s0.kept b.n1) (hN1:lK b.s1.kept b.n0) (ht1:kr b.aq b.s1.kept b.due b.an b.book d1 c1 k1) (ht0:kr b.aq b.s0.kept d1 c1 k1 d2 c2 k2) (hm0:b.n1+b.s0.kept.length<=b.s0.bF) (hm1:b.n0+b.s1.kept.length<=b.s1.bF) (hx0:b.s0.bF<=1000000) (hx1:b.s1.bF<=1000000):
  ∃ o,eP (dY c++(dY c++rest)) b y out=eP rest {b with s0:=⟨b.s0.bF,[]⟩,s1:=⟨b.s1.bF,[]⟩,n0:=b.n0+b.s1.kept.length,n1:=b.n1+b.s0.kept.length,due:=d2,an:=c2,book:=k2} y (out++o)/\o.length=4+4 * c:=by
 obtain ⟨o1,e1,l1⟩:=wD (rest:=dY c++rest) (y:=y) (out:=out) hw0 hw1 hc0 hc1 h40 hn0 hn1 hS0 hS1 hN0 hN1 ht1 ht0 hm0 hm1 hx0 hx1
 obtain ⟨o2,e2,l2⟩:=wE (b:={b with n0:=b.n0+b.s1.kept.length,n1:=b.n1+b.s0.kept.length,due:=d2,an:=c2,book:=k2}) (rest:=rest) (y:=y) (out:=out++o1) hw0 hw1 hc0 hc1 h40 (by dsimp only;omega) (by dsimp only;omega) hS0 hS1
  (fun t ht=>(mL hN0 t ht).2) (fun t ht=>(mL hN1 t ht).2) hm0 hm1
 exact ⟨o1++o2,by rw [e1,e2,List.append_assoc],by simp;omega⟩
theorem Ar:nH 2=dY 5++dY 5:=rfl
theorem vO (l rest:List aS):dR l++rest=l++(dY 5++(dY 5++rest)):=by
 unfold dR;rw [Ar,List.append_assoc,List.append_assoc]
theorem qO {m h t n:Int} (h1:-1000000000000<=m/\m<=1000000000000) (h2:0<=h/\h<=1000000000000) (ht:0<=t/\t<=1000000) (hn:0<=n/\n<=1000000):cr ⟨m,h,PT,[⟨t,n⟩]⟩=0:=by
 unfold cr;rw [if_neg (by dsimp only;omega),if_neg (show ¬fi PT≠0 by decide)]
 have h0:jb [⟨t,n⟩] 0=0:=by
  unfold jb
  dsimp only [List.getElem?_cons_zero]
  rw [if_neg (by omega),if_neg (by omega)]
 unfold fe cD
 rw [if_neg (by simp)]
 simp [scan,h0]
theorem DT {a b:Int} {r:Bool} (h:decide (∀ n∈[a,b],1<=n/\n<=100000)=r) (hr:r=true):1<=a/\a<=100000/\1<=b/\b<=100000:=by
 rw [hr] at h
 have h':=of_decide_eq_true h
 exact ⟨(h' a (by simp)).1,(h' a (by simp)).2,(h' b (by simp)).1,(h' b (by simp)).2⟩
theorem take_one {aq:List bz} {due:List Int} {cs:List bx} {bk:List Entry} {num k s v:Int} {a:bz} (ha:aq[k.toNat]?=some a) (hp:0<=a.ax/\a.ax<=7) (hd:due[a.ax.toNat]?=some v) (hv:-1000000000000<=v/\v<=1000000000000) (hs:1<=s/\s<=1000000) (hb:(dn bk).err=0)
  (h3:-1000000000000<=cc bk 1 - s) (h4:cc bk (50+a.ax)+s<=1000000000000):
  ∃ r,dX aq due cs bk 0 ⟨num,1,k,s⟩=(due.set a.ax.toNat (v+s),cs,r,0)/\(dn r).err=0/\∀ x,cc r x=cc bk x+(if x=50+a.ax then s else 0) - (if x=1 then s else 0):=by
 obtain ⟨r,hr,hrw,hrg⟩:=lx (l:=bk) (src:=1) (dst:=50+a.ax) (n:=s) hb (by omega) (by omega) (by omega) (by omega) h3 h4
 refine ⟨r,?_,hrw,hrg⟩
 have hD:due.getD a.ax.toNat 0=v:=by rw [List.getD_eq_getElem?_getD,hd];rfl
 unfold dX
 dsimp only
 rw [ha]
 dsimp only
 rw [if_pos rfl,hr,hD,IntWalk.i64_in _ (by omega)]
theorem wA {k s:Int} (hk:1<=k/\k<=3) (hs:1<=s/\s<=1000000):(cb ⟨1,[⟨1,k,0,s⟩]⟩).err=0:=by
 have h:=te hk hs
 have:=rm (s:=⟨0,[]⟩) (t:=⟨0,k,0,s⟩) (by rw [h])
 exact this.2.1
theorem vN {l:List aS} (h:∀ d∈l,d.id=0):∀ d∈dR l,d.id=0:=fun d hd=>by
 rcases List.mem_append.1 hd with hd|hd
 ·exact h d hd
 ·have:∀ d∈nH 2,d.id=0:=by decide
  exact this d hd
theorem qF (l:List aS):(dR l).length=l.length+24:=by unfold dR;rw [List.length_append];rfl
theorem Eb {s:bP} {k n v:Int} (h:(cb s).err=0) (hl:s.kept.length < 40) (hs:s.bF < 1000000) (hk:1<=k/\k<=3) (ha:0<=n/\n<=29) (hv:1<=v/\v<=1000000):
  fr s ⟨0,k,n,v⟩=(⟨s.bF+1,s.kept++[⟨s.bF+1,k,n,v⟩]⟩,0)/\(cb ⟨s.bF+1,s.kept++[⟨s.bF+1,k,n,v⟩]⟩).err=0:=by
 obtain ⟨h1,h2,h3,h4⟩:=rh h
 have hw:(cb ⟨s.bF+1,s.kept++[⟨s.bF+1,k,n,v⟩]⟩).err=0:=by
  refine xi (by simp;omega) (by simp;omega) (by dsimp only;omega) fun i t ht=>?_
  dsimp only at ht ⊢
  rw [List.length_append,List.length_singleton]
  rcases Nat.lt_or_ge i s.kept.length with hi|hi
  ·rw [List.getElem?_append_left hi] at ht
   have:=h4 i t ht
   refine ⟨this.1,this.2.1,this.2.2.1,this.2.2.2.1,this.2.2.2.2.1,this.2.2.2.2.2.1,?_⟩
   have:=this.2.2.2.2.2.2;omega
  ·rw [List.getElem?_append_right hi] at ht
   obtain ⟨hz,rfl⟩:=List.getElem?_eq_some_iff.1 ht
   simp at hz
   simp only [List.getElem_singleton]
   omega
 refine ⟨?_,hw⟩
 unfold fr
 rw [if_neg (fun z=>z h),if_neg (fun z=>z hw)]
 rfl
theorem yO {b:Bk} {n s v:Int} {a a':bz} {s':bP} (hd:b.down=false) (hs:1<=s/\s<=1000000) (hn:0<=n) (ha:b.aq[n.toNat]?=some a) (hM:bW a 5 s=(a',0)) (hk:0<=a'.ax/\a'.ax<=7)
  (hv:b.due[a'.ax.toNat]?=some v) (h1:-1000000000000<=v/\v<=1000000000000) (hb:(dn b.book).err=0) (h4:-1000000000000<=cc b.book (50+a'.ax) - s) (h5:cc b.book 1+s<=1000000000000) (hP:fr b.s1 ⟨0,2,n,s⟩=(s',0)) (hT:b.aO.length < 100):
  ∃ r,(∀ y,dc b y ⟨0,3,n,0,5,s⟩=({b with due:=b.due.set a'.ax.toNat (v - s),book:=r,s1:=s',aO:=b.aO++[⟨a'.ax,n,5,s⟩],aq:=b.aq.set n.toNat a'},y,⟨0,0⟩))/\
   (dn r).err=0/\∀ x,cc r x=cc b.book x+(if x=1 then s else 0) - (if x=50+a'.ax then s else 0):=by
 have hlt:=(List.getElem?_eq_some_iff.1 ha).1
 obtain ⟨r,hr,hrw,hrg⟩:=lx (l:=b.book) (src:=50+a'.ax) (dst:=1) (n:=s) hb (by omega) (by omega) (by omega) (by omega) h4 h5
 refine ⟨r,fun y=>?_,hrw,hrg⟩
 have hD:b.due.getD a'.ax.toNat 0=v:=by rw [List.getD_eq_getElem?_getD,hv];rfl
 have hL:dv b ⟨0,3,n,0,5,s⟩=({b with due:=b.due.set a'.ax.toNat (v - s),book:=r,s1:=s',aO:=b.aO++[⟨a'.ax,n,5,s⟩],aq:=b.aq.set n.toNat a'},⟨0,0⟩):=by
  unfold dv
  rw [if_neg (by rw [hd];decide),if_neg (by dsimp only;omega)]
  dsimp only
  rw [ha]
  dsimp only
  rw [hM,if_neg (by simp),if_neg (by omega)]
  unfold dK
  dsimp only
  rw [if_neg (by omega),if_neg (by omega),if_pos rfl,hr,hD,IntWalk.i64_in _ (by omega)]
  dsimp only
  unfold eA
  rw [hP]
  unfold lZ im
  dsimp only
  rw [if_pos (show dt 0 0=0 from rfl),if_neg (show ¬b.aO.length=100 by omega)]
  rfl
 unfold dc;rw [if_neg (by dsimp only;omega),if_neg (by dsimp only;omega),if_pos rfl,hL]
theorem zk {aq:List bz} {due:List Int} {cs:List bx} {bk:List Entry} {num k s:Int} {a:bz} {c:bx} (ha:aq[k.toNat]?=some a) (hp:0<=a.aJ/\a.aJ<=7) (hc:cs[a.aJ.toNat]?=some c) (hw:cr c=0) (hm:c.bf+s<=1000000000000) (hs:1<=s/\s<=1000000) (hb:(dn bk).err=0)
  (h3:-1000000000000<=cc bk 1 - s) (h4:cc bk (10+a.aJ)+s<=1000000000000):
  ∃ r,dX aq due cs bk 0 ⟨num,2,k,s⟩=(due,cs.set a.aJ.toNat ⟨c.bf+s,c.held,c.bY,c.cD⟩,r,0)/\(dn r).err=0/\∀ x,cc r x=cc bk x+(if x=10+a.aJ then s else 0) - (if x=1 then s else 0):=by
 have hR:=fW hw
 obtain ⟨r,hr,hrw,hrg⟩:=lx (l:=bk) (src:=1) (dst:=10+a.aJ) (n:=s) hb (by omega) (by omega) (by omega) (by omega) h3 h4
 refine ⟨r,?_,hrw,hrg⟩
 have hS:=oq (l:=cs) (k:=a.aJ) (held:=0) (bf:=s) hc hw (by omega) (by omega) (by omega) (by omega)
 unfold dX
 dsimp only
 rw [ha]
 dsimp only
 rw [if_neg (by omega),if_pos rfl,hS]
 dsimp only
 rw [hr,Int.add_zero]
theorem BB {a:bz} {n:Int} (hw:bE a=0) (hs:1<=n/\n<=1000000) (h:n<=a.captured - a.bu - a.bh):bW a 5 n=(⟨a.aJ,a.ax,a.sum,a.captured,a.bu+n,a.bh,a.cM,a.shut⟩,0):=by
 unfold bW
 rw [if_neg (fun h=>h hw),if_neg (by omega),if_neg (by omega),if_pos rfl,if_neg (by omega)]
structure GT (r:List Entry) (a0 a1 a2 wx wv:Int):Prop where
 right:(dn r).err=0
 e0:cc r 0=a0
 e1:cc r 1=a1
 e2:cc r 2=a2
 CY:cc r 10=wx
 CX:cc r 50=wv
 z:∀ x,x≠0->x≠1->x≠2->x≠10->x≠50->cc r x=0
def dE (x dst src s:Int):Int:=(if x=dst then s else 0) - (if x=src then s else 0)
theorem GT.step {r r':List Entry} {a0 a1 a2 wx wv:Int} (H:GT r a0 a1 a2 wx wv) {dst src s:Int} (hw:(dn r').err=0) (hg:∀ x,cc r' x=cc r x+(if x=dst then s else 0) - (if x=src then s else 0))
  (hd:dst=0\/dst=1\/dst=2\/dst=10\/dst=50) (hs:src=0\/src=1\/src=2\/src=10\/src=50):GT r' (a0+dE 0 dst src s) (a1+dE 1 dst src s) (a2+dE 2 dst src s) (wx+dE 10 dst src s) (wv+dE 50 dst src s):=by
 have hg':∀ x,cc r' x=cc r x+dE x dst src s:=fun x=>by rw [hg];unfold dE;omega
 refine ⟨hw,by rw [hg',H.e0],by rw [hg',H.e1],by rw [hg',H.e2],by rw [hg',H.CY],by rw [hg',H.CX],fun x h0 h1 h2 h3 h4=>?_⟩
 rw [hg',H.z x h0 h1 h2 h3 h4]
 unfold dE
 rw [if_neg (by omega),if_neg (by omega)];rfl
theorem GT.cast {r:List Entry} {a0 a1 a2 wx wv b0 b1 b2 b10 b50:Int} (H:GT r a0 a1 a2 wx wv) (h0:a0=b0) (h1:a1=b1) (h2:a2=b2) (h10:wx=b10) (h50:wv=b50):GT r b0 b1 b2 b10 b50:=by
 subst h0 h1 h2 h10 h50;exact H
theorem GT.two {r:List Entry} {n:Int} (H:GT r (0 - n) 0 0 n 0) (hn:1<=n/\n<=1000000):r.length=2:=by
 have hR:=(jz.1 H.right).1
 have hg:∀ x,cc r x=cc [⟨0,0 - n⟩,⟨10,n⟩] x:=fun x=>by
  by_cases h0:x=0
  ·subst h0;rw [H.e0];simp [cc]
  by_cases h10:x=10
  ·subst h10;rw [H.CY];simp [cc]
  have h8:cc [⟨0,0 - n⟩,⟨10,n⟩] x=0:=by
   simp only [cc];rw [if_neg (fun h=>h0 h.symm),if_neg (fun h=>h10 h.symm)]
  rw [h8]
  by_cases h1:x=1
  ·subst h1;exact H.e1
  by_cases h2:x=2
  ·subst h2;exact H.e2
  by_cases h5:x=50
  ·subst h5;exact H.CX
  exact H.z x h0 h1 h2 h10 h5
 have hR2:gQ [⟨0,0 - n⟩,⟨10,n⟩]:=
  ⟨jr.2 ⟨fun y hy=>by rw [List.mem_singleton.1 hy];show (0:Int) < 10;decide,List.pairwise_singleton _ _⟩,fun x hx=>by
   simp only [List.mem_cons,List.not_mem_nil,or_false] at hx
   rcases hx with rfl|rfl<;>(dsimp only;omega)⟩
 rw [zE hR hR2 hg];rfl
def ST (paid bf due m dsp:Int) (s0 s1:bP) (n0 n1:Int) (td:List aj) (r:List Entry):Bk:=
 ⟨0,false,[⟨bf,0,PT,[⟨0,paid⟩]⟩,⟨0,0,PT,[]⟩],[due,0],[⟨0,0,paid,paid,m,dsp,100,true⟩],s0,s1,n0,n1,[],[],⟨0,[0,0],[]⟩,td,r⟩
theorem Fo {has paid:Int} (h1:1<=paid) (h2:paid<=has) (h3:has<=100000) (rest:List aS) (y:List (List Int)):
  ∃ r o,eP ([⟨0,1,0,0,0,has⟩,⟨0,2,0,0,0,paid⟩,⟨0,3,0,0,2,paid⟩]++(dY 5++(dY 5++rest))) (iu 0) y []=eP rest (ST paid (has - paid) paid 0 0 ⟨1,[]⟩ ⟨0,[]⟩ 0 1 [⟨0,0,2,paid⟩] r) y o/\GT r (0 - has) 0 0 (has - paid) paid:=by
 obtain ⟨r1,d1,w1,g1⟩:=Ci (b:=iu 0) (n:=0) (s:=has) (c:=⟨0,0,PT,[]⟩) (by omega) (by omega) rfl (xa (by omega) (by omega)) (by dsimp only;omega) (by decide) (by simp [iu,cc];omega) (by simp [iu,cc];omega)
 have G0:GT [] 0 0 0 0 0:=⟨rfl,rfl,rfl,rfl,rfl,rfl,fun _ _ _ _ _ _=>rfl⟩
 have G1:GT r1 (0 - has) 0 0 has 0:=(G0.step (dst:=10) (src:=0) w1 g1 (by omega) (by omega)).cast (by simp [dE]) (by simp [dE]) (by simp [dE]) (by simp [dE]) (by simp [dE])
 have e1:dc (iu 0) y ⟨0,1,0,0,0,has⟩=((⟨0,false,[⟨has,0,PT,[]⟩,⟨0,0,PT,[]⟩],[0,0],[],⟨0,[]⟩,⟨0,[]⟩,0,0,[],[],⟨0,[0,0],[]⟩,[],r1⟩:Bk),y,⟨0,0⟩):=by
  rw [d1 y];simp [iu,PT]
 have e2:dc (⟨0,false,[⟨has,0,PT,[]⟩,⟨0,0,PT,[]⟩],[0,0],[],⟨0,[]⟩,⟨0,[]⟩,0,0,[],[],⟨0,[0,0],[]⟩,[],r1⟩:Bk) y ⟨0,2,0,0,0,paid⟩=((⟨0,false,[⟨has,paid,PT,[⟨0,paid⟩]⟩,⟨0,0,PT,[]⟩],[0,0],[⟨0,0,paid,0,0,0,100,false⟩],⟨0,[]⟩,⟨0,[]⟩,0,0,[],[],⟨0,[0,0],[]⟩,[],r1⟩:Bk),y,⟨0,0⟩):=by
  rw [DA (b:=(⟨0,false,[⟨has,0,PT,[]⟩,⟨0,0,PT,[]⟩],[0,0],[],⟨0,[]⟩,⟨0,[]⟩,0,0,[],[],⟨0,[0,0],[]⟩,[],r1⟩:Bk)) (n:=0) (p:=0) (s:=paid) rfl (by omega) (by simp) (by omega) (by omega) (by simp) (by simp) rfl
   (Ao (xa (by omega) (by omega)) (by omega) (by simp) (by dsimp only;omega) rfl rfl) y]
  simp [PT]
 have hM:=BC (a:=⟨0,0,paid,0,0,0,100,false⟩) (m:=2) (s:=paid) (hZ (by dsimp only;omega)) (by omega) (by omega) rfl (by dsimp only;omega)
 have hM':bW ⟨0,0,paid,0,0,0,100,false⟩ 2 paid=(⟨0,0,paid,paid,0,0,100,true⟩,0):=by rw [hM];simp
 have hold2:br ⟨0,0,paid,0,0,0,100,false⟩=paid:=by simp [br]
 have hold3:br ⟨0,0,paid,paid,0,0,100,true⟩=0:=by simp [br]
 obtain ⟨r2,d3,w2,g2⟩:=Dz (b:=(⟨0,false,[⟨has,paid,PT,[⟨0,paid⟩]⟩,⟨0,0,PT,[]⟩],[0,0],[⟨0,0,paid,0,0,0,100,false⟩],⟨0,[]⟩,⟨0,[]⟩,0,0,[],[],⟨0,[0,0],[]⟩,[],r1⟩:Bk)) (n:=0) (m:=2) (s:=paid) (c:=⟨has,paid,PT,[⟨0,paid⟩]⟩)
  rfl (by omega) (by omega) (by omega) rfl hM' (by dsimp only;omega) rfl (qO (by omega) (by omega) (by omega) (by omega)) (by dsimp only;omega) (by rw [hold3,hold2];dsimp only;omega) (by rw [hold3,hold2];omega) w1 (by show -1000000000000<=cc r1 10 - paid;rw [G1.CY];omega) (by show cc r1 1+paid<=1000000000000;rw [G1.e1];omega) (te (by omega) (by omega)) (by simp)
 rw [hold3,hold2] at d3
 have G2:GT r2 (0 - has) paid 0 (has - paid) 0:=(G1.step (dst:=1) (src:=10) w2 g2 (by omega) (by omega)).cast (by simp [dE]) (by simp [dE]) (by simp [dE]) (by simp [dE];omega) (by simp [dE])
 have e3:dc (⟨0,false,[⟨has,paid,PT,[⟨0,paid⟩]⟩,⟨0,0,PT,[]⟩],[0,0],[⟨0,0,paid,0,0,0,100,false⟩],⟨0,[]⟩,⟨0,[]⟩,0,0,[],[],⟨0,[0,0],[]⟩,[],r1⟩:Bk) y ⟨0,3,0,0,2,paid⟩=((⟨0,false,[⟨has - paid,0,PT,[⟨0,paid⟩]⟩,⟨0,0,PT,[]⟩],[0,0],[⟨0,0,paid,paid,0,0,100,true⟩],⟨1,[⟨1,1,0,paid⟩]⟩,⟨0,[]⟩,0,0,[],[],⟨0,[0,0],[]⟩,[⟨0,0,2,paid⟩],r2⟩:Bk),y,⟨0,0⟩):=by
  rw [d3 y];simp [PT];omega
 obtain ⟨r3,t3,w3,g3⟩:=take_one (aq:=[⟨0,0,paid,paid,0,0,100,true⟩]) (due:=[0,0]) (cs:=[⟨has - paid,0,PT,[⟨0,paid⟩]⟩,⟨0,0,PT,[]⟩]) (bk:=r2) (num:=1) (k:=0) (s:=paid) (v:=0) (a:=⟨0,0,paid,paid,0,0,100,true⟩) rfl (by dsimp only;omega) rfl (by omega) (by omega) w2 (by rw [G2.e1];omega) (by show cc r2 50+paid<=1000000000000;rw [G2.CX];omega)
 have G3:GT r3 (0 - has) 0 0 (has - paid) paid:=(G2.step (dst:=50) (src:=1) w3 g3 (by omega) (by omega)).cast (by simp [dE]) (by simp [dE];omega) (by simp [dE]) (by simp [dE]) (by simp [dE])
 obtain ⟨o4,e4,l4⟩:=vM (b:=(⟨0,false,[⟨has - paid,0,PT,[⟨0,paid⟩]⟩,⟨0,0,PT,[]⟩],[0,0],[⟨0,0,paid,paid,0,0,100,true⟩],⟨1,[⟨1,1,0,paid⟩]⟩,⟨0,[]⟩,0,0,[],[],⟨0,[0,0],[]⟩,[⟨0,0,2,paid⟩],r2⟩:Bk)) (c:=5) (rest:=rest) (y:=y) (out:=[]++[⟨0,0⟩]++[⟨0,0⟩]++[⟨0,0⟩]) rfl rfl (by simp) (by simp) (by omega) (by simp) (by simp) (wA (by omega) (by omega)) rfl ⟨rfl,trivial⟩ trivial .nil (.cons t3 .nil) (by simp) (by simp) (by simp) (by simp)
 refine ⟨r3,[]++[⟨0,0⟩]++[⟨0,0⟩]++[⟨0,0⟩]++o4,?_,G3⟩
 rw [List.cons_append,List.cons_append,List.cons_append,List.nil_append,ec e1,ec e2,ec e3,e4]
 simp [ST]
def gG:List aR->Int
 |[]=>0
 |t::l=>t.sum+gG l
theorem zo (l:List aR) (t:aR):gG (l++[t])=gG l+t.sum:=by
 induction l with
 |nil=>simp [gG]
 |cons x l ih=>simp only [List.cons_append,gG,ih];omega
theorem tm:∀ {l:List aR} {n:Int} {t:aR},lK l n->t.number=n+l.length+1->lK (l++[t]) n
 |[],n,t,_,h=>⟨by simp at h;omega,trivial⟩
 |x::l,n,t,hn,h=>⟨hn.1,tm hn.2 (by rw [List.length_cons] at h;omega)⟩
structure KT (k:List aR) (m:Int):Prop where
 all:∀ t∈k,t.kind=2/\t.ba=0/\1<=t.sum/\t.sum<=1000000
 Ed:lK k 0
 sum:gG k=m
 right:(cb ⟨k.length,k⟩).err=0
def kS (k:List aR) (n:Int):List aR:=k++[⟨(k.length:Int)+1,2,0,n⟩]
theorem vm (k:List aR) (n:Int):(kS k n).length=k.length+1:=by simp [kS]
theorem KT.snoc {k:List aR} {m n:Int} (H:KT k m) (hl:k.length < 40) (hn:1<=n/\n<=1000000):fr ⟨k.length,k⟩ ⟨0,2,0,n⟩=(⟨(kS k n).length,kS k n⟩,0)/\KT (kS k n) (m+n):=by
 obtain ⟨h1,h2⟩:=Eb (k:=2) (n:=0) (v:=n) H.right hl (by dsimp only;omega) (by omega) (by omega) hn
 have e:((kS k n).length:Int)=k.length+1:=by rw [vm];rfl
 refine ⟨by rw [e];exact h1,fun t ht=>?_,tm H.Ed (by dsimp only;omega),by unfold kS;rw [zo,H.sum],by rw [e];exact h2⟩
 rcases List.mem_append.1 ht with ht|ht
 ·exact H.all t ht
 ·rw [List.mem_singleton.1 ht];exact ⟨rfl,rfl,hn⟩
def ib:List Int->Int
 |[]=>0
 |n::l=>n+ib l
theorem xc:∀ {l:List Int},(∀ n∈l,1<=n)->0<=ib l
 |[],_=>Int.le_refl _
 |n::l,h=>by
  have h1:=h n List.mem_cons_self
  have h2:=xc (l:=l) fun x hx=>h x (List.mem_cons_of_mem _ hx)
  rw [ib];omega
theorem xn {has paid bf:Int} (h1:1<=paid) (h2:paid<=has) (h3:has<=100000) (rest:List aS) (y:List (List Int)):∀ (ns:List Int) (m:Int) (k:List aR) (td:List aj) (r:List Entry) (out:List Answer),(∀ n∈ns,1<=n)->0<=m->m+ib ns<=paid->k.length+ns.length<=30->td.length+ns.length<=50->KT k m->GT r (0 - has) m 0 (has - paid) (paid - m)->
  ∃ k' td' r' o,eP (ns.map (fun n=>⟨0,3,0,0,5,n⟩)++rest) (ST paid bf (paid - m) m 0 ⟨1,[]⟩ ⟨k.length,k⟩ 0 1 td r) y out=eP rest (ST paid bf (paid - (m+ib ns)) (m+ib ns) 0 ⟨1,[]⟩ ⟨k'.length,k'⟩ 0 1 td' r') y o/\k'.length=k.length+ns.length/\KT k' (m+ib ns)/\GT r' (0 - has) (m+ib ns) 0 (has - paid) (paid - (m+ib ns))
 |[],m,k,td,r,out,_,_,_,_,_,hK,hG=>by
  refine ⟨k,td,r,out,?_,rfl,?_,?_⟩
  ·simp [ib]
  ·simpa [ib] using hK
  ·simpa [ib] using hG
 |n::ns,m,k,td,r,out,hn,hm,hs,hk,ht,hK,hG=>by
  have hn1:=hn n List.mem_cons_self
  have hnn:=xc (l:=ns) fun x hx=>hn x (List.mem_cons_of_mem _ hx)
  rw [ib] at hs
  rw [List.length_cons] at hk ht
  obtain ⟨p1,K1⟩:=hK.snoc (n:=n) (by omega) (by omega)
  have hM:=BB (a:=⟨0,0,paid,paid,m,0,100,true⟩) (n:=n) (hZ (by dsimp only;omega)) (by omega) (by dsimp only;omega)
  obtain ⟨r1,d1,w1,g1⟩:=yO (b:=ST paid bf (paid - m) m 0 ⟨1,[]⟩ ⟨k.length,k⟩ 0 1 td r) (n:=0) (s:=n) (v:=paid - m) rfl (by omega) (by omega) rfl hM (by dsimp only;omega) rfl (by omega) hG.right (by show -1000000000000<=cc r 50 - n;rw [hG.CX];omega) (by show cc r 1+n<=1000000000000;rw [hG.e1];omega) p1 (by simp only [ST];omega)
  have G1:GT r1 (0 - has) (m+n) 0 (has - paid) (paid - (m+n)):=(hG.step (dst:=1) (src:=50) w1 g1 (by omega) (by omega)).cast (by simp [dE]) (by simp [dE]) (by simp [dE]) (by simp [dE]) (by simp [dE];omega)
  have e1:dc (ST paid bf (paid - m) m 0 ⟨1,[]⟩ ⟨k.length,k⟩ 0 1 td r) y ⟨0,3,0,0,5,n⟩=(ST paid bf (paid - (m+n)) (m+n) 0 ⟨1,[]⟩ ⟨(kS k n).length,kS k n⟩ 0 1 (td++[⟨0,0,5,n⟩]) r1,y,⟨0,0⟩):=by
   rw [d1 y]
   rw [show paid - (m+n)=paid - m - n by omega]
   rfl
  obtain ⟨k',td',r',o,e2,l2,K2,G2⟩:=xn (bf:=bf) h1 h2 h3 rest y ns (m+n) (kS k n) (td++[⟨0,0,5,n⟩]) r1 (out++[⟨0,0⟩]) (fun x hx=>hn x (List.mem_cons_of_mem _ hx)) (by omega) (by omega) (by rw [vm];omega) (by simp;omega) K1 G1
  rw [show m+ib (n::ns)=m+n+ib ns by rw [ib];omega]
  refine ⟨k',td',r',o,?_,by rw [l2,vm,List.length_cons];omega,K2,G2⟩
  rw [List.map_cons,List.cons_append,ec e1,e2]
theorem pF {has:Int} {aq:List bz} {a:bz} {due:List Int} {c2:bx} {u:List cS} (h3:0<=has/\has<=100000) (ha:aq[0]?=some a) (hc:a.aJ=0) (hu:∀ m,0<=m/\m<=has->cr ⟨m,0,PT,u⟩=0):∀ (k:List aR) (m:Int) (r:List Entry),(∀ t∈k,t.kind=2/\t.ba=0/\1<=t.sum/\t.sum<=1000000)->0<=m->m+gG k<=has->0<=gG k->GT r (0 - has) (gG k) 0 m 0->
  ∃ r',kr aq k due [⟨m,0,PT,u⟩,c2] r due [⟨m+gG k,0,PT,u⟩,c2] r'/\GT r' (0 - has) 0 0 (m+gG k) 0
 |[],m,r,_,_,_,_,hG=>⟨r,by simp only [gG,Int.add_zero];exact .nil,by simpa [gG] using hG⟩
 |t::k,m,r,hk,hm,hs,h0,hG=>by
  obtain ⟨q1,q2,q3,q4⟩:=hk t List.mem_cons_self
  have hnn:0<=gG k:=by
   clear hs h0 hG
   have:∀ l:List aR,(∀ t∈l,1<=t.sum)->0<=gG l:=fun l=>by
    induction l with
    |nil=>intro _;exact Int.le_refl _
    |cons x l ih=>intro h;have:=h x List.mem_cons_self;have:=ih fun z hz=>h z (List.mem_cons_of_mem _ hz);rw [gG];omega
   exact this k fun x hx=>(hk x (List.mem_cons_of_mem _ hx)).2.2.1
  rw [gG] at hs h0 hG
  obtain ⟨r1,t1,w1,g1⟩:=zk (aq:=aq) (due:=due) (cs:=[⟨m,0,PT,u⟩,c2]) (bk:=r) (num:=t.number) (k:=0) (s:=t.sum) (a:=a) (c:=⟨m,0,PT,u⟩) ha (by omega) (by rw [hc];rfl) (hu m (by omega)) (by dsimp only;omega) ⟨q3,q4⟩ hG.right (by rw [hG.e1];omega) (by rw [hc];show cc r 10+t.sum<=1000000000000;rw [hG.CY];omega)
  rw [hc] at g1 t1
  have G1:GT r1 (0 - has) (gG k) 0 (m+t.sum) 0:=(hG.step (dst:=10) (src:=1) w1 g1 (by omega) (by omega)).cast (by simp [dE]) (by simp [dE];omega) (by simp [dE]) (by simp [dE]) (by simp [dE])
  obtain ⟨r',T',G'⟩:=pF (due:=due) (c2:=c2) h3 ha hc hu k (m+t.sum) r1 (fun x hx=>hk x (List.mem_cons_of_mem _ hx)) (by omega) (by omega) hnn G1
  rw [show m+gG (t::k)=m+t.sum+gG k by rw [gG];omega]
  refine ⟨r',.cons ?_ T',G'⟩
  have ht:t=⟨t.number,2,0,t.sum⟩:=by cases t;simp_all
  rw [ht]
  exact t1
def eF (q left:Int):Nat->List Int
 |0=>[]
 |k+1=>(if k=0 then left else q)::eF q (left - (if k=0 then left else q)) k
theorem rq (q:Int):∀ (k:Nat) (left:Int),(eF q left k).length=k
 |0,_=>rfl
 |k+1,left=>by rw [eF,List.length_cons,rq q k]
theorem tg {q:Int} (hq:1<=q):∀ (k:Nat) (left:Int),1<=k->(k:Int) * q<=left->(∀ n∈eF q left k,1<=n)/\ib (eF q left k)=left
 |0,_,h,_=>by omega
 |k+1,left,_,hl=>by
  have e:((k+1:Nat):Int) * q=k * q+q:=by rw [Int.natCast_add,Int.add_mul];simp
  rw [e] at hl
  rw [eF,ib]
  by_cases hk:k=0
  ·subst hk
   rw [if_pos rfl]
   have h0:((0:Nat):Int) * q=0:=by simp
   rw [h0] at hl
   refine ⟨fun n hn=>?_,by simp [eF,ib]⟩
   simp [eF] at hn;omega
  ·rw [if_neg hk]
   obtain ⟨h1,h2⟩:=tg hq k (left - q) (by omega) (by omega)
   refine ⟨fun n hn=>?_,by omega⟩
   rcases List.mem_cons.1 hn with rfl|hn
   ·exact hq
   ·exact h1 n hn
def mJ (n:Int):aS:=⟨0,3,0,0,5,n⟩
theorem yk {has paid q:Int} {P:Nat} (h1:1<=paid) (h2:paid<=has) (h3:has<=100000) (hP:1<=P) (hP4:P<=4) (hp:(P:Int)<=paid) (hq:q=paid / P) {b:Bk} {y:List (List Int)} {o:List Answer} {f:cT}
  (hr:ik ⟨[⟨1000,30,1000000000000⟩,⟨1000,30,1000000000000⟩],2,0⟩ (dR (dR [⟨0,1,0,0,0,has⟩,⟨0,2,0,0,0,paid⟩,⟨0,3,0,0,2,paid⟩]++(eF q paid P).map mJ))=(b,y,o,f)):
  f.err=0/\b.an.length=2/\b.due.length=2/\(∀ c,b.an[0]?=some c->c.bf=has/\c.held=0)/\(∀ n,b.due[0]?=some n->n=0)/\b.book.length=2:=by
 have hq1:1<=q:=by rw [hq];exact (Int.le_ediv_iff_mul_le (by omega)).2 (by omega)
 have hq2:(P:Int) * q<=paid:=by rw [hq];exact Int.mul_ediv_self_le (by omega)
 obtain ⟨hn,hs⟩:=tg hq1 P paid hP hq2
 have hlen:(eF q paid P).length=P:=rq q P paid
 have hids:∀ d∈dR (dR [⟨0,1,0,0,0,has⟩,⟨0,2,0,0,0,paid⟩,⟨0,3,0,0,2,paid⟩]++(eF q paid P).map mJ),d.id=0:=vN fun d hd=>(List.mem_append.1 hd).elim (vN (by simp) d) fun h=>by
  obtain ⟨n,_,rfl⟩:=List.mem_map.1 h;rfl
 rw [FF (by omega) (by omega) (by rw [qF,List.length_append,qF,List.length_map,hlen];simp;omega) hids] at hr
 have hl:dR (dR [⟨0,1,0,0,0,has⟩,⟨0,2,0,0,0,paid⟩,⟨0,3,0,0,2,paid⟩]++(eF q paid P).map mJ)=[⟨0,1,0,0,0,has⟩,⟨0,2,0,0,0,paid⟩,⟨0,3,0,0,2,paid⟩]++(dY 5++(dY 5++((eF q paid P).map mJ++(dY 5++(dY 5++[]))))):=by
  have:=vO (dR [⟨0,1,0,0,0,has⟩,⟨0,2,0,0,0,paid⟩,⟨0,3,0,0,2,paid⟩]++(eF q paid P).map mJ) []
  rw [List.append_nil] at this
  rw [this,List.append_assoc,vO]
 rw [hl] at hr
 obtain ⟨r,o1,e1,G1⟩:=Fo h1 h2 h3 ((eF q paid P).map mJ++(dY 5++(dY 5++[]))) []
 have K0:KT [] 0:=⟨fun t ht=>(by cases ht),trivial,rfl,rfl⟩
 obtain ⟨k',td',r',o2,e2,l2,K2,G2⟩:=xn (bf:=has - paid) h1 h2 h3 (dY 5++(dY 5++[])) [] (eF q paid P) 0 [] [⟨0,0,2,paid⟩] r o1 hn (by omega) (by omega) (by simp;omega) (by simp;omega) K0 (G1.cast rfl rfl rfl rfl (by omega))
 rw [hs] at e2 K2 G2
 rw [Int.zero_add] at e2 K2 G2
 rw [Int.sub_self] at e2 G2
 rw [List.length_nil,Nat.zero_add] at l2
 obtain ⟨r3,T3,G3⟩:=pF (has:=has) (aq:=[⟨0,0,paid,paid,paid,0,100,true⟩]) (due:=[0,0]) (c2:=⟨0,0,PT,[]⟩) (u:=[⟨0,paid⟩]) (by omega) rfl rfl (fun m hm=>qO (by omega) (by omega) (by omega) (by omega)) k' (has - paid) r' K2.all (by omega) (by rw [K2.sum];omega) (by rw [K2.sum];omega) (by rw [K2.sum];exact G2)
 rw [K2.sum] at T3 G3
 rw [show has - paid+paid=has by omega] at T3 G3
 obtain ⟨o4,e4,l4⟩:=vM (b:=ST paid (has - paid) 0 paid 0 ⟨1,[]⟩ ⟨k'.length,k'⟩ 0 1 td' r') (c:=5) (rest:=[]) (y:=[]) (out:=o2) rfl rfl (by simp [ST]) (by simp [ST];omega) (by omega) (by simp [ST]) (by simp [ST]) rfl K2.right trivial K2.Ed T3 .nil (by simp [ST]) (by simp [ST]) (by simp [ST]) (by simp [ST];omega)
 have e1':eP ([⟨0,1,0,0,0,has⟩,⟨0,2,0,0,0,paid⟩,⟨0,3,0,0,2,paid⟩]++(dY 5++(dY 5++((eF q paid P).map mJ++(dY 5++(dY 5++[])))))) (iu 0) [] []=eP (dY 5++(dY 5++[])) (ST paid (has - paid) 0 paid 0 ⟨1,[]⟩ ⟨k'.length,k'⟩ 0 1 td' r') [] o2:=by
  rw [e1]
  have:paid=paid - 0:=by omega
  refine Eq.trans ?_ e2
  rw [Int.sub_zero];rfl
 rw [e1',e4] at hr
 simp only [eP,Prod.mk.injEq] at hr
 obtain ⟨rfl,rfl,rfl,rfl⟩:=hr
 refine ⟨rfl,rfl,rfl,fun c hc=>?_,fun n hn=>?_,G3.two (by omega)⟩
 ·simp at hc;subst hc;exact ⟨rfl,rfl⟩
 ·simp at hn;omega
end Go.Proofs.Ytegepioggeggaaa.Dev
