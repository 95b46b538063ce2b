/- A part of the proof: PlLaw1, PlLaw2, PlTop, PlTop2, PlCome, PlCome2, PlCome3, PlCome4, PlOver, PlBuy, PlBuy2, LTopBuy. No condition. -/
import Derived.Test.YtegepioggeggaaaD14
set_option linter.unusedVariables false
set_option linter.unusedSimpArgs false
set_option maxHeartbeats 8000000
set_option maxRecDepth 100000
namespace Go.Proofs.Ytegepioggeggaaa.Dev
open Go.RowKit
def kh (l:List bx):Prop:=∀ c∈l,0<=c.bp - c.held
theorem pn {l:List bx} {e k h m:Int} (hl:kh l) (hc:∀ c,l[k.toNat]?=some c->h - m<=c.bp - c.held):kh (cv l e k h m).1:=by
 unfold cv
 split
 ·exact hl
 ·rename_i c hk
  split
  ·rename_i h0
   intro z hz
   rcases fV hz with hz|rfl
   ·exact hl z hz
   ·have he:=(fE h0).2
    rcases pR (show dT c h m=((dT c h m).1,(dT c h m).2) from rfl) with ⟨h1,_⟩|h1
    ·exact absurd he h1
    ·have h2:=h1.2.2.2.2.2.2.1
     have h3:=hc c hk
     rw [h2];dsimp only;omega
  ·exact hl
theorem iY {l:List bx} {e k h m:Int} (hl:kh l) (hm:h<=m):kh (cv l e k h m).1:=pn hl fun c hc=>by have:=hl c (List.mem_of_getElem? hc);omega
theorem zq {a:bB} {t:Int} (h:bE a=0):bq (ed a t) - bq a<=0:=by
 have:=eJ h
 unfold bq ed
 cases hs:a.shut<;>cases ht:decide (a.cO<=t)<;>simp<;>omega
theorem qV {time:Int}:∀ (l:List bB) (i:Nat) (an:List bx) (aq:List bB) (e:Int),(∀ a∈l,bE a=0)->kh an->kh (fD time l i an aq e).1
 |[],_,_,_,_,_,h=>h
 |a::l,i,an,aq,e,hw,h=>qV l (i+1) _ _ _ (fun x hx=>hw x (List.mem_cons_of_mem _ hx)) (iY h (zq (hw a List.mem_cons_self)))
theorem qW {time:Int} {n:Int}:∀ (l:List bB) (i:Nat) (an:List bx) (aq:List bB) (e:Int),(∀ a∈l,a.bg=n)->(∀ a∈aq,a.bg=n)->∀ a∈(fD time l i an aq e).2.1,a.bg=n
 |[],_,_,_,_,_,h=>h
 |a::l,i,an,aq,e,hl,h=>qW l (i+1) _ _ _ (fun x hx=>hl x (List.mem_cons_of_mem _ hx)) fun x hx=>by
  rcases fV hx with hx|rfl
  ·exact h x hx
  ·exact hl a List.mem_cons_self
structure eM (b:Bk):Prop where
 ok:ch b
 up:b.down=false
 ik:∀ a∈b.aq,a.bg=0
 free:kh b.an
 k0:∀ t∈b.s0.kept,0<=t.sum
 k1:∀ t∈b.s1.kept,0<=t.sum
 p0:∀ p∈b.w0,0<=p.cq.sum
 p1:∀ p∈b.w1,0<=p.cq.sum
theorem eM.dx {b c:Bk} {e:Int} (h:eM b) (hc:e=0->eM c):eM (dx b c e).1:=by
 unfold Dev.dx;split
 ·exact hc (by assumption)
 ·exact h
theorem eM.late {b:Bk} (h:eM b):eM (gL b):=by
 have hok:=h.ok.late
 unfold gL at hok ⊢
 split
 ·rename_i h0
  rw [if_pos h0] at hok
  exact ⟨hok,h.up,qW _ _ _ _ _ h.ik h.ik,qV _ _ _ _ _ (fun a ha=>(h.ok.perm a ha).1) h.free,h.k0,h.k1,h.p0,h.p1⟩
 ·exact h
theorem eM.start {s:Setup} (h:(er s).err=0):eM (hZ s):=
 ⟨ch.start h,rfl,fun a ha=>(by cases ha),fun c hc=>(by
  obtain ⟨p,_,rfl⟩:=List.mem_map.1 (show c∈s.cX.map oY from hc)
  exact Int.le_refl _),fun a ha=>(by cases ha),fun a ha=>(by cases ha),fun a ha=>(by cases ha),fun a ha=>(by cases ha)⟩
theorem yq {c:bx} {n t:Int} (h:(dE c n t).2=0):0<=(dE c n t).1.bp - (dE c n t).1.held:=by
 rcases qp (show dE c n t=((dE c n t).1,(dE c n t).2) from rfl) with ⟨h5,_⟩|⟨h5,h6,h7,h8,h9,h10,h11,l,h12,h13⟩
 ·exact absurd h h5
 ·rw [h13];dsimp only;omega
theorem eM.asks {b:Bk} (h:eM b) (d:aR):eM (dD b d).1:=by
 have hok:=h.ok.asks d
 unfold dD at hok ⊢
 rw [h.up] at hok ⊢
 simp only [Bool.false_eq_true,if_false] at hok ⊢
 split
 ·exact h
 rename_i c1
 rw [if_neg c1] at hok
 split
 ·exact h
 rename_i c2
 rw [if_neg c2] at hok
 split
 ·exact h
 rename_i c3
 rw [if_neg c3] at hok
 obtain ⟨_,w2,_⟩:=oe (show (cY d.n d.ay d.sum b.time).2=0 by omega)
 split
 ·exact h
 rename_i c hc
 rw [hc] at hok
 dsimp only at hok
 split
 ·exact h
 rename_i c4
 rw [if_neg c4] at hok
 refine ⟨hok,rfl,fun a ha=>?_,fun z hz=>?_,h.k0,h.k1,h.p0,h.p1⟩
 ·rcases List.mem_append.1 ha with ha|ha
  ·exact h.ik a ha
  ·obtain rfl:=List.mem_singleton.1 ha;rw [w2]
 ·rcases fV hz with hz|rfl
  ·exact h.free z hz
  ·exact yq (by omega)
theorem xO {a b:bB} {k n:Int} (hw:bE a=0) (h1:1<=n) (hm:jJ a k n b):(k=1->bq b - bq a=n)/\(k=2\/k=3->bq b - bq a<=0 - n)/\(k=4->bq b - bq a<=0)/\(k=6\/b.bg<=a.bg):=by
 have hr:=eJ hw
 cases hm with
 |more h hs hn=>subst h;unfold bq;rw [hs];simp;omega
 |take h hs hn=>
  unfold bq;rw [hs];dsimp only
  refine ⟨fun h=>by omega,fun _=>?_,fun h=>by omega,.inr (Int.le_refl _)⟩
  split<;>simp at *<;>omega
 |less h hs hn=>
  subst h;unfold bq;rw [hs];dsimp only
  refine ⟨fun h=>by omega,fun h=>by omega,fun _=>?_,.inr (Int.le_refl _)⟩
  split<;>simp at *<;>omega
 |uB h hn=>subst h;exact ⟨fun h=>by omega,fun h=>by omega,fun h=>by omega,.inr (Int.le_refl _)⟩
 |sb h hn=>subst h;exact ⟨fun h=>by omega,fun h=>by omega,fun h=>by omega,.inl rfl⟩
 |rY h hn=>subst h;exact ⟨fun h=>by omega,fun h=>by omega,fun h=>by omega,.inr (by dsimp only;omega)⟩
 |rX h hn=>subst h;exact ⟨fun h=>by omega,fun h=>by omega,fun h=>by omega,.inr (by dsimp only;omega)⟩
theorem xN {a b:bB} {k n:Int} (hm:jJ a k n b) (h1:1<=n) (hk:k=7\/k=8):1<=a.bg:=by
 cases hm<;>omega
theorem nT {s:bS} {e:Int} {t:aV} (h:∀ t∈s.kept,0<=t.sum) (ht:0<=t.sum):∀ u∈(eA s e t).1.kept,0<=u.sum:=by
 unfold eA
 split
 ·rename_i h0
  have he:=(fE h0).2
  unfold fF at he
  split at he
  ·rename_i h1;exact absurd he h1
  split at he
  ·rename_i h1;exact absurd he h1
  ·rename_i h1 h2
   have hp:(fF s t).1=iA s t:=by unfold fF;rw [if_neg h1,if_neg h2]
   dsimp only
   rw [hp]
   intro u hu
   rcases List.mem_append.1 hu with hu|hu
   ·exact h u hu
   ·obtain rfl:=List.mem_singleton.1 hu;exact ht
 ·exact h
theorem eM.lr {b:Bk} (h:eM b) (d:aR) (hd:¬d.move=6):eM (dG b d).1:=by
 have hok:=h.ok.lr d
 unfold dG at hok ⊢
 rw [h.up] at hok ⊢
 simp only [Bool.false_eq_true,if_false] at hok ⊢
 split
 ·exact h
 rename_i c1
 rw [if_neg c1] at hok
 split
 ·exact h
 rename_i cw ho
 rw [ho] at hok
 dsimp only at hok
 split
 ·exact h
 rename_i c2
 rw [if_neg c2] at hok
 split
 ·exact h
 rename_i c3
 rw [if_neg c3] at hok
 have hmv:bZ cw d.move d.sum=((bZ cw d.move d.sum).1,0):=Prod.ext rfl (by dsimp only;omega)
 generalize (bZ cw d.move d.sum).1=a at *
 rcases pY hmv with ⟨h4,_⟩|⟨_,hw,hn1,hn2,hm⟩
 ·exact absurd rfl h4
 have hold:=h.ik cw (List.mem_of_getElem? ho)
 have hr:=eJ hw
 obtain ⟨m1,m2,m3,m4⟩:=xO hw hn1 hm
 have hcard:a.aK=cw.aK:=(pw hmv).2.1
 have hra:=eJ (pw hmv).1
 unfold nk at hok ⊢
 have hcards:kh (dR b a cw d).1:=by
  unfold dR
  split
  ·rename_i hk
   rcases hk with hk|hk
   ·refine pn h.free fun c hc=>?_
    have hf:¬d.sum > kx b.an a.aK:=fun hf=>c3 ⟨hk,hf⟩
    unfold kx at hf;rw [hc] at hf;dsimp only at hf
    have:=m1 hk;omega
   ·exact iY h.free (m3 hk)
  split
  ·rename_i hk;exact iY h.free (m2 hk)
  split
  ·exact h.free
  split
  ·exact h.free
  split
  ·rename_i hk;have:=xN hm hn1 (.inr hk);omega
  ·exact h.free
 unfold Dev.dx at hok ⊢
 split
 ·rename_i h0
  rw [if_pos h0] at hok
  have hks:(∀ t∈(dR b a cw d).2.2.2.1.kept,0<=t.sum)/\∀ t∈(dR b a cw d).2.2.2.2.1.kept,0<=t.sum:=by
   unfold dR
   split
   ·exact ⟨h.k0,h.k1⟩
   split
   ·exact ⟨nT h.k0 (by dsimp only;omega),h.k1⟩
   split
   ·exact ⟨h.k0,nT h.k1 (by dsimp only;omega)⟩
   split
   ·exact ⟨nT h.k0 (by dsimp only;omega),h.k1⟩
   split
   ·exact ⟨h.k0,h.k1⟩
   ·exact ⟨h.k0,h.k1⟩
  refine ⟨hok,h.up,fun x hx=>?_,hcards,hks.1,hks.2,h.p0,h.p1⟩
  rcases fV hx with hx|rfl
  ·exact h.ik x hx
  ·rcases m4 with h6|h6
   ·exact absurd h6 hd
   ·omega
 ·exact h
theorem qC {aq:List bB} {due:List Int} {an:List bx} {book:List Entry} {e:Int} {t:aV} (h:kh an) (ht:0<=t.sum):kh (dW aq due an book e t).2.1:=by
 unfold dW
 split
 ·exact h
 split
 ·exact h
 split
 ·exact iY h ht
 split
 ·exact h
 ·exact h
theorem eM.load {b:Bk} (h:eM b) (d:aR):eM (fw b d).1:=by
 have hok:=h.ok.load d
 unfold fw at hok ⊢
 split
 ·exact h
 rename_i c1
 rw [if_neg c1] at hok
 split
 ·exact h
 rename_i c2
 rw [if_neg c2] at hok
 unfold Dev.dx at hok ⊢
 split
 ·rename_i h0;rw [if_pos h0] at hok;exact ⟨hok,h.up,h.ik,iY h.free (by omega),h.k0,h.k1,h.p0,h.p1⟩
 ·exact h
theorem eM.uE {b:Bk} (h:eM b) (d:aR):eM (gm b d).1:=by
 have hok:=h.ok.uE d
 unfold gm at hok ⊢
 split
 ·exact h
 rename_i c1
 rw [if_neg c1] at hok
 split
 ·exact h
 rename_i c2
 rw [if_neg c2] at hok
 unfold Dev.dx at hok ⊢
 split
 ·rename_i h0;rw [if_pos h0] at hok;exact ⟨hok,h.up,h.ik,h.free,h.k0,h.k1,h.p0,h.p1⟩
 ·exact h
theorem eM.cH {b:Bk} (h:eM b) (d:aR):eM (fi b d).1:=by
 unfold fi
 split
 ·exact h
 ·rw [h.up]
  simp only [Bool.false_eq_true,if_false]
  have h1:eM {b with time:=b.time+d.sum}:=⟨h.ok.tick (by have:=h.ok.time;omega) (by have:=h.ok.time;omega),h.up,h.ik,h.free,h.k0,h.k1,h.p0,h.p1⟩
  have h2:=h1.late
  rwa [show ({b with time:=b.time+d.sum}:Bk)={b with time:=b.time+d.sum,down:=false} by rw [<-h.up]] at h2
theorem sF {w:List bU} {ks:List aV} {n:Int} (h:∀ p∈w,0<=p.cq.sum) (hk:∀ t∈ks,0<=t.sum):∀ p∈(gX w ks n).1,0<=p.cq.sum:=by
 unfold gX
 split
 ·exact h
 ·intro p hp
  rcases sM hp with hp|⟨t,ht,rfl⟩|rfl
  ·exact h p hp
  ·exact hk t ht
  ·exact Int.le_refl _
theorem eM.send {b:Bk} (h:eM b) (d:aR):eM {b with w0:=(eu b.s0 b.s1 b.n0 b.n1 b.w0 b.w1 d).1,w1:=(eu b.s0 b.s1 b.n0 b.n1 b.w0 b.w1 d).2.1}:=by
 refine ⟨h.ok.send d,h.up,h.ik,h.free,h.k0,h.k1,?_,?_⟩
 ·dsimp only;unfold eu
  split
  ·exact h.p0
  split
  ·exact sF h.p0 h.k1
  ·exact h.p0
 ·dsimp only;unfold eu
  split
  ·exact sF h.p1 h.k0
  split
  ·exact h.p1
  ·exact h.p1
theorem tv {s:bS} {n:Int} (h:∀ t∈s.kept,0<=t.sum) (hb:(dK s n).2=0):∀ t∈(dK s n).1.kept,0<=t.sum:=by
 rcases pa (show dK s n=((dK s n).1,(dK s n).2) from rfl) with ⟨h1,_⟩|⟨_,_,_,_,h2⟩
 ·exact absurd hb h1
 ·rw [h2];exact fun t ht=>h t (sV ht)
theorem eM.lu {b:Bk} (h:eM b) (d:aR):eM (bP b d).1:=by
 have hok:=h.ok.lu d
 unfold bP at hok ⊢
 split
 ·rename_i c0
  rw [if_pos c0] at hok
  unfold eV at hok ⊢
  split
  ·exact h
  rename_i p hp
  rw [hp] at hok
  dsimp only at hok
  have hps:=h.p0 p (List.mem_of_getElem? hp)
  have hd:∀ p∈b.w0.drop 1,0<=p.cq.sum:=fun p hp=>h.p0 p (List.mem_of_mem_drop hp)
  split
  ·rename_i c1;rw [if_pos c1] at hok;exact ⟨hok,h.up,h.ik,h.free,h.k0,h.k1,hd,h.p1⟩
  rename_i c1
  rw [if_neg c1] at hok
  split
  ·rename_i c2
   rw [if_pos c2] at hok
   split
   ·rename_i c3;rw [if_pos c3] at hok;exact ⟨hok,h.up,h.ik,h.free,tv h.k0 c3,h.k1,hd,h.p1⟩
   ·exact h
  rename_i c2
  rw [if_neg c2] at hok
  split
  ·rename_i c3
   rw [if_pos c3] at hok
   unfold Dev.dx at hok ⊢
   split
   ·rename_i c4;rw [if_pos c4] at hok;exact ⟨hok,h.up,h.ik,qC h.free hps,h.k0,h.k1,hd,h.p1⟩
   ·exact h
  ·rename_i c3;rw [if_neg c3] at hok;exact ⟨hok,h.up,h.ik,h.free,h.k0,h.k1,hd,h.p1⟩
 rename_i c0
 rw [if_neg c0] at hok
 split
 ·rename_i c01
  rw [if_pos c01] at hok
  unfold eU at hok ⊢
  split
  ·exact h
  rename_i p hp
  rw [hp] at hok
  dsimp only at hok
  have hps:=h.p1 p (List.mem_of_getElem? hp)
  have hd:∀ p∈b.w1.drop 1,0<=p.cq.sum:=fun p hp=>h.p1 p (List.mem_of_mem_drop hp)
  split
  ·rename_i c1;rw [if_pos c1] at hok;exact ⟨hok,h.up,h.ik,h.free,h.k0,h.k1,h.p0,hd⟩
  rename_i c1
  rw [if_neg c1] at hok
  split
  ·rename_i c2
   rw [if_pos c2] at hok
   split
   ·rename_i c3;rw [if_pos c3] at hok;exact ⟨hok,h.up,h.ik,h.free,h.k0,tv h.k1 c3,h.p0,hd⟩
   ·exact h
  rename_i c2
  rw [if_neg c2] at hok
  split
  ·rename_i c3
   rw [if_pos c3] at hok
   unfold Dev.dx at hok ⊢
   split
   ·rename_i c4;rw [if_pos c4] at hok;exact ⟨hok,h.up,h.ik,qC h.free hps,h.k0,h.k1,h.p0,hd⟩
   ·exact h
  ·rename_i c3;rw [if_neg c3] at hok;exact ⟨hok,h.up,h.ik,h.free,h.k0,h.k1,h.p0,hd⟩
 ·exact h
theorem eM.Bu {b:Bk} (h:eM b) (y:List (List Int)) (d:aR) (h8:¬d.kind=8) (h6:¬(d.kind=3/\d.move=6)):eM (dc b y d).1:=by
 unfold dc
 split
 ·exact h.load d
 split
 ·exact h.asks d
 split
 ·rename_i h3;exact h.lr d fun e=>h6 ⟨h3,e⟩
 split
 ·exact h.cH d
 split
 ·exact h.send d
 split
 ·exact h.lu d
 split
 ·have:(iW b).1=b:=by unfold iW;rw [if_pos h.up]
  rw [this];exact h
 split
 ·exact ⟨h.ok.pS (lH (y:=y) h.ok.aQ).1,h.up,h.ik,h.free,h.k0,h.k1,h.p0,h.p1⟩
 split
 ·exact h.uE d
 ·exact h
section
def ek (k:Int):List bB->Int
 |[]=>0
 |a::l=>(if a.aK=k then bq a else 0)+ek k l
theorem qZ (k:Int) (u v:List bB):ek k (u++v)=ek k u+ek k v:=by
 induction u with
 |nil=>simp [ek]
 |cons a u ih=>simp only [List.cons_append,ek,ih];omega
theorem nc (k:Int) (b:bB):∀ {l:List bB} {i:Nat} {a:bB},l[i]?=some a->ek k (l.set i b)=ek k l - (if a.aK=k then bq a else 0)+(if b.aK=k then bq b else 0)
 |x::l,0,a,h=>by
  have:x=a:=by simpa using h
  subst this
  simp only [List.set_cons_zero,ek];omega
 |x::l,i+1,a,h=>by
  have h:l[i]?=some a:=by simpa using h
  simp only [List.set_cons_succ,ek,nc k b h];omega
def gy (an:List bx) (aq:List bB):Prop:=∀ (k:Nat) (c:bx),an[k]?=some c->c.held=ek k aq
theorem pk {l:List bx} {e k h m:Int} (hz:(cv l e k h m).2=0):e=0/\((l[k.toNat]?=none/\(cv l e k h m).1=l)\/∃ c,l[k.toNat]?=some c/\(cv l e k h m).1=l.set k.toNat ⟨c.bp+m,c.held+h,c.bX,c.cD⟩):=by
 unfold cv at hz ⊢
 cases hc:l[k.toNat]? with
 |none=>rw [hc] at hz;exact ⟨hz,.inl ⟨rfl,rfl⟩⟩
 |some c=>
  rw [hc] at hz
  dsimp only at hz ⊢
  split at hz
  ·rename_i h0
   obtain ⟨h1,h2⟩:=fE h0
   rcases pR (show dT c h m=((dT c h m).1,(dT c h m).2) from rfl) with ⟨h3,_⟩|h3
   ·exact absurd h2 h3
   ·rw [if_pos h0]
    exact ⟨h1,.inr ⟨c,rfl,by dsimp only;rw [h3.2.2.2.2.2.2.1]⟩⟩
  ·rename_i h0;exact absurd hz h0
theorem gy.shift {an:List bx} {aq auths':List bB} {e k h m:Int} (hh:gy an aq) (hz:(cv an e k h m).2=0) (ha:∀ j:Nat,ek j auths'=ek j aq+if j=k.toNat then h else 0):gy (cv an e k h m).1 auths':=by
 obtain ⟨_,hz⟩:=pk hz
 intro j c hc
 rcases hz with ⟨h1,h2⟩|⟨c0,h1,h2⟩
 ·rw [h2] at hc
  have:j≠k.toNat:=fun e=>by subst e;rw [h1] at hc;cases hc
  rw [hh j c hc,ha j,if_neg this];omega
 ·rw [h2,List.getElem?_set] at hc
  split at hc
  ·rename_i e
   split at hc
   ·injection hc with hc;subst hc
    have:=hh _ c0 h1
    rw [ha j,if_pos e.symm,<-e];dsimp only;omega
   ·cases hc
  ·rename_i e
   rw [hh j c hc,ha j,if_neg (Ne.symm e)];omega
theorem gy.same {an:List bx} {aq:List bB} {e k m:Int} (hh:gy an aq) (hz:(cv an e k 0 m).2=0):gy (cv an e k 0 m).1 aq:=hh.shift hz fun j=>by split<;>omega
theorem mN {s:bS} {e:Int} {t:aV} (h:(eA s e t).2=0):e=0/\(fF s t).2=0/\(eA s e t).1=(fF s t).1:=by
 unfold eA at h ⊢
 split at h
 ·rename_i h0;obtain ⟨h1,h2⟩:=fE h0;rw [if_pos h0];exact ⟨h1,h2,rfl⟩
 ·rename_i h0;exact absurd h h0
theorem qM {s:bS} {t:aV} (h:(fF s t).2=0):(cj s).err=0/\(cj (iA s t)).err=0/\(fF s t).1=iA s t:=by
 unfold fF at h ⊢
 split at h
 ·rename_i h1;exact absurd h h1
 split at h
 ·rename_i h1;exact absurd h h1
 ·rename_i h1 h2;rw [if_neg h1,if_neg h2];exact ⟨by omega,by omega,rfl⟩
theorem xl {s:bS} {n:Int} (h:(dK s n).2=0):(cj s).err=0/\0<=n/\n<=s.bG/\(dK s n).1=⟨s.bG,dq (came n) s.kept⟩/\(cj (dK s n).1).err=0:=by
 rcases pa (show dK s n=((dK s n).1,(dK s n).2) from rfl) with ⟨h1,_⟩|⟨_,h1,h2,h3,h4⟩
 ·exact absurd h h1
 ·exact ⟨h1,h2,h3,h4,by rw [h4];exact yo h1 h2 h3⟩
structure dY (b:Bk):Prop where
 ok:ch b
 held:gy b.an b.aq
 s0:(cj b.s0).err=0
 s1:(cj b.s1).err=0
 st:bT b.bF=0
 used:b.bF.used.length=b.an.length
 aQ:∀ x∈b.aQ,wN x
theorem qT {time:Int}:∀ (l:List bB) (i:Nat) (an:List bx) (aq:List bB) (e:Int),(fD time l i an aq e).2.2=0->e=0
 |[],_,_,_,_,h=>h
 |a::l,i,an,aq,e,h=>(pk (qT l _ _ _ _ h)).1
theorem qU {time:Int}:∀ (l:List bB) (i:Nat) (an:List bx) (aq:List bB) (e:Int),(fD time l i an aq e).2.2=0->aq.drop i=l->(∀ a∈l,0<=a.aK)->gy an aq->gy (fD time l i an aq e).1 (fD time l i an aq e).2.1
 |[],_,_,_,_,_,_,_,h=>h
 |a::l,i,an,aq,e,hz,hd,hp,h=>by
  have hat:aq[i]?=some a:=by
   have:(aq.drop i)[0]?=some a:=by rw [hd];rfl
   rwa [List.getElem?_drop,Nat.add_zero] at this
  have hilt:=(List.getElem?_eq_some_iff.1 hat).1
  refine qU l (i+1) _ _ _ hz ?_ (fun x hx=>hp x (List.mem_cons_of_mem _ hx)) (h.shift (qT l _ _ _ _ hz) fun j=>?_)
  ·rw [List.drop_set_of_lt (by omega)]
   have:aq.drop (i+1)=(aq.drop i).drop 1:=by rw [List.drop_drop]
   rw [this,hd];rfl
  ·have hc:=hp a List.mem_cons_self
   rw [nc _ _ hat]
   have:(ed a time).aK=a.aK:=rfl
   rw [this]
   by_cases e:a.aK=(j:Int)
   ·rw [if_pos e,if_pos e,if_pos (by omega)];omega
   ·rw [if_neg e,if_neg e,if_neg (by omega)];omega
theorem zj {time:Int} (l:List bB) (i:Nat) (an:List bx) (aq:List bB) (e:Int):(fD time l i an aq e).1.length=an.length:=by
 induction l generalizing i an aq e with
 |nil=>rfl
 |cons a l ih=>exact (ih (i+1) _ _ _).trans (fa _ _ _ _ _)
theorem dY.late {b:Bk} (h:dY b):dY (gL b):=by
 have hok:=h.ok.late
 unfold gL at hok ⊢
 split
 ·rename_i h0
  rw [if_pos h0] at hok
  exact ⟨hok,qU _ _ _ _ _ h0 rfl (fun a ha=>(h.ok.perm a ha).2.1) h.held,h.s0,h.s1,h.st,by dsimp only;rw [zj];exact h.used,h.aQ⟩
 ·exact h
theorem dY.start {s:Setup} (h:(er s).err=0):dY (hZ s):=by
 obtain ⟨h1,h2,h3,h4,h5,h6⟩:=kz h
 have hn:dt s.cap s.cX.length=({cap:=s.cap,used:=List.replicate s.cX.length 0,aZ:=[]},0):=px h1 ⟨h4,h5⟩
 refine ⟨ch.start h,fun k c hc=>?_,rfl,rfl,?_,?_,fun x hx=>by cases hx⟩
 ·have hc:(s.cX.map oY)[k]?=some c:=hc
  rw [List.getElem?_map] at hc
  cases hp:s.cX[k]? with
  |none=>rw [hp] at hc;cases hc
  |some p=>rw [hp] at hc;injection hc with hc;subst hc;rfl
 ·show bT (dt s.cap s.cX.length).1=0
  rw [hn];exact sQ _ _ h1 h4 h5
 ·show (dt s.cap s.cX.length).1.used.length=(s.cX.map oY).length
  rw [hn];simp
theorem dY.load {b:Bk} (h:dY b) (d:aR):dY (fw b d).1:=by
 have hok:=h.ok.load d
 unfold fw at hok ⊢
 split
 ·exact h
 rename_i c1
 rw [if_neg c1] at hok
 split
 ·exact h
 rename_i c2
 rw [if_neg c2] at hok
 unfold Dev.dx at hok ⊢
 split
 ·rename_i h0
  rw [if_pos h0] at hok
  exact ⟨hok,h.held.same (jA h0).1,h.s0,h.s1,h.st,by dsimp only;rw [fa];exact h.used,h.aQ⟩
 ·exact h
theorem dY.uE {b:Bk} (h:dY b) (d:aR):dY (gm b d).1:=by
 have hok:=h.ok.uE d
 unfold gm at hok ⊢
 split
 ·exact h
 rename_i c1
 rw [if_neg c1] at hok
 split
 ·exact h
 rename_i c2
 rw [if_neg c2] at hok
 unfold Dev.dx at hok ⊢
 split
 ·rename_i h0;rw [if_pos h0] at hok;exact ⟨hok,h.held,h.s0,h.s1,h.st,h.used,h.aQ⟩
 ·exact h
theorem dY.cH {b:Bk} (h:dY b) (d:aR):dY (fi b d).1:=by
 unfold fi
 split
 ·exact h
 ·have h1:dY {b with time:=b.time+d.sum}:=⟨h.ok.tick (by have:=h.ok.time;omega) (by have:=h.ok.time;omega),h.held,h.s0,h.s1,h.st,h.used,h.aQ⟩
  dsimp only
  split
  ·exact h1
  ·exact h1.late
theorem dY.send {b:Bk} (h:dY b) (d:aR):dY {b with w0:=(eu b.s0 b.s1 b.n0 b.n1 b.w0 b.w1 d).1,w1:=(eu b.s0 b.s1 b.n0 b.n1 b.w0 b.w1 d).2.1}:=
 ⟨h.ok.send d,h.held,h.s0,h.s1,h.st,h.used,h.aQ⟩
theorem qB {aq:List bB} {due:List Int} {an:List bx} {book:List Entry} {e:Int} {t:aV} (h:gy an aq) (hz:(dW aq due an book e t).2.2.2=0):gy (dW aq due an book e t).2.1 aq/\(dW aq due an book e t).2.1.length=an.length:=by
 unfold dW at hz ⊢
 split
 ·exact ⟨h,rfl⟩
 rename_i a ha
 rw [ha] at hz
 dsimp only at hz
 split
 ·exact ⟨h,rfl⟩
 rename_i c1
 rw [if_neg c1] at hz
 split
 ·rename_i c2;rw [if_pos c2] at hz;exact ⟨h.same (jA hz).1,fa _ _ _ _ _⟩
 split
 ·exact ⟨h,rfl⟩
 ·exact ⟨h,rfl⟩
theorem dY.lu {b:Bk} (h:dY b) (d:aR):dY (bP b d).1:=by
 have hok:=h.ok.lu d
 unfold bP at hok ⊢
 split
 ·rename_i c0
  rw [if_pos c0] at hok
  unfold eV at hok ⊢
  split
  ·exact h
  rename_i p hp
  rw [hp] at hok
  dsimp only at hok
  split
  ·rename_i c1;rw [if_pos c1] at hok;exact ⟨hok,h.held,h.s0,h.s1,h.st,h.used,h.aQ⟩
  rename_i c1
  rw [if_neg c1] at hok
  split
  ·rename_i c2
   rw [if_pos c2] at hok
   split
   ·rename_i c3;rw [if_pos c3] at hok;exact ⟨hok,h.held,(xl c3).2.2.2.2,h.s1,h.st,h.used,h.aQ⟩
   ·exact h
  rename_i c2
  rw [if_neg c2] at hok
  split
  ·rename_i c3
   rw [if_pos c3] at hok
   unfold Dev.dx at hok ⊢
   split
   ·rename_i c4;rw [if_pos c4] at hok;obtain ⟨r1,r2⟩:=qB h.held c4;exact ⟨hok,r1,h.s0,h.s1,h.st,h.used.trans r2.symm,h.aQ⟩
   ·exact h
  ·rename_i c3;rw [if_neg c3] at hok;exact ⟨hok,h.held,h.s0,h.s1,h.st,h.used,h.aQ⟩
 rename_i c0
 rw [if_neg c0] at hok
 split
 ·rename_i c01
  rw [if_pos c01] at hok
  unfold eU at hok ⊢
  split
  ·exact h
  rename_i p hp
  rw [hp] at hok
  dsimp only at hok
  split
  ·rename_i c1;rw [if_pos c1] at hok;exact ⟨hok,h.held,h.s0,h.s1,h.st,h.used,h.aQ⟩
  rename_i c1
  rw [if_neg c1] at hok
  split
  ·rename_i c2
   rw [if_pos c2] at hok
   split
   ·rename_i c3;rw [if_pos c3] at hok;exact ⟨hok,h.held,h.s0,(xl c3).2.2.2.2,h.st,h.used,h.aQ⟩
   ·exact h
  rename_i c2
  rw [if_neg c2] at hok
  split
  ·rename_i c3
   rw [if_pos c3] at hok
   unfold Dev.dx at hok ⊢
   split
   ·rename_i c4;rw [if_pos c4] at hok;obtain ⟨r1,r2⟩:=qB h.held c4;exact ⟨hok,r1,h.s0,h.s1,h.st,h.used.trans r2.symm,h.aQ⟩
   ·exact h
  ·rename_i c3;rw [if_neg c3] at hok;exact ⟨hok,h.held,h.s0,h.s1,h.st,h.used,h.aQ⟩
 ·exact h
theorem zw {s:cr} {a:ca} (h:(cf s a).2=0):(cf s a).1.used.length=s.used.length:=by
 unfold cf at h ⊢
 split at h
 ·rename_i h1;exact absurd h h1
 split at h
 ·cases h
 split at h
 ·cases h
 split at h
 ·cases h
 ·rename_i h1 h2 h3 h4;rw [if_neg h1,if_neg h2,if_neg h3,if_neg h4];exact List.length_set ..
theorem gy.new {an:List bx} {aq:List bB} {k:Int} {c c':bx} {a:bB} (hh:gy an aq) (hk:0<=k) (hc:an[k.toNat]?=some c) (ha:a.aK=k) (h':c'.held=c.held+bq a):gy (an.set k.toNat c') (aq++[a]):=by
 intro j z hz
 rw [qZ]
 have h1:ek j [a]=if a.aK=j then bq a else 0:=by simp [ek]
 rw [h1]
 rw [List.getElem?_set] at hz
 split at hz
 ·rename_i e
  split at hz
  ·injection hz with hz;subst hz
   have:=hh _ c hc
   rw [if_pos (by omega),<-e];omega
  ·cases hz
 ·rename_i e
  rw [hh j z hz,if_neg (by omega)];omega
theorem dY.asks {b:Bk} (h:dY b) (d:aR):dY (dD b d).1:=by
 have hok:=h.ok.asks d
 unfold dD at hok ⊢
 split
 ·exact h
 rename_i c0
 rw [if_neg c0] at hok
 split
 ·rename_i cd
  rw [if_pos cd] at hok
  split
  ·exact h
  rename_i c1
  rw [if_neg c1] at hok
  split
  ·exact h
  rename_i c2
  rw [if_neg c2] at hok
  have he:=rh (show gu (cf b.bF ⟨d.n,d.ay,d.sum,b.time⟩).2=0 by omega)
  exact ⟨hok,h.held,h.s0,h.s1,(xU h.st he).1,(zw he).trans h.used,h.aQ⟩
 rename_i cd
 rw [if_neg cd] at hok
 split
 ·exact h
 rename_i c2
 rw [if_neg c2] at hok
 split
 ·exact h
 rename_i c3
 rw [if_neg c3] at hok
 obtain ⟨_,w2,_⟩:=oe (show (cY d.n d.ay d.sum b.time).2=0 by omega)
 split
 ·exact h
 rename_i c hc
 rw [hc] at hok
 dsimp only at hok
 split
 ·exact h
 rename_i c4
 rw [if_neg c4] at hok
 refine ⟨hok,h.held.new (by omega) hc (by rw [w2]) ?_,h.s0,h.s1,h.st,by dsimp only;rw [List.length_set];exact h.used,h.aQ⟩
 rcases qp (show dE c d.sum b.time=((dE c d.sum b.time).1,(dE c d.sum b.time).2) from rfl) with ⟨h5,_⟩|⟨h5,h6,h7,h8,h9,h10,h11,l,h12,h13⟩
 ·omega
 ·rw [h13,w2];simp [bq]
theorem ua:∀ (l:List ca) (cs:List bx) (xs:List bB),(fZ l cs xs).2.2=0->gy cs xs->(∀ a∈l,0<=a.aK/\a.aK < cs.length)->gy (fZ l cs xs).1 (fZ l cs xs).2.1/\(fZ l cs xs).1.length=cs.length
 |[],cs,xs,_,h,_=>⟨h,rfl⟩
 |x::l,cs,xs,hz,h,hl=>by
  unfold fZ at hz ⊢
  split at hz
  ·rename_i h1;exact absurd hz h1
  rename_i h1
  rw [if_neg h1]
  have hx:=hl x List.mem_cons_self
  cases hc:cs[x.aK.toNat]? with
  |none=>have:=List.getElem?_eq_none_iff.1 hc;omega
  |some c=>
   rw [hc] at hz
   dsimp only at hz ⊢
   split at hz
   ·rename_i h2;exact absurd hz h2
   rename_i h2
   rw [if_neg h2]
   obtain ⟨_,w2,_⟩:=oe (show (cY x.aK x.ay x.sum x.time).2=0 by omega)
   obtain ⟨_,f2,_⟩:=ox (show (eK c x.sum).2=0 by omega)
   have:=ua l _ _ hz (h.new hx.1 hc (by rw [w2]) (by rw [f2,w2];simp [bq])) (fun a ha=>by rw [List.length_set];exact hl a (List.mem_cons_of_mem _ ha))
   rw [List.length_set] at this
   exact this
theorem dY.Dj {b:Bk} (h:dY b):dY (iW b).1:=by
 unfold iW
 split
 ·exact h
 split
 ·exact h
 split
 ·exact h
 rename_i c1 c2 c3
 have h0:(cS b.bF).2.2=0:=by omega
 obtain ⟨r1,r2,r3⟩:=qn h0
 have hu:=h.ok.Ap h0
 have hz:(fZ (cS b.bF).2.1 b.an b.aq).2.2=0:=by omega
 obtain ⟨u1,u2⟩:=ua _ _ _ hz h.held (fun a ha=>by rw [r3] at ha;have:=h.ok.jr a ha;omega)
 have hp:=gF h.st
 refine dY.late ⟨hu,u1,h.s0,h.s1,?_,?_,h.aQ⟩
 ·dsimp only;rw [r2]
  have hc:0<=b.bF.cap/\b.bF.cap<=1000000:=by simpa [fW] using hp.2.2.1
  exact sQ _ _ hp.1 hc.1 hc.2
 ·dsimp only;rw [r2,u2];simp [h.used]
theorem dY.lr {b:Bk} (h:dY b) (d:aR):dY (dG b d).1:=by
 have hok:=h.ok.lr d
 unfold dG at hok ⊢
 split
 ·exact h
 rename_i cd
 rw [if_neg cd] at hok
 split
 ·exact h
 rename_i c1
 rw [if_neg c1] at hok
 split
 ·exact h
 rename_i cw ho
 rw [ho] at hok
 dsimp only at hok
 split
 ·exact h
 rename_i c2
 rw [if_neg c2] at hok
 split
 ·exact h
 rename_i c3
 rw [if_neg c3] at hok
 have hmv:bZ cw d.move d.sum=((bZ cw d.move d.sum).1,0):=Prod.ext rfl (by dsimp only;omega)
 generalize (bZ cw d.move d.sum).1=a at *
 obtain ⟨_,hwa,hcard,hshop,hk1,hk2,hn1,hn2⟩:=mf hmv
 rcases pY hmv with ⟨h4,_⟩|⟨_,hw,_,_,hm⟩
 ·exact absurd rfl h4
 have hp:=h.ok.perm cw (List.mem_of_getElem? ho)
 have hra:=eJ hwa
 have hset:∀ j:Nat,ek j (b.aq.set d.n.toNat a)=ek j b.aq+if j=a.aK.toNat then bq a - bq cw else 0:=fun j=>by
  rw [nc _ _ ho,hcard]
  by_cases e:cw.aK=(j:Int)
  ·rw [if_pos e,if_pos e,if_pos (by omega)];omega
  ·rw [if_neg e,if_neg e,if_neg (by omega)];omega
 have hsame:bq a=bq cw->∀ j:Nat,ek j (b.aq.set d.n.toNat a)=ek j b.aq:=fun e j=>by rw [hset j];split<;>omega
 have hh:d.move=5\/d.move=6\/d.move=7\/d.move=8->bq a=bq cw:=fun e=>by
  cases hm with
  |uB _ _=>rfl
  |sb _ _=>rfl
  |rY _ _=>rfl
  |rX _ _=>rfl
  |more h _ _=>omega
  |take h _ _=>omega
  |less h _ _=>omega
 unfold nk Dev.dx at hok ⊢
 split
 rotate_left
 ·exact h
 rename_i h0
 rw [if_pos h0] at hok
 obtain ⟨e0,hl0,hnote⟩:=xK h0
 have key:gy (dR b a cw d).1 (b.aq.set d.n.toNat a)/\(cj (dR b a cw d).2.2.2.1).err=0/\(cj (dR b a cw d).2.2.2.2.1).err=0/\(dR b a cw d).1.length=b.an.length:=by
  unfold dR at e0 ⊢
  split at e0
  ·rename_i hk;rw [if_pos hk];exact ⟨h.held.shift e0 hset,h.s0,h.s1,fa _ _ _ _ _⟩
  rename_i k1
  rw [if_neg k1]
  split at e0
  ·rename_i hk;rw [if_pos hk]
   obtain ⟨e1,e2,e3⟩:=mN e0
   obtain ⟨_,p2,p3⟩:=qM e2
   exact ⟨h.held.shift (jA e1).1 hset,by dsimp only;rw [e3,p3];exact p2,h.s1,fa _ _ _ _ _⟩
  rename_i k2
  rw [if_neg k2]
  split at e0
  ·rename_i hk;rw [if_pos hk]
   obtain ⟨e1,e2,e3⟩:=mN e0
   obtain ⟨_,p2,p3⟩:=qM e2
   exact ⟨fun j c hc=>by rw [hsame (hh (.inl hk)) j];exact h.held j c hc,h.s0,by dsimp only;rw [e3,p3];exact p2,rfl⟩
  rename_i k3
  rw [if_neg k3]
  split at e0
  ·rename_i hk;rw [if_pos hk]
   exact ⟨h.held.shift (jA e0).1 fun j=>by rw [hsame (hh (.inr (.inl hk))) j];split<;>omega,h.s0,h.s1,fa _ _ _ _ _⟩
  rename_i k4
  rw [if_neg k4]
  split at e0
  ·rename_i hk;rw [if_pos hk]
   obtain ⟨e1,e2,e3⟩:=mN e0
   obtain ⟨_,p2,p3⟩:=qM e2
   exact ⟨fun j c hc=>by rw [hsame (hh (.inr (.inr (.inl hk)))) j];exact h.held j c hc,by dsimp only;rw [e3,p3];exact p2,h.s1,rfl⟩
  rename_i k5
  rw [if_neg k5]
  split at e0
  ·rename_i hk;rw [if_pos hk]
   exact ⟨h.held.shift (jA e0).1 fun j=>by rw [hsame (hh (.inr (.inr (.inr hk)))) j];split<;>omega,h.s0,h.s1,fa _ _ _ _ _⟩
  ·omega
 refine ⟨hok,key.1,key.2.1,key.2.2.1,h.st,h.used.trans key.2.2.2.symm,fun x hx=>?_⟩
 dsimp only at hx
 rw [hnote] at hx
 rcases List.mem_append.1 hx with hx|hx
 ·exact h.aQ x hx
 ·obtain rfl:=List.mem_singleton.1 hx
  have hlen:=h.ok.aq
  constructor
  ·unfold mh;dsimp only;omega
  ·unfold nt;dsimp only;omega
theorem dY.Bu {b:Bk} (h:dY b) (y:List (List Int)) (d:aR):dY (dc b y d).1:=by
 unfold dc
 split
 ·exact h.load d
 split
 ·exact h.asks d
 split
 ·exact h.lr d
 split
 ·exact h.cH d
 split
 ·exact h.send d
 split
 ·exact h.lu d
 split
 ·split
  ·exact h
  ·exact ⟨⟨h.ok.time,h.ok.an,h.ok.due,h.ok.aq,h.ok.aQ,h.ok.w0,h.ok.w1,h.ok.perm,h.ok.jr,h.ok.k0,h.ok.k1,h.ok.right,h.ok.l0,h.ok.l1,h.ok.p0,h.ok.p1,h.ok.n0,h.ok.n1,fun h=>by cases h⟩,h.held,h.s0,h.s1,h.st,h.used,h.aQ⟩
 split
 ·exact h.Dj
 split
 ·refine ⟨h.ok.pS (lH (y:=y) h.ok.aQ).1,h.held,h.s0,h.s1,h.st,h.used,?_⟩
  unfold iK
  split
  ·exact h.aQ
  ·exact fun x hx=>by cases hx
 split
 ·exact h.uE d
 ·exact h
end
section
structure HL (n:Nat) (aq:List bB) (hl:List Int):Prop where
 len:hl.length=n
 at_:∀ k:Nat,k < n->hl[k]?=some (ek k aq)
theorem HL.start (n:Nat):HL n [] (List.replicate n 0):=⟨List.length_replicate,fun k hk=>by rw [List.getElem?_replicate,if_pos hk];rfl⟩
theorem HL.step {n:Nat} {u:List bB} {hl:List Int} {a:bB} {x v:Int} (h:HL n u hl) (ha:0<=a.aK/\a.aK < n) (hx:hl[a.aK.toNat]?=some x) (hv:v=x+bq a):HL n (u++[a]) (hl.set a.aK.toNat v):=by
 refine ⟨(List.length_set ..).trans h.len,fun k hk=>?_⟩
 rw [qZ]
 have h1:ek k [a]=if a.aK=k then bq a else 0:=by simp [ek]
 rw [h1,List.getElem?_set]
 have h2:=h.at_ k hk
 split
 ·rename_i e
  rw [e] at hx
  rw [hx] at h2
  injection h2 with h2
  rw [if_pos (by rw [h.len];omega),if_pos (by omega),hv,h2]
 ·rename_i e
  rw [if_neg (by omega),h2];simp
theorem uW (k:Int):∀ {l:List bB},(∀ a∈l,bE a=0)->0<=ek k l/\ek k l<=1000000 * l.length
 |[],_=>by simp [ek]
 |a::l,h=>by
  have:=uW k (l:=l) fun x hx=>h x (List.mem_cons_of_mem _ hx)
  have h2:=ou (h a List.mem_cons_self)
  simp only [ek,List.length_cons]
  split<;>omega
theorem HL.b {n:Nat} {u:List bB} {hl:List Int} {k:Nat} {x:Int} (h:HL n u hl) (hx:hl[k]?=some x) (hu:∀ a∈u,bE a=0) (hl':u.length<=30):0<=x/\x<=30000000:=by
 have hk:=(List.getElem?_eq_some_iff.1 hx).1
 have h2:=h.at_ k (by rw [<-h.len];exact hk)
 rw [hx] at h2;injection h2 with h2
 have:=uW k hu
 omega
end
def fk:List aR->Bk->List (List Int)->List Answer->Bk×List (List Int)×List Answer
 |[],b,y,out=>(b,y,out)
 |d::l,b,y,out=>fk l (dc b y d).1 (dc b y d).2.1 (out++[(dc b y d).2.2])
theorem qO:∀ {l:List aR},(∀ d∈l,d.id=0)->∀ (b:Bk) (y:List (List Int)) (told:List (Int×Answer)) (cl:Nat) (out:List Answer),kd l b y told cl out=fk l b y out
 |[],_,_,_,_,_,_=>rfl
 |d::l,h,b,y,told,cl,out=>by
  have h0:fC b y told cl d=((dc b y d).1,(dc b y d).2.1,nN told d.id (dc b y d).2.2,if (ix told d.id).isSome then cl else cl+1,(dc b y d).2.2):=by
   unfold fC;rw [if_neg (fun h'=>h'.2 (h d (by simp)))]
  unfold kd fk
  rw [h0]
  exact qO (fun x hx=>h x (by simp [hx])) _ _ _ _ _
theorem ea {d:aR} {l:List aR} {b b':Bk} {y y':List (List Int)} {out:List Answer} {a:Answer} (h:dc b y d=(b',y',a)):fk (d::l) b y out=fk l b' y' (out++[a]):=by
 rw [fk,h]
def iX (limit:Int):Bk:=⟨0,false,[⟨0,0,⟨1000,30,1000000000000⟩,[]⟩,⟨0,0,⟨1000,30,1000000000000⟩,[]⟩],[0,0],[],⟨0,[]⟩,⟨0,[]⟩,0,0,[],[],⟨limit,[0,0],[]⟩,[],[]⟩
theorem CS {n:Int} (h0:0<=n) (h1:n<=1000000):fW n=true:=by
 exact decide_eq_true ⟨h0,h1⟩
theorem EX {limit:Int} {l:List aR} (h0:0<=limit) (h1:limit<=1000000) (hl:l.length<=150) (hz:∀ d∈l,d.id=0):
  hG ⟨[⟨1000,30,1000000000000⟩,⟨1000,30,1000000000000⟩],2,limit⟩ l=((fk l (iX limit) [] []).1,(fk l (iX limit) [] []).2.1,(fk l (iX limit) [] []).2.2,⟨0,0⟩):=by
 have hw:er ⟨[⟨1000,30,1000000000000⟩,⟨1000,30,1000000000000⟩],2,limit⟩=⟨0,0⟩:=by
  unfold er
  rw [if_neg (by simp),if_neg (by dsimp only;omega)]
  rfl
 have hs:hZ ⟨[⟨1000,30,1000000000000⟩,⟨1000,30,1000000000000⟩],2,limit⟩=iX limit:=by
  unfold hZ iX dt
  rw [if_neg (by simp),if_neg (fun h=>h (CS h0 h1))]
  rfl
 unfold hG
 rw [hw,if_neg (by simp),if_neg (by omega),hs,qO hz]
theorem mY {l:List Entry} {src dst n:Int} (hw:(dC l).err=0) (hs:0<=src/\src<=57) (hd:0<=dst/\dst<=57) (hne:src≠dst) (hn:0<=n/\n<=1000000000000)
  (h1:-1000000000000<=cA l src - n) (h2:cA l dst+n<=1000000000000):
  ∃ r,dQ l 0 src dst n=(r,0)/\(dC r).err=0/\∀ x,cA r x=cA l x+(if x=dst then n else 0) - (if x=src then n else 0):=by
 have hR:=(kM.1 hw).1
 have hbd:∀ a,-1000000000000<=cA l a/\cA l a<=1000000000000:=fun a=>xV fun x hx=>by
  have:=hR.ok x hx;omega
 have b1:=hbd src;have b2:=hbd dst
 have hp:∃ r,eX l [⟨src,0 - n⟩,⟨dst,n⟩]=some r:=by
  refine ⟨gD (gD l src (cA l src+(0 - n))) dst (cA l dst+n),?_⟩
  unfold eX
  rw [if_pos (lL.2 ⟨by dsimp only;omega,by dsimp only;omega⟩)]
  unfold eX
  dsimp only
  rw [qc hR.up,if_neg hne,if_pos (lL.2 ⟨by omega,by omega⟩)]
  rfl
 obtain ⟨r,hr⟩:=hp
 have hpo:fU l [⟨src,0 - n⟩,⟨dst,n⟩]=(r,0):=by
  rw [pX hw (by simp) (fun x hx=>by simp only [List.mem_cons,List.not_mem_nil,or_false] at hx;rcases hx with rfl|rfl<;>(unfold eP;dsimp only;omega)) (by simp only [ei];omega),hr]
 have hm:iL l src dst n=(r,0):=by unfold iL;rw [if_neg (by omega)];exact hpo
 refine ⟨r,?_,(nW hpo 0).1,fun x=>?_⟩
 ·unfold dQ;rw [hm];rfl
 ·rw [(nW hpo x).2];simp only [lj]
  have e1:(src=x)=(x=src):=propext ⟨Eq.symm,Eq.symm⟩
  have e2:(dst=x)=(x=dst):=propext ⟨Eq.symm,Eq.symm⟩
  simp only [e1,e2]
  split<;>split<;>omega
theorem yy {c:bx} {m h:Int} (hw:cu c=0) (h1:-1000000000000<=m/\m<=1000000000000) (h2:0<=h/\h<=1000000000000):cu ⟨m,h,c.bX,c.cD⟩=0:=by
 have:=gq hw
 unfold cu;rw [if_neg (by dsimp only;omega),if_neg (fun x=>x this.2.2.2.2.1)];exact this.2.2.2.2.2
theorem sE {l:List bx} {k held bp:Int} {c:bx} (hc:l[k.toNat]?=some c) (hw:cu c=0) (h1:-1000000000000<=c.bp+bp/\c.bp+bp<=1000000000000) (h2:0<=c.held+held/\c.held+held<=1000000000000)
  (h3:-1000000000000<=held/\held<=1000000000000) (h4:-1000000000000<=bp/\bp<=1000000000000):cv l 0 k held bp=(l.set k.toNat ⟨c.bp+bp,c.held+held,c.bX,c.cD⟩,0):=by
 have hs:dT c held bp=(⟨c.bp+bp,c.held+held,c.bX,c.cD⟩,0):=by
  unfold dT;rw [if_neg (fun h=>h hw),if_neg (by omega),if_neg (fun h=>h (yy hw h1 h2))]
 rw [nS hc,hs];rfl
theorem Bv {b:Bk} {n s:Int} {c:bx} (hn:0<=n/\n<=7) (hs:1<=s/\s<=1000000) (hc:b.an[n.toNat]?=some c) (hw:cu c=0) (hm:c.bp+s<=1000000000000) (hb:(dC b.book).err=0)
  (h1:-1000000000000<=cA b.book 0 - s) (h2:cA b.book (10+n)+s<=1000000000000):
  ∃ r,(∀ y,dc b y ⟨0,1,n,0,0,s⟩=({b with an:=b.an.set n.toNat ⟨c.bp+s,c.held,c.bX,c.cD⟩,book:=r},y,⟨0,0⟩))/\(dC r).err=0/\∀ x,cA r x=cA b.book x+(if x=10+n then s else 0) - (if x=0 then s else 0):=by
 have hlt:=(List.getElem?_eq_some_iff.1 hc).1
 have hR:=gq hw
 obtain ⟨r,hr,hrw,hrg⟩:=mY (l:=b.book) (src:=0) (dst:=10+n) (n:=s) hb (by omega) (by omega) (by omega) (by omega) h1 h2
 refine ⟨r,fun y=>?_,hrw,hrg⟩
 have hS:=sE (l:=b.an) (k:=n) (held:=0) (bp:=s) hc hw (by omega) (by omega) (by omega) (by omega)
 have hL:fw b ⟨0,1,n,0,0,s⟩=({b with an:=b.an.set n.toNat ⟨c.bp+s,c.held,c.bX,c.cD⟩,book:=r},⟨0,0⟩):=by
  unfold fw
  rw [if_neg (by dsimp only;omega),if_neg (by dsimp only;omega)]
  dsimp only
  rw [hS];dsimp only;rw [hr,Int.add_zero];rfl
 unfold dc;rw [if_pos rfl,hL]
theorem CQ {b:Bk} {n p s:Int} {c c':bx} (hd:b.down=false) (hn:0<=n/\n<=7) (hp:0<=p/\p < b.due.length) (hp7:p<=7) (hs:1<=s/\s<=1000000) (ht:0<=b.time/\b.time<=1000000) (ha:b.aq.length < 30) (hc:b.an[n.toNat]?=some c)
  (hA:dE c s b.time=(c',0)) (y:List (List Int)):
  dc b y ⟨0,2,n,p,0,s⟩=({b with an:=b.an.set n.toNat c',aq:=b.aq++[⟨n,p,s,0,0,0,b.time+100,false⟩]},y,⟨0,b.aq.length⟩):=by
 have hlt:=(List.getElem?_eq_some_iff.1 hc).1
 have hN:cY n p s b.time=(⟨n,p,s,0,0,0,b.time+100,false⟩,0):=by unfold cY;rw [if_neg (by omega)]
 have hL:dD b ⟨0,2,n,p,0,s⟩=({b with an:=b.an.set n.toNat c',aq:=b.aq++[⟨n,p,s,0,0,0,b.time+100,false⟩]},⟨0,b.aq.length⟩):=by
  unfold dD
  rw [if_neg (by dsimp only;omega),if_neg (by rw [hd];decide)]
  dsimp only
  rw [hN,if_neg (by omega),if_neg (by simp)]
  dsimp only
  rw [hc]
  dsimp only
  rw [hA,if_neg (by simp)]
 unfold dc;rw [if_neg (by dsimp only;omega),if_pos rfl,hL]
theorem zG {c:bx} {s t:Int} (hw:cu c=0) (hs:1<=s/\s<=1000000) (ht:0<=t/\t<=1000000) (hm:c.held+s<=c.bp) (hP:c.bX=⟨1000,30,1000000000000⟩) (hu:c.cD=[]):
  dE c s t=(⟨c.bp,c.held+s,⟨1000,30,1000000000000⟩,[⟨t,s⟩]⟩,0):=by
 have hR:=gq hw
 have h1:(eZ [⟨t,s⟩]).err=0:=by
  have h0:iS [⟨t,s⟩] 0=0:=by
   unfold iS
   dsimp only [List.getElem?_cons_zero]
   rw [if_neg (by omega),if_neg (by omega)]
  unfold eZ cD
  rw [if_neg (by simp)]
  simp [scan,h0]
 have hA:eg ⟨1000,30,1000000000000⟩ [] ⟨t,s⟩=([⟨t,s⟩],0):=by
  unfold eg
  rw [if_neg (by decide),if_neg (by decide),if_neg (by omega),if_neg (by simp [gi])]
  rw [show dy ⟨1000,30,1000000000000⟩ [] t=[] from rfl]
  rw [if_neg (by simp [gC];omega)];rfl
 unfold dE
 rw [if_neg (by omega),if_neg (by omega),if_neg (by omega),hP,hu,hA,if_neg (by simp)]
theorem CP {b:Bk} {n m s:Int} {a a':bB} {c:bx} {s':bS} (hd:b.down=false) (hm:m=2\/m=3) (hs:1<=s/\s<=1000000) (hn:0<=n) (ha:b.aq[n.toNat]?=some a) (hM:bZ a m s=(a',0)) (hk:0<=a'.aK/\a'.aK<=7)
  (hc:b.an[a'.aK.toNat]?=some c) (hw:cu c=0) (h1:-1000000000000<=c.bp - s) (h2:0<=c.held+(bq a' - bq a)/\c.held+(bq a' - bq a)<=1000000000000) (h3:-1000000000000<=bq a' - bq a/\bq a' - bq a<=1000000000000)
  (hb:(dC b.book).err=0) (h4:-1000000000000<=cA b.book (10+a'.aK) - s) (h5:cA b.book 1+s<=1000000000000) (hP:fF b.s0 ⟨0,1,n,s⟩=(s',0)) (hT:b.aQ.length < 100):
  ∃ r,(∀ y,dc b y ⟨0,3,n,0,m,s⟩=({b with an:=b.an.set a'.aK.toNat ⟨c.bp - s,c.held+(bq a' - bq a),c.bX,c.cD⟩,book:=r,s0:=s',aQ:=b.aQ++[⟨a'.ay,n,m,s⟩],aq:=b.aq.set n.toNat a'},y,⟨0,0⟩))/\
   (dC r).err=0/\∀ x,cA r x=cA b.book x+(if x=1 then s else 0) - (if x=10+a'.aK then s else 0):=by
 have hlt:=(List.getElem?_eq_some_iff.1 ha).1
 have hR:=gq hw
 obtain ⟨r,hr,hrw,hrg⟩:=mY (l:=b.book) (src:=10+a'.aK) (dst:=1) (n:=s) hb (by omega) (by omega) (by omega) (by omega) h4 h5
 refine ⟨r,fun y=>?_,hrw,hrg⟩
 have hS:=sE (l:=b.an) (k:=a'.aK) (held:=bq a' - bq a) (bp:=0 - s) hc hw (by omega) h2 h3 (by omega)
 rw [show c.bp+(0 - s)=c.bp - s by omega] at hS
 have hL:dG b ⟨0,3,n,0,m,s⟩=({b with an:=b.an.set a'.aK.toNat ⟨c.bp - s,c.held+(bq a' - bq a),c.bX,c.cD⟩,book:=r,s0:=s',aQ:=b.aQ++[⟨a'.ay,n,m,s⟩],aq:=b.aq.set n.toNat a'},⟨0,0⟩):=by
  unfold dG
  rw [if_neg (by rw [hd];decide),if_neg (by dsimp only;omega)]
  dsimp only
  rw [ha]
  dsimp only
  rw [hM,if_neg (by simp),if_neg (by omega)]
  unfold dR
  dsimp only
  rw [if_neg (by omega),if_pos hm,hS]
  dsimp only
  rw [hr]
  unfold eA
  rw [hP]
  unfold nk iq
  dsimp only
  rw [if_pos (show dv 0 0=0 from rfl),if_neg (show ¬b.aQ.length=100 by omega)]
  rfl
 unfold dc;rw [if_neg (by dsimp only;omega),if_neg (by dsimp only;omega),if_pos rfl,hL]
def PT:dk:=⟨1000,30,1000000000000⟩
theorem wy {m h:Int} (h1:-1000000000000<=m/\m<=1000000000000) (h2:0<=h/\h<=1000000000000):cu ⟨m,h,PT,[]⟩=0:=by
 unfold cu;rw [if_neg (by dsimp only;omega)];rfl
theorem sJ {k s:Int} (hk:1<=k/\k<=3) (hs:1<=s/\s<=1000000):fF ⟨0,[]⟩ ⟨0,k,0,s⟩=(⟨1,[⟨1,k,0,s⟩]⟩,0):=by
 have h0:jL (iA ⟨0,[]⟩ ⟨0,k,0,s⟩) 0=0:=by
  unfold jL iA
  simp only [List.nil_append,List.getElem?_cons_zero,List.length_singleton]
  rw [if_neg (by omega),if_neg (by omega),if_neg (by omega)]
 have hw:(cj (iA ⟨0,[]⟩ ⟨0,k,0,s⟩)).err=0:=by
  unfold cj iU
  rw [if_neg (by simp [iA]),if_neg (by simp [iA])]
  show (scan (jL (iA ⟨0,[]⟩ ⟨0,k,0,s⟩)) 0 1).1=0
  simp [scan,h0]
 unfold fF
 rw [if_neg (by decide),if_neg (fun h=>h hw)]
 rfl
theorem zd {a:bB} {m s:Int} (hw:bE a=0) (hm:1<=m/\m<=4) (hs:1<=s/\s<=1000000):bZ a m s=if (dh a m s).2≠0 then (iC,(dh a m s).2) else dh a m s:=by
 unfold bZ
 rw [if_neg (fun h=>h hw),if_neg (by omega),if_neg (by omega),if_neg (by omega),if_neg (by omega),if_neg (by omega),if_neg (by omega)]
theorem AP {a:bB} {m s:Int} (hw:bE a=0) (hm:m=2\/m=3) (hs:1<=s/\s<=1000000) (h:a.shut=false) (hc:s<=a.sum - a.captured):
  bZ a m s=(⟨a.aK,a.ay,a.sum,a.captured+s,a.bw,a.bg,a.cO,decide (m=3)||decide (a.captured+s=a.sum)⟩,0):=by
 have:dh a m s=(⟨a.aK,a.ay,a.sum,a.captured+s,a.bw,a.bg,a.cO,decide (m=3)||decide (a.captured+s=a.sum)⟩,0):=by
  unfold dh;rw [if_neg (by rw [h];decide),if_neg (by omega),if_neg (by omega),if_neg (by omega)]
 rw [zd hw (by omega) hs,this,if_neg (by simp)]
theorem Ad {b:Bk} (h:b.w0=[]) (y:List (List Int)):dc b y ⟨0,6,0,0,0,0⟩=(b,y,⟨6,0⟩):=by
 have hL:bP b ⟨0,6,0,0,0,0⟩=(b,⟨6,0⟩):=by
  unfold bP
  rw [if_pos rfl]
  unfold eV
  rw [h]
  rfl
 unfold dc;rw [if_neg (by dsimp only;omega),if_neg (by dsimp only;omega),if_neg (by dsimp only;omega),if_neg (by dsimp only;omega),if_neg (by dsimp only;omega),if_pos (Or.inl rfl),hL]

theorem vI {b:Bk} {w:List bU} {t:aV} {n:Int} {s:bS} (h:b.w0=⟨t,n⟩::w) (hn:0<=n) (hb:dK b.s0 n=(s,0)) (y:List (List Int)):dc b y ⟨0,6,0,0,0,0⟩=({b with w0:=w,s0:=s},y,⟨0,0⟩):=by
 have hL:bP b ⟨0,6,0,0,0,0⟩=({b with w0:=w,s0:=s},⟨0,0⟩):=by
  unfold bP
  rw [if_pos rfl]
  unfold eV
  rw [h]
  dsimp only [List.getElem?_cons_zero]
  rw [if_neg (by omega),if_pos hn,hb,if_pos rfl]
  rfl
 unfold dc;rw [if_neg (by dsimp only;omega),if_neg (by dsimp only;omega),if_neg (by dsimp only;omega),if_neg (by dsimp only;omega),if_neg (by dsimp only;omega),if_pos (Or.inl rfl),hL]

theorem BQ {b:Bk} {w:List bU} {t:aV} (h:b.w0=⟨t,-1⟩::w) (hn:t.number≠b.n0+1) (y:List (List Int)):dc b y ⟨0,6,0,0,0,0⟩=({b with w0:=w},y,⟨0,0⟩):=by
 have hT:fo b.n0 t=(b.n0,false):=by unfold fo;rw [if_pos (by omega)]
 have hL:bP b ⟨0,6,0,0,0,0⟩=({b with w0:=w},⟨0,0⟩):=by
  unfold bP
  rw [if_pos rfl]
  unfold eV
  rw [h]
  dsimp only [List.getElem?_cons_zero]
  rw [if_neg (by omega),if_neg (by omega),hT,if_neg (by simp)]
  rfl
 unfold dc;rw [if_neg (by dsimp only;omega),if_neg (by dsimp only;omega),if_neg (by dsimp only;omega),if_neg (by dsimp only;omega),if_neg (by dsimp only;omega),if_pos (Or.inl rfl),hL]

theorem Ac {b:Bk} {w:List bU} {t:aV} {due:List Int} {cs:List bx} {bk:List Entry} (h:b.w0=⟨t,-1⟩::w) (hn:t.number=b.n0+1) (h0:0<=b.n0/\b.n0 < 1000000) (hk:dW b.aq b.due b.an b.book 0 t=(due,cs,bk,0)) (y:List (List Int)):dc b y ⟨0,6,0,0,0,0⟩=({b with w0:=w,n0:=b.n0+1,due:=due,an:=cs,book:=bk},y,⟨0,0⟩):=by
 have hT:fo b.n0 t=(b.n0+1,true):=by unfold fo;rw [if_neg (by omega)]
 have hL:bP b ⟨0,6,0,0,0,0⟩=({b with w0:=w,n0:=b.n0+1,due:=due,an:=cs,book:=bk},⟨0,0⟩):=by
  unfold bP
  rw [if_pos rfl]
  unfold eV
  rw [h]
  dsimp only [List.getElem?_cons_zero]
  rw [if_neg (by omega),if_neg (by omega),hT,if_pos rfl,hk]
  rfl
 unfold dc;rw [if_neg (by dsimp only;omega),if_neg (by dsimp only;omega),if_neg (by dsimp only;omega),if_neg (by dsimp only;omega),if_neg (by dsimp only;omega),if_pos (Or.inl rfl),hL]

theorem Av {b:Bk} (h:(gr b.w1 b.s0.kept b.n0).length<=60) (y:List (List Int)):dc b y ⟨0,5,0,0,0,0⟩=({b with w1:=gr b.w1 b.s0.kept b.n0},y,⟨0,0⟩):=by
 have hQ:gX b.w1 b.s0.kept b.n0=(gr b.w1 b.s0.kept b.n0,⟨0,0⟩):=by unfold gX;rw [if_neg (by omega)]
 have hL:eu b.s0 b.s1 b.n0 b.n1 b.w0 b.w1 ⟨0,5,0,0,0,0⟩=(b.w0,gr b.w1 b.s0.kept b.n0,⟨0,0⟩):=by
  unfold eu
  rw [if_pos rfl,hQ]
 unfold dc;rw [if_neg (by dsimp only;omega),if_neg (by dsimp only;omega),if_neg (by dsimp only;omega),if_neg (by dsimp only;omega),if_pos rfl,hL]

theorem Ab {b:Bk} (h:b.w1=[]) (y:List (List Int)):dc b y ⟨0,6,1,0,0,0⟩=(b,y,⟨6,0⟩):=by
 have hL:bP b ⟨0,6,1,0,0,0⟩=(b,⟨6,0⟩):=by
  unfold bP
  rw [if_neg (by decide),if_pos rfl]
  unfold eU
  rw [h]
  rfl
 unfold dc;rw [if_neg (by dsimp only;omega),if_neg (by dsimp only;omega),if_neg (by dsimp only;omega),if_neg (by dsimp only;omega),if_neg (by dsimp only;omega),if_pos (Or.inl rfl),hL]

theorem vH {b:Bk} {w:List bU} {t:aV} {n:Int} {s:bS} (h:b.w1=⟨t,n⟩::w) (hn:0<=n) (hb:dK b.s1 n=(s,0)) (y:List (List Int)):dc b y ⟨0,6,1,0,0,0⟩=({b with w1:=w,s1:=s},y,⟨0,0⟩):=by
 have hL:bP b ⟨0,6,1,0,0,0⟩=({b with w1:=w,s1:=s},⟨0,0⟩):=by
  unfold bP
  rw [if_neg (by decide),if_pos rfl]
  unfold eU
  rw [h]
  dsimp only [List.getElem?_cons_zero]
  rw [if_neg (by omega),if_pos hn,hb,if_pos rfl]
  rfl
 unfold dc;rw [if_neg (by dsimp only;omega),if_neg (by dsimp only;omega),if_neg (by dsimp only;omega),if_neg (by dsimp only;omega),if_neg (by dsimp only;omega),if_pos (Or.inl rfl),hL]

theorem BP {b:Bk} {w:List bU} {t:aV} (h:b.w1=⟨t,-1⟩::w) (hn:t.number≠b.n1+1) (y:List (List Int)):dc b y ⟨0,6,1,0,0,0⟩=({b with w1:=w},y,⟨0,0⟩):=by
 have hT:fo b.n1 t=(b.n1,false):=by unfold fo;rw [if_pos (by omega)]
 have hL:bP b ⟨0,6,1,0,0,0⟩=({b with w1:=w},⟨0,0⟩):=by
  unfold bP
  rw [if_neg (by decide),if_pos rfl]
  unfold eU
  rw [h]
  dsimp only [List.getElem?_cons_zero]
  rw [if_neg (by omega),if_neg (by omega),hT,if_neg (by simp)]
  rfl
 unfold dc;rw [if_neg (by dsimp only;omega),if_neg (by dsimp only;omega),if_neg (by dsimp only;omega),if_neg (by dsimp only;omega),if_neg (by dsimp only;omega),if_pos (Or.inl rfl),hL]

theorem Aa {b:Bk} {w:List bU} {t:aV} {due:List Int} {cs:List bx} {bk:List Entry} (h:b.w1=⟨t,-1⟩::w) (hn:t.number=b.n1+1) (h0:0<=b.n1/\b.n1 < 1000000) (hk:dW b.aq b.due b.an b.book 0 t=(due,cs,bk,0)) (y:List (List Int)):dc b y ⟨0,6,1,0,0,0⟩=({b with w1:=w,n1:=b.n1+1,due:=due,an:=cs,book:=bk},y,⟨0,0⟩):=by
 have hT:fo b.n1 t=(b.n1+1,true):=by unfold fo;rw [if_neg (by omega)]
 have hL:bP b ⟨0,6,1,0,0,0⟩=({b with w1:=w,n1:=b.n1+1,due:=due,an:=cs,book:=bk},⟨0,0⟩):=by
  unfold bP
  rw [if_neg (by decide),if_pos rfl]
  unfold eU
  rw [h]
  dsimp only [List.getElem?_cons_zero]
  rw [if_neg (by omega),if_neg (by omega),hT,if_pos rfl,hk]
  rfl
 unfold dc;rw [if_neg (by dsimp only;omega),if_neg (by dsimp only;omega),if_neg (by dsimp only;omega),if_neg (by dsimp only;omega),if_neg (by dsimp only;omega),if_pos (Or.inl rfl),hL]

theorem Au {b:Bk} (h:(gr b.w0 b.s1.kept b.n1).length<=60) (y:List (List Int)):dc b y ⟨0,5,1,0,0,0⟩=({b with w0:=gr b.w0 b.s1.kept b.n1},y,⟨0,0⟩):=by
 have hQ:gX b.w0 b.s1.kept b.n1=(gr b.w0 b.s1.kept b.n1,⟨0,0⟩):=by unfold gX;rw [if_neg (by omega)]
 have hL:eu b.s0 b.s1 b.n0 b.n1 b.w0 b.w1 ⟨0,5,1,0,0,0⟩=(gr b.w0 b.s1.kept b.n1,b.w1,⟨0,0⟩):=by
  unfold eu
  rw [if_neg (by decide),if_pos rfl,hQ]
 unfold dc;rw [if_neg (by dsimp only;omega),if_neg (by dsimp only;omega),if_neg (by dsimp only;omega),if_neg (by dsimp only;omega),if_pos rfl,hL]
def gP (t:aV):bU:=⟨t,-1⟩
def oL:List aV->Int->Prop
 |[],_=>True
 |t::l,n=>t.number=n+1/\oL l (n+1)
theorem jq (n:Int) (k:Nat):dj n (k+1)=⟨0,6,n,0,0,0⟩::dj n k:=rfl
inductive kT (aq:List bB):List aV->List Int->List bx->List Entry->List Int->List bx->List Entry->Prop
 |nil {d c k}:kT aq [] d c k d c k
 |cons {t l d c k d1 c1 k1 d2 c2 k2}:dW aq d c k 0 t=(d1,c1,k1,0)->kT aq l d1 c1 k1 d2 c2 k2->kT aq (t::l) d c k d2 c2 k2
theorem nv:∀ (k:Nat) {rest:List aR} {b:Bk} {y:List (List Int)} {out:List Answer},b.w0=[]->fk (dj 0 k++rest) b y out=fk rest b y (out++List.replicate k ⟨6,0⟩)
 |0,rest,b,y,out,_=>by simp [dj]
 |k+1,rest,b,y,out,h=>by
  rw [jq,List.cons_append,ea (Ad h y),nv k h,List.replicate_succ,List.append_assoc];rfl
theorem tx:∀ {l:List aV} {w:List bU} {rest:List aR} {b:Bk} {y:List (List Int)} {out:List Answer},b.w0=l.map gP++w->(∀ t∈l,t.number≠b.n0+1)->fk (dj 0 l.length++rest) b y out=fk rest {b with w0:=w} y (out++List.replicate l.length ⟨0,0⟩)
 |[],w,rest,b,y,out,h,_=>by
  have:b.w0=w:=h
  subst this;simp [dj]
 |t::l,w,rest,b,y,out,h,hn=>by
  have ih:=tx (l:=l) (w:=w) (rest:=rest) (b:={b with w0:=l.map gP++w}) (y:=y) (out:=out++[⟨0,0⟩]) rfl (fun x hx=>hn x (by simp [hx]))
  rw [List.length_cons,jq,List.cons_append,ea (BQ (w:=l.map gP++w) (t:=t) h (hn t (by simp)) y)]
  refine ih.trans ?_
  rw [List.replicate_succ,List.append_assoc];rfl
theorem rA:∀ {l:List aV} {w:List bU} {rest:List aR} {b:Bk} {due:List Int} {cs:List bx} {bk:List Entry} {y:List (List Int)} {out:List Answer},b.w0=l.map gP++w->oL l b.n0->0<=b.n0->b.n0+l.length<=1000000->kT b.aq l b.due b.an b.book due cs bk->
  fk (dj 0 l.length++rest) b y out=fk rest {b with w0:=w,n0:=b.n0+l.length,due:=due,an:=cs,book:=bk} y (out++List.replicate l.length ⟨0,0⟩)
 |[],w,rest,b,due,cs,bk,y,out,h,_,_,_,hT=>by
  cases hT
  have:b.w0=w:=h
  subst this;simp [dj]
 |t::l,w,rest,b,due,cs,bk,y,out,h,hN,h0,hl,hT=>by
  cases hT with
  |@cons _ _ _ _ _ d1 c1 k1 _ _ _ hk hT=>
  rw [List.length_cons] at hl
  have ih:=rA (l:=l) (w:=w) (rest:=rest) (b:={b with w0:=l.map gP++w,n0:=b.n0+1,due:=d1,an:=c1,book:=k1}) (y:=y) (out:=out++[⟨0,0⟩]) rfl hN.2 (by dsimp only;omega) (by dsimp only;omega) hT
  rw [List.length_cons,jq,List.cons_append,ea (Ac (w:=l.map gP++w) (t:=t) h hN.1 ⟨h0,by omega⟩ hk y)]
  refine ih.trans ?_
  rw [List.replicate_succ,List.append_assoc]
  rw [show (b.n0+1+(l.length:Int))=b.n0+((l.length+1:Nat):Int) by omega]
  rfl
theorem nu:∀ (k:Nat) {rest:List aR} {b:Bk} {y:List (List Int)} {out:List Answer},b.w1=[]->fk (dj 1 k++rest) b y out=fk rest b y (out++List.replicate k ⟨6,0⟩)
 |0,rest,b,y,out,_=>by simp [dj]
 |k+1,rest,b,y,out,h=>by
  rw [jq,List.cons_append,ea (Ab h y),nu k h,List.replicate_succ,List.append_assoc];rfl
theorem tw:∀ {l:List aV} {w:List bU} {rest:List aR} {b:Bk} {y:List (List Int)} {out:List Answer},b.w1=l.map gP++w->(∀ t∈l,t.number≠b.n1+1)->fk (dj 1 l.length++rest) b y out=fk rest {b with w1:=w} y (out++List.replicate l.length ⟨0,0⟩)
 |[],w,rest,b,y,out,h,_=>by
  have:b.w1=w:=h
  subst this;simp [dj]
 |t::l,w,rest,b,y,out,h,hn=>by
  have ih:=tw (l:=l) (w:=w) (rest:=rest) (b:={b with w1:=l.map gP++w}) (y:=y) (out:=out++[⟨0,0⟩]) rfl (fun x hx=>hn x (by simp [hx]))
  rw [List.length_cons,jq,List.cons_append,ea (BP (w:=l.map gP++w) (t:=t) h (hn t (by simp)) y)]
  refine ih.trans ?_
  rw [List.replicate_succ,List.append_assoc];rfl
theorem rz:∀ {l:List aV} {w:List bU} {rest:List aR} {b:Bk} {due:List Int} {cs:List bx} {bk:List Entry} {y:List (List Int)} {out:List Answer},b.w1=l.map gP++w->oL l b.n1->0<=b.n1->b.n1+l.length<=1000000->kT b.aq l b.due b.an b.book due cs bk->
  fk (dj 1 l.length++rest) b y out=fk rest {b with w1:=w,n1:=b.n1+l.length,due:=due,an:=cs,book:=bk} y (out++List.replicate l.length ⟨0,0⟩)
 |[],w,rest,b,due,cs,bk,y,out,h,_,_,_,hT=>by
  cases hT
  have:b.w1=w:=h
  subst this;simp [dj]
 |t::l,w,rest,b,due,cs,bk,y,out,h,hN,h0,hl,hT=>by
  cases hT with
  |@cons _ _ _ _ _ d1 c1 k1 _ _ _ hk hT=>
  rw [List.length_cons] at hl
  have ih:=rz (l:=l) (w:=w) (rest:=rest) (b:={b with w1:=l.map gP++w,n1:=b.n1+1,due:=d1,an:=c1,book:=k1}) (y:=y) (out:=out++[⟨0,0⟩]) rfl hN.2 (by dsimp only;omega) (by dsimp only;omega) hT
  rw [List.length_cons,jq,List.cons_append,ea (Aa (w:=l.map gP++w) (t:=t) h hN.1 ⟨h0,by omega⟩ hk y)]
  refine ih.trans ?_
  rw [List.replicate_succ,List.append_assoc]
  rw [show (b.n1+1+(l.length:Int))=b.n1+((l.length+1:Nat):Int) by omega]
  rfl
theorem gw (n:Int) (a b:Nat):dj n (a+b)=dj n a++dj n b:=by
 unfold dj;rw [List.replicate_append_replicate]
theorem mv:∀ {l:List aV} {n:Int},oL l n->∀ t∈l,n < t.number/\t.number<=n+l.length
 |[],_,_,t,h=>by cases h
 |x::l,n,h,t,ht=>by
  rw [List.length_cons]
  rcases List.mem_cons.1 ht with rfl|ht
  ·have:=h.1;omega
  ·have:=mv h.2 t ht;omega
theorem uP {l:List aV} {n:Int} (h:∀ t∈l,n < t.number):dq (came n) l=l:=by
 unfold dq
 exact List.filter_eq_self.2 fun t ht=>by have:=h t ht;simp [came];omega
theorem sU {l:List aV} {n:Int} (h:∀ t∈l,t.number<=n):dq (came n) l=[]:=by
 unfold dq
 exact List.filter_eq_nil_iff.2 fun t ht=>by have:=h t ht;simp [came];omega
theorem pb {s:bS} {n:Int} (h:(cj s).err=0) (h0:0<=n) (h1:n<=s.bG):dK s n=(⟨s.bG,dq (came n) s.kept⟩,0):=by
 unfold dK;rw [if_neg (fun x=>x h),if_neg (by omega)]
def gh (c:Nat):List aR:=[⟨0,5,0,0,0,0⟩,⟨0,5,1,0,0,0⟩]++dj 0 c++dj 1 c
theorem uF (l:List aV) (n:Int):gr [] l n=l.map gP++[⟨⟨0,0,0,0⟩,n⟩]:=rfl
theorem uu {b:Bk} (hw:b.w1=[]) (h:b.s0.kept.length<=40) (y:List (List Int)):dc b y ⟨0,5,0,0,0,0⟩=({b with w1:=b.s0.kept.map gP++[⟨⟨0,0,0,0⟩,b.n0⟩]},y,⟨0,0⟩):=by
 have:=Av (b:=b) (by rw [hw,uF];simp;omega) y
 rw [this,hw];rfl
theorem ur {b:Bk} (hw:b.w0=[]) (h:b.s1.kept.length<=40) (y:List (List Int)):dc b y ⟨0,5,1,0,0,0⟩=({b with w0:=b.s1.kept.map gP++[⟨⟨0,0,0,0⟩,b.n1⟩]},y,⟨0,0⟩):=by
 have:=Au (b:=b) (by rw [hw,uF];simp;omega) y
 rw [this,hw];rfl
theorem vT {b:Bk} {c:Nat} {rest:List aR} {y:List (List Int)} {out:List Answer} {d1 d2:List Int} {c1 c2:List bx} {k1 k2:List Entry} (hw0:b.w0=[]) (hw1:b.w1=[]) (hc0:b.s0.kept.length+1<=c) (hc1:b.s1.kept.length+1<=c) (h40:c<=40) (hn0:0<=b.n0) (hn1:0<=b.n1) (hS0:(cj b.s0).err=0) (hS1:(cj b.s1).err=0) (hN0:oL b.s0.kept b.n1) (hN1:oL b.s1.kept b.n0) (ht1:kT b.aq b.s1.kept b.due b.an b.book d1 c1 k1) (ht0:kT b.aq b.s0.kept d1 c1 k1 d2 c2 k2) (hm0:b.n1+b.s0.kept.length<=b.s0.bG) (hm1:b.n0+b.s1.kept.length<=b.s1.bG) (hx0:b.s0.bG<=1000000) (hx1:b.s1.bG<=1000000):
  ∃ o,fk (gh c++rest) b y out=fk rest {b with n0:=b.n0+b.s1.kept.length,n1:=b.n1+b.s0.kept.length,due:=d2,an:=c2,book:=k2} y (out++o)/\o.length=2+2 * c:=by
 obtain ⟨q0,hq0⟩:∃ q,c=b.s0.kept.length+(1+q):=⟨c - (b.s0.kept.length+1),by omega⟩
 obtain ⟨q1,hq1⟩:∃ q,c=b.s1.kept.length+(1+q):=⟨c - (b.s1.kept.length+1),by omega⟩
 have hsplit:gh c++rest=⟨0,5,0,0,0,0⟩::⟨0,5,1,0,0,0⟩::(dj 0 b.s1.kept.length++(dj 0 1++(dj 0 q1++(dj 1 b.s0.kept.length++(dj 1 1++(dj 1 q0++rest)))))):=by
  have e0:dj 0 c=dj 0 b.s1.kept.length++(dj 0 1++dj 0 q1):=by rw [hq1,gw,gw]
  have e1:dj 1 c=dj 1 b.s0.kept.length++(dj 1 1++dj 1 q0):=by rw [hq0,gw,gw]
  unfold gh
  rw [e0,e1];simp only [List.append_assoc,List.cons_append,List.nil_append]
 have s0:=uu hw1 (by omega) y
 have s1:=ur (b:={b with w1:=b.s0.kept.map gP++[⟨⟨0,0,0,0⟩,b.n0⟩]}) hw0 (by dsimp only;omega) y
 have t0:=fun (rest:List aR) out=>rA (l:=b.s1.kept) (w:=[⟨⟨0,0,0,0⟩,b.n1⟩]) (rest:=rest) (b:={b with w0:=b.s1.kept.map gP++[⟨⟨0,0,0,0⟩,b.n1⟩],w1:=b.s0.kept.map gP++[⟨⟨0,0,0,0⟩,b.n0⟩]}) (y:=y) (out:=out) rfl hN1 hn0 (by dsimp only;omega) ht1
 have a0:=vI (b:={b with w0:=[⟨⟨0,0,0,0⟩,b.n1⟩],w1:=b.s0.kept.map gP++[⟨⟨0,0,0,0⟩,b.n0⟩],n0:=b.n0+b.s1.kept.length,due:=d1,an:=c1,book:=k1}) (w:=[]) (t:=⟨0,0,0,0⟩) (n:=b.n1) rfl hn1 (pb hS0 hn1 (by dsimp only;omega)) y
 have u0:=fun (rest:List aR) out=>nv q1 (rest:=rest) (b:={b with w0:=[],w1:=b.s0.kept.map gP++[⟨⟨0,0,0,0⟩,b.n0⟩],n0:=b.n0+b.s1.kept.length,due:=d1,an:=c1,book:=k1}) (y:=y) (out:=out) rfl
 have t1:=fun (rest:List aR) out=>rz (l:=b.s0.kept) (w:=[⟨⟨0,0,0,0⟩,b.n0⟩]) (rest:=rest) (b:={b with w0:=[],w1:=b.s0.kept.map gP++[⟨⟨0,0,0,0⟩,b.n0⟩],n0:=b.n0+b.s1.kept.length,due:=d1,an:=c1,book:=k1}) (y:=y) (out:=out) rfl hN0 hn1 (by dsimp only;omega) ht0
 have a1:=vH (b:={b with w0:=[],w1:=[⟨⟨0,0,0,0⟩,b.n0⟩],n0:=b.n0+b.s1.kept.length,n1:=b.n1+b.s0.kept.length,due:=d2,an:=c2,book:=k2}) (w:=[]) (t:=⟨0,0,0,0⟩) (n:=b.n0) rfl hn0 (pb hS1 hn0 (by dsimp only;omega)) y
 have u1:=fun (rest:List aR) out=>nu q0 (rest:=rest) (b:={b with w0:=[],w1:=[],n0:=b.n0+b.s1.kept.length,n1:=b.n1+b.s0.kept.length,due:=d2,an:=c2,book:=k2}) (y:=y) (out:=out) rfl
 rw [uP fun t ht=>(mv hN0 t ht).1] at a0
 rw [uP fun t ht=>(mv hN1 t ht).1] at a1
 rw [hsplit,ea s0,ea s1]
 refine ⟨[⟨0,0⟩]++[⟨0,0⟩]++List.replicate b.s1.kept.length ⟨0,0⟩++[⟨0,0⟩]++List.replicate q1 ⟨6,0⟩++List.replicate b.s0.kept.length ⟨0,0⟩++[⟨0,0⟩]++List.replicate q0 ⟨6,0⟩,?_,by simp;omega⟩
 refine (t0 _ _).trans ((ea a0).trans ((u0 _ _).trans ((t1 _ _).trans ((ea a1).trans ((u1 _ _).trans ?_)))))
 simp only [List.append_assoc]
 congr 1
 cases b;simp_all
theorem vU {b:Bk} {c:Nat} {rest:List aR} {y:List (List Int)} {out:List Answer} (hw0:b.w0=[]) (hw1:b.w1=[]) (hc0:b.s0.kept.length+1<=c) (hc1:b.s1.kept.length+1<=c) (h40:c<=40) (hn0:0<=b.n0) (hn1:0<=b.n1) (hS0:(cj b.s0).err=0) (hS1:(cj b.s1).err=0) (hN0:∀ t∈b.s0.kept,t.number<=b.n1) (hN1:∀ t∈b.s1.kept,t.number<=b.n0) (hm0:b.n1<=b.s0.bG) (hm1:b.n0<=b.s1.bG):
  ∃ o,fk (gh c++rest) b y out=fk rest {b with s0:=⟨b.s0.bG,[]⟩,s1:=⟨b.s1.bG,[]⟩} y (out++o)/\o.length=2+2 * c:=by
 obtain ⟨q0,hq0⟩:∃ q,c=b.s0.kept.length+(1+q):=⟨c - (b.s0.kept.length+1),by omega⟩
 obtain ⟨q1,hq1⟩:∃ q,c=b.s1.kept.length+(1+q):=⟨c - (b.s1.kept.length+1),by omega⟩
 have hsplit:gh c++rest=⟨0,5,0,0,0,0⟩::⟨0,5,1,0,0,0⟩::(dj 0 b.s1.kept.length++(dj 0 1++(dj 0 q1++(dj 1 b.s0.kept.length++(dj 1 1++(dj 1 q0++rest)))))):=by
  have e0:dj 0 c=dj 0 b.s1.kept.length++(dj 0 1++dj 0 q1):=by rw [hq1,gw,gw]
  have e1:dj 1 c=dj 1 b.s0.kept.length++(dj 1 1++dj 1 q0):=by rw [hq0,gw,gw]
  unfold gh
  rw [e0,e1];simp only [List.append_assoc,List.cons_append,List.nil_append]
 have s0:=uu hw1 (by omega) y
 have s1:=ur (b:={b with w1:=b.s0.kept.map gP++[⟨⟨0,0,0,0⟩,b.n0⟩]}) hw0 (by dsimp only;omega) y
 have t0:=fun (rest:List aR) out=>tx (l:=b.s1.kept) (w:=[⟨⟨0,0,0,0⟩,b.n1⟩]) (rest:=rest) (b:={b with w0:=b.s1.kept.map gP++[⟨⟨0,0,0,0⟩,b.n1⟩],w1:=b.s0.kept.map gP++[⟨⟨0,0,0,0⟩,b.n0⟩]}) (y:=y) (out:=out) rfl (fun t ht=>by have:=hN1 t ht;dsimp only;omega)
 have a0:=vI (b:={b with w0:=[⟨⟨0,0,0,0⟩,b.n1⟩],w1:=b.s0.kept.map gP++[⟨⟨0,0,0,0⟩,b.n0⟩]}) (w:=[]) (t:=⟨0,0,0,0⟩) (n:=b.n1) rfl hn1 (pb hS0 hn1 (by dsimp only;omega)) y
 have u0:=fun (rest:List aR) out=>nv q1 (rest:=rest) (b:={b with w0:=[],w1:=b.s0.kept.map gP++[⟨⟨0,0,0,0⟩,b.n0⟩],s0:=⟨b.s0.bG,[]⟩}) (y:=y) (out:=out) rfl
 have t1:=fun (rest:List aR) out=>tw (l:=b.s0.kept) (w:=[⟨⟨0,0,0,0⟩,b.n0⟩]) (rest:=rest) (b:={b with w0:=[],w1:=b.s0.kept.map gP++[⟨⟨0,0,0,0⟩,b.n0⟩],s0:=⟨b.s0.bG,[]⟩}) (y:=y) (out:=out) rfl (fun t ht=>by have:=hN0 t ht;dsimp only;omega)
 have a1:=vH (b:={b with w0:=[],w1:=[⟨⟨0,0,0,0⟩,b.n0⟩],s0:=⟨b.s0.bG,[]⟩}) (w:=[]) (t:=⟨0,0,0,0⟩) (n:=b.n0) rfl hn0 (pb hS1 hn0 (by dsimp only;omega)) y
 have u1:=fun (rest:List aR) out=>nu q0 (rest:=rest) (b:={b with w0:=[],w1:=[],s0:=⟨b.s0.bG,[]⟩,s1:=⟨b.s1.bG,[]⟩}) (y:=y) (out:=out) rfl
 rw [sU hN0] at a0
 rw [sU hN1] at a1
 rw [hsplit,ea s0,ea s1]
 refine ⟨[⟨0,0⟩]++[⟨0,0⟩]++List.replicate b.s1.kept.length ⟨0,0⟩++[⟨0,0⟩]++List.replicate q1 ⟨6,0⟩++List.replicate b.s0.kept.length ⟨0,0⟩++[⟨0,0⟩]++List.replicate q0 ⟨6,0⟩,?_,by simp;omega⟩
 refine (t0 _ _).trans ((ea a0).trans ((u0 _ _).trans ((t1 _ _).trans ((ea a1).trans ((u1 _ _).trans ?_)))))
 simp only [List.append_assoc]
 congr 1
 cases b;simp_all
theorem Bx {b:Bk} {c:Nat} {rest:List aR} {y:List (List Int)} {out:List Answer} {d1 d2:List Int} {c1 c2:List bx} {k1 k2:List Entry} (hw0:b.w0=[]) (hw1:b.w1=[]) (hc0:b.s0.kept.length+1<=c) (hc1:b.s1.kept.length+1<=c) (h40:c<=40) (hn0:0<=b.n0) (hn1:0<=b.n1) (hS0:(cj b.s0).err=0) (hS1:(cj b.s1).err=0)
  (hN0:oL b.s0.kept b.n1) (hN1:oL b.s1.kept b.n0) (ht1:kT b.aq b.s1.kept b.due b.an b.book d1 c1 k1) (ht0:kT b.aq b.s0.kept d1 c1 k1 d2 c2 k2) (hm0:b.n1+b.s0.kept.length<=b.s0.bG) (hm1:b.n0+b.s1.kept.length<=b.s1.bG) (hx0:b.s0.bG<=1000000) (hx1:b.s1.bG<=1000000):
  ∃ o,fk (gh c++(gh c++rest)) b y out=fk rest {b with s0:=⟨b.s0.bG,[]⟩,s1:=⟨b.s1.bG,[]⟩,n0:=b.n0+b.s1.kept.length,n1:=b.n1+b.s0.kept.length,due:=d2,an:=c2,book:=k2} y (out++o)/\o.length=4+4 * c:=by
 obtain ⟨o1,e1,l1⟩:=vT (rest:=gh c++rest) (y:=y) (out:=out) hw0 hw1 hc0 hc1 h40 hn0 hn1 hS0 hS1 hN0 hN1 ht1 ht0 hm0 hm1 hx0 hx1
 obtain ⟨o2,e2,l2⟩:=vU (b:={b with n0:=b.n0+b.s1.kept.length,n1:=b.n1+b.s0.kept.length,due:=d2,an:=c2,book:=k2}) (rest:=rest) (y:=y) (out:=out++o1) hw0 hw1 hc0 hc1 h40 (by dsimp only;omega) (by dsimp only;omega) hS0 hS1
  (fun t ht=>(mv hN0 t ht).2) (fun t ht=>(mv hN1 t ht).2) hm0 hm1
 exact ⟨o1++o2,by rw [e1,e2,List.append_assoc],by simp;omega⟩
theorem zJ:np 2=gh 5++gh 5:=rfl
theorem BA (l rest:List aR):eR l++rest=l++(gh 5++(gh 5++rest)):=by
 unfold eR;rw [zJ,List.append_assoc,List.append_assoc]
theorem xr {m h t n:Int} (h1:-1000000000000<=m/\m<=1000000000000) (h2:0<=h/\h<=1000000000000) (ht:0<=t/\t<=1000000) (hn:0<=n/\n<=1000000):cu ⟨m,h,PT,[⟨t,n⟩]⟩=0:=by
 unfold cu;rw [if_neg (by dsimp only;omega),if_neg (show ¬fc PT≠0 by decide)]
 have h0:iS [⟨t,n⟩] 0=0:=by
  unfold iS
  dsimp only [List.getElem?_cons_zero]
  rw [if_neg (by omega),if_neg (by omega)]
 unfold eZ cD
 rw [if_neg (by simp)]
 simp [scan,h0]
theorem CO {b:Bk} {n v:Int} (hn:0<=n/\n<=7) (hv:b.due[n.toNat]?=some v) (h1:1<=v) (h2:v<=1000000000000) (hb:(dC b.book).err=0) (h3:-1000000000000<=cA b.book (50+n) - v) (h4:cA b.book 0+v<=1000000000000):
  ∃ r,(∀ y,dc b y ⟨0,11,n,0,0,0⟩=({b with due:=b.due.set n.toNat 0,book:=r},y,⟨0,0⟩))/\(dC r).err=0/\∀ x,cA r x=cA b.book x+(if x=0 then v else 0) - (if x=50+n then v else 0):=by
 have hlt:=(List.getElem?_eq_some_iff.1 hv).1
 have hD:b.due.getD n.toNat 0=v:=by rw [List.getD_eq_getElem?_getD,hv];rfl
 obtain ⟨r,hr,hrw,hrg⟩:=mY (l:=b.book) (src:=50+n) (dst:=0) (n:=v) hb (by omega) (by omega) (by omega) (by omega) h3 h4
 refine ⟨r,fun y=>?_,hrw,hrg⟩
 have hL:gm b ⟨0,11,n,0,0,0⟩=({b with due:=b.due.set n.toNat 0,book:=r},⟨0,0⟩):=by
  unfold gm
  dsimp only
  rw [if_neg (by omega),hD,if_neg (by omega),hr]
  rfl
 unfold dc
 rw [if_neg (by dsimp only;omega),if_neg (by dsimp only;omega),if_neg (by dsimp only;omega),if_neg (by dsimp only;omega),if_neg (by dsimp only;omega),if_neg (by dsimp only;omega),if_neg (by dsimp only;omega),if_neg (by dsimp only;omega),if_neg (by dsimp only;omega),if_pos rfl,hL]
theorem take_one {aq:List bB} {due:List Int} {cs:List bx} {bk:List Entry} {num k s v:Int} {a:bB} (ha:aq[k.toNat]?=some a) (hp:0<=a.ay/\a.ay<=7) (hd:due[a.ay.toNat]?=some v) (hv:-1000000000000<=v/\v<=1000000000000) (hs:1<=s/\s<=1000000) (hb:(dC bk).err=0)
  (h3:-1000000000000<=cA bk 1 - s) (h4:cA bk (50+a.ay)+s<=1000000000000):
  ∃ r,dW aq due cs bk 0 ⟨num,1,k,s⟩=(due.set a.ay.toNat (v+s),cs,r,0)/\(dC r).err=0/\∀ x,cA r x=cA bk x+(if x=50+a.ay then s else 0) - (if x=1 then s else 0):=by
 obtain ⟨r,hr,hrw,hrg⟩:=mY (l:=bk) (src:=1) (dst:=50+a.ay) (n:=s) hb (by omega) (by omega) (by omega) (by omega) h3 h4
 refine ⟨r,?_,hrw,hrg⟩
 have hD:due.getD a.ay.toNat 0=v:=by rw [List.getD_eq_getElem?_getD,hd];rfl
 unfold dW
 dsimp only
 rw [ha]
 dsimp only
 rw [if_pos rfl,hr,hD,IntWalk.i64_in _ (by omega)]
theorem vQ {k s:Int} (hk:1<=k/\k<=3) (hs:1<=s/\s<=1000000):(cj ⟨1,[⟨1,k,0,s⟩]⟩).err=0:=by
 have h:=sJ hk hs
 have:=qM (s:=⟨0,[]⟩) (t:=⟨0,k,0,s⟩) (by rw [h])
 exact this.2.1
theorem Dm {a b c:Int} {r:Bool} (h:decide (∀ n∈[a,b,c],1<=n/\n<=100000)=r) (hr:r=true):(1<=a/\a<=100000)/\(1<=b/\b<=100000)/\1<=c/\c<=100000:=by
 rw [hr] at h
 have h':=of_decide_eq_true h
 exact ⟨h' a (by simp),h' b (by simp),h' c (by simp)⟩
theorem Bz {l:List aR} (h:∀ d∈l,d.id=0):∀ d∈eR l,d.id=0:=fun d hd=>by
 rcases List.mem_append.1 hd with hd|hd
 ·exact h d hd
 ·have:∀ d∈np 2,d.id=0:=by decide
  exact this d hd
theorem vp (l:List aR):(eR l).length=l.length+24:=by unfold eR;rw [List.length_append];rfl
theorem Db {has asked paid:Int} (h1:1<=paid) (h2:paid<=asked) (h3:asked<=has) (h4:has<=100000) {b:Bk} {y:List (List Int)} {o:List Answer} {f:cV}
  (hr:hG ⟨[⟨1000,30,1000000000000⟩,⟨1000,30,1000000000000⟩],2,0⟩ (eR [⟨0,1,1,0,0,has⟩,⟨0,2,1,1,0,asked⟩,⟨0,3,0,0,3,paid⟩]++[⟨0,11,1,0,0,0⟩])=(b,y,o,f)):
  f.err=0/\b.an.length=2/\b.due.length=2/\(dC b.book).err=0/\(∀ c,b.an[1]?=some c->c.bp=has - paid/\c.held=0)/\(∀ n,b.due[1]?=some n->n=0)/\cA b.book 0=paid - has/\cA b.book 1=0:=by
 rw [EX (by omega) (by omega) (by rw [List.length_append,vp];simp) (fun d hd=>(List.mem_append.1 hd).elim (Bz (by simp) d) (fun h=>by rw [List.mem_singleton.1 h])),BA] at hr
 obtain ⟨r1,d1,w1,g1⟩:=Bv (b:=iX 0) (n:=1) (s:=has) (c:=⟨0,0,PT,[]⟩) (by omega) (by omega) rfl (wy (by omega) (by omega)) (by dsimp only;omega) (by decide) (by simp [iX,cA];omega) (by simp [iX,cA];omega)
 have e1:∀ y,dc (iX 0) y ⟨0,1,1,0,0,has⟩=((⟨0,false,[⟨0,0,PT,[]⟩,⟨0+has,0,PT,[]⟩],[0,0],[],⟨0,[]⟩,⟨0,[]⟩,0,0,[],[],⟨0,[0,0],[]⟩,[],r1⟩:Bk),y,⟨0,0⟩):=d1
 have e2:∀ y,dc (⟨0,false,[⟨0,0,PT,[]⟩,⟨0+has,0,PT,[]⟩],[0,0],[],⟨0,[]⟩,⟨0,[]⟩,0,0,[],[],⟨0,[0,0],[]⟩,[],r1⟩:Bk) y ⟨0,2,1,1,0,asked⟩=((⟨0,false,[⟨0,0,PT,[]⟩,⟨0+has,0+asked,PT,[⟨0,asked⟩]⟩],[0,0],[⟨1,1,asked,0,0,0,0+100,false⟩],⟨0,[]⟩,⟨0,[]⟩,0,0,[],[],⟨0,[0,0],[]⟩,[],r1⟩:Bk),y,⟨0,0⟩):=fun y=>CQ (b:=(⟨0,false,[⟨0,0,PT,[]⟩,⟨0+has,0,PT,[]⟩],[0,0],[],⟨0,[]⟩,⟨0,[]⟩,0,0,[],[],⟨0,[0,0],[]⟩,[],r1⟩:Bk)) (n:=1) (p:=1) (s:=asked) rfl (by omega) (by simp) (by omega) (by omega) (by simp) (by simp) rfl
  (zG (wy (by omega) (by omega)) (by omega) (by simp) (by dsimp only;omega) rfl rfl) y
 have z1:∀ x,cA r1 x=(if x=11 then has else 0) - (if x=0 then has else 0):=fun x=>by rw [g1 x];simp [iX,cA]
 have hM:=AP (a:=⟨1,1,asked,0,0,0,0+100,false⟩) (m:=3) (s:=paid) (iv (by dsimp only;omega)) (by omega) (by omega) rfl (by dsimp only;omega)
 have hold2:bq ⟨1,1,asked,0,0,0,0+100,false⟩=asked:=by simp [bq]
 have hold3:bq ⟨1,1,asked,0+paid,0,0,0+100,decide ((3:Int)=3)||decide (0+paid=asked)⟩=0:=by simp [bq]
 obtain ⟨r2,d3,w2,g2⟩:=CP (b:=(⟨0,false,[⟨0,0,PT,[]⟩,⟨0+has,0+asked,PT,[⟨0,asked⟩]⟩],[0,0],[⟨1,1,asked,0,0,0,0+100,false⟩],⟨0,[]⟩,⟨0,[]⟩,0,0,[],[],⟨0,[0,0],[]⟩,[],r1⟩:Bk)) (n:=0) (m:=3) (s:=paid) (c:=⟨0+has,0+asked,PT,[⟨0,asked⟩]⟩)
   rfl (by omega) (by omega) (by omega) rfl hM (by dsimp only;omega) rfl (xr (by omega) (by omega) (by omega) (by omega)) (by dsimp only;omega) (by rw [hold3,hold2];dsimp only;omega) (by rw [hold3,hold2];omega) w1 (by dsimp only;rw [z1];simp;omega) (by dsimp only;rw [z1];simp;omega) (sJ (by omega) (by omega)) (by simp)
 rw [hold3,hold2] at d3
 have e3:∀ y,dc (⟨0,false,[⟨0,0,PT,[]⟩,⟨0+has,0+asked,PT,[⟨0,asked⟩]⟩],[0,0],[⟨1,1,asked,0,0,0,0+100,false⟩],⟨0,[]⟩,⟨0,[]⟩,0,0,[],[],⟨0,[0,0],[]⟩,[],r1⟩:Bk) y ⟨0,3,0,0,3,paid⟩=((⟨0,false,[⟨0,0,PT,[]⟩,⟨0+has - paid,0+asked+(0 - asked),PT,[⟨0,asked⟩]⟩],[0,0],[⟨1,1,asked,0+paid,0,0,0+100,decide ((3:Int)=3)||decide (0+paid=asked)⟩],⟨1,[⟨1,1,0,paid⟩]⟩,⟨0,[]⟩,0,0,[],[],⟨0,[0,0],[]⟩,[]++[⟨1,0,3,paid⟩],r2⟩:Bk),y,⟨0,0⟩):=d3
 have z2:∀ x,cA r2 x=cA r1 x+(if x=1 then paid else 0) - (if x=11 then paid else 0):=g2
 obtain ⟨r3,t3,w3,g3⟩:=take_one (aq:=[⟨1,1,asked,0+paid,0,0,0+100,decide ((3:Int)=3)||decide (0+paid=asked)⟩]) (due:=[0,0]) (cs:=[⟨0,0,PT,[]⟩,⟨0+has - paid,0+asked+(0 - asked),PT,[⟨0,asked⟩]⟩]) (bk:=r2) (num:=1) (k:=0) (s:=paid) (v:=0) (a:=⟨1,1,asked,0+paid,0,0,0+100,decide ((3:Int)=3)||decide (0+paid=asked)⟩) rfl (by dsimp only;omega) rfl (by omega) (by omega) w2 (by rw [z2,z1];simp) (by dsimp only;rw [z2,z1];simp;omega)
 obtain ⟨o4,e4,l4⟩:=Bx (b:=(⟨0,false,[⟨0,0,PT,[]⟩,⟨0+has - paid,0+asked+(0 - asked),PT,[⟨0,asked⟩]⟩],[0,0],[⟨1,1,asked,0+paid,0,0,0+100,decide ((3:Int)=3)||decide (0+paid=asked)⟩],⟨1,[⟨1,1,0,paid⟩]⟩,⟨0,[]⟩,0,0,[],[],⟨0,[0,0],[]⟩,[]++[⟨1,0,3,paid⟩],r2⟩:Bk)) (c:=5) (rest:=[⟨0,11,1,0,0,0⟩]) (y:=[]) (out:=[]++[⟨0,0⟩]++[⟨0,0⟩]++[⟨0,0⟩]) rfl rfl (by simp) (by simp) (by omega) (by simp) (by simp) (vQ (by omega) (by omega)) rfl ⟨rfl,trivial⟩ trivial .nil (.cons t3 .nil) (by simp) (by simp) (by simp) (by simp)
 have e4':fk (gh 5++(gh 5++[⟨0,11,1,0,0,0⟩])) (⟨0,false,[⟨0,0,PT,[]⟩,⟨0+has - paid,0+asked+(0 - asked),PT,[⟨0,asked⟩]⟩],[0,0],[⟨1,1,asked,0+paid,0,0,0+100,decide ((3:Int)=3)||decide (0+paid=asked)⟩],⟨1,[⟨1,1,0,paid⟩]⟩,⟨0,[]⟩,0,0,[],[],⟨0,[0,0],[]⟩,[]++[⟨1,0,3,paid⟩],r2⟩:Bk) [] ([]++[⟨0,0⟩]++[⟨0,0⟩]++[⟨0,0⟩])=fk [⟨0,11,1,0,0,0⟩] (⟨0,false,[⟨0,0,PT,[]⟩,⟨0+has - paid,0+asked+(0 - asked),PT,[⟨0,asked⟩]⟩],[0,0+paid],[⟨1,1,asked,0+paid,0,0,0+100,decide ((3:Int)=3)||decide (0+paid=asked)⟩],⟨1,[]⟩,⟨0,[]⟩,0,0+((1:Nat):Int),[],[],⟨0,[0,0],[]⟩,[]++[⟨1,0,3,paid⟩],r3⟩:Bk) [] ([]++[⟨0,0⟩]++[⟨0,0⟩]++[⟨0,0⟩]++o4):=e4
 have z3:∀ x,cA r3 x=cA r2 x+(if x=51 then paid else 0) - (if x=1 then paid else 0):=g3
 obtain ⟨r4,d5,w5,g5⟩:=CO (b:=(⟨0,false,[⟨0,0,PT,[]⟩,⟨0+has - paid,0+asked+(0 - asked),PT,[⟨0,asked⟩]⟩],[0,0+paid],[⟨1,1,asked,0+paid,0,0,0+100,decide ((3:Int)=3)||decide (0+paid=asked)⟩],⟨1,[]⟩,⟨0,[]⟩,0,0+((1:Nat):Int),[],[],⟨0,[0,0],[]⟩,[]++[⟨1,0,3,paid⟩],r3⟩:Bk)) (n:=1) (v:=0+paid) (by omega) rfl (by omega) (by omega) w3 (by dsimp only;rw [z3,z2,z1];simp) (by dsimp only;rw [z3,z2,z1];simp;omega)
 rw [List.cons_append,List.cons_append,List.cons_append,List.nil_append,ea (e1 _),ea (e2 _),ea (e3 _),e4',ea (d5 _)] at hr
 simp only [fk,Prod.mk.injEq] at hr
 obtain ⟨rfl,rfl,rfl,rfl⟩:=hr
 refine ⟨rfl,rfl,rfl,w5,fun c hc=>?_,fun n hn=>?_,?_,?_⟩
 ·simp at hc;subst hc;constructor<;>first|omega|(dsimp only;omega)|(dsimp only;done)
 ·simp at hn;omega
 ·rw [g5];dsimp only;rw [z3,z2,z1];simp;omega
 ·rw [g5];dsimp only;rw [z3,z2,z1];simp

theorem BK (has asked paid:Int):Fn Try.prog 14 [(.c (cI has)),(.c (cI asked)),(.c (cI paid))] (aB true) []:=by
 refine Fn.mk' 91 [(0,(aI has)),(1,(aI asked)),(2,(aI paid))] Try.func14 rfl rfl rfl rfl ?_
 intro W0 T0
 refine ad aa 1 rfl ?_
 refine af ?_
 refine eC ?_
 refine aL 0 [] (bO 0 (BJ) GJ rfl rfl trivial trivial trivial rfl rfl rfl rfl) rfl ?_
 refine ab aa 1 rfl ?_
 refine ae ?_
 refine ag rfl (fun hno=>by cases hno) (fun _=>?_)
 refine aN ?_
 refine af ?_
 refine aA aa 3 rfl ?_
 refine aL 1 [0] (dA (ys:=[(0,(.c (cI has))),(1,(.c (cI asked))),(2,(.c (cI paid)))]) (rows:=([has,asked,paid]).map rI) 0 lZ rfl (by decide) ⟨⟨rfl,rfl⟩,⟨rfl,rfl⟩,⟨rfl,rfl⟩,trivial⟩ rfl rfl rfl rfl) rfl ?_
 refine lR (s':=[(0,(aI has)),(1,(aI asked)),(2,(aI paid)),(6,(aB false)),(11,(aB true)),(12,(aB false)),(13,(aI has)),(14,(aI asked)),(15,(aI paid)),(16,(aC (fG ([has,asked,paid]))))]) (h':=[]) 0 rfl ⟨⟨_,rfl,.inl ⟨rfl,rfl⟩⟩,⟨_,rfl,.inl ⟨rfl,rfl⟩⟩,⟨_,rfl,.inl ⟨rfl,rfl⟩⟩,⟨_,rfl,.inl ⟨rfl,rfl⟩⟩,⟨_,rfl,.inl ⟨rfl,rfl⟩⟩,⟨_,rfl,.inl ⟨rfl,rfl⟩⟩,⟨_,rfl,.inl ⟨rfl,rfl⟩⟩,⟨_,rfl,.inl ⟨rfl,rfl⟩⟩,⟨_,rfl,.inl ⟨rfl,rfl⟩⟩,⟨_,rfl,.inr ⟨_,_,rfl,rfl,.s rfl (by decide) (by first|omega|(simp;done)|(simp;omega))⟩⟩,trivial⟩ trivial rfl ?_
 obtain ⟨r0,hr0⟩:∃ (r0:Bool),mo ([has,asked,paid])=r0:=⟨_,rfl⟩
 refine aL 1 [] (bO 1 (CX ([has,asked,paid]) r0 hr0) GI rfl rfl ⟨⟨_,rfl,.c (.d _)⟩,trivial⟩ trivial trivial rfl rfl rfl rfl) rfl ?_
 refine ab aa 2 rfl ?_
 refine bz (t:=19) rfl (fun hb2=>?_) (fun hb2=>?_)
 ·
  have hb2':=hb2;try simp only [bj,bL] at hb2'
  refine ab aa 9 rfl ?_
  refine ae ?_
  refine ag rfl (fun _=>?_) (fun hno=>by cases hno)
  refine ad aa 1 rfl ?_
  refine ar ?_
  refine ao ?_
  refine ah aa [] 0 rfl rfl rfl rfl rfl rfl ?_ ?_
  ·rfl
  ·rfl
 have hb2':=hb2;try simp only [bj,bL] at hb2'
 refine ab aa 5 rfl ?_
 refine bz (t:=24) rfl (fun hb4=>?_) (fun hb4=>?_)
 ·
  have hb4':=of_decide_eq_true hb4
  refine ab aa 4 rfl ?_
  refine ae ?_
  refine ag rfl (fun _=>?_) (fun hno=>by cases hno)
  refine ad aa 1 rfl ?_
  refine ar ?_
  refine ao ?_
  refine ah aa [] 0 rfl rfl rfl rfl rfl rfl ?_ ?_
  ·rfl
  ·rfl
 have hb4':=of_decide_eq_false hb4
 refine ab aa 4 rfl ?_
 refine ae ?_
 refine ag rfl (fun hc6=>?_) (fun hc6=>?_)
 ·
  have hc6':=of_decide_eq_true hc6
  refine ad aa 1 rfl ?_
  refine ar ?_
  refine ao ?_
  refine ah aa [] 0 rfl rfl rfl rfl rfl rfl ?_ ?_
  ·rfl
  ·rfl
 have hc6':=of_decide_eq_false hc6
 refine aN ?_
 have hsm:=Dm hr0 (by assumption)
 refine aA aa 1 rfl ?_
 refine aL 1 [] (bO 1 (nr 1 1 has) qj rfl rfl ⟨⟨_,rfl,.c (.d _)⟩,⟨_,rfl,.c (.d _)⟩,⟨_,rfl,.c (.d _)⟩,trivial⟩ ⟨trivial,trivial,trivial,trivial,trivial,trivial,trivial⟩ trivial rfl rfl rfl rfl) rfl ?_
 refine ab aa 3 rfl ?_
 refine aL 1 [] (bO 1 (xh 3 0 paid) Eu rfl rfl ⟨⟨_,rfl,.c (.d _)⟩,⟨_,rfl,.c (.d _)⟩,⟨_,rfl,.c (.d _)⟩,trivial⟩ ⟨trivial,trivial,trivial,trivial,trivial,trivial,trivial⟩ trivial rfl rfl rfl rfl) rfl ?_
 refine aL 2 [1] (dA (ys:=[(0,(.g [(cI 0),(cI 1),(cI 1),(cI 0),(cI 0),(cI has)])),(1,(.g [(cI 0),(cI 2),(cI 1),(cI 1),(cI 0),(cI asked)])),(2,(.g [(cI 0),(cI 3),(cI 0),(cI 0),(cI 3),(cI paid)]))]) (rows:=([(⟨0,1,1,0,0,has⟩:aR),(⟨0,2,1,1,0,asked⟩:aR),(⟨0,3,0,0,3,paid⟩:aR)]).map cL) 1 nR rfl (by decide) ⟨⟨rfl,rfl⟩,⟨rfl,rfl⟩,⟨rfl,rfl⟩,trivial⟩ rfl rfl rfl rfl) rfl ?_
 have hr1:eR ([(⟨0,1,1,0,0,has⟩:aR),(⟨0,2,1,1,0,asked⟩:aR),(⟨0,3,0,0,3,paid⟩:aR)])=(eR ([(⟨0,1,1,0,0,has⟩:aR),(⟨0,2,1,1,0,asked⟩:aR),(⟨0,3,0,0,3,paid⟩:aR)])):=rfl
 refine aL 3 [2] (cx (aW [1]) (aW [2]) (zQ ([(⟨0,1,1,0,0,has⟩:aR),(⟨0,2,1,1,0,asked⟩:aR),(⟨0,3,0,0,3,paid⟩:aR)]) 3 (by first|omega|(simp;done)|(simp;omega)) (by first|omega|(simp;done)|(simp;omega)) (eR ([(⟨0,1,1,0,0,has⟩:aR),(⟨0,2,1,1,0,asked⟩:aR),(⟨0,3,0,0,3,paid⟩:aR)])) hr1) Ev rfl rfl ⟨⟨_,rfl,.inl ⟨rfl,rfl⟩⟩,trivial⟩ ⟨rfl,trivial⟩ rfl rfl rfl rfl rfl rfl trivial ⟨(fun _ _ _ _=>trivial),trivial⟩ rfl rfl rfl rfl) rfl ?_
 refine ab aa 1 rfl ?_
 refine ae ?_
 have hcl:(eR ([(⟨0,1,1,0,0,has⟩:aR),(⟨0,2,1,1,0,asked⟩:aR),(⟨0,3,0,0,3,paid⟩:aR)])).length=27:=by rw [vp];rfl
 refine eC ?_
 refine aL 3 [2] (bO 3 (Fn.frozen (av':=(aG [(cR 3 (([(⟨1000,30,1000000000000⟩:dk),(⟨1000,30,1000000000000⟩:dk)]).map gZ)),(cI 2),(cI 0)])) (vt 0) ⟨.inr ⟨_,_,_,_,_,rfl,rfl,rfl,by simp⟩,.inl ⟨_,rfl,rfl⟩,.inl ⟨_,rfl,rfl⟩,trivial⟩) Es rfl rfl ⟨⟨_,rfl,.c (.d _)⟩,trivial⟩ ⟨trivial,trivial,trivial,trivial⟩ trivial rfl rfl rfl rfl) rfl ?_
 refine ab aa 1 rfl ?_
 refine aL 3 [2] (bO 3 (nr 11 1 0) qj rfl rfl ⟨⟨_,rfl,.c (.d _)⟩,⟨_,rfl,.c (.d _)⟩,⟨_,rfl,.c (.d _)⟩,trivial⟩ ⟨trivial,trivial,trivial,trivial,trivial,trivial,trivial⟩ trivial rfl rfl rfl rfl) rfl ?_
 refine aL 4 [3,2] (dA (ys:=[(0,(.g [(cI 0),(cI 11),(cI 1),(cI 0),(cI 0),(cI 0)]))]) (rows:=([(⟨0,11,1,0,0,0⟩:aR)]).map cL) 3 nR rfl (by decide) ⟨⟨rfl,rfl⟩,trivial⟩ rfl rfl rfl rfl) rfl ?_
 refine aL 5 [4,3] (de (m:=1) (N:=(((eR ([(⟨0,1,1,0,0,has⟩:aR),(⟨0,2,1,1,0,asked⟩:aR),(⟨0,3,0,0,3,paid⟩:aR)]))).length)+1) (k2:=4) (ys:=([(⟨0,11,1,0,0,0⟩:aR)]).map cL) nR rfl rfl rfl rfl rfl rfl (by first|omega|(simp;done)|(simp;omega)) rfl (.s rfl (by first|omega|(simp;done)|(simp;omega))) (by first|omega|(simp;done)|(simp;omega)) (by first|omega|(simp;done)|(simp;omega)) eY (by decide) (by first|omega|(simp;done)|(simp;omega)) (by first|omega|(simp;done)|(simp;omega))) rfl ?_
 refine lR (s':=[(0,(aI has)),(1,(aI asked)),(2,(aI paid)),(6,(aB false)),(11,(aB true)),(12,(aB false)),(13,(aI has)),(14,(aI asked)),(15,(aI paid)),(16,(aC (fG ([has,asked,paid])))),(17,(aB r0)),(18,(aB (!r0))),(19,(aB false)),(20,(aI asked)),(21,(aI has)),(22,(aB (decide (asked > has)))),(23,(aB (decide (asked > has)))),(24,(aB false)),(25,(aI paid)),(26,(aI asked)),(27,(aB (decide (paid > asked)))),(28,(aB (decide (paid > asked)))),(29,(aI has)),(30,(aG [(cI 0),(cI 1),(cI 1),(cI 0),(cI 0),(cI has)])),(31,(aI asked)),(32,(aG [(cI 0),(cI 2),(cI 1),(cI 1),(cI 0),(cI asked)])),(33,(aI paid)),(34,(aG [(cI 0),(cI 3),(cI 0),(cI 0),(cI 3),(cI paid)])),(38,(aG [(cR 3 (([(⟨1000,30,1000000000000⟩:dk),(⟨1000,30,1000000000000⟩:dk)]).map gZ)),(cI 2),(cI 0)])),(40,(aG [(cI 0),(cI 11),(cI 1),(cI 0),(cI 0),(cI 0)])),(41,(aC (.s 3 0 6 1))),(42,(aC (tZ ((eR ([(⟨0,1,1,0,0,has⟩:aR),(⟨0,2,1,1,0,asked⟩:aR),(⟨0,3,0,0,3,paid⟩:aR)]))++([(⟨0,11,1,0,0,0⟩:aR)])))))]) (h':=[(3,(vN ([(⟨0,11,1,0,0,0⟩:aR)])))]) 4 rfl ⟨⟨_,rfl,.inl ⟨rfl,rfl⟩⟩,⟨_,rfl,.inl ⟨rfl,rfl⟩⟩,⟨_,rfl,.inl ⟨rfl,rfl⟩⟩,⟨_,rfl,.inl ⟨rfl,rfl⟩⟩,⟨_,rfl,.inl ⟨rfl,rfl⟩⟩,⟨_,rfl,.inl ⟨rfl,rfl⟩⟩,⟨_,rfl,.inl ⟨rfl,rfl⟩⟩,⟨_,rfl,.inl ⟨rfl,rfl⟩⟩,⟨_,rfl,.inl ⟨rfl,rfl⟩⟩,⟨_,rfl,.inl ⟨rfl,rfl⟩⟩,⟨_,rfl,.inl ⟨rfl,rfl⟩⟩,⟨_,rfl,.inl ⟨rfl,rfl⟩⟩,⟨_,rfl,.inl ⟨rfl,rfl⟩⟩,⟨_,rfl,.inl ⟨rfl,rfl⟩⟩,⟨_,rfl,.inl ⟨rfl,rfl⟩⟩,⟨_,rfl,.inl ⟨rfl,rfl⟩⟩,⟨_,rfl,.inl ⟨rfl,rfl⟩⟩,⟨_,rfl,.inl ⟨rfl,rfl⟩⟩,⟨_,rfl,.inl ⟨rfl,rfl⟩⟩,⟨_,rfl,.inl ⟨rfl,rfl⟩⟩,⟨_,rfl,.inl ⟨rfl,rfl⟩⟩,⟨_,rfl,.inl ⟨rfl,rfl⟩⟩,⟨_,rfl,.inl ⟨rfl,rfl⟩⟩,⟨_,rfl,.inl ⟨rfl,rfl⟩⟩,⟨_,rfl,.inl ⟨rfl,rfl⟩⟩,⟨_,rfl,.inl ⟨rfl,rfl⟩⟩,⟨_,rfl,.inl ⟨rfl,rfl⟩⟩,⟨_,rfl,.inl ⟨rfl,rfl⟩⟩,⟨_,rfl,.inl ⟨rfl,rfl⟩⟩,⟨_,rfl,.inl ⟨rfl,rfl⟩⟩,⟨_,rfl,.inl ⟨rfl,rfl⟩⟩,⟨_,rfl,.inr ⟨_,_,rfl,rfl,.s rfl (by decide) (by first|omega|(simp;done)|(simp;omega))⟩⟩,trivial⟩ ⟨rfl,trivial⟩ rfl ?_
 obtain ⟨b22,y22,o22,f22,hr2⟩:∃ (b22:Bk) (y22:List (List Int)) (o22:List Answer) (f22:cV),hG (⟨[(⟨1000,30,1000000000000⟩:dk),(⟨1000,30,1000000000000⟩:dk)],2,0⟩:Setup) ((eR ([(⟨0,1,1,0,0,has⟩:aR),(⟨0,2,1,1,0,asked⟩:aR),(⟨0,3,0,0,3,paid⟩:aR)]))++([(⟨0,11,1,0,0,0⟩:aR)]))=(b22,y22,o22,f22):=⟨_,_,_,_,rfl⟩
 obtain ⟨ho1,ho2,ho3,ho4,ho5,ho6,ho7,ho8⟩:=Db (by omega) (by omega) (by omega) (by omega) hr2
 refine aL 5 [3] (bO 5 (Fn.frozen (av':=(.t [(.g [(cI b22.time),(cB b22.down),(Dh b22.an),(fG b22.due),(yB b22.aq),(cI b22.s0.bG),(db b22.s0.kept),(cI b22.s1.bG),(db b22.s1.kept),(cI b22.n0),(cI b22.n1),(ej b22.w0),(ej b22.w1),(cI b22.bF.cap),(fG b22.bF.used),(gM b22.bF.aZ),(iV b22.aQ),(Df y22),(dJ b22.book)]),(.c (Dg o22)),(.g [(cI f22.err),(cI f22.at_)])])) (zX (⟨[(⟨1000,30,1000000000000⟩:dk),(⟨1000,30,1000000000000⟩:dk)],2,0⟩:Setup) ((eR ([(⟨0,1,1,0,0,has⟩:aR),(⟨0,2,1,1,0,asked⟩:aR),(⟨0,3,0,0,3,paid⟩:aR)]))++([(⟨0,11,1,0,0,0⟩:aR)])) b22 y22 o22 f22 hr2) ⟨⟨.inl ⟨_,rfl,rfl⟩,.inl ⟨_,rfl,rfl⟩,.inr ⟨_,_,_,_,_,rfl,rfl,rfl,by simp⟩,.inr ⟨_,_,_,_,_,rfl,rfl,rfl,by simp⟩,.inr ⟨_,_,_,_,_,rfl,rfl,rfl,by simp⟩,.inl ⟨_,rfl,rfl⟩,.inl ⟨_,rfl,rfl⟩,.inl ⟨_,rfl,rfl⟩,.inl ⟨_,rfl,rfl⟩,.inl ⟨_,rfl,rfl⟩,.inl ⟨_,rfl,rfl⟩,.inl ⟨_,rfl,rfl⟩,.inl ⟨_,rfl,rfl⟩,.inl ⟨_,rfl,rfl⟩,.inl ⟨_,rfl,rfl⟩,.inl ⟨_,rfl,rfl⟩,.inr ⟨_,_,_,_,_,rfl,rfl,rfl,by simp⟩,.inr ⟨_,_,_,_,_,rfl,rfl,rfl,by simp⟩,.inl ⟨_,rfl,rfl⟩,trivial⟩,.inr ⟨_,_,_,_,_,rfl,rfl,rfl,by simp⟩,⟨.inl ⟨_,rfl,rfl⟩,.inl ⟨_,rfl,rfl⟩,trivial⟩,trivial⟩) Et rfl rfl ⟨⟨_,rfl,.g ⟨.d _,.d _,.d _,trivial⟩⟩,⟨_,rfl,.c (.d _)⟩,trivial⟩ ⟨⟨trivial,trivial,trivial,trivial,trivial,trivial,trivial,trivial,trivial,trivial,trivial,trivial,trivial,trivial,trivial,trivial,trivial,trivial,trivial,trivial⟩,trivial,⟨trivial,trivial,trivial⟩,trivial⟩ trivial rfl rfl rfl rfl) rfl ?_
 refine ab aa 9 rfl ?_
 refine ae ?_
 refine aA aa 4 rfl ?_
 refine bz (t:=50) rfl (fun hb7=>?_) (fun hb7=>?_)
 ·
  have hb7':=of_decide_eq_true hb7
  refine ab aa 2 rfl ?_
  obtain ⟨x1,hx1⟩:=ck (xs:=b22.an) (i:=1) (by first|omega|(simp;done)|(simp;omega))
  have hx1K:=ho5 x1 hx1
  refine dP (aj.yes rfl rfl rfl) (cP (i:=1) rfl rfl rfl Try.underlying29 ig (by first|omega|(simp;done)|(simp;omega)) (bu hx1)) rfl rfl ?_
  refine ab aa 4 rfl ?_
  refine dP (aj.yes rfl rfl rfl) (aJ rfl rfl rfl (aF (by first|omega|(simp;done)|(simp;omega)))) rfl rfl ?_
  refine ab aa 3 rfl ?_
  refine bz (t:=61) rfl (fun hb8=>?_) (fun hb8=>?_)
  ·
   have hb8':=of_decide_eq_true hb8
   refine ab aa 2 rfl ?_
   refine dP (aj.yes rfl rfl rfl) (cP (i:=1) rfl rfl rfl Try.underlying29 ig (by first|omega|(simp;done)|(simp;omega)) (bu hx1)) rfl rfl ?_
   refine ab aa 5 rfl ?_
   refine bz (t:=69) rfl (fun hb9=>?_) (fun hb9=>?_)
   ·
    have hb9':=of_decide_eq_true hb9
    refine ab aa 2 rfl ?_
    obtain ⟨x2,hx2⟩:=ck (xs:=b22.due) (i:=1) (by first|omega|(simp;done)|(simp;omega))
    have hx2K:=ho6 x2 hx2
    refine dP (aj.yes rfl rfl rfl) (cP (i:=1) rfl rfl rfl Try.underlying30 fH (by first|omega|(simp;done)|(simp;omega)) (bu hx2)) rfl rfl ?_
    refine ab aa 4 rfl ?_
    refine bz (t:=76) rfl (fun hb10=>?_) (fun hb10=>?_)
    ·
     have hb10':=of_decide_eq_true hb10
     refine ab aa 2 rfl ?_
     obtain ⟨n3,hr3⟩:∃ (n3:Int),cA b22.book 0=n3:=⟨_,rfl⟩
     refine yw 7 [6,5,3] (aj.yes rfl rfl rfl) (bO 7 (rn b22.book 0 n3 hr3) Eo rfl rfl ⟨⟨_,rfl,.c (.d _)⟩,⟨_,rfl,.c (.d _)⟩,trivial⟩ trivial trivial rfl rfl rfl rfl) rfl ?_
     refine ab aa 2 rfl ?_
     refine dP (aj.yes rfl rfl rfl) (aJ rfl rfl rfl (aF (by first|omega|(simp;done)|(simp;omega)))) rfl rfl ?_
     refine ab aa 3 rfl ?_
     refine bz (t:=85) rfl (fun hb11=>?_) (fun hb11=>?_)
     ·
      have hb11':=of_decide_eq_true hb11
      refine ab aa 2 rfl ?_
      obtain ⟨n4,hr4⟩:∃ (n4:Int),cA b22.book 1=n4:=⟨_,rfl⟩
      refine yw 7 [6,5,3] (aj.yes rfl rfl rfl) (bO 7 (rn b22.book 1 n4 hr4) Eo rfl rfl ⟨⟨_,rfl,.c (.d _)⟩,⟨_,rfl,.c (.d _)⟩,trivial⟩ trivial trivial rfl rfl rfl rfl) rfl ?_
      refine ab aa 3 rfl ?_
      refine ae ?_
      refine ar ?_
      refine ah aa [] 0 rfl rfl rfl rfl rfl rfl ?_ ?_
      ·exact congrArg aB (show (decide (n4=0))=true by (first|(exfalso;omega)|exact decide_eq_true (by omega)))
      ·rfl
     have hb11':=of_decide_eq_false hb11
     refine ab aa 6 rfl ?_
     refine ae ?_
     refine ar ?_
     refine ah aa [] 0 rfl rfl rfl rfl rfl rfl ?_ ?_
     ·exact congrArg aB (show (false)=true by (first|(exfalso;omega)|exact decide_eq_true (by omega)))
     ·rfl
    have hb10':=of_decide_eq_false hb10
    refine ab aa 15 rfl ?_
    refine ae ?_
    refine ar ?_
    refine ah aa [] 0 rfl rfl rfl rfl rfl rfl ?_ ?_
    ·exact congrArg aB (show (false)=true by (first|(exfalso;omega)|exact decide_eq_true (by omega)))
    ·rfl
   have hb9':=of_decide_eq_false hb9
   refine ab aa 22 rfl ?_
   refine ae ?_
   refine ar ?_
   refine ah aa [] 0 rfl rfl rfl rfl rfl rfl ?_ ?_
   ·exact congrArg aB (show (false)=true by (first|(exfalso;omega)|exact decide_eq_true (by omega)))
   ·rfl
  have hb8':=of_decide_eq_false hb8
  refine ab aa 30 rfl ?_
  refine ae ?_
  refine ar ?_
  refine ah aa [] 0 rfl rfl rfl rfl rfl rfl ?_ ?_
  ·exact congrArg aB (show (false)=true by (first|(exfalso;omega)|exact decide_eq_true (by omega)))
  ·rfl
 have hb7':=of_decide_eq_false hb7
 refine ab aa 41 rfl ?_
 refine ae ?_
 refine ar ?_
 refine ah aa [] 0 rfl rfl rfl rfl rfl rfl ?_ ?_
 ·exact congrArg aB (show (false)=true by (first|(exfalso;omega)|exact decide_eq_true (by omega)))
 ·rfl
end Go.Proofs.Ytegepioggeggaaa.Dev
