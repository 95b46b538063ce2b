/- A part of the proof: PlLaw1, PlLaw2, PlTop, PlTop2, PlCome, PlCome2, PlCome3, PlCome4, PlOver, PlBuy, PlBuy2, PlBack, PlBack2, PlDisp. No condition. -/
import Derived.Test.YtegepioggeggaaaD14
set_option linter.unusedVariables false
set_option linter.unusedSimpArgs false
namespace Go.Proofs.Ytegepioggeggaaa.Dev
def ko (l:List bx):Prop:=∀ c∈l,0<=c.bj - c.held
theorem pB {l:List bx} {e k h m:Int} (hl:ko l) (hc:∀ c,l[k.toNat]?=some c->h - m<=c.bj - c.held):ko (cz l e k h m).1:=by
 unfold cz
 split
 ·exact hl
 ·rename_i c hk
  split
  ·rename_i h0
   intro z hz
   rcases ga hz with hz|rfl
   ·exact hl z hz
   ·have he:=(fJ h0).2
    rcases qb (show dW c h m=((dW c h m).1,(dW c h m).2) from rfl) with ⟨h1,_⟩|h1
    ·exact absurd he h1
    ·have h2:=h1.2.2.2.2.2.2.1
     have h3:=hc c hk
     rw [h2];dsimp only;omega
  ·exact hl
theorem jd {l:List bx} {e k h m:Int} (hl:ko l) (hm:h<=m):ko (cz l e k h m).1:=pB hl fun c hc=>by have:=hl c (List.mem_of_getElem? hc);omega
theorem zX {a:bz} {t:Int} (h:bC a=0):bu (ei a t) - bu a<=0:=by
 have:=eN h
 unfold bu ei
 cases hs:a.shut<;>cases ht:decide (a.cS<=t)<;>simp<;>omega
theorem rq {time:Int}:∀ (l:List bz) (i:Nat) (aj:List bx) (aq:List bz) (e:Int),(∀ a∈l,bC a=0)->ko aj->ko (fI time l i aj aq e).1
 |[],_,_,_,_,_,h=>h
 |a::l,i,aj,aq,e,hw,h=>rq l (i+1) _ _ _ (fun x hx=>hw x (List.mem_cons_of_mem _ hx)) (jd h (zX (hw a List.mem_cons_self)))
theorem rr {time:Int} {n:Int}:∀ (l:List bz) (i:Nat) (aj:List bx) (aq:List bz) (e:Int),(∀ a∈l,a.bd=n)->(∀ a∈aq,a.bd=n)->∀ a∈(fI time l i aj aq e).2.1,a.bd=n
 |[],_,_,_,_,_,h=>h
 |a::l,i,aj,aq,e,hl,h=>rr l (i+1) _ _ _ (fun x hx=>hl x (List.mem_cons_of_mem _ hx)) fun x hx=>by
  rcases ga hx with hx|rfl
  ·exact h x hx
  ·exact hl a List.mem_cons_self
structure eS (b:Bk):Prop where
 ok:cm b
 up:b.down=false
 iu:∀ a∈b.aq,a.bd=0
 free:ko b.aj
 k0:∀ t∈b.s0.kept,0<=t.sum
 k1:∀ t∈b.s1.kept,0<=t.sum
 p0:∀ p∈b.w0,0<=p.ct.sum
 p1:∀ p∈b.w1,0<=p.ct.sum
theorem eS.dC {b c:Bk} {e:Int} (h:eS b) (hc:e=0->eS c):eS (dC b c e).1:=by
 unfold Dev.dC;split
 ·exact hc (by assumption)
 ·exact h
theorem eS.late {b:Bk} (h:eS b):eS (gS b):=by
 have hok:=h.ok.late
 unfold gS at hok ⊢
 split
 ·rename_i h0
  rw [if_pos h0] at hok
  exact ⟨hok,h.up,rr _ _ _ _ _ h.iu h.iu,rq _ _ _ _ _ (fun a ha=>(h.ok.perm a ha).1) h.free,h.k0,h.k1,h.p0,h.p1⟩
 ·exact h
theorem eS.start {s:Setup} (h:(ey s).err=0):eS (ik s):=
 ⟨cm.start h,rfl,fun a ha=>(by cases ha),fun c hc=>(by
  obtain ⟨p,_,rfl⟩:=List.mem_map.1 (show c∈s.dd.map pk from hc)
  exact Int.le_refl _),fun a ha=>(by cases ha),fun a ha=>(by cases ha),fun a ha=>(by cases ha),fun a ha=>(by cases ha)⟩
theorem yT {c:bx} {n t:Int} (h:(dK c n t).2=0):0<=(dK c n t).1.bj - (dK c n t).1.held:=by
 rcases qD (show dK c n t=((dK c n t).1,(dK c n t).2) from rfl) with ⟨h5,_⟩|⟨h5,h6,h7,h8,h9,h10,h11,l,h12,h13⟩
 ·exact absurd h h5
 ·rw [h13];dsimp only;omega
theorem eS.asks {b:Bk} (h:eS b) (d:aE):eS (dJ b d).1:=by
 have hok:=h.ok.asks d
 unfold dJ at hok ⊢
 rw [h.up] at hok ⊢
 simp only [Bool.false_eq_true,if_false] at hok ⊢
 split
 ·exact h
 rename_i c1
 rw [if_neg c1] at hok
 split
 ·exact h
 rename_i c2
 rw [if_neg c2] at hok
 split
 ·exact h
 rename_i c3
 rw [if_neg c3] at hok
 obtain ⟨_,w2,_⟩:=oz (show (de d.n d.ax d.sum b.time).2=0 by omega)
 split
 ·exact h
 rename_i c hc
 rw [hc] at hok
 dsimp only at hok
 split
 ·exact h
 rename_i c4
 rw [if_neg c4] at hok
 refine ⟨hok,rfl,fun a ha=>?_,fun z hz=>?_,h.k0,h.k1,h.p0,h.p1⟩
 ·rcases List.mem_append.1 ha with ha|ha
  ·exact h.iu a ha
  ·obtain rfl:=List.mem_singleton.1 ha;rw [w2]
 ·rcases ga hz with hz|rfl
  ·exact h.free z hz
  ·exact yT (by omega)
theorem ym {a b:bz} {k n:Int} (hw:bC a=0) (h1:1<=n) (hm:jL a k n b):(k=1->bu b - bu a=n)/\(k=2\/k=3->bu b - bu a<=0 - n)/\(k=4->bu b - bu a<=0)/\(k=6\/b.bd<=a.bd):=by
 have hr:=eN hw
 cases hm with
 |more h hs hn=>subst h;unfold bu;rw [hs];simp;omega
 |take h hs hn=>
  unfold bu;rw [hs];dsimp only
  refine ⟨fun h=>by omega,fun _=>?_,fun h=>by omega,.inr (Int.le_refl _)⟩
  split<;>simp at *<;>omega
 |less h hs hn=>
  subst h;unfold bu;rw [hs];dsimp only
  refine ⟨fun h=>by omega,fun h=>by omega,fun _=>?_,.inr (Int.le_refl _)⟩
  split<;>simp at *<;>omega
 |uS h hn=>subst h;exact ⟨fun h=>by omega,fun h=>by omega,fun h=>by omega,.inr (Int.le_refl _)⟩
 |sE h hn=>subst h;exact ⟨fun h=>by omega,fun h=>by omega,fun h=>by omega,.inl rfl⟩
 |sy h hn=>subst h;exact ⟨fun h=>by omega,fun h=>by omega,fun h=>by omega,.inr (by dsimp only;omega)⟩
 |sw h hn=>subst h;exact ⟨fun h=>by omega,fun h=>by omega,fun h=>by omega,.inr (by dsimp only;omega)⟩
theorem yl {a b:bz} {k n:Int} (hm:jL a k n b) (h1:1<=n) (hk:k=7\/k=8):1<=a.bd:=by
 cases hm<;>omega
theorem oh {s:bR} {e:Int} {t:aW} (h:∀ t∈s.kept,0<=t.sum) (ht:0<=t.sum):∀ u∈(eA s e t).1.kept,0<=u.sum:=by
 unfold eA
 split
 ·rename_i h0
  have he:=(fJ h0).2
  unfold fu at he
  split at he
  ·rename_i h1;exact absurd he h1
  split at he
  ·rename_i h1;exact absurd he h1
  ·rename_i h1 h2
   have hp:(fu s t).1=iG s t:=by unfold fu;rw [if_neg h1,if_neg h2]
   dsimp only
   rw [hp]
   intro u hu
   rcases List.mem_append.1 hu with hu|hu
   ·exact h u hu
   ·obtain rfl:=List.mem_singleton.1 hu;exact ht
 ·exact h
theorem eS.lD {b:Bk} (h:eS b) (d:aE) (hd:¬d.move=6):eS (di b d).1:=by
 have hok:=h.ok.lD d
 unfold di at hok ⊢
 rw [h.up] at hok ⊢
 simp only [Bool.false_eq_true,if_false] at hok ⊢
 split
 ·exact h
 rename_i c1
 rw [if_neg c1] at hok
 split
 ·exact h
 rename_i cu ho
 rw [ho] at hok
 dsimp only at hok
 split
 ·exact h
 rename_i c2
 rw [if_neg c2] at hok
 split
 ·exact h
 rename_i c3
 rw [if_neg c3] at hok
 have hmv:bN cu d.move d.sum=((bN cu d.move d.sum).1,0):=Prod.ext rfl (by dsimp only;omega)
 generalize (bN cu d.move d.sum).1=a at *
 rcases qi hmv with ⟨h4,_⟩|⟨_,hw,hn1,hn2,hm⟩
 ·exact absurd rfl h4
 have hold:=h.iu cu (List.mem_of_getElem? ho)
 have hr:=eN hw
 obtain ⟨m1,m2,m3,m4⟩:=ym hw hn1 hm
 have hcard:a.aJ=cu.aJ:=(pG hmv).2.1
 have hra:=eN (pG hmv).1
 unfold kl at hok ⊢
 have hcards:ko (dH b a cu d).1:=by
  unfold dH
  split
  ·rename_i hk
   rcases hk with hk|hk
   ·refine pB h.free fun c hc=>?_
    have hf:¬d.sum > kD b.aj a.aJ:=fun hf=>c3 ⟨hk,hf⟩
    unfold kD at hf;rw [hc] at hf;dsimp only at hf
    have:=m1 hk;omega
   ·exact jd h.free (m3 hk)
  split
  ·rename_i hk;exact jd h.free (m2 hk)
  split
  ·exact h.free
  split
  ·exact h.free
  split
  ·rename_i hk;have:=yl hm hn1 (.inr hk);omega
  ·exact h.free
 unfold Dev.dC at hok ⊢
 split
 ·rename_i h0
  rw [if_pos h0] at hok
  have hks:(∀ t∈(dH b a cu d).2.2.2.1.kept,0<=t.sum)/\∀ t∈(dH b a cu d).2.2.2.2.1.kept,0<=t.sum:=by
   unfold dH
   split
   ·exact ⟨h.k0,h.k1⟩
   split
   ·exact ⟨oh h.k0 (by dsimp only;omega),h.k1⟩
   split
   ·exact ⟨h.k0,oh h.k1 (by dsimp only;omega)⟩
   split
   ·exact ⟨oh h.k0 (by dsimp only;omega),h.k1⟩
   split
   ·exact ⟨h.k0,h.k1⟩
   ·exact ⟨h.k0,h.k1⟩
  refine ⟨hok,h.up,fun x hx=>?_,hcards,hks.1,hks.2,h.p0,h.p1⟩
  rcases ga hx with hx|rfl
  ·exact h.iu x hx
  ·rcases m4 with h6|h6
   ·exact absurd h6 hd
   ·omega
 ·exact h
theorem qP {aq:List bz} {due:List Int} {aj:List bx} {book:List Entry} {e:Int} {t:aW} (h:ko aj) (ht:0<=t.sum):ko (dY aq due aj book e t).2.1:=by
 unfold dY
 split
 ·exact h
 split
 ·exact h
 split
 ·exact jd h ht
 split
 ·exact h
 ·exact h
theorem eS.load {b:Bk} (h:eS b) (d:aE):eS (fB b d).1:=by
 have hok:=h.ok.load d
 unfold fB at hok ⊢
 split
 ·exact h
 rename_i c1
 rw [if_neg c1] at hok
 split
 ·exact h
 rename_i c2
 rw [if_neg c2] at hok
 unfold Dev.dC at hok ⊢
 split
 ·rename_i h0;rw [if_pos h0] at hok;exact ⟨hok,h.up,h.iu,jd h.free (by omega),h.k0,h.k1,h.p0,h.p1⟩
 ·exact h
theorem eS.uV {b:Bk} (h:eS b) (d:aE):eS (gX b d).1:=by
 have hok:=h.ok.uV d
 unfold gX at hok ⊢
 split
 ·exact h
 rename_i c1
 rw [if_neg c1] at hok
 split
 ·exact h
 rename_i c2
 rw [if_neg c2] at hok
 unfold Dev.dC at hok ⊢
 split
 ·rename_i h0;rw [if_pos h0] at hok;exact ⟨hok,h.up,h.iu,h.free,h.k0,h.k1,h.p0,h.p1⟩
 ·exact h
theorem eS.cK {b:Bk} (h:eS b) (d:aE):eS (fm b d).1:=by
 unfold fm
 split
 ·exact h
 ·rw [h.up]
  simp only [Bool.false_eq_true,if_false]
  have h1:eS {b with time:=b.time+d.sum}:=⟨h.ok.tick (by have:=h.ok.time;omega) (by have:=h.ok.time;omega),h.up,h.iu,h.free,h.k0,h.k1,h.p0,h.p1⟩
  have h2:=h1.late
  rwa [show ({b with time:=b.time+d.sum}:Bk)={b with time:=b.time+d.sum,down:=false} by rw [<-h.up]] at h2
theorem sV {w:List bV} {ks:List aW} {n:Int} (h:∀ p∈w,0<=p.ct.sum) (hk:∀ t∈ks,0<=t.sum):∀ p∈(hZ w ks n).1,0<=p.ct.sum:=by
 unfold hZ
 split
 ·exact h
 ·intro p hp
  rcases tc hp with hp|⟨t,ht,rfl⟩|rfl
  ·exact h p hp
  ·exact hk t ht
  ·exact Int.le_refl _
theorem eS.send {b:Bk} (h:eS b) (d:aE):eS {b with w0:=(ez b.s0 b.s1 b.n0 b.n1 b.w0 b.w1 d).1,w1:=(ez b.s0 b.s1 b.n0 b.n1 b.w0 b.w1 d).2.1}:=by
 refine ⟨h.ok.send d,h.up,h.iu,h.free,h.k0,h.k1,?_,?_⟩
 ·dsimp only;unfold ez
  split
  ·exact h.p0
  split
  ·exact sV h.p0 h.k1
  ·exact h.p0
 ·dsimp only;unfold ez
  split
  ·exact sV h.p1 h.k0
  split
  ·exact h.p1
  ·exact h.p1
theorem tP {s:bR} {n:Int} (h:∀ t∈s.kept,0<=t.sum) (hb:(dO s n).2=0):∀ t∈(dO s n).1.kept,0<=t.sum:=by
 rcases po (show dO s n=((dO s n).1,(dO s n).2) from rfl) with ⟨h1,_⟩|⟨_,_,_,_,h2⟩
 ·exact absurd hb h1
 ·rw [h2];exact fun t ht=>h t (tp ht)
theorem eS.lE {b:Bk} (h:eS b) (d:aE):eS (bS b d).1:=by
 have hok:=h.ok.lE d
 unfold bS at hok ⊢
 split
 ·rename_i c0
  rw [if_pos c0] at hok
  unfold fa at hok ⊢
  split
  ·exact h
  rename_i p hp
  rw [hp] at hok
  dsimp only at hok
  have hps:=h.p0 p (List.mem_of_getElem? hp)
  have hd:∀ p∈b.w0.drop 1,0<=p.ct.sum:=fun p hp=>h.p0 p (List.mem_of_mem_drop hp)
  split
  ·rename_i c1;rw [if_pos c1] at hok;exact ⟨hok,h.up,h.iu,h.free,h.k0,h.k1,hd,h.p1⟩
  rename_i c1
  rw [if_neg c1] at hok
  split
  ·rename_i c2
   rw [if_pos c2] at hok
   split
   ·rename_i c3;rw [if_pos c3] at hok;exact ⟨hok,h.up,h.iu,h.free,tP h.k0 c3,h.k1,hd,h.p1⟩
   ·exact h
  rename_i c2
  rw [if_neg c2] at hok
  split
  ·rename_i c3
   rw [if_pos c3] at hok
   unfold Dev.dC at hok ⊢
   split
   ·rename_i c4;rw [if_pos c4] at hok;exact ⟨hok,h.up,h.iu,qP h.free hps,h.k0,h.k1,hd,h.p1⟩
   ·exact h
  ·rename_i c3;rw [if_neg c3] at hok;exact ⟨hok,h.up,h.iu,h.free,h.k0,h.k1,hd,h.p1⟩
 rename_i c0
 rw [if_neg c0] at hok
 split
 ·rename_i c01
  rw [if_pos c01] at hok
  unfold eZ at hok ⊢
  split
  ·exact h
  rename_i p hp
  rw [hp] at hok
  dsimp only at hok
  have hps:=h.p1 p (List.mem_of_getElem? hp)
  have hd:∀ p∈b.w1.drop 1,0<=p.ct.sum:=fun p hp=>h.p1 p (List.mem_of_mem_drop hp)
  split
  ·rename_i c1;rw [if_pos c1] at hok;exact ⟨hok,h.up,h.iu,h.free,h.k0,h.k1,h.p0,hd⟩
  rename_i c1
  rw [if_neg c1] at hok
  split
  ·rename_i c2
   rw [if_pos c2] at hok
   split
   ·rename_i c3;rw [if_pos c3] at hok;exact ⟨hok,h.up,h.iu,h.free,h.k0,tP h.k1 c3,h.p0,hd⟩
   ·exact h
  rename_i c2
  rw [if_neg c2] at hok
  split
  ·rename_i c3
   rw [if_pos c3] at hok
   unfold Dev.dC at hok ⊢
   split
   ·rename_i c4;rw [if_pos c4] at hok;exact ⟨hok,h.up,h.iu,qP h.free hps,h.k0,h.k1,h.p0,hd⟩
   ·exact h
  ·rename_i c3;rw [if_neg c3] at hok;exact ⟨hok,h.up,h.iu,h.free,h.k0,h.k1,h.p0,hd⟩
 ·exact h
theorem eS.Cb {b:Bk} (h:eS b) (y:List (List Int)) (d:aE) (h8:¬d.kind=8) (h6:¬(d.kind=3/\d.move=6)):eS (cY b y d).1:=by
 unfold cY
 split
 ·exact h.load d
 split
 ·exact h.asks d
 split
 ·rename_i h3;exact h.lD d fun e=>h6 ⟨h3,e⟩
 split
 ·exact h.cK d
 split
 ·exact h.send d
 split
 ·exact h.lE d
 split
 ·have:(jc b).1=b:=by unfold jc;rw [if_pos h.up]
  rw [this];exact h
 split
 ·exact ⟨h.ok.qc (lQ (y:=y) h.ok.aN).1,h.up,h.iu,h.free,h.k0,h.k1,h.p0,h.p1⟩
 split
 ·exact h.uV d
 ·exact h
section
def er (k:Int):List bz->Int
 |[]=>0
 |a::l=>(if a.aJ=k then bu a else 0)+er k l
theorem ry (k:Int) (u v:List bz):er k (u++v)=er k u+er k v:=by
 induction u with
 |nil=>simp [er]
 |cons a u ih=>simp only [List.cons_append,er,ih];omega
theorem nr (k:Int) (b:bz):∀ {l:List bz} {i:Nat} {a:bz},l[i]?=some a->er k (l.set i b)=er k l - (if a.aJ=k then bu a else 0)+(if b.aJ=k then bu b else 0)
 |x::l,0,a,h=>by
  have:x=a:=by simpa using h
  subst this
  simp only [List.set_cons_zero,er];omega
 |x::l,i+1,a,h=>by
  have h:l[i]?=some a:=by simpa using h
  simp only [List.set_cons_succ,er,nr k b h];omega
def gH (aj:List bx) (aq:List bz):Prop:=∀ (k:Nat) (c:bx),aj[k]?=some c->c.held=er k aq
theorem pA {l:List bx} {e k h m:Int} (hz:(cz l e k h m).2=0):e=0/\((l[k.toNat]?=none/\(cz l e k h m).1=l)\/∃ c,l[k.toNat]?=some c/\(cz l e k h m).1=l.set k.toNat ⟨c.bj+m,c.held+h,c.bX,c.cD⟩):=by
 unfold cz at hz ⊢
 cases hc:l[k.toNat]? with
 |none=>rw [hc] at hz;exact ⟨hz,.inl ⟨rfl,rfl⟩⟩
 |some c=>
  rw [hc] at hz
  dsimp only at hz ⊢
  split at hz
  ·rename_i h0
   obtain ⟨h1,h2⟩:=fJ h0
   rcases qb (show dW c h m=((dW c h m).1,(dW c h m).2) from rfl) with ⟨h3,_⟩|h3
   ·exact absurd h2 h3
   ·rw [if_pos h0]
    exact ⟨h1,.inr ⟨c,rfl,by dsimp only;rw [h3.2.2.2.2.2.2.1]⟩⟩
  ·rename_i h0;exact absurd hz h0
theorem gH.shift {aj:List bx} {aq auths':List bz} {e k h m:Int} (hh:gH aj aq) (hz:(cz aj e k h m).2=0) (ha:∀ j:Nat,er j auths'=er j aq+if j=k.toNat then h else 0):gH (cz aj e k h m).1 auths':=by
 obtain ⟨_,hz⟩:=pA hz
 intro j c hc
 rcases hz with ⟨h1,h2⟩|⟨c0,h1,h2⟩
 ·rw [h2] at hc
  have:j≠k.toNat:=fun e=>by subst e;rw [h1] at hc;cases hc
  rw [hh j c hc,ha j,if_neg this];omega
 ·rw [h2,List.getElem?_set] at hc
  split at hc
  ·rename_i e
   split at hc
   ·injection hc with hc;subst hc
    have:=hh _ c0 h1
    rw [ha j,if_pos e.symm,<-e];dsimp only;omega
   ·cases hc
  ·rename_i e
   rw [hh j c hc,ha j,if_neg (Ne.symm e)];omega
theorem gH.same {aj:List bx} {aq:List bz} {e k m:Int} (hh:gH aj aq) (hz:(cz aj e k 0 m).2=0):gH (cz aj e k 0 m).1 aq:=hh.shift hz fun j=>by split<;>omega
theorem mZ {s:bR} {e:Int} {t:aW} (h:(eA s e t).2=0):e=0/\(fu s t).2=0/\(eA s e t).1=(fu s t).1:=by
 unfold eA at h ⊢
 split at h
 ·rename_i h0;obtain ⟨h1,h2⟩:=fJ h0;rw [if_pos h0];exact ⟨h1,h2,rfl⟩
 ·rename_i h0;exact absurd h h0
theorem rb {s:bR} {t:aW} (h:(fu s t).2=0):(cb s).err=0/\(cb (iG s t)).err=0/\(fu s t).1=iG s t:=by
 unfold fu at h ⊢
 split at h
 ·rename_i h1;exact absurd h h1
 split at h
 ·rename_i h1;exact absurd h h1
 ·rename_i h1 h2;rw [if_neg h1,if_neg h2];exact ⟨by omega,by omega,rfl⟩
theorem xM {s:bR} {n:Int} (h:(dO s n).2=0):(cb s).err=0/\0<=n/\n<=s.bE/\(dO s n).1=⟨s.bE,du (came n) s.kept⟩/\(cb (dO s n).1).err=0:=by
 rcases po (show dO s n=((dO s n).1,(dO s n).2) from rfl) with ⟨h1,_⟩|⟨_,h1,h2,h3,h4⟩
 ·exact absurd h h1
 ·exact ⟨h1,h2,h3,h4,by rw [h4];exact yR h1 h2 h3⟩
structure ec (b:Bk):Prop where
 ok:cm b
 held:gH b.aj b.aq
 s0:(cb b.s0).err=0
 s1:(cb b.s1).err=0
 st:bU b.bH=0
 used:b.bH.used.length=b.aj.length
 aN:∀ x∈b.aN,xl x
theorem rn {time:Int}:∀ (l:List bz) (i:Nat) (aj:List bx) (aq:List bz) (e:Int),(fI time l i aj aq e).2.2=0->e=0
 |[],_,_,_,_,h=>h
 |a::l,i,aj,aq,e,h=>(pA (rn l _ _ _ _ h)).1
theorem rp {time:Int}:∀ (l:List bz) (i:Nat) (aj:List bx) (aq:List bz) (e:Int),(fI time l i aj aq e).2.2=0->aq.drop i=l->(∀ a∈l,0<=a.aJ)->gH aj aq->gH (fI time l i aj aq e).1 (fI time l i aj aq e).2.1
 |[],_,_,_,_,_,_,_,h=>h
 |a::l,i,aj,aq,e,hz,hd,hp,h=>by
  have hat:aq[i]?=some a:=by
   have:(aq.drop i)[0]?=some a:=by rw [hd];rfl
   rwa [List.getElem?_drop,Nat.add_zero] at this
  have hilt:=(List.getElem?_eq_some_iff.1 hat).1
  refine rp l (i+1) _ _ _ hz ?_ (fun x hx=>hp x (List.mem_cons_of_mem _ hx)) (h.shift (rn l _ _ _ _ hz) fun j=>?_)
  ·rw [List.drop_set_of_lt (by omega)]
   have:aq.drop (i+1)=(aq.drop i).drop 1:=by rw [List.drop_drop]
   rw [this,hd];rfl
  ·have hc:=hp a List.mem_cons_self
   rw [nr _ _ hat]
   have:(ei a time).aJ=a.aJ:=rfl
   rw [this]
   by_cases e:a.aJ=(j:Int)
   ·rw [if_pos e,if_pos e,if_pos (by omega)];omega
   ·rw [if_neg e,if_neg e,if_neg (by omega)];omega
theorem zP {time:Int} (l:List bz) (i:Nat) (aj:List bx) (aq:List bz) (e:Int):(fI time l i aj aq e).1.length=aj.length:=by
 induction l generalizing i aj aq e with
 |nil=>rfl
 |cons a l ih=>exact (ih (i+1) _ _ _).trans (ff _ _ _ _ _)
theorem ec.late {b:Bk} (h:ec b):ec (gS b):=by
 have hok:=h.ok.late
 unfold gS at hok ⊢
 split
 ·rename_i h0
  rw [if_pos h0] at hok
  exact ⟨hok,rp _ _ _ _ _ h0 rfl (fun a ha=>(h.ok.perm a ha).2.1) h.held,h.s0,h.s1,h.st,by dsimp only;rw [zP];exact h.used,h.aN⟩
 ·exact h
theorem ec.start {s:Setup} (h:(ey s).err=0):ec (ik s):=by
 obtain ⟨h1,h2,h3,h4,h5,h6⟩:=kG h
 have hn:dx s.cap s.dd.length=({cap:=s.cap,used:=List.replicate s.dd.length 0,aX:=[]},0):=pH h1 ⟨h4,h5⟩
 refine ⟨cm.start h,fun k c hc=>?_,rfl,rfl,?_,?_,fun x hx=>by cases hx⟩
 ·have hc:(s.dd.map pk)[k]?=some c:=hc
  rw [List.getElem?_map] at hc
  cases hp:s.dd[k]? with
  |none=>rw [hp] at hc;cases hc
  |some p=>rw [hp] at hc;injection hc with hc;subst hc;rfl
 ·show bU (dx s.cap s.dd.length).1=0
  rw [hn];exact th _ _ h1 h4 h5
 ·show (dx s.cap s.dd.length).1.used.length=(s.dd.map pk).length
  rw [hn];simp
theorem ec.load {b:Bk} (h:ec b) (d:aE):ec (fB b d).1:=by
 have hok:=h.ok.load d
 unfold fB at hok ⊢
 split
 ·exact h
 rename_i c1
 rw [if_neg c1] at hok
 split
 ·exact h
 rename_i c2
 rw [if_neg c2] at hok
 unfold Dev.dC at hok ⊢
 split
 ·rename_i h0
  rw [if_pos h0] at hok
  exact ⟨hok,h.held.same (jD h0).1,h.s0,h.s1,h.st,by dsimp only;rw [ff];exact h.used,h.aN⟩
 ·exact h
theorem ec.uV {b:Bk} (h:ec b) (d:aE):ec (gX b d).1:=by
 have hok:=h.ok.uV d
 unfold gX at hok ⊢
 split
 ·exact h
 rename_i c1
 rw [if_neg c1] at hok
 split
 ·exact h
 rename_i c2
 rw [if_neg c2] at hok
 unfold Dev.dC at hok ⊢
 split
 ·rename_i h0;rw [if_pos h0] at hok;exact ⟨hok,h.held,h.s0,h.s1,h.st,h.used,h.aN⟩
 ·exact h
theorem ec.cK {b:Bk} (h:ec b) (d:aE):ec (fm b d).1:=by
 unfold fm
 split
 ·exact h
 ·have h1:ec {b with time:=b.time+d.sum}:=⟨h.ok.tick (by have:=h.ok.time;omega) (by have:=h.ok.time;omega),h.held,h.s0,h.s1,h.st,h.used,h.aN⟩
  dsimp only
  split
  ·exact h1
  ·exact h1.late
theorem ec.send {b:Bk} (h:ec b) (d:aE):ec {b with w0:=(ez b.s0 b.s1 b.n0 b.n1 b.w0 b.w1 d).1,w1:=(ez b.s0 b.s1 b.n0 b.n1 b.w0 b.w1 d).2.1}:=
 ⟨h.ok.send d,h.held,h.s0,h.s1,h.st,h.used,h.aN⟩
theorem qO {aq:List bz} {due:List Int} {aj:List bx} {book:List Entry} {e:Int} {t:aW} (h:gH aj aq) (hz:(dY aq due aj book e t).2.2.2=0):gH (dY aq due aj book e t).2.1 aq/\(dY aq due aj book e t).2.1.length=aj.length:=by
 unfold dY at hz ⊢
 split
 ·exact ⟨h,rfl⟩
 rename_i a ha
 rw [ha] at hz
 dsimp only at hz
 split
 ·exact ⟨h,rfl⟩
 rename_i c1
 rw [if_neg c1] at hz
 split
 ·rename_i c2;rw [if_pos c2] at hz;exact ⟨h.same (jD hz).1,ff _ _ _ _ _⟩
 split
 ·exact ⟨h,rfl⟩
 ·exact ⟨h,rfl⟩
theorem ec.lE {b:Bk} (h:ec b) (d:aE):ec (bS b d).1:=by
 have hok:=h.ok.lE d
 unfold bS at hok ⊢
 split
 ·rename_i c0
  rw [if_pos c0] at hok
  unfold fa at hok ⊢
  split
  ·exact h
  rename_i p hp
  rw [hp] at hok
  dsimp only at hok
  split
  ·rename_i c1;rw [if_pos c1] at hok;exact ⟨hok,h.held,h.s0,h.s1,h.st,h.used,h.aN⟩
  rename_i c1
  rw [if_neg c1] at hok
  split
  ·rename_i c2
   rw [if_pos c2] at hok
   split
   ·rename_i c3;rw [if_pos c3] at hok;exact ⟨hok,h.held,(xM c3).2.2.2.2,h.s1,h.st,h.used,h.aN⟩
   ·exact h
  rename_i c2
  rw [if_neg c2] at hok
  split
  ·rename_i c3
   rw [if_pos c3] at hok
   unfold Dev.dC at hok ⊢
   split
   ·rename_i c4;rw [if_pos c4] at hok;obtain ⟨r1,r2⟩:=qO h.held c4;exact ⟨hok,r1,h.s0,h.s1,h.st,h.used.trans r2.symm,h.aN⟩
   ·exact h
  ·rename_i c3;rw [if_neg c3] at hok;exact ⟨hok,h.held,h.s0,h.s1,h.st,h.used,h.aN⟩
 rename_i c0
 rw [if_neg c0] at hok
 split
 ·rename_i c01
  rw [if_pos c01] at hok
  unfold eZ at hok ⊢
  split
  ·exact h
  rename_i p hp
  rw [hp] at hok
  dsimp only at hok
  split
  ·rename_i c1;rw [if_pos c1] at hok;exact ⟨hok,h.held,h.s0,h.s1,h.st,h.used,h.aN⟩
  rename_i c1
  rw [if_neg c1] at hok
  split
  ·rename_i c2
   rw [if_pos c2] at hok
   split
   ·rename_i c3;rw [if_pos c3] at hok;exact ⟨hok,h.held,h.s0,(xM c3).2.2.2.2,h.st,h.used,h.aN⟩
   ·exact h
  rename_i c2
  rw [if_neg c2] at hok
  split
  ·rename_i c3
   rw [if_pos c3] at hok
   unfold Dev.dC at hok ⊢
   split
   ·rename_i c4;rw [if_pos c4] at hok;obtain ⟨r1,r2⟩:=qO h.held c4;exact ⟨hok,r1,h.s0,h.s1,h.st,h.used.trans r2.symm,h.aN⟩
   ·exact h
  ·rename_i c3;rw [if_neg c3] at hok;exact ⟨hok,h.held,h.s0,h.s1,h.st,h.used,h.aN⟩
 ·exact h
theorem Ac {s:cw} {a:ca} (h:(cj s a).2=0):(cj s a).1.used.length=s.used.length:=by
 unfold cj at h ⊢
 split at h
 ·rename_i h1;exact absurd h h1
 split at h
 ·cases h
 split at h
 ·cases h
 split at h
 ·cases h
 ·rename_i h1 h2 h3 h4;rw [if_neg h1,if_neg h2,if_neg h3,if_neg h4];exact List.length_set ..
theorem gH.new {aj:List bx} {aq:List bz} {k:Int} {c c':bx} {a:bz} (hh:gH aj aq) (hk:0<=k) (hc:aj[k.toNat]?=some c) (ha:a.aJ=k) (h':c'.held=c.held+bu a):gH (aj.set k.toNat c') (aq++[a]):=by
 intro j z hz
 rw [ry]
 have h1:er j [a]=if a.aJ=j then bu a else 0:=by simp [er]
 rw [h1]
 rw [List.getElem?_set] at hz
 split at hz
 ·rename_i e
  split at hz
  ·injection hz with hz;subst hz
   have:=hh _ c hc
   rw [if_pos (by omega),<-e];omega
  ·cases hz
 ·rename_i e
  rw [hh j z hz,if_neg (by omega)];omega
theorem ec.asks {b:Bk} (h:ec b) (d:aE):ec (dJ b d).1:=by
 have hok:=h.ok.asks d
 unfold dJ at hok ⊢
 split
 ·exact h
 rename_i c0
 rw [if_neg c0] at hok
 split
 ·rename_i cd
  rw [if_pos cd] at hok
  split
  ·exact h
  rename_i c1
  rw [if_neg c1] at hok
  split
  ·exact h
  rename_i c2
  rw [if_neg c2] at hok
  have he:=rC (show gF (cj b.bH ⟨d.n,d.ax,d.sum,b.time⟩).2=0 by omega)
  exact ⟨hok,h.held,h.s0,h.s1,(yu h.st he).1,(Ac he).trans h.used,h.aN⟩
 rename_i cd
 rw [if_neg cd] at hok
 split
 ·exact h
 rename_i c2
 rw [if_neg c2] at hok
 split
 ·exact h
 rename_i c3
 rw [if_neg c3] at hok
 obtain ⟨_,w2,_⟩:=oz (show (de d.n d.ax d.sum b.time).2=0 by omega)
 split
 ·exact h
 rename_i c hc
 rw [hc] at hok
 dsimp only at hok
 split
 ·exact h
 rename_i c4
 rw [if_neg c4] at hok
 refine ⟨hok,h.held.new (by omega) hc (by rw [w2]) ?_,h.s0,h.s1,h.st,by dsimp only;rw [List.length_set];exact h.used,h.aN⟩
 rcases qD (show dK c d.sum b.time=((dK c d.sum b.time).1,(dK c d.sum b.time).2) from rfl) with ⟨h5,_⟩|⟨h5,h6,h7,h8,h9,h10,h11,l,h12,h13⟩
 ·omega
 ·rw [h13,w2];simp [bu]
theorem ux:∀ (l:List ca) (cs:List bx) (xs:List bz),(gh l cs xs).2.2=0->gH cs xs->(∀ a∈l,0<=a.aJ/\a.aJ < cs.length)->gH (gh l cs xs).1 (gh l cs xs).2.1/\(gh l cs xs).1.length=cs.length
 |[],cs,xs,_,h,_=>⟨h,rfl⟩
 |x::l,cs,xs,hz,h,hl=>by
  unfold gh at hz ⊢
  split at hz
  ·rename_i h1;exact absurd hz h1
  rename_i h1
  rw [if_neg h1]
  have hx:=hl x List.mem_cons_self
  cases hc:cs[x.aJ.toNat]? with
  |none=>have:=List.getElem?_eq_none_iff.1 hc;omega
  |some c=>
   rw [hc] at hz
   dsimp only at hz ⊢
   split at hz
   ·rename_i h2;exact absurd hz h2
   rename_i h2
   rw [if_neg h2]
   obtain ⟨_,w2,_⟩:=oz (show (de x.aJ x.ax x.sum x.time).2=0 by omega)
   obtain ⟨_,f2,_⟩:=oI (show (eO c x.sum).2=0 by omega)
   have:=ux l _ _ hz (h.new hx.1 hc (by rw [w2]) (by rw [f2,w2];simp [bu])) (fun a ha=>by rw [List.length_set];exact hl a (List.mem_cons_of_mem _ ha))
   rw [List.length_set] at this
   exact this
theorem ec.DK {b:Bk} (h:ec b):ec (jc b).1:=by
 unfold jc
 split
 ·exact h
 split
 ·exact h
 split
 ·exact h
 rename_i c1 c2 c3
 have h0:(cW b.bH).2.2=0:=by omega
 obtain ⟨r1,r2,r3⟩:=qB h0
 have hu:=h.ok.AZ h0
 have hz:(gh (cW b.bH).2.1 b.aj b.aq).2.2=0:=by omega
 obtain ⟨u1,u2⟩:=ux _ _ _ hz h.held (fun a ha=>by rw [r3] at ha;have:=h.ok.jv a ha;omega)
 have hp:=gM h.st
 refine ec.late ⟨hu,u1,h.s0,h.s1,?_,?_,h.aN⟩
 ·dsimp only;rw [r2]
  have hc:0<=b.bH.cap/\b.bH.cap<=1000000:=by simpa [gb] using hp.2.2.1
  exact th _ _ hp.1 hc.1 hc.2
 ·dsimp only;rw [r2,u2];simp [h.used]
theorem ec.lD {b:Bk} (h:ec b) (d:aE):ec (di b d).1:=by
 have hok:=h.ok.lD d
 unfold di at hok ⊢
 split
 ·exact h
 rename_i cd
 rw [if_neg cd] at hok
 split
 ·exact h
 rename_i c1
 rw [if_neg c1] at hok
 split
 ·exact h
 rename_i cu ho
 rw [ho] at hok
 dsimp only at hok
 split
 ·exact h
 rename_i c2
 rw [if_neg c2] at hok
 split
 ·exact h
 rename_i c3
 rw [if_neg c3] at hok
 have hmv:bN cu d.move d.sum=((bN cu d.move d.sum).1,0):=Prod.ext rfl (by dsimp only;omega)
 generalize (bN cu d.move d.sum).1=a at *
 obtain ⟨_,hwa,hcard,hshop,hk1,hk2,hn1,hn2⟩:=mq hmv
 rcases qi hmv with ⟨h4,_⟩|⟨_,hw,_,_,hm⟩
 ·exact absurd rfl h4
 have hp:=h.ok.perm cu (List.mem_of_getElem? ho)
 have hra:=eN hwa
 have hset:∀ j:Nat,er j (b.aq.set d.n.toNat a)=er j b.aq+if j=a.aJ.toNat then bu a - bu cu else 0:=fun j=>by
  rw [nr _ _ ho,hcard]
  by_cases e:cu.aJ=(j:Int)
  ·rw [if_pos e,if_pos e,if_pos (by omega)];omega
  ·rw [if_neg e,if_neg e,if_neg (by omega)];omega
 have hsame:bu a=bu cu->∀ j:Nat,er j (b.aq.set d.n.toNat a)=er j b.aq:=fun e j=>by rw [hset j];split<;>omega
 have hh:d.move=5\/d.move=6\/d.move=7\/d.move=8->bu a=bu cu:=fun e=>by
  cases hm with
  |uS _ _=>rfl
  |sE _ _=>rfl
  |sy _ _=>rfl
  |sw _ _=>rfl
  |more h _ _=>omega
  |take h _ _=>omega
  |less h _ _=>omega
 unfold kl Dev.dC at hok ⊢
 split
 rotate_left
 ·exact h
 rename_i h0
 rw [if_pos h0] at hok
 obtain ⟨e0,hl0,hnote⟩:=yi h0
 have key:gH (dH b a cu d).1 (b.aq.set d.n.toNat a)/\(cb (dH b a cu d).2.2.2.1).err=0/\(cb (dH b a cu d).2.2.2.2.1).err=0/\(dH b a cu d).1.length=b.aj.length:=by
  unfold dH at e0 ⊢
  split at e0
  ·rename_i hk;rw [if_pos hk];exact ⟨h.held.shift e0 hset,h.s0,h.s1,ff _ _ _ _ _⟩
  rename_i k1
  rw [if_neg k1]
  split at e0
  ·rename_i hk;rw [if_pos hk]
   obtain ⟨e1,e2,e3⟩:=mZ e0
   obtain ⟨_,p2,p3⟩:=rb e2
   exact ⟨h.held.shift (jD e1).1 hset,by dsimp only;rw [e3,p3];exact p2,h.s1,ff _ _ _ _ _⟩
  rename_i k2
  rw [if_neg k2]
  split at e0
  ·rename_i hk;rw [if_pos hk]
   obtain ⟨e1,e2,e3⟩:=mZ e0
   obtain ⟨_,p2,p3⟩:=rb e2
   exact ⟨fun j c hc=>by rw [hsame (hh (.inl hk)) j];exact h.held j c hc,h.s0,by dsimp only;rw [e3,p3];exact p2,rfl⟩
  rename_i k3
  rw [if_neg k3]
  split at e0
  ·rename_i hk;rw [if_pos hk]
   exact ⟨h.held.shift (jD e0).1 fun j=>by rw [hsame (hh (.inr (.inl hk))) j];split<;>omega,h.s0,h.s1,ff _ _ _ _ _⟩
  rename_i k4
  rw [if_neg k4]
  split at e0
  ·rename_i hk;rw [if_pos hk]
   obtain ⟨e1,e2,e3⟩:=mZ e0
   obtain ⟨_,p2,p3⟩:=rb e2
   exact ⟨fun j c hc=>by rw [hsame (hh (.inr (.inr (.inl hk)))) j];exact h.held j c hc,by dsimp only;rw [e3,p3];exact p2,h.s1,rfl⟩
  rename_i k5
  rw [if_neg k5]
  split at e0
  ·rename_i hk;rw [if_pos hk]
   exact ⟨h.held.shift (jD e0).1 fun j=>by rw [hsame (hh (.inr (.inr (.inr hk)))) j];split<;>omega,h.s0,h.s1,ff _ _ _ _ _⟩
  ·omega
 refine ⟨hok,key.1,key.2.1,key.2.2.1,h.st,h.used.trans key.2.2.2.symm,fun x hx=>?_⟩
 dsimp only at hx
 rw [hnote] at hx
 rcases List.mem_append.1 hx with hx|hx
 ·exact h.aN x hx
 ·obtain rfl:=List.mem_singleton.1 hx
  have hlen:=h.ok.aq
  constructor
  ·unfold mu;dsimp only;omega
  ·unfold nG;dsimp only;omega
theorem ec.Cb {b:Bk} (h:ec b) (y:List (List Int)) (d:aE):ec (cY b y d).1:=by
 unfold cY
 split
 ·exact h.load d
 split
 ·exact h.asks d
 split
 ·exact h.lD d
 split
 ·exact h.cK d
 split
 ·exact h.send d
 split
 ·exact h.lE d
 split
 ·split
  ·exact h
  ·exact ⟨⟨h.ok.time,h.ok.aj,h.ok.due,h.ok.aq,h.ok.aN,h.ok.w0,h.ok.w1,h.ok.perm,h.ok.jv,h.ok.k0,h.ok.k1,h.ok.right,h.ok.l0,h.ok.l1,h.ok.p0,h.ok.p1,h.ok.n0,h.ok.n1,fun h=>by cases h⟩,h.held,h.s0,h.s1,h.st,h.used,h.aN⟩
 split
 ·exact h.DK
 split
 ·refine ⟨h.ok.qc (lQ (y:=y) h.ok.aN).1,h.held,h.s0,h.s1,h.st,h.used,?_⟩
  unfold iP
  split
  ·exact h.aN
  ·exact fun x hx=>by cases hx
 split
 ·exact h.uV d
 ·exact h
end
section
structure HL (n:Nat) (aq:List bz) (hl:List Int):Prop where
 len:hl.length=n
 at_:∀ k:Nat,k < n->hl[k]?=some (er k aq)
theorem HL.start (n:Nat):HL n [] (List.replicate n 0):=⟨List.length_replicate,fun k hk=>by rw [List.getElem?_replicate,if_pos hk];rfl⟩
theorem HL.step {n:Nat} {u:List bz} {hl:List Int} {a:bz} {x v:Int} (h:HL n u hl) (ha:0<=a.aJ/\a.aJ < n) (hx:hl[a.aJ.toNat]?=some x) (hv:v=x+bu a):HL n (u++[a]) (hl.set a.aJ.toNat v):=by
 refine ⟨(List.length_set ..).trans h.len,fun k hk=>?_⟩
 rw [ry]
 have h1:er k [a]=if a.aJ=k then bu a else 0:=by simp [er]
 rw [h1,List.getElem?_set]
 have h2:=h.at_ k hk
 split
 ·rename_i e
  rw [e] at hx
  rw [hx] at h2
  injection h2 with h2
  rw [if_pos (by rw [h.len];omega),if_pos (by omega),hv,h2]
 ·rename_i e
  rw [if_neg (by omega),h2];simp
theorem vq (k:Int):∀ {l:List bz},(∀ a∈l,bC a=0)->0<=er k l/\er k l<=1000000 * l.length
 |[],_=>by simp [er]
 |a::l,h=>by
  have:=vq k (l:=l) fun x hx=>h x (List.mem_cons_of_mem _ hx)
  have h2:=oE (h a List.mem_cons_self)
  simp only [er,List.length_cons]
  split<;>omega
theorem HL.b {n:Nat} {u:List bz} {hl:List Int} {k:Nat} {x:Int} (h:HL n u hl) (hx:hl[k]?=some x) (hu:∀ a∈u,bC a=0) (hl':u.length<=30):0<=x/\x<=30000000:=by
 have hk:=(List.getElem?_eq_some_iff.1 hx).1
 have h2:=h.at_ k (by rw [<-h.len];exact hk)
 rw [hx] at h2;injection h2 with h2
 have:=vq k hu
 omega
end
def eQ:List aE->Bk->List (List Int)->List Answer->Bk×List (List Int)×List Answer
 |[],b,y,out=>(b,y,out)
 |d::l,b,y,out=>eQ l (cY b y d).1 (cY b y d).2.1 (out++[(cY b y d).2.2])
theorem rf:∀ {l:List aE},(∀ d∈l,d.id=0)->∀ (b:Bk) (y:List (List Int)) (told:List (Int×Answer)) (cl:Nat) (out:List Answer),kh l b y told cl out=eQ l b y out
 |[],_,_,_,_,_,_=>rfl
 |d::l,h,b,y,told,cl,out=>by
  have h0:fH b y told cl d=((cY b y d).1,(cY b y d).2.1,oa told d.id (cY b y d).2.2,if (iD told d.id).isSome then cl else cl+1,(cY b y d).2.2):=by
   unfold fH;rw [if_neg (fun h'=>h'.2 (h d (by simp)))]
  unfold kh eQ
  rw [h0]
  exact rf (fun x hx=>h x (by simp [hx])) _ _ _ _ _
theorem dU {d:aE} {l:List aE} {b b':Bk} {y y':List (List Int)} {out:List Answer} {a:Answer} (h:cY b y d=(b',y',a)):eQ (d::l) b y out=eQ l b' y' (out++[a]):=by
 rw [eQ,h]
def ig (limit:Int):Bk:=⟨0,false,[⟨0,0,⟨1000,30,1000000000000⟩,[]⟩,⟨0,0,⟨1000,30,1000000000000⟩,[]⟩],[0,0],[],⟨0,[]⟩,⟨0,[]⟩,0,0,[],[],⟨limit,[0,0],[]⟩,[],[]⟩
theorem Dy {n:Int} (h0:0<=n) (h1:n<=1000000):gb n=true:=by
 exact decide_eq_true ⟨h0,h1⟩
theorem CJ {limit:Int} {l:List aE} (h0:0<=limit) (h1:limit<=1000000) (hl:l.length<=150) (hz:∀ d∈l,d.id=0):
  gq ⟨[⟨1000,30,1000000000000⟩,⟨1000,30,1000000000000⟩],2,limit⟩ l=((eQ l (ig limit) [] []).1,(eQ l (ig limit) [] []).2.1,(eQ l (ig limit) [] []).2.2,⟨0,0⟩):=by
 have hw:ey ⟨[⟨1000,30,1000000000000⟩,⟨1000,30,1000000000000⟩],2,limit⟩=⟨0,0⟩:=by
  unfold ey
  rw [if_neg (by simp),if_neg (by dsimp only;omega)]
  rfl
 have hs:ik ⟨[⟨1000,30,1000000000000⟩,⟨1000,30,1000000000000⟩],2,limit⟩=ig limit:=by
  unfold ik ig dx
  rw [if_neg (by simp),if_neg (fun h=>h (Dy h0 h1))]
  rfl
 unfold gq
 rw [hw,if_neg (by simp),if_neg (by omega),hs,rf hz]
theorem jU {l:List Entry} {src dst n:Int} (hw:(dh l).err=0) (hs:0<=src/\src<=57) (hd:0<=dst/\dst<=57) (hne:src≠dst) (hn:0<=n/\n<=1000000000000)
  (h1:-1000000000000<=cc l src - n) (h2:cc l dst+n<=1000000000000):
  ∃ r,dT l 0 src dst n=(r,0)/\(dh r).err=0/\∀ x,cc r x=cc l x+(if x=dst then n else 0) - (if x=src then n else 0):=by
 have hR:=(kT.1 hw).1
 have hbd:∀ a,-1000000000000<=cc l a/\cc l a<=1000000000000:=fun a=>yv fun x hx=>by
  have:=hR.ok x hx;omega
 have b1:=hbd src;have b2:=hbd dst
 have hp:∃ r,fc l [⟨src,0 - n⟩,⟨dst,n⟩]=some r:=by
  refine ⟨gK (gK l src (cc l src+(0 - n))) dst (cc l dst+n),?_⟩
  unfold fc
  rw [if_pos (lU.2 ⟨by dsimp only;omega,by dsimp only;omega⟩)]
  unfold fc
  dsimp only
  rw [qm hR.up,if_neg hne,if_pos (lU.2 ⟨by omega,by omega⟩)]
  rfl
 obtain ⟨r,hr⟩:=hp
 have hpo:fZ l [⟨src,0 - n⟩,⟨dst,n⟩]=(r,0):=by
  rw [qh hw (by simp) (fun x hx=>by simp only [List.mem_cons,List.not_mem_nil,or_false] at hx;rcases hx with rfl|rfl<;>(unfold eV;dsimp only;omega)) (by simp only [eo];omega),hr]
 have hm:iQ l src dst n=(r,0):=by unfold iQ;rw [if_neg (by omega)];exact hpo
 refine ⟨r,?_,(oq hpo 0).1,fun x=>?_⟩
 ·unfold dT;rw [hm];rfl
 ·rw [(oq hpo x).2];simp only [lu]
  have e1:(src=x)=(x=src):=propext ⟨Eq.symm,Eq.symm⟩
  have e2:(dst=x)=(x=dst):=propext ⟨Eq.symm,Eq.symm⟩
  simp only [e1,e2]
  split<;>split<;>omega
theorem yY {c:bx} {m h:Int} (hw:cr c=0) (h1:-1000000000000<=m/\m<=1000000000000) (h2:0<=h/\h<=1000000000000):cr ⟨m,h,c.bX,c.cD⟩=0:=by
 have:=fV hw
 unfold cr;rw [if_neg (by dsimp only;omega),if_neg (fun x=>x this.2.2.2.2.1)];exact this.2.2.2.2.2
theorem lL {l:List bx} {k held bj:Int} {c:bx} (hc:l[k.toNat]?=some c) (hw:cr c=0) (h1:-1000000000000<=c.bj+bj/\c.bj+bj<=1000000000000) (h2:0<=c.held+held/\c.held+held<=1000000000000)
  (h3:-1000000000000<=held/\held<=1000000000000) (h4:-1000000000000<=bj/\bj<=1000000000000):cz l 0 k held bj=(l.set k.toNat ⟨c.bj+bj,c.held+held,c.bX,c.cD⟩,0):=by
 have hs:dW c held bj=(⟨c.bj+bj,c.held+held,c.bX,c.cD⟩,0):=by
  unfold dW;rw [if_neg (fun h=>h hw),if_neg (by omega),if_neg (fun h=>h (yY hw h1 h2))]
 rw [oe hc,hs];rfl
theorem Cd {b:Bk} {n s:Int} {c:bx} (hn:0<=n/\n<=7) (hs:1<=s/\s<=1000000) (hc:b.aj[n.toNat]?=some c) (hw:cr c=0) (hm:c.bj+s<=1000000000000) (hb:(dh b.book).err=0)
  (h1:-1000000000000<=cc b.book 0 - s) (h2:cc b.book (10+n)+s<=1000000000000):
  ∃ r,(∀ y,cY b y ⟨0,1,n,0,0,s⟩=({b with aj:=b.aj.set n.toNat ⟨c.bj+s,c.held,c.bX,c.cD⟩,book:=r},y,⟨0,0⟩))/\(dh r).err=0/\∀ x,cc r x=cc b.book x+(if x=10+n then s else 0) - (if x=0 then s else 0):=by
 have hlt:=(List.getElem?_eq_some_iff.1 hc).1
 have hR:=fV hw
 obtain ⟨r,hr,hrw,hrg⟩:=jU (l:=b.book) (src:=0) (dst:=10+n) (n:=s) hb (by omega) (by omega) (by omega) (by omega) h1 h2
 refine ⟨r,fun y=>?_,hrw,hrg⟩
 have hS:=lL (l:=b.aj) (k:=n) (held:=0) (bj:=s) hc hw (by omega) (by omega) (by omega) (by omega)
 have hL:fB b ⟨0,1,n,0,0,s⟩=({b with aj:=b.aj.set n.toNat ⟨c.bj+s,c.held,c.bX,c.cD⟩,book:=r},⟨0,0⟩):=by
  unfold fB
  rw [if_neg (by dsimp only;omega),if_neg (by dsimp only;omega)]
  dsimp only
  rw [hS];dsimp only;rw [hr,Int.add_zero];rfl
 unfold cY;rw [if_pos rfl,hL]
theorem Dw {b:Bk} {n p s:Int} {c c':bx} (hd:b.down=false) (hn:0<=n/\n<=7) (hp:0<=p/\p < b.due.length) (hp7:p<=7) (hs:1<=s/\s<=1000000) (ht:0<=b.time/\b.time<=1000000) (ha:b.aq.length < 30) (hc:b.aj[n.toNat]?=some c)
  (hA:dK c s b.time=(c',0)) (y:List (List Int)):
  cY b y ⟨0,2,n,p,0,s⟩=({b with aj:=b.aj.set n.toNat c',aq:=b.aq++[⟨n,p,s,0,0,0,b.time+100,false⟩]},y,⟨0,b.aq.length⟩):=by
 have hlt:=(List.getElem?_eq_some_iff.1 hc).1
 have hN:de n p s b.time=(⟨n,p,s,0,0,0,b.time+100,false⟩,0):=by unfold de;rw [if_neg (by omega)]
 have hL:dJ b ⟨0,2,n,p,0,s⟩=({b with aj:=b.aj.set n.toNat c',aq:=b.aq++[⟨n,p,s,0,0,0,b.time+100,false⟩]},⟨0,b.aq.length⟩):=by
  unfold dJ
  rw [if_neg (by dsimp only;omega),if_neg (by rw [hd];decide)]
  dsimp only
  rw [hN,if_neg (by omega),if_neg (by simp)]
  dsimp only
  rw [hc]
  dsimp only
  rw [hA,if_neg (by simp)]
 unfold cY;rw [if_neg (by dsimp only;omega),if_pos rfl,hL]
theorem Al {c:bx} {s t:Int} (hw:cr c=0) (hs:1<=s/\s<=1000000) (ht:0<=t/\t<=1000000) (hm:c.held+s<=c.bj) (hP:c.bX=⟨1000,30,1000000000000⟩) (hu:c.cD=[]):
  dK c s t=(⟨c.bj,c.held+s,⟨1000,30,1000000000000⟩,[⟨t,s⟩]⟩,0):=by
 have hR:=fV hw
 have h1:(fe [⟨t,s⟩]).err=0:=by
  have h0:iZ [⟨t,s⟩] 0=0:=by
   unfold iZ
   dsimp only [List.getElem?_cons_zero]
   rw [if_neg (by omega),if_neg (by omega)]
  unfold fe cD
  rw [if_neg (by simp)]
  simp [scan,h0]
 have hA:ek ⟨1000,30,1000000000000⟩ [] ⟨t,s⟩=([⟨t,s⟩],0):=by
  unfold ek
  rw [if_neg (by decide),if_neg (by decide),if_neg (by omega),if_neg (by simp [gn])]
  rw [show dD ⟨1000,30,1000000000000⟩ [] t=[] from rfl]
  rw [if_neg (by simp [gJ];omega)];rfl
 unfold dK
 rw [if_neg (by omega),if_neg (by omega),if_neg (by omega),hP,hu,hA,if_neg (by simp)]
theorem Dv {b:Bk} {n m s:Int} {a a':bz} {c:bx} {s':bR} (hd:b.down=false) (hm:m=2\/m=3) (hs:1<=s/\s<=1000000) (hn:0<=n) (ha:b.aq[n.toNat]?=some a) (hM:bN a m s=(a',0)) (hk:0<=a'.aJ/\a'.aJ<=7)
  (hc:b.aj[a'.aJ.toNat]?=some c) (hw:cr c=0) (h1:-1000000000000<=c.bj - s) (h2:0<=c.held+(bu a' - bu a)/\c.held+(bu a' - bu a)<=1000000000000) (h3:-1000000000000<=bu a' - bu a/\bu a' - bu a<=1000000000000)
  (hb:(dh b.book).err=0) (h4:-1000000000000<=cc b.book (10+a'.aJ) - s) (h5:cc b.book 1+s<=1000000000000) (hP:fu b.s0 ⟨0,1,n,s⟩=(s',0)) (hT:b.aN.length < 100):
  ∃ r,(∀ y,cY b y ⟨0,3,n,0,m,s⟩=({b with aj:=b.aj.set a'.aJ.toNat ⟨c.bj - s,c.held+(bu a' - bu a),c.bX,c.cD⟩,book:=r,s0:=s',aN:=b.aN++[⟨a'.ax,n,m,s⟩],aq:=b.aq.set n.toNat a'},y,⟨0,0⟩))/\
   (dh r).err=0/\∀ x,cc r x=cc b.book x+(if x=1 then s else 0) - (if x=10+a'.aJ then s else 0):=by
 have hlt:=(List.getElem?_eq_some_iff.1 ha).1
 have hR:=fV hw
 obtain ⟨r,hr,hrw,hrg⟩:=jU (l:=b.book) (src:=10+a'.aJ) (dst:=1) (n:=s) hb (by omega) (by omega) (by omega) (by omega) h4 h5
 refine ⟨r,fun y=>?_,hrw,hrg⟩
 have hS:=lL (l:=b.aj) (k:=a'.aJ) (held:=bu a' - bu a) (bj:=0 - s) hc hw (by omega) h2 h3 (by omega)
 rw [show c.bj+(0 - s)=c.bj - s by omega] at hS
 have hL:di b ⟨0,3,n,0,m,s⟩=({b with aj:=b.aj.set a'.aJ.toNat ⟨c.bj - s,c.held+(bu a' - bu a),c.bX,c.cD⟩,book:=r,s0:=s',aN:=b.aN++[⟨a'.ax,n,m,s⟩],aq:=b.aq.set n.toNat a'},⟨0,0⟩):=by
  unfold di
  rw [if_neg (by rw [hd];decide),if_neg (by dsimp only;omega)]
  dsimp only
  rw [ha]
  dsimp only
  rw [hM,if_neg (by simp),if_neg (by omega)]
  unfold dH
  dsimp only
  rw [if_neg (by omega),if_pos hm,hS]
  dsimp only
  rw [hr]
  unfold eA
  rw [hP]
  unfold kl gE
  dsimp only
  rw [if_pos (show dv 0 0=0 from rfl),if_neg (show ¬b.aN.length=100 by omega)]
  rfl
 unfold cY;rw [if_neg (by dsimp only;omega),if_neg (by dsimp only;omega),if_pos rfl,hL]
def PT:cO:=⟨1000,30,1000000000000⟩
theorem wV {m h:Int} (h1:-1000000000000<=m/\m<=1000000000000) (h2:0<=h/\h<=1000000000000):cr ⟨m,h,PT,[]⟩=0:=by
 unfold cr;rw [if_neg (by dsimp only;omega)];rfl
theorem sZ {k s:Int} (hk:1<=k/\k<=3) (hs:1<=s/\s<=1000000):fu ⟨0,[]⟩ ⟨0,k,0,s⟩=(⟨1,[⟨1,k,0,s⟩]⟩,0):=by
 have h0:jN (iG ⟨0,[]⟩ ⟨0,k,0,s⟩) 0=0:=by
  unfold jN iG
  simp only [List.nil_append,List.getElem?_cons_zero,List.length_singleton]
  rw [if_neg (by omega),if_neg (by omega),if_neg (by omega)]
 have hw:(cb (iG ⟨0,[]⟩ ⟨0,k,0,s⟩)).err=0:=by
  unfold cb jb
  rw [if_neg (by simp [iG]),if_neg (by simp [iG])]
  show (scan (jN (iG ⟨0,[]⟩ ⟨0,k,0,s⟩)) 0 1).1=0
  simp [scan,h0]
 unfold fu
 rw [if_neg (by decide),if_neg (fun h=>h hw)]
 rfl
theorem zI {a:bz} {m s:Int} (hw:bC a=0) (hm:1<=m/\m<=4) (hs:1<=s/\s<=1000000):bN a m s=if (dm a m s).2≠0 then (iI,(dm a m s).2) else dm a m s:=by
 unfold bN
 rw [if_neg (fun h=>h hw),if_neg (by omega),if_neg (by omega),if_neg (by omega),if_neg (by omega),if_neg (by omega),if_neg (by omega)]
theorem Bw {a:bz} {m s:Int} (hw:bC a=0) (hm:m=2\/m=3) (hs:1<=s/\s<=1000000) (h:a.shut=false) (hc:s<=a.sum - a.captured):
  bN a m s=(⟨a.aJ,a.ax,a.sum,a.captured+s,a.br,a.bd,a.cS,decide (m=3)||decide (a.captured+s=a.sum)⟩,0):=by
 have:dm a m s=(⟨a.aJ,a.ax,a.sum,a.captured+s,a.br,a.bd,a.cS,decide (m=3)||decide (a.captured+s=a.sum)⟩,0):=by
  unfold dm;rw [if_neg (by rw [h];decide),if_neg (by omega),if_neg (by omega),if_neg (by omega)]
 rw [zI hw (by omega) hs,this,if_neg (by simp)]
theorem AJ {b:Bk} (h:b.w0=[]) (y:List (List Int)):cY b y ⟨0,6,0,0,0,0⟩=(b,y,⟨6,0⟩):=by
 have hL:bS b ⟨0,6,0,0,0,0⟩=(b,⟨6,0⟩):=by
  unfold bS
  rw [if_pos rfl]
  unfold fa
  rw [h]
  rfl
 unfold cY;rw [if_neg (by dsimp only;omega),if_neg (by dsimp only;omega),if_neg (by dsimp only;omega),if_neg (by dsimp only;omega),if_neg (by dsimp only;omega),if_pos (Or.inl rfl),hL]

theorem wc {b:Bk} {w:List bV} {t:aW} {n:Int} {s:bR} (h:b.w0=⟨t,n⟩::w) (hn:0<=n) (hb:dO b.s0 n=(s,0)) (y:List (List Int)):cY b y ⟨0,6,0,0,0,0⟩=({b with w0:=w,s0:=s},y,⟨0,0⟩):=by
 have hL:bS b ⟨0,6,0,0,0,0⟩=({b with w0:=w,s0:=s},⟨0,0⟩):=by
  unfold bS
  rw [if_pos rfl]
  unfold fa
  rw [h]
  dsimp only [List.getElem?_cons_zero]
  rw [if_neg (by omega),if_pos hn,hb,if_pos rfl]
  rfl
 unfold cY;rw [if_neg (by dsimp only;omega),if_neg (by dsimp only;omega),if_neg (by dsimp only;omega),if_neg (by dsimp only;omega),if_neg (by dsimp only;omega),if_pos (Or.inl rfl),hL]

theorem Cv {b:Bk} {w:List bV} {t:aW} (h:b.w0=⟨t,-1⟩::w) (hn:t.number≠b.n0+1) (y:List (List Int)):cY b y ⟨0,6,0,0,0,0⟩=({b with w0:=w},y,⟨0,0⟩):=by
 have hT:fr b.n0 t=(b.n0,false):=by unfold fr;rw [if_pos (by omega)]
 have hL:bS b ⟨0,6,0,0,0,0⟩=({b with w0:=w},⟨0,0⟩):=by
  unfold bS
  rw [if_pos rfl]
  unfold fa
  rw [h]
  dsimp only [List.getElem?_cons_zero]
  rw [if_neg (by omega),if_neg (by omega),hT,if_neg (by simp)]
  rfl
 unfold cY;rw [if_neg (by dsimp only;omega),if_neg (by dsimp only;omega),if_neg (by dsimp only;omega),if_neg (by dsimp only;omega),if_neg (by dsimp only;omega),if_pos (Or.inl rfl),hL]

theorem AH {b:Bk} {w:List bV} {t:aW} {due:List Int} {cs:List bx} {bk:List Entry} (h:b.w0=⟨t,-1⟩::w) (hn:t.number=b.n0+1) (h0:0<=b.n0/\b.n0 < 1000000) (hk:dY b.aq b.due b.aj b.book 0 t=(due,cs,bk,0)) (y:List (List Int)):cY b y ⟨0,6,0,0,0,0⟩=({b with w0:=w,n0:=b.n0+1,due:=due,aj:=cs,book:=bk},y,⟨0,0⟩):=by
 have hT:fr b.n0 t=(b.n0+1,true):=by unfold fr;rw [if_neg (by omega)]
 have hL:bS b ⟨0,6,0,0,0,0⟩=({b with w0:=w,n0:=b.n0+1,due:=due,aj:=cs,book:=bk},⟨0,0⟩):=by
  unfold bS
  rw [if_pos rfl]
  unfold fa
  rw [h]
  dsimp only [List.getElem?_cons_zero]
  rw [if_neg (by omega),if_neg (by omega),hT,if_pos rfl,hk]
  rfl
 unfold cY;rw [if_neg (by dsimp only;omega),if_neg (by dsimp only;omega),if_neg (by dsimp only;omega),if_neg (by dsimp only;omega),if_neg (by dsimp only;omega),if_pos (Or.inl rfl),hL]

theorem Bf {b:Bk} (h:(gD b.w1 b.s0.kept b.n0).length<=60) (y:List (List Int)):cY b y ⟨0,5,0,0,0,0⟩=({b with w1:=gD b.w1 b.s0.kept b.n0},y,⟨0,0⟩):=by
 have hQ:hZ b.w1 b.s0.kept b.n0=(gD b.w1 b.s0.kept b.n0,⟨0,0⟩):=by unfold hZ;rw [if_neg (by omega)]
 have hL:ez b.s0 b.s1 b.n0 b.n1 b.w0 b.w1 ⟨0,5,0,0,0,0⟩=(b.w0,gD b.w1 b.s0.kept b.n0,⟨0,0⟩):=by
  unfold ez
  rw [if_pos rfl,hQ]
 unfold cY;rw [if_neg (by dsimp only;omega),if_neg (by dsimp only;omega),if_neg (by dsimp only;omega),if_neg (by dsimp only;omega),if_pos rfl,hL]

theorem AG {b:Bk} (h:b.w1=[]) (y:List (List Int)):cY b y ⟨0,6,1,0,0,0⟩=(b,y,⟨6,0⟩):=by
 have hL:bS b ⟨0,6,1,0,0,0⟩=(b,⟨6,0⟩):=by
  unfold bS
  rw [if_neg (by decide),if_pos rfl]
  unfold eZ
  rw [h]
  rfl
 unfold cY;rw [if_neg (by dsimp only;omega),if_neg (by dsimp only;omega),if_neg (by dsimp only;omega),if_neg (by dsimp only;omega),if_neg (by dsimp only;omega),if_pos (Or.inl rfl),hL]

theorem wb {b:Bk} {w:List bV} {t:aW} {n:Int} {s:bR} (h:b.w1=⟨t,n⟩::w) (hn:0<=n) (hb:dO b.s1 n=(s,0)) (y:List (List Int)):cY b y ⟨0,6,1,0,0,0⟩=({b with w1:=w,s1:=s},y,⟨0,0⟩):=by
 have hL:bS b ⟨0,6,1,0,0,0⟩=({b with w1:=w,s1:=s},⟨0,0⟩):=by
  unfold bS
  rw [if_neg (by decide),if_pos rfl]
  unfold eZ
  rw [h]
  dsimp only [List.getElem?_cons_zero]
  rw [if_neg (by omega),if_pos hn,hb,if_pos rfl]
  rfl
 unfold cY;rw [if_neg (by dsimp only;omega),if_neg (by dsimp only;omega),if_neg (by dsimp only;omega),if_neg (by dsimp only;omega),if_neg (by dsimp only;omega),if_pos (Or.inl rfl),hL]

theorem Cu {b:Bk} {w:List bV} {t:aW} (h:b.w1=⟨t,-1⟩::w) (hn:t.number≠b.n1+1) (y:List (List Int)):cY b y ⟨0,6,1,0,0,0⟩=({b with w1:=w},y,⟨0,0⟩):=by
 have hT:fr b.n1 t=(b.n1,false):=by unfold fr;rw [if_pos (by omega)]
 have hL:bS b ⟨0,6,1,0,0,0⟩=({b with w1:=w},⟨0,0⟩):=by
  unfold bS
  rw [if_neg (by decide),if_pos rfl]
  unfold eZ
  rw [h]
  dsimp only [List.getElem?_cons_zero]
  rw [if_neg (by omega),if_neg (by omega),hT,if_neg (by simp)]
  rfl
 unfold cY;rw [if_neg (by dsimp only;omega),if_neg (by dsimp only;omega),if_neg (by dsimp only;omega),if_neg (by dsimp only;omega),if_neg (by dsimp only;omega),if_pos (Or.inl rfl),hL]

theorem AF {b:Bk} {w:List bV} {t:aW} {due:List Int} {cs:List bx} {bk:List Entry} (h:b.w1=⟨t,-1⟩::w) (hn:t.number=b.n1+1) (h0:0<=b.n1/\b.n1 < 1000000) (hk:dY b.aq b.due b.aj b.book 0 t=(due,cs,bk,0)) (y:List (List Int)):cY b y ⟨0,6,1,0,0,0⟩=({b with w1:=w,n1:=b.n1+1,due:=due,aj:=cs,book:=bk},y,⟨0,0⟩):=by
 have hT:fr b.n1 t=(b.n1+1,true):=by unfold fr;rw [if_neg (by omega)]
 have hL:bS b ⟨0,6,1,0,0,0⟩=({b with w1:=w,n1:=b.n1+1,due:=due,aj:=cs,book:=bk},⟨0,0⟩):=by
  unfold bS
  rw [if_neg (by decide),if_pos rfl]
  unfold eZ
  rw [h]
  dsimp only [List.getElem?_cons_zero]
  rw [if_neg (by omega),if_neg (by omega),hT,if_pos rfl,hk]
  rfl
 unfold cY;rw [if_neg (by dsimp only;omega),if_neg (by dsimp only;omega),if_neg (by dsimp only;omega),if_neg (by dsimp only;omega),if_neg (by dsimp only;omega),if_pos (Or.inl rfl),hL]

theorem Be {b:Bk} (h:(gD b.w0 b.s1.kept b.n1).length<=60) (y:List (List Int)):cY b y ⟨0,5,1,0,0,0⟩=({b with w0:=gD b.w0 b.s1.kept b.n1},y,⟨0,0⟩):=by
 have hQ:hZ b.w0 b.s1.kept b.n1=(gD b.w0 b.s1.kept b.n1,⟨0,0⟩):=by unfold hZ;rw [if_neg (by omega)]
 have hL:ez b.s0 b.s1 b.n0 b.n1 b.w0 b.w1 ⟨0,5,1,0,0,0⟩=(gD b.w0 b.s1.kept b.n1,b.w1,⟨0,0⟩):=by
  unfold ez
  rw [if_neg (by decide),if_pos rfl,hQ]
 unfold cY;rw [if_neg (by dsimp only;omega),if_neg (by dsimp only;omega),if_neg (by dsimp only;omega),if_neg (by dsimp only;omega),if_pos rfl,hL]
def gW (t:aW):bV:=⟨t,-1⟩
def oW:List aW->Int->Prop
 |[],_=>True
 |t::l,n=>t.number=n+1/\oW l (n+1)
theorem ju (n:Int) (k:Nat):dp n (k+1)=⟨0,6,n,0,0,0⟩::dp n k:=rfl
inductive la (aq:List bz):List aW->List Int->List bx->List Entry->List Int->List bx->List Entry->Prop
 |nil {d c k}:la aq [] d c k d c k
 |cons {t l d c k d1 c1 k1 d2 c2 k2}:dY aq d c k 0 t=(d1,c1,k1,0)->la aq l d1 c1 k1 d2 c2 k2->la aq (t::l) d c k d2 c2 k2
theorem nI:∀ (k:Nat) {rest:List aE} {b:Bk} {y:List (List Int)} {out:List Answer},b.w0=[]->eQ (dp 0 k++rest) b y out=eQ rest b y (out++List.replicate k ⟨6,0⟩)
 |0,rest,b,y,out,_=>by simp [dp]
 |k+1,rest,b,y,out,h=>by
  rw [ju,List.cons_append,dU (AJ h y),nI k h,List.replicate_succ,List.append_assoc];rfl
theorem tR:∀ {l:List aW} {w:List bV} {rest:List aE} {b:Bk} {y:List (List Int)} {out:List Answer},b.w0=l.map gW++w->(∀ t∈l,t.number≠b.n0+1)->eQ (dp 0 l.length++rest) b y out=eQ rest {b with w0:=w} y (out++List.replicate l.length ⟨0,0⟩)
 |[],w,rest,b,y,out,h,_=>by
  have:b.w0=w:=h
  subst this;simp [dp]
 |t::l,w,rest,b,y,out,h,hn=>by
  have ih:=tR (l:=l) (w:=w) (rest:=rest) (b:={b with w0:=l.map gW++w}) (y:=y) (out:=out++[⟨0,0⟩]) rfl (fun x hx=>hn x (by simp [hx]))
  rw [List.length_cons,ju,List.cons_append,dU (Cv (w:=l.map gW++w) (t:=t) h (hn t (by simp)) y)]
  refine ih.trans ?_
  rw [List.replicate_succ,List.append_assoc];rfl
theorem rR:∀ {l:List aW} {w:List bV} {rest:List aE} {b:Bk} {due:List Int} {cs:List bx} {bk:List Entry} {y:List (List Int)} {out:List Answer},b.w0=l.map gW++w->oW l b.n0->0<=b.n0->b.n0+l.length<=1000000->la b.aq l b.due b.aj b.book due cs bk->
  eQ (dp 0 l.length++rest) b y out=eQ rest {b with w0:=w,n0:=b.n0+l.length,due:=due,aj:=cs,book:=bk} y (out++List.replicate l.length ⟨0,0⟩)
 |[],w,rest,b,due,cs,bk,y,out,h,_,_,_,hT=>by
  cases hT
  have:b.w0=w:=h
  subst this;simp [dp]
 |t::l,w,rest,b,due,cs,bk,y,out,h,hN,h0,hl,hT=>by
  cases hT with
  |@cons _ _ _ _ _ d1 c1 k1 _ _ _ hk hT=>
  rw [List.length_cons] at hl
  have ih:=rR (l:=l) (w:=w) (rest:=rest) (b:={b with w0:=l.map gW++w,n0:=b.n0+1,due:=d1,aj:=c1,book:=k1}) (y:=y) (out:=out++[⟨0,0⟩]) rfl hN.2 (by dsimp only;omega) (by dsimp only;omega) hT
  rw [List.length_cons,ju,List.cons_append,dU (AH (w:=l.map gW++w) (t:=t) h hN.1 ⟨h0,by omega⟩ hk y)]
  refine ih.trans ?_
  rw [List.replicate_succ,List.append_assoc]
  rw [show (b.n0+1+(l.length:Int))=b.n0+((l.length+1:Nat):Int) by omega]
  rfl
theorem nH:∀ (k:Nat) {rest:List aE} {b:Bk} {y:List (List Int)} {out:List Answer},b.w1=[]->eQ (dp 1 k++rest) b y out=eQ rest b y (out++List.replicate k ⟨6,0⟩)
 |0,rest,b,y,out,_=>by simp [dp]
 |k+1,rest,b,y,out,h=>by
  rw [ju,List.cons_append,dU (AG h y),nH k h,List.replicate_succ,List.append_assoc];rfl
theorem tQ:∀ {l:List aW} {w:List bV} {rest:List aE} {b:Bk} {y:List (List Int)} {out:List Answer},b.w1=l.map gW++w->(∀ t∈l,t.number≠b.n1+1)->eQ (dp 1 l.length++rest) b y out=eQ rest {b with w1:=w} y (out++List.replicate l.length ⟨0,0⟩)
 |[],w,rest,b,y,out,h,_=>by
  have:b.w1=w:=h
  subst this;simp [dp]
 |t::l,w,rest,b,y,out,h,hn=>by
  have ih:=tQ (l:=l) (w:=w) (rest:=rest) (b:={b with w1:=l.map gW++w}) (y:=y) (out:=out++[⟨0,0⟩]) rfl (fun x hx=>hn x (by simp [hx]))
  rw [List.length_cons,ju,List.cons_append,dU (Cu (w:=l.map gW++w) (t:=t) h (hn t (by simp)) y)]
  refine ih.trans ?_
  rw [List.replicate_succ,List.append_assoc];rfl
theorem rQ:∀ {l:List aW} {w:List bV} {rest:List aE} {b:Bk} {due:List Int} {cs:List bx} {bk:List Entry} {y:List (List Int)} {out:List Answer},b.w1=l.map gW++w->oW l b.n1->0<=b.n1->b.n1+l.length<=1000000->la b.aq l b.due b.aj b.book due cs bk->
  eQ (dp 1 l.length++rest) b y out=eQ rest {b with w1:=w,n1:=b.n1+l.length,due:=due,aj:=cs,book:=bk} y (out++List.replicate l.length ⟨0,0⟩)
 |[],w,rest,b,due,cs,bk,y,out,h,_,_,_,hT=>by
  cases hT
  have:b.w1=w:=h
  subst this;simp [dp]
 |t::l,w,rest,b,due,cs,bk,y,out,h,hN,h0,hl,hT=>by
  cases hT with
  |@cons _ _ _ _ _ d1 c1 k1 _ _ _ hk hT=>
  rw [List.length_cons] at hl
  have ih:=rQ (l:=l) (w:=w) (rest:=rest) (b:={b with w1:=l.map gW++w,n1:=b.n1+1,due:=d1,aj:=c1,book:=k1}) (y:=y) (out:=out++[⟨0,0⟩]) rfl hN.2 (by dsimp only;omega) (by dsimp only;omega) hT
  rw [List.length_cons,ju,List.cons_append,dU (AF (w:=l.map gW++w) (t:=t) h hN.1 ⟨h0,by omega⟩ hk y)]
  refine ih.trans ?_
  rw [List.replicate_succ,List.append_assoc]
  rw [show (b.n1+1+(l.length:Int))=b.n1+((l.length+1:Nat):Int) by omega]
  rfl
theorem gG (n:Int) (a b:Nat):dp n (a+b)=dp n a++dp n b:=by
 unfold dp;rw [List.replicate_append_replicate]
theorem mE:∀ {l:List aW} {n:Int},oW l n->∀ t∈l,n < t.number/\t.number<=n+l.length
 |[],_,_,t,h=>by cases h
 |x::l,n,h,t,ht=>by
  rw [List.length_cons]
  rcases List.mem_cons.1 ht with rfl|ht
  ·have:=h.1;omega
  ·have:=mE h.2 t ht;omega
theorem vi {l:List aW} {n:Int} (h:∀ t∈l,n < t.number):du (came n) l=l:=by
 unfold du
 exact List.filter_eq_self.2 fun t ht=>by have:=h t ht;simp [came];omega
theorem tm {l:List aW} {n:Int} (h:∀ t∈l,t.number<=n):du (came n) l=[]:=by
 unfold du
 exact List.filter_eq_nil_iff.2 fun t ht=>by have:=h t ht;simp [came];omega
theorem pq {s:bR} {n:Int} (h:(cb s).err=0) (h0:0<=n) (h1:n<=s.bE):dO s n=(⟨s.bE,du (came n) s.kept⟩,0):=by
 unfold dO;rw [if_neg (fun x=>x h),if_neg (by omega)]
def ft (c:Nat):List aE:=[⟨0,5,0,0,0,0⟩,⟨0,5,1,0,0,0⟩]++dp 0 c++dp 1 c
theorem uW (l:List aW) (n:Int):gD [] l n=l.map gW++[⟨⟨0,0,0,0⟩,n⟩]:=rfl
theorem uM {b:Bk} (hw:b.w1=[]) (h:b.s0.kept.length<=40) (y:List (List Int)):cY b y ⟨0,5,0,0,0,0⟩=({b with w1:=b.s0.kept.map gW++[⟨⟨0,0,0,0⟩,b.n0⟩]},y,⟨0,0⟩):=by
 have:=Bf (b:=b) (by rw [hw,uW];simp;omega) y
 rw [this,hw];rfl
theorem uL {b:Bk} (hw:b.w0=[]) (h:b.s1.kept.length<=40) (y:List (List Int)):cY b y ⟨0,5,1,0,0,0⟩=({b with w0:=b.s1.kept.map gW++[⟨⟨0,0,0,0⟩,b.n1⟩]},y,⟨0,0⟩):=by
 have:=Be (b:=b) (by rw [hw,uW];simp;omega) y
 rw [this,hw];rfl
theorem wx {b:Bk} {c:Nat} {rest:List aE} {y:List (List Int)} {out:List Answer} {d1 d2:List Int} {c1 c2:List bx} {k1 k2:List Entry} (hw0:b.w0=[]) (hw1:b.w1=[]) (hc0:b.s0.kept.length+1<=c) (hc1:b.s1.kept.length+1<=c) (h40:c<=40) (hn0:0<=b.n0) (hn1:0<=b.n1) (hS0:(cb b.s0).err=0) (hS1:(cb b.s1).err=0) (hN0:oW b.s0.kept b.n1) (hN1:oW b.s1.kept b.n0) (ht1:la b.aq b.s1.kept b.due b.aj b.book d1 c1 k1) (ht0:la b.aq b.s0.kept d1 c1 k1 d2 c2 k2) (hm0:b.n1+b.s0.kept.length<=b.s0.bE) (hm1:b.n0+b.s1.kept.length<=b.s1.bE) (hx0:b.s0.bE<=1000000) (hx1:b.s1.bE<=1000000):
  ∃ o,eQ (ft c++rest) b y out=eQ rest {b with n0:=b.n0+b.s1.kept.length,n1:=b.n1+b.s0.kept.length,due:=d2,aj:=c2,book:=k2} y (out++o)/\o.length=2+2 * c:=by
 obtain ⟨q0,hq0⟩:∃ q,c=b.s0.kept.length+(1+q):=⟨c - (b.s0.kept.length+1),by omega⟩
 obtain ⟨q1,hq1⟩:∃ q,c=b.s1.kept.length+(1+q):=⟨c - (b.s1.kept.length+1),by omega⟩
 have hsplit:ft c++rest=⟨0,5,0,0,0,0⟩::⟨0,5,1,0,0,0⟩::(dp 0 b.s1.kept.length++(dp 0 1++(dp 0 q1++(dp 1 b.s0.kept.length++(dp 1 1++(dp 1 q0++rest)))))):=by
  have e0:dp 0 c=dp 0 b.s1.kept.length++(dp 0 1++dp 0 q1):=by rw [hq1,gG,gG]
  have e1:dp 1 c=dp 1 b.s0.kept.length++(dp 1 1++dp 1 q0):=by rw [hq0,gG,gG]
  unfold ft
  rw [e0,e1];simp only [List.append_assoc,List.cons_append,List.nil_append]
 have s0:=uM hw1 (by omega) y
 have s1:=uL (b:={b with w1:=b.s0.kept.map gW++[⟨⟨0,0,0,0⟩,b.n0⟩]}) hw0 (by dsimp only;omega) y
 have t0:=fun (rest:List aE) out=>rR (l:=b.s1.kept) (w:=[⟨⟨0,0,0,0⟩,b.n1⟩]) (rest:=rest) (b:={b with w0:=b.s1.kept.map gW++[⟨⟨0,0,0,0⟩,b.n1⟩],w1:=b.s0.kept.map gW++[⟨⟨0,0,0,0⟩,b.n0⟩]}) (y:=y) (out:=out) rfl hN1 hn0 (by dsimp only;omega) ht1
 have a0:=wc (b:={b with w0:=[⟨⟨0,0,0,0⟩,b.n1⟩],w1:=b.s0.kept.map gW++[⟨⟨0,0,0,0⟩,b.n0⟩],n0:=b.n0+b.s1.kept.length,due:=d1,aj:=c1,book:=k1}) (w:=[]) (t:=⟨0,0,0,0⟩) (n:=b.n1) rfl hn1 (pq hS0 hn1 (by dsimp only;omega)) y
 have u0:=fun (rest:List aE) out=>nI q1 (rest:=rest) (b:={b with w0:=[],w1:=b.s0.kept.map gW++[⟨⟨0,0,0,0⟩,b.n0⟩],n0:=b.n0+b.s1.kept.length,due:=d1,aj:=c1,book:=k1}) (y:=y) (out:=out) rfl
 have t1:=fun (rest:List aE) out=>rQ (l:=b.s0.kept) (w:=[⟨⟨0,0,0,0⟩,b.n0⟩]) (rest:=rest) (b:={b with w0:=[],w1:=b.s0.kept.map gW++[⟨⟨0,0,0,0⟩,b.n0⟩],n0:=b.n0+b.s1.kept.length,due:=d1,aj:=c1,book:=k1}) (y:=y) (out:=out) rfl hN0 hn1 (by dsimp only;omega) ht0
 have a1:=wb (b:={b with w0:=[],w1:=[⟨⟨0,0,0,0⟩,b.n0⟩],n0:=b.n0+b.s1.kept.length,n1:=b.n1+b.s0.kept.length,due:=d2,aj:=c2,book:=k2}) (w:=[]) (t:=⟨0,0,0,0⟩) (n:=b.n0) rfl hn0 (pq hS1 hn0 (by dsimp only;omega)) y
 have u1:=fun (rest:List aE) out=>nH q0 (rest:=rest) (b:={b with w0:=[],w1:=[],n0:=b.n0+b.s1.kept.length,n1:=b.n1+b.s0.kept.length,due:=d2,aj:=c2,book:=k2}) (y:=y) (out:=out) rfl
 rw [vi fun t ht=>(mE hN0 t ht).1] at a0
 rw [vi fun t ht=>(mE hN1 t ht).1] at a1
 rw [hsplit,dU s0,dU s1]
 refine ⟨[⟨0,0⟩]++[⟨0,0⟩]++List.replicate b.s1.kept.length ⟨0,0⟩++[⟨0,0⟩]++List.replicate q1 ⟨6,0⟩++List.replicate b.s0.kept.length ⟨0,0⟩++[⟨0,0⟩]++List.replicate q0 ⟨6,0⟩,?_,by simp;omega⟩
 refine (t0 _ _).trans ((dU a0).trans ((u0 _ _).trans ((t1 _ _).trans ((dU a1).trans ((u1 _ _).trans ?_)))))
 simp only [List.append_assoc]
 congr 1
 cases b;simp_all
theorem wy {b:Bk} {c:Nat} {rest:List aE} {y:List (List Int)} {out:List Answer} (hw0:b.w0=[]) (hw1:b.w1=[]) (hc0:b.s0.kept.length+1<=c) (hc1:b.s1.kept.length+1<=c) (h40:c<=40) (hn0:0<=b.n0) (hn1:0<=b.n1) (hS0:(cb b.s0).err=0) (hS1:(cb b.s1).err=0) (hN0:∀ t∈b.s0.kept,t.number<=b.n1) (hN1:∀ t∈b.s1.kept,t.number<=b.n0) (hm0:b.n1<=b.s0.bE) (hm1:b.n0<=b.s1.bE):
  ∃ o,eQ (ft c++rest) b y out=eQ rest {b with s0:=⟨b.s0.bE,[]⟩,s1:=⟨b.s1.bE,[]⟩} y (out++o)/\o.length=2+2 * c:=by
 obtain ⟨q0,hq0⟩:∃ q,c=b.s0.kept.length+(1+q):=⟨c - (b.s0.kept.length+1),by omega⟩
 obtain ⟨q1,hq1⟩:∃ q,c=b.s1.kept.length+(1+q):=⟨c - (b.s1.kept.length+1),by omega⟩
 have hsplit:ft c++rest=⟨0,5,0,0,0,0⟩::⟨0,5,1,0,0,0⟩::(dp 0 b.s1.kept.length++(dp 0 1++(dp 0 q1++(dp 1 b.s0.kept.length++(dp 1 1++(dp 1 q0++rest)))))):=by
  have e0:dp 0 c=dp 0 b.s1.kept.length++(dp 0 1++dp 0 q1):=by rw [hq1,gG,gG]
  have e1:dp 1 c=dp 1 b.s0.kept.length++(dp 1 1++dp 1 q0):=by rw [hq0,gG,gG]
  unfold ft
  rw [e0,e1];simp only [List.append_assoc,List.cons_append,List.nil_append]
 have s0:=uM hw1 (by omega) y
 have s1:=uL (b:={b with w1:=b.s0.kept.map gW++[⟨⟨0,0,0,0⟩,b.n0⟩]}) hw0 (by dsimp only;omega) y
 have t0:=fun (rest:List aE) out=>tR (l:=b.s1.kept) (w:=[⟨⟨0,0,0,0⟩,b.n1⟩]) (rest:=rest) (b:={b with w0:=b.s1.kept.map gW++[⟨⟨0,0,0,0⟩,b.n1⟩],w1:=b.s0.kept.map gW++[⟨⟨0,0,0,0⟩,b.n0⟩]}) (y:=y) (out:=out) rfl (fun t ht=>by have:=hN1 t ht;dsimp only;omega)
 have a0:=wc (b:={b with w0:=[⟨⟨0,0,0,0⟩,b.n1⟩],w1:=b.s0.kept.map gW++[⟨⟨0,0,0,0⟩,b.n0⟩]}) (w:=[]) (t:=⟨0,0,0,0⟩) (n:=b.n1) rfl hn1 (pq hS0 hn1 (by dsimp only;omega)) y
 have u0:=fun (rest:List aE) out=>nI q1 (rest:=rest) (b:={b with w0:=[],w1:=b.s0.kept.map gW++[⟨⟨0,0,0,0⟩,b.n0⟩],s0:=⟨b.s0.bE,[]⟩}) (y:=y) (out:=out) rfl
 have t1:=fun (rest:List aE) out=>tQ (l:=b.s0.kept) (w:=[⟨⟨0,0,0,0⟩,b.n0⟩]) (rest:=rest) (b:={b with w0:=[],w1:=b.s0.kept.map gW++[⟨⟨0,0,0,0⟩,b.n0⟩],s0:=⟨b.s0.bE,[]⟩}) (y:=y) (out:=out) rfl (fun t ht=>by have:=hN0 t ht;dsimp only;omega)
 have a1:=wb (b:={b with w0:=[],w1:=[⟨⟨0,0,0,0⟩,b.n0⟩],s0:=⟨b.s0.bE,[]⟩}) (w:=[]) (t:=⟨0,0,0,0⟩) (n:=b.n0) rfl hn0 (pq hS1 hn0 (by dsimp only;omega)) y
 have u1:=fun (rest:List aE) out=>nH q0 (rest:=rest) (b:={b with w0:=[],w1:=[],s0:=⟨b.s0.bE,[]⟩,s1:=⟨b.s1.bE,[]⟩}) (y:=y) (out:=out) rfl
 rw [tm hN0] at a0
 rw [tm hN1] at a1
 rw [hsplit,dU s0,dU s1]
 refine ⟨[⟨0,0⟩]++[⟨0,0⟩]++List.replicate b.s1.kept.length ⟨0,0⟩++[⟨0,0⟩]++List.replicate q1 ⟨6,0⟩++List.replicate b.s0.kept.length ⟨0,0⟩++[⟨0,0⟩]++List.replicate q0 ⟨6,0⟩,?_,by simp;omega⟩
 refine (t0 _ _).trans ((dU a0).trans ((u0 _ _).trans ((t1 _ _).trans ((dU a1).trans ((u1 _ _).trans ?_)))))
 simp only [List.append_assoc]
 congr 1
 cases b;simp_all
theorem qy {b:Bk} {c:Nat} {rest:List aE} {y:List (List Int)} {out:List Answer} {d1 d2:List Int} {c1 c2:List bx} {k1 k2:List Entry} (hw0:b.w0=[]) (hw1:b.w1=[]) (hc0:b.s0.kept.length+1<=c) (hc1:b.s1.kept.length+1<=c) (h40:c<=40) (hn0:0<=b.n0) (hn1:0<=b.n1) (hS0:(cb b.s0).err=0) (hS1:(cb b.s1).err=0)
  (hN0:oW b.s0.kept b.n1) (hN1:oW b.s1.kept b.n0) (ht1:la b.aq b.s1.kept b.due b.aj b.book d1 c1 k1) (ht0:la b.aq b.s0.kept d1 c1 k1 d2 c2 k2) (hm0:b.n1+b.s0.kept.length<=b.s0.bE) (hm1:b.n0+b.s1.kept.length<=b.s1.bE) (hx0:b.s0.bE<=1000000) (hx1:b.s1.bE<=1000000):
  ∃ o,eQ (ft c++(ft c++rest)) b y out=eQ rest {b with s0:=⟨b.s0.bE,[]⟩,s1:=⟨b.s1.bE,[]⟩,n0:=b.n0+b.s1.kept.length,n1:=b.n1+b.s0.kept.length,due:=d2,aj:=c2,book:=k2} y (out++o)/\o.length=4+4 * c:=by
 obtain ⟨o1,e1,l1⟩:=wx (rest:=ft c++rest) (y:=y) (out:=out) hw0 hw1 hc0 hc1 h40 hn0 hn1 hS0 hS1 hN0 hN1 ht1 ht0 hm0 hm1 hx0 hx1
 obtain ⟨o2,e2,l2⟩:=wy (b:={b with n0:=b.n0+b.s1.kept.length,n1:=b.n1+b.s0.kept.length,due:=d2,aj:=c2,book:=k2}) (rest:=rest) (y:=y) (out:=out++o1) hw0 hw1 hc0 hc1 h40 (by dsimp only;omega) (by dsimp only;omega) hS0 hS1
  (fun t ht=>(mE hN0 t ht).2) (fun t ht=>(mE hN1 t ht).2) hm0 hm1
 exact ⟨o1++o2,by rw [e1,e2,List.append_assoc],by simp;omega⟩
theorem Ao:nB 2=ft 5++ft 5:=rfl
theorem vK (l rest:List aE):cC l++rest=l++(ft 5++(ft 5++rest)):=by
 unfold cC;rw [Ao,List.append_assoc,List.append_assoc]
theorem mQ {m h t n:Int} (h1:-1000000000000<=m/\m<=1000000000000) (h2:0<=h/\h<=1000000000000) (ht:0<=t/\t<=1000000) (hn:0<=n/\n<=1000000):cr ⟨m,h,PT,[⟨t,n⟩]⟩=0:=by
 unfold cr;rw [if_neg (by dsimp only;omega),if_neg (show ¬fi PT≠0 by decide)]
 have h0:iZ [⟨t,n⟩] 0=0:=by
  unfold iZ
  dsimp only [List.getElem?_cons_zero]
  rw [if_neg (by omega),if_neg (by omega)]
 unfold fe cD
 rw [if_neg (by simp)]
 simp [scan,h0]
theorem take_one {aq:List bz} {due:List Int} {cs:List bx} {bk:List Entry} {num k s v:Int} {a:bz} (ha:aq[k.toNat]?=some a) (hp:0<=a.ax/\a.ax<=7) (hd:due[a.ax.toNat]?=some v) (hv:-1000000000000<=v/\v<=1000000000000) (hs:1<=s/\s<=1000000) (hb:(dh bk).err=0)
  (h3:-1000000000000<=cc bk 1 - s) (h4:cc bk (50+a.ax)+s<=1000000000000):
  ∃ r,dY aq due cs bk 0 ⟨num,1,k,s⟩=(due.set a.ax.toNat (v+s),cs,r,0)/\(dh r).err=0/\∀ x,cc r x=cc bk x+(if x=50+a.ax then s else 0) - (if x=1 then s else 0):=by
 obtain ⟨r,hr,hrw,hrg⟩:=jU (l:=bk) (src:=1) (dst:=50+a.ax) (n:=s) hb (by omega) (by omega) (by omega) (by omega) h3 h4
 refine ⟨r,?_,hrw,hrg⟩
 have hD:due.getD a.ax.toNat 0=v:=by rw [List.getD_eq_getElem?_getD,hd];rfl
 unfold dY
 dsimp only
 rw [ha]
 dsimp only
 rw [if_pos rfl,hr,hD,IntWalk.i64_in _ (by omega)]
theorem wq {k s:Int} (hk:1<=k/\k<=3) (hs:1<=s/\s<=1000000):(cb ⟨1,[⟨1,k,0,s⟩]⟩).err=0:=by
 have h:=sZ hk hs
 have:=rb (s:=⟨0,[]⟩) (t:=⟨0,k,0,s⟩) (by rw [h])
 exact this.2.1
theorem DN {a b c:Int} {r:Bool} (h:decide (∀ n∈[a,b,c],1<=n/\n<=100000)=r) (hr:r=true):(1<=a/\a<=100000)/\(1<=b/\b<=100000)/\1<=c/\c<=100000:=by
 rw [hr] at h
 have h':=of_decide_eq_true h
 exact ⟨h' a (by simp),h' b (by simp),h' c (by simp)⟩
theorem qz {l:List aE} (h:∀ d∈l,d.id=0):∀ d∈cC l,d.id=0:=fun d hd=>by
 rcases List.mem_append.1 hd with hd|hd
 ·exact h d hd
 ·have:∀ d∈nB 2,d.id=0:=by decide
  exact this d hd
theorem nA (l:List aE):(cC l).length=l.length+24:=by unfold cC;rw [List.length_append];rfl
theorem DV {s:bR} {k n v:Int} (h:(cb s).err=0) (hl:s.kept.length < 40) (hs:s.bE < 1000000) (hk:1<=k/\k<=3) (ha:0<=n/\n<=29) (hv:1<=v/\v<=1000000):
  fu s ⟨0,k,n,v⟩=(⟨s.bE+1,s.kept++[⟨s.bE+1,k,n,v⟩]⟩,0)/\(cb ⟨s.bE+1,s.kept++[⟨s.bE+1,k,n,v⟩]⟩).err=0:=by
 obtain ⟨h1,h2,h3,h4⟩:=qY h
 have hw:(cb ⟨s.bE+1,s.kept++[⟨s.bE+1,k,n,v⟩]⟩).err=0:=by
  refine xc (by simp;omega) (by simp;omega) (by dsimp only;omega) fun i t ht=>?_
  dsimp only at ht ⊢
  rw [List.length_append,List.length_singleton]
  rcases Nat.lt_or_ge i s.kept.length with hi|hi
  ·rw [List.getElem?_append_left hi] at ht
   have:=h4 i t ht
   refine ⟨this.1,this.2.1,this.2.2.1,this.2.2.2.1,this.2.2.2.2.1,this.2.2.2.2.2.1,?_⟩
   have:=this.2.2.2.2.2.2;omega
  ·rw [List.getElem?_append_right hi] at ht
   obtain ⟨hz,rfl⟩:=List.getElem?_eq_some_iff.1 ht
   simp at hz
   simp only [List.getElem_singleton]
   omega
 refine ⟨?_,hw⟩
 unfold fu
 rw [if_neg (fun z=>z h),if_neg (fun z=>z hw)]
 rfl
structure GT (r:List Entry) (a0 a1 a2 wk wj:Int):Prop where
 right:(dh r).err=0
 e0:cc r 0=a0
 e1:cc r 1=a1
 e2:cc r 2=a2
 CU:cc r 10=wk
 EU:cc r 50=wj
 z:∀ x,x≠0->x≠1->x≠2->x≠10->x≠50->cc r x=0
def dE (x dst src s:Int):Int:=(if x=dst then s else 0) - (if x=src then s else 0)
theorem GT.step {r r':List Entry} {a0 a1 a2 wk wj:Int} (H:GT r a0 a1 a2 wk wj) {dst src s:Int} (hw:(dh r').err=0) (hg:∀ x,cc r' x=cc r x+(if x=dst then s else 0) - (if x=src then s else 0))
  (hd:dst=0\/dst=1\/dst=2\/dst=10\/dst=50) (hs:src=0\/src=1\/src=2\/src=10\/src=50):GT r' (a0+dE 0 dst src s) (a1+dE 1 dst src s) (a2+dE 2 dst src s) (wk+dE 10 dst src s) (wj+dE 50 dst src s):=by
 have hg':∀ x,cc r' x=cc r x+dE x dst src s:=fun x=>by rw [hg];unfold dE;omega
 refine ⟨hw,by rw [hg',H.e0],by rw [hg',H.e1],by rw [hg',H.e2],by rw [hg',H.CU],by rw [hg',H.EU],fun x h0 h1 h2 h3 h4=>?_⟩
 rw [hg',H.z x h0 h1 h2 h3 h4]
 unfold dE
 rw [if_neg (by omega),if_neg (by omega)];rfl
theorem GT.cast {r:List Entry} {a0 a1 a2 wk wj b0 b1 b2 b10 b50:Int} (H:GT r a0 a1 a2 wk wj) (h0:a0=b0) (h1:a1=b1) (h2:a2=b2) (h10:wk=b10) (h50:wj=b50):GT r b0 b1 b2 b10 b50:=by
 subst h0 h1 h2 h10 h50;exact H
def ST (paid bj due m dsp:Int) (s0 s1:bR) (n0 n1:Int) (td:List an) (r:List Entry):Bk:=
 ⟨0,false,[⟨bj,0,PT,[⟨0,paid⟩]⟩,⟨0,0,PT,[]⟩],[due,0],[⟨0,0,paid,paid,m,dsp,100,true⟩],s0,s1,n0,n1,[],[],⟨0,[0,0],[]⟩,td,r⟩
theorem Fg {has paid:Int} (h1:1<=paid) (h2:paid<=has) (h3:has<=100000) (rest:List aE) (y:List (List Int)):
  ∃ r o,eQ ([⟨0,1,0,0,0,has⟩,⟨0,2,0,0,0,paid⟩,⟨0,3,0,0,2,paid⟩]++(ft 5++(ft 5++rest))) (ig 0) y []=eQ rest (ST paid (has - paid) paid 0 0 ⟨1,[]⟩ ⟨0,[]⟩ 0 1 [⟨0,0,2,paid⟩] r) y o/\GT r (0 - has) 0 0 (has - paid) paid:=by
 obtain ⟨r1,d1,w1,g1⟩:=Cd (b:=ig 0) (n:=0) (s:=has) (c:=⟨0,0,PT,[]⟩) (by omega) (by omega) rfl (wV (by omega) (by omega)) (by dsimp only;omega) (by decide) (by simp [ig,cc];omega) (by simp [ig,cc];omega)
 have G0:GT [] 0 0 0 0 0:=⟨rfl,rfl,rfl,rfl,rfl,rfl,fun _ _ _ _ _ _=>rfl⟩
 have G1:GT r1 (0 - has) 0 0 has 0:=(G0.step (dst:=10) (src:=0) w1 g1 (by omega) (by omega)).cast (by simp [dE]) (by simp [dE]) (by simp [dE]) (by simp [dE]) (by simp [dE])
 have e1:cY (ig 0) y ⟨0,1,0,0,0,has⟩=((⟨0,false,[⟨has,0,PT,[]⟩,⟨0,0,PT,[]⟩],[0,0],[],⟨0,[]⟩,⟨0,[]⟩,0,0,[],[],⟨0,[0,0],[]⟩,[],r1⟩:Bk),y,⟨0,0⟩):=by
  rw [d1 y];simp [ig,PT]
 have e2:cY (⟨0,false,[⟨has,0,PT,[]⟩,⟨0,0,PT,[]⟩],[0,0],[],⟨0,[]⟩,⟨0,[]⟩,0,0,[],[],⟨0,[0,0],[]⟩,[],r1⟩:Bk) y ⟨0,2,0,0,0,paid⟩=((⟨0,false,[⟨has,paid,PT,[⟨0,paid⟩]⟩,⟨0,0,PT,[]⟩],[0,0],[⟨0,0,paid,0,0,0,100,false⟩],⟨0,[]⟩,⟨0,[]⟩,0,0,[],[],⟨0,[0,0],[]⟩,[],r1⟩:Bk),y,⟨0,0⟩):=by
  rw [Dw (b:=(⟨0,false,[⟨has,0,PT,[]⟩,⟨0,0,PT,[]⟩],[0,0],[],⟨0,[]⟩,⟨0,[]⟩,0,0,[],[],⟨0,[0,0],[]⟩,[],r1⟩:Bk)) (n:=0) (p:=0) (s:=paid) rfl (by omega) (by simp) (by omega) (by omega) (by simp) (by simp) rfl
   (Al (wV (by omega) (by omega)) (by omega) (by simp) (by dsimp only;omega) rfl rfl) y]
  simp [PT]
 have hM:=Bw (a:=⟨0,0,paid,0,0,0,100,false⟩) (m:=2) (s:=paid) (gk (by dsimp only;omega)) (by omega) (by omega) rfl (by dsimp only;omega)
 have hM':bN ⟨0,0,paid,0,0,0,100,false⟩ 2 paid=(⟨0,0,paid,paid,0,0,100,true⟩,0):=by rw [hM];simp
 have hold2:bu ⟨0,0,paid,0,0,0,100,false⟩=paid:=by simp [bu]
 have hold3:bu ⟨0,0,paid,paid,0,0,100,true⟩=0:=by simp [bu]
 obtain ⟨r2,d3,w2,g2⟩:=Dv (b:=(⟨0,false,[⟨has,paid,PT,[⟨0,paid⟩]⟩,⟨0,0,PT,[]⟩],[0,0],[⟨0,0,paid,0,0,0,100,false⟩],⟨0,[]⟩,⟨0,[]⟩,0,0,[],[],⟨0,[0,0],[]⟩,[],r1⟩:Bk)) (n:=0) (m:=2) (s:=paid) (c:=⟨has,paid,PT,[⟨0,paid⟩]⟩)
  rfl (by omega) (by omega) (by omega) rfl hM' (by dsimp only;omega) rfl (mQ (by omega) (by omega) (by omega) (by omega)) (by dsimp only;omega) (by rw [hold3,hold2];dsimp only;omega) (by rw [hold3,hold2];omega) w1 (by show -1000000000000<=cc r1 10 - paid;rw [G1.CU];omega) (by show cc r1 1+paid<=1000000000000;rw [G1.e1];omega) (sZ (by omega) (by omega)) (by simp)
 rw [hold3,hold2] at d3
 have G2:GT r2 (0 - has) paid 0 (has - paid) 0:=(G1.step (dst:=1) (src:=10) w2 g2 (by omega) (by omega)).cast (by simp [dE]) (by simp [dE]) (by simp [dE]) (by simp [dE];omega) (by simp [dE])
 have e3:cY (⟨0,false,[⟨has,paid,PT,[⟨0,paid⟩]⟩,⟨0,0,PT,[]⟩],[0,0],[⟨0,0,paid,0,0,0,100,false⟩],⟨0,[]⟩,⟨0,[]⟩,0,0,[],[],⟨0,[0,0],[]⟩,[],r1⟩:Bk) y ⟨0,3,0,0,2,paid⟩=((⟨0,false,[⟨has - paid,0,PT,[⟨0,paid⟩]⟩,⟨0,0,PT,[]⟩],[0,0],[⟨0,0,paid,paid,0,0,100,true⟩],⟨1,[⟨1,1,0,paid⟩]⟩,⟨0,[]⟩,0,0,[],[],⟨0,[0,0],[]⟩,[⟨0,0,2,paid⟩],r2⟩:Bk),y,⟨0,0⟩):=by
  rw [d3 y];simp [PT];omega
 obtain ⟨r3,t3,w3,g3⟩:=take_one (aq:=[⟨0,0,paid,paid,0,0,100,true⟩]) (due:=[0,0]) (cs:=[⟨has - paid,0,PT,[⟨0,paid⟩]⟩,⟨0,0,PT,[]⟩]) (bk:=r2) (num:=1) (k:=0) (s:=paid) (v:=0) (a:=⟨0,0,paid,paid,0,0,100,true⟩) rfl (by dsimp only;omega) rfl (by omega) (by omega) w2 (by rw [G2.e1];omega) (by show cc r2 50+paid<=1000000000000;rw [G2.EU];omega)
 have G3:GT r3 (0 - has) 0 0 (has - paid) paid:=(G2.step (dst:=50) (src:=1) w3 g3 (by omega) (by omega)).cast (by simp [dE]) (by simp [dE];omega) (by simp [dE]) (by simp [dE]) (by simp [dE])
 obtain ⟨o4,e4,l4⟩:=qy (b:=(⟨0,false,[⟨has - paid,0,PT,[⟨0,paid⟩]⟩,⟨0,0,PT,[]⟩],[0,0],[⟨0,0,paid,paid,0,0,100,true⟩],⟨1,[⟨1,1,0,paid⟩]⟩,⟨0,[]⟩,0,0,[],[],⟨0,[0,0],[]⟩,[⟨0,0,2,paid⟩],r2⟩:Bk)) (c:=5) (rest:=rest) (y:=y) (out:=[]++[⟨0,0⟩]++[⟨0,0⟩]++[⟨0,0⟩]) rfl rfl (by simp) (by simp) (by omega) (by simp) (by simp) (wq (by omega) (by omega)) rfl ⟨rfl,trivial⟩ trivial .nil (.cons t3 .nil) (by simp) (by simp) (by simp) (by simp)
 refine ⟨r3,[]++[⟨0,0⟩]++[⟨0,0⟩]++[⟨0,0⟩]++o4,?_,G3⟩
 rw [List.cons_append,List.cons_append,List.cons_append,List.nil_append,dU e1,dU e2,dU e3,e4]
 simp [ST]
theorem zJ {a:bz} {n:Int} (hw:bC a=0) (hs:1<=n/\n<=1000000) (h:n<=a.captured - a.br - a.bd):bN a 6 n=(⟨a.aJ,a.ax,a.sum,a.captured,a.br,a.bd+n,a.cS,a.shut⟩,0):=by
 unfold bN
 rw [if_neg (fun h=>h hw),if_neg (by omega),if_neg (by omega),if_neg (by omega),if_pos rfl,if_neg (by omega)]
theorem vd {a:bz} {n:Int} (hw:bC a=0) (hs:1<=n/\n<=1000000) (h:n<=a.bd):bN a 7 n=(⟨a.aJ,a.ax,a.sum,a.captured,a.br+n,a.bd - n,a.cS,a.shut⟩,0):=by
 unfold bN
 rw [if_neg (fun h=>h hw),if_neg (by omega),if_neg (by omega),if_neg (by omega),if_neg (by omega),if_pos rfl,if_neg (by omega)]
theorem vc {a:bz} {n:Int} (hw:bC a=0) (hs:1<=n/\n<=1000000) (h:n<=a.bd):bN a 8 n=(⟨a.aJ,a.ax,a.sum,a.captured,a.br,a.bd - n,a.cS,a.shut⟩,0):=by
 unfold bN
 rw [if_neg (fun h=>h hw),if_neg (by omega),if_neg (by omega),if_neg (by omega),if_neg (by omega),if_neg (by omega),if_pos rfl,if_neg (by omega)]
theorem Ce {b:Bk} {n s:Int} {a a':bz} {c:bx} (hd:b.down=false) (hs:1<=s/\s<=1000000) (hn:0<=n) (ha:b.aq[n.toNat]?=some a) (hM:bN a 6 s=(a',0)) (hk:0<=a'.aJ/\a'.aJ<=7)
  (hc:b.aj[a'.aJ.toNat]?=some c) (hw:cr c=0) (h1:c.bj+s<=1000000000000)
  (hb:(dh b.book).err=0) (h4:-1000000000000<=cc b.book 2 - s) (h5:cc b.book (10+a'.aJ)+s<=1000000000000) (hT:b.aN.length < 100):
  ∃ r,(∀ y,cY b y ⟨0,3,n,0,6,s⟩=({b with aj:=b.aj.set a'.aJ.toNat ⟨c.bj+s,c.held,c.bX,c.cD⟩,book:=r,aN:=b.aN++[⟨a'.ax,n,6,s⟩],aq:=b.aq.set n.toNat a'},y,⟨0,0⟩))/\
   (dh r).err=0/\∀ x,cc r x=cc b.book x+(if x=10+a'.aJ then s else 0) - (if x=2 then s else 0):=by
 have hlt:=(List.getElem?_eq_some_iff.1 ha).1
 have hR:=fV hw
 obtain ⟨r,hr,hrw,hrg⟩:=jU (l:=b.book) (src:=2) (dst:=10+a'.aJ) (n:=s) hb (by omega) (by omega) (by omega) (by omega) h4 h5
 refine ⟨r,fun y=>?_,hrw,hrg⟩
 have hS:=lL (l:=b.aj) (k:=a'.aJ) (held:=0) (bj:=s) hc hw (by omega) (by omega) (by omega) (by omega)
 have hL:di b ⟨0,3,n,0,6,s⟩=({b with aj:=b.aj.set a'.aJ.toNat ⟨c.bj+s,c.held,c.bX,c.cD⟩,book:=r,aN:=b.aN++[⟨a'.ax,n,6,s⟩],aq:=b.aq.set n.toNat a'},⟨0,0⟩):=by
  unfold di
  rw [if_neg (by rw [hd];decide),if_neg (by dsimp only;omega)]
  dsimp only
  rw [ha]
  dsimp only
  rw [hM,if_neg (by simp),if_neg (by omega)]
  unfold dH
  dsimp only
  rw [if_neg (by omega),if_neg (by omega),if_neg (by omega),if_pos rfl,hS]
  dsimp only
  rw [hr,Int.add_zero]
  unfold kl gE
  dsimp only
  rw [if_neg (show ¬b.aN.length=100 by omega)]
  rfl
 unfold cY;rw [if_neg (by dsimp only;omega),if_neg (by dsimp only;omega),if_pos rfl,hL]
theorem wG {b:Bk} {n s:Int} {a a':bz} {c:bx} (hd:b.down=false) (hs:1<=s/\s<=1000000) (hn:0<=n) (ha:b.aq[n.toNat]?=some a) (hM:bN a 8 s=(a',0)) (hk:0<=a'.aJ/\a'.aJ<=7)
  (hc:b.aj[a'.aJ.toNat]?=some c) (hw:cr c=0) (h1:-1000000000000<=c.bj - s)
  (hb:(dh b.book).err=0) (h4:-1000000000000<=cc b.book (10+a'.aJ) - s) (h5:cc b.book 2+s<=1000000000000) (hT:b.aN.length < 100):
  ∃ r,(∀ y,cY b y ⟨0,3,n,0,8,s⟩=({b with aj:=b.aj.set a'.aJ.toNat ⟨c.bj - s,c.held,c.bX,c.cD⟩,book:=r,aN:=b.aN++[⟨a'.ax,n,8,s⟩],aq:=b.aq.set n.toNat a'},y,⟨0,0⟩))/\
   (dh r).err=0/\∀ x,cc r x=cc b.book x+(if x=2 then s else 0) - (if x=10+a'.aJ then s else 0):=by
 have hlt:=(List.getElem?_eq_some_iff.1 ha).1
 have hR:=fV hw
 obtain ⟨r,hr,hrw,hrg⟩:=jU (l:=b.book) (src:=10+a'.aJ) (dst:=2) (n:=s) hb (by omega) (by omega) (by omega) (by omega) h4 h5
 refine ⟨r,fun y=>?_,hrw,hrg⟩
 have hS:=lL (l:=b.aj) (k:=a'.aJ) (held:=0) (bj:=0 - s) hc hw (by omega) (by omega) (by omega) (by omega)
 have hL:di b ⟨0,3,n,0,8,s⟩=({b with aj:=b.aj.set a'.aJ.toNat ⟨c.bj - s,c.held,c.bX,c.cD⟩,book:=r,aN:=b.aN++[⟨a'.ax,n,8,s⟩],aq:=b.aq.set n.toNat a'},⟨0,0⟩):=by
  unfold di
  rw [if_neg (by rw [hd];decide),if_neg (by dsimp only;omega)]
  dsimp only
  rw [ha]
  dsimp only
  rw [hM,if_neg (by simp),if_neg (by omega)]
  unfold dH
  dsimp only
  rw [if_neg (by omega),if_neg (by omega),if_neg (by omega),if_neg (by omega),if_neg (by omega),if_pos rfl,hS]
  dsimp only
  rw [hr,Int.add_zero,show c.bj+(0 - s)=c.bj - s by omega]
  unfold kl gE
  dsimp only
  rw [if_neg (show ¬b.aN.length=100 by omega)]
  rfl
 unfold cY;rw [if_neg (by dsimp only;omega),if_neg (by dsimp only;omega),if_pos rfl,hL]
theorem wH {b:Bk} {n s:Int} {a a':bz} {s':bR} (hd:b.down=false) (hn:0<=n) (ha:b.aq[n.toNat]?=some a) (hM:bN a 7 s=(a',0)) (hP:fu b.s0 ⟨0,3,n,s⟩=(s',0)) (hT:b.aN.length < 100) (y:List (List Int)):
  cY b y ⟨0,3,n,0,7,s⟩=({b with s0:=s',aN:=b.aN++[⟨a'.ax,n,7,s⟩],aq:=b.aq.set n.toNat a'},y,⟨0,0⟩):=by
 have hlt:=(List.getElem?_eq_some_iff.1 ha).1
 have hL:di b ⟨0,3,n,0,7,s⟩=({b with s0:=s',aN:=b.aN++[⟨a'.ax,n,7,s⟩],aq:=b.aq.set n.toNat a'},⟨0,0⟩):=by
  unfold di
  rw [if_neg (by rw [hd];decide),if_neg (by dsimp only;omega)]
  dsimp only
  rw [ha]
  dsimp only
  rw [hM,if_neg (by simp),if_neg (by omega)]
  unfold dH
  dsimp only
  rw [if_neg (by omega),if_neg (by omega),if_neg (by omega),if_neg (by omega),if_pos rfl]
  unfold eA
  rw [hP]
  unfold kl gE
  dsimp only
  rw [if_pos (show dv 0 0=0 from rfl),if_neg (show ¬b.aN.length=100 by omega)]
  rfl
 unfold cY;rw [if_neg (by dsimp only;omega),if_neg (by dsimp only;omega),if_pos rfl,hL]
theorem zh {aq:List bz} {due:List Int} {cs:List bx} {bk:List Entry} {num k s v:Int} {a:bz} (ha:aq[k.toNat]?=some a) (hp:0<=a.ax/\a.ax<=7) (hd:due[a.ax.toNat]?=some v) (hv:-1000000000000<=v/\v<=1000000000000) (hs:1<=s/\s<=1000000) (hb:(dh bk).err=0)
  (h3:-1000000000000<=cc bk (50+a.ax) - s) (h4:cc bk 2+s<=1000000000000):
  ∃ r,dY aq due cs bk 0 ⟨num,3,k,s⟩=(due.set a.ax.toNat (v - s),cs,r,0)/\(dh r).err=0/\∀ x,cc r x=cc bk x+(if x=2 then s else 0) - (if x=50+a.ax then s else 0):=by
 obtain ⟨r,hr,hrw,hrg⟩:=jU (l:=bk) (src:=50+a.ax) (dst:=2) (n:=s) hb (by omega) (by omega) (by omega) (by omega) h3 h4
 refine ⟨r,?_,hrw,hrg⟩
 have hD:due.getD a.ax.toNat 0=v:=by rw [List.getD_eq_getElem?_getD,hd];rfl
 unfold dY
 dsimp only
 rw [ha]
 dsimp only
 rw [if_neg (by omega),if_neg (by omega),if_pos rfl,hr,hD,IntWalk.i64_in _ (by omega)]
def lC (has paid:Int):List aE:=[⟨0,1,0,0,0,has⟩,⟨0,2,0,0,0,paid⟩,⟨0,3,0,0,2,paid⟩]
theorem rE {has paid n:Int} (h1:1<=paid) (h2:paid<=has) (h3:has<=100000) (h4:1<=n) (h5:n<=paid) (rest:List aE) (y:List (List Int)):
  ∃ r o,eQ (cC (lC has paid)++(⟨0,3,0,0,6,n⟩::rest)) (ig 0) y []=eQ rest (ST paid (has - paid+n) paid 0 n ⟨1,[]⟩ ⟨0,[]⟩ 0 1 [⟨0,0,2,paid⟩,⟨0,0,6,n⟩] r) y o/\GT r (0 - has) 0 (0 - n) (has - paid+n) paid:=by
 obtain ⟨r,o1,e1,G1⟩:=Fg h1 h2 h3 (⟨0,3,0,0,6,n⟩::rest) y
 have hM:=zJ (a:=⟨0,0,paid,paid,0,0,100,true⟩) (n:=n) (gk (by dsimp only;omega)) (by omega) (by dsimp only;omega)
 obtain ⟨r2,d2,w2,g2⟩:=Ce (b:=ST paid (has - paid) paid 0 0 ⟨1,[]⟩ ⟨0,[]⟩ 0 1 [⟨0,0,2,paid⟩] r) (n:=0) (s:=n) (c:=⟨has - paid,0,PT,[⟨0,paid⟩]⟩) rfl (by omega) (by omega) rfl hM (by dsimp only;omega) rfl (mQ (by omega) (by omega) (by omega) (by omega)) (by dsimp only;omega) G1.right (by show -1000000000000<=cc r 2 - n;rw [G1.e2];omega) (by show cc r 10+n<=1000000000000;rw [G1.CU];omega) (by simp [ST])
 have G2:GT r2 (0 - has) 0 (0 - n) (has - paid+n) paid:=(G1.step (dst:=10) (src:=2) w2 g2 (by omega) (by omega)).cast (by simp [dE]) (by simp [dE]) (by simp [dE]) (by simp [dE]) (by simp [dE])
 have e2:cY (ST paid (has - paid) paid 0 0 ⟨1,[]⟩ ⟨0,[]⟩ 0 1 [⟨0,0,2,paid⟩] r) y ⟨0,3,0,0,6,n⟩=(ST paid (has - paid+n) paid 0 n ⟨1,[]⟩ ⟨0,[]⟩ 0 1 [⟨0,0,2,paid⟩,⟨0,0,6,n⟩] r2,y,⟨0,0⟩):=by
  rw [d2 y];simp [ST]
 refine ⟨r2,o1++[⟨0,0⟩],?_,G2⟩
 rw [vK]
 unfold lC
 rw [e1,dU e2]
theorem xJ (has paid:Int):∀ d∈lC has paid,d.id=0:=by simp [lC]
theorem Cc {has paid n:Int} (h1:1<=paid) (h2:paid<=has) (h3:has<=100000) (h4:1<=n) (h5:n<=paid) {b:Bk} {y:List (List Int)} {o:List Answer} {f:cP}
  (hr:gq ⟨[⟨1000,30,1000000000000⟩,⟨1000,30,1000000000000⟩],2,0⟩ (cC (lC has paid)++[⟨0,3,0,0,6,n⟩])=(b,y,o,f)):
  f.err=0/\b.aj.length=2/\(∀ c,b.aj[0]?=some c->c.bj=has - paid+n)/\(dh b.book).err=0/\cc b.book 2=0 - n:=by
 rw [CJ (by omega) (by omega) (by rw [List.length_append,nA];simp [lC]) (fun d hd=>(List.mem_append.1 hd).elim (qz (xJ has paid) d) (fun h=>by rw [List.mem_singleton.1 h]))] at hr
 obtain ⟨r,o1,e1,G1⟩:=rE h1 h2 h3 h4 h5 [] []
 rw [e1] at hr
 simp only [eQ,Prod.mk.injEq] at hr
 obtain ⟨rfl,rfl,rfl,rfl⟩:=hr
 exact ⟨rfl,rfl,fun c hc=>by simp [ST] at hc;subst hc;rfl,G1.right,G1.e2⟩
theorem qS {has paid n k:Int} (h1:1<=paid) (h2:paid<=has) (h3:has<=100000) (h4:1<=n) (h5:n<=paid) (hk:k=7\/k=8) {b:Bk} {y:List (List Int)} {o:List Answer} {f:cP}
  (hr:gq ⟨[⟨1000,30,1000000000000⟩,⟨1000,30,1000000000000⟩],2,0⟩ (cC (cC (lC has paid)++[⟨0,3,0,0,6,n⟩]++[⟨0,3,0,0,k,n⟩]))=(b,y,o,f)):
  f.err=0/\b.aj.length=2/\b.due.length=2/\(∀ c,b.aj[0]?=some c->c.bj=if k=7 then has - paid+n else has - paid)/\(∀ v,b.due[0]?=some v->v=if k=7 then paid - n else paid)/\(dh b.book).err=0/\cc b.book 2=0:=by
 rw [CJ (by omega) (by omega) (by rw [nA,List.length_append,List.length_append,nA];simp [lC]) (qz fun d hd=>by
  rcases List.mem_append.1 hd with hd|hd
  ·rcases List.mem_append.1 hd with hd|hd
   ·exact qz (xJ has paid) d hd
   ·rw [List.mem_singleton.1 hd]
  ·rw [List.mem_singleton.1 hd])] at hr
 have hl:cC (cC (lC has paid)++[⟨0,3,0,0,6,n⟩]++[⟨0,3,0,0,k,n⟩])=cC (lC has paid)++(⟨0,3,0,0,6,n⟩::⟨0,3,0,0,k,n⟩::(ft 5++(ft 5++[]))):=by
  have:=vK (cC (lC has paid)++[⟨0,3,0,0,6,n⟩]++[⟨0,3,0,0,k,n⟩]) []
  rw [List.append_nil] at this
  rw [this];simp
 obtain ⟨r,o1,e1,G1⟩:=rE h1 h2 h3 h4 h5 (⟨0,3,0,0,k,n⟩::(ft 5++(ft 5++[]))) []
 rw [hl,e1] at hr
 rcases hk with rfl|rfl
 ·have hM:=vd (a:=⟨0,0,paid,paid,0,n,100,true⟩) (n:=n) (gk (by dsimp only;omega)) (by omega) (by dsimp only;omega)
  have hW:(cb ⟨1,[]⟩).err=0:=rfl
  obtain ⟨p1,p2⟩:=DV (s:=⟨1,[]⟩) (k:=3) (n:=0) (v:=n) hW (by simp) (by simp) (by omega) (by omega) (by omega)
  have e2:cY (ST paid (has - paid+n) paid 0 n ⟨1,[]⟩ ⟨0,[]⟩ 0 1 [⟨0,0,2,paid⟩,⟨0,0,6,n⟩] r) [] ⟨0,3,0,0,7,n⟩=(ST paid (has - paid+n) paid n 0 ⟨2,[⟨2,3,0,n⟩]⟩ ⟨0,[]⟩ 0 1 [⟨0,0,2,paid⟩,⟨0,0,6,n⟩,⟨0,0,7,n⟩] r,[],⟨0,0⟩):=by
   rw [wH (b:=ST paid (has - paid+n) paid 0 n ⟨1,[]⟩ ⟨0,[]⟩ 0 1 [⟨0,0,2,paid⟩,⟨0,0,6,n⟩] r) (n:=0) (s:=n) rfl (by omega) rfl hM p1 (by simp [ST]) []]
   simp [ST]
  obtain ⟨r3,t3,w3,g3⟩:=zh (aq:=[⟨0,0,paid,paid,n,0,100,true⟩]) (due:=[paid,0]) (cs:=[⟨has - paid+n,0,PT,[⟨0,paid⟩]⟩,⟨0,0,PT,[]⟩]) (bk:=r) (num:=2) (k:=0) (s:=n) (v:=paid) (a:=⟨0,0,paid,paid,n,0,100,true⟩) rfl (by dsimp only;omega) rfl (by omega) (by omega) G1.right (by show -1000000000000<=cc r 50 - n;rw [G1.EU];omega) (by rw [G1.e2];omega)
  have G3:GT r3 (0 - has) 0 0 (has - paid+n) (paid - n):=(G1.step (dst:=2) (src:=50) w3 g3 (by omega) (by omega)).cast (by simp [dE]) (by simp [dE]) (by simp [dE];omega) (by simp [dE]) (by simp [dE];omega)
  obtain ⟨o4,e4,l4⟩:=qy (b:=ST paid (has - paid+n) paid n 0 ⟨2,[⟨2,3,0,n⟩]⟩ ⟨0,[]⟩ 0 1 [⟨0,0,2,paid⟩,⟨0,0,6,n⟩,⟨0,0,7,n⟩] r) (c:=5) (rest:=[]) (y:=[]) (out:=o1++[⟨0,0⟩]) rfl rfl (by simp [ST]) (by simp [ST]) (by omega) (by simp [ST]) (by simp [ST]) p2 rfl ⟨rfl,trivial⟩ trivial .nil (.cons t3 .nil) (by simp [ST]) (by simp [ST]) (by simp [ST]) (by simp [ST])
  rw [dU e2,e4] at hr
  simp only [eQ,Prod.mk.injEq] at hr
  obtain ⟨rfl,rfl,rfl,rfl⟩:=hr
  exact ⟨rfl,rfl,rfl,fun c hc=>by simp at hc;subst hc;rfl,fun v hv=>by simp at hv;subst hv;rfl,G3.right,G3.e2⟩
 ·have hM:=vc (a:=⟨0,0,paid,paid,0,n,100,true⟩) (n:=n) (gk (by dsimp only;omega)) (by omega) (by dsimp only;omega)
  obtain ⟨r2,d2,w2,g2⟩:=wG (b:=ST paid (has - paid+n) paid 0 n ⟨1,[]⟩ ⟨0,[]⟩ 0 1 [⟨0,0,2,paid⟩,⟨0,0,6,n⟩] r) (n:=0) (s:=n) (c:=⟨has - paid+n,0,PT,[⟨0,paid⟩]⟩) rfl (by omega) (by omega) rfl hM (by dsimp only;omega) rfl (mQ (by omega) (by omega) (by omega) (by omega)) (by dsimp only;omega) G1.right (by show -1000000000000<=cc r 10 - n;rw [G1.CU];omega) (by show cc r 2+n<=1000000000000;rw [G1.e2];omega) (by simp [ST])
  have G2:GT r2 (0 - has) 0 0 (has - paid) paid:=(G1.step (dst:=2) (src:=10) w2 g2 (by omega) (by omega)).cast (by simp [dE]) (by simp [dE]) (by simp [dE];omega) (by simp [dE];omega) (by simp [dE])
  have e2:cY (ST paid (has - paid+n) paid 0 n ⟨1,[]⟩ ⟨0,[]⟩ 0 1 [⟨0,0,2,paid⟩,⟨0,0,6,n⟩] r) [] ⟨0,3,0,0,8,n⟩=(ST paid (has - paid) paid 0 0 ⟨1,[]⟩ ⟨0,[]⟩ 0 1 [⟨0,0,2,paid⟩,⟨0,0,6,n⟩,⟨0,0,8,n⟩] r2,[],⟨0,0⟩):=by
   rw [d2 []];simp [ST]
  obtain ⟨o4,e4,l4⟩:=qy (b:=ST paid (has - paid) paid 0 0 ⟨1,[]⟩ ⟨0,[]⟩ 0 1 [⟨0,0,2,paid⟩,⟨0,0,6,n⟩,⟨0,0,8,n⟩] r2) (c:=5) (rest:=[]) (y:=[]) (out:=o1++[⟨0,0⟩]) rfl rfl (by simp [ST]) (by simp [ST]) (by omega) (by simp [ST]) (by simp [ST]) rfl rfl trivial trivial .nil .nil (by simp [ST]) (by simp [ST]) (by simp [ST]) (by simp [ST])
  rw [dU e2,e4] at hr
  simp only [eQ,Prod.mk.injEq] at hr
  obtain ⟨rfl,rfl,rfl,rfl⟩:=hr
  exact ⟨rfl,rfl,rfl,fun c hc=>by simp [ST] at hc;subst hc;rfl,fun v hv=>by simp [ST] at hv;subst hv;rfl,G2.right,G2.e2⟩
end Go.Proofs.Ytegepioggeggaaa.Dev
