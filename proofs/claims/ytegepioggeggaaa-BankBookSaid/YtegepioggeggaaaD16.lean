/- A part of the proof: PlFair, PlFair2, PlFair3, LBankBook. No condition. -/
import Derived.Test.YtegepioggeggaaaD15
set_option linter.unusedVariables false
set_option linter.unusedSimpArgs false
set_option maxHeartbeats 16000000
set_option maxRecDepth 100000
namespace Go.Proofs.Ytegepioggeggaaa.Dev
open Go.RowKit
def eZ (n:Int):List bg->Int
 |[]=>0
 |t::l=>(if t.number<=n\/t.kind=3 then 0 else t.sum)+eZ n l
def fe (n:Int):List bg->Int
 |[]=>0
 |t::l=>(if t.number<=n\/¬t.kind=3 then 0 else t.sum)+fe n l
def eJ:List bC->Int
 |[]=>0
 |a::l=>a.bl+eJ l
theorem nj (n:Int) (u v:List bg):eZ n (u++v)=eZ n u+eZ n v:=by
 induction u with
 |nil=>simp [eZ]
 |cons t u ih=>simp only [List.cons_append,eZ,ih];omega
theorem oc (n:Int) (u v:List bg):fe n (u++v)=fe n u+fe n v:=by
 induction u with
 |nil=>simp [fe]
 |cons t u ih=>simp only [List.cons_append,fe,ih];omega
theorem pj (u v:List bC):eJ (u++v)=eJ u+eJ v:=by
 induction u with
 |nil=>simp [eJ]
 |cons t u ih=>simp only [List.cons_append,eJ,ih];omega
theorem ph (b:bC):∀ {l:List bC} {i:Nat} {a:bC},l[i]?=some a->eJ (l.set i b)=eJ l - a.bl+b.bl
 |x::l,0,a,h=>by
  have:x=a:=by simpa using h
  subst this
  simp only [List.set_cons_zero,eJ];omega
 |x::l,i+1,a,h=>by
  have h:l[i]?=some a:=by simpa using h
  simp only [List.set_cons_succ,eJ,ph b h];omega
theorem qD {n m:Int} (h:m<=n):∀ l:List bg,eZ n (dC (came m) l)=eZ n l/\fe n (dC (came m) l)=fe n l
 |[]=>⟨rfl,rfl⟩
 |t::l=>by
  obtain ⟨h1,h2⟩:=qD h l
  unfold dC at h1 h2 ⊢
  rw [List.filter_cons]
  split
  ·constructor<;>simp only [eZ,fe,h1,h2]
  ·rename_i hc
   have:t.number<=m:=by simpa [came] using hc
   rw [h1,h2];simp only [eZ,fe]
   rw [if_pos (by omega),if_pos (by omega)];omega
def zk (l:List bg):Prop:=l.Pairwise fun a b=>a.number < b.number
theorem xK {s:bS} (h:(cK s).err=0):zk s.kept:=by
 obtain ⟨_,_,_,h4⟩:=iC h
 unfold zk
 rw [List.pairwise_iff_getElem]
 intro i j hi hj hij
 have a:=(h4 i _ (List.getElem?_eq_getElem hi)).2.2.2.2.2.2
 have b:=(h4 j _ (List.getElem?_eq_getElem hj)).2.2.2.2.2.2
 omega
theorem zr {n:Int}:∀ {l:List bg},(∀ t∈l,n+1 < t.number)->eZ (n+1) l=eZ n l/\fe (n+1) l=fe n l
 |[],_=>⟨rfl,rfl⟩
 |t::l,h=>by
  obtain ⟨h1,h2⟩:=zr (l:=l) fun x hx=>h x (List.mem_cons_of_mem _ hx)
  have:=h t List.mem_cons_self
  simp only [eZ,fe,h1,h2]
  constructor
  ·split<;>split<;>omega
  ·split<;>split<;>omega
theorem qC {n:Int} {t:bg}:∀ {l:List bg},zk l->t∈l->t.number=n+1->eZ (n+1) l=eZ n l - (if t.kind=3 then 0 else t.sum)/\fe (n+1) l=fe n l - (if t.kind=3 then t.sum else 0)
 |[],_,h,_=>by cases h
 |x::l,hi,h,ht=>by
  unfold zk at hi
  rw [List.pairwise_cons] at hi
  rcases List.mem_cons.1 h with rfl|h
  ·obtain ⟨h1,h2⟩:=zr (n:=n) (l:=l) fun y hy=>by have:=hi.1 y hy;omega
   simp only [eZ,fe,h1,h2]
   constructor<;>((repeat' split)<;>omega)
  ·have:=hi.1 t h
   obtain ⟨h1,h2⟩:=qC hi.2 h ht
   simp only [eZ,fe,h1,h2]
   constructor<;>((repeat' split)<;>omega)
theorem iy {l:List Entry} {e src dst n:Int} (h:(dQ l e src dst n).2=0):e=0/\(ek (dQ l e src dst n).1).err=0/\∀ x,db (dQ l e src dst n).1 x=db l x+(if x=dst then n else 0) - (if x=src then n else 0):=by
 obtain ⟨h1,h2,h3⟩:=ja h
 rw [h3]
 have hp:gp l [⟨src,0 - n⟩,⟨dst,n⟩]=((jb l src dst n).1,0):=by
  unfold jb at h2 ⊢
  split at h2
  ·cases h2
  ·rename_i c;rw [if_neg c];exact Prod.ext rfl h2
 refine ⟨h1,(oL hp 0).1,fun x=>?_⟩
 rw [(oL hp x).2];simp only [lN]
 have e1:(src=x)=(x=src):=propext ⟨Eq.symm,Eq.symm⟩
 have e2:(dst=x)=(x=dst):=propext ⟨Eq.symm,Eq.symm⟩
 simp only [e1,e2]
 split<;>split<;>omega
def gk (al:List bD) (book:List Entry):Prop:=∀ (k:Nat) (c:bD),al[k]?=some c->db book (10+k)=c.bE
def oo (due:List Int) (book:List Entry):Prop:=∀ (k:Nat) (n:Int),due[k]?=some n->db book (50+k)=n
theorem gk.shift {al:List bD} {book book':List Entry} {e k h m:Int} (H:gk al book) (hz:(cJ al e k h m).2=0) (hk:0<=k) (hb:∀ j:Nat,j < al.length->db book' (10+j)=db book (10+j)+if (j:Int)=k then m else 0):gk (cJ al e k h m).1 book':=by
 intro j c hc
 have hj:j < al.length:=by have:=(List.getElem?_eq_some_iff.1 hc).1;rwa [fb] at this
 obtain ⟨_,hz⟩:=mD hz
 rcases hz with ⟨h1,h2⟩|⟨c0,h1,h2⟩
 ·rw [h2] at hc
  have:¬(j:Int)=k:=fun e=>by rw [<-e,Int.toNat_natCast,hc] at h1;cases h1
  rw [hb j hj,if_neg this,H j c hc];omega
 ·rw [h2,List.getElem?_set] at hc
  split at hc
  ·rename_i e
   split at hc
   ·injection hc with hc;subst hc
    rw [hb j hj,if_pos (by omega),H j c0 (by rw [<-e];exact h1)]
   ·cases hc
  ·rename_i e;rw [hb j hj,if_neg (by omega),H j c hc];omega
theorem gk.same {al:List bD} {book book':List Entry} (H:gk al book) (hb:∀ j:Nat,j < al.length->db book' (10+j)=db book (10+j)):gk al book':=fun j c hc=>by
 rw [hb j (List.getElem?_eq_some_iff.1 hc).1,H j c hc]
theorem gk.put {al:List bD} {book:List Entry} {k:Nat} {c c':bD} (H:gk al book) (hc:al[k]?=some c) (hm:c'.bE=c.bE):gk (al.set k c') book:=fun j x hx=>by
 rw [List.getElem?_set] at hx
 split at hx
 ·rename_i e
  split at hx
  ·injection hx with hx;subst hx;rw [hm,<-e];exact H k c hc
  ·cases hx
 ·exact H j x hx
theorem oo.same {due:List Int} {book book':List Entry} (H:oo due book) (hb:∀ j:Nat,j < due.length->db book' (50+j)=db book (50+j)):oo due book':=fun j c hc=>by
 rw [hb j (List.getElem?_eq_some_iff.1 hc).1,H j c hc]
theorem oo.set {due:List Int} {book book':List Entry} {k v w m:Int} (H:oo due book) (hk:0<=k) (hv:due[k.toNat]?=some v) (hw:w=v+m) (hb:∀ j:Nat,j < due.length->db book' (50+j)=db book (50+j)+if (j:Int)=k then m else 0):oo (due.set k.toNat w) book':=fun j x hx=>by
 have hj:j < due.length:=by have:=(List.getElem?_eq_some_iff.1 hx).1;rwa [List.length_set] at this
 rw [List.getElem?_set] at hx
 split at hx
 ·rename_i e
  split at hx
  ·injection hx with hx;subst hx
   rw [hb j hj,if_pos (by omega),H j v (by rw [<-e];exact hv),hw]
  ·cases hx
 ·rw [hb j hj,if_neg (by omega),H j x hx];omega
structure Way (s:bS) (n:Int) (w v:List cj):Prop where
 lo:s.bq - s.kept.length<=n
 hi:n<=s.bq
 pk:∀ p∈w,p.seen < 0->p.cc.number<=s.bq/\(s.bq - s.kept.length < p.cc.number->p.cc∈s.kept)
 ak:∀ p∈v,0<=p.seen->p.seen<=n
theorem Way.put {s:bS} {n:Int} {w v:List cj} (H:Way s n w v) (t:bg):Way (gO s t) n w v:=by
 have h1:=H.lo;have h2:=H.hi
 refine ⟨by simp [gO];omega,by simp [gO];omega,fun p hp hs=>?_,H.ak⟩
 obtain ⟨h3,h4⟩:=H.pk p hp hs
 refine ⟨by simp [gO];omega,fun h=>List.mem_append_left _ (h4 ?_)⟩
 simp [gO] at h;omega
theorem Way.back {s:bS} {n m:Int} {w v:List cj} (H:Way s n w v) (hw:(cK s).err=0) (hm:m<=n) (hs:m<=s.bq):Way ⟨s.bq,dC (came m) s.kept⟩ n w v:=by
 have h1:=H.lo;have h2:=H.hi
 obtain ⟨_,hr,_,_⟩:=iC hw
 have hl:s.bq - ((dC (came m) s.kept).length:Int)=if m<=s.bq - s.kept.length then s.bq - s.kept.length else m:=by
  rw [tL hw,List.length_drop]
  split<;>omega
 refine ⟨?_,H.hi,fun p hp hq=>?_,H.ak⟩
 ·dsimp only;rw [hl];split<;>omega
 ·obtain ⟨h3,h4⟩:=H.pk p hp hq
  refine ⟨h3,fun h=>?_⟩
  dsimp only at h ⊢
  rw [hl] at h
  refine List.mem_filter.2 ⟨h4 (by split at h<;>omega),?_⟩
  have:¬p.cc.number<=m:=by split at h<;>omega
  simp [came];omega
theorem Way.sub {s:bS} {n:Int} {w v w' v':List cj} (H:Way s n w v) (hw:∀ p∈w',p∈w) (hv:∀ p∈v',p∈v):Way s n w' v':=
 ⟨H.lo,H.hi,fun p hp=>H.pk p (hw p hp),fun p hp=>H.ak p (hv p hp)⟩
theorem Way.take {s:bS} {n:Int} {w v:List cj} (H:Way s n w v) (h:n+1<=s.bq):Way s (n+1) w v:=
 ⟨by have:=H.lo;omega,h,H.pk,fun p hp hs=>by have:=H.ak p hp hs;omega⟩
theorem Way.bq {s:bS} {n m:Int} {w v:List cj} (H:Way s n w v) (hs:(cK s).err=0):Way s n (jA w s.kept m) v:=
 ⟨H.lo,H.hi,fun p hp hq=>by
  unfold jA at hp
  rcases List.mem_append.1 hp with hp|hp
  ·rcases List.mem_append.1 hp with hp|hp
   ·exact H.pk p hp hq
   ·obtain ⟨t,ht,rfl⟩:=List.mem_map.1 hp
    refine ⟨?_,fun _=>ht⟩
    obtain ⟨i,hi⟩:=List.getElem?_of_mem ht
    have:=((iC hs).2.2.2 i t hi).2.2.2.2.2.2
    have:=(List.getElem?_eq_some_iff.1 hi).1
    dsimp only;omega
  ·have:=List.mem_singleton.1 hp
   subst this
   exact ⟨by dsimp only at hq ⊢;have:=H.hi;have:=(iC hs).2.1;omega,fun h=>by dsimp only at h;have:=(iC hs).2.1;omega⟩,H.ak⟩
theorem Way.told {s:bS} {n m:Int} {w v:List cj} {ks:List bg} (H:Way s n w v) (hm:m<=n):Way s n w (jA v ks m):=
 ⟨H.lo,H.hi,H.pk,fun p hp hq=>by
  unfold jA at hp
  rcases List.mem_append.1 hp with hp|hp
  ·rcases List.mem_append.1 hp with hp|hp
   ·exact H.ak p hp hq
   ·obtain ⟨t,ht,rfl⟩:=List.mem_map.1 hp
    dsimp only at hq;omega
  ·rw [List.mem_singleton.1 hp];exact hm⟩
structure fB (b:Bk):Prop where
 h:ea b
 bk:(ek b.book).err=0
 al:gk b.al b.book
 due:oo b.due b.book
 jJ:db b.book 1=eZ b.n1 b.s0.kept+eZ b.n0 b.s1.kept
 jP:db b.book 2=0 - eJ b.au - (fe b.n1 b.s0.kept+fe b.n0 b.s1.kept)
 y0:Way b.s0 b.n1 b.w1 b.w0
 y1:Way b.s1 b.n0 b.w0 b.w1
theorem fB.load {b:Bk} (H:fB b) (d:bJ):fB (fI b d).1:=by
 have hh:=H.h.load d
 unfold fI at hh ⊢
 split
 ·exact H
 rename_i c1
 rw [if_neg c1] at hh
 split
 ·exact H
 rename_i c2
 rw [if_neg c2] at hh
 unfold Dev.dw at hh ⊢
 split
 ·rename_i h0
  rw [if_pos h0] at hh
  obtain ⟨e1,w,g⟩:=iy h0
  have hc:=H.h.ok.al;have hd:=H.h.ok.due
  exact ⟨hh,w,H.al.shift e1 (by omega) fun j hj=>by rw [g];(repeat' split)<;>omega,H.due.same fun j hj=>by rw [g];(repeat' split)<;>omega,by dsimp only;rw [g,H.jJ];(repeat' split)<;>omega,by dsimp only;rw [g,H.jP];(repeat' split)<;>omega,H.y0,H.y1⟩
 ·exact H
theorem fB.bound {b:Bk} (H:fB b) (x:Int):-1000000000000<=db b.book x/\db b.book x<=1000000000000:=yI fun z hz=>by
 have:=(lp.1 H.bk).1.ok z hz;omega
theorem sN {l:List Int} {k:Int} (h0:0<=k) (h:k < l.length):l[k.toNat]?=some (l.getD k.toNat 0):=by
 rw [List.getD_eq_getElem?_getD,List.getElem?_eq_getElem (by omega)];rfl
theorem fB.qj {b:Bk} (H:fB b) (d:bJ):fB (gN b d).1:=by
 have hh:=H.h.qj d
 unfold gN at hh ⊢
 split
 ·exact H
 rename_i c1
 rw [if_neg c1] at hh
 split
 ·exact H
 rename_i c2
 rw [if_neg c2] at hh
 unfold Dev.dw at hh ⊢
 split
 ·rename_i h0
  rw [if_pos h0] at hh
  obtain ⟨e1,w,g⟩:=iy h0
  have hc:=H.h.ok.al;have hd:=H.h.ok.due
  have hv:=sN (l:=b.due) (k:=d.n) (by omega) (by omega)
  exact ⟨hh,w,H.al.same fun j hj=>by rw [g];(repeat' split)<;>omega,H.due.set (m:=0 - b.due.getD d.n.toNat 0) (by omega) hv (by omega) fun j hj=>by rw [g];(repeat' split)<;>omega,by dsimp only;rw [g,H.jJ];(repeat' split)<;>omega,by dsimp only;rw [g,H.jP];(repeat' split)<;>omega,H.y0,H.y1⟩
 ·exact H
theorem qn {time:Int} {book:List Entry}:∀ (l:List bC) (i:Nat) (al:List bD) (au:List bC) (e:Int),(fv time l i al au e).2.2=0->au.drop i=l->(∀ a∈l,0<=a.aO)->gk al book->gk (fv time l i al au e).1 book/\eJ (fv time l i al au e).2.1=eJ au
 |[],_,_,_,_,_,_,_,h=>⟨h,rfl⟩
 |a::l,i,al,au,e,hz,hd,hp,h=>by
  unfold fv at hz ⊢
  have hat:au[i]?=some a:=by
   have:(au.drop i)[0]?=some a:=by rw [hd];rfl
   rwa [List.getElem?_drop,Nat.add_zero] at this
  have hilt:=(List.getElem?_eq_some_iff.1 hat).1
  have key:=qn (book:=book) l (i+1) _ _ _ hz (by
   rw [List.drop_set_of_lt (by omega)]
   have:au.drop (i+1)=(au.drop i).drop 1:=by rw [List.drop_drop]
   rw [this,hd];rfl) (fun x hx=>hp x (List.mem_cons_of_mem _ hx)) (h.shift (nK l _ _ _ _ hz) (hp a List.mem_cons_self) fun j _=>by split<;>omega)
  refine ⟨key.1,key.2.trans ?_⟩
  rw [ph _ hat]
  show eJ au - a.bl+a.bl=eJ au
  omega
theorem fB.late {b:Bk} (H:fB b):fB (gJ b):=by
 have hh:=H.h.late
 unfold gJ at hh ⊢
 split
 ·rename_i h0
  rw [if_pos h0] at hh
  obtain ⟨k1,k2⟩:=qn (book:=b.book) _ _ _ _ _ h0 rfl (fun a ha=>(H.h.ok.perm a ha).2.1) H.al
  exact ⟨hh,H.bk,k1,H.due,H.jJ,by dsimp only;rw [k2];exact H.jP,H.y0,H.y1⟩
 ·exact H
theorem fB.cG {b:Bk} (H:fB b) (d:bJ):fB (fk b d).1:=by
 unfold fk
 split
 ·exact H
 ·have h:=H.h
  have h1:fB {b with time:=b.time+d.sum}:=⟨⟨h.ok.tick (by have:=h.ok.time;omega) (by have:=h.ok.time;omega),h.held,h.s0,h.s1,h.st,h.used,h.aS⟩,H.bk,H.al,H.due,H.jJ,H.jP,H.y0,H.y1⟩
  dsimp only
  split
  ·exact h1
  ·exact h1.late
theorem fB.send {b:Bk} (H:fB b) (d:bJ):fB {b with w0:=(eE b.s0 b.s1 b.n0 b.n1 b.w0 b.w1 d).1,w1:=(eE b.s0 b.s1 b.n0 b.n1 b.w0 b.w1 d).2.1}:=by
 refine ⟨H.h.send d,H.bk,H.al,H.due,H.jJ,H.jP,?_,?_⟩
 ·dsimp only
  unfold eE iV
  (repeat' split)<;>first|exact H.y0|exact H.y0.bq H.h.s0|exact H.y0.told (Int.le_refl _)
 ·dsimp only
  unfold eE iV
  (repeat' split)<;>first|exact H.y1|exact H.y1.bq H.h.s1|exact H.y1.told (Int.le_refl _)
theorem th {b:Bk} (H:fB b) {t:bg} (hk:1<=t.kind/\t.kind<=3) (hs:1<=t.sum/\t.sum<=1000000) (ha:0<=t.bd/\t.bd < b.au.length) (hz:(dP b.au b.due b.al b.book 0 t).2.2.2=0):
  (ek (dP b.au b.due b.al b.book 0 t).2.2.1).err=0/\gk (dP b.au b.due b.al b.book 0 t).2.1 (dP b.au b.due b.al b.book 0 t).2.2.1/\oo (dP b.au b.due b.al b.book 0 t).1 (dP b.au b.due b.al b.book 0 t).2.2.1/\
   db (dP b.au b.due b.al b.book 0 t).2.2.1 1=db b.book 1 - (if t.kind=3 then 0 else t.sum)/\db (dP b.au b.due b.al b.book 0 t).2.2.1 2=db b.book 2+(if t.kind=3 then t.sum else 0):=by
 obtain ⟨a,hg⟩:∃ a,b.au[t.bd.toNat]?=some a:=⟨_,List.getElem?_eq_getElem (by omega)⟩
 have hp:=H.h.ok.perm a (List.mem_of_getElem? hg)
 have hc:=H.h.ok.al;have hd:=H.h.ok.due
 have hv:=sN (l:=b.due) (k:=a.aE) (by omega) (by omega)
 have hb:=H.bound (50+a.aE)
 have hbv:=H.due a.aE.toNat _ hv
 rw [show (50+(a.aE.toNat:Int))=50+a.aE by omega] at hbv
 unfold dP at hz ⊢
 rw [hg] at hz ⊢
 dsimp only at hz ⊢
 split at hz
 ·rename_i k1
  rw [if_pos k1]
  obtain ⟨_,w,g⟩:=iy hz
  refine ⟨w,H.al.same fun j hj=>by rw [g];(repeat' split)<;>omega,H.due.set (m:=t.sum) (by omega) hv (IntWalk.i64_in _ (by omega)) fun j hj=>by rw [g];(repeat' split)<;>omega,by rw [g];(repeat' split)<;>omega,by rw [g];(repeat' split)<;>omega⟩
 rename_i k1
 rw [if_neg k1]
 split at hz
 ·rename_i k2
  rw [if_pos k2]
  obtain ⟨e1,w,g⟩:=iy hz
  refine ⟨w,H.al.shift e1 (by omega) fun j hj=>by rw [g];(repeat' split)<;>omega,H.due.same fun j hj=>by rw [g];(repeat' split)<;>omega,by rw [g];(repeat' split)<;>omega,by rw [g];(repeat' split)<;>omega⟩
 rename_i k2
 rw [if_neg k2]
 split at hz
 ·rename_i k3
  rw [if_pos k3]
  obtain ⟨_,w,g⟩:=iy hz
  refine ⟨w,H.al.same fun j hj=>by rw [g];(repeat' split)<;>omega,H.due.set (m:=0 - t.sum) (by omega) hv ((IntWalk.i64_in _ (by omega)).trans (by omega)) fun j hj=>by rw [g];(repeat' split)<;>omega,by rw [g];(repeat' split)<;>omega,by rw [g];(repeat' split)<;>omega⟩
 ·omega
theorem qa (n:Int) (t:bg):((fV n t).2=true/\t.number=n+1/\(fV n t).1=n+1)\/((fV n t).2=false/\(fV n t).1=n):=by
 unfold fV
 split
 ·exact .inr ⟨rfl,rfl⟩
 ·exact .inl ⟨rfl,by omega,rfl⟩
theorem mm {α:Type} {l:List α} {x:α} (h:x∈l.drop 1):x∈l:=List.mem_of_mem_drop h
theorem fB.jw {b:Bk} (H:fB b) (d:bJ):fB (cA b d).1:=by
 have hh:=H.h.jw d
 unfold cA at hh ⊢
 split
 ·rename_i c0
  rw [if_pos c0] at hh
  unfold fQ at hh ⊢
  split
  ·exact H
  rename_i p hp
  rw [hp] at hh
  have hm:=List.mem_of_getElem? hp
  have D0:Way b.s0 b.n1 b.w1 (b.w0.drop 1):=H.y0.sub (fun _ h=>h) (fun _ h=>mm h)
  have D1:Way b.s1 b.n0 (b.w0.drop 1) b.w1:=H.y1.sub (fun _ h=>mm h) (fun _ h=>h)
  dsimp only at hh ⊢
  split
  ·rename_i c1;rw [if_pos c1] at hh;exact ⟨hh,H.bk,H.al,H.due,H.jJ,H.jP,D0,D1⟩
  rename_i c1
  rw [if_neg c1] at hh
  split
  ·rename_i c2
   rw [if_pos c2] at hh
   split
   ·rename_i c3
    rw [if_pos c3] at hh
    obtain ⟨b1,b2,b3,b4,b5⟩:=pS c3
    have hle:=H.y0.ak p hm (by omega)
    obtain ⟨q1,q2⟩:=qD hle b.s0.kept
    rw [b4] at hh ⊢
    exact ⟨hh,H.bk,H.al,H.due,by dsimp only;rw [q1];exact H.jJ,by dsimp only;rw [q2];exact H.jP,D0.back b1 hle b3,D1⟩
   ·exact H
  rename_i c2
  rw [if_neg c2] at hh
  rcases qa b.n0 p.cc with ⟨t1,t2,t3⟩|⟨t1,t3⟩
  ·rw [if_pos t1] at hh ⊢
   rw [t3] at hh ⊢
   unfold Dev.dw at hh ⊢
   split
   ·rename_i c4
    rw [if_pos c4] at hh
    have hlo:=H.y1.lo
    obtain ⟨p1,p2⟩:=H.y1.pk p hm (by omega)
    have bN:=p2 (by omega)
    obtain ⟨i,hi⟩:=List.getElem?_of_mem bN
    have hr:=(iC H.h.s1).2.2.2 i _ hi
    have hau:=H.h.ok.k1 _ bN
    obtain ⟨r1,r2,r3,r4,r5⟩:=th H ⟨hr.1,hr.2.1⟩ ⟨hr.2.2.2.2.1,hr.2.2.2.2.2.1⟩ hau.2 c4
    obtain ⟨y1,y2⟩:=qC (xK H.h.s1) bN t2
    have hauth:eJ b.au=eJ b.au:=rfl
    exact ⟨hh,r1,r2,r3,by dsimp only;rw [r4,y1,H.jJ];omega,by dsimp only;rw [r5,y2,H.jP];omega,D0,D1.take (by omega)⟩
   ·exact H
  ·rw [if_neg (by rw [t1];decide)] at hh ⊢
   rw [t3] at hh ⊢
   exact ⟨hh,H.bk,H.al,H.due,H.jJ,H.jP,D0,D1⟩
 rename_i c0
 rw [if_neg c0] at hh
 split
 ·rename_i c01
  rw [if_pos c01] at hh
  unfold fP at hh ⊢
  split
  ·exact H
  rename_i p hp
  rw [hp] at hh
  have hm:=List.mem_of_getElem? hp
  have D0:Way b.s0 b.n1 (b.w1.drop 1) b.w0:=H.y0.sub (fun _ h=>mm h) (fun _ h=>h)
  have D1:Way b.s1 b.n0 b.w0 (b.w1.drop 1):=H.y1.sub (fun _ h=>h) (fun _ h=>mm h)
  dsimp only at hh ⊢
  split
  ·rename_i c1;rw [if_pos c1] at hh;exact ⟨hh,H.bk,H.al,H.due,H.jJ,H.jP,D0,D1⟩
  rename_i c1
  rw [if_neg c1] at hh
  split
  ·rename_i c2
   rw [if_pos c2] at hh
   split
   ·rename_i c3
    rw [if_pos c3] at hh
    obtain ⟨b1,b2,b3,b4,b5⟩:=pS c3
    have hle:=H.y1.ak p hm (by omega)
    obtain ⟨q1,q2⟩:=qD hle b.s1.kept
    rw [b4] at hh ⊢
    exact ⟨hh,H.bk,H.al,H.due,by dsimp only;rw [q1];exact H.jJ,by dsimp only;rw [q2];exact H.jP,D0,D1.back b1 hle b3⟩
   ·exact H
  rename_i c2
  rw [if_neg c2] at hh
  rcases qa b.n1 p.cc with ⟨t1,t2,t3⟩|⟨t1,t3⟩
  ·rw [if_pos t1] at hh ⊢
   rw [t3] at hh ⊢
   unfold Dev.dw at hh ⊢
   split
   ·rename_i c4
    rw [if_pos c4] at hh
    have hlo:=H.y0.lo
    obtain ⟨p1,p2⟩:=H.y0.pk p hm (by omega)
    have bN:=p2 (by omega)
    obtain ⟨i,hi⟩:=List.getElem?_of_mem bN
    have hr:=(iC H.h.s0).2.2.2 i _ hi
    have hau:=H.h.ok.k0 _ bN
    obtain ⟨r1,r2,r3,r4,r5⟩:=th H ⟨hr.1,hr.2.1⟩ ⟨hr.2.2.2.2.1,hr.2.2.2.2.2.1⟩ hau.2 c4
    obtain ⟨y1,y2⟩:=qC (xK H.h.s0) bN t2
    exact ⟨hh,r1,r2,r3,by dsimp only;rw [r4,y1,H.jJ];omega,by dsimp only;rw [r5,y2,H.jP];omega,D0.take (by omega),D1⟩
   ·exact H
  ·rw [if_neg (by rw [t1];decide)] at hh ⊢
   rw [t3] at hh ⊢
   exact ⟨hh,H.bk,H.al,H.due,H.jJ,H.jP,D0,D1⟩
 ·exact H
theorem fB.asks {b:Bk} (H:fB b) (d:bJ):fB (dK b d).1:=by
 have hh:=H.h.asks d
 unfold dK at hh ⊢
 split
 ·exact H
 rename_i c0
 rw [if_neg c0] at hh
 split
 ·rename_i cd
  rw [if_pos cd] at hh
  split
  ·exact H
  rename_i c1
  rw [if_neg c1] at hh
  split
  ·exact H
  rename_i c2
  rw [if_neg c2] at hh
  exact ⟨hh,H.bk,H.al,H.due,H.jJ,H.jP,H.y0,H.y1⟩
 rename_i cd
 rw [if_neg cd] at hh
 split
 ·exact H
 rename_i c2
 rw [if_neg c2] at hh
 split
 ·exact H
 rename_i c3
 rw [if_neg c3] at hh
 obtain ⟨_,w2,_⟩:=lM (show (dm d.n d.aE d.sum b.time).2=0 by omega)
 split
 ·exact H
 rename_i c hc
 rw [hc] at hh
 dsimp only at hh
 split
 ·exact H
 rename_i c4
 rw [if_neg c4] at hh
 have hf:=(xf (show dz c d.sum b.time=((dz c d.sum b.time).1,(dz c d.sum b.time).2) from rfl)).1 (by omega)
 refine ⟨hh,H.bk,H.al.put hc hf.2.2.1,H.due,H.jJ,?_,H.y0,H.y1⟩
 dsimp only
 rw [pj,w2]
 have:eJ [(⟨d.n,d.aE,d.sum,0,0,0,b.time+100,false⟩:bC)]=0:=rfl
 rw [H.jP]
 simp only [eJ];omega
theorem tf {book:List Entry}:∀ (l:List cp) (cs:List bD) (xs:List bC),(fK l cs xs).2.2=0->gk cs book->(∀ a∈l,0<=a.aO/\a.aO < cs.length)->gk (fK l cs xs).1 book/\eJ (fK l cs xs).2.1=eJ xs
 |[],cs,xs,_,h,_=>⟨h,rfl⟩
 |x::l,cs,xs,hz,h,hl=>by
  unfold fK at hz ⊢
  split at hz
  ·rename_i h1;exact absurd hz h1
  rename_i h1
  rw [if_neg h1]
  have hx:=hl x List.mem_cons_self
  cases hc:cs[x.aO.toNat]? with
  |none=>have:=List.getElem?_eq_none_iff.1 hc;omega
  |some c=>
   rw [hc] at hz
   dsimp only at hz ⊢
   split at hz
   ·rename_i h2;exact absurd hz h2
   rename_i h2
   rw [if_neg h2]
   obtain ⟨_,w2,_⟩:=lM (show (dm x.aO x.aE x.sum x.time).2=0 by omega)
   obtain ⟨_,f2,_⟩:=lQ (show (eP c x.sum).2=0 by omega)
   have key:=tf (book:=book) l _ _ hz (h.put hc (by rw [f2])) (fun a ha=>by rw [List.length_set];exact hl a (List.mem_cons_of_mem _ ha))
   refine ⟨key.1,key.2.trans ?_⟩
   rw [pj,w2];simp only [eJ];omega
theorem fB.zv {b:Bk} (H:fB b):fB (iM b).1:=by
 unfold iM
 split
 ·exact H
 split
 ·exact H
 split
 ·exact H
 rename_i c1 c2 c3
 have h:=H.h
 have h0:(cX b.aY).2.2=0:=by omega
 obtain ⟨r1,r2,r3⟩:=nY h0
 have hu:=h.ok.ye h0
 have hz:(fK (cX b.aY).2.1 b.al b.au).2.2=0:=by omega
 have hadv:∀ a∈(cX b.aY).2.1,0<=a.aO/\a.aO < b.al.length:=fun a ha=>by rw [r3] at ha;have:=h.ok.jx a ha;omega
 obtain ⟨u1,u2⟩:=qG _ _ _ hz h.held hadv
 obtain ⟨v1,v2⟩:=tf (book:=b.book) _ _ _ hz H.al hadv
 have hp:=gy h.st
 refine fB.late ⟨⟨hu,u1,h.s0,h.s1,?_,?_,h.aS⟩,H.bk,v1,H.due,H.jJ,by dsimp only;rw [v2];exact H.jP,H.y0,H.y1⟩
 ·dsimp only;rw [r2]
  have hc:0<=b.aY.cap/\b.aY.cap<=1000000:=by simpa [gr] using hp.2.2.1
  exact oR _ _ hp.1 hc.1 hc.2
 ·dsimp only;rw [r2,u2];simp [h.used]
theorem yB {a b:bC} {k n:Int} (h:jC a k n b):b.bl=a.bl+(if k=6 then n else 0) - (if k=7\/k=8 then n else 0):=by
 cases h with
 |more h _ _=>dsimp only;(repeat' split)<;>omega
 |take h _ _=>dsimp only;(repeat' split)<;>omega
 |less h _ _=>dsimp only;(repeat' split)<;>omega
 |rG h _=>dsimp only;(repeat' split)<;>omega
 |pQ h _=>dsimp only;(repeat' split)<;>omega
 |pN h _=>dsimp only;(repeat' split)<;>omega
 |pM h _=>dsimp only;(repeat' split)<;>omega
theorem fB.jv {b:Bk} (H:fB b) (d:bJ):fB (dN b d).1:=by
 have hh:=H.h.jv d
 unfold dN at hh ⊢
 split
 ·exact H
 rename_i cd
 rw [if_neg cd] at hh
 split
 ·exact H
 rename_i c1
 rw [if_neg c1] at hh
 split
 ·exact H
 rename_i cw ho
 rw [ho] at hh
 dsimp only at hh
 split
 ·exact H
 rename_i c2
 rw [if_neg c2] at hh
 split
 ·exact H
 rename_i c3
 rw [if_neg c3] at hh
 have hmv:cq cw d.move d.sum=((cq cw d.move d.sum).1,0):=Prod.ext rfl (by dsimp only;omega)
 generalize (cq cw d.move d.sum).1=a at *
 obtain ⟨_,hwa,hcard,hshop,hk1,hk2,hn1,hn2⟩:=kJ hmv
 rcases nI hmv with ⟨h4,_⟩|⟨_,hw,_,_,hm⟩
 ·exact absurd rfl h4
 have hp:=H.h.ok.perm cw (List.mem_of_getElem? ho)
 have hc:=H.h.ok.al;have hd:=H.h.ok.due
 have hdis:=yB hm
 have hdl:eJ (b.au.set d.n.toNat a)=eJ b.au - cw.bl+a.bl:=ph a ho
 have hv:=sN (l:=b.due) (k:=a.aE) (by omega) (by omega)
 have hb:=H.bound (50+a.aE)
 have hbv:=H.due a.aE.toNat _ hv
 rw [show (50+(a.aE.toNat:Int))=50+a.aE by omega] at hbv
 have hy0:=H.y0.hi;have hy1:=H.y1.hi
 have hway:=H.jJ;have hdd:=H.jP
 unfold nV Dev.dw at hh ⊢
 split
 rotate_left
 ·exact H
 rename_i h0
 rw [if_pos h0] at hh
 obtain ⟨e0,hl0,hnote⟩:=rL h0
 have key:(ek (dk b a cw d).2.2.1).err=0/\gk (dk b a cw d).1 (dk b a cw d).2.2.1/\oo (dk b a cw d).2.1 (dk b a cw d).2.2.1/\
   db (dk b a cw d).2.2.1 1=eZ b.n1 (dk b a cw d).2.2.2.1.kept+eZ b.n0 (dk b a cw d).2.2.2.2.1.kept/\
   db (dk b a cw d).2.2.1 2=0 - eJ (b.au.set d.n.toNat a) - (fe b.n1 (dk b a cw d).2.2.2.1.kept+fe b.n0 (dk b a cw d).2.2.2.2.1.kept)/\
   Way (dk b a cw d).2.2.2.1 b.n1 b.w1 b.w0/\Way (dk b a cw d).2.2.2.2.1 b.n0 b.w0 b.w1:=by
  rw [hdl,hdis]
  unfold dk at e0 ⊢
  split at e0
  ·rename_i hk;rw [if_pos hk]
   refine ⟨H.bk,H.al.shift e0 (by omega) fun j hj=>by dsimp only;split<;>omega,H.due,hway,?_,H.y0,H.y1⟩
   dsimp only;rw [hdd];(repeat' split)<;>omega
  rename_i k1
  rw [if_neg k1]
  split at e0
  ·rename_i hk;rw [if_pos hk]
   obtain ⟨e1,e2,e3⟩:=iW e0
   obtain ⟨_,p2,p3⟩:=mS e2
   obtain ⟨e4,w,g⟩:=iy e1
   refine ⟨w,H.al.shift e4 (by omega) fun j hj=>by rw [g];(repeat' split)<;>omega,H.due.same fun j hj=>by rw [g];(repeat' split)<;>omega,?_,?_,by dsimp only;rw [e3,p3];exact H.y0.put _,H.y1⟩
   ·dsimp only;rw [e3,p3,g];simp only [gO,nj,eZ];rw [hway];(repeat' split)<;>first|omega|(simp only [not_true,not_false_iff,or_false,or_true,false_or,true_or] at *;omega)|(simp_all;done)|(simp_all;omega)
   ·dsimp only;rw [e3,p3,g];simp only [gO,oc,fe];rw [hdd];(repeat' split)<;>first|omega|(simp only [not_true,not_false_iff,or_false,or_true,false_or,true_or] at *;omega)|(simp_all;done)|(simp_all;omega)
  rename_i k2
  rw [if_neg k2]
  split at e0
  ·rename_i hk;rw [if_pos hk]
   obtain ⟨e1,e2,e3⟩:=iW e0
   obtain ⟨_,p2,p3⟩:=mS e2
   obtain ⟨e4,w,g⟩:=iy e1
   refine ⟨w,H.al.same fun j hj=>by rw [g];(repeat' split)<;>omega,H.due.set (m:=0 - d.sum) (by omega) hv ((IntWalk.i64_in _ (by omega)).trans (by omega)) fun j hj=>by rw [g];(repeat' split)<;>omega,?_,?_,H.y0,by dsimp only;rw [e3,p3];exact H.y1.put _⟩
   ·dsimp only;rw [e3,p3,g];simp only [gO,nj,eZ];rw [hway];(repeat' split)<;>first|omega|(simp only [not_true,not_false_iff,or_false,or_true,false_or,true_or] at *;omega)|(simp_all;done)|(simp_all;omega)
   ·dsimp only;rw [e3,p3,g];simp only [gO,oc,fe];rw [hdd];(repeat' split)<;>first|omega|(simp only [not_true,not_false_iff,or_false,or_true,false_or,true_or] at *;omega)|(simp_all;done)|(simp_all;omega)
  rename_i k3
  rw [if_neg k3]
  split at e0
  ·rename_i hk;rw [if_pos hk]
   obtain ⟨e4,w,g⟩:=iy e0
   refine ⟨w,H.al.shift e4 (by omega) fun j hj=>by rw [g];(repeat' split)<;>omega,H.due.same fun j hj=>by rw [g];(repeat' split)<;>omega,?_,?_,H.y0,H.y1⟩
   ·dsimp only;rw [g,hway];(repeat' split)<;>first|omega|(simp only [not_true,not_false_iff,or_false,or_true,false_or,true_or] at *;omega)|(simp_all;done)|(simp_all;omega)
   ·dsimp only;rw [g,hdd];(repeat' split)<;>first|omega|(simp only [not_true,not_false_iff,or_false,or_true,false_or,true_or] at *;omega)|(simp_all;done)|(simp_all;omega)
  rename_i k4
  rw [if_neg k4]
  split at e0
  ·rename_i hk;rw [if_pos hk]
   obtain ⟨e1,e2,e3⟩:=iW e0
   obtain ⟨_,p2,p3⟩:=mS e2
   refine ⟨H.bk,H.al,H.due,?_,?_,by dsimp only;rw [e3,p3];exact H.y0.put _,H.y1⟩
   ·dsimp only;rw [e3,p3];simp only [gO,nj,eZ];rw [hway];(repeat' split)<;>first|omega|(simp only [not_true,not_false_iff,or_false,or_true,false_or,true_or] at *;omega)|(simp_all;done)|(simp_all;omega)
   ·dsimp only;rw [e3,p3];simp only [gO,oc,fe];rw [hdd];(repeat' split)<;>first|omega|(simp only [not_true,not_false_iff,or_false,or_true,false_or,true_or] at *;omega)|(simp_all;done)|(simp_all;omega)
  rename_i k5
  rw [if_neg k5]
  split at e0
  ·rename_i hk;rw [if_pos hk]
   obtain ⟨e4,w,g⟩:=iy e0
   refine ⟨w,H.al.shift e4 (by omega) fun j hj=>by rw [g];(repeat' split)<;>omega,H.due.same fun j hj=>by rw [g];(repeat' split)<;>omega,?_,?_,H.y0,H.y1⟩
   ·dsimp only;rw [g,hway];(repeat' split)<;>first|omega|(simp only [not_true,not_false_iff,or_false,or_true,false_or,true_or] at *;omega)|(simp_all;done)|(simp_all;omega)
   ·dsimp only;rw [g,hdd];(repeat' split)<;>first|omega|(simp only [not_true,not_false_iff,or_false,or_true,false_or,true_or] at *;omega)|(simp_all;done)|(simp_all;omega)
  ·omega
 exact ⟨hh,key.1,key.2.1,key.2.2.1,key.2.2.2.1,key.2.2.2.2.1,key.2.2.2.2.2.1,key.2.2.2.2.2.2⟩
theorem fB.start {s:Setup} (h:(eC s).err=0):fB (iB s):=by
 refine ⟨ea.start h,rfl,fun k c hc=>?_,fun k n hn=>?_,rfl,rfl,⟨Int.le_refl 0,Int.le_refl 0,fun p hp=>(by cases hp),fun p hp=>(by cases hp)⟩,⟨Int.le_refl 0,Int.le_refl 0,fun p hp=>(by cases hp),fun p hp=>(by cases hp)⟩⟩
 ·have hc:(s.da.map nZ)[k]?=some c:=hc
  rw [List.getElem?_map] at hc
  cases hp:s.da[k]? with
  |none=>rw [hp] at hc;cases hc
  |some p=>rw [hp] at hc;injection hc with hc;subst hc;rfl
 ·have hn:(List.replicate s.gn.toNat (0:Int))[k]?=some n:=hn
  rw [List.getElem?_replicate] at hn
  split at hn
  ·obtain rfl:(0:Int)=n:=Option.some.inj hn
   rfl
  ·cases hn
theorem fB.sS {b:Bk} (H:fB b) (y:List (List Int)) (d:bJ):fB (eX b y d).1:=by
 have hh:=H.h.sS y d
 unfold eX at hh ⊢
 split
 ·exact H.load d
 rename_i k1
 rw [if_neg k1] at hh
 split
 ·exact H.asks d
 rename_i k2
 rw [if_neg k2] at hh
 split
 ·exact H.jv d
 rename_i k3
 rw [if_neg k3] at hh
 split
 ·exact H.cG d
 rename_i k4
 rw [if_neg k4] at hh
 split
 ·exact H.send d
 rename_i k5
 rw [if_neg k5] at hh
 split
 ·exact H.jw d
 rename_i k6
 rw [if_neg k6] at hh
 split
 ·rename_i k7
  rw [if_pos k7] at hh
  split
  ·exact H
  ·rename_i k8;rw [if_neg k8] at hh;exact ⟨hh,H.bk,H.al,H.due,H.jJ,H.jP,H.y0,H.y1⟩
 rename_i k7
 rw [if_neg k7] at hh
 split
 ·exact H.zv
 rename_i k8
 rw [if_neg k8] at hh
 split
 ·rename_i k9;rw [if_pos k9] at hh;exact ⟨hh,H.bk,H.al,H.due,H.jJ,H.jP,H.y0,H.y1⟩
 split
 ·exact H.qj d
 ·exact H
theorem Dn {s:Setup} {l:List bJ} {b:Bk} {y:List (List Int)} {o:List Answer} {f:dc} (hr:iJ s l=(b,y,o,f)) (hf:f.err=0):fB b:=
 wG (I:=fun b _=>fB b) hr hf fB.start fun d _ b y h=>h.sS y d
theorem gb {n:Int} {l:List bg} {q:Nat} {t:bg} (h:l[q]?=some t):eZ n (l.take (q+1))=eZ n (l.take q)+(if t.number<=n\/t.kind=3 then 0 else t.sum)/\fe n (l.take (q+1))=fe n (l.take q)+(if t.number<=n\/¬t.kind=3 then 0 else t.sum):=by
 rw [gV h,nj,oc];simp only [eZ,fe,Int.add_zero];exact ⟨trivial,trivial⟩
theorem AE {l:List bC} {q:Nat} {a:bC} (h:l[q]?=some a):eJ (l.take (q+1))=eJ (l.take q)+a.bl:=by
 rw [gV h,pj];simp only [eJ,Int.add_zero]
theorem BE {s:Setup} {l:List bJ} {b:Bk} {y:List (List Int)} {o:List Answer} {f:dc} (hr:iJ s l=(b,y,o,f)) (hf:¬f.err=0):b=yx/\y=[]:=by
 unfold iJ at hr
 split at hr
 ·simp only [Prod.mk.injEq] at hr;exact ⟨hr.1.symm,hr.2.1.symm⟩
 split at hr
 ·simp only [Prod.mk.injEq] at hr;exact ⟨hr.1.symm,hr.2.1.symm⟩
 ·simp only [Prod.mk.injEq] at hr;rw [<-hr.2.2.2] at hf;exact absurd rfl hf

theorem ze (s:Setup) (l:List bJ):Fn Try.prog 9 [(.g [(cR 3 ((s.da).map gR)),(cI s.gn),(cI s.cap)]),(.c (te l))] (aB true) []:=by
 refine Fn.mk' 135 [(0,(aG [(cR 3 ((s.da).map gR)),(cI s.gn),(cI s.cap)])),(1,(aC (te l)))] Try.func9 rfl rfl rfl rfl ?_
 intro W0 T0
 refine cF 0 0 rfl rfl (fun hlen0_0=>?_)
 refine dq 1 rfl (fun hlen1=>?_)
 refine ae aa 2 rfl ?_
 refine ag ?_
 refine eK ?_
 refine aT 1 [0] (bU 1 (Cu) HE rfl rfl trivial trivial trivial rfl rfl rfl rfl) rfl ?_
 refine ad aa 1 rfl ?_
 refine af ?_
 refine aj rfl (fun hno=>by cases hno) (fun _=>?_)
 refine aQ ?_
 refine aH aa 2 rfl ?_
 obtain ⟨b20,y20,o20,f20,hr0⟩:∃ (b20:Bk) (y20:List (List Int)) (o20:List Answer) (f20:dc),iJ s l=(b20,y20,o20,f20):=⟨_,_,_,_,rfl⟩
 refine aT 1 [0] (bU 1 (Fn.frozen (av':=(.t [(.g [(cI b20.time),(cB b20.down),(gj b20.al),(df b20.due),(gK b20.au),(cI b20.s0.bq),(ck b20.s0.kept),(cI b20.s1.bq),(ck b20.s1.kept),(cI b20.n0),(cI b20.n1),(cV b20.w0),(cV b20.w1),(cI b20.aY.cap),(df b20.aY.used),(eb b20.aY.aU),(eG b20.aS),(hP y20),(cZ b20.book)]),(.c (DJ o20)),(.g [(cI f20.err),(cI f20.at_)])])) (AY s l b20 y20 o20 f20 hr0) ⟨⟨.inl ⟨_,rfl,rfl⟩,.inl ⟨_,rfl,rfl⟩,.inr ⟨_,_,_,_,_,rfl,rfl,rfl,by simp⟩,.inr ⟨_,_,_,_,_,rfl,rfl,rfl,by simp⟩,.inr ⟨_,_,_,_,_,rfl,rfl,rfl,by simp⟩,.inl ⟨_,rfl,rfl⟩,.inl ⟨_,rfl,rfl⟩,.inl ⟨_,rfl,rfl⟩,.inl ⟨_,rfl,rfl⟩,.inl ⟨_,rfl,rfl⟩,.inl ⟨_,rfl,rfl⟩,.inl ⟨_,rfl,rfl⟩,.inl ⟨_,rfl,rfl⟩,.inl ⟨_,rfl,rfl⟩,.inl ⟨_,rfl,rfl⟩,.inl ⟨_,rfl,rfl⟩,.inr ⟨_,_,_,_,_,rfl,rfl,rfl,by simp⟩,.inr ⟨_,_,_,_,_,rfl,rfl,rfl,by simp⟩,.inl ⟨_,rfl,rfl⟩,trivial⟩,.inr ⟨_,_,_,_,_,rfl,rfl,rfl,by simp⟩,⟨.inl ⟨_,rfl,rfl⟩,.inl ⟨_,rfl,rfl⟩,trivial⟩,trivial⟩) EX rfl rfl ⟨⟨_,rfl,.g ⟨.d _,.d _,.d _,trivial⟩⟩,⟨_,rfl,.c (.d _)⟩,trivial⟩ ⟨⟨trivial,trivial,trivial,trivial,trivial,trivial,trivial,trivial,trivial,trivial,trivial,trivial,trivial,trivial,trivial,trivial,trivial,trivial,trivial,trivial⟩,trivial,⟨trivial,trivial,trivial⟩,trivial⟩ trivial rfl rfl rfl rfl) rfl ?_
 refine ad aa 9 rfl ?_
 refine af ?_
 refine ag ?_
 refine ae aa 3 rfl ?_
 refine aj rfl (fun hc2=>?_) (fun hc2=>?_)
 ·
  have hc2':=of_decide_eq_true hc2
  obtain ⟨hbn,hyn⟩:=BE hr0 (by omega)
  subst hbn;subst hyn
  refine aH aa 2 rfl ?_
  refine aT 3 [2,1,0] (bU 3 (Fo yx ([]:List (List Int))) HC rfl rfl ⟨⟨_,rfl,.g ⟨.d _,.d _,.d _,.d _,.d _,.d _,.d _,.d _,.d _,.d _,.d _,.d _,.d _,.d _,.d _,.d _,.d _,.d _,.d _,trivial⟩⟩,⟨_,rfl,.g ⟨.d _,.d _,.nil _,.nil _,.nil _,.d _,.nil _,.d _,.nil _,.d _,.d _,.nil _,.nil _,.d _,.nil _,.nil _,.nil _,.nil _,.nil _,trivial⟩⟩,trivial⟩ trivial trivial rfl rfl rfl rfl) rfl ?_
  refine ad aa 1 rfl ?_
  refine af ?_
  refine aA ?_
  refine ax ?_
  refine aq aa [] 0 rfl rfl rfl rfl rfl rfl ?_ ?_
  ·rfl
  ·rfl
 have hc2':=of_decide_eq_false hc2
 refine aQ ?_
 refine ag ?_
 have H:=Dn hr0 (by omega)
 have hok:=H.h.ok
 have okc:=hok.al
 have okd:=hok.due
 have oka:=hok.au
 have okp:=hok.perm
 have okg:=hok.right
 have hs0:=iC H.h.s0
 have hs1:=iC H.h.s1
 have hwy:=H.jJ
 have hdy:=H.jP
 refine aH aa 2 rfl ?_
 obtain ⟨f1,hr1⟩:∃ (f1:dc),ek b20.book=f1:=⟨_,rfl⟩
 have hwb:f1.err=0:=by rw [<-hr1];exact H.bk
 refine aT 3 [2,1,0] (bU 3 (pv b20.book f1 hr1) EU rfl rfl ⟨⟨_,rfl,.c (.d _)⟩,trivial⟩ ⟨trivial,trivial,trivial⟩ trivial rfl rfl rfl rfl) rfl ?_
 refine az (vN rfl rfl Try.underlying50 rfl Try.underlying48 rfl rfl) rfl ?_
 refine ad aa 1 rfl ?_
 refine af ?_
 refine aj rfl (fun hc3=>?_) (fun hc3=>?_)
 ·
  have hc3':=of_decide_eq_true hc3
  refine ae aa 1 rfl ?_
  refine aA ?_
  refine ax ?_
  refine aq aa [] 0 rfl rfl rfl rfl rfl rfl ?_ ?_
  ·exact congrArg aB (show (false)=true by (exfalso;omega))
  ·rfl
 have hc3':=of_decide_eq_false hc3
 refine aQ ?_
 refine ag ?_
 refine aH aa 2 rfl ?_
 refine az (bP rfl rfl rfl rfl rfl Try.underlying29) rfl ?_
 refine ad aa 1 rfl ?_
 refine af ?_
 refine aR ?_
 refine ch (β:=Nat) (fun (q:Nat)=>⟨[(5,(aC (.p 1 0 0 0))),(42,(aC (gj b20.al))),(43,(aI (↑b20.al.length:Int))),(44,(aI (↑q:Int)))],[(1,(.box 46 [(cI b20.time),(cB b20.down),(gj b20.al),(df b20.due),(gK b20.au),(cI b20.s0.bq),(ck b20.s0.kept),(cI b20.s1.bq),(ck b20.s1.kept),(cI b20.n0),(cI b20.n1),(cV b20.w0),(cV b20.w1),(cI b20.aY.cap),(df b20.aY.used),(eb b20.aY.aU),(eG b20.aS),(hP y20),(cZ b20.book)]))],2⟩) (fun (q:Nat)=>q<=b20.al.length) (fun (q:Nat)=>b20.al.length - q) 0 ?_ ?_ ?_
 ·exact (by omega)
 ·exact aF.bL id (by refine ⟨?_,?_,?_,?_,trivial⟩<;>first|rfl|(simp only [ba];done)|(congr 3;omega)|(congr 4;omega)|(simp only [bb];rfl)) (⟨by first|rfl|(simp only [ba];done)|(congr 3;omega)|(congr 4;omega)|(simp only [bb];rfl),trivial⟩) rfl
 rintro q hi0_0
 refine ae aa 1 rfl ?_
 refine ag ?_
 refine aj rfl (fun hc4=>?_) (fun hc4=>?_)
 ·
  have hc4':=of_decide_eq_true hc4
  refine aQ ?_
  refine ag ?_
  refine aR ?_
  refine aH aa 1 rfl ?_
  obtain ⟨x1,hx1⟩:=cg (xs:=b20.al) (i:=q) (by first|omega|(simp;done)|(simp;omega))
  have hx1K:=H.al _ x1 hx1
  refine az (bX (i:=q) rfl rfl rfl Try.underlying29 iu (by first|omega|(simp;done)|(simp;omega)) (bj hx1)) rfl ?_
  refine ad aa 4 rfl ?_
  refine af ?_
  refine ag ?_
  obtain ⟨n2,hr2⟩:∃ (n2:Int),db b20.book (10+(↑q:Int))=n2:=⟨_,rfl⟩
  refine aX [5,42,43,44,9,8] [2,1] mixed rfl rfl ?_
  refine ay (kn:=[]) aa 3 rfl trivial ?_
  refine aP (n':=3) [51] [] rfl rfl (.inl ⟨(ah.plain rfl),aJ.cast (aK rfl rfl rfl (aL (by first|omega|(simp;done)|(simp;omega)))) rfl⟩) rfl ?_
  refine aP (n':=3) [50,52] [] rfl rfl (.inl ⟨(ah.plain rfl),aJ.cast (bU 3 (lA b20.book (10+(↑q:Int)) n2 hr2) yR rfl rfl ⟨⟨_,rfl,.c (.d _)⟩,⟨_,rfl,.c (.d _)⟩,trivial⟩ trivial trivial rfl rfl rfl rfl) rfl⟩) rfl ?_
  refine ay (kn:=[]) aa 3 rfl trivial ?_
  refine bw [2,1] rfl rfl rfl rfl (by kernel_rfl) ?_
  refine af ?_
  refine aj rfl (fun hc5=>?_) (fun hc5=>?_)
  ·
   have hc5':=of_decide_eq_true hc5
   refine ae aa 1 rfl ?_
   refine aA ?_
   refine bp ?_
   refine ax ?_
   refine ax ?_
   refine bp ?_
   refine ax ?_
   refine aq aa [] 0 rfl rfl rfl rfl rfl rfl ?_ ?_
   ·exact congrArg aB (show (false)=true by (exfalso;omega))
   ·rfl
  have hc5':=of_decide_eq_false hc5
  refine cE ?_
  refine bf ?_
  refine then_ok ?_
  refine aw ?_
  refine az (aK rfl rfl rfl (aL (by first|omega|(simp;done)|(simp;omega)))) rfl ?_
  refine ad aa 1 rfl ?_
  refine af ?_
  refine ⟨q+1,by omega,by first|omega|(simp;done)|(simp;omega),aF.bL id (by refine ⟨?_,?_,?_,?_,trivial⟩<;>first|rfl|(simp only [ba];done)|(congr 3;omega)|(congr 4;omega)|(simp only [bb];rfl)) (⟨by first|rfl|(simp only [ba];done)|(congr 3;omega)|(congr 4;omega)|(simp only [bb];rfl),trivial⟩) rfl⟩
 have hc4':=of_decide_eq_false hc4
 refine bT ?_
 refine aN ?_
 refine aN ?_
 refine bA ?_
 refine then_ok ?_
 refine ag ?_
 refine aH aa 2 rfl ?_
 refine az (bP rfl rfl rfl rfl rfl Try.underlying30) rfl ?_
 refine ad aa 1 rfl ?_
 refine af ?_
 refine aR ?_
 refine ch (β:=Nat) (fun (q1:Nat)=>⟨[(5,(aC (.p 1 0 0 0))),(42,(aC (gj b20.al))),(43,(aI (↑b20.al.length:Int))),(44,(aI (↑q:Int))),(59,(aC (df b20.due))),(60,(aI (↑b20.due.length:Int))),(61,(aI (↑q1:Int)))],[(1,(.box 46 [(cI b20.time),(cB b20.down),(gj b20.al),(df b20.due),(gK b20.au),(cI b20.s0.bq),(ck b20.s0.kept),(cI b20.s1.bq),(ck b20.s1.kept),(cI b20.n0),(cI b20.n1),(cV b20.w0),(cV b20.w1),(cI b20.aY.cap),(df b20.aY.used),(eb b20.aY.aU),(eG b20.aS),(hP y20),(cZ b20.book)]))],2⟩) (fun (q1:Nat)=>q1<=b20.due.length) (fun (q1:Nat)=>b20.due.length - q1) 0 ?_ ?_ ?_
 ·exact (by omega)
 ·exact aF.bL id (by refine ⟨?_,?_,?_,?_,?_,?_,?_,trivial⟩<;>first|rfl|(simp only [ba];done)|(congr 3;omega)|(congr 4;omega)|(simp only [bb];rfl)) (⟨by first|rfl|(simp only [ba];done)|(congr 3;omega)|(congr 4;omega)|(simp only [bb];rfl),trivial⟩) rfl
 rintro q1 hi1_0
 refine ae aa 1 rfl ?_
 refine ag ?_
 refine aj rfl (fun hc6=>?_) (fun hc6=>?_)
 ·
  have hc6':=of_decide_eq_true hc6
  refine aQ ?_
  refine ag ?_
  refine aR ?_
  refine aH aa 1 rfl ?_
  obtain ⟨x1,hx1⟩:=cg (xs:=b20.due) (i:=q1) (by first|omega|(simp;done)|(simp;omega))
  have hx1K:=H.due _ x1 hx1
  refine az (bX (i:=q1) rfl rfl rfl Try.underlying30 fC (by first|omega|(simp;done)|(simp;omega)) (bj hx1)) rfl ?_
  refine ad aa 3 rfl ?_
  refine af ?_
  refine aH aa 3 rfl ?_
  refine az (aK rfl rfl rfl (aL (by first|omega|(simp;done)|(simp;omega)))) rfl ?_
  obtain ⟨n3,hr3⟩:∃ (n3:Int),db b20.book (50+(↑q1:Int))=n3:=⟨_,rfl⟩
  refine aT 2 [1] (bU 2 (lA b20.book (50+(↑q1:Int)) n3 hr3) yR rfl rfl ⟨⟨_,rfl,.c (.d _)⟩,⟨_,rfl,.c (.d _)⟩,trivial⟩ trivial trivial rfl rfl rfl rfl) rfl ?_
  refine ad aa 2 rfl ?_
  refine af ?_
  refine aj rfl (fun hc7=>?_) (fun hc7=>?_)
  ·
   have hc7':=of_decide_eq_true hc7
   refine ae aa 1 rfl ?_
   refine aA ?_
   refine bp ?_
   refine ax ?_
   refine ax ?_
   refine bp ?_
   refine ax ?_
   refine aq aa [] 0 rfl rfl rfl rfl rfl rfl ?_ ?_
   ·exact congrArg aB (show (false)=true by (exfalso;omega))
   ·rfl
  have hc7':=of_decide_eq_false hc7
  refine cE ?_
  refine bf ?_
  refine then_ok ?_
  refine aw ?_
  refine az (aK rfl rfl rfl (aL (by first|omega|(simp;done)|(simp;omega)))) rfl ?_
  refine ad aa 1 rfl ?_
  refine af ?_
  refine ⟨q1+1,by omega,by first|omega|(simp;done)|(simp;omega),aF.bL id (by refine ⟨?_,?_,?_,?_,?_,?_,?_,trivial⟩<;>first|rfl|(simp only [ba];done)|(congr 3;omega)|(congr 4;omega)|(simp only [bb];rfl)) (⟨by first|rfl|(simp only [ba];done)|(congr 3;omega)|(congr 4;omega)|(simp only [bb];rfl),trivial⟩) rfl⟩
 have hc6':=of_decide_eq_false hc6
 refine bT ?_
 refine aN ?_
 refine aN ?_
 refine bA ?_
 refine then_ok ?_
 refine ae aa 2 rfl ?_
 refine ag ?_
 refine aH aa 1 rfl ?_
 refine az (nP rfl rfl rfl Try.underlying35 rfl GI rfl rfl) rfl ?_
 refine ad aa 1 rfl ?_
 refine af ?_
 refine aR ?_
 refine ch (β:=Nat×Int×Int) (fun (p:Nat×Int×Int)=>match p with|(i,w,k)=>⟨[(5,(aC (.p 1 0 0 0))),(42,(aC (gj b20.al))),(43,(aI (↑b20.al.length:Int))),(44,(aI (↑q:Int))),(59,(aC (df b20.due))),(60,(aI (↑b20.due.length:Int))),(61,(aI (↑q1:Int))),(12,(aI w)),(13,(aI k)),(75,(aG [(cI b20.s0.bq),(ck b20.s0.kept),(cI b20.s1.bq),(ck b20.s1.kept)])),(76,(aI (↑i:Int)))],[(1,(.box 46 [(cI b20.time),(cB b20.down),(gj b20.al),(df b20.due),(gK b20.au),(cI b20.s0.bq),(ck b20.s0.kept),(cI b20.s1.bq),(ck b20.s1.kept),(cI b20.n0),(cI b20.n1),(cV b20.w0),(cV b20.w1),(cI b20.aY.cap),(df b20.aY.used),(eb b20.aY.aU),(eG b20.aS),(hP y20),(cZ b20.book)]))],2⟩) (fun (p:Nat×Int×Int)=>match p with|(i,w,k)=>((i=0/\w=0/\k=0)\/(i=1/\w=eZ b20.n1 b20.s0.kept/\k=fe b20.n1 b20.s0.kept)\/(i=2/\w=eZ b20.n1 b20.s0.kept+eZ b20.n0 b20.s1.kept/\k=fe b20.n1 b20.s0.kept+fe b20.n0 b20.s1.kept))/\0<=w/\w<=40000000 * i/\0<=k/\k<=40000000 * i) (fun (p:Nat×Int×Int)=>match p with|(i,w,k)=>2 - i) (0,0,0) ?_ ?_ ?_
 ·exact ⟨by omega,by omega,by omega⟩
 ·exact aF.bL id (by refine ⟨?_,?_,?_,?_,?_,?_,?_,?_,?_,?_,?_,trivial⟩<;>first|rfl|(simp only [ba];done)|(congr 3;omega)|(congr 4;omega)|(simp only [bb];rfl)) (⟨by first|rfl|(simp only [ba];done)|(congr 3;omega)|(congr 4;omega)|(simp only [bb];rfl),trivial⟩) rfl
 rintro ⟨i,w,k⟩ ⟨hi2_0,hi2_1,hi2_2⟩
 refine ae aa 1 rfl ?_
 refine ag ?_
 refine aj rfl (fun hc8=>?_) (fun hc8=>?_)
 ·
  have hc8':=of_decide_eq_true hc8
  refine aQ ?_
  refine ag ?_
  refine aR ?_
  rcases (show i=0\/i=1 from by omega) with hs9|hs9
  ·
   refine fU (i:=76) (v:=(aI 0)) (cL (ρ:=id) rfl (by omega)) ?_
   refine aH aa 1 rfl ?_
   refine az (vM (i:=0) (cs:=[(cI b20.s0.bq),(ck b20.s0.kept)]) rfl rfl rfl Try.underlying35 Try.underlying34 rfl jk rfl (by decide) rfl) rfl ?_
   refine ad aa 3 rfl ?_
   refine af ?_
   refine aH aa 2 rfl ?_
   refine az (bP rfl rfl rfl rfl rfl Try.underlying32) rfl ?_
   refine ad aa 1 rfl ?_
   refine af ?_
   refine aR ?_
   refine ch (β:=Nat×Int×Int) (fun (p:Nat×Int×Int)=>match p with|(q2,w1,k1)=>⟨[(5,(aC (.p 1 0 0 0))),(42,(aC (gj b20.al))),(43,(aI (↑b20.al.length:Int))),(44,(aI (↑q:Int))),(59,(aC (df b20.due))),(60,(aI (↑b20.due.length:Int))),(61,(aI (↑q1:Int))),(12,(aI w1)),(13,(aI k1)),(75,(aG [(cI b20.s0.bq),(ck b20.s0.kept),(cI b20.s1.bq),(ck b20.s1.kept)])),(76,(aI 0)),(14,(aI 0)),(81,(aC (ck b20.s0.kept))),(82,(aI (↑b20.s0.kept.length:Int))),(83,(aI (↑q2:Int)))],[(1,(.box 46 [(cI b20.time),(cB b20.down),(gj b20.al),(df b20.due),(gK b20.au),(cI b20.s0.bq),(ck b20.s0.kept),(cI b20.s1.bq),(ck b20.s1.kept),(cI b20.n0),(cI b20.n1),(cV b20.w0),(cV b20.w1),(cI b20.aY.cap),(df b20.aY.used),(eb b20.aY.aU),(eG b20.aS),(hP y20),(cZ b20.book)]))],2⟩) (fun (p:Nat×Int×Int)=>match p with|(q2,w1,k1)=>q2<=b20.s0.kept.length/\w1=w+eZ b20.n1 (b20.s0.kept.take q2)/\k1=k+fe b20.n1 (b20.s0.kept.take q2)/\0<=w1/\w1<=40000000 * i+1000000 * q2/\0<=k1/\k1<=40000000 * i+1000000 * q2) (fun (p:Nat×Int×Int)=>match p with|(q2,w1,k1)=>b20.s0.kept.length - q2) (0,w,k) ?_ ?_ ?_
   ·exact ⟨by omega,by simp [eZ],by simp [fe],by omega,by omega⟩
   ·exact aF.bL id (by refine ⟨?_,?_,?_,?_,?_,?_,?_,?_,?_,?_,?_,?_,?_,?_,?_,trivial⟩<;>first|rfl|(simp only [ba];done)|(congr 3;omega)|(congr 4;omega)|(simp only [bb];rfl)) (⟨by first|rfl|(simp only [ba];done)|(congr 3;omega)|(congr 4;omega)|(simp only [bb];rfl),trivial⟩) rfl
   rintro ⟨q2,w1,k1⟩ ⟨hi3_0,hi3_1,hi3_2,hi3_3,hi3_4⟩
   refine ae aa 1 rfl ?_
   refine ag ?_
   refine aj rfl (fun hc10=>?_) (fun hc10=>?_)
   ·
    have hc10':=of_decide_eq_true hc10
    refine aQ ?_
    refine ag ?_
    refine aR ?_
    refine eK ?_
    obtain ⟨x1,hx1⟩:=cg (xs:=b20.s0.kept) (i:=q2) (by first|omega|(simp;done)|(simp;omega))
    have hx1K:=hs0.2.2.2 _ x1 hx1
    refine az (bX (i:=q2) rfl rfl rfl Try.underlying32 jE (by first|omega|(simp;done)|(simp;omega)) (bj hx1)) rfl ?_
    refine ad aa 3 rfl ?_
    refine af ?_
    refine ag ?_
    refine ag ?_
    refine aX [5,42,43,44,59,60,61,12,13,75,76,14,81,82,83,17] [2,1] mixed rfl rfl ?_
    refine ay (kn:=[]) aa 5 rfl trivial ?_
    refine aP (n':=3) [91,90] [1] rfl rfl (.inl ⟨(ah.plain rfl),aJ.cast (cC (i:=1) rfl rfl rfl Try.underlying36 fC rfl (by decide)) rfl⟩) rfl ?_
    refine ay (kn:=[]) aa 2 rfl trivial ?_
    refine bw [2,1] rfl rfl rfl rfl (by kernel_rfl) ?_
    refine af ?_
    refine aj rfl (fun hc11=>?_) (fun hc11=>?_)
    ·
     have hc11':=of_decide_eq_true hc11
     refine bT ?_
     refine aN ?_
     refine bA ?_
     refine then_ok ?_
     refine aw ?_
     refine az (aK rfl rfl rfl (aL (by first|omega|(simp;done)|(simp;omega)))) rfl ?_
     refine ad aa 1 rfl ?_
     refine af ?_
     refine ⟨(q2+1,w1,k1),⟨by omega,by rw [(gb hx1).1];split<;>omega,by rw [(gb hx1).2];split<;>omega,by omega,by omega⟩,by first|omega|(simp;done)|(simp;omega),aF.bL id (by refine ⟨?_,?_,?_,?_,?_,?_,?_,?_,?_,?_,?_,?_,?_,?_,?_,trivial⟩<;>first|rfl|(simp only [ba];done)|(congr 3;omega)|(congr 4;omega)|(simp only [bb];rfl)) (⟨by first|rfl|(simp only [ba];done)|(congr 3;omega)|(congr 4;omega)|(simp only [bb];rfl),trivial⟩) rfl⟩
    have hc11':=of_decide_eq_false hc11
    refine aQ ?_
    refine ae aa 3 rfl ?_
    refine aj rfl (fun hc12=>?_) (fun hc12=>?_)
    ·
     have hc12':=of_decide_eq_true hc12
     refine aw ?_
     refine ad aa 3 rfl ?_
     refine az (aK rfl rfl rfl (aL (by first|omega|(simp;done)|(simp;omega)))) rfl ?_
     refine ad aa 1 rfl ?_
     refine cf ?_
     refine bf ?_
     refine then_ok ?_
     refine aw ?_
     refine az (aK rfl rfl rfl (aL (by first|omega|(simp;done)|(simp;omega)))) rfl ?_
     refine ad aa 1 rfl ?_
     refine af ?_
     refine ⟨(q2+1,w1,k1+x1.sum),⟨by omega,by rw [(gb hx1).1];split<;>omega,by rw [(gb hx1).2];split<;>omega,by omega,by omega⟩,by first|omega|(simp;done)|(simp;omega),aF.bL id (by refine ⟨?_,?_,?_,?_,?_,?_,?_,?_,?_,?_,?_,?_,?_,?_,?_,trivial⟩<;>first|rfl|(simp only [ba];done)|(congr 3;omega)|(congr 4;omega)|(simp only [bb];rfl)) (⟨by first|rfl|(simp only [ba];done)|(congr 3;omega)|(congr 4;omega)|(simp only [bb];rfl),trivial⟩) rfl⟩
    have hc12':=of_decide_eq_false hc12
    refine aw ?_
    refine ad aa 3 rfl ?_
    refine az (aK rfl rfl rfl (aL (by first|omega|(simp;done)|(simp;omega)))) rfl ?_
    refine ad aa 1 rfl ?_
    refine cf ?_
    refine bf ?_
    refine then_ok ?_
    refine aw ?_
    refine az (aK rfl rfl rfl (aL (by first|omega|(simp;done)|(simp;omega)))) rfl ?_
    refine ad aa 1 rfl ?_
    refine af ?_
    refine ⟨(q2+1,w1+x1.sum,k1),⟨by omega,by rw [(gb hx1).1];split<;>omega,by rw [(gb hx1).2];split<;>omega,by omega,by omega⟩,by first|omega|(simp;done)|(simp;omega),aF.bL id (by refine ⟨?_,?_,?_,?_,?_,?_,?_,?_,?_,?_,?_,?_,?_,?_,?_,trivial⟩<;>first|rfl|(simp only [ba];done)|(congr 3;omega)|(congr 4;omega)|(simp only [bb];rfl)) (⟨by first|rfl|(simp only [ba];done)|(congr 3;omega)|(congr 4;omega)|(simp only [bb];rfl),trivial⟩) rfl⟩
   have hc10':=of_decide_eq_false hc10
   refine bT ?_
   refine aN ?_
   refine aN ?_
   refine bA ?_
   refine bf ?_
   refine then_ok ?_
   refine aw ?_
   refine ad aa 2 rfl ?_
   refine af ?_
   refine ⟨(i+1,w1,k1),⟨by rw [List.take_of_length_le (by omega)] at hi3_1 hi3_2;omega,by omega,by omega⟩,by first|omega|(simp;done)|(simp;omega),aF.bL id (by refine ⟨?_,?_,?_,?_,?_,?_,?_,?_,?_,?_,?_,trivial⟩<;>first|rfl|(simp only [ba];done)|(congr 3;omega)|(congr 4;omega)|(simp only [bb];rfl)|(first|exact cL rfl (by omega)|exact cL rfl (show IntKind.i64.wrap (0+1)=_ by rw [show IntKind.i64.wrap (0+1)=(1:Int) from rfl];omega)|exact cL rfl (show IntKind.i64.wrap (1+1)=_ by rw [show IntKind.i64.wrap (1+1)=(2:Int) from rfl];omega)|rfl)) (⟨by first|rfl|(simp only [ba];done)|(congr 3;omega)|(congr 4;omega)|(simp only [bb];rfl),trivial⟩) rfl⟩
  refine fU (i:=76) (v:=(aI 1)) (cL (ρ:=id) rfl (by omega)) ?_
  refine aH aa 1 rfl ?_
  refine az (vM (i:=1) (cs:=[(cI b20.s1.bq),(ck b20.s1.kept)]) rfl rfl rfl Try.underlying35 Try.underlying34 rfl jk rfl (by decide) rfl) rfl ?_
  refine ad aa 3 rfl ?_
  refine af ?_
  refine aH aa 2 rfl ?_
  refine az (bP rfl rfl rfl rfl rfl Try.underlying32) rfl ?_
  refine ad aa 1 rfl ?_
  refine af ?_
  refine aR ?_
  refine ch (β:=Nat×Int×Int) (fun (p:Nat×Int×Int)=>match p with|(q2,w1,k1)=>⟨[(5,(aC (.p 1 0 0 0))),(42,(aC (gj b20.al))),(43,(aI (↑b20.al.length:Int))),(44,(aI (↑q:Int))),(59,(aC (df b20.due))),(60,(aI (↑b20.due.length:Int))),(61,(aI (↑q1:Int))),(12,(aI w1)),(13,(aI k1)),(75,(aG [(cI b20.s0.bq),(ck b20.s0.kept),(cI b20.s1.bq),(ck b20.s1.kept)])),(76,(aI 1)),(14,(aI 1)),(81,(aC (ck b20.s1.kept))),(82,(aI (↑b20.s1.kept.length:Int))),(83,(aI (↑q2:Int)))],[(1,(.box 46 [(cI b20.time),(cB b20.down),(gj b20.al),(df b20.due),(gK b20.au),(cI b20.s0.bq),(ck b20.s0.kept),(cI b20.s1.bq),(ck b20.s1.kept),(cI b20.n0),(cI b20.n1),(cV b20.w0),(cV b20.w1),(cI b20.aY.cap),(df b20.aY.used),(eb b20.aY.aU),(eG b20.aS),(hP y20),(cZ b20.book)]))],2⟩) (fun (p:Nat×Int×Int)=>match p with|(q2,w1,k1)=>q2<=b20.s1.kept.length/\w1=w+eZ b20.n0 (b20.s1.kept.take q2)/\k1=k+fe b20.n0 (b20.s1.kept.take q2)/\0<=w1/\w1<=40000000 * i+1000000 * q2/\0<=k1/\k1<=40000000 * i+1000000 * q2) (fun (p:Nat×Int×Int)=>match p with|(q2,w1,k1)=>b20.s1.kept.length - q2) (0,w,k) ?_ ?_ ?_
  ·exact ⟨by omega,by simp [eZ],by simp [fe],by omega,by omega⟩
  ·exact aF.bL id (by refine ⟨?_,?_,?_,?_,?_,?_,?_,?_,?_,?_,?_,?_,?_,?_,?_,trivial⟩<;>first|rfl|(simp only [ba];done)|(congr 3;omega)|(congr 4;omega)|(simp only [bb];rfl)) (⟨by first|rfl|(simp only [ba];done)|(congr 3;omega)|(congr 4;omega)|(simp only [bb];rfl),trivial⟩) rfl
  rintro ⟨q2,w1,k1⟩ ⟨hi3_0,hi3_1,hi3_2,hi3_3,hi3_4⟩
  refine ae aa 1 rfl ?_
  refine ag ?_
  refine aj rfl (fun hc13=>?_) (fun hc13=>?_)
  ·
   have hc13':=of_decide_eq_true hc13
   refine aQ ?_
   refine ag ?_
   refine aR ?_
   refine eK ?_
   obtain ⟨x1,hx1⟩:=cg (xs:=b20.s1.kept) (i:=q2) (by first|omega|(simp;done)|(simp;omega))
   have hx1K:=hs1.2.2.2 _ x1 hx1
   refine az (bX (i:=q2) rfl rfl rfl Try.underlying32 jE (by first|omega|(simp;done)|(simp;omega)) (bj hx1)) rfl ?_
   refine ad aa 3 rfl ?_
   refine af ?_
   refine ag ?_
   refine ag ?_
   refine aX [5,42,43,44,59,60,61,12,13,75,76,14,81,82,83,17] [2,1] mixed rfl rfl ?_
   refine ay (kn:=[]) aa 5 rfl trivial ?_
   refine aP (n':=3) [91,90] [1] rfl rfl (.inl ⟨(ah.plain rfl),aJ.cast (cC (i:=0) rfl rfl rfl Try.underlying36 fC rfl (by decide)) rfl⟩) rfl ?_
   refine ay (kn:=[]) aa 2 rfl trivial ?_
   refine bw [2,1] rfl rfl rfl rfl (by kernel_rfl) ?_
   refine af ?_
   refine aj rfl (fun hc14=>?_) (fun hc14=>?_)
   ·
    have hc14':=of_decide_eq_true hc14
    refine bT ?_
    refine aN ?_
    refine bA ?_
    refine then_ok ?_
    refine aw ?_
    refine az (aK rfl rfl rfl (aL (by first|omega|(simp;done)|(simp;omega)))) rfl ?_
    refine ad aa 1 rfl ?_
    refine af ?_
    refine ⟨(q2+1,w1,k1),⟨by omega,by rw [(gb hx1).1];split<;>omega,by rw [(gb hx1).2];split<;>omega,by omega,by omega⟩,by first|omega|(simp;done)|(simp;omega),aF.bL id (by refine ⟨?_,?_,?_,?_,?_,?_,?_,?_,?_,?_,?_,?_,?_,?_,?_,trivial⟩<;>first|rfl|(simp only [ba];done)|(congr 3;omega)|(congr 4;omega)|(simp only [bb];rfl)) (⟨by first|rfl|(simp only [ba];done)|(congr 3;omega)|(congr 4;omega)|(simp only [bb];rfl),trivial⟩) rfl⟩
   have hc14':=of_decide_eq_false hc14
   refine aQ ?_
   refine ae aa 3 rfl ?_
   refine aj rfl (fun hc15=>?_) (fun hc15=>?_)
   ·
    have hc15':=of_decide_eq_true hc15
    refine aw ?_
    refine ad aa 3 rfl ?_
    refine az (aK rfl rfl rfl (aL (by first|omega|(simp;done)|(simp;omega)))) rfl ?_
    refine ad aa 1 rfl ?_
    refine cf ?_
    refine bf ?_
    refine then_ok ?_
    refine aw ?_
    refine az (aK rfl rfl rfl (aL (by first|omega|(simp;done)|(simp;omega)))) rfl ?_
    refine ad aa 1 rfl ?_
    refine af ?_
    refine ⟨(q2+1,w1,k1+x1.sum),⟨by omega,by rw [(gb hx1).1];split<;>omega,by rw [(gb hx1).2];split<;>omega,by omega,by omega⟩,by first|omega|(simp;done)|(simp;omega),aF.bL id (by refine ⟨?_,?_,?_,?_,?_,?_,?_,?_,?_,?_,?_,?_,?_,?_,?_,trivial⟩<;>first|rfl|(simp only [ba];done)|(congr 3;omega)|(congr 4;omega)|(simp only [bb];rfl)) (⟨by first|rfl|(simp only [ba];done)|(congr 3;omega)|(congr 4;omega)|(simp only [bb];rfl),trivial⟩) rfl⟩
   have hc15':=of_decide_eq_false hc15
   refine aw ?_
   refine ad aa 3 rfl ?_
   refine az (aK rfl rfl rfl (aL (by first|omega|(simp;done)|(simp;omega)))) rfl ?_
   refine ad aa 1 rfl ?_
   refine cf ?_
   refine bf ?_
   refine then_ok ?_
   refine aw ?_
   refine az (aK rfl rfl rfl (aL (by first|omega|(simp;done)|(simp;omega)))) rfl ?_
   refine ad aa 1 rfl ?_
   refine af ?_
   refine ⟨(q2+1,w1+x1.sum,k1),⟨by omega,by rw [(gb hx1).1];split<;>omega,by rw [(gb hx1).2];split<;>omega,by omega,by omega⟩,by first|omega|(simp;done)|(simp;omega),aF.bL id (by refine ⟨?_,?_,?_,?_,?_,?_,?_,?_,?_,?_,?_,?_,?_,?_,?_,trivial⟩<;>first|rfl|(simp only [ba];done)|(congr 3;omega)|(congr 4;omega)|(simp only [bb];rfl)) (⟨by first|rfl|(simp only [ba];done)|(congr 3;omega)|(congr 4;omega)|(simp only [bb];rfl),trivial⟩) rfl⟩
  have hc13':=of_decide_eq_false hc13
  refine bT ?_
  refine aN ?_
  refine aN ?_
  refine bA ?_
  refine bf ?_
  refine then_ok ?_
  refine aw ?_
  refine ad aa 2 rfl ?_
  refine af ?_
  refine ⟨(i+1,w1,k1),⟨by rw [List.take_of_length_le (by omega)] at hi3_1 hi3_2;omega,by omega,by omega⟩,by first|omega|(simp;done)|(simp;omega),aF.bL id (by refine ⟨?_,?_,?_,?_,?_,?_,?_,?_,?_,?_,?_,trivial⟩<;>first|rfl|(simp only [ba];done)|(congr 3;omega)|(congr 4;omega)|(simp only [bb];rfl)|(first|exact cL rfl (by omega)|exact cL rfl (show IntKind.i64.wrap (0+1)=_ by rw [show IntKind.i64.wrap (0+1)=(1:Int) from rfl];omega)|exact cL rfl (show IntKind.i64.wrap (1+1)=_ by rw [show IntKind.i64.wrap (1+1)=(2:Int) from rfl];omega)|rfl)) (⟨by first|rfl|(simp only [ba];done)|(congr 3;omega)|(congr 4;omega)|(simp only [bb];rfl),trivial⟩) rfl⟩
 have hc8':=of_decide_eq_false hc8
 refine bT ?_
 refine aN ?_
 refine aN ?_
 refine bA ?_
 refine then_ok ?_
 refine ae aa 1 rfl ?_
 refine ag ?_
 refine aH aa 2 rfl ?_
 refine az (bP rfl rfl rfl rfl rfl Try.underlying31) rfl ?_
 refine ad aa 1 rfl ?_
 refine af ?_
 refine aR ?_
 refine ch (β:=Nat×Int) (fun (p:Nat×Int)=>match p with|(q3,dd)=>⟨[(5,(aC (.p 1 0 0 0))),(42,(aC (gj b20.al))),(43,(aI (↑b20.al.length:Int))),(44,(aI (↑q:Int))),(59,(aC (df b20.due))),(60,(aI (↑b20.due.length:Int))),(61,(aI (↑q1:Int))),(12,(aI w)),(13,(aI k)),(75,(aG [(cI b20.s0.bq),(ck b20.s0.kept),(cI b20.s1.bq),(ck b20.s1.kept)])),(76,(aI (↑i:Int))),(18,(aI dd)),(109,(aC (gK b20.au))),(110,(aI (↑b20.au.length:Int))),(111,(aI (↑q3:Int)))],[(1,(.box 46 [(cI b20.time),(cB b20.down),(gj b20.al),(df b20.due),(gK b20.au),(cI b20.s0.bq),(ck b20.s0.kept),(cI b20.s1.bq),(ck b20.s1.kept),(cI b20.n0),(cI b20.n1),(cV b20.w0),(cV b20.w1),(cI b20.aY.cap),(df b20.aY.used),(eb b20.aY.aU),(eG b20.aS),(hP y20),(cZ b20.book)]))],2⟩) (fun (p:Nat×Int)=>match p with|(q3,dd)=>q3<=b20.au.length/\dd=eJ (b20.au.take q3)/\0<=dd/\dd<=1000000 * q3) (fun (p:Nat×Int)=>match p with|(q3,dd)=>b20.au.length - q3) (0,0) ?_ ?_ ?_
 ·exact ⟨by omega,by simp [eJ],by omega⟩
 ·exact aF.bL id (by refine ⟨?_,?_,?_,?_,?_,?_,?_,?_,?_,?_,?_,?_,?_,?_,?_,trivial⟩<;>first|rfl|(simp only [ba];done)|(congr 3;omega)|(congr 4;omega)|(simp only [bb];rfl)) (⟨by first|rfl|(simp only [ba];done)|(congr 3;omega)|(congr 4;omega)|(simp only [bb];rfl),trivial⟩) rfl
 rintro ⟨q3,dd⟩ ⟨hi4_0,hi4_1,hi4_2⟩
 refine ae aa 1 rfl ?_
 refine ag ?_
 refine aj rfl (fun hc16=>?_) (fun hc16=>?_)
 ·
  have hc16':=of_decide_eq_true hc16
  refine aQ ?_
  refine ag ?_
  refine aR ?_
  refine eK ?_
  obtain ⟨x1,hx1⟩:=cg (xs:=b20.au) (i:=q3) (by first|omega|(simp;done)|(simp;omega))
  have hx1K:=eM (okp x1 (List.mem_of_getElem? hx1)).1
  refine az (bX (i:=q3) rfl rfl rfl Try.underlying31 kj (by first|omega|(simp;done)|(simp;omega)) (bj hx1)) rfl ?_
  refine ad aa 3 rfl ?_
  refine af ?_
  refine aw ?_
  refine ad aa 3 rfl ?_
  refine az (aK rfl rfl rfl (aL (by first|omega|(simp;done)|(simp;omega)))) rfl ?_
  refine ad aa 1 rfl ?_
  refine cf ?_
  refine bf ?_
  refine then_ok ?_
  refine aw ?_
  refine az (aK rfl rfl rfl (aL (by first|omega|(simp;done)|(simp;omega)))) rfl ?_
  refine ad aa 1 rfl ?_
  refine af ?_
  refine ⟨(q3+1,dd+x1.bl),⟨by omega,by rw [AE hx1];omega,by omega⟩,by first|omega|(simp;done)|(simp;omega),aF.bL id (by refine ⟨?_,?_,?_,?_,?_,?_,?_,?_,?_,?_,?_,?_,?_,?_,?_,trivial⟩<;>first|rfl|(simp only [ba];done)|(congr 3;omega)|(congr 4;omega)|(simp only [bb];rfl)) (⟨by first|rfl|(simp only [ba];done)|(congr 3;omega)|(congr 4;omega)|(simp only [bb];rfl),trivial⟩) rfl⟩
 have hc16':=of_decide_eq_false hc16
 refine bT ?_
 refine aN ?_
 refine aN ?_
 refine bA ?_
 refine then_ok ?_
 obtain ⟨n4,hr4⟩:∃ (n4:Int),db b20.book 1=n4:=⟨_,rfl⟩
 obtain ⟨n5,hr5⟩:∃ (n5:Int),db b20.book 2=n5:=⟨_,rfl⟩
 refine cr 4 ((decide (n4=w)) && (decide (n5=((0 - dd) - k)))) ?_ ?_
 ·
  refine aw ?_
  refine ad aa 2 rfl ?_
  refine aT 2 [1] (bU 2 (lA b20.book 1 n4 hr4) yR rfl rfl ⟨⟨_,rfl,.c (.d _)⟩,⟨_,rfl,.c (.d _)⟩,trivial⟩ trivial trivial rfl rfl rfl rfl) rfl ?_
  refine ad aa 3 rfl ?_
  refine bK (t:=125) rfl (fun hb17=>?_) (fun hb17=>?_)
  ·
   have hb17':=of_decide_eq_true hb17
   refine ad aa 2 rfl ?_
   refine pV 2 [1] (ah.yes rfl rfl rfl) (bU 2 (lA b20.book 2 n5 hr5) yR rfl rfl ⟨⟨_,rfl,.c (.d _)⟩,⟨_,rfl,.c (.d _)⟩,trivial⟩ trivial trivial rfl rfl rfl rfl) rfl ?_
   refine ad aa 1 rfl ?_
   refine cD (ah.yes rfl rfl rfl) (pb rfl rfl (aL (by first|omega|(simp;done)|(simp;omega)))) rfl rfl ?_
   refine ad aa 1 rfl ?_
   refine cD (ah.yes rfl rfl rfl) (aK rfl rfl rfl (aL (by first|omega|(simp;done)|(simp;omega)))) rfl rfl ?_
   refine ad aa 3 rfl ?_
   refine af ?_
   exact aF.bF 17 rfl rfl (by first|(simp [hb17];done)|(simp_all;done)|(exfalso;simp_all;done)|(simp_all;omega)) rfl
  have hb17':=of_decide_eq_false hb17
  refine ad aa 10 rfl ?_
  refine af ?_
  exact aF.bF 17 rfl rfl (by first|(simp [hb17];done)|(simp_all;done)|(exfalso;simp_all;done)|(simp_all;omega)) rfl
 refine aA ?_
 refine aq aa [] 0 rfl rfl rfl rfl rfl rfl ?_ ?_
 ·exact congrArg aB (show ((decide (n4=w)) && (decide (n5=((0 - dd) - k))))=true by (rw [List.take_of_length_le (by omega)] at *;simp only [Bool.and_eq_true,decide_eq_true_eq];omega))
 ·rfl
end Go.Proofs.Ytegepioggeggaaa.Dev
