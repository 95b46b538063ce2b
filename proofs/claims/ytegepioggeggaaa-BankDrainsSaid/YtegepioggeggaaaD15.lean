/- A part of the proof: PlLaw2, PlFair, PlFair2, PlCome, Top1, PlCome2, PlCome3, PlDrain, PlRef, PlDrain2, PlAgain. No condition. -/
import Derived.Test.YtegepioggeggaaaD14
set_option linter.unusedVariables false
set_option linter.unusedSimpArgs false
namespace Go.Proofs.Ytegepioggeggaaa.Dev
open Go.RowKit
section
def eQ (k:Int):List bl->Int
 |[]=>0
 |a::l=>(if a.aO=k then bQ a else 0)+eQ k l
theorem tk (k:Int) (u v:List bl):eQ k (u++v)=eQ k u+eQ k v:=by
 induction u with
 |nil=>simp [eQ]
 |cons a u ih=>simp only [List.cons_append,eQ,ih];omega
theorem oE (k:Int) (b:bl):∀ {l:List bl} {i:Nat} {a:bl},l[i]?=some a->eQ k (l.set i b)=eQ k l - (if a.aO=k then bQ a else 0)+(if b.aO=k then bQ b else 0)
 |x::l,0,a,h=>by
  have:x=a:=by simpa using h
  subst this
  simp only [List.set_cons_zero,eQ];omega
 |x::l,i+1,a,h=>by
  have h:l[i]?=some a:=by simpa using h
  simp only [List.set_cons_succ,eQ,oE k b h];omega
def hJ (ag:List bD) (aj:List bl):Prop:=∀ (k:Nat) (c:bD),ag[k]?=some c->c.held=eQ k aj
theorem la {l:List bD} {e k h m:Int} (hz:(cE l e k h m).2=0):e=0/\((l[k.toNat]?=none/\(cE l e k h m).1=l)\/∃ c,l[k.toNat]?=some c/\(cE l e k h m).1=l.set k.toNat ⟨c.bB+m,c.held+h,c.cv,c.de⟩):=by
 unfold cE at hz ⊢
 cases hc:l[k.toNat]? with
 |none=>rw [hc] at hz;exact ⟨hz,.inl ⟨rfl,rfl⟩⟩
 |some c=>
  rw [hc] at hz
  dsimp only at hz ⊢
  split at hz
  ·rename_i h0
   obtain ⟨h1,h2⟩:=gu h0
   rcases rJ (show eo c h m=((eo c h m).1,(eo c h m).2) from rfl) with ⟨h3,_⟩|h3
   ·exact absurd h2 h3
   ·rw [if_pos h0]
    exact ⟨h1,.inr ⟨c,rfl,by dsimp only;rw [h3.2.2.2.2.2.2.1]⟩⟩
  ·rename_i h0;exact absurd hz h0
theorem hJ.shift {ag:List bD} {aj auths':List bl} {e k h m:Int} (hh:hJ ag aj) (hz:(cE ag e k h m).2=0) (ha:∀ j:Nat,eQ j auths'=eQ j aj+if j=k.toNat then h else 0):hJ (cE ag e k h m).1 auths':=by
 obtain ⟨_,hz⟩:=la hz
 intro j c hc
 rcases hz with ⟨h1,h2⟩|⟨c0,h1,h2⟩
 ·rw [h2] at hc
  have:j≠k.toNat:=fun e=>by subst e;rw [h1] at hc;cases hc
  rw [hh j c hc,ha j,if_neg this];omega
 ·rw [h2,List.getElem?_set] at hc
  split at hc
  ·rename_i e
   split at hc
   ·injection hc with hc;subst hc
    have:=hh _ c0 h1
    rw [ha j,if_pos e.symm,<-e];dsimp only;omega
   ·cases hc
  ·rename_i e
   rw [hh j c hc,ha j,if_neg (Ne.symm e)];omega
theorem hJ.same {ag:List bD} {aj:List bl} {e k m:Int} (hh:hJ ag aj) (hz:(cE ag e k 0 m).2=0):hJ (cE ag e k 0 m).1 aj:=hh.shift hz fun j=>by split<;>omega
theorem gq {s:bO} {e:Int} {t:aS} (h:(fb s e t).2=0):e=0/\(gX s t).2=0/\(fb s e t).1=(gX s t).1:=by
 unfold fb at h ⊢
 split at h
 ·rename_i h0;obtain ⟨h1,h2⟩:=gu h0;rw [if_pos h0];exact ⟨h1,h2,rfl⟩
 ·rename_i h0;exact absurd h h0
theorem kg {s:bO} {t:aS} (h:(gX s t).2=0):(cF s).err=0/\(cF (gO s t)).err=0/\(gX s t).1=gO s t:=by
 unfold gX at h ⊢
 split at h
 ·rename_i h1;exact absurd h h1
 split at h
 ·rename_i h1;exact absurd h h1
 ·rename_i h1 h2;rw [if_neg h1,if_neg h2];exact ⟨by omega,by omega,rfl⟩
theorem ml {s:bO} {n:Int} (h:(eg s n).2=0):(cF s).err=0/\0<=n/\n<=s.bG/\(eg s n).1=⟨s.bG,dj (came n) s.kept⟩/\(cF (eg s n).1).err=0:=by
 rcases qG (show eg s n=((eg s n).1,(eg s n).2) from rfl) with ⟨h1,_⟩|⟨_,h1,h2,h3,h4⟩
 ·exact absurd h h1
 ·exact ⟨h1,h2,h3,h4,by rw [h4];exact AQ h1 h2 h3⟩
structure er (b:Bk):Prop where
 ok:ct b
 held:hJ b.ag b.aj
 s0:(cF b.s0).err=0
 s1:(cF b.s1).err=0
 st:cb b.bx=0
 used:b.bx.used.length=b.ag.length
 aQ:∀ x∈b.aQ,yO x
theorem lW {time:Int}:∀ (l:List bl) (i:Nat) (ag:List bD) (aj:List bl) (e:Int),(eL time l i ag aj e).2.2=0->e=0
 |[],_,_,_,_,h=>h
 |a::l,i,ag,aj,e,h=>(la (lW l _ _ _ _ h)).1
theorem te {time:Int}:∀ (l:List bl) (i:Nat) (ag:List bD) (aj:List bl) (e:Int),(eL time l i ag aj e).2.2=0->aj.drop i=l->(∀ a∈l,0<=a.aO)->hJ ag aj->hJ (eL time l i ag aj e).1 (eL time l i ag aj e).2.1
 |[],_,_,_,_,_,_,_,h=>h
 |a::l,i,ag,aj,e,hz,hd,hp,h=>by
  have hat:aj[i]?=some a:=by
   have:(aj.drop i)[0]?=some a:=by rw [hd];rfl
   rwa [List.getElem?_drop,Nat.add_zero] at this
  have hilt:=(List.getElem?_eq_some_iff.1 hat).1
  refine te l (i+1) _ _ _ hz ?_ (fun x hx=>hp x (List.mem_cons_of_mem _ hx)) (h.shift (lW l _ _ _ _ hz) fun j=>?_)
  ·rw [List.drop_set_of_lt (by omega)]
   have:aj.drop (i+1)=(aj.drop i).drop 1:=by rw [List.drop_drop]
   rw [this,hd];rfl
  ·have hc:=hp a List.mem_cons_self
   rw [oE _ _ hat]
   have:(ei a time).aO=a.aO:=rfl
   rw [this]
   by_cases e:a.aO=(j:Int)
   ·rw [if_pos e,if_pos e,if_pos (by omega)];omega
   ·rw [if_neg e,if_neg e,if_neg (by omega)];omega
theorem Ch {time:Int} (l:List bl) (i:Nat) (ag:List bD) (aj:List bl) (e:Int):(eL time l i ag aj e).1.length=ag.length:=by
 induction l generalizing i ag aj e with
 |nil=>rfl
 |cons a l ih=>exact (ih (i+1) _ _ _).trans (fq _ _ _ _ _)
theorem er.late {b:Bk} (h:er b):er (fj b):=by
 have hok:=h.ok.late
 unfold fj at hok ⊢
 split
 ·rename_i h0
  rw [if_pos h0] at hok
  exact ⟨hok,te _ _ _ _ _ h0 rfl (fun a ha=>(h.ok.perm a ha).2.1) h.held,h.s0,h.s1,h.st,by dsimp only;rw [Ch];exact h.used,h.aQ⟩
 ·exact h
theorem er.start {s:Setup} (h:(dZ s).err=0):er (dk s):=by
 obtain ⟨h1,h2,h3,h4,h5,h6⟩:=lE h
 have hn:dV s.cap s.cK.length=({cap:=s.cap,used:=List.replicate s.cK.length 0,bb:=[]},0):=qX h1 ⟨h4,h5⟩
 refine ⟨ct.start h,fun k c hc=>?_,rfl,rfl,?_,?_,fun x hx=>by cases hx⟩
 ·have hc:(s.cK.map nd)[k]?=some c:=hc
  rw [List.getElem?_map] at hc
  cases hp:s.cK[k]? with
  |none=>rw [hp] at hc;cases hc
  |some p=>rw [hp] at hc;injection hc with hc;subst hc;rfl
 ·show cb (dV s.cap s.cK.length).1=0
  rw [hn];exact pM _ _ h1 h4 h5
 ·show (dV s.cap s.cK.length).1.used.length=(s.cK.map nd).length
  rw [hn];simp
theorem er.load {b:Bk} (h:er b) (d:aV):er (ey b d).1:=by
 have hok:=h.ok.load d
 unfold ey at hok ⊢
 split
 ·exact h
 rename_i c1
 rw [if_neg c1] at hok
 split
 ·exact h
 rename_i c2
 rw [if_neg c2] at hok
 unfold Dev.cQ at hok ⊢
 split
 ·rename_i h0
  rw [if_pos h0] at hok
  exact ⟨hok,h.held.same (jo h0).1,h.s0,h.s1,h.st,by dsimp only;rw [fq];exact h.used,h.aQ⟩
 ·exact h
theorem er.qV {b:Bk} (h:er b) (d:aV):er (eH b d).1:=by
 have hok:=h.ok.qV d
 unfold eH at hok ⊢
 split
 ·exact h
 rename_i c1
 rw [if_neg c1] at hok
 split
 ·exact h
 rename_i c2
 rw [if_neg c2] at hok
 unfold Dev.cQ at hok ⊢
 split
 ·rename_i h0;rw [if_pos h0] at hok;exact ⟨hok,h.held,h.s0,h.s1,h.st,h.used,h.aQ⟩
 ·exact h
theorem er.cM {b:Bk} (h:er b) (d:aV):er (ea b d).1:=by
 unfold ea
 split
 ·exact h
 ·have h1:er {b with time:=b.time+d.sum}:=⟨h.ok.tick (by have:=h.ok.time;omega) (by have:=h.ok.time;omega),h.held,h.s0,h.s1,h.st,h.used,h.aQ⟩
  dsimp only
  split
  ·exact h1
  ·exact h1.late
theorem er.send {b:Bk} (h:er b) (d:aV):er {b with w0:=(dQ b.s0 b.s1 b.n0 b.n1 b.w0 b.w1 d).1,w1:=(dQ b.s0 b.s1 b.n0 b.n1 b.w0 b.w1 d).2.1}:=
 ⟨h.ok.send d,h.held,h.s0,h.s1,h.st,h.used,h.aQ⟩
theorem sL {aj:List bl} {due:List Int} {ag:List bD} {book:List Entry} {e:Int} {t:aS} (h:hJ ag aj) (hz:(dv aj due ag book e t).2.2.2=0):hJ (dv aj due ag book e t).2.1 aj/\(dv aj due ag book e t).2.1.length=ag.length:=by
 unfold dv at hz ⊢
 split
 ·exact ⟨h,rfl⟩
 rename_i a ha
 rw [ha] at hz
 dsimp only at hz
 split
 ·exact ⟨h,rfl⟩
 rename_i c1
 rw [if_neg c1] at hz
 split
 ·rename_i c2;rw [if_pos c2] at hz;exact ⟨h.same (jo hz).1,fq _ _ _ _ _⟩
 split
 ·exact ⟨h,rfl⟩
 ·exact ⟨h,rfl⟩
theorem er.jH {b:Bk} (h:er b) (d:aV):er (bE b d).1:=by
 have hok:=h.ok.jH d
 unfold bE at hok ⊢
 split
 ·rename_i c0
  rw [if_pos c0] at hok
  unfold ew at hok ⊢
  split
  ·exact h
  rename_i p hp
  rw [hp] at hok
  dsimp only at hok
  split
  ·rename_i c1;rw [if_pos c1] at hok;exact ⟨hok,h.held,h.s0,h.s1,h.st,h.used,h.aQ⟩
  rename_i c1
  rw [if_neg c1] at hok
  split
  ·rename_i c2
   rw [if_pos c2] at hok
   split
   ·rename_i c3;rw [if_pos c3] at hok;exact ⟨hok,h.held,(ml c3).2.2.2.2,h.s1,h.st,h.used,h.aQ⟩
   ·exact h
  rename_i c2
  rw [if_neg c2] at hok
  split
  ·rename_i c3
   rw [if_pos c3] at hok
   unfold Dev.cQ at hok ⊢
   split
   ·rename_i c4;rw [if_pos c4] at hok;obtain ⟨r1,r2⟩:=sL h.held c4;exact ⟨hok,r1,h.s0,h.s1,h.st,h.used.trans r2.symm,h.aQ⟩
   ·exact h
  ·rename_i c3;rw [if_neg c3] at hok;exact ⟨hok,h.held,h.s0,h.s1,h.st,h.used,h.aQ⟩
 rename_i c0
 rw [if_neg c0] at hok
 split
 ·rename_i c01
  rw [if_pos c01] at hok
  unfold eu at hok ⊢
  split
  ·exact h
  rename_i p hp
  rw [hp] at hok
  dsimp only at hok
  split
  ·rename_i c1;rw [if_pos c1] at hok;exact ⟨hok,h.held,h.s0,h.s1,h.st,h.used,h.aQ⟩
  rename_i c1
  rw [if_neg c1] at hok
  split
  ·rename_i c2
   rw [if_pos c2] at hok
   split
   ·rename_i c3;rw [if_pos c3] at hok;exact ⟨hok,h.held,h.s0,(ml c3).2.2.2.2,h.st,h.used,h.aQ⟩
   ·exact h
  rename_i c2
  rw [if_neg c2] at hok
  split
  ·rename_i c3
   rw [if_pos c3] at hok
   unfold Dev.cQ at hok ⊢
   split
   ·rename_i c4;rw [if_pos c4] at hok;obtain ⟨r1,r2⟩:=sL h.held c4;exact ⟨hok,r1,h.s0,h.s1,h.st,h.used.trans r2.symm,h.aQ⟩
   ·exact h
  ·rename_i c3;rw [if_neg c3] at hok;exact ⟨hok,h.held,h.s0,h.s1,h.st,h.used,h.aQ⟩
 ·exact h
theorem Cu {s:cG} {a:cg} (h:(cx s a).2=0):(cx s a).1.used.length=s.used.length:=by
 unfold cx at h ⊢
 split at h
 ·rename_i h1;exact absurd h h1
 split at h
 ·cases h
 split at h
 ·cases h
 split at h
 ·cases h
 ·rename_i h1 h2 h3 h4;rw [if_neg h1,if_neg h2,if_neg h3,if_neg h4];exact List.length_set ..
theorem hJ.new {ag:List bD} {aj:List bl} {k:Int} {c c':bD} {a:bl} (hh:hJ ag aj) (hk:0<=k) (hc:ag[k.toNat]?=some c) (ha:a.aO=k) (h':c'.held=c.held+bQ a):hJ (ag.set k.toNat c') (aj++[a]):=by
 intro j z hz
 rw [tk]
 have h1:eQ j [a]=if a.aO=j then bQ a else 0:=by simp [eQ]
 rw [h1]
 rw [List.getElem?_set] at hz
 split at hz
 ·rename_i e
  split at hz
  ·injection hz with hz;subst hz
   have:=hh _ c hc
   rw [if_pos (by omega),<-e];omega
  ·cases hz
 ·rename_i e
  rw [hh j z hz,if_neg (by omega)];omega
theorem er.asks {b:Bk} (h:er b) (d:aV):er (du b d).1:=by
 have hok:=h.ok.asks d
 unfold du at hok ⊢
 split
 ·exact h
 rename_i c0
 rw [if_neg c0] at hok
 split
 ·rename_i cd
  rw [if_pos cd] at hok
  split
  ·exact h
  rename_i c1
  rw [if_neg c1] at hok
  split
  ·exact h
  rename_i c2
  rw [if_neg c2] at hok
  have he:=tu (show ib (cx b.bx ⟨d.n,d.az,d.sum,b.time⟩).2=0 by omega)
  exact ⟨hok,h.held,h.s0,h.s1,(Ak h.st he).1,(Cu he).trans h.used,h.aQ⟩
 rename_i cd
 rw [if_neg cd] at hok
 split
 ·exact h
 rename_i c2
 rw [if_neg c2] at hok
 split
 ·exact h
 rename_i c3
 rw [if_neg c3] at hok
 obtain ⟨_,w2,_⟩:=km (show (dp d.n d.az d.sum b.time).2=0 by omega)
 split
 ·exact h
 rename_i c hc
 rw [hc] at hok
 dsimp only at hok
 split
 ·exact h
 rename_i c4
 rw [if_neg c4] at hok
 refine ⟨hok,h.held.new (by omega) hc (by rw [w2]) ?_,h.s0,h.s1,h.st,by dsimp only;rw [List.length_set];exact h.used,h.aQ⟩
 rcases oU (show dE c d.sum b.time=((dE c d.sum b.time).1,(dE c d.sum b.time).2) from rfl) with ⟨h5,_⟩|⟨h5,h6,h7,h8,h9,h10,h11,l,h12,h13⟩
 ·omega
 ·rw [h13,w2];simp [bQ]
theorem rE:∀ (l:List cg) (cs:List bD) (xs:List bl),(fe l cs xs).2.2=0->hJ cs xs->(∀ a∈l,0<=a.aO/\a.aO < cs.length)->hJ (fe l cs xs).1 (fe l cs xs).2.1/\(fe l cs xs).1.length=cs.length
 |[],cs,xs,_,h,_=>⟨h,rfl⟩
 |x::l,cs,xs,hz,h,hl=>by
  unfold fe at hz ⊢
  split at hz
  ·rename_i h1;exact absurd hz h1
  rename_i h1
  rw [if_neg h1]
  have hx:=hl x List.mem_cons_self
  cases hc:cs[x.aO.toNat]? with
  |none=>have:=List.getElem?_eq_none_iff.1 hc;omega
  |some c=>
   rw [hc] at hz
   dsimp only at hz ⊢
   split at hz
   ·rename_i h2;exact absurd hz h2
   rename_i h2
   rw [if_neg h2]
   obtain ⟨_,w2,_⟩:=km (show (dp x.aO x.az x.sum x.time).2=0 by omega)
   obtain ⟨_,f2,_⟩:=kr (show (eW c x.sum).2=0 by omega)
   have:=rE l _ _ hz (h.new hx.1 hc (by rw [w2]) (by rw [f2,w2];simp [bQ])) (fun a ha=>by rw [List.length_set];exact hl a (List.mem_cons_of_mem _ ha))
   rw [List.length_set] at this
   exact this
theorem er.Bh {b:Bk} (h:er b):er (gn b).1:=by
 unfold gn
 split
 ·exact h
 split
 ·exact h
 split
 ·exact h
 rename_i c1 c2 c3
 have h0:(cC b.bx).2.2=0:=by omega
 obtain ⟨r1,r2,r3⟩:=oQ h0
 have hu:=h.ok.vV h0
 have hz:(fe (cC b.bx).2.1 b.ag b.aj).2.2=0:=by omega
 obtain ⟨u1,u2⟩:=rE _ _ _ hz h.held (fun a ha=>by rw [r3] at ha;have:=h.ok.jI a ha;omega)
 have hp:=gR h.st
 refine er.late ⟨hu,u1,h.s0,h.s1,?_,?_,h.aQ⟩
 ·dsimp only;rw [r2]
  have hc:0<=b.bx.cap/\b.bx.cap<=1000000:=by simpa [gP] using hp.2.2.1
  exact pM _ _ hp.1 hc.1 hc.2
 ·dsimp only;rw [r2,u2];simp [h.used]
theorem er.jG {b:Bk} (h:er b) (d:aV):er (cT b d).1:=by
 have hok:=h.ok.jG d
 unfold cT at hok ⊢
 split
 ·exact h
 rename_i cd
 rw [if_neg cd] at hok
 split
 ·exact h
 rename_i c1
 rw [if_neg c1] at hok
 split
 ·exact h
 rename_i cj ho
 rw [ho] at hok
 dsimp only at hok
 split
 ·exact h
 rename_i c2
 rw [if_neg c2] at hok
 split
 ·exact h
 rename_i c3
 rw [if_neg c3] at hok
 have hmv:bX cj d.move d.sum=((bX cj d.move d.sum).1,0):=Prod.ext rfl (by dsimp only;omega)
 generalize (bX cj d.move d.sum).1=a at *
 obtain ⟨_,hwa,hcard,hshop,hk1,hk2,hn1,hn2⟩:=ik hmv
 rcases my hmv with ⟨h4,_⟩|⟨_,hw,_,_,hm⟩
 ·exact absurd rfl h4
 have hp:=h.ok.perm cj (List.mem_of_getElem? ho)
 have hra:=eE hwa
 have hset:∀ j:Nat,eQ j (b.aj.set d.n.toNat a)=eQ j b.aj+if j=a.aO.toNat then bQ a - bQ cj else 0:=fun j=>by
  rw [oE _ _ ho,hcard]
  by_cases e:cj.aO=(j:Int)
  ·rw [if_pos e,if_pos e,if_pos (by omega)];omega
  ·rw [if_neg e,if_neg e,if_neg (by omega)];omega
 have hsame:bQ a=bQ cj->∀ j:Nat,eQ j (b.aj.set d.n.toNat a)=eQ j b.aj:=fun e j=>by rw [hset j];split<;>omega
 have hh:d.move=5\/d.move=6\/d.move=7\/d.move=8->bQ a=bQ cj:=fun e=>by
  cases hm with
  |pH _ _=>rfl
  |nP _ _=>rfl
  |nO _ _=>rfl
  |nN _ _=>rfl
  |more h _ _=>omega
  |take h _ _=>omega
  |less h _ _=>omega
 unfold kx Dev.cQ at hok ⊢
 split
 rotate_left
 ·exact h
 rename_i h0
 rw [if_pos h0] at hok
 obtain ⟨e0,hl0,hnote⟩:=kj h0
 have key:hJ (dn b a cj d).1 (b.aj.set d.n.toNat a)/\(cF (dn b a cj d).2.2.2.1).err=0/\(cF (dn b a cj d).2.2.2.2.1).err=0/\(dn b a cj d).1.length=b.ag.length:=by
  unfold dn at e0 ⊢
  split at e0
  ·rename_i hk;rw [if_pos hk];exact ⟨h.held.shift e0 hset,h.s0,h.s1,fq _ _ _ _ _⟩
  rename_i k1
  rw [if_neg k1]
  split at e0
  ·rename_i hk;rw [if_pos hk]
   obtain ⟨e1,e2,e3⟩:=gq e0
   obtain ⟨_,p2,p3⟩:=kg e2
   exact ⟨h.held.shift (jo e1).1 hset,by dsimp only;rw [e3,p3];exact p2,h.s1,fq _ _ _ _ _⟩
  rename_i k2
  rw [if_neg k2]
  split at e0
  ·rename_i hk;rw [if_pos hk]
   obtain ⟨e1,e2,e3⟩:=gq e0
   obtain ⟨_,p2,p3⟩:=kg e2
   exact ⟨fun j c hc=>by rw [hsame (hh (.inl hk)) j];exact h.held j c hc,h.s0,by dsimp only;rw [e3,p3];exact p2,rfl⟩
  rename_i k3
  rw [if_neg k3]
  split at e0
  ·rename_i hk;rw [if_pos hk]
   exact ⟨h.held.shift (jo e0).1 fun j=>by rw [hsame (hh (.inr (.inl hk))) j];split<;>omega,h.s0,h.s1,fq _ _ _ _ _⟩
  rename_i k4
  rw [if_neg k4]
  split at e0
  ·rename_i hk;rw [if_pos hk]
   obtain ⟨e1,e2,e3⟩:=gq e0
   obtain ⟨_,p2,p3⟩:=kg e2
   exact ⟨fun j c hc=>by rw [hsame (hh (.inr (.inr (.inl hk)))) j];exact h.held j c hc,by dsimp only;rw [e3,p3];exact p2,h.s1,rfl⟩
  rename_i k5
  rw [if_neg k5]
  split at e0
  ·rename_i hk;rw [if_pos hk]
   exact ⟨h.held.shift (jo e0).1 fun j=>by rw [hsame (hh (.inr (.inr (.inr hk)))) j];split<;>omega,h.s0,h.s1,fq _ _ _ _ _⟩
  ·omega
 refine ⟨hok,key.1,key.2.1,key.2.2.1,h.st,h.used.trans key.2.2.2.symm,fun x hx=>?_⟩
 dsimp only at hx
 rw [hnote] at hx
 rcases List.mem_append.1 hx with hx|hx
 ·exact h.aQ x hx
 ·obtain rfl:=List.mem_singleton.1 hx
  have hlen:=h.ok.aj
  constructor
  ·unfold nA;dsimp only;omega
  ·unfold oT;dsimp only;omega
theorem er.ky {b:Bk} (h:er b) (y:List (List Int)) (d:aV):er (cq b y d).1:=by
 unfold cq
 split
 ·exact h.load d
 split
 ·exact h.asks d
 split
 ·exact h.jG d
 split
 ·exact h.cM d
 split
 ·exact h.send d
 split
 ·exact h.jH d
 split
 ·split
  ·exact h
  ·exact ⟨⟨h.ok.time,h.ok.ag,h.ok.due,h.ok.aj,h.ok.aQ,h.ok.w0,h.ok.w1,h.ok.perm,h.ok.jI,h.ok.k0,h.ok.k1,h.ok.right,h.ok.l0,h.ok.l1,h.ok.p0,h.ok.p1,h.ok.n0,h.ok.n1,fun h=>by cases h⟩,h.held,h.s0,h.s1,h.st,h.used,h.aQ⟩
 split
 ·exact h.Bh
 split
 ·refine ⟨h.ok.rK (mS (y:=y) h.ok.aQ).1,h.held,h.s0,h.s1,h.st,h.used,?_⟩
  unfold fS
  split
  ·exact h.aQ
  ·exact fun x hx=>by cases hx
 split
 ·exact h.qV d
 ·exact h
end
section
structure HL (n:Nat) (aj:List bl) (hl:List Int):Prop where
 len:hl.length=n
 at_:∀ k:Nat,k < n->hl[k]?=some (eQ k aj)
theorem HL.start (n:Nat):HL n [] (List.replicate n 0):=⟨List.length_replicate,fun k hk=>by rw [List.getElem?_replicate,if_pos hk];rfl⟩
theorem HL.step {n:Nat} {u:List bl} {hl:List Int} {a:bl} {x v:Int} (h:HL n u hl) (ha:0<=a.aO/\a.aO < n) (hx:hl[a.aO.toNat]?=some x) (hv:v=x+bQ a):HL n (u++[a]) (hl.set a.aO.toNat v):=by
 refine ⟨(List.length_set ..).trans h.len,fun k hk=>?_⟩
 rw [tk]
 have h1:eQ k [a]=if a.aO=k then bQ a else 0:=by simp [eQ]
 rw [h1,List.getElem?_set]
 have h2:=h.at_ k hk
 split
 ·rename_i e
  rw [e] at hx
  rw [hx] at h2
  injection h2 with h2
  rw [if_pos (by rw [h.len];omega),if_pos (by omega),hv,h2]
 ·rename_i e
  rw [if_neg (by omega),h2];simp
theorem HL.eq {b:Bk} {hl:List Int} {k:Nat} {c:bD} {x:Int} (h:HL b.ag.length b.aj hl) (hh:hJ b.ag b.aj) (hc:b.ag[k]?=some c) (hx:hl[k]?=some x):c.held=x:=by
 have h2:=h.at_ k (List.getElem?_eq_some_iff.1 hc).1
 rw [hx] at h2;injection h2 with h2
 rw [h2];exact hh k c hc
theorem wW (k:Int):∀ {l:List bl},(∀ a∈l,bL a=0)->0<=eQ k l/\eQ k l<=1000000 * l.length
 |[],_=>by simp [eQ]
 |a::l,h=>by
  have:=wW k (l:=l) fun x hx=>h x (List.mem_cons_of_mem _ hx)
  have h2:=pU (h a List.mem_cons_self)
  simp only [eQ,List.length_cons]
  split<;>omega
theorem HL.b {n:Nat} {u:List bl} {hl:List Int} {k:Nat} {x:Int} (h:HL n u hl) (hx:hl[k]?=some x) (hu:∀ a∈u,bL a=0) (hl':u.length<=30):0<=x/\x<=30000000:=by
 have hk:=(List.getElem?_eq_some_iff.1 hx).1
 have h2:=h.at_ k (by rw [<-h.len];exact hk)
 rw [hx] at h2;injection h2 with h2
 have:=wW k hu
 omega
end
def gb (n:Int):List aS->Int
 |[]=>0
 |t::l=>(if t.number<=n\/t.kind=3 then 0 else t.sum)+gb n l
def gh (n:Int):List aS->Int
 |[]=>0
 |t::l=>(if t.number<=n\/¬t.kind=3 then 0 else t.sum)+gh n l
def fc:List bl->Int
 |[]=>0
 |a::l=>a.bj+fc l
theorem rB (n:Int) (u v:List aS):gb n (u++v)=gb n u+gb n v:=by
 induction u with
 |nil=>simp [gb]
 |cons t u ih=>simp only [List.cons_append,gb,ih];omega
theorem sq (n:Int) (u v:List aS):gh n (u++v)=gh n u+gh n v:=by
 induction u with
 |nil=>simp [gh]
 |cons t u ih=>simp only [List.cons_append,gh,ih];omega
theorem vp (u v:List bl):fc (u++v)=fc u+fc v:=by
 induction u with
 |nil=>simp [fc]
 |cons t u ih=>simp only [List.cons_append,fc,ih];omega
theorem qc (b:bl):∀ {l:List bl} {i:Nat} {a:bl},l[i]?=some a->fc (l.set i b)=fc l - a.bj+b.bj
 |x::l,0,a,h=>by
  have:x=a:=by simpa using h
  subst this
  simp only [List.set_cons_zero,fc];omega
 |x::l,i+1,a,h=>by
  have h:l[i]?=some a:=by simpa using h
  simp only [List.set_cons_succ,fc,qc b h];omega
theorem rA {n m:Int} (h:m<=n):∀ l:List aS,gb n (dj (came m) l)=gb n l/\gh n (dj (came m) l)=gh n l
 |[]=>⟨rfl,rfl⟩
 |t::l=>by
  obtain ⟨h1,h2⟩:=rA h l
  unfold dj at h1 h2 ⊢
  rw [List.filter_cons]
  split
  ·constructor<;>simp only [gb,gh,h1,h2]
  ·rename_i hc
   have:t.number<=m:=by simpa [came] using hc
   rw [h1,h2];simp only [gb,gh]
   rw [if_pos (by omega),if_pos (by omega)];omega
def ur (l:List aS):Prop:=l.Pairwise fun a b=>a.number < b.number
theorem qA {s:bO} (h:(cF s).err=0):ur s.kept:=by
 obtain ⟨_,_,_,h4⟩:=ia h
 unfold ur
 rw [List.pairwise_iff_getElem]
 intro i j hi hj hij
 have a:=(h4 i _ (List.getElem?_eq_getElem hi)).2.2.2.2.2.2
 have b:=(h4 j _ (List.getElem?_eq_getElem hj)).2.2.2.2.2.2
 omega
theorem Be {n:Int}:∀ {l:List aS},(∀ t∈l,n+1 < t.number)->gb (n+1) l=gb n l/\gh (n+1) l=gh n l
 |[],_=>⟨rfl,rfl⟩
 |t::l,h=>by
  obtain ⟨h1,h2⟩:=Be (l:=l) fun x hx=>h x (List.mem_cons_of_mem _ hx)
  have:=h t List.mem_cons_self
  simp only [gb,gh,h1,h2]
  constructor
  ·split<;>split<;>omega
  ·split<;>split<;>omega
theorem rz {n:Int} {t:aS}:∀ {l:List aS},ur l->t∈l->t.number=n+1->gb (n+1) l=gb n l - (if t.kind=3 then 0 else t.sum)/\gh (n+1) l=gh n l - (if t.kind=3 then t.sum else 0)
 |[],_,h,_=>by cases h
 |x::l,hi,h,ht=>by
  unfold ur at hi
  rw [List.pairwise_cons] at hi
  rcases List.mem_cons.1 h with rfl|h
  ·obtain ⟨h1,h2⟩:=Be (n:=n) (l:=l) fun y hy=>by have:=hi.1 y hy;omega
   simp only [gb,gh,h1,h2]
   constructor<;>((repeat' split)<;>omega)
  ·have:=hi.1 t h
   obtain ⟨h1,h2⟩:=rz hi.2 h ht
   simp only [gb,gh,h1,h2]
   constructor<;>((repeat' split)<;>omega)
theorem fW {l:List Entry} {e src dst n:Int} (h:(dL l e src dst n).2=0):e=0/\(eF (dL l e src dst n).1).err=0/\∀ x,cZ (dL l e src dst n).1 x=cZ l x+(if x=dst then n else 0) - (if x=src then n else 0):=by
 obtain ⟨h1,h2,h3⟩:=jo h
 rw [h3]
 have hp:gy l [⟨src,0 - n⟩,⟨dst,n⟩]=((iK l src dst n).1,0):=by
  unfold iK at h2 ⊢
  split at h2
  ·cases h2
  ·rename_i c;rw [if_neg c];exact Prod.ext rfl h2
 refine ⟨h1,(pE hp 0).1,fun x=>?_⟩
 rw [(pE hp x).2];simp only [mz]
 have e1:(src=x)=(x=src):=propext ⟨Eq.symm,Eq.symm⟩
 have e2:(dst=x)=(x=dst):=propext ⟨Eq.symm,Eq.symm⟩
 simp only [e1,e2]
 split<;>split<;>omega
def gL (ag:List bD) (book:List Entry):Prop:=∀ (k:Nat) (c:bD),ag[k]?=some c->cZ book (10+k)=c.bB
def oX (due:List Int) (book:List Entry):Prop:=∀ (k:Nat) (n:Int),due[k]?=some n->cZ book (50+k)=n
theorem gL.shift {ag:List bD} {book book':List Entry} {e k h m:Int} (H:gL ag book) (hz:(cE ag e k h m).2=0) (hk:0<=k) (hb:∀ j:Nat,j < ag.length->cZ book' (10+j)=cZ book (10+j)+if (j:Int)=k then m else 0):gL (cE ag e k h m).1 book':=by
 intro j c hc
 have hj:j < ag.length:=by have:=(List.getElem?_eq_some_iff.1 hc).1;rwa [fq] at this
 obtain ⟨_,hz⟩:=la hz
 rcases hz with ⟨h1,h2⟩|⟨c0,h1,h2⟩
 ·rw [h2] at hc
  have:¬(j:Int)=k:=fun e=>by rw [<-e,Int.toNat_natCast,hc] at h1;cases h1
  rw [hb j hj,if_neg this,H j c hc];omega
 ·rw [h2,List.getElem?_set] at hc
  split at hc
  ·rename_i e
   split at hc
   ·injection hc with hc;subst hc
    rw [hb j hj,if_pos (by omega),H j c0 (by rw [<-e];exact h1)]
   ·cases hc
  ·rename_i e;rw [hb j hj,if_neg (by omega),H j c hc];omega
theorem gL.same {ag:List bD} {book book':List Entry} (H:gL ag book) (hb:∀ j:Nat,j < ag.length->cZ book' (10+j)=cZ book (10+j)):gL ag book':=fun j c hc=>by
 rw [hb j (List.getElem?_eq_some_iff.1 hc).1,H j c hc]
theorem gL.put {ag:List bD} {book:List Entry} {k:Nat} {c c':bD} (H:gL ag book) (hc:ag[k]?=some c) (hm:c'.bB=c.bB):gL (ag.set k c') book:=fun j x hx=>by
 rw [List.getElem?_set] at hx
 split at hx
 ·rename_i e
  split at hx
  ·injection hx with hx;subst hx;rw [hm,<-e];exact H k c hc
  ·cases hx
 ·exact H j x hx
theorem oX.same {due:List Int} {book book':List Entry} (H:oX due book) (hb:∀ j:Nat,j < due.length->cZ book' (50+j)=cZ book (50+j)):oX due book':=fun j c hc=>by
 rw [hb j (List.getElem?_eq_some_iff.1 hc).1,H j c hc]
theorem oX.set {due:List Int} {book book':List Entry} {k v w m:Int} (H:oX due book) (hk:0<=k) (hv:due[k.toNat]?=some v) (hw:w=v+m) (hb:∀ j:Nat,j < due.length->cZ book' (50+j)=cZ book (50+j)+if (j:Int)=k then m else 0):oX (due.set k.toNat w) book':=fun j x hx=>by
 have hj:j < due.length:=by have:=(List.getElem?_eq_some_iff.1 hx).1;rwa [List.length_set] at this
 rw [List.getElem?_set] at hx
 split at hx
 ·rename_i e
  split at hx
  ·injection hx with hx;subst hx
   rw [hb j hj,if_pos (by omega),H j v (by rw [<-e];exact hv),hw]
  ·cases hx
 ·rw [hb j hj,if_neg (by omega),H j x hx];omega
structure Way (s:bO) (n:Int) (w v:List bS):Prop where
 lo:s.bG - s.kept.length<=n
 hi:n<=s.bG
 pk:∀ p∈w,p.seen < 0->p.bY.number<=s.bG/\(s.bG - s.kept.length < p.bY.number->p.bY∈s.kept)
 ak:∀ p∈v,0<=p.seen->p.seen<=n
theorem Way.put {s:bO} {n:Int} {w v:List bS} (H:Way s n w v) (t:aS):Way (gO s t) n w v:=by
 have h1:=H.lo;have h2:=H.hi
 refine ⟨by simp [gO];omega,by simp [gO];omega,fun p hp hs=>?_,H.ak⟩
 obtain ⟨h3,h4⟩:=H.pk p hp hs
 refine ⟨by simp [gO];omega,fun h=>List.mem_append_left _ (h4 ?_)⟩
 simp [gO] at h;omega
theorem Way.back {s:bO} {n m:Int} {w v:List bS} (H:Way s n w v) (hw:(cF s).err=0) (hm:m<=n) (hs:m<=s.bG):Way ⟨s.bG,dj (came m) s.kept⟩ n w v:=by
 have h1:=H.lo;have h2:=H.hi
 obtain ⟨_,hr,_,_⟩:=ia hw
 have hl:s.bG - ((dj (came m) s.kept).length:Int)=if m<=s.bG - s.kept.length then s.bG - s.kept.length else m:=by
  rw [uY hw,List.length_drop]
  split<;>omega
 refine ⟨?_,H.hi,fun p hp hq=>?_,H.ak⟩
 ·dsimp only;rw [hl];split<;>omega
 ·obtain ⟨h3,h4⟩:=H.pk p hp hq
  refine ⟨h3,fun h=>?_⟩
  dsimp only at h ⊢
  rw [hl] at h
  refine List.mem_filter.2 ⟨h4 (by split at h<;>omega),?_⟩
  have:¬p.bY.number<=m:=by split at h<;>omega
  simp [came];omega
theorem Way.sub {s:bO} {n:Int} {w v w' v':List bS} (H:Way s n w v) (hw:∀ p∈w',p∈w) (hv:∀ p∈v',p∈v):Way s n w' v':=
 ⟨H.lo,H.hi,fun p hp=>H.pk p (hw p hp),fun p hp=>H.ak p (hv p hp)⟩
theorem Way.take {s:bO} {n:Int} {w v:List bS} (H:Way s n w v) (h:n+1<=s.bG):Way s (n+1) w v:=
 ⟨by have:=H.lo;omega,h,H.pk,fun p hp hs=>by have:=H.ak p hp hs;omega⟩
theorem Way.bG {s:bO} {n m:Int} {w v:List bS} (H:Way s n w v) (hs:(cF s).err=0):Way s n (gr w s.kept m) v:=
 ⟨H.lo,H.hi,fun p hp hq=>by
  unfold gr at hp
  rcases List.mem_append.1 hp with hp|hp
  ·rcases List.mem_append.1 hp with hp|hp
   ·exact H.pk p hp hq
   ·obtain ⟨t,ht,rfl⟩:=List.mem_map.1 hp
    refine ⟨?_,fun _=>ht⟩
    obtain ⟨i,hi⟩:=List.getElem?_of_mem ht
    have:=((ia hs).2.2.2 i t hi).2.2.2.2.2.2
    have:=(List.getElem?_eq_some_iff.1 hi).1
    dsimp only;omega
  ·have:=List.mem_singleton.1 hp
   subst this
   exact ⟨by dsimp only at hq ⊢;have:=H.hi;have:=(ia hs).2.1;omega,fun h=>by dsimp only at h;have:=(ia hs).2.1;omega⟩,H.ak⟩
theorem Way.told {s:bO} {n m:Int} {w v:List bS} {ks:List aS} (H:Way s n w v) (hm:m<=n):Way s n w (gr v ks m):=
 ⟨H.lo,H.hi,H.pk,fun p hp hq=>by
  unfold gr at hp
  rcases List.mem_append.1 hp with hp|hp
  ·rcases List.mem_append.1 hp with hp|hp
   ·exact H.ak p hp hq
   ·obtain ⟨t,ht,rfl⟩:=List.mem_map.1 hp
    dsimp only at hq;omega
  ·rw [List.mem_singleton.1 hp];exact hm⟩
structure dJ (b:Bk):Prop where
 h:er b
 bk:(eF b.book).err=0
 ag:gL b.ag b.book
 due:oX b.due b.book
 jz:cZ b.book 1=gb b.n1 b.s0.kept+gb b.n0 b.s1.kept
 jV:cZ b.book 2=0 - fc b.aj - (gh b.n1 b.s0.kept+gh b.n0 b.s1.kept)
 y0:Way b.s0 b.n1 b.w1 b.w0
 y1:Way b.s1 b.n0 b.w0 b.w1
theorem dJ.load {b:Bk} (H:dJ b) (d:aV):dJ (ey b d).1:=by
 have hh:=H.h.load d
 unfold ey at hh ⊢
 split
 ·exact H
 rename_i c1
 rw [if_neg c1] at hh
 split
 ·exact H
 rename_i c2
 rw [if_neg c2] at hh
 unfold Dev.cQ at hh ⊢
 split
 ·rename_i h0
  rw [if_pos h0] at hh
  obtain ⟨e1,w,g⟩:=fW h0
  have hc:=H.h.ok.ag;have hd:=H.h.ok.due
  exact ⟨hh,w,H.ag.shift e1 (by omega) fun j hj=>by rw [g];(repeat' split)<;>omega,H.due.same fun j hj=>by rw [g];(repeat' split)<;>omega,by dsimp only;rw [g,H.jz];(repeat' split)<;>omega,by dsimp only;rw [g,H.jV];(repeat' split)<;>omega,H.y0,H.y1⟩
 ·exact H
theorem dJ.bound {b:Bk} (H:dJ b) (x:Int):-1000000000000<=cZ b.book x/\cZ b.book x<=1000000000000:=oG fun z hz=>by
 have:=(jY.1 H.bk).1.ok z hz;omega
theorem mj {l:List Int} {k:Int} (h0:0<=k) (h:k < l.length):l[k.toNat]?=some (l.getD k.toNat 0):=by
 rw [List.getD_eq_getElem?_getD,List.getElem?_eq_getElem (by omega)];rfl
theorem dJ.qV {b:Bk} (H:dJ b) (d:aV):dJ (eH b d).1:=by
 have hh:=H.h.qV d
 unfold eH at hh ⊢
 split
 ·exact H
 rename_i c1
 rw [if_neg c1] at hh
 split
 ·exact H
 rename_i c2
 rw [if_neg c2] at hh
 unfold Dev.cQ at hh ⊢
 split
 ·rename_i h0
  rw [if_pos h0] at hh
  obtain ⟨e1,w,g⟩:=fW h0
  have hc:=H.h.ok.ag;have hd:=H.h.ok.due
  have hv:=mj (l:=b.due) (k:=d.n) (by omega) (by omega)
  exact ⟨hh,w,H.ag.same fun j hj=>by rw [g];(repeat' split)<;>omega,H.due.set (m:=0 - b.due.getD d.n.toNat 0) (by omega) hv (by omega) fun j hj=>by rw [g];(repeat' split)<;>omega,by dsimp only;rw [g,H.jz];(repeat' split)<;>omega,by dsimp only;rw [g,H.jV];(repeat' split)<;>omega,H.y0,H.y1⟩
 ·exact H
theorem qZ {time:Int} {book:List Entry}:∀ (l:List bl) (i:Nat) (ag:List bD) (aj:List bl) (e:Int),(eL time l i ag aj e).2.2=0->aj.drop i=l->(∀ a∈l,0<=a.aO)->gL ag book->gL (eL time l i ag aj e).1 book/\fc (eL time l i ag aj e).2.1=fc aj
 |[],_,_,_,_,_,_,_,h=>⟨h,rfl⟩
 |a::l,i,ag,aj,e,hz,hd,hp,h=>by
  unfold eL at hz ⊢
  have hat:aj[i]?=some a:=by
   have:(aj.drop i)[0]?=some a:=by rw [hd];rfl
   rwa [List.getElem?_drop,Nat.add_zero] at this
  have hilt:=(List.getElem?_eq_some_iff.1 hat).1
  have key:=qZ (book:=book) l (i+1) _ _ _ hz (by
   rw [List.drop_set_of_lt (by omega)]
   have:aj.drop (i+1)=(aj.drop i).drop 1:=by rw [List.drop_drop]
   rw [this,hd];rfl) (fun x hx=>hp x (List.mem_cons_of_mem _ hx)) (h.shift (lW l _ _ _ _ hz) (hp a List.mem_cons_self) fun j _=>by split<;>omega)
  refine ⟨key.1,key.2.trans ?_⟩
  rw [qc _ hat]
  show fc aj - a.bj+a.bj=fc aj
  omega
theorem dJ.late {b:Bk} (H:dJ b):dJ (fj b):=by
 have hh:=H.h.late
 unfold fj at hh ⊢
 split
 ·rename_i h0
  rw [if_pos h0] at hh
  obtain ⟨k1,k2⟩:=qZ (book:=b.book) _ _ _ _ _ h0 rfl (fun a ha=>(H.h.ok.perm a ha).2.1) H.ag
  exact ⟨hh,H.bk,k1,H.due,H.jz,by dsimp only;rw [k2];exact H.jV,H.y0,H.y1⟩
 ·exact H
theorem dJ.cM {b:Bk} (H:dJ b) (d:aV):dJ (ea b d).1:=by
 unfold ea
 split
 ·exact H
 ·have h:=H.h
  have h1:dJ {b with time:=b.time+d.sum}:=⟨⟨h.ok.tick (by have:=h.ok.time;omega) (by have:=h.ok.time;omega),h.held,h.s0,h.s1,h.st,h.used,h.aQ⟩,H.bk,H.ag,H.due,H.jz,H.jV,H.y0,H.y1⟩
  dsimp only
  split
  ·exact h1
  ·exact h1.late
theorem dJ.send {b:Bk} (H:dJ b) (d:aV):dJ {b with w0:=(dQ b.s0 b.s1 b.n0 b.n1 b.w0 b.w1 d).1,w1:=(dQ b.s0 b.s1 b.n0 b.n1 b.w0 b.w1 d).2.1}:=by
 refine ⟨H.h.send d,H.bk,H.ag,H.due,H.jz,H.jV,?_,?_⟩
 ·dsimp only
  unfold dQ gZ
  (repeat' split)<;>first|exact H.y0|exact H.y0.bG H.h.s0|exact H.y0.told (Int.le_refl _)
 ·dsimp only
  unfold dQ gZ
  (repeat' split)<;>first|exact H.y1|exact H.y1.bG H.h.s1|exact H.y1.told (Int.le_refl _)
theorem uB {b:Bk} (H:dJ b) {t:aS} (hk:1<=t.kind/\t.kind<=3) (hs:1<=t.sum/\t.sum<=1000000) (ha:0<=t.ba/\t.ba < b.aj.length) (hz:(dv b.aj b.due b.ag b.book 0 t).2.2.2=0):
  (eF (dv b.aj b.due b.ag b.book 0 t).2.2.1).err=0/\gL (dv b.aj b.due b.ag b.book 0 t).2.1 (dv b.aj b.due b.ag b.book 0 t).2.2.1/\oX (dv b.aj b.due b.ag b.book 0 t).1 (dv b.aj b.due b.ag b.book 0 t).2.2.1/\
   cZ (dv b.aj b.due b.ag b.book 0 t).2.2.1 1=cZ b.book 1 - (if t.kind=3 then 0 else t.sum)/\cZ (dv b.aj b.due b.ag b.book 0 t).2.2.1 2=cZ b.book 2+(if t.kind=3 then t.sum else 0):=by
 obtain ⟨a,hg⟩:∃ a,b.aj[t.ba.toNat]?=some a:=⟨_,List.getElem?_eq_getElem (by omega)⟩
 have hp:=H.h.ok.perm a (List.mem_of_getElem? hg)
 have hc:=H.h.ok.ag;have hd:=H.h.ok.due
 have hv:=mj (l:=b.due) (k:=a.az) (by omega) (by omega)
 have hb:=H.bound (50+a.az)
 have hbv:=H.due a.az.toNat _ hv
 rw [show (50+(a.az.toNat:Int))=50+a.az by omega] at hbv
 unfold dv at hz ⊢
 rw [hg] at hz ⊢
 dsimp only at hz ⊢
 split at hz
 ·rename_i k1
  rw [if_pos k1]
  obtain ⟨_,w,g⟩:=fW hz
  refine ⟨w,H.ag.same fun j hj=>by rw [g];(repeat' split)<;>omega,H.due.set (m:=t.sum) (by omega) hv (IntWalk.i64_in _ (by omega)) fun j hj=>by rw [g];(repeat' split)<;>omega,by rw [g];(repeat' split)<;>omega,by rw [g];(repeat' split)<;>omega⟩
 rename_i k1
 rw [if_neg k1]
 split at hz
 ·rename_i k2
  rw [if_pos k2]
  obtain ⟨e1,w,g⟩:=fW hz
  refine ⟨w,H.ag.shift e1 (by omega) fun j hj=>by rw [g];(repeat' split)<;>omega,H.due.same fun j hj=>by rw [g];(repeat' split)<;>omega,by rw [g];(repeat' split)<;>omega,by rw [g];(repeat' split)<;>omega⟩
 rename_i k2
 rw [if_neg k2]
 split at hz
 ·rename_i k3
  rw [if_pos k3]
  obtain ⟨_,w,g⟩:=fW hz
  refine ⟨w,H.ag.same fun j hj=>by rw [g];(repeat' split)<;>omega,H.due.set (m:=0 - t.sum) (by omega) hv ((IntWalk.i64_in _ (by omega)).trans (by omega)) fun j hj=>by rw [g];(repeat' split)<;>omega,by rw [g];(repeat' split)<;>omega,by rw [g];(repeat' split)<;>omega⟩
 ·omega
theorem iP (n:Int) (t:aS):((fg n t).2=true/\t.number=n+1/\(fg n t).1=n+1)\/((fg n t).2=false/\(fg n t).1=n):=by
 unfold fg
 split
 ·exact .inr ⟨rfl,rfl⟩
 ·exact .inl ⟨rfl,by omega,rfl⟩
theorem mW {α:Type} {l:List α} {x:α} (h:x∈l.drop 1):x∈l:=List.mem_of_mem_drop h
theorem dJ.jH {b:Bk} (H:dJ b) (d:aV):dJ (bE b d).1:=by
 have hh:=H.h.jH d
 unfold bE at hh ⊢
 split
 ·rename_i c0
  rw [if_pos c0] at hh
  unfold ew at hh ⊢
  split
  ·exact H
  rename_i p hp
  rw [hp] at hh
  have hm:=List.mem_of_getElem? hp
  have D0:Way b.s0 b.n1 b.w1 (b.w0.drop 1):=H.y0.sub (fun _ h=>h) (fun _ h=>mW h)
  have D1:Way b.s1 b.n0 (b.w0.drop 1) b.w1:=H.y1.sub (fun _ h=>mW h) (fun _ h=>h)
  dsimp only at hh ⊢
  split
  ·rename_i c1;rw [if_pos c1] at hh;exact ⟨hh,H.bk,H.ag,H.due,H.jz,H.jV,D0,D1⟩
  rename_i c1
  rw [if_neg c1] at hh
  split
  ·rename_i c2
   rw [if_pos c2] at hh
   split
   ·rename_i c3
    rw [if_pos c3] at hh
    obtain ⟨b1,b2,b3,b4,b5⟩:=ml c3
    have hle:=H.y0.ak p hm (by omega)
    obtain ⟨q1,q2⟩:=rA hle b.s0.kept
    rw [b4] at hh ⊢
    exact ⟨hh,H.bk,H.ag,H.due,by dsimp only;rw [q1];exact H.jz,by dsimp only;rw [q2];exact H.jV,D0.back b1 hle b3,D1⟩
   ·exact H
  rename_i c2
  rw [if_neg c2] at hh
  rcases iP b.n0 p.bY with ⟨t1,t2,t3⟩|⟨t1,t3⟩
  ·rw [if_pos t1] at hh ⊢
   rw [t3] at hh ⊢
   unfold Dev.cQ at hh ⊢
   split
   ·rename_i c4
    rw [if_pos c4] at hh
    have hlo:=H.y1.lo
    obtain ⟨p1,p2⟩:=H.y1.pk p hm (by omega)
    have bI:=p2 (by omega)
    obtain ⟨i,hi⟩:=List.getElem?_of_mem bI
    have hr:=(ia H.h.s1).2.2.2 i _ hi
    have hau:=H.h.ok.k1 _ bI
    obtain ⟨r1,r2,r3,r4,r5⟩:=uB H ⟨hr.1,hr.2.1⟩ ⟨hr.2.2.2.2.1,hr.2.2.2.2.2.1⟩ hau.2 c4
    obtain ⟨y1,y2⟩:=rz (qA H.h.s1) bI t2
    have hauth:fc b.aj=fc b.aj:=rfl
    exact ⟨hh,r1,r2,r3,by dsimp only;rw [r4,y1,H.jz];omega,by dsimp only;rw [r5,y2,H.jV];omega,D0,D1.take (by omega)⟩
   ·exact H
  ·rw [if_neg (by rw [t1];decide)] at hh ⊢
   rw [t3] at hh ⊢
   exact ⟨hh,H.bk,H.ag,H.due,H.jz,H.jV,D0,D1⟩
 rename_i c0
 rw [if_neg c0] at hh
 split
 ·rename_i c01
  rw [if_pos c01] at hh
  unfold eu at hh ⊢
  split
  ·exact H
  rename_i p hp
  rw [hp] at hh
  have hm:=List.mem_of_getElem? hp
  have D0:Way b.s0 b.n1 (b.w1.drop 1) b.w0:=H.y0.sub (fun _ h=>mW h) (fun _ h=>h)
  have D1:Way b.s1 b.n0 b.w0 (b.w1.drop 1):=H.y1.sub (fun _ h=>h) (fun _ h=>mW h)
  dsimp only at hh ⊢
  split
  ·rename_i c1;rw [if_pos c1] at hh;exact ⟨hh,H.bk,H.ag,H.due,H.jz,H.jV,D0,D1⟩
  rename_i c1
  rw [if_neg c1] at hh
  split
  ·rename_i c2
   rw [if_pos c2] at hh
   split
   ·rename_i c3
    rw [if_pos c3] at hh
    obtain ⟨b1,b2,b3,b4,b5⟩:=ml c3
    have hle:=H.y1.ak p hm (by omega)
    obtain ⟨q1,q2⟩:=rA hle b.s1.kept
    rw [b4] at hh ⊢
    exact ⟨hh,H.bk,H.ag,H.due,by dsimp only;rw [q1];exact H.jz,by dsimp only;rw [q2];exact H.jV,D0,D1.back b1 hle b3⟩
   ·exact H
  rename_i c2
  rw [if_neg c2] at hh
  rcases iP b.n1 p.bY with ⟨t1,t2,t3⟩|⟨t1,t3⟩
  ·rw [if_pos t1] at hh ⊢
   rw [t3] at hh ⊢
   unfold Dev.cQ at hh ⊢
   split
   ·rename_i c4
    rw [if_pos c4] at hh
    have hlo:=H.y0.lo
    obtain ⟨p1,p2⟩:=H.y0.pk p hm (by omega)
    have bI:=p2 (by omega)
    obtain ⟨i,hi⟩:=List.getElem?_of_mem bI
    have hr:=(ia H.h.s0).2.2.2 i _ hi
    have hau:=H.h.ok.k0 _ bI
    obtain ⟨r1,r2,r3,r4,r5⟩:=uB H ⟨hr.1,hr.2.1⟩ ⟨hr.2.2.2.2.1,hr.2.2.2.2.2.1⟩ hau.2 c4
    obtain ⟨y1,y2⟩:=rz (qA H.h.s0) bI t2
    exact ⟨hh,r1,r2,r3,by dsimp only;rw [r4,y1,H.jz];omega,by dsimp only;rw [r5,y2,H.jV];omega,D0.take (by omega),D1⟩
   ·exact H
  ·rw [if_neg (by rw [t1];decide)] at hh ⊢
   rw [t3] at hh ⊢
   exact ⟨hh,H.bk,H.ag,H.due,H.jz,H.jV,D0,D1⟩
 ·exact H
theorem dJ.asks {b:Bk} (H:dJ b) (d:aV):dJ (du b d).1:=by
 have hh:=H.h.asks d
 unfold du at hh ⊢
 split
 ·exact H
 rename_i c0
 rw [if_neg c0] at hh
 split
 ·rename_i cd
  rw [if_pos cd] at hh
  split
  ·exact H
  rename_i c1
  rw [if_neg c1] at hh
  split
  ·exact H
  rename_i c2
  rw [if_neg c2] at hh
  exact ⟨hh,H.bk,H.ag,H.due,H.jz,H.jV,H.y0,H.y1⟩
 rename_i cd
 rw [if_neg cd] at hh
 split
 ·exact H
 rename_i c2
 rw [if_neg c2] at hh
 split
 ·exact H
 rename_i c3
 rw [if_neg c3] at hh
 obtain ⟨_,w2,_⟩:=km (show (dp d.n d.az d.sum b.time).2=0 by omega)
 split
 ·exact H
 rename_i c hc
 rw [hc] at hh
 dsimp only at hh
 split
 ·exact H
 rename_i c4
 rw [if_neg c4] at hh
 have hf:=(rq (show dE c d.sum b.time=((dE c d.sum b.time).1,(dE c d.sum b.time).2) from rfl)).1 (by omega)
 refine ⟨hh,H.bk,H.ag.put hc hf.2.2.1,H.due,H.jz,?_,H.y0,H.y1⟩
 dsimp only
 rw [vp,w2]
 have:fc [(⟨d.n,d.az,d.sum,0,0,0,b.time+100,false⟩:bl)]=0:=rfl
 rw [H.jV]
 simp only [fc];omega
theorem uz {book:List Entry}:∀ (l:List cg) (cs:List bD) (xs:List bl),(fe l cs xs).2.2=0->gL cs book->(∀ a∈l,0<=a.aO/\a.aO < cs.length)->gL (fe l cs xs).1 book/\fc (fe l cs xs).2.1=fc xs
 |[],cs,xs,_,h,_=>⟨h,rfl⟩
 |x::l,cs,xs,hz,h,hl=>by
  unfold fe at hz ⊢
  split at hz
  ·rename_i h1;exact absurd hz h1
  rename_i h1
  rw [if_neg h1]
  have hx:=hl x List.mem_cons_self
  cases hc:cs[x.aO.toNat]? with
  |none=>have:=List.getElem?_eq_none_iff.1 hc;omega
  |some c=>
   rw [hc] at hz
   dsimp only at hz ⊢
   split at hz
   ·rename_i h2;exact absurd hz h2
   rename_i h2
   rw [if_neg h2]
   obtain ⟨_,w2,_⟩:=km (show (dp x.aO x.az x.sum x.time).2=0 by omega)
   obtain ⟨_,f2,_⟩:=kr (show (eW c x.sum).2=0 by omega)
   have key:=uz (book:=book) l _ _ hz (h.put hc (by rw [f2])) (fun a ha=>by rw [List.length_set];exact hl a (List.mem_cons_of_mem _ ha))
   refine ⟨key.1,key.2.trans ?_⟩
   rw [vp,w2];simp only [fc];omega
theorem dJ.Bh {b:Bk} (H:dJ b):dJ (gn b).1:=by
 unfold gn
 split
 ·exact H
 split
 ·exact H
 split
 ·exact H
 rename_i c1 c2 c3
 have h:=H.h
 have h0:(cC b.bx).2.2=0:=by omega
 obtain ⟨r1,r2,r3⟩:=oQ h0
 have hu:=h.ok.vV h0
 have hz:(fe (cC b.bx).2.1 b.ag b.aj).2.2=0:=by omega
 have hadv:∀ a∈(cC b.bx).2.1,0<=a.aO/\a.aO < b.ag.length:=fun a ha=>by rw [r3] at ha;have:=h.ok.jI a ha;omega
 obtain ⟨u1,u2⟩:=rE _ _ _ hz h.held hadv
 obtain ⟨v1,v2⟩:=uz (book:=b.book) _ _ _ hz H.ag hadv
 have hp:=gR h.st
 refine dJ.late ⟨⟨hu,u1,h.s0,h.s1,?_,?_,h.aQ⟩,H.bk,v1,H.due,H.jz,by dsimp only;rw [v2];exact H.jV,H.y0,H.y1⟩
 ·dsimp only;rw [r2]
  have hc:0<=b.bx.cap/\b.bx.cap<=1000000:=by simpa [gP] using hp.2.2.1
  exact pM _ _ hp.1 hc.1 hc.2
 ·dsimp only;rw [r2,u2];simp [h.used]
theorem Ab {a b:bl} {k n:Int} (h:jt a k n b):b.bj=a.bj+(if k=6 then n else 0) - (if k=7\/k=8 then n else 0):=by
 cases h with
 |more h _ _=>dsimp only;(repeat' split)<;>omega
 |take h _ _=>dsimp only;(repeat' split)<;>omega
 |less h _ _=>dsimp only;(repeat' split)<;>omega
 |pH h _=>dsimp only;(repeat' split)<;>omega
 |nP h _=>dsimp only;(repeat' split)<;>omega
 |nO h _=>dsimp only;(repeat' split)<;>omega
 |nN h _=>dsimp only;(repeat' split)<;>omega
theorem dJ.jG {b:Bk} (H:dJ b) (d:aV):dJ (cT b d).1:=by
 have hh:=H.h.jG d
 unfold cT at hh ⊢
 split
 ·exact H
 rename_i cd
 rw [if_neg cd] at hh
 split
 ·exact H
 rename_i c1
 rw [if_neg c1] at hh
 split
 ·exact H
 rename_i cj ho
 rw [ho] at hh
 dsimp only at hh
 split
 ·exact H
 rename_i c2
 rw [if_neg c2] at hh
 split
 ·exact H
 rename_i c3
 rw [if_neg c3] at hh
 have hmv:bX cj d.move d.sum=((bX cj d.move d.sum).1,0):=Prod.ext rfl (by dsimp only;omega)
 generalize (bX cj d.move d.sum).1=a at *
 obtain ⟨_,hwa,hcard,hshop,hk1,hk2,hn1,hn2⟩:=ik hmv
 rcases my hmv with ⟨h4,_⟩|⟨_,hw,_,_,hm⟩
 ·exact absurd rfl h4
 have hp:=H.h.ok.perm cj (List.mem_of_getElem? ho)
 have hc:=H.h.ok.ag;have hd:=H.h.ok.due
 have hdis:=Ab hm
 have hdl:fc (b.aj.set d.n.toNat a)=fc b.aj - cj.bj+a.bj:=qc a ho
 have hv:=mj (l:=b.due) (k:=a.az) (by omega) (by omega)
 have hb:=H.bound (50+a.az)
 have hbv:=H.due a.az.toNat _ hv
 rw [show (50+(a.az.toNat:Int))=50+a.az by omega] at hbv
 have hy0:=H.y0.hi;have hy1:=H.y1.hi
 have hway:=H.jz;have hdd:=H.jV
 unfold kx Dev.cQ at hh ⊢
 split
 rotate_left
 ·exact H
 rename_i h0
 rw [if_pos h0] at hh
 obtain ⟨e0,hl0,hnote⟩:=kj h0
 have key:(eF (dn b a cj d).2.2.1).err=0/\gL (dn b a cj d).1 (dn b a cj d).2.2.1/\oX (dn b a cj d).2.1 (dn b a cj d).2.2.1/\
   cZ (dn b a cj d).2.2.1 1=gb b.n1 (dn b a cj d).2.2.2.1.kept+gb b.n0 (dn b a cj d).2.2.2.2.1.kept/\
   cZ (dn b a cj d).2.2.1 2=0 - fc (b.aj.set d.n.toNat a) - (gh b.n1 (dn b a cj d).2.2.2.1.kept+gh b.n0 (dn b a cj d).2.2.2.2.1.kept)/\
   Way (dn b a cj d).2.2.2.1 b.n1 b.w1 b.w0/\Way (dn b a cj d).2.2.2.2.1 b.n0 b.w0 b.w1:=by
  rw [hdl,hdis]
  unfold dn at e0 ⊢
  split at e0
  ·rename_i hk;rw [if_pos hk]
   refine ⟨H.bk,H.ag.shift e0 (by omega) fun j hj=>by dsimp only;split<;>omega,H.due,hway,?_,H.y0,H.y1⟩
   dsimp only;rw [hdd];(repeat' split)<;>omega
  rename_i k1
  rw [if_neg k1]
  split at e0
  ·rename_i hk;rw [if_pos hk]
   obtain ⟨e1,e2,e3⟩:=gq e0
   obtain ⟨_,p2,p3⟩:=kg e2
   obtain ⟨e4,w,g⟩:=fW e1
   refine ⟨w,H.ag.shift e4 (by omega) fun j hj=>by rw [g];(repeat' split)<;>omega,H.due.same fun j hj=>by rw [g];(repeat' split)<;>omega,?_,?_,by dsimp only;rw [e3,p3];exact H.y0.put _,H.y1⟩
   ·dsimp only;rw [e3,p3,g];simp only [gO,rB,gb];rw [hway];(repeat' split)<;>first|omega|(simp only [not_true,not_false_iff,or_false,or_true,false_or,true_or] at *;omega)|(simp_all;done)|(simp_all;omega)
   ·dsimp only;rw [e3,p3,g];simp only [gO,sq,gh];rw [hdd];(repeat' split)<;>first|omega|(simp only [not_true,not_false_iff,or_false,or_true,false_or,true_or] at *;omega)|(simp_all;done)|(simp_all;omega)
  rename_i k2
  rw [if_neg k2]
  split at e0
  ·rename_i hk;rw [if_pos hk]
   obtain ⟨e1,e2,e3⟩:=gq e0
   obtain ⟨_,p2,p3⟩:=kg e2
   obtain ⟨e4,w,g⟩:=fW e1
   refine ⟨w,H.ag.same fun j hj=>by rw [g];(repeat' split)<;>omega,H.due.set (m:=0 - d.sum) (by omega) hv ((IntWalk.i64_in _ (by omega)).trans (by omega)) fun j hj=>by rw [g];(repeat' split)<;>omega,?_,?_,H.y0,by dsimp only;rw [e3,p3];exact H.y1.put _⟩
   ·dsimp only;rw [e3,p3,g];simp only [gO,rB,gb];rw [hway];(repeat' split)<;>first|omega|(simp only [not_true,not_false_iff,or_false,or_true,false_or,true_or] at *;omega)|(simp_all;done)|(simp_all;omega)
   ·dsimp only;rw [e3,p3,g];simp only [gO,sq,gh];rw [hdd];(repeat' split)<;>first|omega|(simp only [not_true,not_false_iff,or_false,or_true,false_or,true_or] at *;omega)|(simp_all;done)|(simp_all;omega)
  rename_i k3
  rw [if_neg k3]
  split at e0
  ·rename_i hk;rw [if_pos hk]
   obtain ⟨e4,w,g⟩:=fW e0
   refine ⟨w,H.ag.shift e4 (by omega) fun j hj=>by rw [g];(repeat' split)<;>omega,H.due.same fun j hj=>by rw [g];(repeat' split)<;>omega,?_,?_,H.y0,H.y1⟩
   ·dsimp only;rw [g,hway];(repeat' split)<;>first|omega|(simp only [not_true,not_false_iff,or_false,or_true,false_or,true_or] at *;omega)|(simp_all;done)|(simp_all;omega)
   ·dsimp only;rw [g,hdd];(repeat' split)<;>first|omega|(simp only [not_true,not_false_iff,or_false,or_true,false_or,true_or] at *;omega)|(simp_all;done)|(simp_all;omega)
  rename_i k4
  rw [if_neg k4]
  split at e0
  ·rename_i hk;rw [if_pos hk]
   obtain ⟨e1,e2,e3⟩:=gq e0
   obtain ⟨_,p2,p3⟩:=kg e2
   refine ⟨H.bk,H.ag,H.due,?_,?_,by dsimp only;rw [e3,p3];exact H.y0.put _,H.y1⟩
   ·dsimp only;rw [e3,p3];simp only [gO,rB,gb];rw [hway];(repeat' split)<;>first|omega|(simp only [not_true,not_false_iff,or_false,or_true,false_or,true_or] at *;omega)|(simp_all;done)|(simp_all;omega)
   ·dsimp only;rw [e3,p3];simp only [gO,sq,gh];rw [hdd];(repeat' split)<;>first|omega|(simp only [not_true,not_false_iff,or_false,or_true,false_or,true_or] at *;omega)|(simp_all;done)|(simp_all;omega)
  rename_i k5
  rw [if_neg k5]
  split at e0
  ·rename_i hk;rw [if_pos hk]
   obtain ⟨e4,w,g⟩:=fW e0
   refine ⟨w,H.ag.shift e4 (by omega) fun j hj=>by rw [g];(repeat' split)<;>omega,H.due.same fun j hj=>by rw [g];(repeat' split)<;>omega,?_,?_,H.y0,H.y1⟩
   ·dsimp only;rw [g,hway];(repeat' split)<;>first|omega|(simp only [not_true,not_false_iff,or_false,or_true,false_or,true_or] at *;omega)|(simp_all;done)|(simp_all;omega)
   ·dsimp only;rw [g,hdd];(repeat' split)<;>first|omega|(simp only [not_true,not_false_iff,or_false,or_true,false_or,true_or] at *;omega)|(simp_all;done)|(simp_all;omega)
  ·omega
 exact ⟨hh,key.1,key.2.1,key.2.2.1,key.2.2.2.1,key.2.2.2.2.1,key.2.2.2.2.2.1,key.2.2.2.2.2.2⟩
theorem dJ.start {s:Setup} (h:(dZ s).err=0):dJ (dk s):=by
 refine ⟨er.start h,rfl,fun k c hc=>?_,fun k n hn=>?_,rfl,rfl,⟨Int.le_refl 0,Int.le_refl 0,fun p hp=>(by cases hp),fun p hp=>(by cases hp)⟩,⟨Int.le_refl 0,Int.le_refl 0,fun p hp=>(by cases hp),fun p hp=>(by cases hp)⟩⟩
 ·have hc:(s.cK.map nd)[k]?=some c:=hc
  rw [List.getElem?_map] at hc
  cases hp:s.cK[k]? with
  |none=>rw [hp] at hc;cases hc
  |some p=>rw [hp] at hc;injection hc with hc;subst hc;rfl
 ·have hn:(List.replicate s.eY.toNat (0:Int))[k]?=some n:=hn
  rw [List.getElem?_replicate] at hn
  split at hn
  ·obtain rfl:(0:Int)=n:=Option.some.inj hn
   rfl
  ·cases hn
theorem dJ.ky {b:Bk} (H:dJ b) (y:List (List Int)) (d:aV):dJ (cq b y d).1:=by
 have hh:=H.h.ky y d
 unfold cq at hh ⊢
 split
 ·exact H.load d
 rename_i k1
 rw [if_neg k1] at hh
 split
 ·exact H.asks d
 rename_i k2
 rw [if_neg k2] at hh
 split
 ·exact H.jG d
 rename_i k3
 rw [if_neg k3] at hh
 split
 ·exact H.cM d
 rename_i k4
 rw [if_neg k4] at hh
 split
 ·exact H.send d
 rename_i k5
 rw [if_neg k5] at hh
 split
 ·exact H.jH d
 rename_i k6
 rw [if_neg k6] at hh
 split
 ·rename_i k7
  rw [if_pos k7] at hh
  split
  ·exact H
  ·rename_i k8;rw [if_neg k8] at hh;exact ⟨hh,H.bk,H.ag,H.due,H.jz,H.jV,H.y0,H.y1⟩
 rename_i k7
 rw [if_neg k7] at hh
 split
 ·exact H.Bh
 rename_i k8
 rw [if_neg k8] at hh
 split
 ·rename_i k9;rw [if_pos k9] at hh;exact ⟨hh,H.bk,H.ag,H.due,H.jz,H.jV,H.y0,H.y1⟩
 split
 ·exact H.qV d
 ·exact H
theorem zb {s:Setup} {l:List aV} {b:Bk} {y:List (List Int)} {o:List Answer} {f:cV} (hr:fi s l=(b,y,o,f)) (hf:f.err=0):dJ b:=
 xV (I:=fun b _=>dJ b) hr hf dJ.start fun d _ b y h=>h.ky y d
theorem Dd {b:Bk} (h:b.w0=[]) (y:List (List Int)):cq b y ⟨0,6,0,0,0,0⟩=(b,y,⟨6,0⟩):=by
 have hL:bE b ⟨0,6,0,0,0,0⟩=(b,⟨6,0⟩):=by
  unfold bE
  rw [if_pos rfl]
  unfold ew
  rw [h]
  rfl
 unfold cq;rw [if_neg (by dsimp only;omega),if_neg (by dsimp only;omega),if_neg (by dsimp only;omega),if_neg (by dsimp only;omega),if_neg (by dsimp only;omega),if_pos (Or.inl rfl),hL]

theorem EY {b:Bk} {w:List bS} {t:aS} {n:Int} {s:bO} (h:b.w0=⟨t,n⟩::w) (hn:0<=n) (hb:eg b.s0 n=(s,0)) (y:List (List Int)):cq b y ⟨0,6,0,0,0,0⟩=({b with w0:=w,s0:=s},y,⟨0,0⟩):=by
 have hL:bE b ⟨0,6,0,0,0,0⟩=({b with w0:=w,s0:=s},⟨0,0⟩):=by
  unfold bE
  rw [if_pos rfl]
  unfold ew
  rw [h]
  dsimp only [List.getElem?_cons_zero]
  rw [if_neg (by omega),if_pos hn,hb,if_pos rfl]
  rfl
 unfold cq;rw [if_neg (by dsimp only;omega),if_neg (by dsimp only;omega),if_neg (by dsimp only;omega),if_neg (by dsimp only;omega),if_neg (by dsimp only;omega),if_pos (Or.inl rfl),hL]

theorem EX {b:Bk} {w:List bS} {t:aS} (h:b.w0=⟨t,-1⟩::w) (hn:t.number≠b.n0+1) (y:List (List Int)):cq b y ⟨0,6,0,0,0,0⟩=({b with w0:=w},y,⟨0,0⟩):=by
 have hT:fg b.n0 t=(b.n0,false):=by unfold fg;rw [if_pos (by omega)]
 have hL:bE b ⟨0,6,0,0,0,0⟩=({b with w0:=w},⟨0,0⟩):=by
  unfold bE
  rw [if_pos rfl]
  unfold ew
  rw [h]
  dsimp only [List.getElem?_cons_zero]
  rw [if_neg (by omega),if_neg (by omega),hT,if_neg (by simp)]
  rfl
 unfold cq;rw [if_neg (by dsimp only;omega),if_neg (by dsimp only;omega),if_neg (by dsimp only;omega),if_neg (by dsimp only;omega),if_neg (by dsimp only;omega),if_pos (Or.inl rfl),hL]

theorem Dc {b:Bk} {w:List bS} {t:aS} {due:List Int} {cs:List bD} {bk:List Entry} (h:b.w0=⟨t,-1⟩::w) (hn:t.number=b.n0+1) (h0:0<=b.n0/\b.n0 < 1000000) (hk:dv b.aj b.due b.ag b.book 0 t=(due,cs,bk,0)) (y:List (List Int)):cq b y ⟨0,6,0,0,0,0⟩=({b with w0:=w,n0:=b.n0+1,due:=due,ag:=cs,book:=bk},y,⟨0,0⟩):=by
 have hT:fg b.n0 t=(b.n0+1,true):=by unfold fg;rw [if_neg (by omega)]
 have hL:bE b ⟨0,6,0,0,0,0⟩=({b with w0:=w,n0:=b.n0+1,due:=due,ag:=cs,book:=bk},⟨0,0⟩):=by
  unfold bE
  rw [if_pos rfl]
  unfold ew
  rw [h]
  dsimp only [List.getElem?_cons_zero]
  rw [if_neg (by omega),if_neg (by omega),hT,if_pos rfl,hk]
  rfl
 unfold cq;rw [if_neg (by dsimp only;omega),if_neg (by dsimp only;omega),if_neg (by dsimp only;omega),if_neg (by dsimp only;omega),if_neg (by dsimp only;omega),if_pos (Or.inl rfl),hL]

theorem DA {b:Bk} (h:(gr b.w1 b.s0.kept b.n0).length<=60) (y:List (List Int)):cq b y ⟨0,5,0,0,0,0⟩=({b with w1:=gr b.w1 b.s0.kept b.n0},y,⟨0,0⟩):=by
 have hQ:gZ b.w1 b.s0.kept b.n0=(gr b.w1 b.s0.kept b.n0,⟨0,0⟩):=by unfold gZ;rw [if_neg (by omega)]
 have hL:dQ b.s0 b.s1 b.n0 b.n1 b.w0 b.w1 ⟨0,5,0,0,0,0⟩=(b.w0,gr b.w1 b.s0.kept b.n0,⟨0,0⟩):=by
  unfold dQ
  rw [if_pos rfl,hQ]
 unfold cq;rw [if_neg (by dsimp only;omega),if_neg (by dsimp only;omega),if_neg (by dsimp only;omega),if_neg (by dsimp only;omega),if_pos rfl,hL]

theorem Db {b:Bk} (h:b.w1=[]) (y:List (List Int)):cq b y ⟨0,6,1,0,0,0⟩=(b,y,⟨6,0⟩):=by
 have hL:bE b ⟨0,6,1,0,0,0⟩=(b,⟨6,0⟩):=by
  unfold bE
  rw [if_neg (by decide),if_pos rfl]
  unfold eu
  rw [h]
  rfl
 unfold cq;rw [if_neg (by dsimp only;omega),if_neg (by dsimp only;omega),if_neg (by dsimp only;omega),if_neg (by dsimp only;omega),if_neg (by dsimp only;omega),if_pos (Or.inl rfl),hL]

theorem EW {b:Bk} {w:List bS} {t:aS} {n:Int} {s:bO} (h:b.w1=⟨t,n⟩::w) (hn:0<=n) (hb:eg b.s1 n=(s,0)) (y:List (List Int)):cq b y ⟨0,6,1,0,0,0⟩=({b with w1:=w,s1:=s},y,⟨0,0⟩):=by
 have hL:bE b ⟨0,6,1,0,0,0⟩=({b with w1:=w,s1:=s},⟨0,0⟩):=by
  unfold bE
  rw [if_neg (by decide),if_pos rfl]
  unfold eu
  rw [h]
  dsimp only [List.getElem?_cons_zero]
  rw [if_neg (by omega),if_pos hn,hb,if_pos rfl]
  rfl
 unfold cq;rw [if_neg (by dsimp only;omega),if_neg (by dsimp only;omega),if_neg (by dsimp only;omega),if_neg (by dsimp only;omega),if_neg (by dsimp only;omega),if_pos (Or.inl rfl),hL]

theorem EV {b:Bk} {w:List bS} {t:aS} (h:b.w1=⟨t,-1⟩::w) (hn:t.number≠b.n1+1) (y:List (List Int)):cq b y ⟨0,6,1,0,0,0⟩=({b with w1:=w},y,⟨0,0⟩):=by
 have hT:fg b.n1 t=(b.n1,false):=by unfold fg;rw [if_pos (by omega)]
 have hL:bE b ⟨0,6,1,0,0,0⟩=({b with w1:=w},⟨0,0⟩):=by
  unfold bE
  rw [if_neg (by decide),if_pos rfl]
  unfold eu
  rw [h]
  dsimp only [List.getElem?_cons_zero]
  rw [if_neg (by omega),if_neg (by omega),hT,if_neg (by simp)]
  rfl
 unfold cq;rw [if_neg (by dsimp only;omega),if_neg (by dsimp only;omega),if_neg (by dsimp only;omega),if_neg (by dsimp only;omega),if_neg (by dsimp only;omega),if_pos (Or.inl rfl),hL]

theorem Da {b:Bk} {w:List bS} {t:aS} {due:List Int} {cs:List bD} {bk:List Entry} (h:b.w1=⟨t,-1⟩::w) (hn:t.number=b.n1+1) (h0:0<=b.n1/\b.n1 < 1000000) (hk:dv b.aj b.due b.ag b.book 0 t=(due,cs,bk,0)) (y:List (List Int)):cq b y ⟨0,6,1,0,0,0⟩=({b with w1:=w,n1:=b.n1+1,due:=due,ag:=cs,book:=bk},y,⟨0,0⟩):=by
 have hT:fg b.n1 t=(b.n1+1,true):=by unfold fg;rw [if_neg (by omega)]
 have hL:bE b ⟨0,6,1,0,0,0⟩=({b with w1:=w,n1:=b.n1+1,due:=due,ag:=cs,book:=bk},⟨0,0⟩):=by
  unfold bE
  rw [if_neg (by decide),if_pos rfl]
  unfold eu
  rw [h]
  dsimp only [List.getElem?_cons_zero]
  rw [if_neg (by omega),if_neg (by omega),hT,if_pos rfl,hk]
  rfl
 unfold cq;rw [if_neg (by dsimp only;omega),if_neg (by dsimp only;omega),if_neg (by dsimp only;omega),if_neg (by dsimp only;omega),if_neg (by dsimp only;omega),if_pos (Or.inl rfl),hL]

theorem Dy {b:Bk} (h:(gr b.w0 b.s1.kept b.n1).length<=60) (y:List (List Int)):cq b y ⟨0,5,1,0,0,0⟩=({b with w0:=gr b.w0 b.s1.kept b.n1},y,⟨0,0⟩):=by
 have hQ:gZ b.w0 b.s1.kept b.n1=(gr b.w0 b.s1.kept b.n1,⟨0,0⟩):=by unfold gZ;rw [if_neg (by omega)]
 have hL:dQ b.s0 b.s1 b.n0 b.n1 b.w0 b.w1 ⟨0,5,1,0,0,0⟩=(gr b.w0 b.s1.kept b.n1,b.w1,⟨0,0⟩):=by
  unfold dQ
  rw [if_neg (by decide),if_pos rfl,hQ]
 unfold cq;rw [if_neg (by dsimp only;omega),if_neg (by dsimp only;omega),if_neg (by dsimp only;omega),if_neg (by dsimp only;omega),if_pos rfl,hL]


def dX (n:Int) (k:Nat):List aV:=List.replicate k ⟨0,6,n,0,0,0⟩
def jc (t:aS):bS:=⟨t,-1⟩
def uq:List aS->Int->Prop
 |[],_=>True
 |t::l,n=>t.number=n+1/\uq l (n+1)
theorem ng (n:Int) (k:Nat):dX n (k+1)=⟨0,6,n,0,0,0⟩::dX n k:=rfl
theorem ma (n:Int) (a b:Nat):dX n (a+b)=dX n a++dX n b:=by
 unfold dX;rw [List.replicate_append_replicate]
theorem tY:∀ {l:List aS} {n:Int},uq l n->∀ t∈l,n < t.number/\t.number<=n+l.length
 |[],_,_,t,h=>by cases h
 |x::l,n,h,t,ht=>by
  rw [List.length_cons]
  rcases List.mem_cons.1 ht with rfl|ht
  ·have:=h.1;omega
  ·have:=tY h.2 t ht;omega
theorem uX {l:List aS} {n:Int} (h:∀ t∈l,t.number<=n):dj (came n) l=[]:=by
 unfold dj
 exact List.filter_eq_nil_iff.2 fun t ht=>by have:=h t ht;simp [came];omega
theorem zp {s:bO} {n:Int} (h:(cF s).err=0) (h0:0<=n) (h1:n<=s.bG):eg s n=(⟨s.bG,dj (came n) s.kept⟩,0):=by
 unfold eg;rw [if_neg (fun x=>x h),if_neg (by omega)]
def fx (c:Nat):List aV:=[⟨0,5,0,0,0,0⟩,⟨0,5,1,0,0,0⟩]++dX 0 c++dX 1 c
theorem wE (l:List aS) (n:Int):gr [] l n=l.map jc++[⟨⟨0,0,0,0⟩,n⟩]:=rfl
theorem Dz {b:Bk} (hw:b.w1=[]) (h:b.s0.kept.length<=40) (y:List (List Int)):cq b y ⟨0,5,0,0,0,0⟩=({b with w1:=b.s0.kept.map jc++[⟨⟨0,0,0,0⟩,b.n0⟩]},y,⟨0,0⟩):=by
 have:=DA (b:=b) (by rw [hw,wE];simp;omega) y
 rw [this,hw];rfl
theorem Dx {b:Bk} (hw:b.w0=[]) (h:b.s1.kept.length<=40) (y:List (List Int)):cq b y ⟨0,5,1,0,0,0⟩=({b with w0:=b.s1.kept.map jc++[⟨⟨0,0,0,0⟩,b.n1⟩]},y,⟨0,0⟩):=by
 have:=Dy (b:=b) (by rw [hw,wE];simp;omega) y
 rw [this,hw];rfl
structure gk (ag:List bD) (due:List Int) (m:Int):Prop where
 c:∀ c∈ag,0 - m<=c.bB/\c.bB<=m
 d:∀ n∈due,0 - m<=n/\n<=m
theorem gk.mono {ag:List bD} {due:List Int} {m n:Int} (H:gk ag due m) (h:m<=n):gk ag due n:=
 ⟨fun c hc=>by have:=H.c c hc;omega,fun c hc=>by have:=H.d c hc;omega⟩
theorem jf {ag:List bD} {m h x p:Int} {k e:Int} (H:∀ c∈ag,0 - m<=c.bB/\c.bB<=m) (h1:0 - p<=x) (h2:x<=p) (hz:(cE ag e k h x).2=0):∀ c∈(cE ag e k h x).1,0 - (m+p)<=c.bB/\c.bB<=m+p:=fun c hc=>by
 rcases (la hz).2 with ⟨_,h3⟩|⟨c0,h3,h4⟩
 ·rw [h3] at hc;have:=H c hc;omega
 ·rw [h4] at hc
  rcases fL hc with hc|rfl
  ·have:=H c hc;omega
  ·have:=H c0 (List.mem_of_getElem? h3);dsimp only;omega
theorem rZ {l:List Int} {k:Nat} {m:Int} (hm:0<=m) (H:∀ n∈l,0 - m<=n/\n<=m):0 - m<=l.getD k 0/\l.getD k 0<=m:=by
 rw [List.getD_eq_getElem?_getD]
 cases h:l[k]? with
 |none=>simp only [Option.getD_none];omega
 |some x=>exact H x (List.mem_of_getElem? h)
theorem qy {due:List Int} {m p v:Int} {k:Nat} (H:∀ n∈due,0 - m<=n/\n<=m) (hp:0<=p) (h1:0 - (m+p)<=v) (h2:v<=m+p):∀ n∈due.set k v,0 - (m+p)<=n/\n<=m+p:=fun n hn=>by
 rcases fL hn with hn|rfl
 ·have:=H n hn;omega
 ·exact ⟨h1,h2⟩
theorem DY {b:Bk} {m:Int} (H:gk b.ag b.due m) (d:aV):gk (ey b d).1.ag (ey b d).1.due (m+1000000):=by
 unfold ey
 split
 ·exact H.mono (by omega)
 split
 ·exact H.mono (by omega)
 ·unfold Dev.cQ;split
  ·rename_i h0
   exact ⟨jf H.c (by omega) (by omega) (fW h0).1,(H.mono (by omega)).d⟩
  ·exact H.mono (by omega)
theorem FT {b:Bk} {m:Int} (hm:0<=m) (H:gk b.ag b.due m) (d:aV):gk (eH b d).1.ag (eH b d).1.due (m+1000000):=by
 unfold eH
 split
 ·exact H.mono (by omega)
 split
 ·exact H.mono (by omega)
 ·unfold Dev.cQ;split
  ·exact ⟨(H.mono (by omega)).c,qy H.d (by omega) (by omega) (by omega)⟩
  ·exact H.mono (by omega)
theorem uV {time m:Int}:∀ (l:List bl) (i:Nat) (ag:List bD) (aj:List bl) (e:Int),(eL time l i ag aj e).2.2=0->(∀ c∈ag,0 - m<=c.bB/\c.bB<=m)->∀ c∈(eL time l i ag aj e).1,0 - m<=c.bB/\c.bB<=m
 |[],_,_,_,_,_,h=>h
 |a::l,i,ag,aj,e,hz,h=>by
  unfold eL at hz ⊢
  refine uV l _ _ _ _ hz fun c hc=>?_
  have:=jf (p:=0) h (by omega) (by omega) (lW l _ _ _ _ hz) c hc
  omega
theorem wL {b:Bk} {m:Int} (H:gk b.ag b.due m):gk (fj b).ag (fj b).due m:=by
 unfold fj
 split
 ·rename_i h0;exact ⟨uV _ _ _ _ _ h0 H.c,H.d⟩
 ·exact H
theorem DX {b:Bk} {m:Int} (H:gk b.ag b.due m) (d:aV):gk (ea b d).1.ag (ea b d).1.due m:=by
 unfold ea
 split
 ·exact H
 ·dsimp only
  split
  ·exact H
  ·exact wL (b:={b with time:=b.time+d.sum}) H
theorem za {ag:List bD} {m:Int} {k:Nat} {c c':bD} (H:∀ c∈ag,0 - m<=c.bB/\c.bB<=m) (hc:ag[k]?=some c) (h:c'.bB=c.bB):∀ x∈ag.set k c',0 - m<=x.bB/\x.bB<=m:=fun x hx=>by
 rcases fL hx with hx|rfl
 ·exact H x hx
 ·rw [h];exact H c (List.mem_of_getElem? hc)
theorem FU {b:Bk} {m:Int} (H:gk b.ag b.due m) (d:aV):gk (du b d).1.ag (du b d).1.due m:=by
 unfold du
 split
 ·exact H
 split
 ·(repeat' split)<;>exact H
 split
 ·exact H
 split
 ·exact H
 split
 ·exact H
 rename_i c hc
 split
 ·exact H
 rename_i c4
 have hf:=(rq (show dE c d.sum b.time=((dE c d.sum b.time).1,(dE c d.sum b.time).2) from rfl)).1 (by omega)
 exact ⟨za H.c hc hf.2.2.1,H.d⟩
theorem yw {m:Int}:∀ (l:List cg) (cs:List bD) (xs:List bl),(fe l cs xs).2.2=0->(∀ c∈cs,0 - m<=c.bB/\c.bB<=m)->∀ c∈(fe l cs xs).1,0 - m<=c.bB/\c.bB<=m
 |[],cs,xs,_,h=>h
 |x::l,cs,xs,hz,h=>by
  unfold fe at hz ⊢
  split at hz
  ·rename_i h1;exact absurd hz h1
  rename_i h1
  rw [if_neg h1]
  cases hc:cs[x.aO.toNat]? with
  |none=>exact h
  |some c=>
   rw [hc] at hz
   dsimp only at hz ⊢
   split at hz
   ·rename_i h2;exact absurd hz h2
   rename_i h2
   rw [if_neg h2]
   exact yw l _ _ hz (za h hc (by rw [(kr (show (eW c x.sum).2=0 by omega)).2.1]))
theorem GP {b:Bk} {m:Int} (H:gk b.ag b.due m):gk (gn b).1.ag (gn b).1.due m:=by
 unfold gn
 split
 ·exact H
 split
 ·exact H
 split
 ·exact H
 rename_i c1 c2 c3
 exact wL (b:={b with ag:=(fe (cC b.bx).2.1 b.ag b.aj).1,aj:=(fe (cC b.bx).2.1 b.ag b.aj).2.1,bx:=(cC b.bx).1,down:=false}) ⟨yw _ _ _ (by omega) H.c,H.d⟩
theorem Ad {b:Bk} {m:Int} (L:dJ b) (hm:0<=m) (hb:m<=1000000000) (H:gk b.ag b.due m) (d:aV):gk (cT b d).1.ag (cT b d).1.due (m+1000000):=by
 unfold cT
 split
 ·exact H.mono (by omega)
 split
 ·exact H.mono (by omega)
 split
 ·exact H.mono (by omega)
 rename_i cj ho
 split
 ·exact H.mono (by omega)
 rename_i c2
 split
 ·exact H.mono (by omega)
 have hmv:bX cj d.move d.sum=((bX cj d.move d.sum).1,0):=Prod.ext rfl (by dsimp only;omega)
 generalize (bX cj d.move d.sum).1=a at *
 obtain ⟨_,hwa,hcard,hshop,hk1,hk2,hn1,hn2⟩:=ik hmv
 unfold kx Dev.cQ
 split
 rotate_left
 ·exact H.mono (by omega)
 rename_i h0
 obtain ⟨e0,hl0,hnote⟩:=kj h0
 have hg:=rZ (k:=a.az.toNat) hm H.d
 dsimp only
 unfold dn at e0 ⊢
 split at e0
 ·rename_i hk;rw [if_pos hk];exact ⟨jf H.c (by omega) (by omega) e0,(H.mono (by omega)).d⟩
 rename_i k1
 rw [if_neg k1]
 split at e0
 ·rename_i hk;rw [if_pos hk]
  exact ⟨jf H.c (by omega) (by omega) (fW (gq e0).1).1,(H.mono (by omega)).d⟩
 rename_i k2
 rw [if_neg k2]
 split at e0
 ·rename_i hk;rw [if_pos hk]
  have hw:IntKind.i64.wrap (b.due.getD a.az.toNat 0 - d.sum)=b.due.getD a.az.toNat 0 - d.sum:=IntWalk.i64_in _ (by omega)
  exact ⟨(H.mono (by omega)).c,by dsimp only;rw [hw];exact qy H.d (by omega) (by omega) (by omega)⟩
 rename_i k3
 rw [if_neg k3]
 split at e0
 ·rename_i hk;rw [if_pos hk];exact ⟨jf H.c (by omega) (by omega) (fW e0).1,(H.mono (by omega)).d⟩
 rename_i k4
 rw [if_neg k4]
 split at e0
 ·rename_i hk;rw [if_pos hk];exact H.mono (by omega)
 rename_i k5
 rw [if_neg k5]
 split at e0
 ·rename_i hk;rw [if_pos hk];exact ⟨jf H.c (by omega) (by omega) (fW e0).1,(H.mono (by omega)).d⟩
 rename_i k6
 rw [if_neg k6];exact H.mono (by omega)
theorem wK {b:Bk} {m:Int} (hm:0<=m) (hb:m<=1000000000) (H:gk b.ag b.due m) {t:aS} (hs:1<=t.sum/\t.sum<=1000000) (hz:(dv b.aj b.due b.ag b.book 0 t).2.2.2=0):gk (dv b.aj b.due b.ag b.book 0 t).2.1 (dv b.aj b.due b.ag b.book 0 t).1 (m+1000000):=by
 unfold dv at hz ⊢
 cases hg:b.aj[t.ba.toNat]? with
 |none=>exact H.mono (by omega)
 |some a=>
  rw [hg] at hz
  have hv:=rZ (k:=a.az.toNat) hm H.d
  dsimp only at hz ⊢
  split at hz
  ·rename_i k1
   rw [if_pos k1]
   have hw:IntKind.i64.wrap (b.due.getD a.az.toNat 0+t.sum)=b.due.getD a.az.toNat 0+t.sum:=IntWalk.i64_in _ (by omega)
   exact ⟨(H.mono (by omega)).c,by dsimp only;rw [hw];exact qy H.d (by omega) (by omega) (by omega)⟩
  rename_i k1
  rw [if_neg k1]
  split at hz
  ·rename_i k2
   rw [if_pos k2]
   exact ⟨jf H.c (by omega) (by omega) (fW hz).1,(H.mono (by omega)).d⟩
  rename_i k2
  rw [if_neg k2]
  split at hz
  ·rename_i k3
   rw [if_pos k3]
   have hw:IntKind.i64.wrap (b.due.getD a.az.toNat 0 - t.sum)=b.due.getD a.az.toNat 0 - t.sum:=IntWalk.i64_in _ (by omega)
   exact ⟨(H.mono (by omega)).c,by dsimp only;rw [hw];exact qy H.d (by omega) (by omega) (by omega)⟩
  ·rename_i k3
   rw [if_neg k3];exact H.mono (by omega)
theorem dJ.zD {b:Bk} (H:dJ b) {p:bS} (hp:b.w0[0]?=some p) (hs:¬p.seen>=0) (ht:p.bY.number=b.n0+1):p.bY∈b.s1.kept:=by
 have hlo:=H.y1.lo
 exact (H.y1.pk p (List.mem_of_getElem? hp) (by omega)).2 (by omega)
theorem dJ.zC {b:Bk} (H:dJ b) {p:bS} (hp:b.w1[0]?=some p) (hs:¬p.seen>=0) (ht:p.bY.number=b.n1+1):p.bY∈b.s0.kept:=by
 have hlo:=H.y0.lo
 exact (H.y0.pk p (List.mem_of_getElem? hp) (by omega)).2 (by omega)
theorem iR {s:bO} (h:(cF s).err=0) {t:aS} (ht:t∈s.kept):1<=t.kind/\t.kind<=3/\0<=t.ba/\t.ba<=29/\1<=t.sum/\t.sum<=1000000:=by
 obtain ⟨i,hi⟩:=List.getElem?_of_mem ht
 have hr:=(ia h).2.2.2 i _ hi
 exact ⟨hr.1,hr.2.1,hr.2.2.1,hr.2.2.2.1,hr.2.2.2.2.1,hr.2.2.2.2.2.1⟩
theorem Ae {b:Bk} {m:Int} (L:dJ b) (hm:0<=m) (hb:m<=1000000000) (H:gk b.ag b.due m) (d:aV):gk (bE b d).1.ag (bE b d).1.due (m+1000000):=by
 unfold bE
 split
 ·unfold ew
  split
  ·exact H.mono (by omega)
  rename_i p hp
  split
  ·exact H.mono (by omega)
  split
  ·split<;>exact H.mono (by omega)
  rename_i c2
  split
  ·rename_i c3
   rcases iP b.n0 p.bY with ⟨_,t2,_⟩|⟨t1,_⟩
   ·unfold Dev.cQ
    split
    ·rename_i h0
     have hk:=iR L.h.s1 (L.zD hp c2 t2)
     exact wK hm hb H hk.2.2.2.2 h0
    ·exact H.mono (by omega)
   ·rw [t1] at c3;cases c3
  ·exact H.mono (by omega)
 split
 ·unfold eu
  split
  ·exact H.mono (by omega)
  rename_i p hp
  split
  ·exact H.mono (by omega)
  split
  ·split<;>exact H.mono (by omega)
  rename_i c2
  split
  ·rename_i c3
   rcases iP b.n1 p.bY with ⟨_,t2,_⟩|⟨t1,_⟩
   ·unfold Dev.cQ
    split
    ·rename_i h0
     have hk:=iR L.h.s0 (L.zC hp c2 t2)
     exact wK hm hb H hk.2.2.2.2 h0
    ·exact H.mono (by omega)
   ·rw [t1] at c3;cases c3
  ·exact H.mono (by omega)
 ·exact H.mono (by omega)
theorem pO {b:Bk} {m:Int} (L:dJ b) (hm:0<=m) (hb:m<=1000000000) (H:gk b.ag b.due m) (y:List (List Int)) (d:aV):gk (cq b y d).1.ag (cq b y d).1.due (m+1000000):=by
 unfold cq
 split
 ·exact DY H d
 split
 ·exact (FU H d).mono (by omega)
 split
 ·exact Ad L hm hb H d
 split
 ·exact (DX H d).mono (by omega)
 split
 ·exact H.mono (by omega)
 split
 ·exact Ae L hm hb H d
 split
 ·split<;>exact H.mono (by omega)
 split
 ·exact (GP H).mono (by omega)
 split
 ·exact H.mono (by omega)
 split
 ·exact FT hm H d
 ·exact H.mono (by omega)
theorem oL {b c:Bk} {e:Int} (h:(cQ b c e).2.err≠0):(cQ b c e).1=b:=by
 unfold cQ at *
 split
 ·rename_i he;rw [if_pos he] at h;exact absurd rfl h
 ·rfl
theorem DZ {b:Bk} {d:aV} (h:(ey b d).2.err≠0):(ey b d).1=b:=by
 unfold ey at *
 split
 ·rfl
 ·rename_i h1;rw [if_neg h1] at h
  split
  ·rfl
  ·rename_i h2;rw [if_neg h2] at h;exact oL h
theorem FN {b:Bk} {d:aV} (h:(eH b d).2.err≠0):(eH b d).1=b:=by
 unfold eH at *
 split
 ·rfl
 ·rename_i h1;rw [if_neg h1] at h
  split
  ·rfl
  ·rename_i h2;rw [if_neg h2] at h;exact oL h
theorem Ds {b:Bk} {d:aV} (h:(ea b d).2.err≠0):(ea b d).1=b:=by
 unfold ea at *
 split
 ·rfl
 ·rename_i h1;rw [if_neg h1] at h;exact absurd rfl h
theorem Gq {b:Bk} {d:aV} (h:(du b d).2.err≠0):(du b d).1=b:=by
 revert h
 unfold du
 (repeat' split)<;>intro h<;>first|rfl|exact absurd rfl h
theorem AN {b:Bk} {d:aV} (h:(cT b d).2.err≠0):(cT b d).1=b:=by
 revert h
 unfold cT
 (repeat' split)<;>intro h<;>first|rfl|exact oL h
theorem Gv {b:Bk} (h:(gn b).2.err≠0):(gn b).1=b:=by
 revert h
 unfold gn
 (repeat' split)<;>intro h<;>first|rfl|exact absurd rfl h
theorem AS {b:Bk} {d:aV} (h:(bE b d).2.err≠0):(bE b d).1=b:=by
 revert h
 unfold bE ew eu
 (repeat' split)<;>intro h<;>first|rfl|exact absurd rfl h|exact oL h
theorem Dw {b:Bk} {d:aV} (h:(dQ b.s0 b.s1 b.n0 b.n1 b.w0 b.w1 d).2.2.err≠0):(dQ b.s0 b.s1 b.n0 b.n1 b.w0 b.w1 d).1=b.w0/\(dQ b.s0 b.s1 b.n0 b.n1 b.w0 b.w1 d).2.1=b.w1:=by
 revert h
 unfold dQ gZ
 (repeat' split)<;>intro h<;>first|exact ⟨rfl,rfl⟩|exact absurd rfl h
theorem DR {t:List au} {y:List (List Int)} (h:(fS t y).2.2.err≠0):(fS t y).1=t/\(fS t y).2.1=y:=by
 revert h
 unfold fS
 split<;>intro h
 ·exact ⟨rfl,rfl⟩
 ·exact absurd rfl h
theorem HH {b:Bk} {y:List (List Int)} {d:aV} (h:(cq b y d).2.2.err≠0):(cq b y d).1=b/\(cq b y d).2.1=y:=by
 revert h
 unfold cq
 split
 ·exact fun h=>⟨DZ h,rfl⟩
 split
 ·exact fun h=>⟨Gq h,rfl⟩
 split
 ·exact fun h=>⟨AN h,rfl⟩
 split
 ·exact fun h=>⟨Ds h,rfl⟩
 split
 ·intro h
  obtain ⟨h1,h2⟩:=Dw h
  refine ⟨?_,rfl⟩
  dsimp only
  rw [h1,h2]
 split
 ·exact fun h=>⟨AS h,rfl⟩
 split
 ·split
  ·exact fun _=>⟨rfl,rfl⟩
  ·exact fun h=>absurd rfl h
 split
 ·exact fun h=>⟨Gv h,rfl⟩
 split
 ·intro h
  obtain ⟨h1,h2⟩:=DR h
  refine ⟨?_,h2⟩
  dsimp only
  rw [h1]
 split
 ·exact fun h=>⟨FN h,rfl⟩
 ·exact fun _=>⟨rfl,rfl⟩
theorem pK:∀ (l:List aV) (b:Bk) (y:List (List Int)) (told:List (Int×Answer)) (cl:Nat) (out:List Answer),(iX l b y told cl out).2.2.length=out.length+l.length
 |[],_,_,_,_,_=>rfl
 |d::l,b,y,told,cl,out=>by
  unfold iX
  rw [pK l];simp;omega
def dc:List aV->Bk->List (List Int)->List (Int×Answer)->Nat->List Answer->Bk×List (List Int)×List (Int×Answer)×Nat×List Answer
 |[],b,y,told,cl,out=>(b,y,told,cl,out)
 |d::l,b,y,told,cl,out=>dc l (da b y told cl d).1 (da b y told cl d).2.1 (da b y told cl d).2.2.1 (da b y told cl d).2.2.2.1 (out++[(da b y told cl d).2.2.2.2])
theorem qx:∀ (l:List aV) (b:Bk) (y:List (List Int)) (told:List (Int×Answer)) (cl:Nat) (out:List Answer),iX l b y told cl out=((dc l b y told cl out).1,(dc l b y told cl out).2.1,(dc l b y told cl out).2.2.2.2)
 |[],_,_,_,_,_=>rfl
 |d::l,b,y,told,cl,out=>by
  unfold iX dc
  exact qx l _ _ _ _ _
theorem mR:∀ (l m:List aV) (b:Bk) (y:List (List Int)) (told:List (Int×Answer)) (cl:Nat) (out:List Answer),dc (l++m) b y told cl out=dc m (dc l b y told cl out).1 (dc l b y told cl out).2.1 (dc l b y told cl out).2.2.1 (dc l b y told cl out).2.2.2.1 (dc l b y told cl out).2.2.2.2
 |[],_,_,_,_,_,_=>rfl
 |d::l,m,b,y,told,cl,out=>by
  simp only [List.cons_append,dc]
  exact mR l m _ _ _ _ _
theorem rP {s:Setup} {l:List aV} {b:Bk} {y:List (List Int)} {o:List Answer} {f:cV} (hr:fi s l=(b,y,o,f)) (hf:f.err=0):o.length=l.length/\l.length<=150:=by
 unfold fi at hr
 by_cases hw:(dZ s).err≠0
 ·rw [if_pos hw] at hr
  simp only [Prod.mk.injEq] at hr
  rw [<-hr.2.2.2] at hf;exact absurd hf hw
 ·rw [if_neg hw] at hr
  by_cases hl:l.length > 150
  ·rw [if_pos hl] at hr
   simp only [Prod.mk.injEq] at hr
   rw [<-hr.2.2.2] at hf;cases hf
  ·rw [if_neg hl] at hr
   simp only [Prod.mk.injEq] at hr
   exact ⟨by rw [<-hr.2.2.1,pK];simp,by omega⟩
theorem vU {n:Int}:∀ {l:List aS},(∀ t∈l,1<=t.sum/\t.sum<=1000000)->(0<=gb n l/\gb n l<=1000000 * l.length)/\(0<=gh n l/\gh n l<=1000000 * l.length)
 |[],_=>by simp [gb,gh]
 |t::l,h=>by
  obtain ⟨h1,h2⟩:=vU (n:=n) (l:=l) fun x hx=>h x (List.mem_cons_of_mem _ hx)
  have:=h t List.mem_cons_self
  simp only [gb,gh,List.length_cons]
  refine ⟨?_,?_⟩<;>split<;>omega
theorem zj:∀ {l:List bl},(∀ a∈l,bL a=0)->0<=fc l/\fc l<=1000000 * l.length
 |[],_=>by simp [fc]
 |a::l,h=>by
  have:=zj (l:=l) fun x hx=>h x (List.mem_cons_of_mem _ hx)
  have:=eE (h a List.mem_cons_self)
  simp only [fc,List.length_cons];omega
theorem pN {l:List Entry} {src dst n:Int} (hw:(eF l).err=0) (hn:0<=n/\n<=1000000) (h1:0<=src/\src<=57) (h2:0<=dst/\dst<=57) (hne:¬src=dst) (g1:-999999000000<=cZ l src) (g2:cZ l dst<=999999000000):(dL l 0 src dst n).2=0:=by
 obtain ⟨hR,_⟩:=jY.1 hw
 have hb1:=oG (a:=src) fun z hz=>by have:=hR.ok z hz;exact ⟨this.2.2.1,this.2.2.2.1⟩
 have hb2:=oG (a:=dst) fun z hz=>by have:=hR.ok z hz;exact ⟨this.2.2.1,this.2.2.2.1⟩
 have hp:(iK l src dst n).2=0:=by
  unfold iK
  rw [if_neg (by omega)]
  unfold gy
  rw [if_neg (by omega),if_neg (by simp),if_neg ?_,if_neg (by simp [eO];omega)]
  ·have e2:fJ l [⟨src,0 - n⟩,⟨dst,n⟩]=some (hP (hP l src (cZ l src+(0 - n))) dst (cZ (hP l src (cZ l src+(0 - n))) dst+n)):=by
    unfold fJ
    rw [if_pos (mZ.2 (by dsimp only;omega))]
    unfold fJ
    rw [if_pos (mZ.2 (by dsimp only;rw [rX hR.up,if_neg hne];omega))]
    rfl
   rw [e2]
  ·rintro ⟨x,hx,hbad⟩
   simp only [List.mem_cons,List.not_mem_nil,or_false] at hx
   unfold fC at hbad
   rcases hx with rfl|rfl<;>dsimp only at hbad<;>omega
 unfold dL dN
 rw [if_pos rfl,if_pos hp]
theorem zM {l:List bD} {k x m:Int} {c:bD} (hr:∀ c∈l,cH c=0) (hc:l[k.toNat]?=some c) (hx:0<=x/\x<=1000000) (hm:c.bB<=m/\m<=1000000000):(cE l 0 k 0 x).2=0:=by
 have hw:=hr c (List.mem_of_getElem? hc)
 have hq:=iy hw
 have hn:cH ⟨c.bB+x,c.held+0,c.cv,c.de⟩=0:=by
  unfold cH
  rw [if_neg (by dsimp only;omega),if_neg (by dsimp only;omega)]
  exact hq.2.2.2.2.2
 rw [pz hc]
 have:(eo c 0 x).2=0:=by
  unfold eo
  rw [if_neg (by omega),if_neg (by omega),if_neg (by rw [hn];decide)]
 unfold dN
 rw [if_pos rfl,if_pos this]
theorem vX {b:Bk} {m:Int} (H:dJ b) (M:gk b.ag b.due m) (hm:0<=m) (hb:m<=1000000000) {t:aS} (hk:1<=t.kind/\t.kind<=3) (hs:1<=t.sum/\t.sum<=1000000) (ha:0<=t.ba/\t.ba < b.aj.length):(dv b.aj b.due b.ag b.book 0 t).2.2.2=0:=by
 obtain ⟨a,hg⟩:∃ a,b.aj[t.ba.toNat]?=some a:=⟨_,List.getElem?_eq_getElem (by omega)⟩
 have hp:=H.h.ok.perm a (List.mem_of_getElem? hg)
 have hc:=H.h.ok.ag;have hd:=H.h.ok.due
 have hv:=mj (l:=b.due) (k:=a.az) (by omega) (by omega)
 have hbv:=H.due a.az.toNat _ hv
 rw [show (50+(a.az.toNat:Int))=50+a.az by omega] at hbv
 have hmv:=M.d _ (List.mem_of_getElem? hv)
 have w0:=vU (n:=b.n1) fun t ht=>(iR H.h.s0 (t:=t) ht).2.2.2.2
 have w1:=vU (n:=b.n0) fun t ht=>(iR H.h.s1 (t:=t) ht).2.2.2.2
 have l0:=H.h.ok.l0;have l1:=H.h.ok.l1
 have dl:=zj fun a ha=>(H.h.ok.perm a ha).1
 have al:=H.h.ok.aj
 have hW:=H.jz;have hD:=H.jV
 have bk:=H.bk
 obtain ⟨c,hcc⟩:∃ c,b.ag[a.aO.toNat]?=some c:=⟨_,List.getElem?_eq_getElem (by omega)⟩
 have hcm:=M.c _ (List.mem_of_getElem? hcc)
 have hce:=H.ag a.aO.toNat c hcc
 rw [show (10+(a.aO.toNat:Int))=10+a.aO by omega] at hce
 unfold dv
 rw [hg]
 dsimp only
 by_cases k1:t.kind=1
 ·rw [if_pos k1];show (dL b.book 0 1 (50+a.az) t.sum).2=0
  exact pN bk (by omega) (by omega) (by omega) (by omega) (by omega) (by omega)
 rw [if_neg k1]
 by_cases k2:t.kind=2
 ·rw [if_pos k2]
  dsimp only
  rw [zM (l:=b.ag) (k:=a.aO) (x:=t.sum) (m:=m) H.h.ok.right hcc (by omega) ⟨hcm.2,hb⟩];show (dL b.book 0 1 (10+a.aO) t.sum).2=0
  exact pN bk (by omega) (by omega) (by omega) (by omega) (by omega) (by omega)
 rw [if_neg k2,if_pos (by omega)];show (dL b.book 0 (50+a.az) 2 t.sum).2=0
 exact pN bk (by omega) (by omega) (by omega) (by omega) (by omega) (by omega)
def zB:List aV->Bk->Bk
 |[],b=>b
 |d::l,b=>zB l (cq b [] d).1
theorem jW:∀ (l m:List aV) (b:Bk),zB (l++m) b=zB m (zB l b)
 |[],_,_=>rfl
 |d::l,m,b=>jW l m _
theorem FO (t:List au) (y z:List (List Int)):(fS t y).1=(fS t z).1:=by
 unfold fS;split<;>rfl
theorem IW (b:Bk) (y z:List (List Int)) (d:aV):(cq b y d).1=(cq b z d).1:=by
 unfold cq
 simp only [apply_ite Prod.fst,FO b.aQ y z]
theorem yL:∀ {l:List aV},(∀ d∈l,d.id=0)->∀ (b:Bk) (y:List (List Int)) (told:List (Int×Answer)) (cl:Nat) (out:List Answer),(dc l b y told cl out).1=zB l b
 |[],_,_,_,_,_,_=>rfl
 |d::l,h,b,y,told,cl,out=>by
  have h0:(da b y told cl d).1=(cq b [] d).1:=by
   unfold da;rw [if_neg (fun h'=>h'.2 (h d List.mem_cons_self))];exact IW _ _ _ _
  unfold dc zB
  rw [yL (fun x hx=>h x (List.mem_cons_of_mem _ hx)),h0]
theorem td:∀ (l:List aV) {b:Bk},dJ b->dJ (zB l b)
 |[],_,h=>h
 |d::l,_,h=>td l (h.ky [] d)
theorem Ac:∀ (l:List aV) {b:Bk} {m:Int},dJ b->0<=m->m+1000000 * l.length<=1000000000->gk b.ag b.due m->gk (zB l b).ag (zB l b).due (m+1000000 * l.length)
 |[],_,_,_,_,_,h=>h.mono (by simp)
 |d::l,b,m,hL,hm,hb,h=>by
  rw [List.length_cons] at hb
  exact (Ac l (hL.ky [] d) (m:=m+1000000) (by omega) (by omega) (pO hL hm (by omega) h [] d)).mono (by rw [List.length_cons];omega)
theorem Ir (b:Bk):(cq b [] ⟨0,7,0,0,0,0⟩).1={b with w0:=b.w0.drop 1}:=by
 have hL:(bE b ⟨0,7,0,0,0,0⟩).1={b with w0:=b.w0.drop 1}:=by
  unfold bE
  rw [if_pos rfl]
  unfold ew
  cases h:b.w0 with
  |nil=>cases b;simp_all
  |cons p w=>rfl
 unfold cq;rw [if_neg (by dsimp only;omega),if_neg (by dsimp only;omega),if_neg (by dsimp only;omega),if_neg (by dsimp only;omega),if_neg (by dsimp only;omega),if_pos (Or.inr rfl)];exact hL
theorem Iq (b:Bk):(cq b [] ⟨0,7,1,0,0,0⟩).1={b with w1:=b.w1.drop 1}:=by
 have hL:(bE b ⟨0,7,1,0,0,0⟩).1={b with w1:=b.w1.drop 1}:=by
  unfold bE
  rw [if_neg (by decide),if_pos rfl]
  unfold eu
  cases h:b.w1 with
  |nil=>cases b;simp_all
  |cons p w=>rfl
 unfold cq;rw [if_neg (by dsimp only;omega),if_neg (by dsimp only;omega),if_neg (by dsimp only;omega),if_neg (by dsimp only;omega),if_neg (by dsimp only;omega),if_pos (Or.inr rfl)];exact hL
theorem Cb:∀ (n:Nat) (b:Bk),zB (List.replicate n ⟨0,7,0,0,0,0⟩) b={b with w0:=b.w0.drop n}
 |0,b=>rfl
 |n+1,b=>by
  rw [List.replicate_succ];unfold zB;rw [Ir,Cb n]
  dsimp only;rw [List.drop_drop,Nat.add_comm 1 n]
theorem Ca:∀ (n:Nat) (b:Bk),zB (List.replicate n ⟨0,7,1,0,0,0⟩) b={b with w1:=b.w1.drop n}
 |0,b=>rfl
 |n+1,b=>by
  rw [List.replicate_succ];unfold zB;rw [Iq,Ca n]
  dsimp only;rw [List.drop_drop,Nat.add_comm 1 n]
theorem yP:∀ {l:List aS} {a:Int},(∀ (i:Nat) (t:aS),l[i]?=some t->t.number=a+1+i)->uq l a
 |[],_,_=>trivial
 |t::l,a,h=>⟨by have:=h 0 t rfl;omega,yP fun i x hx=>by have:=h (i+1) x hx;omega⟩
theorem mT {s:bO} (h:(cF s).err=0):uq s.kept (s.bG - s.kept.length):=
 yP fun i t ht=>((ia h).2.2.2 i t ht).2.2.2.2.2.2
theorem su:∀ (l:List aS) {b:Bk} {w:List bS} {a m:Int},dJ b->gk b.ag b.due m->0<=m->m+1000000 * l.length<=1000000000->b.w0=l.map jc++w->uq l a->a<=b.n0->b.n0<=a+l.length->
  (zB (dX 0 l.length) b).w0=w/\(zB (dX 0 l.length) b).w1=b.w1/\(zB (dX 0 l.length) b).s0=b.s0/\(zB (dX 0 l.length) b).s1=b.s1/\(zB (dX 0 l.length) b).n1=b.n1/\(zB (dX 0 l.length) b).n0=a+l.length
 |[],b,w,a,m,_,_,_,_,hw,_,h1,h2=>by
  refine ⟨hw,rfl,rfl,rfl,rfl,?_⟩
  show b.n0=_
  rw [List.length_nil] at h2 ⊢;omega
 |t::l,b,w,a,m,H,M,hm,hb,hw,hN,h1,h2=>by
  rw [List.length_cons] at hb h2 ⊢
  obtain ⟨hn,hN⟩:=hN
  have hL:=H.ky [] ⟨0,6,0,0,0,0⟩
  have hM:=pO H hm (by omega) M [] ⟨0,6,0,0,0,0⟩
  have h0:=H.h.ok.n0
  rw [ng];unfold zB
  by_cases c:t.number=b.n0+1
  ·have hp:b.w0[0]?=some (jc t):=by rw [hw];rfl
   have bI:=H.zD hp (by simp [jc]) c
   have hk:=iR H.h.s1 bI
   have hpk:=(H.y1.pk _ (List.mem_of_getElem? hp) (by simp [jc])).1
   have hsent:=(ia H.h.s1).2.2.1
   have hz:=vX H M hm (by omega) ⟨hk.1,hk.2.1⟩ hk.2.2.2.2 (H.h.ok.k1 _ bI).2
   have e:=Dc (t:=t) (w:=l.map jc++w) hw c ⟨h0,by have:(jc t).bY.number=t.number:=rfl;omega⟩ (show dv b.aj b.due b.ag b.book 0 t=(_,_,_,0) from Prod.ext rfl (Prod.ext rfl (Prod.ext rfl hz))) []
   rw [e] at hL hM ⊢
   have ih:=su l hL hM (w:=w) (a:=a+1) (by omega) (by omega) rfl (by have:t.number=a+1:=hn;exact hN) (by dsimp only;omega) (by dsimp only;omega)
   refine ⟨ih.1,ih.2.1,ih.2.2.1,ih.2.2.2.1,ih.2.2.2.2.1,ih.2.2.2.2.2.trans (by omega)⟩
  ·have e:=EX (t:=t) (w:=l.map jc++w) hw c []
   rw [e] at hL hM ⊢
   have ih:=su l hL hM (w:=w) (a:=a+1) (by omega) (by omega) rfl hN (by dsimp only;omega) (by dsimp only;omega)
   refine ⟨ih.1,ih.2.1,ih.2.2.1,ih.2.2.2.1,ih.2.2.2.2.1,ih.2.2.2.2.2.trans (by omega)⟩
theorem ss:∀ (l:List aS) {b:Bk} {w:List bS} {a m:Int},dJ b->gk b.ag b.due m->0<=m->m+1000000 * l.length<=1000000000->b.w1=l.map jc++w->uq l a->a<=b.n1->b.n1<=a+l.length->
  (zB (dX 1 l.length) b).w1=w/\(zB (dX 1 l.length) b).w0=b.w0/\(zB (dX 1 l.length) b).s0=b.s0/\(zB (dX 1 l.length) b).s1=b.s1/\(zB (dX 1 l.length) b).n0=b.n0/\(zB (dX 1 l.length) b).n1=a+l.length
 |[],b,w,a,m,_,_,_,_,hw,_,h1,h2=>by
  refine ⟨hw,rfl,rfl,rfl,rfl,?_⟩
  show b.n1=_
  rw [List.length_nil] at h2 ⊢;omega
 |t::l,b,w,a,m,H,M,hm,hb,hw,hN,h1,h2=>by
  rw [List.length_cons] at hb h2 ⊢
  obtain ⟨hn,hN⟩:=hN
  have hL:=H.ky [] ⟨0,6,1,0,0,0⟩
  have hM:=pO H hm (by omega) M [] ⟨0,6,1,0,0,0⟩
  have h0:=H.h.ok.n1
  rw [ng];unfold zB
  by_cases c:t.number=b.n1+1
  ·have hp:b.w1[0]?=some (jc t):=by rw [hw];rfl
   have bI:=H.zC hp (by simp [jc]) c
   have hk:=iR H.h.s0 bI
   have hpk:=(H.y0.pk _ (List.mem_of_getElem? hp) (by simp [jc])).1
   have hsent:=(ia H.h.s0).2.2.1
   have hz:=vX H M hm (by omega) ⟨hk.1,hk.2.1⟩ hk.2.2.2.2 (H.h.ok.k0 _ bI).2
   have e:=Da (t:=t) (w:=l.map jc++w) hw c ⟨h0,by have:(jc t).bY.number=t.number:=rfl;omega⟩ (show dv b.aj b.due b.ag b.book 0 t=(_,_,_,0) from Prod.ext rfl (Prod.ext rfl (Prod.ext rfl hz))) []
   rw [e] at hL hM ⊢
   have ih:=ss l hL hM (w:=w) (a:=a+1) (by omega) (by omega) rfl hN (by dsimp only;omega) (by dsimp only;omega)
   refine ⟨ih.1,ih.2.1,ih.2.2.1,ih.2.2.2.1,ih.2.2.2.2.1,ih.2.2.2.2.2.trans (by omega)⟩
  ·have e:=EV (t:=t) (w:=l.map jc++w) hw c []
   rw [e] at hL hM ⊢
   have ih:=ss l hL hM (w:=w) (a:=a+1) (by omega) (by omega) rfl hN (by dsimp only;omega) (by dsimp only;omega)
   refine ⟨ih.1,ih.2.1,ih.2.2.1,ih.2.2.2.1,ih.2.2.2.2.1,ih.2.2.2.2.2.trans (by omega)⟩
theorem BR:∀ (k:Nat) {b:Bk},b.w0=[]->zB (dX 0 k) b=b
 |0,_,_=>rfl
 |k+1,b,h=>by rw [ng];unfold zB;rw [Dd h];exact BR k h
theorem BQ:∀ (k:Nat) {b:Bk},b.w1=[]->zB (dX 1 k) b=b
 |0,_,_=>rfl
 |k+1,b,h=>by rw [ng];unfold zB;rw [Db h];exact BQ k h
theorem xK (n:Int) (k:Nat):(dX n k).length=k:=by simp [dX]
theorem yD {b:Bk} {m:Int} (H:dJ b) (M:gk b.ag b.due m) (hm:0<=m) (hb:m<=800000000) (hw0:b.w0=[]) (hw1:b.w1=[]) (hl0:b.s0.kept.length<=12) (hl1:b.s1.kept.length<=12):
  (zB (fx 14) b).w0=[]/\(zB (fx 14) b).w1=[]/\(zB (fx 14) b).n0=b.s1.bG/\(zB (fx 14) b).n1=b.s0.bG/\(zB (fx 14) b).s0=⟨b.s0.bG,dj (came b.n1) b.s0.kept⟩/\(zB (fx 14) b).s1=⟨b.s1.bG,dj (came b.n0) b.s1.kept⟩:=by
 obtain ⟨q0,hq0⟩:∃ q,14=b.s0.kept.length+(1+q):=⟨14 - (b.s0.kept.length+1),by omega⟩
 obtain ⟨q1,hq1⟩:∃ q,14=b.s1.kept.length+(1+q):=⟨14 - (b.s1.kept.length+1),by omega⟩
 have hsplit:fx 14=⟨0,5,0,0,0,0⟩::⟨0,5,1,0,0,0⟩::(dX 0 b.s1.kept.length++(dX 0 1++(dX 0 q1++(dX 1 b.s0.kept.length++(dX 1 1++dX 1 q0))))):=by
  have e0:dX 0 14=dX 0 b.s1.kept.length++(dX 0 1++dX 0 q1):=by rw [hq1,ma,ma]
  have e1:dX 1 14=dX 1 b.s0.kept.length++(dX 1 1++dX 1 q0):=by rw [hq0,ma,ma]
  unfold fx
  rw [e0,e1];simp only [List.append_assoc,List.cons_append,List.nil_append]
 have s0:=Dz hw1 (by omega) []
 have s1:=Dx (b:={b with w1:=b.s0.kept.map jc++[⟨⟨0,0,0,0⟩,b.n0⟩]}) hw0 (by dsimp only;omega) []
 have L1:=H.ky [] ⟨0,5,0,0,0,0⟩
 rw [s0] at L1
 have L2:=L1.ky [] ⟨0,5,1,0,0,0⟩
 rw [s1] at L2
 rw [hsplit]
 unfold zB;rw [s0]
 unfold zB;rw [s1]
 dsimp only
 generalize hb2:({b with w1:=b.s0.kept.map jc++[⟨⟨0,0,0,0⟩,b.n0⟩],w0:=b.s1.kept.map jc++[⟨⟨0,0,0,0⟩,b.n1⟩]}:Bk)=b2
 have g0:b2.s0=b.s0:=by rw [<-hb2]
 have g1:b2.s1=b.s1:=by rw [<-hb2]
 have gn0:b2.n0=b.n0:=by rw [<-hb2]
 have gn1:b2.n1=b.n1:=by rw [<-hb2]
 have gw0:b2.w0=b.s1.kept.map jc++[⟨⟨0,0,0,0⟩,b.n1⟩]:=by rw [<-hb2]
 have gw1:b2.w1=b.s0.kept.map jc++[⟨⟨0,0,0,0⟩,b.n0⟩]:=by rw [<-hb2]
 have LM:dJ b2:=by rw [<-hb2];exact L2
 have MM:gk b2.ag b2.due m:=by rw [<-hb2];exact M
 have lo0:=H.y0.lo;have hi0:=H.y0.hi;have lo1:=H.y1.lo;have hi1:=H.y1.hi
 have p0:=H.h.ok.n0;have p1:=H.h.ok.n1
 have A:=su b.s1.kept LM MM hm (by omega) gw0 (mT H.h.s1) (by rw [gn0];exact lo1) (by rw [gn0];omega)
 have L3:=td (dX 0 b.s1.kept.length) LM
 have M3:=Ac (dX 0 b.s1.kept.length) LM hm (by rw [xK];omega) MM
 rw [xK] at M3
 rw [jW]
 generalize zB (dX 0 b.s1.kept.length) b2=b3 at A L3 M3 ⊢
 obtain ⟨a1,a2,a3,a4,a5,a6⟩:=A
 have a0:=EY (b:=b3) (w:=[]) (t:=⟨0,0,0,0⟩) (n:=b.n1) a1 p1 (zp (by rw [a3,g0];exact H.h.s0) p1 (by rw [a3,g0];exact hi0)) []
 have L4:=L3.ky [] ⟨0,6,0,0,0,0⟩
 have M4:=pO L3 (by omega) (by omega) M3 [] ⟨0,6,0,0,0,0⟩
 rw [jW,show zB (dX 0 1) b3=(cq b3 [] ⟨0,6,0,0,0,0⟩).1 from rfl]
 rw [a0] at L4 M4 ⊢
 dsimp only at L4 M4 ⊢
 rw [jW,BR q1 (by rfl)]
 generalize hb4:({b3 with w0:=[],s0:=⟨b3.s0.bG,dj (came b.n1) b3.s0.kept⟩}:Bk)=b4 at L4 M4 ⊢
 have k0:b4.s0=⟨b.s0.bG,dj (came b.n1) b.s0.kept⟩:=by rw [<-hb4];dsimp only;rw [a3,g0]
 have k1:b4.s1=b.s1:=by rw [<-hb4];dsimp only;rw [a4,g1]
 have kn0:b4.n0=b.s1.bG:=by rw [<-hb4];dsimp only;rw [a6];omega
 have kn1:b4.n1=b.n1:=by rw [<-hb4];dsimp only;rw [a5,gn1]
 have kw0:b4.w0=[]:=by rw [<-hb4]
 have kw1:b4.w1=b.s0.kept.map jc++[⟨⟨0,0,0,0⟩,b.n0⟩]:=by rw [<-hb4];dsimp only;rw [a2,gw1]
 have M4':gk b4.ag b4.due (m+1000000 * b.s1.kept.length+1000000):=by rw [<-hb4];exact M4
 have B:=ss b.s0.kept L4 M4' (by omega) (by omega) kw1 (mT H.h.s0) (by rw [kn1];exact lo0) (by rw [kn1];omega)
 rw [jW]
 generalize zB (dX 1 b.s0.kept.length) b4=b5 at B ⊢
 obtain ⟨e1,e2,e3,e4,e5,e6⟩:=B
 have c0:=EW (b:=b5) (w:=[]) (t:=⟨0,0,0,0⟩) (n:=b.n0) e1 p0 (zp (by rw [e4,k1];exact H.h.s1) p0 (by rw [e4,k1];exact hi1)) []
 rw [jW,show zB (dX 1 1) b5=(cq b5 [] ⟨0,6,1,0,0,0⟩).1 from rfl,c0]
 dsimp only
 rw [BQ q0 (by rfl)]
 exact ⟨e2.trans kw0,rfl,e5.trans kn0,e6.trans (by omega),e3.trans k0,by dsimp only;rw [e4,k1]⟩
def oK:List aV:=List.replicate 12 ⟨0,7,0,0,0,0⟩++(List.replicate 12 ⟨0,7,1,0,0,0⟩++(fx 14++fx 14))
theorem HG {c:Bk} {m:Int} (L:dJ c) (M:gk c.ag c.due m) (hm:0<=m) (hb:m<=500000000) (f0:c.w0=[]) (f1:c.w1=[]) (hl0:c.s0.kept.length<=12) (hl1:c.s1.kept.length<=12):
  (zB (fx 14) (zB (fx 14) c)).s0.kept=[]/\(zB (fx 14) (zB (fx 14) c)).s1.kept=[]:=by
 have hr:(fx 14).length=30:=by decide
 obtain ⟨r1,r2,r3,r4,r5,r6⟩:=yD L M hm (by omega) f0 f1 hl0 hl1
 have L2:=td (fx 14) L
 have M2:=Ac (fx 14) L hm (by rw [hr];omega) M
 rw [hr] at M2
 generalize zB (fx 14) c=e at r1 r2 r3 r4 r5 r6 L2 M2 ⊢
 have i0:(dj (came c.n1) c.s0.kept).length<=12:=Nat.le_trans (List.length_filter_le _ _) hl0
 have i1:(dj (came c.n0) c.s1.kept).length<=12:=Nat.le_trans (List.length_filter_le _ _) hl1
 obtain ⟨t1,t2,t3,t4,t5,t6⟩:=yD L2 M2 (by omega) (by omega) r1 r2 (by rw [r5];exact i0) (by rw [r6];exact i1)
 have k0:=fun t ht=>(tY (mT L2.h.s0) t ht).2
 have k1:=fun t ht=>(tY (mT L2.h.s1) t ht).2
 have x0:e.s0.bG=c.s0.bG:=by rw [r5]
 have x1:e.s1.bG=c.s1.bG:=by rw [r6]
 rw [t5,t6]
 exact ⟨uX fun t ht=>by have:=k0 t ht;omega,uX fun t ht=>by have:=k1 t ht;omega⟩
theorem lost {b:Bk} (hw0:b.w0.length<=12) (hw1:b.w1.length<=12):zB (List.replicate 12 ⟨0,7,1,0,0,0⟩) (zB (List.replicate 12 ⟨0,7,0,0,0,0⟩) b)={b with w0:=[],w1:=[]}:=by
 rw [Cb,Ca]
 dsimp only
 rw [List.drop_eq_nil_of_le hw0,List.drop_eq_nil_of_le hw1]
theorem Gf {b:Bk} {m:Int} (H:dJ b) (M:gk b.ag b.due m) (hm:0<=m) (hb:m<=500000000) (hw0:b.w0.length<=12) (hw1:b.w1.length<=12) (hl0:b.s0.kept.length<=12) (hl1:b.s1.kept.length<=12):
  (zB oK b).s0.kept=[]/\(zB oK b).s1.kept=[]:=by
 have L:=td (List.replicate 12 ⟨0,7,1,0,0,0⟩) (td (List.replicate 12 ⟨0,7,0,0,0,0⟩) H)
 have e:zB oK b=zB (fx 14) (zB (fx 14) (zB (List.replicate 12 ⟨0,7,1,0,0,0⟩) (zB (List.replicate 12 ⟨0,7,0,0,0,0⟩) b))):=by
  unfold oK;rw [jW,jW,jW]
 rw [e]
 rw [lost hw0 hw1] at L ⊢
 exact HG L M hm hb rfl rfl hl0 hl1
theorem rG (l:List (Int×Answer)) (a b:Int) (v:Answer):fB (lG l a v) b=if a=b then some v else fB l b:=by
 induction l with
 |nil=>simp [lG,fB]
 |cons x l ih=>
  obtain ⟨k,u⟩:=x
  unfold lG
  by_cases hk:k=a
  ·rw [if_pos hk];unfold fB;subst hk
   split<;>rfl
  ·rw [if_neg hk]
   unfold fB
   rw [ih]
   by_cases hb:k=b
   ·rw [if_pos hb,if_pos hb,if_neg (fun e=>hk (hb.trans e.symm))]
   ·rw [if_neg hb,if_neg hb]
theorem BK {b:Bk} {y:List (List Int)} {told:List (Int×Answer)} {cl:Nat} {d:aV} (hd:d.id≠0):fB (da b y told cl d).2.2.1 d.id=some (da b y told cl d).2.2.2.2/\∀ j,j≠d.id->fB (da b y told cl d).2.2.1 j=fB told j:=by
 unfold da
 split
 ·rename_i h
  refine ⟨?_,fun j _=>rfl⟩
  dsimp only
  cases hg:fB told d.id with
  |none=>rw [hg] at h;cases h.1
  |some v=>rfl
 ·exact ⟨by dsimp only;rw [rG,if_pos rfl],fun j hj=>by dsimp only;rw [rG,if_neg fun e=>hj e.symm]⟩
theorem zW {b:Bk} {y:List (List Int)} {told:List (Int×Answer)} {cl:Nat} {d:aV} {v:Answer} (hd:d.id≠0) (h:fB told d.id=some v):da b y told cl d=(b,y,told,cl,v):=by
 unfold da
 rw [if_pos ⟨by rw [h];rfl,hd⟩,h];rfl
structure Ie (m:List aV) (s:Bk×List (List Int)×List (Int×Answer)×Nat×List Answer) (all:List aV) (r:Bk×List (List Int)×List (Int×Answer)×Nat×List Answer) (n:Nat):Prop where
 b:r.1=s.1
 y:r.2.1=s.2.1
 t:r.2.2.1=s.2.2.1
 c:r.2.2.2.1=s.2.2.2.1
 ls:s.2.2.2.2.length=n
 lr:r.2.2.2.2.length=all.length
 told:∀ (k:Nat) (v:Answer),s.2.2.2.2[k]?=some v->fB s.2.2.1 ((k:Int)+1)=some v
 same:∀ (i:Nat) (d:aV),all[i]?=some d->∃ k:Nat,d.id=(k:Int)+1/\k < n/\r.2.2.2.2[i]?=s.2.2.2.2[k]?
theorem Ie.new {m:List aV} {s r:Bk×List (List Int)×List (Int×Answer)×Nat×List Answer} {all:List aV} {n:Nat} (H:Ie m s all r n) {d:aV} (hd:d.id=(n:Int)+1):
  Ie m (dc [d] s.1 s.2.1 s.2.2.1 s.2.2.2.1 s.2.2.2.2) (all++[d]) (dc [d] r.1 r.2.1 r.2.2.1 r.2.2.2.1 r.2.2.2.2) (n+1):=by
 rw [H.b,H.y,H.t,H.c]
 obtain ⟨ht,hj⟩:=BK (b:=s.1) (y:=s.2.1) (told:=s.2.2.1) (cl:=s.2.2.2.1) (d:=d) (by omega)
 unfold dc dc
 refine ⟨rfl,rfl,rfl,rfl,by simp [H.ls],by simp [H.lr],fun k v hv=>?_,fun i e he=>?_⟩
 ·dsimp only at hv ⊢
  rcases Nat.lt_or_ge k n with h|h
  ·rw [List.getElem?_append_left (by rw [H.ls];exact h)] at hv
   rw [hj _ (by rw [hd];omega)]
   exact H.told k v hv
  ·have hk:k=n:=by have:=(List.getElem?_eq_some_iff.1 hv).1;simp [H.ls] at this;omega
   subst hk
   rw [<-hd,ht]
   rw [List.getElem?_append_right (by rw [H.ls];exact Nat.le_refl _),H.ls] at hv
   simpa using hv
 ·dsimp only
  rcases Nat.lt_or_ge i all.length with h|h
  ·rw [List.getElem?_append_left h] at he
   obtain ⟨k,h1,h2,h3⟩:=H.same i e he
   refine ⟨k,h1,by omega,?_⟩
   rw [List.getElem?_append_left (by rw [H.lr];exact h),h3,List.getElem?_append_left (by rw [H.ls];exact h2)]
  ·have hi:i=all.length:=by have:=(List.getElem?_eq_some_iff.1 he).1;simp at this;omega
   subst hi
   simp at he;subst he
   refine ⟨n,hd,by omega,?_⟩
   rw [List.getElem?_append_right (by rw [H.lr];exact Nat.le_refl _),H.lr,List.getElem?_append_right (by rw [H.ls];exact Nat.le_refl _),H.ls];simp
end Go.Proofs.Ytegepioggeggaaa.Dev
