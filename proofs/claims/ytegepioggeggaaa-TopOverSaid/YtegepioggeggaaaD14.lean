/- A part of the proof: PlLaw2, PlTop, PlTop2, PlOver, LTopOver. No condition. -/
import Derived.Test.YtegepioggeggaaaD13
import Derived.Test.YtegepioggeggaaaD04
set_option linter.unusedVariables false
set_option linter.unusedSimpArgs false
namespace Go.Proofs.Ytegepioggeggaaa.Dev
def heldOf (k:Int):List Auth->Int
 |[]=>0
 |a::l=>(if a.card=k then holdAuth a else 0)+heldOf k l
theorem heldOf_app (k:Int) (u v:List Auth):heldOf k (u++v)=heldOf k u+heldOf k v:=by
 induction u with
 |nil=>simp [heldOf]
 |cons a u ih=>simp only [List.cons_append,heldOf,ih];omega
theorem heldOf_set (k:Int) (b:Auth):∀ {l:List Auth} {i:Nat} {a:Auth},l[i]?=some a->heldOf k (l.set i b)=heldOf k l - (if a.card=k then holdAuth a else 0)+(if b.card=k then holdAuth b else 0)
 |x::l,0,a,h=>by
  have:x=a:=by simpa using h
  subst this
  simp only [List.set_cons_zero,heldOf];omega
 |x::l,i+1,a,h=>by
  have h:l[i]?=some a:=by simpa using h
  simp only [List.set_cons_succ,heldOf,heldOf_set k b h];omega
def HeldC (cards:List Card) (auths:List Auth):Prop:=∀ (k:Nat) (c:Card),cards[k]?=some c->c.held=heldOf k auths
theorem shiftK_zero {l:List Card} {e k h m:Int} (hz:(shiftK l e k h m).2=0):e=0/\((l[k.toNat]?=none/\(shiftK l e k h m).1=l)\/∃ c,l[k.toNat]?=some c/\(shiftK l e k h m).1=l.set k.toNat ⟨c.money+m,c.held+h,c.pace,c.uses⟩):=by
 unfold shiftK at hz ⊢
 cases hc:l[k.toNat]? with
 |none=>rw [hc] at hz;exact ⟨hz,.inl ⟨rfl,rfl⟩⟩
 |some c=>
  rw [hc] at hz
  dsimp only at hz ⊢
  split at hz
  ·rename_i h0
   obtain ⟨h1,h2⟩:=failK_zero h0
   rcases shift_of (show shiftC c h m=((shiftC c h m).1,(shiftC c h m).2) from rfl) with ⟨h3,_⟩|h3
   ·exact absurd h2 h3
   ·rw [if_pos h0]
    exact ⟨h1,.inr ⟨c,rfl,by dsimp only;rw [h3.2.2.2.2.2.2.1]⟩⟩
  ·rename_i h0;exact absurd hz h0
theorem HeldC.shift {cards:List Card} {auths auths':List Auth} {e k h m:Int} (hh:HeldC cards auths) (hz:(shiftK cards e k h m).2=0) (ha:∀ j:Nat,heldOf j auths'=heldOf j auths+if j=k.toNat then h else 0):HeldC (shiftK cards e k h m).1 auths':=by
 obtain ⟨_,hz⟩:=shiftK_zero hz
 intro j c hc
 rcases hz with ⟨h1,h2⟩|⟨c0,h1,h2⟩
 ·rw [h2] at hc
  have:j≠k.toNat:=fun e=>by subst e;rw [h1] at hc;cases hc
  rw [hh j c hc,ha j,if_neg this];omega
 ·rw [h2,List.getElem?_set] at hc
  split at hc
  ·rename_i e
   split at hc
   ·injection hc with hc;subst hc
    have:=hh _ c0 h1
    rw [ha j,if_pos e.symm,<-e];dsimp only;omega
   ·cases hc
  ·rename_i e
   rw [hh j c hc,ha j,if_neg (Ne.symm e)];omega
theorem HeldC.same {cards:List Card} {auths:List Auth} {e k m:Int} (hh:HeldC cards auths) (hz:(shiftK cards e k 0 m).2=0):HeldC (shiftK cards e k 0 m).1 auths:=hh.shift hz fun j=>by split<;>omega
theorem sendK_zero {s:Sender} {e:Int} {t:Transfer} (h:(sendK s e t).2=0):e=0/\(putS s t).2=0/\(sendK s e t).1=(putS s t).1:=by
 unfold sendK at h ⊢
 split at h
 ·rename_i h0;obtain ⟨h1,h2⟩:=failK_zero h0;rw [if_pos h0];exact ⟨h1,h2,rfl⟩
 ·rename_i h0;exact absurd h h0
theorem put_ok {s:Sender} {t:Transfer} (h:(putS s t).2=0):(wrongSF s).err=0/\(wrongSF (outS s t)).err=0/\(putS s t).1=outS s t:=by
 unfold putS at h ⊢
 split at h
 ·rename_i h1;exact absurd h h1
 split at h
 ·rename_i h1;exact absurd h h1
 ·rename_i h1 h2;rw [if_neg h1,if_neg h2];exact ⟨by omega,by omega,rfl⟩
theorem back_ok {s:Sender} {n:Int} (h:(backS s n).2=0):(wrongSF s).err=0/\0<=n/\n<=s.sent/\(backS s n).1=⟨s.sent,keepL (came n) s.kept⟩/\(wrongSF (backS s n).1).err=0:=by
 rcases back_of (show backS s n=((backS s n).1,(backS s n).2) from rfl) with ⟨h1,_⟩|⟨_,h1,h2,h3,h4⟩
 ·exact absurd h h1
 ·exact ⟨h1,h2,h3,h4,by rw [h4];exact back_right h1 h2 h3⟩
structure HeldB (b:Bk):Prop where
 ok:Okb b
 held:HeldC b.cards b.auths
 s0:(wrongSF b.s0).err=0
 s1:(wrongSF b.s1).err=0
 st:wrongStand b.stand=0
 used:b.stand.used.length=b.cards.length
 today:∀ x∈b.today,okR x
theorem lateL_zero {time:Int}:∀ (l:List Auth) (i:Nat) (cards:List Card) (auths:List Auth) (e:Int),(lateL time l i cards auths e).2.2=0->e=0
 |[],_,_,_,_,h=>h
 |a::l,i,cards,auths,e,h=>(shiftK_zero (lateL_zero l _ _ _ _ h)).1
theorem lateL_held {time:Int}:∀ (l:List Auth) (i:Nat) (cards:List Card) (auths:List Auth) (e:Int),(lateL time l i cards auths e).2.2=0->auths.drop i=l->(∀ a∈l,0<=a.card)->HeldC cards auths->HeldC (lateL time l i cards auths e).1 (lateL time l i cards auths e).2.1
 |[],_,_,_,_,_,_,_,h=>h
 |a::l,i,cards,auths,e,hz,hd,hp,h=>by
  have hat:auths[i]?=some a:=by
   have:(auths.drop i)[0]?=some a:=by rw [hd];rfl
   rwa [List.getElem?_drop,Nat.add_zero] at this
  have hilt:=(List.getElem?_eq_some_iff.1 hat).1
  refine lateL_held l (i+1) _ _ _ hz ?_ (fun x hx=>hp x (List.mem_cons_of_mem _ hx)) (h.shift (lateL_zero l _ _ _ _ hz) fun j=>?_)
  ·rw [List.drop_set_of_lt (by omega)]
   have:auths.drop (i+1)=(auths.drop i).drop 1:=by rw [List.drop_drop]
   rw [this,hd];rfl
  ·have hc:=hp a List.mem_cons_self
   rw [heldOf_set _ _ hat]
   have:(lateAuth a time).card=a.card:=rfl
   rw [this]
   by_cases e:a.card=(j:Int)
   ·rw [if_pos e,if_pos e,if_pos (by omega)];omega
   ·rw [if_neg e,if_neg e,if_neg (by omega)];omega
theorem lateL_len {time:Int} (l:List Auth) (i:Nat) (cards:List Card) (auths:List Auth) (e:Int):(lateL time l i cards auths e).1.length=cards.length:=by
 induction l generalizing i cards auths e with
 |nil=>rfl
 |cons a l ih=>exact (ih (i+1) _ _ _).trans (shiftK_len _ _ _ _ _)
theorem HeldB.late {b:Bk} (h:HeldB b):HeldB (lateB b):=by
 have hok:=h.ok.late
 unfold lateB at hok ⊢
 split
 ·rename_i h0
  rw [if_pos h0] at hok
  exact ⟨hok,lateL_held _ _ _ _ _ h0 rfl (fun a ha=>(h.ok.perm a ha).2.1) h.held,h.s0,h.s1,h.st,by dsimp only;rw [lateL_len];exact h.used,h.today⟩
 ·exact h
theorem HeldB.start {s:Setup} (h:(wrongSet s).err=0):HeldB (startB s):=by
 obtain ⟨h1,h2,h3,h4,h5,h6⟩:=wrongSet_zero h
 have hn:newStand s.cap s.paces.length=({cap:=s.cap,used:=List.replicate s.paces.length 0,advices:=[]},0):=newStand_ok h1 ⟨h4,h5⟩
 refine ⟨Okb.start h,fun k c hc=>?_,rfl,rfl,?_,?_,fun x hx=>by cases hx⟩
 ·have hc:(s.paces.map cardP)[k]?=some c:=hc
  rw [List.getElem?_map] at hc
  cases hp:s.paces[k]? with
  |none=>rw [hp] at hc;cases hc
  |some p=>rw [hp] at hc;injection hc with hc;subst hc;rfl
 ·show wrongStand (newStand s.cap s.paces.length).1=0
  rw [hn];exact new_right _ _ h1 h4 h5
 ·show (newStand s.cap s.paces.length).1.used.length=(s.paces.map cardP).length
  rw [hn];simp
theorem HeldB.load {b:Bk} (h:HeldB b) (d:Deed):HeldB (loadB b d).1:=by
 have hok:=h.ok.load d
 unfold loadB at hok ⊢
 split
 ·exact h
 rename_i c1
 rw [if_neg c1] at hok
 split
 ·exact h
 rename_i c2
 rw [if_neg c2] at hok
 unfold Dev.endB at hok ⊢
 split
 ·rename_i h0
  rw [if_pos h0] at hok
  exact ⟨hok,h.held.same (moveK_zero h0).1,h.s0,h.s1,h.st,by dsimp only;rw [shiftK_len];exact h.used,h.today⟩
 ·exact h
theorem HeldB.pay {b:Bk} (h:HeldB b) (d:Deed):HeldB (payB b d).1:=by
 have hok:=h.ok.pay d
 unfold payB at hok ⊢
 split
 ·exact h
 rename_i c1
 rw [if_neg c1] at hok
 split
 ·exact h
 rename_i c2
 rw [if_neg c2] at hok
 unfold Dev.endB at hok ⊢
 split
 ·rename_i h0;rw [if_pos h0] at hok;exact ⟨hok,h.held,h.s0,h.s1,h.st,h.used,h.today⟩
 ·exact h
theorem HeldB.ticks {b:Bk} (h:HeldB b) (d:Deed):HeldB (tickB b d).1:=by
 unfold tickB
 split
 ·exact h
 ·have h1:HeldB {b with time:=b.time+d.sum}:=⟨h.ok.tick (by have:=h.ok.time;omega) (by have:=h.ok.time;omega),h.held,h.s0,h.s1,h.st,h.used,h.today⟩
  dsimp only
  split
  ·exact h1
  ·exact h1.late
theorem HeldB.send {b:Bk} (h:HeldB b) (d:Deed):HeldB {b with w0:=(sendW b.s0 b.s1 b.n0 b.n1 b.w0 b.w1 d).1,w1:=(sendW b.s0 b.s1 b.n0 b.n1 b.w0 b.w1 d).2.1}:=
 ⟨h.ok.send d,h.held,h.s0,h.s1,h.st,h.used,h.today⟩
theorem takeK_held {auths:List Auth} {due:List Int} {cards:List Card} {book:List Entry} {e:Int} {t:Transfer} (h:HeldC cards auths) (hz:(takeK auths due cards book e t).2.2.2=0):HeldC (takeK auths due cards book e t).2.1 auths/\(takeK auths due cards book e t).2.1.length=cards.length:=by
 unfold takeK at hz ⊢
 split
 ·exact ⟨h,rfl⟩
 rename_i a ha
 rw [ha] at hz
 dsimp only at hz
 split
 ·exact ⟨h,rfl⟩
 rename_i c1
 rw [if_neg c1] at hz
 split
 ·rename_i c2;rw [if_pos c2] at hz;exact ⟨h.same (moveK_zero hz).1,shiftK_len _ _ _ _ _⟩
 split
 ·exact ⟨h,rfl⟩
 ·exact ⟨h,rfl⟩
theorem HeldB.arrive {b:Bk} (h:HeldB b) (d:Deed):HeldB (arriveB b d).1:=by
 have hok:=h.ok.arrive d
 unfold arriveB at hok ⊢
 split
 ·rename_i c0
  rw [if_pos c0] at hok
  unfold arrive0 at hok ⊢
  split
  ·exact h
  rename_i p hp
  rw [hp] at hok
  dsimp only at hok
  split
  ·rename_i c1;rw [if_pos c1] at hok;exact ⟨hok,h.held,h.s0,h.s1,h.st,h.used,h.today⟩
  rename_i c1
  rw [if_neg c1] at hok
  split
  ·rename_i c2
   rw [if_pos c2] at hok
   split
   ·rename_i c3;rw [if_pos c3] at hok;exact ⟨hok,h.held,(back_ok c3).2.2.2.2,h.s1,h.st,h.used,h.today⟩
   ·exact h
  rename_i c2
  rw [if_neg c2] at hok
  split
  ·rename_i c3
   rw [if_pos c3] at hok
   unfold Dev.endB at hok ⊢
   split
   ·rename_i c4;rw [if_pos c4] at hok;obtain ⟨r1,r2⟩:=takeK_held h.held c4;exact ⟨hok,r1,h.s0,h.s1,h.st,h.used.trans r2.symm,h.today⟩
   ·exact h
  ·rename_i c3;rw [if_neg c3] at hok;exact ⟨hok,h.held,h.s0,h.s1,h.st,h.used,h.today⟩
 rename_i c0
 rw [if_neg c0] at hok
 split
 ·rename_i c01
  rw [if_pos c01] at hok
  unfold arrive1 at hok ⊢
  split
  ·exact h
  rename_i p hp
  rw [hp] at hok
  dsimp only at hok
  split
  ·rename_i c1;rw [if_pos c1] at hok;exact ⟨hok,h.held,h.s0,h.s1,h.st,h.used,h.today⟩
  rename_i c1
  rw [if_neg c1] at hok
  split
  ·rename_i c2
   rw [if_pos c2] at hok
   split
   ·rename_i c3;rw [if_pos c3] at hok;exact ⟨hok,h.held,h.s0,(back_ok c3).2.2.2.2,h.st,h.used,h.today⟩
   ·exact h
  rename_i c2
  rw [if_neg c2] at hok
  split
  ·rename_i c3
   rw [if_pos c3] at hok
   unfold Dev.endB at hok ⊢
   split
   ·rename_i c4;rw [if_pos c4] at hok;obtain ⟨r1,r2⟩:=takeK_held h.held c4;exact ⟨hok,r1,h.s0,h.s1,h.st,h.used.trans r2.symm,h.today⟩
   ·exact h
  ·rename_i c3;rw [if_neg c3] at hok;exact ⟨hok,h.held,h.s0,h.s1,h.st,h.used,h.today⟩
 ·exact h
theorem give_used {s:Stand} {a:Advice} (h:(giveStand s a).2=0):(giveStand s a).1.used.length=s.used.length:=by
 unfold giveStand at h ⊢
 split at h
 ·rename_i h1;exact absurd h h1
 split at h
 ·cases h
 split at h
 ·cases h
 split at h
 ·cases h
 ·rename_i h1 h2 h3 h4;rw [if_neg h1,if_neg h2,if_neg h3,if_neg h4];exact List.length_set ..
theorem HeldC.new {cards:List Card} {auths:List Auth} {k:Int} {c c':Card} {a:Auth} (hh:HeldC cards auths) (hk:0<=k) (hc:cards[k.toNat]?=some c) (ha:a.card=k) (h':c'.held=c.held+holdAuth a):HeldC (cards.set k.toNat c') (auths++[a]):=by
 intro j z hz
 rw [heldOf_app]
 have h1:heldOf j [a]=if a.card=j then holdAuth a else 0:=by simp [heldOf]
 rw [h1]
 rw [List.getElem?_set] at hz
 split at hz
 ·rename_i e
  split at hz
  ·injection hz with hz;subst hz
   have:=hh _ c hc
   rw [if_pos (by omega),<-e];omega
  ·cases hz
 ·rename_i e
  rw [hh j z hz,if_neg (by omega)];omega
theorem HeldB.asks {b:Bk} (h:HeldB b) (d:Deed):HeldB (askB b d).1:=by
 have hok:=h.ok.asks d
 unfold askB at hok ⊢
 split
 ·exact h
 rename_i c0
 rw [if_neg c0] at hok
 split
 ·rename_i cd
  rw [if_pos cd] at hok
  split
  ·exact h
  rename_i c1
  rw [if_neg c1] at hok
  split
  ·exact h
  rename_i c2
  rw [if_neg c2] at hok
  have he:=downE_zero (show downE (giveStand b.stand ⟨d.n,d.shop,d.sum,b.time⟩).2=0 by omega)
  exact ⟨hok,h.held,h.s0,h.s1,(give_keeps h.st he).1,(give_used he).trans h.used,h.today⟩
 rename_i cd
 rw [if_neg cd] at hok
 split
 ·exact h
 rename_i c2
 rw [if_neg c2] at hok
 split
 ·exact h
 rename_i c3
 rw [if_neg c3] at hok
 obtain ⟨_,w2,_⟩:=new_ok (show (newAuth d.n d.shop d.sum b.time).2=0 by omega)
 split
 ·exact h
 rename_i c hc
 rw [hc] at hok
 dsimp only at hok
 split
 ·exact h
 rename_i c4
 rw [if_neg c4] at hok
 refine ⟨hok,h.held.new (by omega) hc (by rw [w2]) ?_,h.s0,h.s1,h.st,by dsimp only;rw [List.length_set];exact h.used,h.today⟩
 rcases allow_of (show allowC c d.sum b.time=((allowC c d.sum b.time).1,(allowC c d.sum b.time).2) from rfl) with ⟨h5,_⟩|⟨h5,h6,h7,h8,h9,h10,h11,l,h12,h13⟩
 ·omega
 ·rw [h13,w2];simp [holdAuth]
theorem upL_held:∀ (l:List Advice) (cs:List Card) (xs:List Auth),(upL l cs xs).2.2=0->HeldC cs xs->(∀ a∈l,0<=a.card/\a.card < cs.length)->HeldC (upL l cs xs).1 (upL l cs xs).2.1/\(upL l cs xs).1.length=cs.length
 |[],cs,xs,_,h,_=>⟨h,rfl⟩
 |x::l,cs,xs,hz,h,hl=>by
  unfold upL at hz ⊢
  split at hz
  ·rename_i h1;exact absurd hz h1
  rename_i h1
  rw [if_neg h1]
  have hx:=hl x List.mem_cons_self
  cases hc:cs[x.card.toNat]? with
  |none=>have:=List.getElem?_eq_none_iff.1 hc;omega
  |some c=>
   rw [hc] at hz
   dsimp only at hz ⊢
   split at hz
   ·rename_i h2;exact absurd hz h2
   rename_i h2
   rw [if_neg h2]
   obtain ⟨_,w2,_⟩:=new_ok (show (newAuth x.card x.shop x.sum x.time).2=0 by omega)
   obtain ⟨_,f2,_⟩:=forceC_right (show (forceC c x.sum).2=0 by omega)
   have:=upL_held l _ _ hz (h.new hx.1 hc (by rw [w2]) (by rw [f2,w2];simp [holdAuth])) (fun a ha=>by rw [List.length_set];exact hl a (List.mem_cons_of_mem _ ha))
   rw [List.length_set] at this
   exact this
theorem HeldB.ups {b:Bk} (h:HeldB b):HeldB (upB b).1:=by
 unfold upB
 split
 ·exact h
 split
 ·exact h
 split
 ·exact h
 rename_i c1 c2 c3
 have h0:(clearStand b.stand).2.2=0:=by omega
 obtain ⟨r1,r2,r3⟩:=clear_ok h0
 have hu:=h.ok.uped h0
 have hz:(upL (clearStand b.stand).2.1 b.cards b.auths).2.2=0:=by omega
 obtain ⟨u1,u2⟩:=upL_held _ _ _ hz h.held (fun a ha=>by rw [r3] at ha;have:=h.ok.adv a ha;omega)
 have hp:=right_parts h.st
 refine HeldB.late ⟨hu,u1,h.s0,h.s1,?_,?_,h.today⟩
 ·dsimp only;rw [r2]
  have hc:0<=b.stand.cap/\b.stand.cap<=1000000:=by simpa [capB] using hp.2.2.1
  exact new_right _ _ hp.1 hc.1 hc.2
 ·dsimp only;rw [r2,u2];simp [h.used]
theorem HeldB.become {b:Bk} (h:HeldB b) (d:Deed):HeldB (becomeB b d).1:=by
 have hok:=h.ok.become d
 unfold becomeB at hok ⊢
 split
 ·exact h
 rename_i cd
 rw [if_neg cd] at hok
 split
 ·exact h
 rename_i c1
 rw [if_neg c1] at hok
 split
 ·exact h
 rename_i old ho
 rw [ho] at hok
 dsimp only at hok
 split
 ·exact h
 rename_i c2
 rw [if_neg c2] at hok
 split
 ·exact h
 rename_i c3
 rw [if_neg c3] at hok
 have hmv:moveAuth old d.move d.sum=((moveAuth old d.move d.sum).1,0):=Prod.ext rfl (by dsimp only;omega)
 generalize (moveAuth old d.move d.sum).1=a at *
 obtain ⟨_,hwa,hcard,hshop,hk1,hk2,hn1,hn2⟩:=moveAuth_ok hmv
 rcases moved_of hmv with ⟨h4,_⟩|⟨_,hw,_,_,hm⟩
 ·exact absurd rfl h4
 have hp:=h.ok.perm old (List.mem_of_getElem? ho)
 have hra:=rightAuth hwa
 have hset:∀ j:Nat,heldOf j (b.auths.set d.n.toNat a)=heldOf j b.auths+if j=a.card.toNat then holdAuth a - holdAuth old else 0:=fun j=>by
  rw [heldOf_set _ _ ho,hcard]
  by_cases e:old.card=(j:Int)
  ·rw [if_pos e,if_pos e,if_pos (by omega)];omega
  ·rw [if_neg e,if_neg e,if_neg (by omega)];omega
 have hsame:holdAuth a=holdAuth old->∀ j:Nat,heldOf j (b.auths.set d.n.toNat a)=heldOf j b.auths:=fun e j=>by rw [hset j];split<;>omega
 have hh:d.move=5\/d.move=6\/d.move=7\/d.move=8->holdAuth a=holdAuth old:=fun e=>by
  cases hm with
  |refund _ _=>rfl
  |dispute _ _=>rfl
  |forCard _ _=>rfl
  |forShop _ _=>rfl
  |more h _ _=>omega
  |take h _ _=>omega
  |less h _ _=>omega
 unfold doneB Dev.endB at hok ⊢
 split
 rotate_left
 ·exact h
 rename_i h0
 rw [if_pos h0] at hok
 obtain ⟨e0,hl0,hnote⟩:=noteK_zero h0
 have key:HeldC (deedK b a old d).1 (b.auths.set d.n.toNat a)/\(wrongSF (deedK b a old d).2.2.2.1).err=0/\(wrongSF (deedK b a old d).2.2.2.2.1).err=0/\(deedK b a old d).1.length=b.cards.length:=by
  unfold deedK at e0 ⊢
  split at e0
  ·rename_i hk;rw [if_pos hk];exact ⟨h.held.shift e0 hset,h.s0,h.s1,shiftK_len _ _ _ _ _⟩
  rename_i k1
  rw [if_neg k1]
  split at e0
  ·rename_i hk;rw [if_pos hk]
   obtain ⟨e1,e2,e3⟩:=sendK_zero e0
   obtain ⟨_,p2,p3⟩:=put_ok e2
   exact ⟨h.held.shift (moveK_zero e1).1 hset,by dsimp only;rw [e3,p3];exact p2,h.s1,shiftK_len _ _ _ _ _⟩
  rename_i k2
  rw [if_neg k2]
  split at e0
  ·rename_i hk;rw [if_pos hk]
   obtain ⟨e1,e2,e3⟩:=sendK_zero e0
   obtain ⟨_,p2,p3⟩:=put_ok e2
   exact ⟨fun j c hc=>by rw [hsame (hh (.inl hk)) j];exact h.held j c hc,h.s0,by dsimp only;rw [e3,p3];exact p2,rfl⟩
  rename_i k3
  rw [if_neg k3]
  split at e0
  ·rename_i hk;rw [if_pos hk]
   exact ⟨h.held.shift (moveK_zero e0).1 fun j=>by rw [hsame (hh (.inr (.inl hk))) j];split<;>omega,h.s0,h.s1,shiftK_len _ _ _ _ _⟩
  rename_i k4
  rw [if_neg k4]
  split at e0
  ·rename_i hk;rw [if_pos hk]
   obtain ⟨e1,e2,e3⟩:=sendK_zero e0
   obtain ⟨_,p2,p3⟩:=put_ok e2
   exact ⟨fun j c hc=>by rw [hsame (hh (.inr (.inr (.inl hk)))) j];exact h.held j c hc,by dsimp only;rw [e3,p3];exact p2,h.s1,rfl⟩
  rename_i k5
  rw [if_neg k5]
  split at e0
  ·rename_i hk;rw [if_pos hk]
   exact ⟨h.held.shift (moveK_zero e0).1 fun j=>by rw [hsame (hh (.inr (.inr (.inr hk)))) j];split<;>omega,h.s0,h.s1,shiftK_len _ _ _ _ _⟩
  ·omega
 refine ⟨hok,key.1,key.2.1,key.2.2.1,h.st,h.used.trans key.2.2.2.symm,fun x hx=>?_⟩
 dsimp only at hx
 rw [hnote] at hx
 rcases List.mem_append.1 hx with hx|hx
 ·exact h.today x hx
 ·obtain rfl:=List.mem_singleton.1 hx
  have hlen:=h.ok.auths
  constructor
  ·unfold badK;dsimp only;omega
  ·unfold badR;dsimp only;omega
theorem HeldB.does {b:Bk} (h:HeldB b) (y:List (List Int)) (d:Deed):HeldB (doB b y d).1:=by
 unfold doB
 split
 ·exact h.load d
 split
 ·exact h.asks d
 split
 ·exact h.become d
 split
 ·exact h.ticks d
 split
 ·exact h.send d
 split
 ·exact h.arrive d
 split
 ·split
  ·exact h
  ·exact ⟨⟨h.ok.time,h.ok.cards,h.ok.due,h.ok.auths,h.ok.today,h.ok.w0,h.ok.w1,h.ok.perm,h.ok.adv,h.ok.k0,h.ok.k1,h.ok.right,h.ok.l0,h.ok.l1,h.ok.p0,h.ok.p1,h.ok.n0,h.ok.n1,fun h=>by cases h⟩,h.held,h.s0,h.s1,h.st,h.used,h.today⟩
 split
 ·exact h.ups
 split
 ·refine ⟨h.ok.setToday (overK_len (y:=y) h.ok.today).1,h.held,h.s0,h.s1,h.st,h.used,?_⟩
  unfold overK
  split
  ·exact h.today
  ·exact fun x hx=>by cases hx
 split
 ·exact h.pay d
 ·exact h
end Go.Proofs.Ytegepioggeggaaa.Dev
namespace Go.Proofs.Ytegepioggeggaaa.Dev
structure HL (n:Nat) (auths:List Auth) (hl:List Int):Prop where
 len:hl.length=n
 at_:∀ k:Nat,k < n->hl[k]?=some (heldOf k auths)
theorem HL.start (n:Nat):HL n [] (List.replicate n 0):=⟨List.length_replicate,fun k hk=>by rw [List.getElem?_replicate,if_pos hk];rfl⟩
theorem HL.step {n:Nat} {u:List Auth} {hl:List Int} {a:Auth} {x v:Int} (h:HL n u hl) (ha:0<=a.card/\a.card < n) (hx:hl[a.card.toNat]?=some x) (hv:v=x+holdAuth a):HL n (u++[a]) (hl.set a.card.toNat v):=by
 refine ⟨(List.length_set ..).trans h.len,fun k hk=>?_⟩
 rw [heldOf_app]
 have h1:heldOf k [a]=if a.card=k then holdAuth a else 0:=by simp [heldOf]
 rw [h1,List.getElem?_set]
 have h2:=h.at_ k hk
 split
 ·rename_i e
  rw [e] at hx
  rw [hx] at h2
  injection h2 with h2
  rw [if_pos (by rw [h.len];omega),if_pos (by omega),hv,h2]
 ·rename_i e
  rw [if_neg (by omega),h2];simp
theorem heldOf_b (k:Int):∀ {l:List Auth},(∀ a∈l,wrongAuth a=0)->0<=heldOf k l/\heldOf k l<=1000000 * l.length
 |[],_=>by simp [heldOf]
 |a::l,h=>by
  have:=heldOf_b k (l:=l) fun x hx=>h x (List.mem_cons_of_mem _ hx)
  have h2:=hold_b (h a List.mem_cons_self)
  simp only [heldOf,List.length_cons]
  split<;>omega
theorem HL.b {n:Nat} {u:List Auth} {hl:List Int} {k:Nat} {x:Int} (h:HL n u hl) (hx:hl[k]?=some x) (hu:∀ a∈u,wrongAuth a=0) (hl':u.length<=30):0<=x/\x<=30000000:=by
 have hk:=(List.getElem?_eq_some_iff.1 hx).1
 have h2:=h.at_ k (by rw [<-h.len];exact hk)
 rw [hx] at h2;injection h2 with h2
 have:=heldOf_b k hu
 omega
end Go.Proofs.Ytegepioggeggaaa.Dev
namespace Go.Proofs.Ytegepioggeggaaa.Dev
def runL:List Deed->Bk->List (List Int)->List Answer->Bk×List (List Int)×List Answer
 |[],b,y,out=>(b,y,out)
 |d::l,b,y,out=>runL l (doB b y d).1 (doB b y d).2.1 (out++[(doB b y d).2.2])
theorem playL_zero:∀ {l:List Deed},(∀ d∈l,d.id=0)->∀ (b:Bk) (y:List (List Int)) (told:List (Int×Answer)) (cl:Nat) (out:List Answer),playL l b y told cl out=runL l b y out
 |[],_,_,_,_,_,_=>rfl
 |d::l,h,b,y,told,cl,out=>by
  have h0:onceB b y told cl d=((doB b y d).1,(doB b y d).2.1,tput told d.id (doB b y d).2.2,if (tget told d.id).isSome then cl else cl+1,(doB b y d).2.2):=by
   unfold onceB;rw [if_neg (fun h'=>h'.2 (h d (by simp)))]
  unfold playL runL
  rw [h0]
  exact playL_zero (fun x hx=>h x (by simp [hx])) _ _ _ _ _
theorem runL_cons {d:Deed} {l:List Deed} {b b':Bk} {y y':List (List Int)} {out:List Answer} {a:Answer} (h:doB b y d=(b',y',a)):runL (d::l) b y out=runL l b' y' (out++[a]):=by
 rw [runL,h]
def startT (limit:Int):Bk:=⟨0,false,[⟨0,0,⟨1000,30,1000000000000⟩,[]⟩,⟨0,0,⟨1000,30,1000000000000⟩,[]⟩],[0,0],[],⟨0,[]⟩,⟨0,[]⟩,0,0,[],[],⟨limit,[0,0],[]⟩,[],[]⟩
theorem capB_of {n:Int} (h0:0<=n) (h1:n<=1000000):capB n=true:=by
 exact decide_eq_true ⟨h0,h1⟩
theorem playT {limit:Int} {l:List Deed} (h0:0<=limit) (h1:limit<=1000000) (hl:l.length<=150) (hz:∀ d∈l,d.id=0):
  playR ⟨[⟨1000,30,1000000000000⟩,⟨1000,30,1000000000000⟩],2,limit⟩ l=((runL l (startT limit) [] []).1,(runL l (startT limit) [] []).2.1,(runL l (startT limit) [] []).2.2,⟨0,0⟩):=by
 have hw:wrongSet ⟨[⟨1000,30,1000000000000⟩,⟨1000,30,1000000000000⟩],2,limit⟩=⟨0,0⟩:=by
  unfold wrongSet
  rw [if_neg (by simp),if_neg (by dsimp only;omega)]
  rfl
 have hs:startB ⟨[⟨1000,30,1000000000000⟩,⟨1000,30,1000000000000⟩],2,limit⟩=startT limit:=by
  unfold startB startT newStand
  rw [if_neg (by simp),if_neg (fun h=>h (capB_of h0 h1))]
  rfl
 unfold playR
 rw [hw,if_neg (by simp),if_neg (by omega),hs,playL_zero hz]
theorem moveK_go {l:List Entry} {src dst n:Int} (hw:(wrongB l).err=0) (hs:0<=src/\src<=57) (hd:0<=dst/\dst<=57) (hne:src≠dst) (hn:0<=n/\n<=1000000000000)
  (h1:-1000000000000<=getE l src - n) (h2:getE l dst+n<=1000000000000):
  ∃ r,moveK l 0 src dst n=(r,0)/\(wrongB r).err=0/\∀ x,getE r x=getE l x+(if x=dst then n else 0) - (if x=src then n else 0):=by
 have hR:=(wrongB_iff.1 hw).1
 have hbd:∀ a,-1000000000000<=getE l a/\getE l a<=1000000000000:=fun a=>getE_bound fun x hx=>by
  have:=hR.ok x hx;omega
 have b1:=hbd src;have b2:=hbd dst
 have hp:∃ r,putAll l [⟨src,0 - n⟩,⟨dst,n⟩]=some r:=by
  refine ⟨setE (setE l src (getE l src+(0 - n))) dst (getE l dst+n),?_⟩
  unfold putAll
  rw [if_pos (goodE_iff.2 ⟨by dsimp only;omega,by dsimp only;omega⟩)]
  unfold putAll
  dsimp only
  rw [getE_set hR.up,if_neg hne,if_pos (goodE_iff.2 ⟨by omega,by omega⟩)]
  rfl
 obtain ⟨r,hr⟩:=hp
 have hpo:postB l [⟨src,0 - n⟩,⟨dst,n⟩]=(r,0):=by
  rw [postB_go hw (by simp) (fun x hx=>by simp only [List.mem_cons,List.not_mem_nil,or_false] at hx;rcases hx with rfl|rfl<;>(unfold badE;dsimp only;omega)) (by simp only [sumE];omega),hr]
 have hm:moveB l src dst n=(r,0):=by unfold moveB;rw [if_neg (by omega)];exact hpo
 refine ⟨r,?_,(right_posted hpo 0).1,fun x=>?_⟩
 ·unfold moveK;rw [hm];rfl
 ·rw [(right_posted hpo x).2];simp only [givenE]
  have e1:(src=x)=(x=src):=propext ⟨Eq.symm,Eq.symm⟩
  have e2:(dst=x)=(x=dst):=propext ⟨Eq.symm,Eq.symm⟩
  simp only [e1,e2]
  split<;>split<;>omega
theorem wrongC_go {c:Card} {m h:Int} (hw:wrongC c=0) (h1:-1000000000000<=m/\m<=1000000000000) (h2:0<=h/\h<=1000000000000):wrongC ⟨m,h,c.pace,c.uses⟩=0:=by
 have:=rightC hw
 unfold wrongC;rw [if_neg (by dsimp only;omega),if_neg (fun x=>x this.2.2.2.2.1)];exact this.2.2.2.2.2
theorem shiftK_go {l:List Card} {k held money:Int} {c:Card} (hc:l[k.toNat]?=some c) (hw:wrongC c=0) (h1:-1000000000000<=c.money+money/\c.money+money<=1000000000000) (h2:0<=c.held+held/\c.held+held<=1000000000000)
  (h3:-1000000000000<=held/\held<=1000000000000) (h4:-1000000000000<=money/\money<=1000000000000):shiftK l 0 k held money=(l.set k.toNat ⟨c.money+money,c.held+held,c.pace,c.uses⟩,0):=by
 have hs:shiftC c held money=(⟨c.money+money,c.held+held,c.pace,c.uses⟩,0):=by
  unfold shiftC;rw [if_neg (fun h=>h hw),if_neg (by omega),if_neg (fun h=>h (wrongC_go hw h1 h2))]
 rw [shiftK_at hc,hs];rfl
end Go.Proofs.Ytegepioggeggaaa.Dev
namespace Go.Proofs.Ytegepioggeggaaa.Dev
theorem did_load {b:Bk} {n s:Int} {c:Card} (hn:0<=n/\n<=7) (hs:1<=s/\s<=1000000) (hc:b.cards[n.toNat]?=some c) (hw:wrongC c=0) (hm:c.money+s<=1000000000000) (hb:(wrongB b.book).err=0)
  (h1:-1000000000000<=getE b.book 0 - s) (h2:getE b.book (10+n)+s<=1000000000000):
  ∃ r,(∀ y,doB b y ⟨0,1,n,0,0,s⟩=({b with cards:=b.cards.set n.toNat ⟨c.money+s,c.held,c.pace,c.uses⟩,book:=r},y,⟨0,0⟩))/\(wrongB r).err=0/\∀ x,getE r x=getE b.book x+(if x=10+n then s else 0) - (if x=0 then s else 0):=by
 have hlt:=(List.getElem?_eq_some_iff.1 hc).1
 have hR:=rightC hw
 obtain ⟨r,hr,hrw,hrg⟩:=moveK_go (l:=b.book) (src:=0) (dst:=10+n) (n:=s) hb (by omega) (by omega) (by omega) (by omega) h1 h2
 refine ⟨r,fun y=>?_,hrw,hrg⟩
 have hS:=shiftK_go (l:=b.cards) (k:=n) (held:=0) (money:=s) hc hw (by omega) (by omega) (by omega) (by omega)
 have hL:loadB b ⟨0,1,n,0,0,s⟩=({b with cards:=b.cards.set n.toNat ⟨c.money+s,c.held,c.pace,c.uses⟩,book:=r},⟨0,0⟩):=by
  unfold loadB
  rw [if_neg (by dsimp only;omega),if_neg (by dsimp only;omega)]
  dsimp only
  rw [hS];dsimp only;rw [hr,Int.add_zero];rfl
 unfold doB;rw [if_pos rfl,hL]
theorem did_ask {b:Bk} {n p s:Int} {c c':Card} (hd:b.down=false) (hn:0<=n/\n<=7) (hp:0<=p/\p < b.due.length) (hp7:p<=7) (hs:1<=s/\s<=1000000) (ht:0<=b.time/\b.time<=1000000) (ha:b.auths.length < 30) (hc:b.cards[n.toNat]?=some c)
  (hA:allowC c s b.time=(c',0)) (y:List (List Int)):
  doB b y ⟨0,2,n,p,0,s⟩=({b with cards:=b.cards.set n.toNat c',auths:=b.auths++[⟨n,p,s,0,0,0,b.time+100,false⟩]},y,⟨0,b.auths.length⟩):=by
 have hlt:=(List.getElem?_eq_some_iff.1 hc).1
 have hN:newAuth n p s b.time=(⟨n,p,s,0,0,0,b.time+100,false⟩,0):=by unfold newAuth;rw [if_neg (by omega)]
 have hL:askB b ⟨0,2,n,p,0,s⟩=({b with cards:=b.cards.set n.toNat c',auths:=b.auths++[⟨n,p,s,0,0,0,b.time+100,false⟩]},⟨0,b.auths.length⟩):=by
  unfold askB
  rw [if_neg (by dsimp only;omega),if_neg (by rw [hd];decide)]
  dsimp only
  rw [hN,if_neg (by omega),if_neg (by simp)]
  dsimp only
  rw [hc]
  dsimp only
  rw [hA,if_neg (by simp)]
 unfold doB;rw [if_neg (by dsimp only;omega),if_pos rfl,hL]
theorem did_allow {c:Card} {s t:Int} (hw:wrongC c=0) (hs:1<=s/\s<=1000000) (ht:0<=t/\t<=1000000) (hm:c.held+s<=c.money) (hP:c.pace=⟨1000,30,1000000000000⟩) (hu:c.uses=[]):
  allowC c s t=(⟨c.money,c.held+s,⟨1000,30,1000000000000⟩,[⟨t,s⟩]⟩,0):=by
 have hR:=rightC hw
 have h1:(usesF [⟨t,s⟩]).err=0:=by
  have h0:uErr [⟨t,s⟩] 0=0:=by
   unfold uErr
   dsimp only [List.getElem?_cons_zero]
   rw [if_neg (by omega),if_neg (by omega)]
  unfold usesF uses
  rw [if_neg (by simp)]
  simp [scan,h0]
 have hA:addUse ⟨1000,30,1000000000000⟩ [] ⟨t,s⟩=([⟨t,s⟩],0):=by
  unfold addUse
  rw [if_neg (by decide),if_neg (by decide),if_neg (by omega),if_neg (by simp [lastLate])]
  rw [show recentP ⟨1000,30,1000000000000⟩ [] t=[] from rfl]
  rw [if_neg (by simp [sumU];omega)];rfl
 unfold allowC
 rw [if_neg (by omega),if_neg (by omega),if_neg (by omega),hP,hu,hA,if_neg (by simp)]
theorem did_tick {b:Bk} {s:Int} {a:Auth} (hd:b.down=false) (hs:0<=s/\s<=1000000) (ht:0<=b.time/\b.time+s<=1000000) (ha:b.auths=[a]) {cs:List Card} (hS:shiftK b.cards 0 a.card (holdAuth (lateAuth a (b.time+s)) - holdAuth a) 0=(cs,0)) (y:List (List Int)):
  doB b y ⟨0,4,0,0,0,s⟩=({b with time:=b.time+s,cards:=cs,auths:=[lateAuth a (b.time+s)]},y,⟨0,0⟩):=by
 have hL:tickB b ⟨0,4,0,0,0,s⟩=({b with time:=b.time+s,cards:=cs,auths:=[lateAuth a (b.time+s)]},⟨0,0⟩):=by
  unfold tickB
  rw [if_neg (by dsimp only;omega),if_neg (by rw [hd];decide)]
  dsimp only
  unfold lateB
  dsimp only
  rw [ha]
  unfold lateL
  rw [hS]
  unfold lateL
  rw [if_pos rfl]
  rfl
 unfold doB;rw [if_neg (by dsimp only;omega),if_neg (by dsimp only;omega),if_neg (by dsimp only;omega),if_pos rfl,hL]
theorem did_cap {b:Bk} {n m s:Int} {a a':Auth} {c:Card} {s':Sender} (hd:b.down=false) (hm:m=2\/m=3) (hs:1<=s/\s<=1000000) (hn:0<=n) (ha:b.auths[n.toNat]?=some a) (hM:moveAuth a m s=(a',0)) (hk:0<=a'.card/\a'.card<=7)
  (hc:b.cards[a'.card.toNat]?=some c) (hw:wrongC c=0) (h1:-1000000000000<=c.money - s) (h2:0<=c.held+(holdAuth a' - holdAuth a)/\c.held+(holdAuth a' - holdAuth a)<=1000000000000) (h3:-1000000000000<=holdAuth a' - holdAuth a/\holdAuth a' - holdAuth a<=1000000000000)
  (hb:(wrongB b.book).err=0) (h4:-1000000000000<=getE b.book (10+a'.card) - s) (h5:getE b.book 1+s<=1000000000000) (hP:putS b.s0 ⟨0,1,n,s⟩=(s',0)) (hT:b.today.length < 100):
  ∃ r,(∀ y,doB b y ⟨0,3,n,0,m,s⟩=({b with cards:=b.cards.set a'.card.toNat ⟨c.money - s,c.held+(holdAuth a' - holdAuth a),c.pace,c.uses⟩,book:=r,s0:=s',today:=b.today++[⟨a'.shop,n,m,s⟩],auths:=b.auths.set n.toNat a'},y,⟨0,0⟩))/\
   (wrongB r).err=0/\∀ x,getE r x=getE b.book x+(if x=1 then s else 0) - (if x=10+a'.card then s else 0):=by
 have hlt:=(List.getElem?_eq_some_iff.1 ha).1
 have hR:=rightC hw
 obtain ⟨r,hr,hrw,hrg⟩:=moveK_go (l:=b.book) (src:=10+a'.card) (dst:=1) (n:=s) hb (by omega) (by omega) (by omega) (by omega) h4 h5
 refine ⟨r,fun y=>?_,hrw,hrg⟩
 have hS:=shiftK_go (l:=b.cards) (k:=a'.card) (held:=holdAuth a' - holdAuth a) (money:=0 - s) hc hw (by omega) h2 h3 (by omega)
 rw [show c.money+(0 - s)=c.money - s by omega] at hS
 have hL:becomeB b ⟨0,3,n,0,m,s⟩=({b with cards:=b.cards.set a'.card.toNat ⟨c.money - s,c.held+(holdAuth a' - holdAuth a),c.pace,c.uses⟩,book:=r,s0:=s',today:=b.today++[⟨a'.shop,n,m,s⟩],auths:=b.auths.set n.toNat a'},⟨0,0⟩):=by
  unfold becomeB
  rw [if_neg (by rw [hd];decide),if_neg (by dsimp only;omega)]
  dsimp only
  rw [ha]
  dsimp only
  rw [hM,if_neg (by simp),if_neg (by omega)]
  unfold deedK
  dsimp only
  rw [if_neg (by omega),if_pos hm,hS]
  dsimp only
  rw [hr]
  unfold sendK
  rw [hP]
  unfold doneB noteK
  dsimp only
  rw [if_pos (show failK 0 0=0 from rfl),if_neg (show ¬b.today.length=100 by omega)]
  rfl
 unfold doB;rw [if_neg (by dsimp only;omega),if_neg (by dsimp only;omega),if_pos rfl,hL]
def PT:Pace:=⟨1000,30,1000000000000⟩
theorem wrongCT {m h:Int} (h1:-1000000000000<=m/\m<=1000000000000) (h2:0<=h/\h<=1000000000000):wrongC ⟨m,h,PT,[]⟩=0:=by
 unfold wrongC;rw [if_neg (by dsimp only;omega)];rfl
theorem put_first {k s:Int} (hk:1<=k/\k<=3) (hs:1<=s/\s<=1000000):putS ⟨0,[]⟩ ⟨0,k,0,s⟩=(⟨1,[⟨1,k,0,s⟩]⟩,0):=by
 have h0:tErr (outS ⟨0,[]⟩ ⟨0,k,0,s⟩) 0=0:=by
  unfold tErr outS
  simp only [List.nil_append,List.getElem?_cons_zero,List.length_singleton]
  rw [if_neg (by omega),if_neg (by omega),if_neg (by omega)]
 have hw:(wrongSF (outS ⟨0,[]⟩ ⟨0,k,0,s⟩)).err=0:=by
  unfold wrongSF wrongS
  rw [if_neg (by simp [outS]),if_neg (by simp [outS])]
  show (scan (tErr (outS ⟨0,[]⟩ ⟨0,k,0,s⟩)) 0 1).1=0
  simp [scan,h0]
 unfold putS
 rw [if_neg (by decide),if_neg (fun h=>h hw)]
 rfl
theorem did_not {b:Bk} {n m s e:Int} {a x:Auth} (hd:b.down=false) (hn:0<=n) (ha:b.auths[n.toNat]?=some a) (hM:moveAuth a m s=(x,e)) (he:e≠0) (y:List (List Int)):doB b y ⟨0,3,n,0,m,s⟩=(b,y,⟨e,0⟩):=by
 have hlt:=(List.getElem?_eq_some_iff.1 ha).1
 have hL:becomeB b ⟨0,3,n,0,m,s⟩=(b,⟨e,0⟩):=by
  unfold becomeB
  rw [if_neg (by rw [hd];decide),if_neg (by dsimp only;omega)]
  dsimp only
  rw [ha]
  dsimp only
  rw [hM,if_pos he]
 unfold doB;rw [if_neg (by dsimp only;omega),if_neg (by dsimp only;omega),if_pos rfl,hL]
theorem move_open {a:Auth} {m s:Int} (hw:wrongAuth a=0) (hm:1<=m/\m<=4) (hs:1<=s/\s<=1000000):moveAuth a m s=if (openAuth a m s).2≠0 then (noAuth,(openAuth a m s).2) else openAuth a m s:=by
 unfold moveAuth
 rw [if_neg (fun h=>h hw),if_neg (by omega),if_neg (by omega),if_neg (by omega),if_neg (by omega),if_neg (by omega),if_neg (by omega)]
theorem move_shut {a:Auth} {m s:Int} (hw:wrongAuth a=0) (hm:1<=m/\m<=4) (hs:1<=s/\s<=1000000) (h:a.shut=true):moveAuth a m s=(noAuth,9):=by
 have:openAuth a m s=(a,9):=by unfold openAuth;rw [if_pos h]
 rw [move_open hw hm hs,this,if_pos (by simp)]
theorem move_cap {a:Auth} {m s:Int} (hw:wrongAuth a=0) (hm:m=2\/m=3) (hs:1<=s/\s<=1000000) (h:a.shut=false) (hc:s<=a.sum - a.captured):
  moveAuth a m s=(⟨a.card,a.shop,a.sum,a.captured+s,a.refunded,a.disputed,a.till,decide (m=3)||decide (a.captured+s=a.sum)⟩,0):=by
 have:openAuth a m s=(⟨a.card,a.shop,a.sum,a.captured+s,a.refunded,a.disputed,a.till,decide (m=3)||decide (a.captured+s=a.sum)⟩,0):=by
  unfold openAuth;rw [if_neg (by rw [h];decide),if_neg (by omega),if_neg (by omega),if_neg (by omega)]
 rw [move_open hw (by omega) hs,this,if_neg (by simp)]
end Go.Proofs.Ytegepioggeggaaa.Dev
namespace Go.Proofs.Ytegepioggeggaaa.Dev
theorem wrongC_one {m h t n:Int} (h1:-1000000000000<=m/\m<=1000000000000) (h2:0<=h/\h<=1000000000000) (ht:0<=t/\t<=1000000) (hn:0<=n/\n<=1000000):wrongC ⟨m,h,PT,[⟨t,n⟩]⟩=0:=by
 unfold wrongC;rw [if_neg (by dsimp only;omega),if_neg (show ¬wrongP PT≠0 by decide)]
 have h0:uErr [⟨t,n⟩] 0=0:=by
  unfold uErr
  dsimp only [List.getElem?_cons_zero]
  rw [if_neg (by omega),if_neg (by omega)]
 unfold usesF uses
 rw [if_neg (by simp)]
 simp [scan,h0]
theorem small2 {a b:Int} {r:Bool} (h:decide (∀ n∈[a,b],1<=n/\n<=100000)=r) (hr:r=true):1<=a/\a<=100000/\1<=b/\b<=100000:=by
 rw [hr] at h
 have h':=of_decide_eq_true h
 exact ⟨(h' a (by simp)).1,(h' a (by simp)).2,(h' b (by simp)).1,(h' b (by simp)).2⟩
theorem over_law {has asked t:Int} (h1:1<=asked) (h2:asked<=has) (h3:has<=100000) (h4:0<=t) (h5:t<=500) {b:Bk} {y:List (List Int)} {o:List Answer} {f:Fault}
  (hr:playR ⟨[⟨1000,30,1000000000000⟩,⟨1000,30,1000000000000⟩],2,0⟩ [⟨0,1,0,0,0,has⟩,⟨0,2,0,0,0,asked⟩,⟨0,4,0,0,0,t⟩,⟨0,3,0,0,2,1⟩]=(b,y,o,f)):
  f.err=0/\o.length=4/\b.cards.length=2/\(100<=t->(∀ x,o[3]?=some x->x.err=9)/\∀ c,b.cards[0]?=some c->c.held=0/\c.money=has)/\(t < 100->(∀ x,o[3]?=some x->x.err=0)/\∀ c,b.cards[0]?=some c->c.held=asked - 1):=by
 rw [playT (by omega) (by omega) (by simp) (by simp)] at hr
 obtain ⟨r1,d1,w1,g1⟩:=did_load (b:=startT 0) (n:=0) (s:=has) (c:=⟨0,0,PT,[]⟩) (by omega) (by omega) rfl (wrongCT (by omega) (by omega)) (by dsimp only;omega) (by decide) (by simp [startT,getE];omega) (by simp [startT,getE];omega)
 have e1:∀ y,doB (startT 0) y ⟨0,1,0,0,0,has⟩=((⟨0,false,[⟨0+has,0,PT,[]⟩,⟨0,0,PT,[]⟩],[0,0],[],⟨0,[]⟩,⟨0,[]⟩,0,0,[],[],⟨0,[0,0],[]⟩,[],r1⟩:Bk),y,⟨0,0⟩):=d1
 have e2:∀ y,doB (⟨0,false,[⟨0+has,0,PT,[]⟩,⟨0,0,PT,[]⟩],[0,0],[],⟨0,[]⟩,⟨0,[]⟩,0,0,[],[],⟨0,[0,0],[]⟩,[],r1⟩:Bk) y ⟨0,2,0,0,0,asked⟩=((⟨0,false,[⟨0+has,0+asked,PT,[⟨0,asked⟩]⟩,⟨0,0,PT,[]⟩],[0,0],[⟨0,0,asked,0,0,0,0+100,false⟩],⟨0,[]⟩,⟨0,[]⟩,0,0,[],[],⟨0,[0,0],[]⟩,[],r1⟩:Bk),y,⟨0,0⟩):=fun y=>did_ask (b:=(⟨0,false,[⟨0+has,0,PT,[]⟩,⟨0,0,PT,[]⟩],[0,0],[],⟨0,[]⟩,⟨0,[]⟩,0,0,[],[],⟨0,[0,0],[]⟩,[],r1⟩:Bk)) (n:=0) (p:=0) (s:=asked) rfl (by omega) (by simp) (by omega) (by omega) (by simp) (by simp) rfl
  (did_allow (wrongCT (by omega) (by omega)) (by omega) (by simp) (by dsimp only;omega) rfl rfl) y
 have w2:wrongC ⟨0+has,0+asked,PT,[⟨0,asked⟩]⟩=0:=wrongC_one (by omega) (by omega) (by omega) (by omega)
 have e3:∀ y (cs:List Card) (hS:shiftK [⟨0+has,0+asked,PT,[⟨0,asked⟩]⟩,⟨0,0,PT,[]⟩] 0 0 (holdAuth (lateAuth ⟨0,0,asked,0,0,0,0+100,false⟩ (0+t)) - holdAuth ⟨0,0,asked,0,0,0,0+100,false⟩) 0=(cs,0)),doB (⟨0,false,[⟨0+has,0+asked,PT,[⟨0,asked⟩]⟩,⟨0,0,PT,[]⟩],[0,0],[⟨0,0,asked,0,0,0,0+100,false⟩],⟨0,[]⟩,⟨0,[]⟩,0,0,[],[],⟨0,[0,0],[]⟩,[],r1⟩:Bk) y ⟨0,4,0,0,0,t⟩=(⟨0+t,false,cs,[0,0],[lateAuth ⟨0,0,asked,0,0,0,0+100,false⟩ (0+t)],⟨0,[]⟩,⟨0,[]⟩,0,0,[],[],⟨0,[0,0],[]⟩,[],r1⟩,y,⟨0,0⟩):=
  fun y cs hS=>did_tick (b:=(⟨0,false,[⟨0+has,0+asked,PT,[⟨0,asked⟩]⟩,⟨0,0,PT,[]⟩],[0,0],[⟨0,0,asked,0,0,0,0+100,false⟩],⟨0,[]⟩,⟨0,[]⟩,0,0,[],[],⟨0,[0,0],[]⟩,[],r1⟩:Bk)) (s:=t) (a:=⟨0,0,asked,0,0,0,0+100,false⟩) rfl (by omega) (by dsimp only;omega) rfl hS y
 have hold2:holdAuth ⟨0,0,asked,0,0,0,0+100,false⟩=asked:=by simp [holdAuth]
 rw [runL_cons (e1 _),runL_cons (e2 _)] at hr
 by_cases hl:100<=t
 ·have hA:lateAuth ⟨0,0,asked,0,0,0,0+100,false⟩ (0+t)=⟨0,0,asked,0,0,0,0+100,true⟩:=by simp [lateAuth];omega
  have hS:=shiftK_go (l:=[⟨0+has,0+asked,PT,[⟨0,asked⟩]⟩,⟨0,0,PT,[]⟩]) (k:=0) (held:=0 - asked) (money:=0) rfl w2 (by dsimp only;omega) (by dsimp only;omega) (by omega) (by omega)
  rw [hA,hold2,show holdAuth ⟨0,0,asked,0,0,0,0+100,true⟩=0 from rfl] at e3
  rw [runL_cons (e3 _ _ hS)] at hr
  have hM:moveAuth ⟨0,0,asked,0,0,0,0+100,true⟩ 2 1=(noAuth,9):=move_shut (wrong_of (by dsimp only;omega)) (by omega) (by omega) rfl
  rw [runL_cons (did_not (n:=0) rfl (by omega) rfl hM (by decide) _)] at hr
  simp only [runL,Prod.mk.injEq] at hr
  obtain ⟨rfl,rfl,rfl,rfl⟩:=hr
  refine ⟨rfl,rfl,rfl,fun _=>⟨fun x hx=>?_,fun c hc=>?_⟩,fun h=>by omega⟩
  ·simp at hx;subst hx;rfl
  ·simp at hc;subst hc;constructor<;>first|omega|(dsimp only;omega)|(dsimp only;done)
 ·have hA:lateAuth ⟨0,0,asked,0,0,0,0+100,false⟩ (0+t)=⟨0,0,asked,0,0,0,0+100,false⟩:=by simp [lateAuth];omega
  have hS:=shiftK_go (l:=[⟨0+has,0+asked,PT,[⟨0,asked⟩]⟩,⟨0,0,PT,[]⟩]) (k:=0) (held:=asked - asked) (money:=0) rfl w2 (by dsimp only;omega) (by dsimp only;omega) (by omega) (by omega)
  rw [hA,hold2] at e3
  rw [runL_cons (e3 _ [⟨0+has+0,0+asked+(asked - asked),PT,[⟨0,asked⟩]⟩,⟨0,0,PT,[]⟩] hS)] at hr
  have hM:=move_cap (a:=⟨0,0,asked,0,0,0,0+100,false⟩) (m:=2) (s:=1) (wrong_of (by dsimp only;omega)) (by omega) (by omega) rfl (by dsimp only;omega)
  have hold3:holdAuth ⟨0,0,asked,0+1,0,0,0+100,decide ((2:Int)=3)||decide ((0:Int)+1=asked)⟩=asked - 1:=by
   unfold holdAuth
   dsimp only
   split
   ·rename_i h;simp at h;omega
   ·omega
  obtain ⟨r2,d4,w4,g4⟩:=did_cap (b:=⟨0+t,false,[⟨0+has+0,0+asked+(asked - asked),PT,[⟨0,asked⟩]⟩,⟨0,0,PT,[]⟩],[0,0],[⟨0,0,asked,0,0,0,0+100,false⟩],⟨0,[]⟩,⟨0,[]⟩,0,0,[],[],⟨0,[0,0],[]⟩,[],r1⟩) (n:=0) (m:=2) (s:=1) (c:=⟨0+has+0,0+asked+(asked - asked),PT,[⟨0,asked⟩]⟩)
   rfl (by omega) (by omega) (by omega) rfl hM (by dsimp only;omega) rfl (wrongC_one (by omega) (by omega) (by omega) (by omega)) (by dsimp only;omega) (by rw [hold3,hold2];dsimp only;omega) (by rw [hold3,hold2];omega) w1 (by have:=g1 10;simp [startT,getE] at this;dsimp only;rw [show (10:Int)+0=10 by omega,this];omega) (by have:=g1 1;simp [startT,getE] at this;dsimp only;rw [this];omega) (put_first (by omega) (by omega)) (by simp)
  rw [hold3,hold2] at d4
  rw [runL_cons (d4 _)] at hr
  simp only [runL,Prod.mk.injEq] at hr
  obtain ⟨rfl,rfl,rfl,rfl⟩:=hr
  refine ⟨rfl,rfl,rfl,fun h=>by omega,fun _=>⟨fun x hx=>?_,fun c hc=>?_⟩⟩
  ·simp at hx;subst hx;rfl
  ·simp at hc;subst hc;dsimp only;omega
end Go.Proofs.Ytegepioggeggaaa.Dev
namespace Go.Proofs.Ytegepioggeggaaa.Dev
open Go.RowKit

set_option maxRecDepth 100000 in
set_option maxHeartbeats 8000000 in
theorem c_TopOver (has asked ticks:Int):Fn Try.prog 4 [(.c (cI has)),(.c (cI asked)),(.c (cI ticks))] (aB true) []:=by
 refine Fn.mk' 88 [(0,(aI has)),(1,(aI asked)),(2,(aI ticks))] Try.func4 rfl rfl rfl rfl ?_
 intro W0 T0
 refine AC.goes ttk 1 rfl ?_
 refine AC.seq ?_
 refine AC.sr ?_
 refine AL.cn 0 [] (g_call 0 (c_aliveT) en17 rfl rfl trivial trivial trivial rfl rfl rfl rfl) rfl ?_
 refine AL.runs ttk 1 rfl ?_
 refine AL.nx ?_
 refine AC.cond rfl (fun hno=>by cases hno) (fun _=>?_)
 refine AC.sk ?_
 refine AC.seq ?_
 refine AC.go ttk 2 rfl ?_
 refine AL.cn 1 [0] (g_lit (ys:=[(0,(.c (cI has))),(1,(.c (cI asked)))]) (rows:=([has,asked]).map rI) 0 sl30 rfl (by decide) ⟨⟨rfl,rfl⟩,⟨rfl,rfl⟩,trivial⟩ rfl rfl rfl rfl) rfl ?_
 refine AL.freeze (s':=[(0,(aI has)),(1,(aI asked)),(2,(aI ticks)),(6,(aB false)),(11,(aB true)),(12,(aB false)),(13,(aI has)),(14,(aI asked)),(15,(aC (vlI ([has,asked]))))]) (h':=[]) 0 rfl ⟨⟨_,rfl,.inl ⟨rfl,rfl⟩⟩,⟨_,rfl,.inl ⟨rfl,rfl⟩⟩,⟨_,rfl,.inl ⟨rfl,rfl⟩⟩,⟨_,rfl,.inl ⟨rfl,rfl⟩⟩,⟨_,rfl,.inl ⟨rfl,rfl⟩⟩,⟨_,rfl,.inl ⟨rfl,rfl⟩⟩,⟨_,rfl,.inl ⟨rfl,rfl⟩⟩,⟨_,rfl,.inl ⟨rfl,rfl⟩⟩,⟨_,rfl,.inr ⟨_,_,rfl,rfl,.s rfl (by decide) (by first|omega|(simp;done)|(simp;omega))⟩⟩,trivial⟩ trivial rfl ?_
 obtain ⟨r0,hr0⟩:∃ (r0:Bool),smallT ([has,asked])=r0:=⟨_,rfl⟩
 refine AL.cn 1 [] (g_call 1 (c_small ([has,asked]) r0 hr0) en18 rfl rfl ⟨⟨_,rfl,.c (.d _)⟩,trivial⟩ trivial trivial rfl rfl rfl rfl) rfl ?_
 refine AL.runs ttk 2 rfl ?_
 refine AL.dec (t:=18) rfl (fun hb2=>?_) (fun hb2=>?_)
 ·
  have hb2':=hb2;try simp only [sumB,dns] at hb2'
  refine AL.runs ttk 12 rfl ?_
  refine AL.nx ?_
  refine AC.cond rfl (fun _=>?_) (fun hno=>by cases hno)
  refine AC.goes ttk 1 rfl ?_
  refine AC.ret ?_
  refine then_ret ?_
  refine retQ_go ttk [] 0 rfl rfl rfl rfl rfl rfl ?_ ?_
  ·rfl
  ·rfl
 have hb2':=hb2;try simp only [sumB,dns] at hb2'
 refine AL.runs ttk 5 rfl ?_
 refine AL.dec (t:=23) rfl (fun hb4=>?_) (fun hb4=>?_)
 ·
  have hb4':=of_decide_eq_true hb4
  refine AL.runs ttk 7 rfl ?_
  refine AL.nx ?_
  refine AC.cond rfl (fun _=>?_) (fun hno=>by cases hno)
  refine AC.goes ttk 1 rfl ?_
  refine AC.ret ?_
  refine then_ret ?_
  refine retQ_go ttk [] 0 rfl rfl rfl rfl rfl rfl ?_ ?_
  ·rfl
  ·rfl
 have hb4':=of_decide_eq_false hb4
 refine AL.runs ttk 4 rfl ?_
 refine AL.dec (t:=27) rfl (fun hb6=>?_) (fun hb6=>?_)
 ·
  have hb6':=of_decide_eq_true hb6
  refine AL.runs ttk 3 rfl ?_
  refine AL.nx ?_
  refine AC.cond rfl (fun _=>?_) (fun hno=>by cases hno)
  refine AC.goes ttk 1 rfl ?_
  refine AC.ret ?_
  refine then_ret ?_
  refine retQ_go ttk [] 0 rfl rfl rfl rfl rfl rfl ?_ ?_
  ·rfl
  ·rfl
 have hb6':=of_decide_eq_false hb6
 refine AL.runs ttk 3 rfl ?_
 refine AL.nx ?_
 refine AC.cond rfl (fun hc8=>?_) (fun hc8=>?_)
 ·
  have hc8':=of_decide_eq_true hc8
  refine AC.goes ttk 1 rfl ?_
  refine AC.ret ?_
  refine then_ret ?_
  refine retQ_go ttk [] 0 rfl rfl rfl rfl rfl rfl ?_ ?_
  ·rfl
  ·rfl
 have hc8':=of_decide_eq_false hc8
 refine AC.sk ?_
 have hsm:=small2 hr0 (by assumption)
 refine AC.sr ?_
 refine AL.cn 1 [] (g_call 1 (Fn.frozen (av':=(aG [(cR 3 (([(⟨1000,30,1000000000000⟩:Pace),(⟨1000,30,1000000000000⟩:Pace)]).map rPace)),(cI 2),(cI 0)])) (c_setupT 0) ⟨.inr ⟨_,_,_,_,_,rfl,rfl,rfl,by simp⟩,.inl ⟨_,rfl,rfl⟩,.inl ⟨_,rfl,rfl⟩,trivial⟩) en23 rfl rfl ⟨⟨_,rfl,.c (.d _)⟩,trivial⟩ ⟨trivial,trivial,trivial,trivial⟩ trivial rfl rfl rfl rfl) rfl ?_
 refine AL.runs ttk 1 rfl ?_
 refine AL.cn 1 [] (g_call 1 (c_doT 1 0 has) en20 rfl rfl ⟨⟨_,rfl,.c (.d _)⟩,⟨_,rfl,.c (.d _)⟩,⟨_,rfl,.c (.d _)⟩,trivial⟩ ⟨trivial,trivial,trivial,trivial,trivial,trivial,trivial⟩ trivial rfl rfl rfl rfl) rfl ?_
 refine AL.runs ttk 1 rfl ?_
 refine AL.cn 1 [] (g_call 1 (c_doT 2 0 asked) en20 rfl rfl ⟨⟨_,rfl,.c (.d _)⟩,⟨_,rfl,.c (.d _)⟩,⟨_,rfl,.c (.d _)⟩,trivial⟩ ⟨trivial,trivial,trivial,trivial,trivial,trivial,trivial⟩ trivial rfl rfl rfl rfl) rfl ?_
 refine AL.runs ttk 1 rfl ?_
 refine AL.cn 1 [] (g_call 1 (c_doT 4 0 ticks) en20 rfl rfl ⟨⟨_,rfl,.c (.d _)⟩,⟨_,rfl,.c (.d _)⟩,⟨_,rfl,.c (.d _)⟩,trivial⟩ ⟨trivial,trivial,trivial,trivial,trivial,trivial,trivial⟩ trivial rfl rfl rfl rfl) rfl ?_
 refine AL.cn 1 [] (g_call 1 (c_moveT 2 0 1) en21 rfl rfl ⟨⟨_,rfl,.c (.d _)⟩,⟨_,rfl,.c (.d _)⟩,⟨_,rfl,.c (.d _)⟩,trivial⟩ ⟨trivial,trivial,trivial,trivial,trivial,trivial,trivial⟩ trivial rfl rfl rfl rfl) rfl ?_
 refine AL.cn 2 [1] (g_lit (ys:=[(0,(.g [(cI 0),(cI 1),(cI 0),(cI 0),(cI 0),(cI has)])),(1,(.g [(cI 0),(cI 2),(cI 0),(cI 0),(cI 0),(cI asked)])),(2,(.g [(cI 0),(cI 4),(cI 0),(cI 0),(cI 0),(cI ticks)])),(3,(.g [(cI 0),(cI 3),(cI 0),(cI 0),(cI 2),(cI 1)]))]) (rows:=([(⟨0,1,0,0,0,has⟩:Deed),(⟨0,2,0,0,0,asked⟩:Deed),(⟨0,4,0,0,0,ticks⟩:Deed),(⟨0,3,0,0,2,1⟩:Deed)]).map rDeed) 1 sl24 rfl (by decide) ⟨⟨rfl,rfl⟩,⟨rfl,rfl⟩,⟨rfl,rfl⟩,⟨rfl,rfl⟩,trivial⟩ rfl rfl rfl rfl) rfl ?_
 refine AL.freeze (s':=[(0,(aI has)),(1,(aI asked)),(2,(aI ticks)),(6,(aB false)),(11,(aB true)),(12,(aB false)),(13,(aI has)),(14,(aI asked)),(15,(aC (vlI ([has,asked])))),(16,(aB r0)),(17,(aB (!r0))),(18,(aB false)),(19,(aI asked)),(20,(aI has)),(21,(aB (decide (asked > has)))),(22,(aB (decide (asked > has)))),(23,(aB false)),(24,(aI ticks)),(25,(aB (decide (ticks < 0)))),(26,(aB (decide (ticks < 0)))),(27,(aB false)),(28,(aI ticks)),(29,(aB (decide (ticks > 500)))),(30,(aB (decide (ticks > 500)))),(32,(aG [(cR 3 (([(⟨1000,30,1000000000000⟩:Pace),(⟨1000,30,1000000000000⟩:Pace)]).map rPace)),(cI 2),(cI 0)])),(33,(aI has)),(34,(aG [(cI 0),(cI 1),(cI 0),(cI 0),(cI 0),(cI has)])),(35,(aI asked)),(36,(aG [(cI 0),(cI 2),(cI 0),(cI 0),(cI 0),(cI asked)])),(37,(aI ticks)),(38,(aG [(cI 0),(cI 4),(cI 0),(cI 0),(cI 0),(cI ticks)])),(39,(aG [(cI 0),(cI 3),(cI 0),(cI 0),(cI 2),(cI 1)])),(40,(aC (vlD ([(⟨0,1,0,0,0,has⟩:Deed),(⟨0,2,0,0,0,asked⟩:Deed),(⟨0,4,0,0,0,ticks⟩:Deed),(⟨0,3,0,0,2,1⟩:Deed)]))))]) (h':=[]) 1 rfl ⟨⟨_,rfl,.inl ⟨rfl,rfl⟩⟩,⟨_,rfl,.inl ⟨rfl,rfl⟩⟩,⟨_,rfl,.inl ⟨rfl,rfl⟩⟩,⟨_,rfl,.inl ⟨rfl,rfl⟩⟩,⟨_,rfl,.inl ⟨rfl,rfl⟩⟩,⟨_,rfl,.inl ⟨rfl,rfl⟩⟩,⟨_,rfl,.inl ⟨rfl,rfl⟩⟩,⟨_,rfl,.inl ⟨rfl,rfl⟩⟩,⟨_,rfl,.inl ⟨rfl,rfl⟩⟩,⟨_,rfl,.inl ⟨rfl,rfl⟩⟩,⟨_,rfl,.inl ⟨rfl,rfl⟩⟩,⟨_,rfl,.inl ⟨rfl,rfl⟩⟩,⟨_,rfl,.inl ⟨rfl,rfl⟩⟩,⟨_,rfl,.inl ⟨rfl,rfl⟩⟩,⟨_,rfl,.inl ⟨rfl,rfl⟩⟩,⟨_,rfl,.inl ⟨rfl,rfl⟩⟩,⟨_,rfl,.inl ⟨rfl,rfl⟩⟩,⟨_,rfl,.inl ⟨rfl,rfl⟩⟩,⟨_,rfl,.inl ⟨rfl,rfl⟩⟩,⟨_,rfl,.inl ⟨rfl,rfl⟩⟩,⟨_,rfl,.inl ⟨rfl,rfl⟩⟩,⟨_,rfl,.inl ⟨rfl,rfl⟩⟩,⟨_,rfl,.inl ⟨rfl,rfl⟩⟩,⟨_,rfl,.inl ⟨rfl,rfl⟩⟩,⟨_,rfl,.inl ⟨rfl,rfl⟩⟩,⟨_,rfl,.inl ⟨rfl,rfl⟩⟩,⟨_,rfl,.inl ⟨rfl,rfl⟩⟩,⟨_,rfl,.inl ⟨rfl,rfl⟩⟩,⟨_,rfl,.inl ⟨rfl,rfl⟩⟩,⟨_,rfl,.inl ⟨rfl,rfl⟩⟩,⟨_,rfl,.inl ⟨rfl,rfl⟩⟩,⟨_,rfl,.inl ⟨rfl,rfl⟩⟩,⟨_,rfl,.inr ⟨_,_,rfl,rfl,.s rfl (by decide) (by first|omega|(simp;done)|(simp;omega))⟩⟩,trivial⟩ trivial rfl ?_
 obtain ⟨b21,y21,o21,f21,hr1⟩:∃ (b21:Bk) (y21:List (List Int)) (o21:List Answer) (f21:Fault),playR (⟨[(⟨1000,30,1000000000000⟩:Pace),(⟨1000,30,1000000000000⟩:Pace)],2,0⟩:Setup) ([(⟨0,1,0,0,0,has⟩:Deed),(⟨0,2,0,0,0,asked⟩:Deed),(⟨0,4,0,0,0,ticks⟩:Deed),(⟨0,3,0,0,2,1⟩:Deed)])=(b21,y21,o21,f21):=⟨_,_,_,_,rfl⟩
 obtain ⟨ho1,ho2,ho3,ho4,ho5⟩:=over_law (by omega) (by omega) (by omega) (by omega) (by omega) hr1
 refine AL.cn 2 [] (g_call 2 (Fn.frozen (av':=(.t [(.g [(cI b21.time),(cB b21.down),(vlC b21.cards),(vlI b21.due),(vlP b21.auths),(cI b21.s0.sent),(vlT b21.s0.kept),(cI b21.s1.sent),(vlT b21.s1.kept),(cI b21.n0),(cI b21.n1),(vlK b21.w0),(vlK b21.w1),(cI b21.stand.cap),(vlI b21.stand.used),(vlA b21.stand.advices),(vlR b21.today),(vlY y21),(vlE b21.book)]),(.c (vlN o21)),(.g [(cI f21.err),(cI f21.at_)])])) (c_Play (⟨[(⟨1000,30,1000000000000⟩:Pace),(⟨1000,30,1000000000000⟩:Pace)],2,0⟩:Setup) ([(⟨0,1,0,0,0,has⟩:Deed),(⟨0,2,0,0,0,asked⟩:Deed),(⟨0,4,0,0,0,ticks⟩:Deed),(⟨0,3,0,0,2,1⟩:Deed)]) b21 y21 o21 f21 hr1) ⟨⟨.inl ⟨_,rfl,rfl⟩,.inl ⟨_,rfl,rfl⟩,.inr ⟨_,_,_,_,_,rfl,rfl,rfl,by simp⟩,.inr ⟨_,_,_,_,_,rfl,rfl,rfl,by simp⟩,.inr ⟨_,_,_,_,_,rfl,rfl,rfl,by simp⟩,.inl ⟨_,rfl,rfl⟩,.inl ⟨_,rfl,rfl⟩,.inl ⟨_,rfl,rfl⟩,.inl ⟨_,rfl,rfl⟩,.inl ⟨_,rfl,rfl⟩,.inl ⟨_,rfl,rfl⟩,.inl ⟨_,rfl,rfl⟩,.inl ⟨_,rfl,rfl⟩,.inl ⟨_,rfl,rfl⟩,.inl ⟨_,rfl,rfl⟩,.inl ⟨_,rfl,rfl⟩,.inr ⟨_,_,_,_,_,rfl,rfl,rfl,by simp⟩,.inr ⟨_,_,_,_,_,rfl,rfl,rfl,by simp⟩,.inl ⟨_,rfl,rfl⟩,trivial⟩,.inr ⟨_,_,_,_,_,rfl,rfl,rfl,by simp⟩,⟨.inl ⟨_,rfl,rfl⟩,.inl ⟨_,rfl,rfl⟩,trivial⟩,trivial⟩) en22 rfl rfl ⟨⟨_,rfl,.g ⟨.d _,.d _,.d _,trivial⟩⟩,⟨_,rfl,.c (.d _)⟩,trivial⟩ ⟨⟨trivial,trivial,trivial,trivial,trivial,trivial,trivial,trivial,trivial,trivial,trivial,trivial,trivial,trivial,trivial,trivial,trivial,trivial,trivial,trivial⟩,trivial,⟨trivial,trivial,trivial⟩,trivial⟩ trivial rfl rfl rfl rfl) rfl ?_
 refine AL.runs ttk 9 rfl ?_
 refine AL.nx ?_
 refine AC.seq ?_
 refine AC.goes ttk 3 rfl ?_
 refine AC.cond rfl (fun hc9=>?_) (fun hc9=>?_)
 ·
  have hc9':=of_decide_eq_true hc9
  refine AC.goes ttk 1 rfl ?_
  refine AC.ret ?_
  refine then_ret ?_
  refine retQ_go ttk [] 0 rfl rfl rfl rfl rfl rfl ?_ ?_
  ·exact congrArg aB (show (false)=true by (first|(exfalso;omega)|exact decide_eq_true (by omega)))
  ·rfl
 have hc9':=of_decide_eq_false hc9
 refine AC.sk ?_
 refine AC.goes ttk 3 rfl ?_
 refine AC.seq ?_
 refine AC.goes ttk 1 rfl ?_
 refine AC.cond rfl (fun hc10=>?_) (fun hc10=>?_)
 ·
  have hc10':=of_decide_eq_true hc10
  refine AC.go ttk 1 rfl ?_
  obtain ⟨x1,hx1⟩:=exget (xs:=o21) (i:=3) (by first|omega|(simp;done)|(simp;omega))
  have hx1K:(100<=ticks->x1.err=9)/\(ticks < 100->x1.err=0):=⟨fun z=>(ho4 z).1 x1 hx1,fun z=>(ho5 z).1 x1 hx1⟩
  refine AL.vl (g_indexQ (i:=3) rfl rfl rfl Try.underlying47 sz65 (by first|omega|(simp;done)|(simp;omega)) (getmap hx1)) rfl ?_
  refine AL.runs ttk 4 rfl ?_
  refine AL.dec (t:=56) rfl (fun hb11=>?_) (fun hb11=>?_)
  ·
   have hb11':=of_decide_eq_true hb11
   refine AL.runs ttk 2 rfl ?_
   obtain ⟨x2,hx2⟩:=exget (xs:=b21.cards) (i:=0) (by first|omega|(simp;done)|(simp;omega))
   have hx2K:(100<=ticks->x2.held=0/\x2.money=has)/\(ticks < 100->x2.held=asked - 1):=⟨fun z=>(ho4 z).2 x2 hx2,fun z=>(ho5 z).2 x2 hx2⟩
   refine AL.val (Wanted.yes rfl rfl rfl) (g_indexQ (i:=0) rfl rfl rfl Try.underlying29 sz61 (by first|omega|(simp;done)|(simp;omega)) (getmap hx2)) rfl rfl ?_
   refine AL.runs ttk 5 rfl ?_
   refine AL.dec (t:=64) rfl (fun hb12=>?_) (fun hb12=>?_)
   ·
    have hb12':=of_decide_eq_true hb12
    refine AL.runs ttk 2 rfl ?_
    refine AL.val (Wanted.yes rfl rfl rfl) (g_indexQ (i:=0) rfl rfl rfl Try.underlying29 sz61 (by first|omega|(simp;done)|(simp;omega)) (getmap hx2)) rfl rfl ?_
    refine AL.runs ttk 1 rfl ?_
    refine AL.cy 4 [3,2] (Wanted.yes rfl rfl rfl) (g_call 4 (c_card_Free x2 (by first|assumption|omega|(constructor<;>decide)|(have hz:=rightC (by first|assumption|omega);omega))) en24 rfl rfl ⟨⟨_,rfl,.g ⟨.d _,.d _,.d _,.d _,.d _,.d _,trivial⟩⟩,trivial⟩ trivial trivial rfl rfl rfl rfl) rfl ?_
    refine AL.runs ttk 4 rfl ?_
    refine AL.nx ?_
    refine AC.ret ?_
    refine then_ret ?_
    refine retQ_go ttk [] 0 rfl rfl rfl rfl rfl rfl ?_ ?_
    ·exact congrArg aB (show (decide ((x2.money - x2.held)=has))=true by (first|(exfalso;omega)|exact decide_eq_true (by omega)))
    ·rfl
   have hb12':=of_decide_eq_false hb12
   refine AL.runs ttk 9 rfl ?_
   refine AL.nx ?_
   refine AC.ret ?_
   refine then_ret ?_
   refine retQ_go ttk [] 0 rfl rfl rfl rfl rfl rfl ?_ ?_
   ·exact congrArg aB (show (false)=true by (first|(exfalso;omega)|exact decide_eq_true (by omega)))
   ·rfl
  have hb11':=of_decide_eq_false hb11
  refine AL.runs ttk 17 rfl ?_
  refine AL.nx ?_
  refine AC.ret ?_
  refine then_ret ?_
  refine retQ_go ttk [] 0 rfl rfl rfl rfl rfl rfl ?_ ?_
  ·exact congrArg aB (show (false)=true by (first|(exfalso;omega)|exact decide_eq_true (by omega)))
  ·rfl
 have hc10':=of_decide_eq_false hc10
 refine AC.sk ?_
 refine AC.go ttk 1 rfl ?_
 obtain ⟨x1,hx1⟩:=exget (xs:=o21) (i:=3) (by first|omega|(simp;done)|(simp;omega))
 have hx1K:(100<=ticks->x1.err=9)/\(ticks < 100->x1.err=0):=⟨fun z=>(ho4 z).1 x1 hx1,fun z=>(ho5 z).1 x1 hx1⟩
 refine AL.vl (g_indexQ (i:=3) rfl rfl rfl Try.underlying47 sz65 (by first|omega|(simp;done)|(simp;omega)) (getmap hx1)) rfl ?_
 refine AL.runs ttk 4 rfl ?_
 refine AL.dec (t:=78) rfl (fun hb13=>?_) (fun hb13=>?_)
 ·
  have hb13':=of_decide_eq_true hb13
  refine AL.runs ttk 2 rfl ?_
  obtain ⟨x2,hx2⟩:=exget (xs:=b21.cards) (i:=0) (by first|omega|(simp;done)|(simp;omega))
  have hx2K:(100<=ticks->x2.held=0/\x2.money=has)/\(ticks < 100->x2.held=asked - 1):=⟨fun z=>(ho4 z).2 x2 hx2,fun z=>(ho5 z).2 x2 hx2⟩
  refine AL.val (Wanted.yes rfl rfl rfl) (g_indexQ (i:=0) rfl rfl rfl Try.underlying29 sz61 (by first|omega|(simp;done)|(simp;omega)) (getmap hx2)) rfl rfl ?_
  refine AL.runs ttk 3 rfl ?_
  refine AL.val (Wanted.yes rfl rfl rfl) (g_binI rfl rfl rfl (wrap_ok (by first|omega|(simp;done)|(simp;omega)))) rfl rfl ?_
  refine AL.runs ttk 3 rfl ?_
  refine AL.nx ?_
  refine AC.ret ?_
  refine retQ_go ttk [] 0 rfl rfl rfl rfl rfl rfl ?_ ?_
  ·exact congrArg aB (show (decide (x2.held=(asked - 1)))=true by (first|(exfalso;omega)|exact decide_eq_true (by omega)))
  ·rfl
 have hb13':=of_decide_eq_false hb13
 refine AL.runs ttk 10 rfl ?_
 refine AL.nx ?_
 refine AC.ret ?_
 refine retQ_go ttk [] 0 rfl rfl rfl rfl rfl rfl ?_ ?_
 ·exact congrArg aB (show (false)=true by (first|(exfalso;omega)|exact decide_eq_true (by omega)))
 ·rfl
end Go.Proofs.Ytegepioggeggaaa.Dev
