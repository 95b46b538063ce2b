/- A part of the proof: PlLaw2, PlTop, PlTop2, PlDown, PlRate, LTopPace. No condition. -/
import Derived.Test.YtegepioggeggaaaD14
set_option linter.unusedVariables false
set_option linter.unusedSimpArgs false
set_option maxHeartbeats 16000000
set_option maxRecDepth 100000
namespace Go.Proofs.Ytegepioggeggaaa.Dev
open Go.RowKit
section
def ek (k:Int):List bB->Int
 |[]=>0
 |a::l=>(if a.aL=k then bK a else 0)+ek k l
theorem qY (k:Int) (u v:List bB):ek k (u++v)=ek k u+ek k v:=by
 induction u with
 |nil=>simp [ek]
 |cons a u ih=>simp only [List.cons_append,ek,ih];omega
theorem ng (k:Int) (b:bB):∀ {l:List bB} {i:Nat} {a:bB},l[i]?=some a->ek k (l.set i b)=ek k l - (if a.aL=k then bK a else 0)+(if b.aL=k then bK b else 0)
 |x::l,0,a,h=>by
  have:x=a:=by simpa using h
  subst this
  simp only [List.set_cons_zero,ek];omega
 |x::l,i+1,a,h=>by
  have h:l[i]?=some a:=by simpa using h
  simp only [List.set_cons_succ,ek,ng k b h];omega
def gu (ao:List bD) (aq:List bB):Prop:=∀ (k:Nat) (c:bD),ao[k]?=some c->c.held=ek k aq
theorem pj {l:List bD} {e k h m:Int} (hz:(cz l e k h m).2=0):e=0/\((l[k.toNat]?=none/\(cz l e k h m).1=l)\/∃ c,l[k.toNat]?=some c/\(cz l e k h m).1=l.set k.toNat ⟨c.bx+m,c.held+h,c.bZ,c.cM⟩):=by
 unfold cz at hz ⊢
 cases hc:l[k.toNat]? with
 |none=>rw [hc] at hz;exact ⟨hz,.inl ⟨rfl,rfl⟩⟩
 |some c=>
  rw [hc] at hz
  dsimp only at hz ⊢
  split at hz
  ·rename_i h0
   obtain ⟨h1,h2⟩:=fB h0
   rcases pR (show dQ c h m=((dQ c h m).1,(dQ c h m).2) from rfl) with ⟨h3,_⟩|h3
   ·exact absurd h2 h3
   ·rw [if_pos h0]
    exact ⟨h1,.inr ⟨c,rfl,by dsimp only;rw [h3.2.2.2.2.2.2.1]⟩⟩
  ·rename_i h0;exact absurd hz h0
theorem gu.shift {ao:List bD} {aq auths':List bB} {e k h m:Int} (hh:gu ao aq) (hz:(cz ao e k h m).2=0) (ha:∀ j:Nat,ek j auths'=ek j aq+if j=k.toNat then h else 0):gu (cz ao e k h m).1 auths':=by
 obtain ⟨_,hz⟩:=pj hz
 intro j c hc
 rcases hz with ⟨h1,h2⟩|⟨c0,h1,h2⟩
 ·rw [h2] at hc
  have:j≠k.toNat:=fun e=>by subst e;rw [h1] at hc;cases hc
  rw [hh j c hc,ha j,if_neg this];omega
 ·rw [h2,List.getElem?_set] at hc
  split at hc
  ·rename_i e
   split at hc
   ·injection hc with hc;subst hc
    have:=hh _ c0 h1
    rw [ha j,if_pos e.symm,<-e];dsimp only;omega
   ·cases hc
  ·rename_i e
   rw [hh j c hc,ha j,if_neg (Ne.symm e)];omega
theorem gu.same {ao:List bD} {aq:List bB} {e k m:Int} (hh:gu ao aq) (hz:(cz ao e k 0 m).2=0):gu (cz ao e k 0 m).1 aq:=hh.shift hz fun j=>by split<;>omega
theorem mP {s:bV} {e:Int} {t:bj} (h:(eA s e t).2=0):e=0/\(gf s t).2=0/\(eA s e t).1=(gf s t).1:=by
 unfold eA at h ⊢
 split at h
 ·rename_i h0;obtain ⟨h1,h2⟩:=fB h0;rw [if_pos h0];exact ⟨h1,h2,rfl⟩
 ·rename_i h0;exact absurd h h0
theorem uy {s:bV} {t:bj} (h:(gf s t).2=0):(cJ s).err=0/\(cJ (la s t)).err=0/\(gf s t).1=la s t:=by
 unfold gf at h ⊢
 split at h
 ·rename_i h1;exact absurd h h1
 split at h
 ·rename_i h1;exact absurd h h1
 ·rename_i h1 h2;rw [if_neg h1,if_neg h2];exact ⟨by omega,by omega,rfl⟩
theorem wU {s:bV} {n:Int} (h:(dW s n).2=0):(cJ s).err=0/\0<=n/\n<=s.bW/\(dW s n).1=⟨s.bW,dz (came n) s.kept⟩/\(cJ (dW s n).1).err=0:=by
 rcases oZ (show dW s n=((dW s n).1,(dW s n).2) from rfl) with ⟨h1,_⟩|⟨_,h1,h2,h3,h4⟩
 ·exact absurd h h1
 ·exact ⟨h1,h2,h3,h4,by rw [h4];exact xZ h1 h2 h3⟩
structure dX (b:Bk):Prop where
 ok:cj b
 held:gu b.ao b.aq
 s0:(cJ b.s0).err=0
 s1:(cJ b.s1).err=0
 st:bT b.bF=0
 used:b.bF.used.length=b.ao.length
 aS:∀ x∈b.aS,wx x
theorem qR {time:Int}:∀ (l:List bB) (i:Nat) (ao:List bD) (aq:List bB) (e:Int),(fk time l i ao aq e).2.2=0->e=0
 |[],_,_,_,_,h=>h
 |a::l,i,ao,aq,e,h=>(pj (qR l _ _ _ _ h)).1
theorem qS {time:Int}:∀ (l:List bB) (i:Nat) (ao:List bD) (aq:List bB) (e:Int),(fk time l i ao aq e).2.2=0->aq.drop i=l->(∀ a∈l,0<=a.aL)->gu ao aq->gu (fk time l i ao aq e).1 (fk time l i ao aq e).2.1
 |[],_,_,_,_,_,_,_,h=>h
 |a::l,i,ao,aq,e,hz,hd,hp,h=>by
  have hat:aq[i]?=some a:=by
   have:(aq.drop i)[0]?=some a:=by rw [hd];rfl
   rwa [List.getElem?_drop,Nat.add_zero] at this
  have hilt:=(List.getElem?_eq_some_iff.1 hat).1
  refine qS l (i+1) _ _ _ hz ?_ (fun x hx=>hp x (List.mem_cons_of_mem _ hx)) (h.shift (qR l _ _ _ _ hz) fun j=>?_)
  ·rw [List.drop_set_of_lt (by omega)]
   have:aq.drop (i+1)=(aq.drop i).drop 1:=by rw [List.drop_drop]
   rw [this,hd];rfl
  ·have hc:=hp a List.mem_cons_self
   rw [ng _ _ hat]
   have:(dU a time).aL=a.aL:=rfl
   rw [this]
   by_cases e:a.aL=(j:Int)
   ·rw [if_pos e,if_pos e,if_pos (by omega)];omega
   ·rw [if_neg e,if_neg e,if_neg (by omega)];omega
theorem yW {time:Int} (l:List bB) (i:Nat) (ao:List bD) (aq:List bB) (e:Int):(fk time l i ao aq e).1.length=ao.length:=by
 induction l generalizing i ao aq e with
 |nil=>rfl
 |cons a l ih=>exact (ih (i+1) _ _ _).trans (fa _ _ _ _ _)
theorem dX.late {b:Bk} (h:dX b):dX (gk b):=by
 have hok:=h.ok.late
 unfold gk at hok ⊢
 split
 ·rename_i h0
  rw [if_pos h0] at hok
  exact ⟨hok,qS _ _ _ _ _ h0 rfl (fun a ha=>(h.ok.perm a ha).2.1) h.held,h.s0,h.s1,h.st,by dsimp only;rw [yW];exact h.used,h.aS⟩
 ·exact h
theorem dX.start {s:Setup} (h:(ea s).err=0):dX (fC s):=by
 obtain ⟨h1,h2,h3,h4,h5,h6⟩:=kp h
 have hn:dy s.cap s.da.length=({cap:=s.cap,used:=List.replicate s.da.length 0,aY:=[]},0):=px h1 ⟨h4,h5⟩
 refine ⟨cj.start h,fun k c hc=>?_,rfl,rfl,?_,?_,fun x hx=>by cases hx⟩
 ·have hc:(s.da.map kN)[k]?=some c:=hc
  rw [List.getElem?_map] at hc
  cases hp:s.da[k]? with
  |none=>rw [hp] at hc;cases hc
  |some p=>rw [hp] at hc;injection hc with hc;subst hc;rfl
 ·show bT (dy s.cap s.da.length).1=0
  rw [hn];exact sP _ _ h1 h4 h5
 ·show (dy s.cap s.da.length).1.used.length=(s.da.map kN).length
  rw [hn];simp
theorem dX.load {b:Bk} (h:dX b) (d:aV):dX (ft b d).1:=by
 have hok:=h.ok.load d
 unfold ft at hok ⊢
 split
 ·exact h
 rename_i c1
 rw [if_neg c1] at hok
 split
 ·exact h
 rename_i c2
 rw [if_neg c2] at hok
 unfold Dev.dt at hok ⊢
 split
 ·rename_i h0
  rw [if_pos h0] at hok
  exact ⟨hok,h.held.same (ju h0).1,h.s0,h.s1,h.st,by dsimp only;rw [fa];exact h.used,h.aS⟩
 ·exact h
theorem dX.uz {b:Bk} (h:dX b) (d:aV):dX (gL b d).1:=by
 have hok:=h.ok.uz d
 unfold gL at hok ⊢
 split
 ·exact h
 rename_i c1
 rw [if_neg c1] at hok
 split
 ·exact h
 rename_i c2
 rw [if_neg c2] at hok
 unfold Dev.dt at hok ⊢
 split
 ·rename_i h0;rw [if_pos h0] at hok;exact ⟨hok,h.held,h.s0,h.s1,h.st,h.used,h.aS⟩
 ·exact h
theorem dX.aO {b:Bk} (h:dX b) (d:aV):dX (eT b d).1:=by
 unfold eT
 split
 ·exact h
 ·have h1:dX {b with time:=b.time+d.sum}:=⟨h.ok.tick (by have:=h.ok.time;omega) (by have:=h.ok.time;omega),h.held,h.s0,h.s1,h.st,h.used,h.aS⟩
  dsimp only
  split
  ·exact h1
  ·exact h1.late
theorem dX.send {b:Bk} (h:dX b) (d:aV):dX {b with w0:=(eK b.s0 b.s1 b.n0 b.n1 b.w0 b.w1 d).1,w1:=(eK b.s0 b.s1 b.n0 b.n1 b.w0 b.w1 d).2.1}:=
 ⟨h.ok.send d,h.held,h.s0,h.s1,h.st,h.used,h.aS⟩
theorem qA {aq:List bB} {due:List Int} {ao:List bD} {book:List Entry} {e:Int} {t:bj} (h:gu ao aq) (hz:(ez aq due ao book e t).2.2.2=0):gu (ez aq due ao book e t).2.1 aq/\(ez aq due ao book e t).2.1.length=ao.length:=by
 unfold ez at hz ⊢
 split
 ·exact ⟨h,rfl⟩
 rename_i a ha
 rw [ha] at hz
 dsimp only at hz
 split
 ·exact ⟨h,rfl⟩
 rename_i c1
 rw [if_neg c1] at hz
 split
 ·rename_i c2;rw [if_pos c2] at hz;exact ⟨h.same (ju hz).1,fa _ _ _ _ _⟩
 split
 ·exact ⟨h,rfl⟩
 ·exact ⟨h,rfl⟩
theorem dX.ln {b:Bk} (h:dX b) (d:aV):dX (cr b d).1:=by
 have hok:=h.ok.ln d
 unfold cr at hok ⊢
 split
 ·rename_i c0
  rw [if_pos c0] at hok
  unfold fJ at hok ⊢
  split
  ·exact h
  rename_i p hp
  rw [hp] at hok
  dsimp only at hok
  split
  ·rename_i c1;rw [if_pos c1] at hok;exact ⟨hok,h.held,h.s0,h.s1,h.st,h.used,h.aS⟩
  rename_i c1
  rw [if_neg c1] at hok
  split
  ·rename_i c2
   rw [if_pos c2] at hok
   split
   ·rename_i c3;rw [if_pos c3] at hok;exact ⟨hok,h.held,(wU c3).2.2.2.2,h.s1,h.st,h.used,h.aS⟩
   ·exact h
  rename_i c2
  rw [if_neg c2] at hok
  split
  ·rename_i c3
   rw [if_pos c3] at hok
   unfold Dev.dt at hok ⊢
   split
   ·rename_i c4;rw [if_pos c4] at hok;obtain ⟨r1,r2⟩:=qA h.held c4;exact ⟨hok,r1,h.s0,h.s1,h.st,h.used.trans r2.symm,h.aS⟩
   ·exact h
  ·rename_i c3;rw [if_neg c3] at hok;exact ⟨hok,h.held,h.s0,h.s1,h.st,h.used,h.aS⟩
 rename_i c0
 rw [if_neg c0] at hok
 split
 ·rename_i c01
  rw [if_pos c01] at hok
  unfold fI at hok ⊢
  split
  ·exact h
  rename_i p hp
  rw [hp] at hok
  dsimp only at hok
  split
  ·rename_i c1;rw [if_pos c1] at hok;exact ⟨hok,h.held,h.s0,h.s1,h.st,h.used,h.aS⟩
  rename_i c1
  rw [if_neg c1] at hok
  split
  ·rename_i c2
   rw [if_pos c2] at hok
   split
   ·rename_i c3;rw [if_pos c3] at hok;exact ⟨hok,h.held,h.s0,(wU c3).2.2.2.2,h.st,h.used,h.aS⟩
   ·exact h
  rename_i c2
  rw [if_neg c2] at hok
  split
  ·rename_i c3
   rw [if_pos c3] at hok
   unfold Dev.dt at hok ⊢
   split
   ·rename_i c4;rw [if_pos c4] at hok;obtain ⟨r1,r2⟩:=qA h.held c4;exact ⟨hok,r1,h.s0,h.s1,h.st,h.used.trans r2.symm,h.aS⟩
   ·exact h
  ·rename_i c3;rw [if_neg c3] at hok;exact ⟨hok,h.held,h.s0,h.s1,h.st,h.used,h.aS⟩
 ·exact h
theorem zi {s:cv} {a:ca} (h:(cg s a).2=0):(cg s a).1.used.length=s.used.length:=by
 unfold cg at h ⊢
 split at h
 ·rename_i h1;exact absurd h h1
 split at h
 ·cases h
 split at h
 ·cases h
 split at h
 ·cases h
 ·rename_i h1 h2 h3 h4;rw [if_neg h1,if_neg h2,if_neg h3,if_neg h4];exact List.length_set ..
theorem gu.new {ao:List bD} {aq:List bB} {k:Int} {c c':bD} {a:bB} (hh:gu ao aq) (hk:0<=k) (hc:ao[k.toNat]?=some c) (ha:a.aL=k) (h':c'.held=c.held+bK a):gu (ao.set k.toNat c') (aq++[a]):=by
 intro j z hz
 rw [qY]
 have h1:ek j [a]=if a.aL=j then bK a else 0:=by simp [ek]
 rw [h1]
 rw [List.getElem?_set] at hz
 split at hz
 ·rename_i e
  split at hz
  ·injection hz with hz;subst hz
   have:=hh _ c hc
   rw [if_pos (by omega),<-e];omega
  ·cases hz
 ·rename_i e
  rw [hh j z hz,if_neg (by omega)];omega
theorem dX.asks {b:Bk} (h:dX b) (d:aV):dX (du b d).1:=by
 have hok:=h.ok.asks d
 unfold du at hok ⊢
 split
 ·exact h
 rename_i c0
 rw [if_neg c0] at hok
 split
 ·rename_i cd
  rw [if_pos cd] at hok
  split
  ·exact h
  rename_i c1
  rw [if_neg c1] at hok
  split
  ·exact h
  rename_i c2
  rw [if_neg c2] at hok
  have he:=rf (show gr (cg b.bF ⟨d.n,d.az,d.sum,b.time⟩).2=0 by omega)
  exact ⟨hok,h.held,h.s0,h.s1,(xE h.st he).1,(zi he).trans h.used,h.aS⟩
 rename_i cd
 rw [if_neg cd] at hok
 split
 ·exact h
 rename_i c2
 rw [if_neg c2] at hok
 split
 ·exact h
 rename_i c3
 rw [if_neg c3] at hok
 obtain ⟨_,w2,_⟩:=oa (show (cV d.n d.az d.sum b.time).2=0 by omega)
 split
 ·exact h
 rename_i c hc
 rw [hc] at hok
 dsimp only at hok
 split
 ·exact h
 rename_i c4
 rw [if_neg c4] at hok
 refine ⟨hok,h.held.new (by omega) hc (by rw [w2]) ?_,h.s0,h.s1,h.st,by dsimp only;rw [List.length_set];exact h.used,h.aS⟩
 rcases qo (show dx c d.sum b.time=((dx c d.sum b.time).1,(dx c d.sum b.time).2) from rfl) with ⟨h5,_⟩|⟨h5,h6,h7,h8,h9,h10,h11,l,h12,h13⟩
 ·omega
 ·rw [h13,w2];simp [bK]
theorem tU:∀ (l:List ca) (cs:List bD) (xs:List bB),(fW l cs xs).2.2=0->gu cs xs->(∀ a∈l,0<=a.aL/\a.aL < cs.length)->gu (fW l cs xs).1 (fW l cs xs).2.1/\(fW l cs xs).1.length=cs.length
 |[],cs,xs,_,h,_=>⟨h,rfl⟩
 |x::l,cs,xs,hz,h,hl=>by
  unfold fW at hz ⊢
  split at hz
  ·rename_i h1;exact absurd hz h1
  rename_i h1
  rw [if_neg h1]
  have hx:=hl x List.mem_cons_self
  cases hc:cs[x.aL.toNat]? with
  |none=>have:=List.getElem?_eq_none_iff.1 hc;omega
  |some c=>
   rw [hc] at hz
   dsimp only at hz ⊢
   split at hz
   ·rename_i h2;exact absurd hz h2
   rename_i h2
   rw [if_neg h2]
   obtain ⟨_,w2,_⟩:=oa (show (cV x.aL x.az x.sum x.time).2=0 by omega)
   obtain ⟨_,f2,_⟩:=ot (show (eJ c x.sum).2=0 by omega)
   have:=tU l _ _ hz (h.new hx.1 hc (by rw [w2]) (by rw [f2,w2];simp [bK])) (fun a ha=>by rw [List.length_set];exact hl a (List.mem_cons_of_mem _ ha))
   rw [List.length_set] at this
   exact this
theorem dX.CI {b:Bk} (h:dX b):dX (iK b).1:=by
 unfold iK
 split
 ·exact h
 split
 ·exact h
 split
 ·exact h
 rename_i c1 c2 c3
 have h0:(cU b.bF).2.2=0:=by omega
 obtain ⟨r1,r2,r3⟩:=qm h0
 have hu:=h.ok.zV h0
 have hz:(fW (cU b.bF).2.1 b.ao b.aq).2.2=0:=by omega
 obtain ⟨u1,u2⟩:=tU _ _ _ hz h.held (fun a ha=>by rw [r3] at ha;have:=h.ok.ji a ha;omega)
 have hp:=gC h.st
 refine dX.late ⟨hu,u1,h.s0,h.s1,?_,?_,h.aS⟩
 ·dsimp only;rw [r2]
  have hc:0<=b.bF.cap/\b.bF.cap<=1000000:=by simpa [gh] using hp.2.2.1
  exact sP _ _ hp.1 hc.1 hc.2
 ·dsimp only;rw [r2,u2];simp [h.used]
theorem dX.ll {b:Bk} (h:dX b) (d:aV):dX (dN b d).1:=by
 have hok:=h.ok.ll d
 unfold dN at hok ⊢
 split
 ·exact h
 rename_i cd
 rw [if_neg cd] at hok
 split
 ·exact h
 rename_i c1
 rw [if_neg c1] at hok
 split
 ·exact h
 rename_i cx ho
 rw [ho] at hok
 dsimp only at hok
 split
 ·exact h
 rename_i c2
 rw [if_neg c2] at hok
 split
 ·exact h
 rename_i c3
 rw [if_neg c3] at hok
 have hmv:ck cx d.move d.sum=((ck cx d.move d.sum).1,0):=Prod.ext rfl (by dsimp only;omega)
 generalize (ck cx d.move d.sum).1=a at *
 obtain ⟨_,hwa,hcard,hshop,hk1,hk2,hn1,hn2⟩:=me hmv
 rcases pY hmv with ⟨h4,_⟩|⟨_,hw,_,_,hm⟩
 ·exact absurd rfl h4
 have hp:=h.ok.perm cx (List.mem_of_getElem? ho)
 have hra:=eI hwa
 have hset:∀ j:Nat,ek j (b.aq.set d.n.toNat a)=ek j b.aq+if j=a.aL.toNat then bK a - bK cx else 0:=fun j=>by
  rw [ng _ _ ho,hcard]
  by_cases e:cx.aL=(j:Int)
  ·rw [if_pos e,if_pos e,if_pos (by omega)];omega
  ·rw [if_neg e,if_neg e,if_neg (by omega)];omega
 have hsame:bK a=bK cx->∀ j:Nat,ek j (b.aq.set d.n.toNat a)=ek j b.aq:=fun e j=>by rw [hset j];split<;>omega
 have hh:d.move=5\/d.move=6\/d.move=7\/d.move=8->bK a=bK cx:=fun e=>by
  cases hm with
  |uv _ _=>rfl
  |rZ _ _=>rfl
  |rW _ _=>rfl
  |rV _ _=>rfl
  |more h _ _=>omega
  |take h _ _=>omega
  |less h _ _=>omega
 unfold oX Dev.dt at hok ⊢
 split
 rotate_left
 ·exact h
 rename_i h0
 rw [if_pos h0] at hok
 obtain ⟨e0,hl0,hnote⟩:=xr h0
 have key:gu (dT b a cx d).1 (b.aq.set d.n.toNat a)/\(cJ (dT b a cx d).2.2.2.1).err=0/\(cJ (dT b a cx d).2.2.2.2.1).err=0/\(dT b a cx d).1.length=b.ao.length:=by
  unfold dT at e0 ⊢
  split at e0
  ·rename_i hk;rw [if_pos hk];exact ⟨h.held.shift e0 hset,h.s0,h.s1,fa _ _ _ _ _⟩
  rename_i k1
  rw [if_neg k1]
  split at e0
  ·rename_i hk;rw [if_pos hk]
   obtain ⟨e1,e2,e3⟩:=mP e0
   obtain ⟨_,p2,p3⟩:=uy e2
   exact ⟨h.held.shift (ju e1).1 hset,by dsimp only;rw [e3,p3];exact p2,h.s1,fa _ _ _ _ _⟩
  rename_i k2
  rw [if_neg k2]
  split at e0
  ·rename_i hk;rw [if_pos hk]
   obtain ⟨e1,e2,e3⟩:=mP e0
   obtain ⟨_,p2,p3⟩:=uy e2
   exact ⟨fun j c hc=>by rw [hsame (hh (.inl hk)) j];exact h.held j c hc,h.s0,by dsimp only;rw [e3,p3];exact p2,rfl⟩
  rename_i k3
  rw [if_neg k3]
  split at e0
  ·rename_i hk;rw [if_pos hk]
   exact ⟨h.held.shift (ju e0).1 fun j=>by rw [hsame (hh (.inr (.inl hk))) j];split<;>omega,h.s0,h.s1,fa _ _ _ _ _⟩
  rename_i k4
  rw [if_neg k4]
  split at e0
  ·rename_i hk;rw [if_pos hk]
   obtain ⟨e1,e2,e3⟩:=mP e0
   obtain ⟨_,p2,p3⟩:=uy e2
   exact ⟨fun j c hc=>by rw [hsame (hh (.inr (.inr (.inl hk)))) j];exact h.held j c hc,by dsimp only;rw [e3,p3];exact p2,h.s1,rfl⟩
  rename_i k5
  rw [if_neg k5]
  split at e0
  ·rename_i hk;rw [if_pos hk]
   exact ⟨h.held.shift (ju e0).1 fun j=>by rw [hsame (hh (.inr (.inr (.inr hk)))) j];split<;>omega,h.s0,h.s1,fa _ _ _ _ _⟩
  ·omega
 refine ⟨hok,key.1,key.2.1,key.2.2.1,h.st,h.used.trans key.2.2.2.symm,fun x hx=>?_⟩
 dsimp only at hx
 rw [hnote] at hx
 rcases List.mem_append.1 hx with hx|hx
 ·exact h.aS x hx
 ·obtain rfl:=List.mem_singleton.1 hx
  have hlen:=h.ok.aq
  constructor
  ·unfold mg;dsimp only;omega
  ·unfold nt;dsimp only;omega
theorem dX.AY {b:Bk} (h:dX b) (y:List (List Int)) (d:aV):dX (dR b y d).1:=by
 unfold dR
 split
 ·exact h.load d
 split
 ·exact h.asks d
 split
 ·exact h.ll d
 split
 ·exact h.aO d
 split
 ·exact h.send d
 split
 ·exact h.ln d
 split
 ·split
  ·exact h
  ·exact ⟨⟨h.ok.time,h.ok.ao,h.ok.due,h.ok.aq,h.ok.aS,h.ok.w0,h.ok.w1,h.ok.perm,h.ok.ji,h.ok.k0,h.ok.k1,h.ok.right,h.ok.l0,h.ok.l1,h.ok.p0,h.ok.p1,h.ok.n0,h.ok.n1,fun h=>by cases h⟩,h.held,h.s0,h.s1,h.st,h.used,h.aS⟩
 split
 ·exact h.CI
 split
 ·refine ⟨h.ok.pS (lE (y:=y) h.ok.aS).1,h.held,h.s0,h.s1,h.st,h.used,?_⟩
  unfold iy
  split
  ·exact h.aS
  ·exact fun x hx=>by cases hx
 split
 ·exact h.uz d
 ·exact h
end
section
structure HL (n:Nat) (aq:List bB) (hl:List Int):Prop where
 len:hl.length=n
 at_:∀ k:Nat,k < n->hl[k]?=some (ek k aq)
theorem HL.start (n:Nat):HL n [] (List.replicate n 0):=⟨List.length_replicate,fun k hk=>by rw [List.getElem?_replicate,if_pos hk];rfl⟩
theorem HL.step {n:Nat} {u:List bB} {hl:List Int} {a:bB} {x v:Int} (h:HL n u hl) (ha:0<=a.aL/\a.aL < n) (hx:hl[a.aL.toNat]?=some x) (hv:v=x+bK a):HL n (u++[a]) (hl.set a.aL.toNat v):=by
 refine ⟨(List.length_set ..).trans h.len,fun k hk=>?_⟩
 rw [qY]
 have h1:ek k [a]=if a.aL=k then bK a else 0:=by simp [ek]
 rw [h1,List.getElem?_set]
 have h2:=h.at_ k hk
 split
 ·rename_i e
  rw [e] at hx
  rw [hx] at h2
  injection h2 with h2
  rw [if_pos (by rw [h.len];omega),if_pos (by omega),hv,h2]
 ·rename_i e
  rw [if_neg (by omega),h2];simp
theorem uP (k:Int):∀ {l:List bB},(∀ a∈l,bG a=0)->0<=ek k l/\ek k l<=1000000 * l.length
 |[],_=>by simp [ek]
 |a::l,h=>by
  have:=uP k (l:=l) fun x hx=>h x (List.mem_cons_of_mem _ hx)
  have h2:=om (h a List.mem_cons_self)
  simp only [ek,List.length_cons]
  split<;>omega
theorem HL.b {n:Nat} {u:List bB} {hl:List Int} {k:Nat} {x:Int} (h:HL n u hl) (hx:hl[k]?=some x) (hu:∀ a∈u,bG a=0) (hl':u.length<=30):0<=x/\x<=30000000:=by
 have hk:=(List.getElem?_eq_some_iff.1 hx).1
 have h2:=h.at_ k (by rw [<-h.len];exact hk)
 rw [hx] at h2;injection h2 with h2
 have:=uP k hu
 omega
end
def iX:List aV->Bk->List (List Int)->List Answer->Bk×List (List Int)×List Answer
 |[],b,y,out=>(b,y,out)
 |d::l,b,y,out=>iX l (dR b y d).1 (dR b y d).2.1 (out++[(dR b y d).2.2])
theorem qM:∀ {l:List aV},(∀ d∈l,d.id=0)->∀ (b:Bk) (y:List (List Int)) (told:List (Int×Answer)) (cl:Nat) (out:List Answer),jW l b y told cl out=iX l b y out
 |[],_,_,_,_,_,_=>rfl
 |d::l,h,b,y,told,cl,out=>by
  have h0:fA b y told cl d=((dR b y d).1,(dR b y d).2.1,nN told d.id (dR b y d).2.2,if (ik told d.id).isSome then cl else cl+1,(dR b y d).2.2):=by
   unfold fA;rw [if_neg (fun h'=>h'.2 (h d (by simp)))]
  unfold jW iX
  rw [h0]
  exact qM (fun x hx=>h x (by simp [hx])) _ _ _ _ _
theorem fm {d:aV} {l:List aV} {b b':Bk} {y y':List (List Int)} {out:List Answer} {a:Answer} (h:dR b y d=(b',y',a)):iX (d::l) b y out=iX l b' y' (out++[a]):=by
 rw [iX,h]
theorem Aq {l:List Entry} {src dst n:Int} (hw:(ei l).err=0) (hs:0<=src/\src<=57) (hd:0<=dst/\dst<=57) (hne:src≠dst) (hn:0<=n/\n<=1000000000000)
  (h1:-1000000000000<=dA l src - n) (h2:dA l dst+n<=1000000000000):
  ∃ r,dM l 0 src dst n=(r,0)/\(ei r).err=0/\∀ x,dA r x=dA l x+(if x=dst then n else 0) - (if x=src then n else 0):=by
 have hR:=(kG.1 hw).1
 have hbd:∀ a,-1000000000000<=dA l a/\dA l a<=1000000000000:=fun a=>xF fun x hx=>by
  have:=hR.ok x hx;omega
 have b1:=hbd src;have b2:=hbd dst
 have hp:∃ r,eZ l [⟨src,0 - n⟩,⟨dst,n⟩]=some r:=by
  refine ⟨gy (gy l src (dA l src+(0 - n))) dst (dA l dst+n),?_⟩
  unfold eZ
  rw [if_pos (lJ.2 ⟨by dsimp only;omega,by dsimp only;omega⟩)]
  unfold eZ
  dsimp only
  rw [qc hR.up,if_neg hne,if_pos (lJ.2 ⟨by omega,by omega⟩)]
  rfl
 obtain ⟨r,hr⟩:=hp
 have hpo:fS l [⟨src,0 - n⟩,⟨dst,n⟩]=(r,0):=by
  rw [pX hw (by simp) (fun x hx=>by simp only [List.mem_cons,List.not_mem_nil,or_false] at hx;rcases hx with rfl|rfl<;>(unfold eS;dsimp only;omega)) (by simp only [eh];omega),hr]
 have hm:iA l src dst n=(r,0):=by unfold iA;rw [if_neg (by omega)];exact hpo
 refine ⟨r,?_,(nV hpo 0).1,fun x=>?_⟩
 ·unfold dM;rw [hm];rfl
 ·rw [(nV hpo x).2];simp only [lb]
  have e1:(src=x)=(x=src):=propext ⟨Eq.symm,Eq.symm⟩
  have e2:(dst=x)=(x=dst):=propext ⟨Eq.symm,Eq.symm⟩
  simp only [e1,e2]
  split<;>split<;>omega
theorem yi {c:bD} {m h:Int} (hw:ct c=0) (h1:-1000000000000<=m/\m<=1000000000000) (h2:0<=h/\h<=1000000000000):ct ⟨m,h,c.bZ,c.cM⟩=0:=by
 have:=gq hw
 unfold ct;rw [if_neg (by dsimp only;omega),if_neg (fun x=>x this.2.2.2.2.1)];exact this.2.2.2.2.2
theorem sD {l:List bD} {k held bx:Int} {c:bD} (hc:l[k.toNat]?=some c) (hw:ct c=0) (h1:-1000000000000<=c.bx+bx/\c.bx+bx<=1000000000000) (h2:0<=c.held+held/\c.held+held<=1000000000000)
  (h3:-1000000000000<=held/\held<=1000000000000) (h4:-1000000000000<=bx/\bx<=1000000000000):cz l 0 k held bx=(l.set k.toNat ⟨c.bx+bx,c.held+held,c.bZ,c.cM⟩,0):=by
 have hs:dQ c held bx=(⟨c.bx+bx,c.held+held,c.bZ,c.cM⟩,0):=by
  unfold dQ;rw [if_neg (fun h=>h hw),if_neg (by omega),if_neg (fun h=>h (yi hw h1 h2))]
 rw [nR hc,hs];rfl
theorem AZ {b:Bk} {n s:Int} {c:bD} (hn:0<=n/\n<=7) (hs:1<=s/\s<=1000000) (hc:b.ao[n.toNat]?=some c) (hw:ct c=0) (hm:c.bx+s<=1000000000000) (hb:(ei b.book).err=0)
  (h1:-1000000000000<=dA b.book 0 - s) (h2:dA b.book (10+n)+s<=1000000000000):
  ∃ r,(∀ y,dR b y ⟨0,1,n,0,0,s⟩=({b with ao:=b.ao.set n.toNat ⟨c.bx+s,c.held,c.bZ,c.cM⟩,book:=r},y,⟨0,0⟩))/\(ei r).err=0/\∀ x,dA r x=dA b.book x+(if x=10+n then s else 0) - (if x=0 then s else 0):=by
 have hlt:=(List.getElem?_eq_some_iff.1 hc).1
 have hR:=gq hw
 obtain ⟨r,hr,hrw,hrg⟩:=Aq (l:=b.book) (src:=0) (dst:=10+n) (n:=s) hb (by omega) (by omega) (by omega) (by omega) h1 h2
 refine ⟨r,fun y=>?_,hrw,hrg⟩
 have hS:=sD (l:=b.ao) (k:=n) (held:=0) (bx:=s) hc hw (by omega) (by omega) (by omega) (by omega)
 have hL:ft b ⟨0,1,n,0,0,s⟩=({b with ao:=b.ao.set n.toNat ⟨c.bx+s,c.held,c.bZ,c.cM⟩,book:=r},⟨0,0⟩):=by
  unfold ft
  rw [if_neg (by dsimp only;omega),if_neg (by dsimp only;omega)]
  dsimp only
  rw [hS];dsimp only;rw [hr,Int.add_zero];rfl
 unfold dR;rw [if_pos rfl,hL]
theorem Ct {b:Bk} {n p s:Int} {c c':bD} (hd:b.down=false) (hn:0<=n/\n<=7) (hp:0<=p/\p < b.due.length) (hp7:p<=7) (hs:1<=s/\s<=1000000) (ht:0<=b.time/\b.time<=1000000) (ha:b.aq.length < 30) (hc:b.ao[n.toNat]?=some c)
  (hA:dx c s b.time=(c',0)) (y:List (List Int)):
  dR b y ⟨0,2,n,p,0,s⟩=({b with ao:=b.ao.set n.toNat c',aq:=b.aq++[⟨n,p,s,0,0,0,b.time+100,false⟩]},y,⟨0,b.aq.length⟩):=by
 have hlt:=(List.getElem?_eq_some_iff.1 hc).1
 have hN:cV n p s b.time=(⟨n,p,s,0,0,0,b.time+100,false⟩,0):=by unfold cV;rw [if_neg (by omega)]
 have hL:du b ⟨0,2,n,p,0,s⟩=({b with ao:=b.ao.set n.toNat c',aq:=b.aq++[⟨n,p,s,0,0,0,b.time+100,false⟩]},⟨0,b.aq.length⟩):=by
  unfold du
  rw [if_neg (by dsimp only;omega),if_neg (by rw [hd];decide)]
  dsimp only
  rw [hN,if_neg (by omega),if_neg (by simp)]
  dsimp only
  rw [hc]
  dsimp only
  rw [hA,if_neg (by simp)]
 unfold dR;rw [if_neg (by dsimp only;omega),if_pos rfl,hL]
theorem yV {a:bB} {t:Int} (h:t < a.cQ):dU a t=a:=by
 unfold dU;rw [decide_eq_false (by omega),Bool.or_false]
theorem qV {time:Int}:∀ (l:List bB) (i:Nat) (ao:List bD) (aq:List bB),aq.drop i=l->(∀ a∈l,time < a.cQ)->(∀ a∈l,∃ c,ao[a.aL.toNat]?=some c/\ct c=0)->fk time l i ao aq 0=(ao,aq,0)
 |[],_,_,_,_,_,_=>rfl
 |a::l,i,ao,aq,h,ht,hc=>by
  obtain ⟨c,hg,hw⟩:=hc a List.mem_cons_self
  have hR:=gq hw
  have hl:=yV (ht a List.mem_cons_self)
  have hS:=sD (l:=ao) (k:=a.aL) (held:=0) (bx:=0) hg hw (by omega) (by omega) (by omega) (by omega)
  have hi:i < aq.length:=by
   rcases Nat.lt_or_ge i aq.length with h'|h'
   ·exact h'
   ·rw [List.drop_eq_nil_of_le h'] at h;cases h
  rw [List.drop_eq_getElem_cons hi] at h
  injection h with h1 h2
  have e1:ao.set a.aL.toNat ⟨c.bx+0,c.held+0,c.bZ,c.cM⟩=ao:=by
   rw [Int.add_zero,Int.add_zero]
   obtain ⟨hlt,rfl⟩:=List.getElem?_eq_some_iff.1 hg
   exact List.set_getElem_self hlt
  have e2:aq.set i a=aq:=by rw [<-h1];exact List.set_getElem_self hi
  unfold fk
  rw [hl,Int.sub_self,hS];dsimp only
  rw [e1,e2]
  exact qV l (i+1) ao aq h2 (fun x hx=>ht x (List.mem_cons_of_mem _ hx)) (fun x hx=>hc x (List.mem_cons_of_mem _ hx))
theorem xz {b:Bk} (ht:∀ a∈b.aq,b.time < a.cQ) (hc:∀ a∈b.aq,∃ c,b.ao[a.aL.toNat]?=some c/\ct c=0):gk b=b:=by
 unfold gk
 rw [qV b.aq 0 b.ao b.aq rfl ht hc,if_pos rfl]
theorem Cf {s:Setup} {l:List aV} (hw:ea s=⟨0,0⟩) (hl:l.length<=150) (hz:∀ d∈l,d.id=0):gX s l=((iX l (fC s) [] []).1,(iX l (fC s) [] []).2.1,(iX l (fC s) [] []).2.2,⟨0,0⟩):=by
 unfold gX
 rw [hw,if_neg (by simp),if_neg (by omega),qM hz]
theorem ox {b:Bk} {s:Int} (hd:b.down=false) (hs:0<=s) (ht:b.time+s<=1000000) (hl:∀ a∈b.aq,b.time+s < a.cQ) (hc:∀ a∈b.aq,∃ c,b.ao[a.aL.toNat]?=some c/\ct c=0) (y:List (List Int)):
  dR b y ⟨0,4,0,0,0,s⟩=({b with time:=b.time+s},y,⟨0,0⟩):=by
 have hL:eT b ⟨0,4,0,0,0,s⟩=({b with time:=b.time+s},⟨0,0⟩):=by
  unfold eT
  rw [if_neg (by dsimp only;omega),if_neg (by rw [hd];decide),xz (b:={b with time:=b.time+s}) hl hc]
 unfold dR;rw [if_neg (by dsimp only;omega),if_neg (by dsimp only;omega),if_neg (by dsimp only;omega),if_pos rfl,hL]
theorem xR {b:Bk} {n p s e:Int} {c c':bD} (hd:b.down=false) (hn:0<=n/\n<=7) (hp:0<=p/\p < b.due.length) (hp7:p<=7) (hs:1<=s/\s<=1000000) (ht:0<=b.time/\b.time<=1000000) (ha:b.aq.length < 30) (hc:b.ao[n.toNat]?=some c)
  (he:e≠0) (hA:dx c s b.time=(c',e)) (y:List (List Int)):
  dR b y ⟨0,2,n,p,0,s⟩=(b,y,⟨e,0⟩):=by
 have hlt:=(List.getElem?_eq_some_iff.1 hc).1
 have hN:cV n p s b.time=(⟨n,p,s,0,0,0,b.time+100,false⟩,0):=by unfold cV;rw [if_neg (by omega)]
 have hL:du b ⟨0,2,n,p,0,s⟩=(b,⟨e,0⟩):=by
  unfold du
  rw [if_neg (by dsimp only;omega),if_neg (by rw [hd];decide)]
  dsimp only
  rw [hN,if_neg (by omega),if_neg (by simp)]
  dsimp only
  rw [hc]
  dsimp only
  rw [hA,if_pos (by dsimp only;exact he)]
 unfold dR;rw [if_neg (by dsimp only;omega),if_pos rfl,hL]
def xq (l:List cF):Prop:=∀ u∈l,u.sum=1
theorem su:∀ {l:List cF},xq l->gb l=l.length
 |[],_=>rfl
 |u::l,h=>by
  have h1:=h u List.mem_cons_self
  have h2:=su (l:=l) fun x hx=>h x (List.mem_cons_of_mem _ hx)
  rw [gb,h1,h2,List.length_cons];omega
theorem CB {h t:Int} {p:dg} {us:List cF} (hw:ct ⟨1000,h,p,us⟩=0) (ht:0<=t/\t<=1000000) (hh:0<=h/\h < 1000) (hp:p.sum=1000) (hl:eR us t=false) (ho:xq us) (hu:us.length<=30):
  dx ⟨1000,h,p,us⟩ 1 t=if ((cD p us t).length:Int)+1<=p.count then (⟨1000,h+1,p,cD p us t++[⟨t,1⟩]⟩,0) else (nC,11):=by
 have hR:=gq hw
 have hlen:(cD p us t).length<=us.length:=List.length_filter_le _ _
 have hs:gb (cD p us t)=(cD p us t).length:=su fun u hu=>ho u (iY hu)
 have h1:(eD [⟨t,1⟩]).err=0:=ym (by omega)
 have hA:ef p us ⟨t,1⟩=if ((cD p us t).length:Int)+1<=p.count then (cD p us t++[⟨t,1⟩],0) else ([],11):=by
  unfold ef
  rw [if_neg (fun z=>z hR.2.2.2.2.1),if_neg (fun z=>z hR.2.2.2.2.2),if_neg (fun z=>z h1),hl,if_neg (by decide)]
  dsimp only
  rw [hs]
  by_cases hc:((cD p us t).length:Int)+1<=p.count
  ·rw [if_pos hc,if_neg (by omega)]
  ·rw [if_neg hc,if_pos (by omega)]
 unfold dx
 rw [if_neg (fun z=>z hw),if_neg (by omega),if_neg (by dsimp only;omega)]
 dsimp only
 rw [hA]
 split
 ·rw [if_neg (by simp)]
 ·rw [if_pos (by simp)]
theorem pM {aO count:Int} (h1:1<=aO/\aO<=50) (h2:0<=count/\count<=12):eY ⟨aO,count,1000⟩=0:=by
 unfold eY jb;rw [if_neg (by dsimp only;omega)]
def rl (aO count:Int) (h:Int) (us:List cF):bD:=⟨1000,h,⟨aO,count,1000⟩,us⟩
def pH (t:Int):bB:=⟨0,0,1,0,0,0,t+100,false⟩
def bR (t aO count h:Int) (us:List cF) (xs:List bB) (r:List Entry):Bk:=⟨t,false,[rl aO count h us],[0],xs,⟨0,[]⟩,⟨0,[]⟩,0,0,[],[],⟨0,[0],[]⟩,[],r⟩
theorem oz {aO count h:Int} {us:List cF} (h1:1<=aO/\aO<=50) (h2:0<=count/\count<=12) (hh:0<=h/\h<=1000) (hu:(eD us).err=0):ct (rl aO count h us)=0:=
 kQ (c:=rl aO count h us) ⟨by simp [rl],by simp [rl],by simp only [rl];omega,by simp only [rl];omega⟩ (pM h1 h2) hu
theorem yb {t aO count h:Int} {us:List cF} {xs:List bB} {r:List Entry} (h1:1<=aO/\aO<=50) (h2:0<=count/\count<=12) (hh:0<=h/\h < 1000) (hu:(eD us).err=0) (ht:0<=t/\t<=1000) (hl:eR us t=false) (ho:xq us) (hx:xs.length < 30) (y:List (List Int)):
  (((cD ⟨aO,count,1000⟩ us t).length:Int)+1<=count->∃ au,dR (bR t aO count h us xs r) y ⟨0,2,0,0,0,1⟩=(bR t aO count (h+1) (cD ⟨aO,count,1000⟩ us t++[⟨t,1⟩]) (xs++[pH t]) r,y,⟨0,au⟩))/\
  (¬((cD ⟨aO,count,1000⟩ us t).length:Int)+1<=count->dR (bR t aO count h us xs r) y ⟨0,2,0,0,0,1⟩=(bR t aO count h us xs r,y,⟨11,0⟩)):=by
 have hw:=oz h1 h2 (h:=h) (by omega) hu
 have hA:=CB (t:=t) hw (by omega) hh rfl hl ho (iN hu).1
 constructor
 ·intro hc
  rw [if_pos hc] at hA
  exact ⟨_,Ct (b:=bR t aO count h us xs r) (n:=0) (p:=0) (s:=1) rfl (by omega) (by simp [bR]) (by omega) (by omega) (by simp only [bR];omega) hx rfl hA y⟩
 ·intro hc
  rw [if_neg hc] at hA
  exact xR (b:=bR t aO count h us xs r) (n:=0) (p:=0) (s:=1) rfl (by omega) (by simp [bR]) (by omega) (by omega) (by simp only [bR];omega) hx rfl (by omega) hA y
def zs (n:Nat):List cF:=List.replicate n ⟨0,1⟩
theorem oK (n:Nat):xq (zs n):=fun u hu=>by rw [(List.mem_replicate.1 hu).2]
theorem mD {n:Nat} (h:n<=30):(eD (zs n)).err=0:=
 mm.2 ⟨by simp [zs];omega,fun u hu=>by rw [(List.mem_replicate.1 hu).2];decide,List.pairwise_replicate.2 (.inr (by decide))⟩
theorem rE {n:Nat} {t:Int} (h:0<=t):eR (zs n) t=false:=by
 unfold eR
 cases hg:(zs n).getLast? with
 |none=>rfl
 |some u=>
  have:=List.mem_of_getLast? hg
  rw [(List.mem_replicate.1 this).2]
  exact decide_eq_false (by dsimp only;omega)
theorem sI {n:Nat} {p:dg} {t:Int} (h:t < p.aO):cD p (zs n) t=zs n:=by
 unfold cD dz
 refine List.filter_eq_self.2 fun u hu=>?_
 rw [(List.mem_replicate.1 hu).2];simp [cx];omega
theorem pt {n:Nat} {p:dg} {t:Int} (h:p.aO<=t):cD p (zs n) t=[]:=by
 unfold cD dz
 refine List.filter_eq_nil_iff.2 fun u hu=>?_
 rw [(List.mem_replicate.1 hu).2];simp [cx];omega
theorem BU (n:Nat):zs n++[⟨0,1⟩]=zs (n+1):=(List.replicate_succ' ..).symm
def hO (n:Nat):List bB:=List.replicate n (pH 0)
theorem Bo (n:Nat):hO n++[pH 0]=hO (n+1):=(List.replicate_succ' ..).symm
theorem ya {aO count:Int} {r:List Entry} (h1:1<=aO/\aO<=50) (h2:0<=count/\count<=12) (rest:List aV) (y:List (List Int)):∀ (k n:Nat) (out:List Answer),(n:Int)<=count->
  ∃ (n':Nat) (o:List Answer),iX (List.replicate k ⟨0,2,0,0,0,1⟩++rest) (bR 0 aO count n (zs n) (hO n) r) y out=iX rest (bR 0 aO count n' (zs n') (hO n') r) y (out++o)/\o.length=k/\(n':Int)<=count/\
   ((n+k:Nat) < count->n'=n+k)/\(count<=(n+k:Nat)->(n':Int)=count)/\∀ i x,o[i]?=some x->(x.err=0/\((n+i:Nat):Int) < count)\/(x.err=11/\count<=(n+i:Nat))
 |0,n,out,hn=>⟨n,[],by simp,rfl,hn,fun _=>rfl,fun _=>by omega,fun i x h=>by simp at h⟩
 |k+1,n,out,hn=>by
  obtain ⟨yes,no⟩:=yb (r:=r) (h:=(n:Int)) (us:=zs n) (xs:=hO n) h1 h2 (by omega) (mD (by omega)) (t:=0) (by omega) (rE (by omega)) (oK n) (by simp [hO];omega) y
  rw [sI (by dsimp only;omega),show (zs n).length=n by simp [zs]] at yes no
  rw [List.replicate_succ,List.cons_append]
  by_cases hc:(n:Int)+1<=count
  ·obtain ⟨au,e⟩:=yes hc
   rw [BU,Bo,show (n:Int)+1=((n+1:Nat):Int) by omega] at e
   obtain ⟨n',o,e1,l1,b1,y1,z1,o1⟩:=ya (r:=r) h1 h2 rest y k (n+1) (out++[⟨0,au⟩]) (by omega)
   refine ⟨n',[⟨0,au⟩]++o,?_,by simp [l1],b1,fun h=>by have:=y1 (by omega);omega,fun h=>z1 (by omega),fun i x hx=>?_⟩
   ·rw [fm e,e1,List.append_assoc]
   ·rcases i with _|i
    ·simp at hx;subst hx;exact .inl ⟨rfl,by omega⟩
    ·rw [List.singleton_append,List.getElem?_cons_succ] at hx
     rw [show n+(i+1)=n+1+i by omega];exact o1 i x hx
  ·have e:=no hc
   obtain ⟨n',o,e1,l1,b1,y1,z1,o1⟩:=ya (r:=r) h1 h2 rest y k n (out++[⟨11,0⟩]) hn
   refine ⟨n',[⟨11,0⟩]++o,?_,by simp [l1],b1,fun h=>by omega,fun h=>?_,fun i x hx=>?_⟩
   ·rw [fm e,e1,List.append_assoc]
   ·by_cases hk:((n+k:Nat):Int) < count
    ·have:=y1 hk;omega
    ·exact z1 (by omega)
   ·rcases i with _|i
    ·simp at hx;subst hx;exact .inr ⟨rfl,by omega⟩
    ·rw [List.singleton_append,List.getElem?_cons_succ] at hx
     rcases o1 i x hx with h|h
     ·exfalso;omega
     ·exact .inr ⟨h.1,by omega⟩
def oQ (T:Nat) (aO:Int):List aV:=[⟨0,1,0,0,0,1000⟩]++List.replicate T ⟨0,2,0,0,0,1⟩++[⟨0,4,0,0,0,aO - 1⟩,⟨0,2,0,0,0,1⟩,⟨0,4,0,0,0,1⟩,⟨0,2,0,0,0,1⟩]
theorem oF {aO count h t:Int} {us:List cF} {xs:List bB} (hx:∀ a∈xs,∃ t',a=pH t'/\0<=t') (hw:ct (rl aO count h us)=0) (ht:t < 100):(∀ a∈xs,t < a.cQ)/\∀ a∈xs,∃ c,[rl aO count h us][a.aL.toNat]?=some c/\ct c=0:=
 ⟨fun a ha=>by obtain ⟨t',rfl,h0⟩:=hx a ha;simp only [pH];omega,fun a ha=>by obtain ⟨t',rfl,h0⟩:=hx a ha;exact ⟨_,rfl,hw⟩⟩
theorem mU {T:Nat} {count:Int} {o1:List Answer} {w z:Answer} {q:Prop} (l1:o1.length=T) (a1:∀ i x,o1[i]?=some x->(x.err=0/\((0+i:Nat):Int) < count)\/(x.err=11/\count<=(0+i:Nat))) (hw:w.err=0↔(T:Int) < count) (hz:z.err=0↔q) {o:List Answer} (ho:[⟨0,0⟩]++o1++[⟨0,0⟩]++[w]++[⟨0,0⟩]++[z]=o):
  o.length=T+5/\(∀ i x,i < T->o[1+i]?=some x->(x.err=0/\(i:Int) < count)\/(x.err=11/\count<=i))/\(∀ x,o[T+2]?=some x->(x.err=0↔(T:Int) < count))/\∀ x,o[T+4]?=some x->(x.err=0↔q):=by
 have hl:o=⟨0,0⟩::(o1++[⟨0,0⟩,w,⟨0,0⟩,z]):=by rw [<-ho];simp
 rw [hl]
 refine ⟨by simp [l1],fun i x hi hx=>?_,fun x hx=>?_,fun x hx=>?_⟩
 ·rw [show 1+i=i+1 by omega,List.getElem?_cons_succ,List.getElem?_append_left (by omega)] at hx
  have:=a1 i x hx
  rwa [Nat.zero_add] at this
 ·rw [List.getElem?_cons_succ,List.getElem?_append_right (by omega),l1,show T+1 - T=1 by omega] at hx
  simp at hx;subst hx;exact hw
 ·rw [List.getElem?_cons_succ,List.getElem?_append_right (by omega),l1,show T+3 - T=3 by omega] at hx
  simp at hx;subst hx;exact hz
theorem Am {aO count:Int} {T:Nat} (h1:1<=aO/\aO<=50) (h2:0<=count/\count<=12) (hT:T<=12) {b:Bk} {y:List (List Int)} {o:List Answer} {f:cX}
  (hr:gX ⟨[⟨aO,count,1000⟩],1,0⟩ (oQ T aO)=(b,y,o,f)):
  f.err=0/\o.length=T+5/\(∀ i x,i < T->o[1+i]?=some x->(x.err=0/\(i:Int) < count)\/(x.err=11/\count<=i))/\(∀ x,o[T+2]?=some x->(x.err=0↔(T:Int) < count))/\
   ∀ x,o[T+4]?=some x->(x.err=0↔(1 < count\/count=1/\¬(T:Int) < count\/count=1/\aO=1)):=by
 have hw:ea ⟨[⟨aO,count,1000⟩],1,0⟩=⟨0,0⟩:=by
  have hp:=pM h1 h2
  unfold ea
  rw [if_neg (by simp),if_neg (by dsimp only;omega)]
  unfold mZ
  rw [hp,if_neg (by simp)];rfl
 rw [Cf hw (by simp [oQ];omega) (fun d hd=>by
  simp only [oQ,List.mem_append,List.mem_replicate,List.mem_cons,List.not_mem_nil,or_false] at hd
  rcases hd with (rfl|⟨_,rfl⟩)|rfl|rfl|rfl|rfl<;>rfl)] at hr
 obtain ⟨r1,d1,w1,g1⟩:=AZ (b:=fC ⟨[⟨aO,count,1000⟩],1,0⟩) (n:=0) (s:=1000) (c:=kN ⟨aO,count,1000⟩) (by omega) (by omega) rfl (kQ (by simp [kN]) (pM h1 h2) rfl) (by simp [kN]) rfl (by simp [fC,dA]) (by simp [fC,dA])
 have e1:∀ y,dR (fC ⟨[⟨aO,count,1000⟩],1,0⟩) y ⟨0,1,0,0,0,1000⟩=(bR 0 aO count ((0:Nat):Int) (zs 0) (hO 0) r1,y,⟨0,0⟩):=d1
 obtain ⟨n,o1,e2,l1,b1,y1,z1,a1⟩:=ya (r:=r1) h1 h2 [⟨0,4,0,0,0,aO - 1⟩,⟨0,2,0,0,0,1⟩,⟨0,4,0,0,0,1⟩,⟨0,2,0,0,0,1⟩] [] T 0 [⟨0,0⟩] (by omega)
 rw [Nat.zero_add] at y1 z1
 have hearly:(n:Int)+1<=count↔(T:Int) < count:=by
  constructor
  ·intro h
   rcases Int.lt_or_le (T:Int) count with h'|h'
   ·exact h'
   ·have:=z1 h';omega
  ·intro h;have:=y1 h;omega
 have hw0:=oz h1 h2 (h:=(n:Int)) (us:=zs n) (by omega) (mD (by omega))
 obtain ⟨q1,q2⟩:=oF (xs:=hO n) (t:=aO - 1) (fun a ha=>⟨0,(List.mem_replicate.1 ha).2,by omega⟩) hw0 (by omega)
 have e3:=ox (b:=bR 0 aO count n (zs n) (hO n) r1) (s:=aO - 1) rfl (by omega) (by simp only [bR];omega) (fun a ha=>by have:=q1 a ha;simp only [bR];omega) q2 []
 have e3':dR (bR 0 aO count n (zs n) (hO n) r1) [] ⟨0,4,0,0,0,aO - 1⟩=(bR (aO - 1) aO count n (zs n) (hO n) r1,[],⟨0,0⟩):=by
  rw [e3];simp [bR]
 have hlr:oQ T aO=⟨0,1,0,0,0,1000⟩::(List.replicate T ⟨0,2,0,0,0,1⟩++[⟨0,4,0,0,0,aO - 1⟩,⟨0,2,0,0,0,1⟩,⟨0,4,0,0,0,1⟩,⟨0,2,0,0,0,1⟩]):=by simp [oQ]
 rw [hlr,fm (e1 _),show ([]:List Answer)++[⟨0,0⟩]=[⟨0,0⟩] from rfl,e2,fm e3'] at hr
 obtain ⟨yes,no⟩:=yb (r:=r1) (h:=(n:Int)) (us:=zs n) (xs:=hO n) h1 h2 (by omega) (mD (by omega)) (t:=aO - 1) (by omega) (rE (by omega)) (oK n) (by simp [hO];omega) []
 rw [sI (by dsimp only;omega),show (zs n).length=n by simp [zs]] at yes no
 by_cases hc:(n:Int)+1<=count
 ·have hT':=hearly.1 hc
  obtain ⟨au,e4⟩:=yes hc
  have hu4:(eD (zs n++[(⟨aO - 1,1⟩:cF)])).err=0:=mm.2 ⟨by simp [zs];omega,fun u hu=>by
    rcases List.mem_append.1 hu with hu|hu
    ·rw [(List.mem_replicate.1 hu).2];decide
    ·rw [List.mem_singleton.1 hu];dsimp only;omega,by
    rw [List.pairwise_append]
    refine ⟨List.pairwise_replicate.2 (.inr (by decide)),List.pairwise_singleton _ _,fun x hx z hz=>?_⟩
    rw [(List.mem_replicate.1 hx).2,List.mem_singleton.1 hz];dsimp only;omega⟩
  have hw4:=oz h1 h2 (h:=(n:Int)+1) (us:=zs n++[(⟨aO - 1,1⟩:cF)]) (by omega) hu4
  obtain ⟨q3,q4⟩:=oF (xs:=hO n++[pH (aO - 1)]) (t:=aO - 1+1) (fun a ha=>by
   rcases List.mem_append.1 ha with ha|ha
   ·exact ⟨0,(List.mem_replicate.1 ha).2,by omega⟩
   ·exact ⟨aO - 1,List.mem_singleton.1 ha,by omega⟩) hw4 (by omega)
  have e5:dR (bR (aO - 1) aO count ((n:Int)+1) (zs n++[(⟨aO - 1,1⟩:cF)]) (hO n++[pH (aO - 1)]) r1) [] ⟨0,4,0,0,0,1⟩=(bR (aO - 1+1) aO count ((n:Int)+1) (zs n++[(⟨aO - 1,1⟩:cF)]) (hO n++[pH (aO - 1)]) r1,[],⟨0,0⟩):=
   ox (b:=bR (aO - 1) aO count ((n:Int)+1) (zs n++[(⟨aO - 1,1⟩:cF)]) (hO n++[pH (aO - 1)]) r1) (s:=1) rfl (by omega) (by simp only [bR];omega) q3 q4 []
  have hll:eR (zs n++[(⟨aO - 1,1⟩:cF)]) (aO - 1+1)=false:=by
   unfold eR;rw [List.getLast?_concat];exact decide_eq_false (by dsimp only;omega)
  obtain ⟨yes2,no2⟩:=yb (r:=r1) (h:=(n:Int)+1) (us:=zs n++[(⟨aO - 1,1⟩:cF)]) (xs:=hO n++[pH (aO - 1)]) h1 h2 (by omega) hu4 (t:=aO - 1+1) (by omega) hll (fun u hu=>by
   rcases List.mem_append.1 hu with hu|hu
   ·exact oK n u hu
   ·rw [List.mem_singleton.1 hu]) (by simp [hO];omega) []
  have hrec:(cD ⟨aO,count,1000⟩ (zs n++[(⟨aO - 1,1⟩:cF)]) (aO - 1+1)).length=if aO=1 then 0 else 1:=by
   unfold cD
   rw [lG]
   have:=pt (n:=n) (p:=⟨aO,count,1000⟩) (t:=aO - 1+1) (by dsimp only;omega)
   unfold cD at this
   rw [this,List.nil_append]
   by_cases h:aO=1
   ·rw [if_pos h,if_pos (by simp [cx];omega)];rfl
   ·rw [if_neg h,if_neg (by simp [cx];omega)];rfl
  rw [hrec] at yes2 no2
  rw [fm e4,fm e5] at hr
  by_cases hq:((if aO=1 then 0 else 1:Nat):Int)+1<=count
  ·obtain ⟨au2,e6⟩:=yes2 hq
   rw [fm e6] at hr
   simp only [iX,Prod.mk.injEq] at hr
   obtain ⟨rfl,rfl,ho,rfl⟩:=hr
   exact ⟨rfl,mU l1 a1 ⟨fun _=>hT',fun _=>rfl⟩ ⟨fun _=>by split at hq<;>omega,fun _=>rfl⟩ ho⟩
  ·have e6:=no2 hq
   rw [fm e6] at hr
   simp only [iX,Prod.mk.injEq] at hr
   obtain ⟨rfl,rfl,ho,rfl⟩:=hr
   exact ⟨rfl,mU l1 a1 ⟨fun _=>hT',fun _=>rfl⟩ ⟨fun h=>(by cases h),fun h=>by split at hq<;>omega⟩ ho⟩
 ·have hT':¬(T:Int) < count:=fun h=>hc (hearly.2 h)
  have e4:=no hc
  obtain ⟨q3,q4⟩:=oF (xs:=hO n) (t:=aO - 1+1) (fun a ha=>⟨0,(List.mem_replicate.1 ha).2,by omega⟩) hw0 (by omega)
  have e5:dR (bR (aO - 1) aO count n (zs n) (hO n) r1) [] ⟨0,4,0,0,0,1⟩=(bR (aO - 1+1) aO count n (zs n) (hO n) r1,[],⟨0,0⟩):=
   ox (b:=bR (aO - 1) aO count n (zs n) (hO n) r1) (s:=1) rfl (by omega) (by simp only [bR];omega) q3 q4 []
  obtain ⟨yes2,no2⟩:=yb (r:=r1) (h:=(n:Int)) (us:=zs n) (xs:=hO n) h1 h2 (by omega) (mD (by omega)) (t:=aO - 1+1) (by omega) (rE (by omega)) (oK n) (by simp [hO];omega) []
  rw [pt (by dsimp only;omega)] at yes2 no2
  rw [fm e4,fm e5] at hr
  by_cases hq:(([]:List cF).length:Int)+1<=count
  ·obtain ⟨au2,e6⟩:=yes2 hq
   rw [fm e6] at hr
   simp only [iX,Prod.mk.injEq] at hr
   obtain ⟨rfl,rfl,ho,rfl⟩:=hr
   exact ⟨rfl,mU l1 a1 ⟨fun h=>(by cases h),fun h=>absurd h hT'⟩ ⟨fun _=>by simp at hq;omega,fun _=>rfl⟩ ho⟩
  ·have e6:=no2 hq
   rw [fm e6] at hr
   simp only [iX,Prod.mk.injEq] at hr
   obtain ⟨rfl,rfl,ho,rfl⟩:=hr
   exact ⟨rfl,mU l1 a1 ⟨fun h=>(by cases h),fun h=>absurd h hT'⟩ ⟨fun h=>(by cases h),fun h=>by simp at hq;omega⟩ ho⟩


theorem ED {P:Program} {st:aF} {o:Oper} {t yt:TypeId} {x y:Operand} {a b:Bool} (hu:P.underlying t=some .bool) (ho:o.op=.binOp .neq t x y yt) (hx:ev st x (.v (.c (.d (.v (.bool a)))))) (hy:ev st y (.v (.c (.d (.v (.bool b)))))):aJ P o st (.v (.c (.d (.v (.bool (!(a==b))))))) [] []:=
  aJ.val fun σ T ac w C=>by
    have h1:=bq.inv (bI C hx)
    have h2:=bq.inv (bI C hy)
    refine ⟨_,?_,bq.v _ rfl⟩
    unfold execOp
    simp [ho,h1,h2,binOp,eqGuard,Op.equal,Op.maxDepth,run_equalIn_bool w 9999 t a b hu]

theorem zF (count times aO:Int):Fn Try.prog 13 [(.c (cI count)),(.c (cI times)),(.c (cI aO))] (aB true) []:=by
 refine Fn.mk' 148 [(0,(aI count)),(1,(aI times)),(2,(aI aO))] Try.func13 rfl rfl rfl rfl ?_
 intro W0 T0
 refine ad aa 1 rfl ?_
 refine af ?_
 refine eN ?_
 refine aM 0 [] (bP 0 (Bl) Gh rfl rfl trivial trivial trivial rfl rfl rfl rfl) rfl ?_
 refine ab aa 1 rfl ?_
 refine ae ?_
 refine ag rfl (fun hno=>by cases hno) (fun _=>?_)
 refine aP ?_
 refine af ?_
 refine cp 38 ((((((decide (count < 0))||(decide (count > 12)))||(decide (times < 0)))||(decide (times > 12)))||(decide (aO < 1)))||(decide (aO > 50))) ?_ ?_
 ·
  refine aw ?_
  refine ab aa 3 rfl ?_
  refine bw (t:=19) rfl (fun hb2=>?_) (fun hb2=>?_)
  ·
   have hb2':=of_decide_eq_true hb2
   refine ab aa 19 rfl ?_
   refine ae ?_
   exact aD.bA 23 rfl rfl (by first|(simp [hb2];done)|(simp_all;done)|(exfalso;simp_all;done)|(simp_all;omega)) rfl
  have hb2':=of_decide_eq_false hb2
  refine ab aa 4 rfl ?_
  refine bw (t:=23) rfl (fun hb3=>?_) (fun hb3=>?_)
  ·
   have hb3':=of_decide_eq_true hb3
   refine ab aa 15 rfl ?_
   refine ae ?_
   exact aD.bA 24 rfl rfl (by first|(simp [hb2,hb3];done)|(simp_all;done)|(exfalso;simp_all;done)|(simp_all;omega)) rfl
  have hb3':=of_decide_eq_false hb3
  refine ab aa 4 rfl ?_
  refine bw (t:=27) rfl (fun hb4=>?_) (fun hb4=>?_)
  ·
   have hb4':=of_decide_eq_true hb4
   refine ab aa 11 rfl ?_
   refine ae ?_
   exact aD.bA 25 rfl rfl (by first|(simp [hb2,hb3,hb4];done)|(simp_all;done)|(exfalso;simp_all;done)|(simp_all;omega)) rfl
  have hb4':=of_decide_eq_false hb4
  refine ab aa 4 rfl ?_
  refine bw (t:=31) rfl (fun hb5=>?_) (fun hb5=>?_)
  ·
   have hb5':=of_decide_eq_true hb5
   refine ab aa 7 rfl ?_
   refine ae ?_
   exact aD.bA 26 rfl rfl (by first|(simp [hb2,hb3,hb4,hb5];done)|(simp_all;done)|(exfalso;simp_all;done)|(simp_all;omega)) rfl
  have hb5':=of_decide_eq_false hb5
  refine ab aa 4 rfl ?_
  refine bw (t:=35) rfl (fun hb6=>?_) (fun hb6=>?_)
  ·
   have hb6':=of_decide_eq_true hb6
   refine ab aa 3 rfl ?_
   refine ae ?_
   exact aD.bA 27 rfl rfl (by first|(simp [hb2,hb3,hb4,hb5,hb6];done)|(simp_all;done)|(exfalso;simp_all;done)|(simp_all;omega)) rfl
  have hb6':=of_decide_eq_false hb6
  refine ab aa 3 rfl ?_
  refine ae ?_
  exact aD.bA 27 rfl rfl (by first|(simp [hb2,hb3,hb4,hb5,hb6];done)|(simp_all;done)|(exfalso;simp_all;done)|(simp_all;omega)) rfl
 refine ag rfl (fun hc7=>?_) (fun hc7=>?_)
 ·
  have hc7':=hc7;try simp only [bl,bJ] at hc7'
  refine ad aa 1 rfl ?_
  refine ax ?_
  refine an ?_
  refine al aa [] 0 rfl rfl rfl rfl rfl rfl ?_ ?_
  ·rfl
  ·rfl
 have hc7':=hc7;try simp only [bl,bJ] at hc7'
 refine aP ?_
 obtain ⟨T,hT⟩:∃ z:Nat,z=times.toNat:=⟨_,rfl⟩
 refine gT (i:=1) (v:=(aI (↑T:Int))) (cC (ρ:=id) rfl (by omega)) ?_
 refine aE aa 3 rfl ?_
 refine aM 1 [0] (dv (ys:=[(0,(.g [(cI aO),(cI count),(cI 1000)]))]) (rows:=([(⟨aO,count,1000⟩:dg)]).map fR) 0 CL rfl (by decide) ⟨⟨rfl,rfl⟩,trivial⟩ rfl rfl rfl rfl) rfl ?_
 refine lP (s':=[(0,(aI count)),(1,(aI (↑T:Int))),(2,(aI aO)),(6,(aB false)),(15,(aB true)),(16,(aB false)),(38,(aB ((((((decide (count < 0))||(decide (count > 12)))||(decide (times < 0)))||(decide (times > 12)))||(decide (aO < 1)))||(decide (aO > 50))))),(39,(aI aO)),(40,(aI count)),(41,(aG [(cI aO),(cI count),(cI 1000)])),(42,(aC (cR 3 (([(⟨aO,count,1000⟩:dg)]).map fR))))]) (h':=[]) 0 rfl ⟨⟨_,rfl,.inl ⟨rfl,rfl⟩⟩,⟨_,rfl,.inl ⟨rfl,rfl⟩⟩,⟨_,rfl,.inl ⟨rfl,rfl⟩⟩,⟨_,rfl,.inl ⟨rfl,rfl⟩⟩,⟨_,rfl,.inl ⟨rfl,rfl⟩⟩,⟨_,rfl,.inl ⟨rfl,rfl⟩⟩,⟨_,rfl,.inl ⟨rfl,rfl⟩⟩,⟨_,rfl,.inl ⟨rfl,rfl⟩⟩,⟨_,rfl,.inl ⟨rfl,rfl⟩⟩,⟨_,rfl,.inl ⟨rfl,rfl⟩⟩,⟨_,rfl,.inr ⟨_,_,rfl,rfl,.s rfl (by decide) (by first|omega|(simp;done)|(simp;omega))⟩⟩,trivial⟩ trivial rfl ?_
 refine ab aa 3 rfl ?_
 refine ae ?_
 refine eN ?_
 refine aM 2 [1] (bP 2 (jB 1 0 1000) lg rfl rfl ⟨⟨_,rfl,.c (.d _)⟩,⟨_,rfl,.c (.d _)⟩,⟨_,rfl,.c (.d _)⟩,trivial⟩ ⟨trivial,trivial,trivial,trivial,trivial,trivial,trivial⟩ trivial rfl rfl rfl rfl) rfl ?_
 refine aM 3 [2,1] (dv (ys:=[(0,(.g [(cI 0),(cI 1),(cI 0),(cI 0),(cI 0),(cI 1000)]))]) (rows:=([(⟨0,1,0,0,0,1000⟩:aV)]).map cP) 2 lY rfl (by decide) ⟨⟨rfl,rfl⟩,trivial⟩ rfl rfl rfl rfl) rfl ?_
 refine ab aa 1 rfl ?_
 refine ae ?_
 refine af ?_
 refine ad aa 2 rfl ?_
 refine aW ?_
 refine cw (β:=Nat×List aV) (fun (p:Nat×List aV)=>match p with|(i,m0)=>⟨[(0,(aI count)),(1,(aI (↑T:Int))),(2,(aI aO)),(6,(aB false)),(7,(aC (.p 1 0 0 0))),(8,(aC (.s 2 0 6 m0.length))),(46,(aI (↑T:Int))),(47,(aI (↑i:Int)))],[(2,(tw m0)),(1,(.box 55 [(cR 3 (([(⟨aO,count,1000⟩:dg)]).map fR)),(cI 1),(cI 0)]))],3⟩) (fun (p:Nat×List aV)=>match p with|(i,m0)=>i<=T/\m0++List.replicate (T - i) ⟨0,2,0,0,0,1⟩=[⟨0,1,0,0,0,1000⟩]++List.replicate T ⟨0,2,0,0,0,1⟩/\m0.length=1+i) (fun (p:Nat×List aV)=>match p with|(i,m0)=>T - i) (0,[(⟨0,1,0,0,0,1000⟩:aV)]) ?_ ?_ ?_
 ·exact ⟨by omega,rfl,rfl⟩
 ·exact aD.bY id (by refine ⟨?_,?_,?_,?_,?_,?_,?_,?_,trivial⟩<;>first|rfl|(simp only [bo];done)|(congr 3;omega)|(congr 4;omega)|(simp only [bp];rfl)|(first|exact cC rfl (by omega)|exact gO rfl (by first|omega|(simp only [List.length_append,List.length_cons,List.length_nil] at *;omega)))) (by refine ⟨?_,?_,trivial⟩<;>first|rfl|(simp only [bo];done)|(congr 3;omega)|(congr 4;omega)|(simp only [bp];rfl)) rfl
 rintro ⟨i,m0⟩ ⟨hi0_0,hi0_1,hi0_2⟩
 refine ad aa 1 rfl ?_
 refine af ?_
 refine ag rfl (fun hc8=>?_) (fun hc8=>?_)
 ·
  have hc8':=of_decide_eq_true hc8
  refine aP ?_
  refine af ?_
  refine aW ?_
  refine aw ?_
  refine ab aa 1 rfl ?_
  refine aM 3 [2,1] (bP 3 (jB 2 0 1) lg rfl rfl ⟨⟨_,rfl,.c (.d _)⟩,⟨_,rfl,.c (.d _)⟩,⟨_,rfl,.c (.d _)⟩,trivial⟩ ⟨trivial,trivial,trivial,trivial,trivial,trivial,trivial⟩ trivial rfl rfl rfl rfl) rfl ?_
  refine aM 4 [3,2,1] (dv (ys:=[(0,(.g [(cI 0),(cI 2),(cI 0),(cI 0),(cI 0),(cI 1)]))]) (rows:=([(⟨0,2,0,0,0,1⟩:aV)]).map cP) 3 lY rfl (by decide) ⟨⟨rfl,rfl⟩,trivial⟩ rfl rfl rfl rfl) rfl ?_
  refine aM 5 [4,3,1] (dd (m:=1) (N:=m0.length+1) (k2:=4) (ys:=([(⟨0,2,0,0,0,1⟩:aV)]).map cP) lY rfl rfl rfl rfl rfl rfl (by first|omega|(simp;done)|(simp;omega)) rfl (.s rfl (by first|omega|(simp;done)|(simp;omega))) (by first|omega|(simp;done)|(simp;omega)) (by first|omega|(simp;done)|(simp;omega)) eP (by decide) (by first|omega|(simp;done)|(simp;omega)) (by first|omega|(simp;done)|(simp;omega))) rfl ?_
  refine ab aa 1 rfl ?_
  refine bX ?_
  refine bn ?_
  refine then_ok ?_
  refine aw ?_
  refine ay (aK rfl rfl rfl (aH (by first|omega|(simp;done)|(simp;omega)))) rfl ?_
  refine ab aa 1 rfl ?_
  refine ae ?_
  refine ⟨(i+1,m0++([(⟨0,2,0,0,0,1⟩:aV)])),⟨by omega,by rw [<-hi0_1,show T - i=T - (i+1)+1 by omega,List.replicate_succ];simp,(by first|omega|(simp only [List.length_append,List.length_cons,List.length_nil] at *;omega))⟩,by first|omega|(simp;done)|(simp;omega),aD.bY (fun k=>if k=2 then 4 else k) (by refine ⟨?_,?_,?_,?_,?_,?_,?_,?_,trivial⟩<;>first|rfl|(simp only [bo];done)|(congr 3;omega)|(congr 4;omega)|(simp only [bp];rfl)|(first|exact cC rfl (by omega)|exact gO rfl (by first|omega|(simp only [List.length_append,List.length_cons,List.length_nil] at *;omega)))) (by refine ⟨?_,?_,trivial⟩<;>first|rfl|(simp only [bo];done)|(congr 3;omega)|(congr 4;omega)|(simp only [bp];rfl)) rfl⟩
 have hc8':=of_decide_eq_false hc8
 refine cm ?_
 refine aQ ?_
 refine aQ ?_
 refine bO ?_
 refine then_ok ?_
 have hml:m0++[⟨0,4,0,0,0,aO - 1⟩,⟨0,2,0,0,0,1⟩,⟨0,4,0,0,0,1⟩,⟨0,2,0,0,0,1⟩]=oQ T aO:=by
  have:T - i=0:=by omega
  rw [this] at hi0_1;simp only [List.replicate_zero,List.append_nil] at hi0_1;rw [hi0_1];rfl
 refine aE aa 2 rfl ?_
 refine ay (aK rfl rfl rfl (aH (by first|omega|(simp;done)|(simp;omega)))) rfl ?_
 refine aM 3 [2,1] (bP 3 (jB 4 0 (aO - 1)) lg rfl rfl ⟨⟨_,rfl,.c (.d _)⟩,⟨_,rfl,.c (.d _)⟩,⟨_,rfl,.c (.d _)⟩,trivial⟩ ⟨trivial,trivial,trivial,trivial,trivial,trivial,trivial⟩ trivial rfl rfl rfl rfl) rfl ?_
 refine aM 3 [2,1] (bP 3 (jB 2 0 1) lg rfl rfl ⟨⟨_,rfl,.c (.d _)⟩,⟨_,rfl,.c (.d _)⟩,⟨_,rfl,.c (.d _)⟩,trivial⟩ ⟨trivial,trivial,trivial,trivial,trivial,trivial,trivial⟩ trivial rfl rfl rfl rfl) rfl ?_
 refine aM 3 [2,1] (bP 3 (jB 4 0 1) lg rfl rfl ⟨⟨_,rfl,.c (.d _)⟩,⟨_,rfl,.c (.d _)⟩,⟨_,rfl,.c (.d _)⟩,trivial⟩ ⟨trivial,trivial,trivial,trivial,trivial,trivial,trivial⟩ trivial rfl rfl rfl rfl) rfl ?_
 refine aM 3 [2,1] (bP 3 (jB 2 0 1) lg rfl rfl ⟨⟨_,rfl,.c (.d _)⟩,⟨_,rfl,.c (.d _)⟩,⟨_,rfl,.c (.d _)⟩,trivial⟩ ⟨trivial,trivial,trivial,trivial,trivial,trivial,trivial⟩ trivial rfl rfl rfl rfl) rfl ?_
 refine aM 4 [3,2,1] (dv (ys:=[(0,(.g [(cI 0),(cI 4),(cI 0),(cI 0),(cI 0),(cI (aO - 1))])),(1,(.g [(cI 0),(cI 2),(cI 0),(cI 0),(cI 0),(cI 1)])),(2,(.g [(cI 0),(cI 4),(cI 0),(cI 0),(cI 0),(cI 1)])),(3,(.g [(cI 0),(cI 2),(cI 0),(cI 0),(cI 0),(cI 1)]))]) (rows:=([(⟨0,4,0,0,0,aO - 1⟩:aV),(⟨0,2,0,0,0,1⟩:aV),(⟨0,4,0,0,0,1⟩:aV),(⟨0,2,0,0,0,1⟩:aV)]).map cP) 3 lY rfl (by decide) ⟨⟨rfl,rfl⟩,⟨rfl,rfl⟩,⟨rfl,rfl⟩,⟨rfl,rfl⟩,trivial⟩ rfl rfl rfl rfl) rfl ?_
 refine aM 5 [4,3,1] (dd (m:=4) (N:=m0.length+4) (k2:=4) (ys:=([(⟨0,4,0,0,0,aO - 1⟩:aV),(⟨0,2,0,0,0,1⟩:aV),(⟨0,4,0,0,0,1⟩:aV),(⟨0,2,0,0,0,1⟩:aV)]).map cP) lY rfl rfl rfl rfl rfl rfl (by first|omega|(simp;done)|(simp;omega)) rfl (.s rfl (by first|omega|(simp;done)|(simp;omega))) (by first|omega|(simp;done)|(simp;omega)) (by first|omega|(simp;done)|(simp;omega)) eP (by decide) (by first|omega|(simp;done)|(simp;omega)) (by first|omega|(simp;done)|(simp;omega))) rfl ?_
 refine ab aa 1 rfl ?_
 refine ae ?_
 refine aE aa 2 rfl ?_
 refine lP (s':=[(0,(aI count)),(1,(aI (↑T:Int))),(2,(aI aO)),(6,(aB false)),(7,(aC (.p 1 0 0 0))),(8,(aC (pf (m0++([(⟨0,4,0,0,0,aO - 1⟩:aV),(⟨0,2,0,0,0,1⟩:aV),(⟨0,4,0,0,0,1⟩:aV),(⟨0,2,0,0,0,1⟩:aV)]))))),(46,(aI (↑T:Int))),(47,(aI (↑i:Int))),(48,(aB (decide ((↑i:Int) < (↑T:Int))))),(55,(aI aO)),(56,(aI (aO - 1))),(57,(aG [(cI 0),(cI 4),(cI 0),(cI 0),(cI 0),(cI (aO - 1))])),(58,(aG [(cI 0),(cI 2),(cI 0),(cI 0),(cI 0),(cI 1)])),(59,(aG [(cI 0),(cI 4),(cI 0),(cI 0),(cI 0),(cI 1)])),(60,(aG [(cI 0),(cI 2),(cI 0),(cI 0),(cI 0),(cI 1)])),(61,(aC (.s 3 0 6 4))),(62,(aC (pf (m0++([(⟨0,4,0,0,0,aO - 1⟩:aV),(⟨0,2,0,0,0,1⟩:aV),(⟨0,4,0,0,0,1⟩:aV),(⟨0,2,0,0,0,1⟩:aV)]))))),(64,(aG [(cR 3 (([(⟨aO,count,1000⟩:dg)]).map fR)),(cI 1),(cI 0)])),(65,(aC (pf (m0++([(⟨0,4,0,0,0,aO - 1⟩:aV),(⟨0,2,0,0,0,1⟩:aV),(⟨0,4,0,0,0,1⟩:aV),(⟨0,2,0,0,0,1⟩:aV)])))))]) (h':=[(3,(tw ([(⟨0,4,0,0,0,aO - 1⟩:aV),(⟨0,2,0,0,0,1⟩:aV),(⟨0,4,0,0,0,1⟩:aV),(⟨0,2,0,0,0,1⟩:aV)]))),(1,(.box 55 [(cR 3 (([(⟨aO,count,1000⟩:dg)]).map fR)),(cI 1),(cI 0)]))]) 4 rfl ⟨⟨_,rfl,.inl ⟨rfl,rfl⟩⟩,⟨_,rfl,.inl ⟨rfl,rfl⟩⟩,⟨_,rfl,.inl ⟨rfl,rfl⟩⟩,⟨_,rfl,.inl ⟨rfl,rfl⟩⟩,⟨_,rfl,.inl ⟨rfl,rfl⟩⟩,⟨_,rfl,.inr ⟨_,_,rfl,rfl,.s rfl (by decide) (by first|omega|(simp;done)|(simp;omega))⟩⟩,⟨_,rfl,.inl ⟨rfl,rfl⟩⟩,⟨_,rfl,.inl ⟨rfl,rfl⟩⟩,⟨_,rfl,.inl ⟨rfl,rfl⟩⟩,⟨_,rfl,.inl ⟨rfl,rfl⟩⟩,⟨_,rfl,.inl ⟨rfl,rfl⟩⟩,⟨_,rfl,.inl ⟨rfl,rfl⟩⟩,⟨_,rfl,.inl ⟨rfl,rfl⟩⟩,⟨_,rfl,.inl ⟨rfl,rfl⟩⟩,⟨_,rfl,.inl ⟨rfl,rfl⟩⟩,⟨_,rfl,.inl ⟨rfl,rfl⟩⟩,⟨_,rfl,.inr ⟨_,_,rfl,rfl,.s rfl (by decide) (by first|omega|(simp;done)|(simp;omega))⟩⟩,⟨_,rfl,.inl ⟨rfl,rfl⟩⟩,⟨_,rfl,.inr ⟨_,_,rfl,rfl,.s rfl (by decide) (by first|omega|(simp;done)|(simp;omega))⟩⟩,trivial⟩ ⟨rfl,rfl,trivial⟩ rfl ?_
 obtain ⟨b20,y20,o20,f20,hr0⟩:∃ (b20:Bk) (y20:List (List Int)) (o20:List Answer) (f20:cX),gX (⟨[(⟨aO,count,1000⟩:dg)],1,0⟩:Setup) (m0++([(⟨0,4,0,0,0,aO - 1⟩:aV),(⟨0,2,0,0,0,1⟩:aV),(⟨0,4,0,0,0,1⟩:aV),(⟨0,2,0,0,0,1⟩:aV)]))=(b20,y20,o20,f20):=⟨_,_,_,_,rfl⟩
 obtain ⟨ho1,ho2,ho3,ho4,ho5⟩:=Am (aO:=aO) (count:=count) (T:=T) (by omega) (by omega) (by omega) (b:=b20) (y:=y20) (o:=o20) (f:=f20) (by rw [<-hml];exact hr0)
 refine aM 5 [3,1] (bP 5 (Fn.frozen (av':=(.t [(.g [(cI b20.time),(cB b20.down),(CG b20.ao),(gn b20.due),(yl b20.aq),(cI b20.s0.bW),(de b20.s0.kept),(cI b20.s1.bW),(de b20.s1.kept),(cI b20.n0),(cI b20.n1),(ej b20.w0),(ej b20.w1),(cI b20.bF.cap),(gn b20.bF.used),(gI b20.bF.aY),(iJ b20.aS),(CF y20),(dP b20.book)]),(.c (BB o20)),(.g [(cI f20.err),(cI f20.at_)])])) (zH (⟨[(⟨aO,count,1000⟩:dg)],1,0⟩:Setup) (m0++([(⟨0,4,0,0,0,aO - 1⟩:aV),(⟨0,2,0,0,0,1⟩:aV),(⟨0,4,0,0,0,1⟩:aV),(⟨0,2,0,0,0,1⟩:aV)])) b20 y20 o20 f20 hr0) ⟨⟨.inl ⟨_,rfl,rfl⟩,.inl ⟨_,rfl,rfl⟩,.inr ⟨_,_,_,_,_,rfl,rfl,rfl,by simp⟩,.inr ⟨_,_,_,_,_,rfl,rfl,rfl,by simp⟩,.inr ⟨_,_,_,_,_,rfl,rfl,rfl,by simp⟩,.inl ⟨_,rfl,rfl⟩,.inl ⟨_,rfl,rfl⟩,.inl ⟨_,rfl,rfl⟩,.inl ⟨_,rfl,rfl⟩,.inl ⟨_,rfl,rfl⟩,.inl ⟨_,rfl,rfl⟩,.inl ⟨_,rfl,rfl⟩,.inl ⟨_,rfl,rfl⟩,.inl ⟨_,rfl,rfl⟩,.inl ⟨_,rfl,rfl⟩,.inl ⟨_,rfl,rfl⟩,.inr ⟨_,_,_,_,_,rfl,rfl,rfl,by simp⟩,.inr ⟨_,_,_,_,_,rfl,rfl,rfl,by simp⟩,.inl ⟨_,rfl,rfl⟩,trivial⟩,.inr ⟨_,_,_,_,_,rfl,rfl,rfl,by simp⟩,⟨.inl ⟨_,rfl,rfl⟩,.inl ⟨_,rfl,rfl⟩,trivial⟩,trivial⟩) DR rfl rfl ⟨⟨_,rfl,.g ⟨.d _,.d _,.d _,trivial⟩⟩,⟨_,rfl,.c (.d _)⟩,trivial⟩ ⟨⟨trivial,trivial,trivial,trivial,trivial,trivial,trivial,trivial,trivial,trivial,trivial,trivial,trivial,trivial,trivial,trivial,trivial,trivial,trivial,trivial⟩,trivial,⟨trivial,trivial,trivial⟩,trivial⟩ trivial rfl rfl rfl rfl) rfl ?_
 refine ab aa 9 rfl ?_
 refine ae ?_
 refine af ?_
 refine ad aa 3 rfl ?_
 refine ag rfl (fun hc9=>?_) (fun hc9=>?_)
 ·
  have hc9':=of_decide_eq_true hc9
  refine ad aa 1 rfl ?_
  refine ax ?_
  refine an ?_
  refine al aa [] 0 rfl rfl rfl rfl rfl rfl ?_ ?_
  ·exact congrArg aB (show (false)=true by (first|(exfalso;simp_all;done)|(exfalso;simp_all;omega)|(rw [beq_iff_eq,Bool.eq_iff_iff];simp only [Bool.or_eq_true,Bool.and_eq_true,decide_eq_true_eq,Bool.not_eq_true',decide_eq_false_iff_not];omega)|(simp_all;done)|(simp_all;omega)))
  ·rfl
 have hc9':=of_decide_eq_false hc9
 refine aP ?_
 refine af ?_
 refine ad aa 2 rfl ?_
 refine aW ?_
 refine cw (β:=Nat) (fun (q:Nat)=>⟨[(0,(aI count)),(1,(aI (↑T:Int))),(2,(aI aO)),(7,(aC (.p 1 0 0 0))),(8,(aC (pf (m0++([(⟨0,4,0,0,0,aO - 1⟩:aV),(⟨0,2,0,0,0,1⟩:aV),(⟨0,4,0,0,0,1⟩:aV),(⟨0,2,0,0,0,1⟩:aV)]))))),(46,(aI (↑T:Int))),(47,(aI (↑i:Int))),(10,(aC (BB o20))),(73,(aI (↑T:Int))),(74,(aI (↑q:Int)))],[(1,(.box 55 [(cR 3 (([(⟨aO,count,1000⟩:dg)]).map fR)),(cI 1),(cI 0)]))],2⟩) (fun (q:Nat)=>q<=T) (fun (q:Nat)=>T - q) 0 ?_ ?_ ?_
 ·exact (by omega)
 ·exact aD.bY id (by refine ⟨?_,?_,?_,?_,?_,?_,?_,?_,?_,?_,trivial⟩<;>first|rfl|(simp only [bo];done)|(congr 3;omega)|(congr 4;omega)|(simp only [bp];rfl)) (⟨by first|rfl|(simp only [bo];done)|(congr 3;omega)|(congr 4;omega)|(simp only [bp];rfl),trivial⟩) rfl
 rintro q hi1_0
 refine ad aa 1 rfl ?_
 refine af ?_
 refine ag rfl (fun hc10=>?_) (fun hc10=>?_)
 ·
  have hc10':=of_decide_eq_true hc10
  refine aP ?_
  refine af ?_
  refine aW ?_
  refine ad aa 2 rfl ?_
  refine aE aa 2 rfl ?_
  refine ay (aK rfl rfl rfl (aH (by first|omega|(simp;done)|(simp;omega)))) rfl ?_
  obtain ⟨x1,hx1⟩:=cq (xs:=o20) (i:=1+(q)) (by first|omega|(simp;done)|(simp;omega))
  have hx1K:=ho3 q x1 (by omega) hx1
  refine ay (cS (i:=1+(q)) rfl rfl rfl Try.underlying47 ua (by first|omega|(simp;done)|(simp;omega)) (bu hx1)) rfl ?_
  refine ab aa 6 rfl ?_
  refine ay (ED Try.underlying4 rfl rfl rfl) rfl ?_
  refine ab aa 1 rfl ?_
  refine bw (t:=88) rfl (fun hb11=>?_) (fun hb11=>?_)
  ·
   have hb11':=hb11;try simp only [bl,bJ] at hb11'
   refine ab aa 17 rfl ?_
   refine ae ?_
   refine ag rfl (fun _=>?_) (fun hno=>by cases hno)
   refine ad aa 1 rfl ?_
   refine ax ?_
   refine bf ?_
   refine an ?_
   refine an ?_
   refine bf ?_
   refine an ?_
   refine al aa [] 0 rfl rfl rfl rfl rfl rfl ?_ ?_
   ·exact congrArg aB (show (false)=true by (first|(exfalso;simp_all;done)|(exfalso;simp_all;omega)|(rw [beq_iff_eq,Bool.eq_iff_iff];simp only [Bool.or_eq_true,Bool.and_eq_true,decide_eq_true_eq,Bool.not_eq_true',decide_eq_false_iff_not];omega)|(simp_all;done)|(simp_all;omega)))
   ·rfl
  have hb11':=hb11;try simp only [bl,bJ] at hb11'
  refine ab aa 2 rfl ?_
  refine dD (ah.yes rfl rfl rfl) (aK rfl rfl rfl (aH (by first|omega|(simp;done)|(simp;omega)))) rfl rfl ?_
  refine dD (ah.yes rfl rfl rfl) (cS (i:=1+(q)) rfl rfl rfl Try.underlying47 ua (by first|omega|(simp;done)|(simp;omega)) (bu hx1)) rfl rfl ?_
  refine ab aa 4 rfl ?_
  refine bw (t:=96) rfl (fun hb13=>?_) (fun hb13=>?_)
  ·
   have hb13':=of_decide_eq_true hb13
   refine ab aa 2 rfl ?_
   refine dD (ah.yes rfl rfl rfl) (aK rfl rfl rfl (aH (by first|omega|(simp;done)|(simp;omega)))) rfl rfl ?_
   refine dD (ah.yes rfl rfl rfl) (cS (i:=1+(q)) rfl rfl rfl Try.underlying47 ua (by first|omega|(simp;done)|(simp;omega)) (bu hx1)) rfl rfl ?_
   refine ab aa 5 rfl ?_
   refine ae ?_
   refine ag rfl (fun hc14=>?_) (fun hc14=>?_)
   ·
    have hc14':=of_decide_eq_true hc14
    refine ad aa 1 rfl ?_
    refine ax ?_
    refine bf ?_
    refine an ?_
    refine an ?_
    refine bf ?_
    refine an ?_
    refine al aa [] 0 rfl rfl rfl rfl rfl rfl ?_ ?_
    ·exact congrArg aB (show (false)=true by (first|(exfalso;simp_all;done)|(exfalso;simp_all;omega)|(rw [beq_iff_eq,Bool.eq_iff_iff];simp only [Bool.or_eq_true,Bool.and_eq_true,decide_eq_true_eq,Bool.not_eq_true',decide_eq_false_iff_not];omega)|(simp_all;done)|(simp_all;omega)))
    ·rfl
   have hc14':=of_decide_eq_false hc14
   refine cW ?_
   refine bn ?_
   refine then_ok ?_
   refine aw ?_
   refine ay (aK rfl rfl rfl (aH (by first|omega|(simp;done)|(simp;omega)))) rfl ?_
   refine ab aa 1 rfl ?_
   refine ae ?_
   refine ⟨q+1,by omega,by first|omega|(simp;done)|(simp;omega),aD.bY id (by refine ⟨?_,?_,?_,?_,?_,?_,?_,?_,?_,?_,trivial⟩<;>first|rfl|(simp only [bo];done)|(congr 3;omega)|(congr 4;omega)|(simp only [bp];rfl)) (⟨by first|rfl|(simp only [bo];done)|(congr 3;omega)|(congr 4;omega)|(simp only [bp];rfl),trivial⟩) rfl⟩
  have hb13':=of_decide_eq_false hb13
  refine ab aa 9 rfl ?_
  refine ae ?_
  refine ag rfl (fun hno=>by cases hno) (fun _=>?_)
  refine cW ?_
  refine bn ?_
  refine then_ok ?_
  refine aw ?_
  refine ay (aK rfl rfl rfl (aH (by first|omega|(simp;done)|(simp;omega)))) rfl ?_
  refine ab aa 1 rfl ?_
  refine ae ?_
  refine ⟨q+1,by omega,by first|omega|(simp;done)|(simp;omega),aD.bY id (by refine ⟨?_,?_,?_,?_,?_,?_,?_,?_,?_,?_,trivial⟩<;>first|rfl|(simp only [bo];done)|(congr 3;omega)|(congr 4;omega)|(simp only [bp];rfl)) (⟨by first|rfl|(simp only [bo];done)|(congr 3;omega)|(congr 4;omega)|(simp only [bp];rfl),trivial⟩) rfl⟩
 have hc10':=of_decide_eq_false hc10
 refine cm ?_
 refine aQ ?_
 refine aQ ?_
 refine bO ?_
 refine then_ok ?_
 refine ad aa 4 rfl ?_
 refine cp 14 (((decide (count > 1))||((decide (count=1)) && (!(decide ((↑T:Int) < count)))))||((decide (count=1)) && (decide (aO=1)))) ?_ ?_
 ·
  refine aw ?_
  refine ab aa 3 rfl ?_
  refine bw (t:=112) rfl (fun hb16=>?_) (fun hb16=>?_)
  ·
   have hb16':=of_decide_eq_true hb16
   refine ab aa 16 rfl ?_
   refine ae ?_
   exact aD.bA 20 rfl rfl (by first|(simp [hb16];done)|(simp_all;done)|(exfalso;simp_all;done)|(simp_all;omega)) rfl
  have hb16':=of_decide_eq_false hb16
  refine ab aa 3 rfl ?_
  refine bw (t:=115) rfl (fun hb17=>?_) (fun hb17=>?_)
  ·
   have hb17':=of_decide_eq_true hb17
   refine ab aa 5 rfl ?_
   refine bw (t:=120) rfl (fun hb18=>?_) (fun hb18=>?_)
   ·
    have hb18':=hb18;try simp only [bl,bJ] at hb18'
    refine ab aa 8 rfl ?_
    refine ae ?_
    exact aD.bA 22 rfl rfl (by first|(simp [hb16,hb17,hb18];done)|(simp_all;done)|(exfalso;simp_all;done)|(simp_all;omega)) rfl
   have hb18':=hb18;try simp only [bl,bJ] at hb18'
   refine ab aa 3 rfl ?_
   refine bw (t:=123) rfl (fun _=>?_) (fun hno=>absurd (hb17.symm.trans hno) (by decide))
   refine ab aa 5 rfl ?_
   refine ae ?_
   exact aD.bA 23 rfl rfl (by first|(simp [hb16,hb17,hb18];done)|(simp_all;done)|(exfalso;simp_all;done)|(simp_all;omega)) rfl
  have hb17':=of_decide_eq_false hb17
  refine ab aa 8 rfl ?_
  refine bw (t:=123) rfl (fun hno=>absurd (hb17.symm.trans hno) (by decide)) (fun _=>?_)
  refine ab aa 5 rfl ?_
  refine ae ?_
  exact aD.bA 22 rfl rfl (by first|(simp [hb16,hb17];done)|(simp_all;done)|(exfalso;simp_all;done)|(simp_all;omega)) rfl
 refine aE aa 2 rfl ?_
 refine ay (aK rfl rfl rfl (aH (by first|omega|(simp;done)|(simp;omega)))) rfl ?_
 obtain ⟨x1,hx1⟩:=cq (xs:=o20) (i:=(T)+2) (by first|omega|(simp;done)|(simp;omega))
 have hx1K:=ho4 x1 hx1
 refine ay (cS (i:=(T)+2) rfl rfl rfl Try.underlying47 ua (by first|omega|(simp;done)|(simp;omega)) (bu hx1)) rfl ?_
 refine ab aa 4 rfl ?_
 refine ay (BH Try.underlying4 rfl rfl rfl) rfl ?_
 refine ab aa 1 rfl ?_
 refine bw (t:=137) rfl (fun hb21=>?_) (fun hb21=>?_)
 ·
  have hb21':=hb21;try simp only [bl,bJ] at hb21'
  refine ab aa 2 rfl ?_
  refine dD (ah.yes rfl rfl rfl) (aK rfl rfl rfl (aH (by first|omega|(simp;done)|(simp;omega)))) rfl rfl ?_
  obtain ⟨x2,hx2⟩:=cq (xs:=o20) (i:=(T)+4) (by first|omega|(simp;done)|(simp;omega))
  have hx2K:=ho5 x2 hx2
  refine dD (ah.yes rfl rfl rfl) (cS (i:=(T)+4) rfl rfl rfl Try.underlying47 ua (by first|omega|(simp;done)|(simp;omega)) (bu hx2)) rfl rfl ?_
  refine ab aa 4 rfl ?_
  refine dD (ah.yes rfl rfl rfl) (BH Try.underlying4 rfl rfl rfl) rfl rfl ?_
  refine ab aa 2 rfl ?_
  refine ae ?_
  refine ax ?_
  refine al aa [] 0 rfl rfl rfl rfl rfl rfl ?_ ?_
  ·exact congrArg aB (show ((decide (x2.err=0))==(((decide (count > 1))||((decide (count=1)) && (!(decide ((↑T:Int) < count)))))||((decide (count=1)) && (decide (aO=1)))))=true by (first|(exfalso;simp_all;done)|(exfalso;simp_all;omega)|(rw [beq_iff_eq,Bool.eq_iff_iff];simp only [Bool.or_eq_true,Bool.and_eq_true,decide_eq_true_eq,Bool.not_eq_true',decide_eq_false_iff_not];omega)|(simp_all;done)|(simp_all;omega)))
  ·rfl
 have hb21':=hb21;try simp only [bl,bJ] at hb21'
 refine ab aa 11 rfl ?_
 refine ae ?_
 refine ax ?_
 refine al aa [] 0 rfl rfl rfl rfl rfl rfl ?_ ?_
 ·exact congrArg aB (show (false)=true by (first|(exfalso;simp_all;done)|(exfalso;simp_all;omega)|(rw [beq_iff_eq,Bool.eq_iff_iff];simp only [Bool.or_eq_true,Bool.and_eq_true,decide_eq_true_eq,Bool.not_eq_true',decide_eq_false_iff_not];omega)|(simp_all;done)|(simp_all;omega)))
 ·rfl
end Go.Proofs.Ytegepioggeggaaa.Dev
