/- A part of the proof: PlOk, BankUp, Bank12, Bank13, Play0, Play1, Top1. No condition. -/
import Derived.Test.YtegepioggeggaaaD13
import Derived.Test.YtegepioggeggaaaD12
set_option linter.unusedVariables false
set_option linter.unusedSimpArgs false
set_option maxHeartbeats 8000000
set_option maxRecDepth 100000
namespace Go.Proofs.Ytegepioggeggaaa.Dev
open Go.RowKit
theorem gF {α:Type} {l:List α} {n:Nat} {x y:α} (h:y∈l.set n x):y∈l\/y=x:=List.mem_or_eq_of_mem_set h
theorem kl {l:List bE} {e k x y:Int} (h:∀ c∈l,cA c=0):∀ c∈(cG l e k x y).1,cA c=0:=by
 unfold cG
 split
 ·exact h
 ·rename_i c hc
  split
  ·rename_i h0
   intro z hz
   rcases gF hz with hz|rfl
   ·exact h z hz
   ·have he:(ec c x y).2=0:=by unfold dD at h0;split at h0<;>omega
    rcases rp (show ec c x y=((ec c x y).1,(ec c x y).2) from rfl) with ⟨h1,_⟩|h1
    ·exact absurd he h1
    ·exact h1.2.2.2.2.2.2.2
  ·exact h
theorem wH {time:Int} {n m:Nat}:∀ (l:List bF) (i:Nat) (aw:List bE) (ax:List bF) (e:Int),(∀ a∈l,bG a=0/\0<=a.aO/\a.aO < n/\0<=a.aD/\a.aD < m)->
  (∀ a∈ax,bG a=0/\0<=a.aO/\a.aO < n/\0<=a.aD/\a.aD < m)->(∀ c∈aw,cA c=0)->
  (∀ c∈(gb time l i aw ax e).1,cA c=0)/\(gb time l i aw ax e).1.length=aw.length/\(gb time l i aw ax e).2.1.length=ax.length/\
  (∀ a∈(gb time l i aw ax e).2.1,bG a=0/\0<=a.aO/\a.aO < n/\0<=a.aD/\a.aD < m)
 |[],_,_,_,_,_,h2,h3=>⟨h3,rfl,rfl,h2⟩
 |a::l,i,aw,ax,e,h1,h2,h3=>by
  have ha:=h1 a List.mem_cons_self
  obtain ⟨r1,r2,r3,r4⟩:=wH l (i+1) (cG aw e a.aO (bB (ew a time) - bB a) 0).1 (ax.set i (ew a time)) (cG aw e a.aO (bB (ew a time) - bB a) 0).2
   (fun x hx=>h1 x (List.mem_cons_of_mem _ hx)) (fun x hx=>by
    rcases gF hx with hx|rfl
    ·exact h2 x hx
    ·exact ⟨yR ha.1,ha.2⟩) (kl h3)
  refine ⟨r1,r2.trans (fy _ _ _ _ _),r3.trans (List.length_set ..),r4⟩
theorem cv.late {b:Bk} (h:cv b):cv (iw b):=by
 unfold iw
 split
 ·obtain ⟨r1,r2,r3,r4⟩:=wH (time:=b.time) (n:=b.aw.length) (m:=b.due.length) b.ax 0 b.aw b.ax 0 h.perm h.perm h.right
  exact ⟨h.time,by rw [r2];exact h.aw,h.due,by rw [r3];exact h.ax,h.aR,h.w0,h.w1,by dsimp only;rw [r2];exact r4,by dsimp only;rw [r2];exact h.kg,by dsimp only;rw [r3];exact h.k0,by dsimp only;rw [r3];exact h.k1,r1,h.l0,h.l1,by dsimp only;rw [r3];exact h.p0,by dsimp only;rw [r3];exact h.p1,h.n0,h.n1,h.calm⟩
 ·exact h
theorem cv.dL {b c:Bk} {e:Int} (h:cv b) (hc:e=0->cv c):cv (dL b c e).1:=by
 unfold Dev.dL;split
 ·exact hc (by assumption)
 ·exact h
theorem gd {e x:Int} (h:dD e x=0):e=0/\x=0:=by unfold dD at h;split at h<;>omega
theorem ku {l:List Entry} {e s d n:Int} (h:(dY l e s d n).2=0):e=0/\(jw l s d n).2=0/\(dY l e s d n).1=(jw l s d n).1:=by
 unfold dY at h ⊢
 split at h
 ·rename_i h1;rw [if_pos h1];have:=gd h1;exact ⟨this.1,this.2,rfl⟩
 ·rename_i h1;exact absurd h h1
theorem cv.BS {b:Bk} (h:cv b) {cs:List bE} {bk:List Entry} (h1:∀ c∈cs,cA c=0) (h2:cs.length=b.aw.length):cv {b with aw:=cs,book:=bk}:=
 ⟨h.time,by rw [h2];exact h.aw,h.due,h.ax,h.aR,h.w0,h.w1,by dsimp only;rw [h2];exact h.perm,by dsimp only;rw [h2];exact h.kg,h.k0,h.k1,h1,h.l0,h.l1,h.p0,h.p1,h.n0,h.n1,h.calm⟩
theorem cv.load {b:Bk} (h:cv b) (d:aW):cv (fT b d).1:=by
 unfold fT
 split
 ·exact h
 split
 ·exact h
 ·exact h.dL fun _=>h.BS (kl h.right) (fy _ _ _ _ _)
theorem cv.Fj {b:Bk} (h:cv b) {due:List Int} {bk:List Entry} (h2:due.length=b.due.length):cv {b with due:=due,book:=bk}:=
 ⟨h.time,h.aw,by rw [h2];exact h.due,h.ax,h.aR,h.w0,h.w1,by dsimp only;rw [h2];exact h.perm,by dsimp only;rw [h2];exact h.kg,h.k0,h.k1,h.right,h.l0,h.l1,h.p0,h.p1,h.n0,h.n1,h.calm⟩
theorem cv.wy {b:Bk} (h:cv b) (d:aW):cv (iD b d).1:=by
 unfold iD
 split
 ·exact h
 split
 ·exact h
 ·exact h.dL fun _=>h.Fj (List.length_set ..)
theorem cv.cU {b:Bk} (h:cv b) (d:aW):cv (fF b d).1:=by
 unfold fF
 split
 ·exact h
 ·have h1:cv {b with time:=b.time+d.sum}:=by have:=h.time;exact h.tick (by omega) (by omega)
  dsimp only
  split
  ·exact h1
  ·exact h1.late
theorem uG {l:List cf} {ks:List aT} {n:Int} {p:cf} (h:p∈gY l ks n):p∈l\/(∃ t∈ks,p=⟨t,-1⟩)\/p=⟨⟨0,0,0,0⟩,n⟩:=by
 unfold gY at h
 simp only [List.mem_append,List.mem_map,List.mem_singleton] at h
 rcases h with (h|⟨t,ht,rfl⟩)|h
 ·exact .inl h
 ·exact .inr (.inl ⟨t,ht,rfl⟩)
 ·exact .inr (.inr h)
structure zi (b:Bk) (n:Nat) (w:List cf):Prop where
 len:w.length<=60
 own:∀ p∈w,p.seen < 0->gi p.cD.number/\0<=p.cD.bc/\p.cD.bc < n
theorem cv.ways {b:Bk} (h:cv b) {v0 v1:List cf} (h0:zi b b.ax.length v0) (h1:zi b b.ax.length v1):cv {b with w0:=v0,w1:=v1}:=
 ⟨h.time,h.aw,h.due,h.ax,h.aR,h0.len,h1.len,h.perm,h.kg,h.k0,h.k1,h.right,h.l0,h.l1,h0.own,h1.own,h.n0,h.n1,h.calm⟩
theorem we {b:Bk} {w:List cf} {ks:List aT} {n:Int} (hn:0<=n) (h:zi b b.ax.length w) (hk:∀ t∈ks,gi t.number/\0<=t.bc/\t.bc < b.ax.length):zi b b.ax.length (iI w ks n).1:=by
 unfold iI
 split
 ·exact h
 ·refine ⟨by dsimp only;omega,fun p hp hs=>?_⟩
  rcases uG hp with hp|⟨t,ht,rfl⟩|rfl
  ·exact h.own p hp hs
  ·exact hk t ht
  ·simp at hs;omega
theorem cv.send {b:Bk} (h:cv b) (d:aW):cv {b with w0:=(eL b.s0 b.s1 b.n0 b.n1 b.w0 b.w1 d).1,w1:=(eL b.s0 b.s1 b.n0 b.n1 b.w0 b.w1 d).2.1}:=by
 have h0:zi b b.ax.length b.w0:=⟨h.w0,h.p0⟩
 have h1:zi b b.ax.length b.w1:=⟨h.w1,h.p1⟩
 unfold eL
 split
 ·exact h.ways h0 (we h.n0 h1 h.k0)
 split
 ·exact h.ways (we h.n1 h0 h.k1) h1
 ·exact h.ways h0 h1
theorem wg {s:bX} {e:Int} {t:aT} {n:Nat} (h:∀ t∈s.kept,gi t.number/\0<=t.bc/\t.bc < n) (hl:s.kept.length<=40) (ht:0<=t.bc/\t.bc < n):
  (∀ u∈(eM s e t).1.kept,gi u.number/\0<=u.bc/\u.bc < n)/\(eM s e t).1.kept.length<=40:=by
 unfold eM
 split
 ·rename_i h0
  have he:=(gd h0).2
  unfold fL at he
  split at he
  ·rename_i h1;exact absurd he h1
  split at he
  ·rename_i h1;exact absurd he h1
  ·rename_i h1 h2
   have hp:(fL s t).1=mm s t:=by unfold fL;rw [if_neg h1,if_neg h2]
   have hw:(ct (mm s t)).err=0:=by omega
   have hr:=sy hw
   dsimp only
   rw [hp]
   refine ⟨fun x hx=>?_,hr.1⟩
   rcases List.mem_append.1 hx with hx|hx
   ·exact h x hx
   ·obtain rfl:=List.mem_singleton.1 hx
    exact ⟨by have:=hr.2.1;have:=hr.2.2.1;constructor<;>simp only [mm,List.length_append] at *<;>omega,ht⟩
 ·exact ⟨h,hl⟩
theorem Bg {l:List aj} {e:Int} {r:aj} (h:l.length<=100):(iO l e r).1.length<=100:=by
 unfold iO
 split
 ·exact h
 ·rw [List.length_append,List.length_singleton];omega
theorem zD {l:List aj} {e:Int} {r:aj} (h:(iO l e r).2=0):e=0/\l.length≠100/\(iO l e r).1=l++[r]:=by
 unfold iO at h ⊢
 split at h
 ·have:=(gd h).2;omega
 ·rename_i h1;rw [if_neg h1];exact ⟨h,h1,rfl⟩
structure oP (n:Nat) (s:bX):Prop where
 own:∀ t∈s.kept,gi t.number/\0<=t.bc/\t.bc < n
 len:s.kept.length<=40
theorem cv.uS {b:Bk} (h:cv b):oP b.ax.length b.s0:=⟨h.k0,h.l0⟩
theorem cv.uR {b:Bk} (h:cv b):oP b.ax.length b.s1:=⟨h.k1,h.l1⟩
theorem oP.send {n:Nat} {s:bX} {e:Int} {t:aT} (h:oP n s) (ht:0<=t.bc/\t.bc < n):oP n (eM s e t).1:=⟨(wg h.own h.len ht).1,(wg h.own h.len ht).2⟩
theorem DN {b:Bk} (h:cv b) (a cC:bF) (d:aW) (hn:0<=d.n/\d.n < b.ax.length):
  (∀ c∈(dS b a cC d).1,cA c=0)/\(dS b a cC d).1.length=b.aw.length/\(dS b a cC d).2.1.length=b.due.length/\
  oP b.ax.length (dS b a cC d).2.2.2.1/\oP b.ax.length (dS b a cC d).2.2.2.2.1:=by
 unfold dS
 have hc:∀ e k x y,(∀ c∈(cG b.aw e k x y).1,cA c=0)/\(cG b.aw e k x y).1.length=b.aw.length:=fun e k x y=>⟨kl h.right,fy _ _ _ _ _⟩
 split
 ·exact ⟨(hc ..).1,(hc ..).2,rfl,h.uS,h.uR⟩
 split
 ·exact ⟨(hc ..).1,(hc ..).2,rfl,h.uS.send hn,h.uR⟩
 split
 ·exact ⟨h.right,rfl,List.length_set ..,h.uS,h.uR.send hn⟩
 split
 ·exact ⟨(hc ..).1,(hc ..).2,rfl,h.uS,h.uR⟩
 split
 ·exact ⟨h.right,rfl,rfl,h.uS.send hn,h.uR⟩
 split
 ·exact ⟨(hc ..).1,(hc ..).2,rfl,h.uS,h.uR⟩
 ·exact ⟨h.right,rfl,rfl,h.uS,h.uR⟩
theorem cv.mz {b:Bk} (h:cv b) (d:aW):cv (dx b d).1:=by
 unfold dx
 split
 ·exact h
 split
 ·exact h
 rename_i hd hn
 have hn:0<=d.n/\d.n < b.ax.length:=by omega
 split
 ·exact h
 rename_i cC ho
 split
 ·exact h
 rename_i hm
 split
 ·exact h
 have hm:bV cC d.move d.sum=((bV cC d.move d.sum).1,0):=Prod.ext rfl (by dsimp only;omega)
 obtain ⟨m1,m2,m3,m4,_⟩:=nm hm
 obtain ⟨r1,r2,r3,r4,r5⟩:=DN h (bV cC d.move d.sum).1 cC d hn
 have hp:=h.perm cC (List.mem_of_getElem? ho)
 unfold mT
 refine h.dL fun _=>⟨h.time,by rw [r2];exact h.aw,by rw [r3];exact h.due,by rw [List.length_set];exact h.ax,Bg h.aR,h.w0,h.w1,fun a ha=>?_,by dsimp only;rw [r2,r3];exact h.kg,by dsimp only;rw [List.length_set];exact r4.own,by dsimp only;rw [List.length_set];exact r5.own,r1,r4.len,r5.len,by dsimp only;rw [List.length_set];exact h.p0,by dsimp only;rw [List.length_set];exact h.p1,h.n0,h.n1,h.calm⟩
 dsimp only
 rw [r2,r3]
 rcases gF ha with ha|rfl
 ·exact h.perm a ha
 ·exact ⟨m2,by rw [m3,m4];exact hp.2⟩
theorem py {aO aD n time:Int} (h:(di aO aD n time).2=0):bG (di aO aD n time).1=0/\(di aO aD n time).1=⟨aO,aD,n,0,0,0,time+100,false⟩/\¬(n < 1\/n > 1000000\/time < 0\/time > 1000000\/aO < 0\/aO > 7\/aD < 0\/aD > 7):=by
 unfold di at h ⊢
 split at h
 ·cases h
 ·rename_i h1;rw [if_neg h1];exact ⟨sC (by dsimp only;omega),rfl,h1⟩
theorem Dj {s:cF} {a:cm} (h:(cu s a).2=0):(cu s a).1.bg=s.bg++[a]:=by
 unfold cu at h ⊢
 split at h
 ·rename_i h1;exact absurd h h1
 split at h
 ·cases h
 split at h
 ·cases h
 split at h
 ·cases h
 ·rename_i h1 h2 h3 h4;rw [if_neg h1,if_neg h2,if_neg h3,if_neg h4]
theorem sU {e:Int} (h:gZ e=0):e=0:=by unfold gZ at h;split at h<;>omega
theorem cv.asks {b:Bk} (h:cv b) (d:aW):cv (dN b d).1:=by
 unfold dN
 split
 ·exact h
 rename_i hn
 have hlen:∀ a∈b.bP.bg++[(⟨d.n,d.aD,d.sum,b.time⟩:cm)],0<=a.aO/\a.aO < b.aw.length/\0<=a.aD/\a.aD < b.due.length:=fun a ha=>by
  rcases List.mem_append.1 ha with ha|ha
  ·exact h.kg a ha
  ·obtain rfl:=List.mem_singleton.1 ha;dsimp only;omega
 split
 ·split
  ·exact h
  split
  ·exact h
  rename_i h1 h2
  have he:=sU (show gZ (cu b.bP ⟨d.n,d.aD,d.sum,b.time⟩).2=0 by omega)
  have hg:=Dj he
  exact ⟨h.time,h.aw,h.due,by dsimp only;omega,h.aR,h.w0,h.w1,h.perm,by dsimp only;rw [hg];exact hlen,h.k0,h.k1,h.right,h.l0,h.l1,h.p0,h.p1,h.n0,h.n1,fun hf=>by dsimp only at hf;simp_all⟩
 split
 ·exact h
 split
 ·exact h
 split
 ·exact h
 rename_i h1 h2 h3 c hc
 split
 ·exact h
 rename_i h4
 obtain ⟨w1,w2,w3⟩:=py (show (di d.n d.aD d.sum b.time).2=0 by omega)
 have hcr:cA (dO c d.sum b.time).1=0:=by
  rcases rT (show dO c d.sum b.time=((dO c d.sum b.time).1,(dO c d.sum b.time).2) from rfl) with ⟨h5,_⟩|⟨h5,h6,h7,h8,h9,h10,h11,l,h12,h13⟩
  ·exact absurd h5 (by omega)
  ·rw [h13];have hr:=gO h6;exact qf (by dsimp only;omega) hr.2.2.2.2.1 (Cp h12)
 have hq:=h.calm (by cases hd:b.down with|true=>exact absurd hd (by assumption)|false=>rfl)
 have hl:b.ax.length+1<=30:=by have:=h.ax;rw [hq] at this;simp only [List.length_nil] at this;omega
 have hk:∀ {n:Int},n < (b.ax.length:Int)->n < ((b.ax++[(di d.n d.aD d.sum b.time).1]).length:Int):=fun hn=>by rw [List.length_append,List.length_singleton];omega
 refine ⟨h.time,by rw [List.length_set];exact h.aw,h.due,by dsimp only;rw [hq,List.length_append,List.length_singleton];exact hl,h.aR,h.w0,h.w1,fun a ha=>?_,by dsimp only;rw [List.length_set];exact h.kg,
  fun t ht=>⟨(h.k0 t ht).1,(h.k0 t ht).2.1,hk (h.k0 t ht).2.2⟩,fun t ht=>⟨(h.k1 t ht).1,(h.k1 t ht).2.1,hk (h.k1 t ht).2.2⟩,fun x hx=>?_,h.l0,h.l1,
  fun p hp hs=>⟨(h.p0 p hp hs).1,(h.p0 p hp hs).2.1,hk (h.p0 p hp hs).2.2⟩,fun p hp hs=>⟨(h.p1 p hp hs).1,(h.p1 p hp hs).2.1,hk (h.p1 p hp hs).2.2⟩,h.n0,h.n1,h.calm⟩
 ·dsimp only at ha ⊢
  rw [List.length_set]
  rcases List.mem_append.1 ha with ha|ha
  ·exact h.perm a ha
  ·obtain rfl:=List.mem_singleton.1 ha
   exact ⟨w1,by rw [w2];dsimp only;omega⟩
 ·rcases gF hx with hx|rfl
  ·exact h.right x hx
  ·exact hcr
theorem uQ {α:Type} {p:α->Bool} {l:List α} {x:α} (h:x∈dC p l):x∈l:=(List.mem_filter.1 h).1
theorem oP.back {n:Nat} {s:bX} (h:oP n s) {seen:Int} (hb:(dT s seen).2=0):oP n (dT s seen).1:=by
 rcases qt (show dT s seen=((dT s seen).1,(dT s seen).2) from rfl) with ⟨h1,_⟩|⟨_,_,_,_,h2⟩
 ·exact absurd hb h1
 ·rw [h2];exact ⟨fun t ht=>h.own t (uQ ht),Nat.le_trans (List.length_filter_le ..) h.len⟩
theorem vR {ax:List bF} {due:List Int} {aw:List bE} {book:List Entry} {e:Int} {t:aT} (h:∀ c∈aw,cA c=0):
  (ef ax due aw book e t).1.length=due.length/\(∀ c∈(ef ax due aw book e t).2.1,cA c=0)/\(ef ax due aw book e t).2.1.length=aw.length:=by
 unfold ef
 split
 ·exact ⟨rfl,h,rfl⟩
 split
 ·exact ⟨List.length_set ..,h,rfl⟩
 split
 ·exact ⟨rfl,kl h,fy _ _ _ _ _⟩
 split
 ·exact ⟨List.length_set ..,h,rfl⟩
 ·exact ⟨rfl,h,rfl⟩
theorem nO {n:Int} {t:aT} (h:0<=n):0<=(fJ n t).1:=by unfold fJ;split<;>(dsimp only;omega)
theorem xg {α:Type} {l:List α} {n:Nat} {x:α} (h:x∈l.drop n):x∈l:=List.mem_of_mem_drop h
theorem cv.bx {b:Bk} (h:cv b) {cs:List bE} {due:List Int} {bk:List Entry} (h1:∀ c∈cs,cA c=0) (h2:cs.length=b.aw.length) (h3:due.length=b.due.length):cv {b with aw:=cs,due:=due,book:=bk}:=
 ⟨h.time,by rw [h2];exact h.aw,by rw [h3];exact h.due,h.ax,h.aR,h.w0,h.w1,by dsimp only;rw [h2,h3];exact h.perm,by dsimp only;rw [h2,h3];exact h.kg,h.k0,h.k1,h1,h.l0,h.l1,h.p0,h.p1,h.n0,h.n1,h.calm⟩
theorem cv.zm {b:Bk} (h:cv b):cv {b with w0:=b.w0.drop 1}:=
 ⟨h.time,h.aw,h.due,h.ax,h.aR,by dsimp only;rw [List.length_drop];have:=h.w0;omega,h.w1,h.perm,h.kg,h.k0,h.k1,h.right,h.l0,h.l1,fun p hp=>h.p0 p (xg hp),h.p1,h.n0,h.n1,h.calm⟩
theorem cv.zl {b:Bk} (h:cv b):cv {b with w1:=b.w1.drop 1}:=
 ⟨h.time,h.aw,h.due,h.ax,h.aR,h.w0,by dsimp only;rw [List.length_drop];have:=h.w1;omega,h.perm,h.kg,h.k0,h.k1,h.right,h.l0,h.l1,h.p0,fun p hp=>h.p1 p (xg hp),h.n0,h.n1,h.calm⟩
theorem cv.Hy {b:Bk} (h:cv b) {s:bX} (hs:oP b.ax.length s):cv {b with s0:=s}:=
 ⟨h.time,h.aw,h.due,h.ax,h.aR,h.w0,h.w1,h.perm,h.kg,hs.own,h.k1,h.right,hs.len,h.l1,h.p0,h.p1,h.n0,h.n1,h.calm⟩
theorem cv.Hx {b:Bk} (h:cv b) {s:bX} (hs:oP b.ax.length s):cv {b with s1:=s}:=
 ⟨h.time,h.aw,h.due,h.ax,h.aR,h.w0,h.w1,h.perm,h.kg,h.k0,hs.own,h.right,h.l0,hs.len,h.p0,h.p1,h.n0,h.n1,h.calm⟩
theorem cv.Ev {b:Bk} (h:cv b) {n:Int} (hn:0<=n):cv {b with n0:=n}:=
 ⟨h.time,h.aw,h.due,h.ax,h.aR,h.w0,h.w1,h.perm,h.kg,h.k0,h.k1,h.right,h.l0,h.l1,h.p0,h.p1,hn,h.n1,h.calm⟩
theorem cv.Eu {b:Bk} (h:cv b) {n:Int} (hn:0<=n):cv {b with n1:=n}:=
 ⟨h.time,h.aw,h.due,h.ax,h.aR,h.w0,h.w1,h.perm,h.kg,h.k0,h.k1,h.right,h.l0,h.l1,h.p0,h.p1,h.n0,hn,h.calm⟩
theorem cv.Ee {b:Bk} (h:cv b) (d:aW):cv (ft b d).1:=by
 unfold ft
 split
 ·exact h
 split
 ·exact h.zm
 split
 ·split
  ·rename_i hb;exact h.zm.Hy (h.uS.back hb)
  ·exact h
 split
 ·obtain ⟨r1,r2,r3⟩:=vR (ax:=b.ax) (due:=b.due) (book:=b.book) (e:=0) (t:=(by assumption:cf).cD) h.right
  exact h.dL fun _=>(h.zm.Ev (nO h.n0)).bx r2 r3 r1
 ·exact h.zm.Ev (nO h.n0)
theorem cv.Ed {b:Bk} (h:cv b) (d:aW):cv (fr b d).1:=by
 unfold fr
 split
 ·exact h
 split
 ·exact h.zl
 split
 ·split
  ·rename_i hb;exact h.zl.Hx (h.uR.back hb)
  ·exact h
 split
 ·obtain ⟨r1,r2,r3⟩:=vR (ax:=b.ax) (due:=b.due) (book:=b.book) (e:=0) (t:=(by assumption:cf).cD) h.right
  exact h.dL fun _=>(h.zl.Eu (nO h.n1)).bx r2 r3 r1
 ·exact h.zl.Eu (nO h.n1)
theorem cv.mB {b:Bk} (h:cv b) (d:aW):cv (bZ b d).1:=by
 unfold bZ
 split
 ·exact h.Ee d
 split
 ·exact h.Ed d
 ·exact h
theorem pK {c:bE} {n:Int} (h:(fe c n).2=0):cA (fe c n).1=0/\(fe c n).1=⟨c.bx,c.held+n,c.ch,c.cO⟩/\cA c=0/\1<=n/\n<=1000000:=by
 unfold fe at h ⊢
 split at h
 ·rename_i h1;exact absurd h h1
 split at h
 ·cases h
 ·rename_i h1 h2
  rw [if_neg h1,if_neg h2]
  have hw:cA c=0:=by omega
  have hr:=gO hw
  exact ⟨qf (by dsimp only;omega) hr.2.2.2.2.1 hr.2.2.2.2.2,rfl,hw,by omega,by omega⟩
theorem Az {n m:Nat}:∀ (l:List cm) (cs:List bE) (xs:List bF),(∀ a∈l,0<=a.aO/\a.aO < n/\0<=a.aD/\a.aD < m)->cs.length=n->
  (∀ a∈xs,bG a=0/\0<=a.aO/\a.aO < n/\0<=a.aD/\a.aD < m)->(∀ c∈cs,cA c=0)->
  (∀ c∈(gJ l cs xs).1,cA c=0)/\(gJ l cs xs).1.length=n/\(∀ a∈(gJ l cs xs).2.1,bG a=0/\0<=a.aO/\a.aO < n/\0<=a.aD/\a.aD < m)/\xs.length<=(gJ l cs xs).2.1.length/\(gJ l cs xs).2.1.length<=xs.length+l.length
 |[],cs,xs,_,h2,h3,h4=>⟨h4,h2,h3,Nat.le_refl _,Nat.le_refl _⟩
 |x::l,cs,xs,h1,h2,h3,h4=>by
  unfold gJ
  split
  ·exact ⟨h4,h2,h3,Nat.le_refl _,by dsimp only;omega⟩
  rename_i e1
  split
  ·exact ⟨h4,h2,h3,Nat.le_refl _,by dsimp only;omega⟩
  rename_i c hc
  split
  ·exact ⟨h4,h2,h3,Nat.le_refl _,by dsimp only;omega⟩
  rename_i e2
  have hx:=h1 x List.mem_cons_self
  obtain ⟨w1,w2,w3⟩:=py (show (di x.aO x.aD x.sum x.time).2=0 by omega)
  obtain ⟨f1,_⟩:=pK (show (fe c x.sum).2=0 by omega)
  obtain ⟨r1,r2,r3,r4,r5⟩:=Az l (cs.set x.aO.toNat (fe c x.sum).1) (xs++[(di x.aO x.aD x.sum x.time).1]) (fun a ha=>h1 a (List.mem_cons_of_mem _ ha)) ((List.length_set ..).trans h2)
   (fun a ha=>by
    rcases List.mem_append.1 ha with ha|ha
    ·exact h3 a ha
    ·obtain rfl:=List.mem_singleton.1 ha;exact ⟨w1,by rw [w2];exact hx⟩)
   (fun z hz=>by
    rcases gF hz with hz|rfl
    ·exact h4 z hz
    ·exact f1)
  rw [List.length_append,List.length_singleton] at r4 r5
  exact ⟨r1,r2,r3,by omega,by rw [List.length_cons];omega⟩
theorem rP {s:cF} (h:(da s).2.2=0):cb s=0/\(da s).1=⟨s.cap,List.replicate s.used.length 0,[]⟩/\(da s).2.1=s.bg:=by
 unfold da at h ⊢
 split at h
 ·rename_i h1;exact absurd h h1
 ·rename_i h1;rw [if_neg h1];exact ⟨by omega,rfl,rfl⟩
theorem cv.CB {b:Bk} (h:cv b) (h1:(da b.bP).2.2=0):cv {b with aw:=(gJ (da b.bP).2.1 b.aw b.ax).1,ax:=(gJ (da b.bP).2.1 b.aw b.ax).2.1,bP:=(da b.bP).1,down:=false}:=by
 obtain ⟨_,c1,c2⟩:=rP h1
 rw [c1,c2]
 obtain ⟨r1,r2,r3,r4,r5⟩:=Az b.bP.bg b.aw b.ax h.kg rfl h.perm h.right
 have hk:∀ {n:Int},n < (b.ax.length:Int)->n < ((gJ b.bP.bg b.aw b.ax).2.1.length:Int):=fun hn=>by omega
 exact ⟨h.time,by rw [r2];exact h.aw,h.due,by have:=h.ax;simp only [List.length_nil];omega,h.aR,h.w0,h.w1,by dsimp only;rw [r2];exact r3,fun a ha=>by simp at ha,
  fun t ht=>⟨(h.k0 t ht).1,(h.k0 t ht).2.1,hk (h.k0 t ht).2.2⟩,fun t ht=>⟨(h.k1 t ht).1,(h.k1 t ht).2.1,hk (h.k1 t ht).2.2⟩,r1,h.l0,h.l1,
  fun p hp hs=>⟨(h.p0 p hp hs).1,(h.p0 p hp hs).2.1,hk (h.p0 p hp hs).2.2⟩,fun p hp hs=>⟨(h.p1 p hp hs).1,(h.p1 p hp hs).2.1,hk (h.p1 p hp hs).2.2⟩,h.n0,h.n1,fun _=>rfl⟩
theorem CE {l:List cm} {q:Nat} {x:cm} {cs:List bE} {xs:List bF} {a:bF} {e1 e2:Int} (h:l[q]?=some x) (hn:di x.aO x.aD x.sum x.time=(a,e1)) (hf:dD 0 e1=e2) (he:¬e2=0):gJ (l.drop q) cs xs=(cs,xs,e2):=by
 rw [rl h,hn]
 have:e1=e2:=by unfold dD at hf;rw [if_pos rfl] at hf;exact hf
 subst this
 rw [if_pos he]
theorem CD {l:List cm} {q:Nat} {x:cm} {cs:List bE} {xs:List bF} {a:bF} {c k:bE} {e1 e3 e4:Int} (h:l[q]?=some x) (hn:di x.aO x.aD x.sum x.time=(a,e1)) (hf1:dD 0 e1=0) (hc:cs[x.aO.toNat]?=some c)
  (hF:fe c x.sum=(k,e3)) (hf:dD 0 e3=e4) (he:¬e4=0):gJ (l.drop q) cs xs=(cs,xs,e4):=by
 rw [rl h,hn,hc]
 have h1:e1=0:=(gd hf1).2
 have:e3=e4:=by unfold dD at hf;rw [if_pos rfl] at hf;exact hf
 subst this h1
 dsimp only
 rw [if_neg (by simp),hF,if_pos he]
theorem CC {l:List cm} {q:Nat} {x:cm} {cs:List bE} {xs:List bF} {a:bF} {c k:bE} {e1 e3:Int} (h:l[q]?=some x) (hn:di x.aO x.aD x.sum x.time=(a,e1)) (hf1:dD 0 e1=0) (hc:cs[x.aO.toNat]?=some c)
  (hF:fe c x.sum=(k,e3)) (hf:dD 0 e3=0):gJ (l.drop q) cs xs=gJ (l.drop (q+1)) (cs.set x.aO.toNat k) (xs++[a]):=by
 rw [rl h,hn,hc]
 have h1:e1=0:=(gd hf1).2
 have h3:e3=0:=(gd hf).2
 subst h3 h1
 dsimp only
 rw [if_neg (by simp),hF,if_neg (by simp)]
theorem EK {l:List cm} {q:Nat} {cs:List bE} {xs:List bF} (h:¬q < l.length):gJ (l.drop q) cs xs=(cs,xs,0):=by
 rw [List.drop_of_length_le (by omega)];rfl
theorem AA {b:Bk} {s:cF} {l:List cm} {cs:List bE} {xs:List bF} {e:Int} (hd:b.down=true) (h:da b.bP=(s,l,0)) (hL:gJ l b.aw b.ax=(cs,xs,e)) (he:¬e=0):jI b=(b,⟨e,0⟩):=by
 unfold jI
 rw [if_neg (by rw [hd];simp),h]
 dsimp only
 rw [if_neg (by simp),hL]
 dsimp only
 rw [if_pos he]
theorem FI {b:Bk} {s:cF} {l:List cm} {cs:List bE} {xs:List bF} (hd:b.down=true) (h:da b.bP=(s,l,0)) (hL:gJ l b.aw b.ax=(cs,xs,0)):
  jI b=(iw {b with aw:=cs,ax:=xs,bP:=s,down:=false},⟨0,0⟩):=by
 unfold jI
 rw [if_neg (by rw [hd];simp),h]
 dsimp only
 rw [if_neg (by simp),hL]
 dsimp only
 rw [if_neg (by simp)]
theorem cv.Hu {b:Bk} (hb:cv b) {s:cF} {l:List cm} {cs:List bE} {xs:List bF} (h:da b.bP=(s,l,0)) (hL:gJ l b.aw b.ax=(cs,xs,0)):
  cv {b with aw:=cs,ax:=xs,bP:=s,down:=false}:=by
 have:=hb.CB (by rw [h])
 rw [h] at this;dsimp only at this;rw [hL] at this;exact this
theorem cv.FH {b:Bk} (h:cv b):cv (jI b).1:=by
 unfold jI
 split
 ·exact h
 split
 ·exact h
 split
 ·exact h
 ·exact (h.CB (by omega)).late
theorem cv.rq {b:Bk} (h:cv b) {t:List aj} (ht:t.length<=100):cv {b with aR:=t}:=
 ⟨h.time,h.aw,h.due,h.ax,ht,h.w0,h.w1,h.perm,h.kg,h.k0,h.k1,h.right,h.l0,h.l1,h.p0,h.p1,h.n0,h.n1,h.calm⟩
theorem mN {t:List aj} {y:List (List Int)} (h:t.length<=100):(iM t y).1.length<=100/\(iM t y).2.1.length<=y.length+1:=by
 unfold iM
 split
 ·exact ⟨h,Nat.le_succ _⟩
 ·exact ⟨by simp,by simp⟩
theorem cv.DL {b:Bk} (h:cv b) (y:List (List Int)) (d:aW):cv (df b y d).1/\(df b y d).2.1.length<=y.length+1:=by
 unfold df
 split
 ·exact ⟨h.load d,Nat.le_succ _⟩
 split
 ·exact ⟨h.asks d,Nat.le_succ _⟩
 split
 ·exact ⟨h.mz d,Nat.le_succ _⟩
 split
 ·exact ⟨h.cU d,Nat.le_succ _⟩
 split
 ·exact ⟨h.send d,Nat.le_succ _⟩
 split
 ·exact ⟨h.mB d,Nat.le_succ _⟩
 split
 ·split
  ·exact ⟨h,Nat.le_succ _⟩
  ·exact ⟨⟨h.time,h.aw,h.due,h.ax,h.aR,h.w0,h.w1,h.perm,h.kg,h.k0,h.k1,h.right,h.l0,h.l1,h.p0,h.p1,h.n0,h.n1,fun h=>by cases h⟩,Nat.le_succ _⟩
 split
 ·exact ⟨h.FH,Nat.le_succ _⟩
 split
 ·exact ⟨h.rq (mN h.aR).1,(mN (y:=y) h.aR).2⟩
 split
 ·exact ⟨h.wy d,Nat.le_succ _⟩
 ·exact ⟨h,Nat.le_succ _⟩
theorem cv.once {b:Bk} (h:cv b) (y:List (List Int)) (told:List (Int×Answer)) (cl:Nat) (d:aW):cv (fZ b y told cl d).1/\(fZ b y told cl d).2.1.length<=y.length+1:=by
 unfold fZ
 split
 ·exact ⟨h,Nat.le_succ _⟩
 ·exact h.DL y d
theorem uH:∀ {l:List dw} {i:Int},(pt l i).err=0->∀ p∈l,fA p=0
 |p::l,i,h,x,hx=>by
  unfold pt at h
  split at h
  ·rename_i h1;exact absurd h h1
  ·rename_i h1
   rcases List.mem_cons.1 hx with rfl|hx
   ·omega
   ·exact uH h x hx
theorem lB {s:Setup} (h:(eJ s).err=0):s.dh.length<=8/\0<=s.ja/\s.ja<=8/\0<=s.cap/\s.cap<=1000000/\∀ p∈s.dh,fA p=0:=by
 unfold eJ at h
 split at h
 ·cases h
 split at h
 ·cases h
 ·exact ⟨by omega,by omega,by omega,by omega,by omega,uH h⟩
theorem cv.start {s:Setup} (h:(eJ s).err=0):cv (iR s):=by
 obtain ⟨h1,h2,h3,h4,h5,h6⟩:=lB h
 have hn:dH s.cap s.dh.length=({cap:=s.cap,used:=List.replicate s.dh.length 0,bg:=[]},0):=qN h1 ⟨h4,h5⟩
 unfold iR
 rw [hn]
 refine ⟨by dsimp only;omega,by simpa using h1,by simp;omega,by simp,by simp,by simp,by simp,by simp,by simp,by simp,by simp,fun c hc=>?_,by simp,by simp,by simp,by simp,by simp,by simp,fun _=>rfl⟩
 obtain ⟨p,hp,rfl⟩:=List.mem_map.1 hc
 exact qf (c:=⟨0,0,p,[]⟩) (by dsimp only;omega) (h6 p hp) (tz.2 ⟨by simp,by simp,by simp⟩)

theorem Jv (x:Nat->Value) (hx:∀ i,(x i).oneCell'=true) (b:Bk) (ok:cv b) (b2:Bk) (a2:Answer) (hr:jI b=(b2,a2)):cJ Try.prog 68 [(.c (.p 0 0 0 0))] [(0,(.box 98 (aY b 1 2 3 4 (.d (.v (x 17))) (.d (.v (x 19)))))),(1,(dW b.aw)),(2,(dP b.due)),(3,(ed b.ax)),(4,(cS b.aR))] [0] (.v (.g [cI a2.err,cI a2.bc])) [(0,(.box 98 (aY b2 1 2 3 4 (.d (.v (x 17))) (.d (.v (x 19)))))),(1,(dW b2.aw)),(2,(dP b2.due)),(3,(ed b2.ax)),(4,(cS b2.aR))]:=by
 refine cJ.mk 116 [(0,(aC (.p 0 0 0 0)))] 5 Try.func68 rfl rfl rfl rfl rfl rfl rfl rfl rfl ?_
 intro W0 F0 T0 pg
 obtain ⟨okt,okc,okd,oka,oky,okw0,okw1,okp,okv,okk0,okk1,okg,okl0,okl1,okp0,okp1,okn0,okn1,okq⟩:=id ok
 refine ae aa 1 rfl ?_
 refine ag ?_
 refine ae aa 6 rfl ?_
 refine ah rfl (fun hc1=>?_) (fun hc1=>?_)
 ·
  have hc1':=hc1;try simp only [bu,bU] at hc1'
  refine ae aa 2 rfl ?_
  refine az ?_
  refine aq ?_
  have hX:jI b=(b,(⟨8,0⟩:Answer)):=by
    unfold jI;rw [if_pos (by cases hd:b.down<;>simp_all)]
  rw [hX] at hr;clear hX
  simp only [Prod.mk.injEq] at hr;obtain ⟨rfl,rfl⟩:=hr
  refine an aa [0,1,2,3,4,5] 5 rfl rfl rfl rfl rfl rfl ?_ ?_
  all_goals first|rfl|(simp [ay,aY,bf];done)|(simp [ay,aY,bf];omega)
 have hc1':=hc1;try simp only [bu,bU] at hc1'
 refine aQ ?_
 refine aH aa 5 rfl ?_
 obtain ⟨xr0,l0,e0,hr0⟩:∃ (xr0:cF) (l0:List cm) (e0:Int),da b.bP=(xr0,l0,e0):=⟨_,_,_,rfl⟩
 refine aN 6 [5,0,1,2,3,4] (bQ 6 (Fn.frozen (av':=(.t [(.g [(cI xr0.cap),(fB xr0.used),(iz xr0.bg)]),(.c (iz l0)),(.c (cI e0))])) (vA b.bP xr0 l0 e0 hr0) ⟨⟨.inl ⟨_,rfl,rfl⟩,.inr ⟨_,_,_,_,_,rfl,rfl,rfl,by simp⟩,.inr ⟨_,_,_,_,_,rfl,rfl,rfl,by simp⟩,trivial⟩,.inr ⟨_,_,_,_,_,rfl,rfl,rfl,by simp⟩,.inl ⟨_,rfl,rfl⟩,trivial⟩) IU rfl rfl ⟨⟨_,rfl,.g ⟨.d _,.d _,.d _,trivial⟩⟩,trivial⟩ ⟨⟨trivial,trivial,trivial,trivial⟩,trivial,trivial,trivial⟩ trivial rfl rfl rfl rfl) rfl ?_
 refine ad aa 8 rfl ?_
 refine af ?_
 refine ag ?_
 refine ae aa 2 rfl ?_
 refine ah rfl (fun hc2=>?_) (fun hc2=>?_)
 ·
  have hc2':=of_decide_eq_true hc2
  refine ae aa 3 rfl ?_
  refine az ?_
  refine aq ?_
  have hX:jI b=(b,(⟨e0,0⟩:Answer)):=by
    unfold jI;rw [if_neg (by cases hd:b.down<;>simp_all),hr0];dsimp only;rw [if_pos (by omega)]
  rw [hX] at hr;clear hX
  simp only [Prod.mk.injEq] at hr;obtain ⟨rfl,rfl⟩:=hr
  refine an aa [0,1,2,3,4,5] 5 rfl rfl rfl rfl rfl rfl ?_ ?_
  all_goals first|rfl|(simp [ay,aY,bf];done)|(simp [ay,aY,bf];omega)
 have hc2':=of_decide_eq_false hc2
 refine aQ ?_
 refine aH aa 1 rfl ?_
 refine aN 16 [0,7,8,9,10,11,12,13,14,15,6,5] (cL id (bd [0,7,8,9,10,11,12,13,14,15]) (kW (x 17) (x 19) b (by first|omega|(simp;done)|(simp;omega)) (by first|omega|(simp;done)|(simp;omega)) (by first|omega|(simp;done)|(simp;omega)) (by first|omega|(simp;done)|(simp;omega))) rL rfl rfl ⟨⟨_,rfl,.inl ⟨rfl,rfl⟩⟩,trivial⟩ ⟨rfl,rfl,rfl,rfl,rfl,trivial⟩ rfl rfl rfl rfl rfl rfl trivial ⟨⟨trivial,trivial,trivial,trivial,trivial,trivial,trivial,trivial,trivial,trivial,trivial,trivial,trivial,trivial,trivial,trivial,trivial,trivial,trivial,trivial,trivial⟩,⟨trivial,trivial,trivial,trivial,trivial,trivial,trivial,trivial,trivial,trivial,trivial,trivial,trivial,trivial,trivial,trivial,trivial,trivial,trivial,trivial,trivial⟩,(fun _ _ _ _=>trivial),(fun _ _ _ _=>trivial),(fun _ _ _ _=>trivial),(fun _ _ _ _=>trivial),(fun _ _ _ _=>trivial),(fun _ _ _ _=>trivial),(fun _ _ _ _=>trivial),(fun _ _ _ _=>trivial),trivial⟩ rfl rfl rfl rfl) rfl ?_
 refine ad aa 1 rfl ?_
 refine af ?_
 refine ag ?_
 obtain rfl:e0=0:=by omega
 have hcl:l0=b.bP.bg:=by have h:=(rP (s:=b.bP) (by rw [hr0])).2.2;rw [hr0] at h;exact h
 refine aH aa 1 rfl ?_
 refine aA (cM rfl rfl rfl rfl rfl Try.underlying39) rfl ?_
 refine ad aa 1 rfl ?_
 refine af ?_
 refine aX ?_
 refine cw (β:=Nat×List bE×List bF) (fun (p:Nat×List bE×List bF)=>match p with|(q,cs,xs)=>⟨[(0,(aC (.p 0 0 0 0))),(2,(aC (.p 5 0 0 0))),(3,(aC (.p 6 0 0 0))),(6,(aC (.p 7 0 0 0))),(36,(aC (iz l0))),(37,(aI (↑l0.length:Int))),(38,(aI (↑q:Int)))],[(0,(.box 98 (aY b 8 9 10 11 (.d (.v (x 17))) (.d (.v (x 19)))))),(7,(.box 147 (((aY b 12 13 14 15 (.d (.v (x 17))) (cI 0)).set 2 (.s 12 0 6 cs.length)).set 4 (.s 14 0 8 xs.length)))),(8,(dW b.aw)),(9,(dP b.due)),(10,(ed b.ax)),(11,(cS b.aR)),(12,(dW cs)),(13,(dP b.due)),(14,(ed xs)),(15,(cS b.aR)),(6,(.box 41 [(cI xr0.cap),(fB xr0.used),(iz xr0.bg)])),(5,(.box 65 [(cI 0),(cI 0)]))],16⟩) (fun (p:Nat×List bE×List bF)=>match p with|(q,cs,xs)=>q<=l0.length/\gJ l0 b.aw b.ax=gJ (l0.drop q) cs xs/\cs.length=b.aw.length/\xs.length=b.ax.length+q) (fun (p:Nat×List bE×List bF)=>match p with|(q,cs,xs)=>l0.length - q) (0,b.aw,b.ax) ?_ ?_ ?_
 ·exact ⟨by omega,rfl,rfl,rfl⟩
 ·exact aF.bW id (by refine ⟨?_,?_,?_,?_,?_,?_,?_,trivial⟩<;>first|rfl|(simp only [bm];done)|(congr 3;omega)|(congr 4;omega)|(simp only [bn];rfl)) (by refine ⟨?_,?_,?_,?_,?_,?_,?_,?_,?_,?_,?_,?_,trivial⟩<;>first|rfl|(simp only [bm];done)|(congr 3;omega)|(congr 4;omega)|(simp only [bn];rfl)) rfl
 rintro ⟨q,cs,xs⟩ ⟨hi0_0,hi0_1,hi0_2,hi0_3⟩
 have hll:b.ax.length+l0.length<=30:=by rw [hcl];exact oka
 refine ae aa 1 rfl ?_
 refine ag ?_
 refine ah rfl (fun hc3=>?_) (fun hc3=>?_)
 ·
  have hc3':=of_decide_eq_true hc3
  refine aQ ?_
  refine ag ?_
  refine aX ?_
  refine eB ?_
  obtain ⟨x1,hx1⟩:=ck (xs:=l0) (i:=q) (by first|omega|(simp;done)|(simp;omega))
  have hx1A:=okv x1 (by rw [<-hcl];exact List.mem_of_getElem? hx1)
  refine aA (cH (i:=q) rfl rfl rfl Try.underlying39 Et (by first|omega|(simp;done)|(simp;omega)) (bw hx1)) rfl ?_
  refine ad aa 3 rfl ?_
  refine af ?_
  refine aH aa 8 rfl ?_
  obtain ⟨b1,e1,hr1⟩:∃ (b1:bF) (e1:Int),di x1.aO x1.aD x1.sum x1.time=(b1,e1):=⟨_,_,rfl⟩
  refine aN 17 [16,0,7,8,9,10,11,12,13,14,15,6,5] (bQ 17 (sZ x1.aO x1.aD x1.sum x1.time b1 e1 hr1) GL rfl rfl ⟨⟨_,rfl,.c (.d _)⟩,⟨_,rfl,.c (.d _)⟩,⟨_,rfl,.c (.d _)⟩,⟨_,rfl,.c (.d _)⟩,trivial⟩ ⟨⟨trivial,trivial,trivial,trivial,trivial,trivial,trivial,trivial,trivial⟩,trivial,trivial⟩ trivial rfl rfl rfl rfl) rfl ?_
  refine ad aa 6 rfl ?_
  refine af ?_
  refine ag ?_
  refine aH aa 2 rfl ?_
  obtain ⟨e22,hr2⟩:∃ (e22:Int),dD 0 e1=e22:=⟨_,rfl⟩
  refine aN 18 [7,17,16,0,8,9,10,11,12,13,14,15,6,5] (cr (bd [7]) (bd [7]) (ms:=(dG.set 19 (some (cI 0)))) (ms':=(dG.set 19 (some (cI e22)))) (fun x hx=>kD x hx 0 e1 e22 hr2) ov rfl rfl ⟨⟨_,rfl,.inl ⟨rfl,rfl⟩⟩,⟨_,rfl,.inr (.c (.d _))⟩,trivial⟩ rfl rfl rfl rfl rfl rfl rfl trivial rfl rfl rfl rfl rfl rfl rfl rfl rfl rfl rfl rfl rfl) rfl ?_
  refine af ?_
  refine ah rfl (fun hc4=>?_) (fun hc4=>?_)
  ·
   have hc4':=of_decide_eq_true hc4
   refine cj ?_
   refine aP ?_
   refine tf rfl ?_
   refine aP ?_
   refine aP ?_
   refine bK ?_
   refine then_ok ?_
   refine ae aa 11 rfl ?_
   refine ag ?_
   refine aH aa 2 rfl ?_
   refine aN 22 [0,18,19,20,21,17,16,6,5] (cL (bd [0,7,8,9,10,11,12,13,14,15]) (bd [0,18,19,20,21]) (gu (x 17) (x 19) b (⟨b.time,false,cs,b.due,xs,b.s0,b.s1,b.n0,b.n1,b.w0,b.w1,xr0,b.aR,b.book⟩:Bk) e22 (by first|assumption|omega)) fW rfl rfl ⟨⟨_,rfl,.inl ⟨rfl,rfl⟩⟩,⟨_,rfl,.inl ⟨rfl,rfl⟩⟩,trivial⟩ ⟨rfl,rfl,rfl,rfl,rfl,rfl,rfl,rfl,rfl,rfl,trivial⟩ rfl rfl rfl rfl rfl rfl trivial ⟨⟨trivial,trivial,trivial,trivial,trivial,trivial,trivial,trivial,trivial,trivial,trivial,trivial,trivial,trivial,trivial,trivial,trivial,trivial,trivial,trivial,trivial⟩,(fun _ _ _ _=>trivial),(fun _ _ _ _=>trivial),(fun _ _ _ _=>trivial),(fun _ _ _ _=>trivial),trivial⟩ rfl rfl rfl rfl) rfl ?_
   refine ad aa 1 rfl ?_
   refine af ?_
   refine ae aa 2 rfl ?_
   refine ah rfl (fun _=>?_) (fun hno=>absurd (hc4.symm.trans hno) (by decide))
   refine ae aa 3 rfl ?_
   refine az ?_
   refine aq ?_
   have hX:jI b=(b,(⟨e22,0⟩:Answer)):=by
     exact AA (by cases hd:b.down<;>simp_all) hr0 (hi0_1.trans (CE hx1 hr1 hr2 (by omega))) (by omega)
   rw [hX] at hr;clear hX
   simp only [Prod.mk.injEq] at hr;obtain ⟨rfl,rfl⟩:=hr
   refine an aa [0,18,19,20,21,5] 5 rfl rfl rfl rfl rfl rfl ?_ ?_
   all_goals first|rfl|(simp [ay,aY,bf];done)|(simp [ay,aY,bf];omega)
  have hc4':=of_decide_eq_false hc4
  refine aQ ?_
  obtain rfl:e22=0:=by omega
  refine ag ?_
  obtain ⟨x2,hx2⟩:=ck (xs:=cs) (i:=Int.toNat (x1.aO)) (by first|omega|(simp;done)|(simp;omega))
  obtain ⟨xr3,e3,hr3⟩:∃ (xr3:bE) (e3:Int),fe x2 x1.sum=(xr3,e3):=⟨_,_,rfl⟩
  refine dg [0,2,3,6,36,37,38,8,9] [7,17,16,0,8,9,10,11,12,13,14,15,6,5] mixed rfl rfl ?_
  refine ca (kn:=[]) aa 7 rfl trivial ?_
  refine cg (n':=18) [62,64] [12] rfl rfl (.inl ⟨(ak.plain rfl),aM.cast (bA (i:=Int.toNat (x1.aO)) rfl rfl rfl Try.underlying29 jE (by first|omega|(simp;done)|(simp;omega)) (by first|omega|(simp;done)|(simp;omega))) rfl⟩) rfl ?_
  refine cg (n':=18) [65] [12] rfl rfl (.inl ⟨(ak.plain rfl),aM.cast (dm rfl rfl rfl Try.underlying61 rfl jE (bw hx2) rfl) rfl⟩) rfl ?_
  refine ca (kn:=[]) aa 2 rfl trivial ?_
  refine cg (n':=18) [66,68] [] rfl rfl (.inl ⟨(ak.plain rfl),aM.cast (bQ 18 (Fn.frozen (av':=(.t [(.g [(cI xr3.bx),(cI xr3.held),(cI xr3.ch.cU),(cI xr3.ch.count),(cI xr3.ch.sum),(fI xr3.cO)]),(.c (cI e3))])) (xr x2 x1.sum xr3 e3 hr3) ⟨⟨.inl ⟨_,rfl,rfl⟩,.inl ⟨_,rfl,rfl⟩,.inl ⟨_,rfl,rfl⟩,.inl ⟨_,rfl,rfl⟩,.inl ⟨_,rfl,rfl⟩,.inr ⟨_,_,_,_,_,rfl,rfl,rfl,by simp⟩,trivial⟩,.inl ⟨_,rfl,rfl⟩,trivial⟩) IQ rfl rfl ⟨⟨_,rfl,.g ⟨.d _,.d _,.d _,.d _,.d _,.d _,trivial⟩⟩,⟨_,rfl,.c (.d _)⟩,trivial⟩ ⟨⟨trivial,trivial,trivial,trivial,trivial,trivial,trivial⟩,trivial,trivial⟩ trivial rfl rfl rfl rfl) rfl⟩) rfl ?_
  refine ca (n':=19) (kn:=[]) aa 6 rfl trivial ?_
  refine dX [0,2,3,6,36,37,38,8,9,11,10] [18,7,17,16,0,8,9,10,11,12,13,14,15,6,5] rfl rfl (by kernel_rfl) ?_
  refine then_ok ?_
  refine ag ?_
  refine aH aa 2 rfl ?_
  obtain ⟨e24,hr4⟩:∃ (e24:Int),dD 0 e3=e24:=⟨_,rfl⟩
  refine aN 19 [7,18,17,16,0,8,9,10,11,12,13,14,15,6,5] (cr (bd [7]) (bd [7]) (ms:=(dG.set 19 (some (cI 0)))) (ms':=(dG.set 19 (some (cI e24)))) (fun x hx=>kD x hx 0 e3 e24 hr4) ov rfl rfl ⟨⟨_,rfl,.inl ⟨rfl,rfl⟩⟩,⟨_,rfl,.inr (.c (.d _))⟩,trivial⟩ rfl rfl rfl rfl rfl rfl rfl trivial rfl rfl rfl rfl rfl rfl rfl rfl rfl rfl rfl rfl rfl) rfl ?_
  refine af ?_
  refine ah rfl (fun hc6=>?_) (fun hc6=>?_)
  ·
   have hc6':=of_decide_eq_true hc6
   refine cj ?_
   refine aP ?_
   refine tf rfl ?_
   refine aP ?_
   refine aP ?_
   refine bK ?_
   refine then_ok ?_
   refine ae aa 11 rfl ?_
   refine ag ?_
   refine aH aa 2 rfl ?_
   refine aN 23 [0,19,20,21,22,18,17,16,6,5] (cL (bd [0,7,8,9,10,11,12,13,14,15]) (bd [0,19,20,21,22]) (gu (x 17) (x 19) b (⟨b.time,false,cs,b.due,xs,b.s0,b.s1,b.n0,b.n1,b.w0,b.w1,xr0,b.aR,b.book⟩:Bk) e24 (by first|assumption|omega)) fW rfl rfl ⟨⟨_,rfl,.inl ⟨rfl,rfl⟩⟩,⟨_,rfl,.inl ⟨rfl,rfl⟩⟩,trivial⟩ ⟨rfl,rfl,rfl,rfl,rfl,rfl,rfl,rfl,rfl,rfl,trivial⟩ rfl rfl rfl rfl rfl rfl trivial ⟨⟨trivial,trivial,trivial,trivial,trivial,trivial,trivial,trivial,trivial,trivial,trivial,trivial,trivial,trivial,trivial,trivial,trivial,trivial,trivial,trivial,trivial⟩,(fun _ _ _ _=>trivial),(fun _ _ _ _=>trivial),(fun _ _ _ _=>trivial),(fun _ _ _ _=>trivial),trivial⟩ rfl rfl rfl rfl) rfl ?_
   refine ad aa 1 rfl ?_
   refine af ?_
   refine ae aa 2 rfl ?_
   refine ah rfl (fun _=>?_) (fun hno=>absurd (hc6.symm.trans hno) (by decide))
   refine ae aa 3 rfl ?_
   refine az ?_
   refine aq ?_
   have hX:jI b=(b,(⟨e24,0⟩:Answer)):=by
     exact AA (by cases hd:b.down<;>simp_all) hr0 (hi0_1.trans (CD hx1 hr1 hr2 hx2 hr3 hr4 (by omega))) (by omega)
   rw [hX] at hr;clear hX
   simp only [Prod.mk.injEq] at hr;obtain ⟨rfl,rfl⟩:=hr
   refine an aa [0,19,20,21,22,5] 5 rfl rfl rfl rfl rfl rfl ?_ ?_
   all_goals first|rfl|(simp [ay,aY,bf];done)|(simp [ay,aY,bf];omega)
  have hc6':=of_decide_eq_false hc6
  refine aQ ?_
  obtain rfl:e24=0:=by omega
  refine ag ?_
  refine ba [0,2,3,6,36,37,38,8,9,11] [7,18,17,16,0,8,9,10,11,12,13,14,15,6,5] mixed rfl rfl ?_
  refine aE (kn:=[]) aa 8 rfl trivial ?_
  refine aU (n':=19) [79,81] [12] rfl rfl (.inl ⟨(ak.plain rfl),aM.cast (bA (i:=Int.toNat (x1.aO)) rfl rfl rfl Try.underlying29 jE (by first|omega|(simp;done)|(simp;omega)) (by first|omega|(simp;done)|(simp;omega))) rfl⟩) rfl ?_
  refine bC [7,18,17,16,0,8,9,10,11,12,13,14,15,6,5] rfl rfl rfl rfl (by kernel_rfl) ?_
  refine gI [7,18,17,16,0,8,9,10,11,12,13,14,15,6,5] (dU (ds:=[(dI xr3.bx),(dI xr3.held),(dI xr3.ch.cU),(dI xr3.ch.count),(dI xr3.ch.sum),(GZ xr3.cO)]) rfl rfl rfl rfl rfl jE rfl (Nat.le_of_ble_eq_true rfl) (bw hx2) rfl (eZ (x':=xr3) rfl)) rfl ?_
  refine af ?_
  refine fP (k:=7) (q:=2) (c':=(.s 12 0 6 (((cs).set (Int.toNat (x1.aO)) xr3).length))) rfl rfl (by first|rfl|(simp;done)|(congr 1;omega)) rfl ?_
  refine ba [0,2,3,6,36,37,38,9] [7,17,0,8,9,10,11,12,13,14,15,6,5] mixed rfl rfl ?_
  refine aE (kn:=[]) aa 7 rfl trivial ?_
  refine aU (n':=20) [90] [] rfl rfl (.inl ⟨(ak.plain rfl),aM.cast (dy (ys:=[(0,(.g [(cI b1.aO),(cI b1.aD),(cI b1.sum),(cI b1.captured),(cI b1.bD),(cI b1.bq),(cI b1.cY),(cB b1.shut)]))]) (rows:=([b1]).map jv) 19 tF rfl (by decide) ⟨⟨rfl,rfl⟩,trivial⟩ rfl rfl rfl rfl) rfl⟩) rfl ?_
  refine aU (n':=21) [89,91] [19,14] rfl rfl (.inl ⟨(ak.plain rfl),aM.cast (cX (m:=1) (N:=xs.length+1) (k2:=20) (ys:=([b1]).map jv) tF rfl rfl rfl rfl rfl rfl (by first|omega|(simp;done)|(simp;omega)) rfl (.s rfl (by first|omega|(simp;done)|(simp;omega))) (by first|omega|(simp;done)|(simp;omega)) (by first|omega|(simp;done)|(simp;omega)) eH (by decide) (by first|omega|(simp;done)|(simp;omega)) (by first|omega|(simp;done)|(simp;omega))) rfl⟩) rfl ?_
  refine aE (kn:=[]) aa 3 rfl trivial ?_
  refine bC [20,7,17,0,8,9,10,11,12,13,15,6,5] rfl rfl rfl rfl (by kernel_rfl) ?_
  refine ad aa 1 rfl ?_
  refine bY ?_
  refine bh ?_
  refine then_ok ?_
  refine fP (k:=7) (q:=4) (c':=(.s 20 0 8 ((xs++([b1])).length))) rfl rfl (by first|rfl|(simp;done)|(congr 1;omega)) rfl ?_
  refine au ?_
  refine aA (aL rfl rfl rfl (aJ (by first|omega|(simp;done)|(simp;omega)))) rfl ?_
  refine ad aa 1 rfl ?_
  refine af ?_
  refine ⟨(q+1,(cs).set (Int.toNat (x1.aO)) xr3,xs++([b1])),⟨by omega,by rw [hi0_1];exact CC hx1 hr1 hr2 hx2 hr3 hr4,by rw [List.length_set];omega,by rw [List.length_append,List.length_singleton];omega⟩,by first|omega|(simp;done)|(simp;omega),aF.bW (fun k=>if k=14 then 20 else k) (by refine ⟨?_,?_,?_,?_,?_,?_,?_,trivial⟩<;>first|rfl|(simp only [bm];done)|(congr 3;omega)|(congr 4;omega)|(simp only [bn];rfl)) (by refine ⟨?_,?_,?_,?_,?_,?_,?_,?_,?_,?_,?_,?_,trivial⟩<;>first|rfl|(simp only [bm];done)|(congr 3;omega)|(congr 4;omega)|(simp only [bn];rfl)) rfl⟩
 have hc3':=of_decide_eq_false hc3
 refine cj ?_
 refine aP ?_
 refine aP ?_
 refine bK ?_
 refine then_ok ?_
 refine ae aa 11 rfl ?_
 refine ag ?_
 refine aH aa 2 rfl ?_
 refine aN 20 [0,16,17,18,19,6,5] (cL (bd [0,7,8,9,10,11,12,13,14,15]) (bd [0,16,17,18,19]) (fz (x 17) (x 19) b (⟨b.time,false,cs,b.due,xs,b.s0,b.s1,b.n0,b.n1,b.w0,b.w1,xr0,b.aR,b.book⟩:Bk) 0 (by first|assumption|omega)) fW rfl rfl ⟨⟨_,rfl,.inl ⟨rfl,rfl⟩⟩,⟨_,rfl,.inl ⟨rfl,rfl⟩⟩,trivial⟩ ⟨rfl,rfl,rfl,rfl,rfl,rfl,rfl,rfl,rfl,rfl,trivial⟩ rfl rfl rfl rfl rfl rfl trivial ⟨⟨trivial,trivial,trivial,trivial,trivial,trivial,trivial,trivial,trivial,trivial,trivial,trivial,trivial,trivial,trivial,trivial,trivial,trivial,trivial,trivial,trivial⟩,(fun _ _ _ _=>trivial),(fun _ _ _ _=>trivial),(fun _ _ _ _=>trivial),(fun _ _ _ _=>trivial),trivial⟩ rfl rfl rfl rfl) rfl ?_
 refine ad aa 1 rfl ?_
 refine af ?_
 refine aH aa 1 rfl ?_
 refine aA (aL rfl rfl rfl (show _=some (Value.bool false) from rfl)) rfl ?_
 refine af ?_
 refine ah rfl (fun hno=>by cases hno) (fun _=>?_)
 refine aQ ?_
 have hL:=hi0_1;rw [EK (by omega)] at hL
 have okU:=ok.Hu hr0 hL
 refine aH aa 1 rfl ?_
 obtain ⟨b25,hr5⟩:∃ (b25:Bk),iw (⟨b.time,false,cs,b.due,xs,b.s0,b.s1,b.n0,b.n1,b.w0,b.w1,xr0,b.aR,b.book⟩:Bk)=b25:=⟨_,rfl⟩
 refine aN 24 [0,20,21,22,23,6,5] (cr (bd [0,16,17,18,19]) (bd [0,20,21,22,23]) (ms:=[some (cI b.time),some (cB false),some (.s 1 0 6 cs.length),some (.s 2 0 1 b.due.length),some (.s 3 0 8 xs.length),some (cI b.s0.bL),some (dn b.s0.kept),some (cI b.s1.bL),some (dn b.s1.kept),some (cI b.n0),some (cI b.n1),some (eD b.w0),some (eD b.w1),some (cI xr0.cap),some (fB xr0.used),some (iz xr0.bg),some (.s 4 0 4 b.aR.length),none,some (eb b.book),none]) (ms':=(jC b25 1 2 3 4 none none)) (fun x hx=>BZ x hx (⟨b.time,false,cs,b.due,xs,b.s0,b.s1,b.n0,b.n1,b.w0,b.w1,xr0,b.aR,b.book⟩:Bk) (by first|assumption|exact cv.tick (by assumption) (by omega) (by omega)) b25 hr5) GK rfl rfl ⟨⟨_,rfl,.inl ⟨rfl,rfl⟩⟩,trivial⟩ rfl rfl rfl rfl rfl rfl rfl ⟨rfl,rfl,rfl,rfl,trivial⟩ rfl rfl rfl rfl rfl rfl rfl rfl rfl rfl rfl rfl rfl) rfl ?_
 refine af ?_
 refine ae aa 2 rfl ?_
 refine az ?_
 have hX:jI b=(b25,(⟨0,0⟩:Answer)):=by
   rw [FI (by cases hd:b.down<;>simp_all) hr0 hL,hr5]
 rw [hX] at hr;clear hX
 simp only [Prod.mk.injEq] at hr;obtain ⟨rfl,rfl⟩:=hr
 refine an aa [0,20,21,22,23,5] 5 rfl rfl rfl rfl rfl rfl ?_ ?_
 all_goals first|rfl|(simp [ay,aY,bf];done)|(simp [ay,aY,bf];omega)

theorem Jw (x:Nat->Value) (hx:∀ i,(x i).oneCell'=true) (b:Bk) (days:List (List Int)) (d:aW) (ok:cv b) (hy:days.length<=1000) (b2:Bk) (y2:List (List Int)) (a2:Answer) (hr:df b days d=(b2,y2,a2)):cJ Try.prog 56 [(.c (.p 0 0 0 0)),(.c (.q (cQ d) 0))] [(0,(.box 98 (aY b 1 2 3 4 (.s 5 0 1 days.length) (.d (.v (x 19)))))),(1,(dW b.aw)),(2,(dP b.due)),(3,(ed b.ax)),(4,(cS b.aR)),(5,(qZ days))] [0] (.v (.g [cI a2.err,cI a2.bc])) [(0,(.box 98 (aY b2 1 2 3 4 (.s 5 0 1 y2.length) (.d (.v (x 19)))))),(1,(dW b2.aw)),(2,(dP b2.due)),(3,(ed b2.ax)),(4,(cS b2.aR)),(5,(qZ y2))]:=by
 refine cJ.mk 67 [(0,(aC (.p 0 0 0 0))),(1,(aC (.q (cQ d) 0)))] 6 Try.func56 rfl rfl rfl rfl rfl rfl rfl rfl rfl ?_
 intro W0 F0 T0 pg
 obtain ⟨okt,okc,okd,oka,oky,okw0,okw1,okp,okv,okk0,okk1,okg,okl0,okl1,okp0,okp1,okn0,okn1,okq⟩:=id ok
 refine ae aa 1 rfl ?_
 refine ag ?_
 refine ae aa 4 rfl ?_
 refine aX ?_
 refine ae aa 2 rfl ?_
 refine ah rfl (fun hc1=>?_) (fun hc1=>?_)
 ·
  have hc1':=of_decide_eq_true hc1
  refine aH aa 2 rfl ?_
  obtain ⟨b20,a20,hr0⟩:∃ (b20:Bk) (a20:Answer),fT b d=(b20,a20):=⟨_,_,rfl⟩
  refine aN 11 [0,7,8,9,10,6,5] (cr id (bd [0,7,8,9,10]) (ms:=(jC b 1 2 3 4 none none)) (ms':=(jC b20 1 2 3 4 none none)) (fun x hx=>Hg x hx b d (by first|assumption|exact cv.tick (by assumption) (by omega) (by omega)) b20 a20 hr0) Jg rfl rfl ⟨⟨_,rfl,.inl ⟨rfl,rfl⟩⟩,⟨_,rfl,.inl ⟨rfl,rfl⟩⟩,trivial⟩ rfl rfl rfl rfl rfl rfl rfl ⟨rfl,rfl,rfl,rfl,trivial⟩ rfl rfl rfl rfl rfl rfl rfl rfl rfl rfl rfl rfl rfl) rfl ?_
  refine ad aa 1 rfl ?_
  refine af ?_
  refine az ?_
  refine bp ?_
  refine aq ?_
  have hX:df b days d=(b20,days,a20):=by
    unfold df;(repeat' (first|rw [if_pos (by omega)]|rw [if_neg (by omega)]|fail))<;>first|rfl|(simp only [hr0];done)|(simp only [hr0];rfl)|(simp_all;done)
  rw [hX] at hr;clear hX
  simp only [Prod.mk.injEq] at hr;obtain ⟨rfl,rfl,rfl⟩:=hr
  refine an aa [0,7,8,9,10,5,6] 6 rfl rfl rfl rfl rfl rfl ?_ ?_
  all_goals first|rfl|(simp [ay,aY,bf];done)|(simp [ay,aY,bf];omega)
 have hc1':=of_decide_eq_false hc1
 refine ae aa 2 rfl ?_
 refine ah rfl (fun hc2=>?_) (fun hc2=>?_)
 ·
  have hc2':=of_decide_eq_true hc2
  refine aH aa 2 rfl ?_
  obtain ⟨b21,a21,hr1⟩:∃ (b21:Bk) (a21:Answer),dN b d=(b21,a21):=⟨_,_,rfl⟩
  refine aN 11 [0,7,8,9,10,6,5] (cr id (bd [0,7,8,9,10]) (ms:=(jC b 1 2 3 4 none none)) (ms':=(jC b21 1 2 3 4 none none)) (fun x hx=>Ih x hx b d (by first|assumption|exact cv.tick (by assumption) (by omega) (by omega)) b21 a21 hr1) Jf rfl rfl ⟨⟨_,rfl,.inl ⟨rfl,rfl⟩⟩,⟨_,rfl,.inl ⟨rfl,rfl⟩⟩,trivial⟩ rfl rfl rfl rfl rfl rfl rfl ⟨rfl,rfl,rfl,rfl,trivial⟩ rfl rfl rfl rfl rfl rfl rfl rfl rfl rfl rfl rfl rfl) rfl ?_
  refine ad aa 1 rfl ?_
  refine af ?_
  refine az ?_
  refine bp ?_
  refine aq ?_
  have hX:df b days d=(b21,days,a21):=by
    unfold df;(repeat' (first|rw [if_pos (by omega)]|rw [if_neg (by omega)]|fail))<;>first|rfl|(simp only [hr1];done)|(simp only [hr1];rfl)|(simp_all;done)
  rw [hX] at hr;clear hX
  simp only [Prod.mk.injEq] at hr;obtain ⟨rfl,rfl,rfl⟩:=hr
  refine an aa [0,7,8,9,10,5,6] 6 rfl rfl rfl rfl rfl rfl ?_ ?_
  all_goals first|rfl|(simp [ay,aY,bf];done)|(simp [ay,aY,bf];omega)
 have hc2':=of_decide_eq_false hc2
 refine ae aa 2 rfl ?_
 refine ah rfl (fun hc3=>?_) (fun hc3=>?_)
 ·
  have hc3':=of_decide_eq_true hc3
  refine aH aa 2 rfl ?_
  obtain ⟨b22,a22,hr2⟩:∃ (b22:Bk) (a22:Answer),dx b d=(b22,a22):=⟨_,_,rfl⟩
  refine aN 11 [0,7,8,9,10,6,5] (cr id (bd [0,7,8,9,10]) (ms:=(jC b 1 2 3 4 none none)) (ms':=(jC b22 1 2 3 4 none none)) (fun x hx=>DY x hx b d (by first|assumption|exact cv.tick (by assumption) (by omega) (by omega)) b22 a22 hr2) Je rfl rfl ⟨⟨_,rfl,.inl ⟨rfl,rfl⟩⟩,⟨_,rfl,.inl ⟨rfl,rfl⟩⟩,trivial⟩ rfl rfl rfl rfl rfl rfl rfl ⟨rfl,rfl,rfl,rfl,trivial⟩ rfl rfl rfl rfl rfl rfl rfl rfl rfl rfl rfl rfl rfl) rfl ?_
  refine ad aa 1 rfl ?_
  refine af ?_
  refine az ?_
  refine bp ?_
  refine aq ?_
  have hX:df b days d=(b22,days,a22):=by
    unfold df;(repeat' (first|rw [if_pos (by omega)]|rw [if_neg (by omega)]|fail))<;>first|rfl|(simp only [hr2];done)|(simp only [hr2];rfl)|(simp_all;done)
  rw [hX] at hr;clear hX
  simp only [Prod.mk.injEq] at hr;obtain ⟨rfl,rfl,rfl⟩:=hr
  refine an aa [0,7,8,9,10,5,6] 6 rfl rfl rfl rfl rfl rfl ?_ ?_
  all_goals first|rfl|(simp [ay,aY,bf];done)|(simp [ay,aY,bf];omega)
 have hc3':=of_decide_eq_false hc3
 refine ae aa 2 rfl ?_
 refine ah rfl (fun hc4=>?_) (fun hc4=>?_)
 ·
  have hc4':=of_decide_eq_true hc4
  refine aH aa 2 rfl ?_
  obtain ⟨b23,a23,hr3⟩:∃ (b23:Bk) (a23:Answer),fF b d=(b23,a23):=⟨_,_,rfl⟩
  refine aN 11 [0,7,8,9,10,6,5] (cr id (bd [0,7,8,9,10]) (ms:=(jC b 1 2 3 4 none none)) (ms':=(jC b23 1 2 3 4 none none)) (fun x hx=>Hb x hx b d (by first|assumption|exact cv.tick (by assumption) (by omega) (by omega)) b23 a23 hr3) Jd rfl rfl ⟨⟨_,rfl,.inl ⟨rfl,rfl⟩⟩,⟨_,rfl,.inl ⟨rfl,rfl⟩⟩,trivial⟩ rfl rfl rfl rfl rfl rfl rfl ⟨rfl,rfl,rfl,rfl,trivial⟩ rfl rfl rfl rfl rfl rfl rfl rfl rfl rfl rfl rfl rfl) rfl ?_
  refine ad aa 1 rfl ?_
  refine af ?_
  refine az ?_
  refine bp ?_
  refine aq ?_
  have hX:df b days d=(b23,days,a23):=by
    unfold df;(repeat' (first|rw [if_pos (by omega)]|rw [if_neg (by omega)]|fail))<;>first|rfl|(simp only [hr3];done)|(simp only [hr3];rfl)|(simp_all;done)
  rw [hX] at hr;clear hX
  simp only [Prod.mk.injEq] at hr;obtain ⟨rfl,rfl,rfl⟩:=hr
  refine an aa [0,7,8,9,10,5,6] 6 rfl rfl rfl rfl rfl rfl ?_ ?_
  all_goals first|rfl|(simp [ay,aY,bf];done)|(simp [ay,aY,bf];omega)
 have hc4':=of_decide_eq_false hc4
 refine ae aa 2 rfl ?_
 refine ah rfl (fun hc5=>?_) (fun hc5=>?_)
 ·
  have hc5':=of_decide_eq_true hc5
  refine aH aa 2 rfl ?_
  obtain ⟨v04,v14,a24,hr4⟩:∃ (v04:List cf) (v14:List cf) (a24:Answer),eL b.s0 b.s1 b.n0 b.n1 b.w0 b.w1 d=(v04,v14,a24):=⟨_,_,_,rfl⟩
  refine aN 7 [0,6,1,2,3,4,5] (cr id id (ms:=[none,none,none,none,none,some (cI b.s0.bL),some (dn b.s0.kept),some (cI b.s1.bL),some (dn b.s1.kept),some (cI b.n0),some (cI b.n1),some (eD b.w0),some (eD b.w1),none,none,none,none,none,none,none]) (ms':=[none,none,none,none,none,some (cI b.s0.bL),some (dn b.s0.kept),some (cI b.s1.bL),some (dn b.s1.kept),some (cI b.n0),some (cI b.n1),some (eD v04),some (eD v14),none,none,none,none,none,none,none]) (fun x hx=>Fz x hx b.s0 b.s1 b.n0 b.n1 b.w0 b.w1 d (by first|omega|(simp;done)|(simp;omega)) (by first|omega|(simp;done)|(simp;omega)) (by first|omega|(simp;done)|(simp;omega)) (by first|omega|(simp;done)|(simp;omega)) v04 v14 a24 hr4) Jc rfl rfl ⟨⟨_,rfl,.inl ⟨rfl,rfl⟩⟩,⟨_,rfl,.inl ⟨rfl,rfl⟩⟩,trivial⟩ rfl rfl rfl rfl rfl rfl rfl trivial rfl rfl rfl rfl rfl rfl rfl rfl rfl rfl rfl rfl rfl) rfl ?_
  refine ad aa 1 rfl ?_
  refine af ?_
  refine az ?_
  refine bp ?_
  refine aq ?_
  have hX:df b days d=((⟨b.time,b.down,b.aw,b.due,b.ax,b.s0,b.s1,b.n0,b.n1,v04,v14,b.bP,b.aR,b.book⟩:Bk),days,a24):=by
    unfold df;(repeat' (first|rw [if_pos (by omega)]|rw [if_neg (by omega)]|fail))<;>first|rfl|(simp only [hr4];done)|(simp only [hr4];rfl)|(simp_all;done)
  rw [hX] at hr;clear hX
  simp only [Prod.mk.injEq] at hr;obtain ⟨rfl,rfl,rfl⟩:=hr
  refine an aa [0,1,2,3,4,5,6] 6 rfl rfl rfl rfl rfl rfl ?_ ?_
  all_goals first|rfl|(simp [ay,aY,bf];done)|(simp [ay,aY,bf];omega)
 have hc5':=of_decide_eq_false hc5
 refine ag ?_
 refine ae aa 2 rfl ?_
 refine ah rfl (fun hc6=>?_) (fun hc6=>?_)
 ·
  have hc6':=of_decide_eq_true hc6
  refine aQ ?_
  refine ah rfl (fun _=>?_) (fun hno=>absurd (hc6.symm.trans hno) (by decide))
  refine aH aa 2 rfl ?_
  obtain ⟨b25,a25,hr5⟩:∃ (b25:Bk) (a25:Answer),bZ b d=(b25,a25):=⟨_,_,rfl⟩
  refine aN 11 [0,7,8,9,10,6,5] (cr id (bd [0,7,8,9,10]) (ms:=(jC b 1 2 3 4 none none)) (ms':=(jC b25 1 2 3 4 none none)) (fun x hx=>xx x hx b d (by assumption) b25 a25 hr5) GN rfl rfl ⟨⟨_,rfl,.inl ⟨rfl,rfl⟩⟩,⟨_,rfl,.inl ⟨rfl,rfl⟩⟩,trivial⟩ rfl rfl rfl rfl rfl rfl rfl ⟨rfl,rfl,rfl,rfl,trivial⟩ rfl rfl rfl rfl rfl rfl rfl rfl rfl rfl rfl rfl rfl) rfl ?_
  refine ad aa 1 rfl ?_
  refine af ?_
  refine az ?_
  refine bp ?_
  refine aq ?_
  have hX:df b days d=(b25,days,a25):=by
    unfold df;(repeat' (first|rw [if_pos (by omega)]|rw [if_neg (by omega)]|fail))<;>first|rfl|(simp only [hr5];done)|(simp only [hr5];rfl)|(simp_all;done)
  rw [hX] at hr;clear hX
  simp only [Prod.mk.injEq] at hr;obtain ⟨rfl,rfl,rfl⟩:=hr
  refine an aa [0,7,8,9,10,5,6] 6 rfl rfl rfl rfl rfl rfl ?_ ?_
  all_goals first|rfl|(simp [ay,aY,bf];done)|(simp [ay,aY,bf];omega)
 have hc6':=of_decide_eq_false hc6
 refine au ?_
 refine ad aa 2 rfl ?_
 refine af ?_
 refine ah rfl (fun hc8=>?_) (fun hc8=>?_)
 ·
  have hc8':=of_decide_eq_true hc8
  refine aH aa 2 rfl ?_
  obtain ⟨b26,a26,hr6⟩:∃ (b26:Bk) (a26:Answer),bZ b d=(b26,a26):=⟨_,_,rfl⟩
  refine aN 11 [0,7,8,9,10,6,5] (cr id (bd [0,7,8,9,10]) (ms:=(jC b 1 2 3 4 none none)) (ms':=(jC b26 1 2 3 4 none none)) (fun x hx=>xx x hx b d (by assumption) b26 a26 hr6) GN rfl rfl ⟨⟨_,rfl,.inl ⟨rfl,rfl⟩⟩,⟨_,rfl,.inl ⟨rfl,rfl⟩⟩,trivial⟩ rfl rfl rfl rfl rfl rfl rfl ⟨rfl,rfl,rfl,rfl,trivial⟩ rfl rfl rfl rfl rfl rfl rfl rfl rfl rfl rfl rfl rfl) rfl ?_
  refine ad aa 1 rfl ?_
  refine af ?_
  refine az ?_
  refine bp ?_
  refine aq ?_
  have hX:df b days d=(b26,days,a26):=by
    unfold df;(repeat' (first|rw [if_pos (by omega)]|rw [if_neg (by omega)]|fail))<;>first|rfl|(simp only [hr6];done)|(simp only [hr6];rfl)|(simp_all;done)
  rw [hX] at hr;clear hX
  simp only [Prod.mk.injEq] at hr;obtain ⟨rfl,rfl,rfl⟩:=hr
  refine an aa [0,7,8,9,10,5,6] 6 rfl rfl rfl rfl rfl rfl ?_ ?_
  all_goals first|rfl|(simp [ay,aY,bf];done)|(simp [ay,aY,bf];omega)
 have hc8':=of_decide_eq_false hc8
 refine ae aa 2 rfl ?_
 refine ah rfl (fun hc9=>?_) (fun hc9=>?_)
 ·
  have hc9':=of_decide_eq_true hc9
  refine ag ?_
  refine ae aa 5 rfl ?_
  refine ah rfl (fun hc10=>?_) (fun hc10=>?_)
  ·
   have hc10':=hc10;try simp only [bu,bU] at hc10'
   refine ae aa 2 rfl ?_
   refine az ?_
   refine aq ?_
   refine bp ?_
   refine aq ?_
   have hX:df b days d=(b,days,(⟨8,0⟩:Answer)):=by
     unfold df;(repeat' (first|rw [if_pos (by omega)]|rw [if_neg (by omega)]|fail))<;>first|rfl|(simp_all;done)
   rw [hX] at hr;clear hX
   simp only [Prod.mk.injEq] at hr;obtain ⟨rfl,rfl,rfl⟩:=hr
   refine an aa [0,1,2,3,4,5,6] 6 rfl rfl rfl rfl rfl rfl ?_ ?_
   all_goals first|rfl|(simp [ay,aY,bf];done)|(simp [ay,aY,bf];omega)
  have hc10':=hc10;try simp only [bu,bU] at hc10'
  refine aQ ?_
  refine ae aa 5 rfl ?_
  refine ae aa 2 rfl ?_
  refine az ?_
  refine bp ?_
  refine aq ?_
  have hX:df b days d=((⟨b.time,true,b.aw,b.due,b.ax,b.s0,b.s1,b.n0,b.n1,b.w0,b.w1,b.bP,b.aR,b.book⟩:Bk),days,(⟨0,0⟩:Answer)):=by
    unfold df;(repeat' (first|rw [if_pos (by omega)]|rw [if_neg (by omega)]|fail))<;>first|rfl|(simp_all;done)
  rw [hX] at hr;clear hX
  simp only [Prod.mk.injEq] at hr;obtain ⟨rfl,rfl,rfl⟩:=hr
  refine an aa [0,1,2,3,4,5,6] 6 rfl rfl rfl rfl rfl rfl ?_ ?_
  all_goals first|rfl|(simp [ay,aY,bf];done)|(simp [ay,aY,bf];omega)
 have hc9':=of_decide_eq_false hc9
 refine ae aa 2 rfl ?_
 refine ah rfl (fun hc11=>?_) (fun hc11=>?_)
 ·
  have hc11':=of_decide_eq_true hc11
  refine aH aa 1 rfl ?_
  obtain ⟨b27,a27,hr7⟩:∃ (b27:Bk) (a27:Answer),jI b=(b27,a27):=⟨_,_,rfl⟩
  refine aN 11 [0,7,8,9,10,6,5] (cr id (bd [0,7,8,9,10]) (ms:=(jC b 1 2 3 4 none none)) (ms':=(jC b27 1 2 3 4 none none)) (fun x hx=>Jv x hx b (by first|assumption|exact cv.tick (by assumption) (by omega) (by omega)) b27 a27 hr7) Jb rfl rfl ⟨⟨_,rfl,.inl ⟨rfl,rfl⟩⟩,trivial⟩ rfl rfl rfl rfl rfl rfl rfl ⟨rfl,rfl,rfl,rfl,trivial⟩ rfl rfl rfl rfl rfl rfl rfl rfl rfl rfl rfl rfl rfl) rfl ?_
  refine ad aa 1 rfl ?_
  refine af ?_
  refine az ?_
  refine bp ?_
  refine aq ?_
  have hX:df b days d=(b27,days,a27):=by
    unfold df;(repeat' (first|rw [if_pos (by omega)]|rw [if_neg (by omega)]|fail))<;>first|rfl|(simp only [hr7];done)|(simp only [hr7];rfl)|(simp_all;done)
  rw [hX] at hr;clear hX
  simp only [Prod.mk.injEq] at hr;obtain ⟨rfl,rfl,rfl⟩:=hr
  refine an aa [0,7,8,9,10,5,6] 6 rfl rfl rfl rfl rfl rfl ?_ ?_
  all_goals first|rfl|(simp [ay,aY,bf];done)|(simp [ay,aY,bf];omega)
 have hc11':=of_decide_eq_false hc11
 refine ae aa 2 rfl ?_
 refine ah rfl (fun hc12=>?_) (fun hc12=>?_)
 ·
  have hc12':=of_decide_eq_true hc12
  refine aH aa 1 rfl ?_
  obtain ⟨today28,days28,a28,hr8⟩:∃ (today28:List aj) (days28:List (List Int)) (a28:Answer),iM b.aR days=(today28,days28,a28):=⟨_,_,_,rfl⟩
  refine aN 9 [0,7,8,6,1,2,3] (cr (bd [0,4,5]) (bd [0,7,8]) (ms:=((dG.set 16 (some (.s 1 0 4 b.aR.length))).set 17 (some (.s 2 0 1 days.length)))) (ms':=((dG.set 16 (some (.s 1 0 4 today28.length))).set 17 (some (.s 2 0 1 days28.length)))) (fun x hx=>Hd x hx b.aR days (by first|omega|(simp;done)|(simp;omega)) (by first|omega|(simp;done)|(simp;omega)) today28 days28 a28 hr8) Ja rfl rfl ⟨⟨_,rfl,.inl ⟨rfl,rfl⟩⟩,trivial⟩ rfl rfl rfl rfl rfl rfl rfl ⟨rfl,rfl,trivial⟩ rfl rfl rfl rfl rfl rfl rfl rfl rfl rfl rfl rfl rfl) rfl ?_
  refine ad aa 1 rfl ?_
  refine af ?_
  refine az ?_
  refine bp ?_
  refine aq ?_
  have hX:df b days d=((⟨b.time,b.down,b.aw,b.due,b.ax,b.s0,b.s1,b.n0,b.n1,b.w0,b.w1,b.bP,today28,b.book⟩:Bk),days28,a28):=by
    unfold df;(repeat' (first|rw [if_pos (by omega)]|rw [if_neg (by omega)]|fail))<;>first|rfl|(simp only [hr8];done)|(simp only [hr8];rfl)|(simp_all;done)
  rw [hX] at hr;clear hX
  simp only [Prod.mk.injEq] at hr;obtain ⟨rfl,rfl,rfl⟩:=hr
  refine an aa [0,1,2,3,7,8,6] 6 rfl rfl rfl rfl rfl rfl ?_ ?_
  all_goals first|rfl|(simp [ay,aY,bf];done)|(simp [ay,aY,bf];omega)
 have hc12':=of_decide_eq_false hc12
 refine ae aa 2 rfl ?_
 refine ah rfl (fun hc13=>?_) (fun hc13=>?_)
 ·
  have hc13':=of_decide_eq_true hc13
  refine aH aa 2 rfl ?_
  obtain ⟨b29,a29,hr9⟩:∃ (b29:Bk) (a29:Answer),iD b d=(b29,a29):=⟨_,_,rfl⟩
  refine aN 11 [0,7,8,9,10,6,5] (cr id (bd [0,7,8,9,10]) (ms:=(jC b 1 2 3 4 none none)) (ms':=(jC b29 1 2 3 4 none none)) (fun x hx=>Ig x hx b d (by first|assumption|exact cv.tick (by assumption) (by omega) (by omega)) b29 a29 hr9) IZ rfl rfl ⟨⟨_,rfl,.inl ⟨rfl,rfl⟩⟩,⟨_,rfl,.inl ⟨rfl,rfl⟩⟩,trivial⟩ rfl rfl rfl rfl rfl rfl rfl ⟨rfl,rfl,rfl,rfl,trivial⟩ rfl rfl rfl rfl rfl rfl rfl rfl rfl rfl rfl rfl rfl) rfl ?_
  refine ad aa 1 rfl ?_
  refine af ?_
  refine az ?_
  refine bp ?_
  refine aq ?_
  have hX:df b days d=(b29,days,a29):=by
    unfold df;(repeat' (first|rw [if_pos (by omega)]|rw [if_neg (by omega)]|fail))<;>first|rfl|(simp only [hr9];done)|(simp only [hr9];rfl)|(simp_all;done)
  rw [hX] at hr;clear hX
  simp only [Prod.mk.injEq] at hr;obtain ⟨rfl,rfl,rfl⟩:=hr
  refine an aa [0,7,8,9,10,5,6] 6 rfl rfl rfl rfl rfl rfl ?_ ?_
  all_goals first|rfl|(simp [ay,aY,bf];done)|(simp [ay,aY,bf];omega)
 have hc13':=of_decide_eq_false hc13
 refine cZ ?_
 refine bh ?_
 refine then_ok ?_
 refine ae aa 2 rfl ?_
 refine az ?_
 have hX:df b days d=(b,days,(⟨1,0⟩:Answer)):=by
   unfold df;(repeat' (first|rw [if_pos (by omega)]|rw [if_neg (by omega)]|fail))<;>first|rfl|(simp_all;done)
 rw [hX] at hr;clear hX
 simp only [Prod.mk.injEq] at hr;obtain ⟨rfl,rfl,rfl⟩:=hr
 refine an aa [0,1,2,3,4,5,6] 6 rfl rfl rfl rfl rfl rfl ?_ ?_
 all_goals first|rfl|(simp [ay,aY,bf];done)|(simp [ay,aY,bf];omega)

theorem He (x:Nat->Value) (hx:∀ i,(x i).oneCell'=true) (b:Bk) (days:List (List Int)) (told:List (Int×Answer)) (cl:Nat) (d:aW) (ok:cv b) (hy:days.length<=1000) (b2:Bk) (y2:List (List Int)) (t2:List (Int×Answer)) (c2:Nat) (a2:Answer) (hr:fZ b days told cl d=(b2,y2,t2,c2,a2)):cJ Try.prog 42 [(.c (.p 0 0 0 0)),(.c (.q (cQ d) 0))] [(0,(.box 98 (aY b 1 2 3 4 (.s 5 0 1 days.length) (.m 6)))),(1,(dW b.aw)),(2,(dP b.due)),(3,(ed b.ax)),(4,(cS b.aR)),(5,(qZ days)),(6,(.map (tV told) cl))] [0] (.v (.g [cI a2.err,cI a2.bc])) [(0,(.box 98 (aY b2 1 2 3 4 (.s 5 0 1 y2.length) (.m 6)))),(1,(dW b2.aw)),(2,(dP b2.due)),(3,(ed b2.ax)),(4,(cS b2.aR)),(5,(qZ y2)),(6,(.map (tV t2) c2))]:=by
 refine cJ.mk 42 [(0,(aC (.p 0 0 0 0))),(1,(aC (.q (cQ d) 0)))] 7 Try.func42 rfl rfl rfl rfl rfl rfl rfl rfl rfl ?_
 intro W0 F0 T0 pg
 obtain ⟨okt,okc,okd,oka,oky,okw0,okw1,okp,okv,okk0,okk1,okg,okl0,okl1,okp0,okp1,okn0,okn1,okq⟩:=id ok
 refine ae aa 1 rfl ?_
 refine ag ?_
 refine ag ?_
 refine dg [0,1,4] [7,0,1,2,3,4,5,6] mixed rfl rfl ?_
 refine ca (kn:=[]) aa 8 rfl trivial ?_
 refine cg (n':=8) [12,16] [6] rfl rfl (.inl ⟨(ak.plain rfl),aM.cast (BK (ps:=told) Try.underlying96 Try.underlying3 Iu rfl rfl rfl rfl) rfl⟩) rfl ?_
 refine ca (n':=9) (kn:=[]) aa 6 rfl trivial ?_
 refine dX [0,1,4,5,6] [8,7,0,1,2,3,4,5,6] rfl rfl (by kernel_rfl) ?_
 refine then_ok ?_
 refine cx 27 (((jj told d.id).isSome) && (decide (¬d.id=0))) ?_ ?_
 ·
  refine au ?_
  refine ad aa 2 rfl ?_
  refine bI (t:=21) rfl (fun hb1=>?_) (fun hb1=>?_)
  ·
   have hb1':=hb1;try simp only [bu,bU] at hb1'
   refine ad aa 6 rfl ?_
   refine af ?_
   exact aF.bH 9 rfl rfl (by first|(simp [hb1];done)|(simp_all;done)|(exfalso;simp_all;done)|(simp_all;omega)) rfl
  have hb1':=hb1;try simp only [bu,bU] at hb1'
  refine ad aa 6 rfl ?_
  refine af ?_
  exact aF.bH 9 rfl rfl (by first|(simp [hb1];done)|(simp_all;done)|(exfalso;simp_all;done)|(simp_all;omega)) rfl
 refine ah rfl (fun hc2=>?_) (fun hc2=>?_)
 ·
  have hc2':=hc2;try simp only [bu,bU] at hc2'
  refine ae aa 2 rfl ?_
  refine az ?_
  refine aq ?_
  have hX:fZ b days told cl d=(b,days,told,cl,((jj told d.id).getD ⟨0,0⟩)):=by
    unfold fZ;(repeat' split)<;>first|rfl|omega|(exfalso;omega)|(simp_all;done)|(simp_all;omega)
  rw [hX] at hr;clear hX
  simp only [Prod.mk.injEq] at hr;obtain ⟨rfl,rfl,rfl,rfl,rfl⟩:=hr
  refine an aa [0,1,2,3,4,5,6,7] 7 rfl rfl rfl rfl rfl rfl ?_ ?_
  all_goals first|rfl|(simp [ay,aY,bf];done)|(simp [ay,aY,bf];omega)
 have hc2':=hc2;try simp only [bu,bU] at hc2'
 refine aQ ?_
 refine aH aa 2 rfl ?_
 obtain ⟨b20,y20,a20,hr0⟩:∃ (b20:Bk) (y20:List (List Int)) (a20:Answer),df b days d=(b20,y20,a20):=⟨_,_,_,rfl⟩
 refine aN 14 [0,9,10,11,12,13,8,7,6] (cr id (bd [0,9,10,11,12,13]) (ms:=(jC b 1 2 3 4 (some (.s 5 0 1 days.length)) none)) (ms':=(jC b20 1 2 3 4 (some (.s 5 0 1 y20.length)) none)) (fun x hx=>Jw x hx b days d (by first|assumption|exact cv.tick (by assumption) (by omega) (by omega)) (by first|omega|(simp;done)|(simp;omega)) b20 y20 a20 hr0) Jj rfl rfl ⟨⟨_,rfl,.inl ⟨rfl,rfl⟩⟩,⟨_,rfl,.inl ⟨rfl,rfl⟩⟩,trivial⟩ rfl rfl rfl rfl rfl rfl rfl ⟨rfl,rfl,rfl,rfl,rfl,trivial⟩ rfl rfl rfl rfl rfl rfl rfl rfl rfl rfl rfl rfl rfl) rfl ?_
 refine ad aa 2 rfl ?_
 refine af ?_
 refine ag ?_
 refine ba [0,1,4,7] [14,0,9,10,11,12,13,7,6] mixed rfl rfl ?_
 refine aE (kn:=[]) aa 9 rfl trivial ?_
 refine bC [14,0,9,10,11,12,13,7,6] rfl rfl rfl rfl (by kernel_rfl) ?_
 refine gI [14,0,9,10,11,12,13,7,6] (BI Try.underlying96 Try.underlying3 rfl rfl rfl rfl rfl) rfl ?_
 refine af ?_
 refine ae aa 2 rfl ?_
 refine az ?_
 have hX:fZ b days told cl d=(b20,y20,oV told d.id a20,if (jj told d.id).isSome then cl else cl+1,a20):=by
   unfold fZ;simp only [hr0];(repeat' split)<;>first|rfl|omega|(exfalso;omega)|(simp_all;done)|(simp_all;omega)
 rw [hX] at hr;clear hX
 simp only [Prod.mk.injEq] at hr;obtain ⟨rfl,rfl,rfl,rfl,rfl⟩:=hr
 refine an aa [0,9,10,11,12,13,6,7] 7 rfl rfl rfl rfl rfl rfl ?_ ?_
 all_goals first|rfl|(simp [ay,aY,bf];done)|(simp [ay,aY,bf];omega)

theorem xw (s:Setup) (f:dc) (hr:eJ s=f):Fn Try.prog 40 [(.g [(cR 3 ((s.dh).map iK)),(cI s.ja),(cI s.cap)])] (.v (.g [(cI f.err),(cI f.at_)])) []:=by
 refine Fn.mk' 47 [(0,(aG [(cR 3 ((s.dh).map iK)),(cI s.ja),(cI s.cap)]))] Try.func40 rfl rfl rfl rfl ?_
 intro W0 T0
 refine fE 0 0 rfl rfl (fun hlen0_0=>?_)
 refine ae aa 2 rfl ?_
 refine ag ?_
 refine cx 19 (((decide ((↑s.dh.length:Int) > 8))||(decide (s.ja < 0)))||(decide (s.ja > 8))) ?_ ?_
 ·
  refine au ?_
  refine ad aa 2 rfl ?_
  refine aA (cM rfl rfl rfl rfl rfl Try.underlying53) rfl ?_
  refine ad aa 2 rfl ?_
  refine bI (t:=10) rfl (fun hb1=>?_) (fun hb1=>?_)
  ·
   have hb1':=of_decide_eq_true hb1
   refine ad aa 9 rfl ?_
   refine af ?_
   exact aF.bH 15 rfl rfl (by first|(simp [hb1];done)|(simp_all;done)|(exfalso;simp_all;done)|(simp_all;omega)) rfl
  have hb1':=of_decide_eq_false hb1
  refine ad aa 5 rfl ?_
  refine bI (t:=15) rfl (fun hb2=>?_) (fun hb2=>?_)
  ·
   have hb2':=of_decide_eq_true hb2
   refine ad aa 4 rfl ?_
   refine af ?_
   exact aF.bH 16 rfl rfl (by first|(simp [hb1,hb2];done)|(simp_all;done)|(exfalso;simp_all;done)|(simp_all;omega)) rfl
  have hb2':=of_decide_eq_false hb2
  refine ad aa 4 rfl ?_
  refine af ?_
  exact aF.bH 16 rfl rfl (by first|(simp [hb1,hb2];done)|(simp_all;done)|(exfalso;simp_all;done)|(simp_all;omega)) rfl
 refine ah rfl (fun hc3=>?_) (fun hc3=>?_)
 ·
  have hc3':=hc3;try simp only [bu,bU] at hc3'
  refine ae aa 2 rfl ?_
  refine az ?_
  refine aq ?_
  have hX:eJ s=(⟨5,0⟩:dc):=by
    unfold eJ;rw [if_pos (by omega)]
  rw [hX] at hr;clear hX
  subst hr
  refine an aa [1] 0 rfl rfl rfl rfl rfl rfl ?_ ?_
  all_goals first|rfl|(simp [ay,aY,bf];done)|(simp [ay,aY,bf];omega)
 have hc3':=hc3;try simp only [bu,bU] at hc3'
 refine aQ ?_
 refine ag ?_
 refine cx 28 ((decide (s.cap < 0))||(decide (s.cap > 1000000))) ?_ ?_
 ·
  refine au ?_
  refine ad aa 4 rfl ?_
  refine bI (t:=24) rfl (fun hb4=>?_) (fun hb4=>?_)
  ·
   have hb4':=of_decide_eq_true hb4
   refine ad aa 4 rfl ?_
   refine af ?_
   exact aF.bH 9 rfl rfl (by first|(simp [hb4];done)|(simp_all;done)|(exfalso;simp_all;done)|(simp_all;omega)) rfl
  have hb4':=of_decide_eq_false hb4
  refine ad aa 4 rfl ?_
  refine af ?_
  exact aF.bH 9 rfl rfl (by first|(simp [hb4];done)|(simp_all;done)|(exfalso;simp_all;done)|(simp_all;omega)) rfl
 refine ah rfl (fun hc5=>?_) (fun hc5=>?_)
 ·
  have hc5':=hc5;try simp only [bu,bU] at hc5'
  refine ae aa 2 rfl ?_
  refine az ?_
  refine aq ?_
  have hX:eJ s=(⟨3,0⟩:dc):=by
    unfold eJ;rw [if_neg (by omega),if_pos (by omega)]
  rw [hX] at hr;clear hX
  subst hr
  refine an aa [1] 0 rfl rfl rfl rfl rfl rfl ?_ ?_
  all_goals first|rfl|(simp [ay,aY,bf];done)|(simp [ay,aY,bf];omega)
 have hc5':=hc5;try simp only [bu,bU] at hc5'
 refine aQ ?_
 refine ag ?_
 refine aH aa 2 rfl ?_
 refine aA (cM rfl rfl rfl rfl rfl Try.underlying53) rfl ?_
 refine ad aa 1 rfl ?_
 refine af ?_
 refine aX ?_
 refine cw (β:=Nat) (fun (q:Nat)=>⟨[(2,(aC (.p 1 0 0 0))),(31,(aC (cR 3 ((s.dh).map iK)))),(32,(aI (↑s.dh.length:Int))),(33,(aI (↑q:Int)))],[(1,(.box 50 [(cI 0),(cI 0)]))],2⟩) (fun (q:Nat)=>q<=s.dh.length/\pt s.dh 0=pt (s.dh.drop q) q) (fun (q:Nat)=>s.dh.length - q) 0 ?_ ?_ ?_
 ·exact ⟨by omega,rfl⟩
 ·exact aF.bW id (by refine ⟨?_,?_,?_,?_,trivial⟩<;>first|rfl|(simp only [bm];done)|(congr 3;omega)|(congr 4;omega)|(simp only [bn];rfl)) (⟨by first|rfl|(simp only [bm];done)|(congr 3;omega)|(congr 4;omega)|(simp only [bn];rfl),trivial⟩) rfl
 rintro q ⟨hi0_0,hi0_1⟩
 refine ae aa 1 rfl ?_
 refine ag ?_
 refine ah rfl (fun hc6=>?_) (fun hc6=>?_)
 ·
  have hc6':=of_decide_eq_true hc6
  refine aQ ?_
  refine ag ?_
  refine aX ?_
  refine aH aa 1 rfl ?_
  obtain ⟨x1,hx1⟩:=ck (xs:=s.dh) (i:=q) (by first|omega|(simp;done)|(simp;omega))
  refine aA (cH (i:=q) rfl rfl rfl Try.underlying53 FJ (by first|omega|(simp;done)|(simp;omega)) (bw hx1)) rfl ?_
  refine ad aa 4 rfl ?_
  refine af ?_
  refine aH aa 1 rfl ?_
  obtain ⟨e0,hr0⟩:∃ (e0:Int),fA x1=e0:=⟨_,rfl⟩
  refine aN 3 [2,1] (bQ 3 (lI x1 e0 hr0) DC rfl rfl ⟨⟨_,rfl,.g ⟨.d _,.d _,.d _,trivial⟩⟩,trivial⟩ trivial trivial rfl rfl rfl rfl) rfl ?_
  refine ad aa 1 rfl ?_
  refine af ?_
  refine ae aa 2 rfl ?_
  refine ah rfl (fun hc7=>?_) (fun hc7=>?_)
  ·
   have hc7':=of_decide_eq_true hc7
   refine ae aa 4 rfl ?_
   refine az ?_
   refine bp ?_
   refine aq ?_
   refine aq ?_
   refine bp ?_
   refine aq ?_
   have hX:eJ s=(⟨e0,(↑q:Int)⟩:dc):=by
     unfold eJ;rw [if_neg (by omega),if_neg (by omega),hi0_1,uI hx1,if_pos (by omega)];simp_all
   rw [hX] at hr;clear hX
   subst hr
   refine an aa [1] 0 rfl rfl rfl rfl rfl rfl ?_ ?_
   all_goals first|rfl|(simp [ay,aY,bf];done)|(simp [ay,aY,bf];omega)
  have hc7':=of_decide_eq_false hc7
  refine cZ ?_
  refine bh ?_
  refine then_ok ?_
  refine au ?_
  refine aA (aL rfl rfl rfl (aJ (by first|omega|(simp;done)|(simp;omega)))) rfl ?_
  refine ad aa 1 rfl ?_
  refine af ?_
  refine ⟨q+1,⟨by omega,by rw [hi0_1,uI hx1,if_neg (by omega)]⟩,by first|omega|(simp;done)|(simp;omega),aF.bW id (by refine ⟨?_,?_,?_,?_,trivial⟩<;>first|rfl|(simp only [bm];done)|(congr 3;omega)|(congr 4;omega)|(simp only [bn];rfl)) (⟨by first|rfl|(simp only [bm];done)|(congr 3;omega)|(congr 4;omega)|(simp only [bn];rfl),trivial⟩) rfl⟩
 have hc6':=of_decide_eq_false hc6
 refine cj ?_
 refine aP ?_
 refine aP ?_
 refine bK ?_
 refine then_ok ?_
 refine ae aa 2 rfl ?_
 refine az ?_
 have hX:eJ s=(⟨0,0⟩:dc):=by
   unfold eJ;rw [if_neg (by omega),if_neg (by omega),hi0_1,List.drop_of_length_le (by omega)];rfl
 rw [hX] at hr;clear hX
 subst hr
 refine an aa [1] 0 rfl rfl rfl rfl rfl rfl ?_ ?_
 all_goals first|rfl|(simp [ay,aY,bf];done)|(simp [ay,aY,bf];omega)

theorem Ch (s:Setup) (l:List aW) (b2:Bk) (y2:List (List Int)) (o2:List Answer) (f2:dc) (hr:iL s l=(b2,y2,o2,f2)):Fn Try.prog 22 [(.g [(cR 3 ((s.dh).map iK)),(cI s.ja),(cI s.cap)]),(.c (uq l))] (.t [(.g [(cI b2.time),(cB b2.down),(.s 0 0 6 b2.aw.length),(.s 1 0 1 b2.due.length),(.s 2 0 8 b2.ax.length),(cI b2.s0.bL),(dn b2.s0.kept),(cI b2.s1.bL),(dn b2.s1.kept),(cI b2.n0),(cI b2.n1),(eD b2.w0),(eD b2.w1),(cI b2.bP.cap),(fB b2.bP.used),(iz b2.bP.bg),(.s 3 0 4 b2.aR.length),(.s 4 0 1 y2.length),(eb b2.book)]),(.c (.s 5 0 2 o2.length)),(.g [(cI f2.err),(cI f2.at_)])]) [(0,(dW b2.aw)),(1,(dP b2.due)),(2,(ed b2.ax)),(3,(cS b2.aR)),(4,(qZ y2)),(5,(Hm o2))]:=by
 refine Fn.mk' 89 [(0,(aG [(cR 3 ((s.dh).map iK)),(cI s.ja),(cI s.cap)])),(1,(aC (uq l)))] Try.func22 rfl rfl rfl rfl ?_
 intro W0 T0
 refine fE 0 0 rfl rfl (fun hlen0_0=>?_)
 refine dr 1 rfl (fun hlen1=>?_)
 refine ae aa 4 rfl ?_
 refine ag ?_
 refine aH aa 1 rfl ?_
 obtain ⟨f0,hr0⟩:∃ (f0:dc),eJ s=f0:=⟨_,rfl⟩
 refine aN 3 [2,1,0] (bQ 3 (xw s f0 hr0) Jo rfl rfl ⟨⟨_,rfl,.g ⟨.d _,.d _,.d _,trivial⟩⟩,trivial⟩ ⟨trivial,trivial,trivial⟩ trivial rfl rfl rfl rfl) rfl ?_
 refine ad aa 2 rfl ?_
 refine af ?_
 refine ae aa 3 rfl ?_
 refine ah rfl (fun hc1=>?_) (fun hc1=>?_)
 ·
  have hc1':=of_decide_eq_true hc1
  refine ag ?_
  refine dg [1,2,4,6,7] [3,2,1,0] mixed rfl rfl ?_
  refine ca (kn:=[]) aa 5 rfl trivial ?_
  refine dX [1,2,4,6,5] [2,1,0] rfl rfl (by kernel_rfl) ?_
  refine then_ok ?_
  refine az ?_
  refine aq ?_
  refine cp 1 2 61 6 rfl rfl rfl ?_
  refine cp 1 3 3 1 rfl rfl rfl ?_
  refine cp 1 4 67 8 rfl rfl rfl ?_
  refine fm 1 6 4 rfl rfl rfl ?_
  refine fm 1 8 4 rfl rfl rfl ?_
  refine fm 1 11 5 rfl rfl rfl ?_
  refine fm 1 12 5 rfl rfl rfl ?_
  refine fm 1 14 1 rfl rfl rfl ?_
  refine fm 1 15 4 rfl rfl rfl ?_
  refine cp 1 16 83 4 rfl rfl rfl ?_
  refine cp 1 17 86 1 rfl rfl rfl ?_
  refine fm 1 18 2 rfl rfl rfl ?_
  refine cT (aF.nil 5 65 2 (by decide) rfl) ?_
  have hX:iL s l=((⟨0,false,([]:List bE),([]:List Int),([]:List bF),(⟨0,[]⟩:bX),(⟨0,[]⟩:bX),0,0,[],[],(⟨0,[],[]⟩:cF),([]:List aj),[]⟩:Bk),([]:List (List Int)),([]:List Answer),f0):=by
    unfold iL;rw [hr0,if_pos (by omega)];rfl
  rw [hX] at hr;clear hX
  simp only [Prod.mk.injEq] at hr;obtain ⟨rfl,rfl,rfl,rfl⟩:=hr
  refine an aa [4,5,6,7,8,9,1,2] 6 rfl rfl rfl rfl rfl rfl ?_ ?_
  all_goals first|rfl|(simp [ay,aY,bf];done)|(simp [ay,aY,bf];omega)
 have hc1':=of_decide_eq_false hc1
 refine aQ ?_
 refine ag ?_
 refine aH aa 1 rfl ?_
 refine aA (cM rfl rfl rfl rfl rfl Try.underlying24) rfl ?_
 refine ad aa 1 rfl ?_
 refine af ?_
 refine ah rfl (fun hc2=>?_) (fun hc2=>?_)
 ·
  have hc2':=of_decide_eq_true hc2
  refine ae aa 5 rfl ?_
  refine az ?_
  refine aq ?_
  refine cp 1 2 61 6 rfl rfl rfl ?_
  refine cp 1 3 3 1 rfl rfl rfl ?_
  refine cp 1 4 67 8 rfl rfl rfl ?_
  refine fm 1 6 4 rfl rfl rfl ?_
  refine fm 1 8 4 rfl rfl rfl ?_
  refine fm 1 11 5 rfl rfl rfl ?_
  refine fm 1 12 5 rfl rfl rfl ?_
  refine fm 1 14 1 rfl rfl rfl ?_
  refine fm 1 15 4 rfl rfl rfl ?_
  refine cp 1 16 83 4 rfl rfl rfl ?_
  refine cp 1 17 86 1 rfl rfl rfl ?_
  refine fm 1 18 2 rfl rfl rfl ?_
  refine cT (aF.nil 5 65 2 (by decide) rfl) ?_
  have hX:iL s l=((⟨0,false,([]:List bE),([]:List Int),([]:List bF),(⟨0,[]⟩:bX),(⟨0,[]⟩:bX),0,0,[],[],(⟨0,[],[]⟩:cF),([]:List aj),[]⟩:Bk),([]:List (List Int)),([]:List Answer),(⟨5,0⟩:dc)):=by
    unfold iL;rw [hr0,if_neg (by omega),if_pos (by omega)];rfl
  rw [hX] at hr;clear hX
  simp only [Prod.mk.injEq] at hr;obtain ⟨rfl,rfl,rfl,rfl⟩:=hr
  refine an aa [4,5,6,7,8,9,1,2] 6 rfl rfl rfl rfl rfl rfl ?_ ?_
  all_goals first|rfl|(simp [ay,aY,bf];done)|(simp [ay,aY,bf];omega)
 have hc2':=of_decide_eq_false hc2
 refine aQ ?_
 refine eB ?_
 refine aN 5 [4,3,2,1,0] (zT 4 rfl) rfl ?_
 refine ad aa 3 rfl ?_
 refine af ?_
 refine ag ?_
 obtain ⟨w1,w2,w3,w4,w5,w6⟩:=lB (s:=s) (by rw [hr0];omega)
 refine qw 5 2 61 6 rfl rfl rfl ?_
 refine qw 5 4 67 8 rfl rfl rfl ?_
 refine kZ 5 6 4 rfl rfl rfl ?_
 refine kZ 5 8 4 rfl rfl rfl ?_
 refine kZ 5 11 5 rfl rfl rfl ?_
 refine kZ 5 12 5 rfl rfl rfl ?_
 refine kZ 5 14 1 rfl rfl rfl ?_
 refine kZ 5 15 4 rfl rfl rfl ?_
 refine qw 5 16 83 4 rfl rfl rfl ?_
 refine qw 5 17 86 1 rfl rfl rfl ?_
 refine kZ 5 18 2 rfl rfl rfl ?_
 refine aH aa 2 rfl ?_
 refine aA (cM rfl rfl rfl rfl rfl Try.underlying53) rfl ?_
 refine ad aa 1 rfl ?_
 refine af ?_
 refine aX ?_
 refine cw (β:=Nat×List bE) (fun (p:Nat×List bE)=>match p with|(q,m)=>⟨[(1,(aC (uq l))),(2,(aC (.p 0 0 0 0))),(4,(aC (.p 1 0 0 0))),(5,(aC cN)),(6,(aC (.p 2 0 0 0))),(8,(aC (.p 5 0 0 0))),(29,(aC (cR 3 ((s.dh).map iK)))),(30,(aI (↑s.dh.length:Int))),(31,(aI (↑q:Int)))],[(9,(qZ ([]:List (List Int)))),(8,(cS ([]:List aj))),(7,(ed ([]:List bF))),(6,(dW m)),(5,(.box 98 [(cI 0),(cB false),(.s 6 0 6 m.length),cN,(.s 7 0 8 0),(cI 0),(dn ([]:List aT)),(cI 0),(dn ([]:List aT)),(cI 0),(cI 0),(eD ([]:List cf)),(eD ([]:List cf)),(cI 0),(fB ([]:List Int)),(iz ([]:List cm)),(.s 8 0 4 0),(.s 9 0 1 0),(eb ([]:List Entry)),(.m 4)])),(4,(.map (tV ([]:List (Int×Answer))) 0)),(2,(.box 50 [(cI 0),(cI 0)])),(1,(.box 46 [(cI 0),(cB false),cN,cN,cN,(cI 0),cN,(cI 0),cN,(cI 0),(cI 0),cN,cN,(cI 0),cN,cN,cN,cN,cN])),(0,(.box 55 [(cR 3 ((s.dh).map iK)),(cI s.ja),(cI s.cap)]))],10⟩) (fun (p:Nat×List bE)=>match p with|(q,m)=>q<=s.dh.length/\m=(s.dh.take q).map qq/\m.length=q) (fun (p:Nat×List bE)=>match p with|(q,m)=>s.dh.length - q) (0,([]:List bE)) ?_ ?_ ?_
 ·exact ⟨by omega,rfl,rfl⟩
 ·exact aF.bW id (by refine ⟨?_,?_,?_,?_,?_,?_,?_,?_,?_,trivial⟩<;>first|rfl|(simp only [bm];done)|(congr 3;omega)|(congr 4;omega)|(simp only [bn];rfl)) (by refine ⟨?_,?_,?_,?_,?_,?_,?_,?_,?_,trivial⟩<;>first|rfl|(simp only [bm];done)|(congr 3;omega)|(congr 4;omega)|(simp only [bn];rfl)) rfl
 rintro ⟨q,m⟩ ⟨hi0_0,hi0_1,hi0_2⟩
 refine ae aa 1 rfl ?_
 refine ag ?_
 refine ah rfl (fun hc3=>?_) (fun hc3=>?_)
 ·
  have hc3':=of_decide_eq_true hc3
  refine aQ ?_
  refine ag ?_
  refine aX ?_
  refine eB ?_
  obtain ⟨x1,hx1⟩:=ck (xs:=s.dh) (i:=q) (by first|omega|(simp;done)|(simp;omega))
  refine aA (cH (i:=q) rfl rfl rfl Try.underlying53 FJ (by first|omega|(simp;done)|(simp;omega)) (bw hx1)) rfl ?_
  refine ad aa 3 rfl ?_
  refine af ?_
  refine ba [1,2,4,5,6,8,29,30,31,10] [10,9,8,7,6,5,4,2,1,0] mixed rfl rfl ?_
  refine aE (kn:=[]) aa 7 rfl trivial ?_
  refine aU (n':=11) [41] [] rfl rfl (.inl ⟨(ak.plain rfl),aM.cast (aM.IE (cs':=[(cI 0),(cI 0),(cI x1.cU),(cI x1.count),(cI x1.sum),(fI ([]:List db))]) 5 2 (yT (ys:=[(2,(.g [(cI x1.cU),(cI x1.count),(cI x1.sum)]))]) rfl Ii rfl ⟨⟨rfl,rfl⟩,trivial⟩ rfl rfl) rfl rfl) rfl⟩) rfl ?_
  refine aU (n':=12) [42] [] rfl rfl (.inl ⟨(ak.plain rfl),aM.cast (dy (ys:=[(0,(.g [(cI 0),(cI 0),(cI x1.cU),(cI x1.count),(cI x1.sum),(fI ([]:List db))]))]) (rows:=([(⟨0,0,x1,([]:List db)⟩:bE)]).map qi) 11 zr rfl (by decide) ⟨⟨rfl,rfl⟩,trivial⟩ rfl rfl rfl rfl) rfl⟩) rfl ?_
  refine aU (n':=13) [40,43] [11,6] rfl rfl (.inl ⟨(ak.plain rfl),aM.cast (cX (m:=1) (N:=m.length+1) (k2:=12) (ys:=([(⟨0,0,x1,([]:List db)⟩:bE)]).map qi) zr rfl rfl rfl rfl rfl rfl (by first|omega|(simp;done)|(simp;omega)) rfl (.s rfl (by first|omega|(simp;done)|(simp;omega))) (by first|omega|(simp;done)|(simp;omega)) (by first|omega|(simp;done)|(simp;omega)) eH (by decide) (by first|omega|(simp;done)|(simp;omega)) (by first|omega|(simp;done)|(simp;omega))) rfl⟩) rfl ?_
  refine aE (kn:=[]) aa 3 rfl trivial ?_
  refine bC [12,10,9,8,7,5,4,2,1,0] rfl rfl rfl rfl (by kernel_rfl) ?_
  refine ad aa 1 rfl ?_
  refine bY ?_
  refine bh ?_
  refine then_ok ?_
  refine au ?_
  refine aA (aL rfl rfl rfl (aJ (by first|omega|(simp;done)|(simp;omega)))) rfl ?_
  refine ad aa 1 rfl ?_
  refine af ?_
  refine ⟨(q+1,m++([(⟨0,0,x1,([]:List db)⟩:bE)])),⟨by omega,by rw [ia hx1,List.map_append,<-hi0_1];rfl,by rw [List.length_append,hi0_2];rfl⟩,by first|omega|(simp;done)|(simp;omega),aF.bW (fun k=>if k=6 then 12 else k) (by refine ⟨?_,?_,?_,?_,?_,?_,?_,?_,?_,trivial⟩<;>first|rfl|(simp only [bm];done)|(congr 3;omega)|(congr 4;omega)|(simp only [bn];rfl)) (by refine ⟨?_,?_,?_,?_,?_,?_,?_,?_,?_,trivial⟩<;>first|rfl|(simp only [bm];done)|(congr 3;omega)|(congr 4;omega)|(simp only [bn];rfl)) rfl⟩
 have hc3':=of_decide_eq_false hc3
 refine cj ?_
 refine aP ?_
 refine aP ?_
 refine bK ?_
 refine then_ok ?_
 refine aH aa 3 rfl ?_
 refine aN 11 [10,9,8,7,6,5,4,2,1,0] (qm 10 nh Ep rfl rfl rfl (n:=Int.toNat (s.ja)) (by first|omega|(simp;done)|(simp;omega)) (by first|omega|(simp;done)|(simp;omega)) (by first|omega|(simp;done)|(simp;omega)) (by first|omega|(simp;done)|(simp;omega))) rfl ?_
 refine ad aa 4 rfl ?_
 refine af ?_
 refine aH aa 5 rfl ?_
 refine aA (cM rfl rfl rfl rfl rfl Try.underlying53) rfl ?_
 have hr1:dH s.cap (↑s.dh.length:Int)=((dH s.cap (↑s.dh.length:Int)).1,(dH s.cap (↑s.dh.length:Int)).2):=rfl
 refine aN 11 [10,9,8,7,6,5,4,2,1,0] (bQ 11 (Fn.frozen (av':=(.t [(.g [(cI (((dH s.cap (↑s.dh.length:Int)).1).cap)),(fB (((dH s.cap (↑s.dh.length:Int)).1).used)),(iz (((dH s.cap (↑s.dh.length:Int)).1).bg))]),(.c (cI ((dH s.cap (↑s.dh.length:Int)).2)))])) (yf s.cap (↑s.dh.length:Int) ((dH s.cap (↑s.dh.length:Int)).1) ((dH s.cap (↑s.dh.length:Int)).2) hr1) ⟨⟨.inl ⟨_,rfl,rfl⟩,.inr ⟨_,_,_,_,_,rfl,rfl,rfl,by simp⟩,.inr ⟨_,_,_,_,_,rfl,rfl,rfl,by simp⟩,trivial⟩,.inl ⟨_,rfl,rfl⟩,trivial⟩) Jn rfl rfl ⟨⟨_,rfl,.c (.d _)⟩,⟨_,rfl,.c (.d _)⟩,trivial⟩ ⟨⟨trivial,trivial,trivial,trivial⟩,trivial,trivial⟩ trivial rfl rfl rfl rfl) rfl ?_
 refine ad aa 7 rfl ?_
 refine af ?_
 refine ae aa 1 rfl ?_
 refine ag ?_
 refine aH aa 1 rfl ?_
 refine aA (cM rfl rfl rfl rfl rfl Try.underlying24) rfl ?_
 refine ad aa 1 rfl ?_
 refine af ?_
 refine aX ?_
 refine iF (aF.nil 11 65 2 (by decide) rfl) ?_
 have htk:m=s.dh.map qq:=by rw [hi0_1,List.take_of_length_le (by omega)]
 subst htk
 refine cw (β:=Nat×Bk×List (List Int)×List (Int×Answer)×Nat×List Answer) (fun (p:Nat×Bk×List (List Int)×List (Int×Answer)×Nat×List Answer)=>match p with|(u,b,days,told,cl,out)=>⟨[(1,(aC (uq l))),(2,(aC (.p 0 0 0 0))),(4,(aC (.p 1 0 0 0))),(5,(aC cN)),(6,(aC (.p 2 0 0 0))),(8,(aC (.p 5 0 0 0))),(29,(aC (cR 3 ((s.dh).map iK)))),(30,(aI (↑s.dh.length:Int))),(31,(aI (↑q:Int))),(11,(aC (.s 11 0 2 out.length))),(70,(aI (↑l.length:Int))),(71,(aI (↑u:Int)))],[(11,(Hm out)),(10,(dP b.due)),(9,(qZ days)),(8,(cS b.aR)),(7,(ed b.ax)),(6,(dW b.aw)),(5,(.box 98 (aY b 6 10 7 8 (.s 9 0 1 days.length) (.m 4)))),(4,(.map (tV told) cl)),(2,(.box 50 [(cI 0),(cI 0)])),(1,(.box 46 [(cI 0),(cB false),cN,cN,cN,(cI 0),cN,(cI 0),cN,(cI 0),(cI 0),cN,cN,(cI 0),cN,cN,cN,cN,cN])),(0,(.box 55 [(cR 3 ((s.dh).map iK)),(cI s.ja),(cI s.cap)]))],12⟩) (fun (p:Nat×Bk×List (List Int)×List (Int×Answer)×Nat×List Answer)=>match p with|(u,b,days,told,cl,out)=>u<=l.length/\ld l (iR s) [] [] 0 []=ld (l.drop u) b days told cl out/\cv b/\days.length<=u/\out.length=u) (fun (p:Nat×Bk×List (List Int)×List (Int×Answer)×Nat×List Answer)=>match p with|(u,b,days,told,cl,out)=>l.length - u) (0,iR s,([]:List (List Int)),([]:List (Int×Answer)),0,([]:List Answer)) ?_ ?_ ?_
 ·exact ⟨by omega,rfl,cv.start (by rw [hr0];omega),by simp,rfl⟩
 ·exact aF.bW id (by refine ⟨?_,?_,?_,?_,?_,?_,?_,?_,?_,?_,?_,?_,trivial⟩<;>first|rfl|(simp only [bm];done)|(congr 3;omega)|(congr 4;omega)|(simp only [bn];rfl)) (by refine ⟨?_,?_,?_,?_,?_,?_,?_,?_,?_,?_,?_,trivial⟩<;>first|rfl|(simp only [bm];done)|(congr 3;omega)|(congr 4;omega)|(simp only [bn];rfl)|(simp only [aY,iR,List.length_replicate];rfl)) rfl
 rintro ⟨u,b,days,told,cl,out⟩ ⟨hi1_0,hi1_1,hi1_2,hi1_3,hi1_4⟩
 refine ae aa 1 rfl ?_
 refine ag ?_
 refine ah rfl (fun hc4=>?_) (fun hc4=>?_)
 ·
  have hc4':=of_decide_eq_true hc4
  refine aQ ?_
  refine ag ?_
  refine aX ?_
  refine ae aa 2 rfl ?_
  refine au ?_
  refine ad aa 4 rfl ?_
  obtain ⟨x1,hx1⟩:=ck (xs:=l) (i:=u) (by first|omega|(simp;done)|(simp;omega))
  refine aA (cH (i:=u) rfl rfl rfl Try.underlying24 Ix (by first|omega|(simp;done)|(simp;omega)) (bw hx1)) rfl ?_
  obtain ⟨b22,y22,t22,c22,a22,hr2⟩:∃ (b22:Bk) (y22:List (List Int)) (t22:List (Int×Answer)) (c22:Nat) (a22:Answer),fZ b days told cl x1=(b22,y22,t22,c22,a22):=⟨_,_,_,_,_,rfl⟩
  refine aN 18 [5,12,13,14,15,16,17,11,2,1,0] (cr (bd [5,6,10,7,8,9,4]) (bd [5,12,13,14,15,16,17]) (ms:=(jC b 1 2 3 4 (some (.s 5 0 1 days.length)) (some (.m 6)))) (ms':=(jC b22 1 2 3 4 (some (.s 5 0 1 y22.length)) (some (.m 6)))) (fun x hx=>He x hx b days told cl x1 (by first|assumption|exact cv.tick (by assumption) (by omega) (by omega)) (by first|omega|(simp;done)|(simp;omega)) b22 y22 t22 c22 a22 hr2) Jm rfl rfl ⟨⟨_,rfl,.inl ⟨rfl,rfl⟩⟩,⟨_,rfl,.inl ⟨rfl,rfl⟩⟩,trivial⟩ rfl rfl rfl rfl rfl rfl rfl ⟨rfl,rfl,rfl,rfl,rfl,rfl,trivial⟩ rfl rfl rfl rfl rfl rfl rfl rfl rfl rfl rfl rfl rfl) rfl ?_
  refine aN 19 [18,5,12,13,14,15,16,17,11,2,1,0] (dy (ys:=[(0,(.g [(cI a22.err),(cI a22.bc)]))]) (rows:=([a22]).map mb) 18 FM rfl (by decide) ⟨⟨rfl,rfl⟩,trivial⟩ rfl rfl rfl rfl) rfl ?_
  refine aN 20 [19,18,5,12,13,14,15,16,17,2,1,0] (cX (m:=1) (N:=out.length+1) (k2:=19) (ys:=([a22]).map mb) FM rfl rfl rfl rfl rfl rfl (by first|omega|(simp;done)|(simp;omega)) rfl (.s rfl (by first|omega|(simp;done)|(simp;omega))) (by first|omega|(simp;done)|(simp;omega)) (by first|omega|(simp;done)|(simp;omega)) eH (by decide) (by first|omega|(simp;done)|(simp;omega)) (by first|omega|(simp;done)|(simp;omega))) rfl ?_
  refine ad aa 1 rfl ?_
  refine bY ?_
  refine bh ?_
  refine then_ok ?_
  refine au ?_
  refine aA (aL rfl rfl rfl (aJ (by first|omega|(simp;done)|(simp;omega)))) rfl ?_
  refine ad aa 1 rfl ?_
  refine af ?_
  refine ⟨(u+1,b22,y22,t22,c22,out++([a22])),⟨by omega,by rw [hi1_1,zB hx1,hr2],(by have h:=cv.once hi1_2 days told cl x1;rw [hr2] at h;exact h.1),(by have h:=(cv.once hi1_2 days told cl x1).2;rw [hr2] at h;dsimp only at h;omega),by rw [List.length_append,hi1_4];rfl⟩,by first|omega|(simp;done)|(simp;omega),aF.bW (fun k=>if k=11 then 19 else if k=4 then 17 else if k=9 then 16 else if k=8 then 15 else if k=7 then 14 else if k=10 then 13 else if k=6 then 12 else k) (by refine ⟨?_,?_,?_,?_,?_,?_,?_,?_,?_,?_,?_,?_,trivial⟩<;>first|rfl|(simp only [bm];done)|(congr 3;omega)|(congr 4;omega)|(simp only [bn];rfl)) (by refine ⟨?_,?_,?_,?_,?_,?_,?_,?_,?_,?_,?_,trivial⟩<;>first|rfl|(simp only [bm];done)|(congr 3;omega)|(congr 4;omega)|(simp only [bn];rfl)) rfl⟩
 have hc4':=of_decide_eq_false hc4
 refine cj ?_
 refine aP ?_
 refine aP ?_
 refine bK ?_
 refine then_ok ?_
 refine ae aa 9 rfl ?_
 refine az ?_
 have hX:iL s l=(b,days,out,(⟨0,0⟩:dc)):=by
   unfold iL;rw [hr0,if_neg (by omega),if_neg (by omega),hi1_1,List.drop_of_length_le (by omega)];rfl
 rw [hX] at hr;clear hX
 simp only [Prod.mk.injEq] at hr;obtain ⟨rfl,rfl,rfl,rfl⟩:=hr
 refine an aa [6,10,7,8,9,11,1,2] 6 rfl rfl rfl rfl rfl rfl ?_ ?_
 all_goals first|rfl|(simp [ay,aY,bf];done)|(simp [ay,aY,bf];omega)


def IA (limit:Int):Setup:=⟨[⟨1000,30,1000000000000⟩,⟨1000,30,1000000000000⟩],2,limit⟩
def dd (n:Int) (k:Nat):List aW:=List.replicate k ⟨0,6,n,0,0,0⟩
def sm (j:Nat):List aW:=if j=0 then dd 0 5++dd 1 5 else if j=1 then dd 1 5 else []
def vK:List aW:=[⟨0,5,0,0,0,0⟩,⟨0,5,1,0,0,0⟩]++sm 0
def sW (n:Nat):List aW:=(List.replicate n vK).flatten
def jP (l:List aW):List aW:=l++sW 2
theorem Cj {n:Int} {k:Nat} (h:k < 5):dd n (5 - k)=[⟨0,6,n,0,0,0⟩]++dd n (5 - (k+1)):=by
  have:5 - k=(5 - (k+1))+1:=by omega
  rw [this];rfl
theorem zu {j:Nat} (h:j < 2):sm j=dd (↑j) 5++sm (j+1):=by
  rcases j with _|_|j
  ·rfl
  ·rfl
  ·omega
theorem Af {i:Nat} (h:i < 2):sW (2 - i)=vK++sW (2 - (i+1)):=by
  have:2 - i=(2 - (i+1))+1:=by omega
  rw [this];rfl
def nv (l:List Int):Bool:=decide (∀ n∈l,1<=n/\n<=100000)

theorem xn (limit:Int):Fn Try.prog 23 [(.c (cI limit))] (.v (.g [(.s 0 0 3 2),(cI 2),(cI limit)])) [(0,.arr 58 3 ((IA limit).dh.map iK))]:=by
 refine Fn.mk' 10 [(0,(aI limit))] Try.func23 rfl rfl rfl rfl ?_
 intro W0 T0
 refine ae aa 1 rfl ?_
 refine ae aa 3 rfl ?_
 refine aH aa 2 rfl ?_
 refine aN 3 [2,1,0] (dy (ys:=[(0,(.g [(cI 1000),(cI 30),(cI 1000000000000)])),(1,(.g [(cI 1000),(cI 30),(cI 1000000000000)]))]) (rows:=([(⟨1000,30,1000000000000⟩:dw),(⟨1000,30,1000000000000⟩:dw)]).map iK) 2 Iy rfl (by decide) ⟨⟨rfl,rfl⟩,⟨rfl,rfl⟩,trivial⟩ rfl rfl rfl rfl) rfl ?_
 refine ad aa 3 rfl ?_
 refine af ?_
 refine az ?_
 refine an aa [2,0] 1 rfl rfl rfl rfl rfl rfl ?_ ?_
 all_goals first|rfl|(simp [ay,aY,bf];done)|(simp [ay,aY,bf];omega)
theorem lY (k n s:Int):Fn Try.prog 20 [(.c (cI k)),(.c (cI n)),(.c (cI s))] (.v (.g [(cI 0),(cI k),(cI n),(cI 0),(cI 0),(cI s)])) []:=by
 refine Fn.mk' 11 [(0,(aI k)),(1,(aI n)),(2,(aI s))] Try.func20 rfl rfl rfl rfl ?_
 intro W0 T0
 refine ae aa 1 rfl ?_
 refine ae aa 5 rfl ?_
 refine az ?_
 refine an aa [0] 0 rfl rfl rfl rfl rfl rfl ?_ ?_
 all_goals first|rfl|(simp [ay,aY,bf];done)|(simp [ay,aY,bf];omega)
theorem ud (k n s:Int):Fn Try.prog 21 [(.c (cI k)),(.c (cI n)),(.c (cI s))] (.v (.g [(cI 0),(cI 3),(cI n),(cI 0),(cI k),(cI s)])) []:=by
 refine Fn.mk' 11 [(0,(aI k)),(1,(aI n)),(2,(aI s))] Try.func21 rfl rfl rfl rfl ?_
 intro W0 T0
 refine ae aa 1 rfl ?_
 refine ae aa 5 rfl ?_
 refine az ?_
 refine an aa [0] 0 rfl rfl rfl rfl rfl rfl ?_ ?_
 all_goals first|rfl|(simp [ay,aY,bf];done)|(simp [ay,aY,bf];omega)
end Go.Proofs.Ytegepioggeggaaa.Dev
