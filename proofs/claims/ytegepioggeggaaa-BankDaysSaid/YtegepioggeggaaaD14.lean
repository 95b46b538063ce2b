/- A part of the proof: PlOk, BankUp, Bank12, Bank13, Play0, Play1, Law8. No condition. -/
import Derived.Test.YtegepioggeggaaaD13
import Derived.Test.YtegepioggeggaaaD12
set_option linter.unusedVariables false
set_option linter.unusedSimpArgs false
set_option maxHeartbeats 8000000
set_option maxRecDepth 100000
namespace Go.Proofs.Ytegepioggeggaaa.Dev
open Go.RowKit
theorem gC {α:Type} {l:List α} {n:Nat} {x y:α} (h:y∈l.set n x):y∈l\/y=x:=List.mem_or_eq_of_mem_set h
theorem jW {l:List bI} {e k x y:Int} (h:∀ c∈l,cX c=0):∀ c∈(cH l e k x y).1,cX c=0:=by
 unfold cH
 split
 ·exact h
 ·rename_i c hc
  split
  ·rename_i h0
   intro z hz
   rcases gC hz with hz|rfl
   ·exact h z hz
   ·have he:(en c x y).2=0:=by unfold dK at h0;split at h0<;>omega
    rcases qM (show en c x y=((en c x y).1,(en c x y).2) from rfl) with ⟨h1,_⟩|h1
    ·exact absurd he h1
    ·exact h1.2.2.2.2.2.2.2
  ·exact h
theorem vO {time:Int} {n m:Nat}:∀ (l:List bC) (i:Nat) (ay:List bI) (au:List bC) (e:Int),(∀ a∈l,bL a=0/\0<=a.aO/\a.aO < n/\0<=a.aE/\a.aE < m)->
  (∀ a∈au,bL a=0/\0<=a.aO/\a.aO < n/\0<=a.aE/\a.aE < m)->(∀ c∈ay,cX c=0)->
  (∀ c∈(fG time l i ay au e).1,cX c=0)/\(fG time l i ay au e).1.length=ay.length/\(fG time l i ay au e).2.1.length=au.length/\
  (∀ a∈(fG time l i ay au e).2.1,bL a=0/\0<=a.aO/\a.aO < n/\0<=a.aE/\a.aE < m)
 |[],_,_,_,_,_,h2,h3=>⟨h3,rfl,rfl,h2⟩
 |a::l,i,ay,au,e,h1,h2,h3=>by
  have ha:=h1 a List.mem_cons_self
  obtain ⟨r1,r2,r3,r4⟩:=vO l (i+1) (cH ay e a.aO (bQ (eh a time) - bQ a) 0).1 (au.set i (eh a time)) (cH ay e a.aO (bQ (eh a time) - bQ a) 0).2
   (fun x hx=>h1 x (List.mem_cons_of_mem _ hx)) (fun x hx=>by
    rcases gC hx with hx|rfl
    ·exact h2 x hx
    ·exact ⟨ya ha.1,ha.2⟩) (jW h3)
  refine ⟨r1,r2.trans (fv _ _ _ _ _),r3.trans (List.length_set ..),r4⟩
theorem cu.late {b:Bk} (h:cu b):cu (gD b):=by
 unfold gD
 split
 ·obtain ⟨r1,r2,r3,r4⟩:=vO (time:=b.time) (n:=b.ay.length) (m:=b.due.length) b.au 0 b.ay b.au 0 h.perm h.perm h.right
  exact ⟨h.time,by rw [r2];exact h.ay,h.due,by rw [r3];exact h.au,h.aP,h.w0,h.w1,by dsimp only;rw [r2];exact r4,by dsimp only;rw [r2];exact h.jR,by dsimp only;rw [r3];exact h.k0,by dsimp only;rw [r3];exact h.k1,r1,h.l0,h.l1,by dsimp only;rw [r3];exact h.p0,by dsimp only;rw [r3];exact h.p1,h.n0,h.n1,h.calm⟩
 ·exact h
theorem cu.dd {b c:Bk} {e:Int} (h:cu b) (hc:e=0->cu c):cu (dd b c e).1:=by
 unfold Dev.dd;split
 ·exact hc (by assumption)
 ·exact h
theorem gb {e x:Int} (h:dK e x=0):e=0/\x=0:=by unfold dK at h;split at h<;>omega
theorem kd {l:List Entry} {e s d n:Int} (h:(ed l e s d n).2=0):e=0/\(ke l s d n).2=0/\(ed l e s d n).1=(ke l s d n).1:=by
 unfold ed at h ⊢
 split at h
 ·rename_i h1;rw [if_pos h1];have:=gb h1;exact ⟨this.1,this.2,rfl⟩
 ·rename_i h1;exact absurd h h1
theorem cu.Bg {b:Bk} (h:cu b) {cs:List bI} {bk:List Entry} (h1:∀ c∈cs,cX c=0) (h2:cs.length=b.ay.length):cu {b with ay:=cs,book:=bk}:=
 ⟨h.time,by rw [h2];exact h.ay,h.due,h.au,h.aP,h.w0,h.w1,by dsimp only;rw [h2];exact h.perm,by dsimp only;rw [h2];exact h.jR,h.k0,h.k1,h1,h.l0,h.l1,h.p0,h.p1,h.n0,h.n1,h.calm⟩
theorem cu.load {b:Bk} (h:cu b) (d:bx):cu (fc b d).1:=by
 unfold fc
 split
 ·exact h
 split
 ·exact h
 ·exact h.dd fun _=>h.Bg (jW h.right) (fv _ _ _ _ _)
theorem cu.Eu {b:Bk} (h:cu b) {due:List Int} {bk:List Entry} (h2:due.length=b.due.length):cu {b with due:=due,book:=bk}:=
 ⟨h.time,h.ay,by rw [h2];exact h.due,h.au,h.aP,h.w0,h.w1,by dsimp only;rw [h2];exact h.perm,by dsimp only;rw [h2];exact h.jR,h.k0,h.k1,h.right,h.l0,h.l1,h.p0,h.p1,h.n0,h.n1,h.calm⟩
theorem cu.vG {b:Bk} (h:cu b) (d:bx):cu (fT b d).1:=by
 unfold fT
 split
 ·exact h
 split
 ·exact h
 ·exact h.dd fun _=>h.Eu (List.length_set ..)
theorem cu.cQ {b:Bk} (h:cu b) (d:bx):cu (eF b d).1:=by
 unfold eF
 split
 ·exact h
 ·have h1:cu {b with time:=b.time+d.sum}:=by have:=h.time;exact h.tick (by omega) (by omega)
  dsimp only
  split
  ·exact h1
  ·exact h1.late
theorem tT {l:List cp} {ks:List bo} {n:Int} {p:cp} (h:p∈mr l ks n):p∈l\/(∃ t∈ks,p=⟨t,-1⟩)\/p=⟨⟨0,0,0,0⟩,n⟩:=by
 unfold mr at h
 simp only [List.mem_append,List.mem_map,List.mem_singleton] at h
 rcases h with (h|⟨t,ht,rfl⟩)|h
 ·exact .inl h
 ·exact .inr (.inl ⟨t,ht,rfl⟩)
 ·exact .inr (.inr h)
structure yp (b:Bk) (n:Nat) (w:List cp):Prop where
 len:w.length<=60
 own:∀ p∈w,p.seen < 0->fj p.cA.number/\0<=p.cA.ba/\p.cA.ba < n
theorem cu.ways {b:Bk} (h:cu b) {v0 v1:List cp} (h0:yp b b.au.length v0) (h1:yp b b.au.length v1):cu {b with w0:=v0,w1:=v1}:=
 ⟨h.time,h.ay,h.due,h.au,h.aP,h0.len,h1.len,h.perm,h.jR,h.k0,h.k1,h.right,h.l0,h.l1,h0.own,h1.own,h.n0,h.n1,h.calm⟩
theorem vt {b:Bk} {w:List cp} {ks:List bo} {n:Int} (hn:0<=n) (h:yp b b.au.length w) (hk:∀ t∈ks,fj t.number/\0<=t.ba/\t.ba < b.au.length):yp b b.au.length (jz w ks n).1:=by
 unfold jz
 split
 ·exact h
 ·refine ⟨by dsimp only;omega,fun p hp hs=>?_⟩
  rcases tT hp with hp|⟨t,ht,rfl⟩|rfl
  ·exact h.own p hp hs
  ·exact hk t ht
  ·simp at hs;omega
theorem cu.send {b:Bk} (h:cu b) (d:bx):cu {b with w0:=(ei b.s0 b.s1 b.n0 b.n1 b.w0 b.w1 d).1,w1:=(ei b.s0 b.s1 b.n0 b.n1 b.w0 b.w1 d).2.1}:=by
 have h0:yp b b.au.length b.w0:=⟨h.w0,h.p0⟩
 have h1:yp b b.au.length b.w1:=⟨h.w1,h.p1⟩
 unfold ei
 split
 ·exact h.ways h0 (vt h.n0 h1 h.k0)
 split
 ·exact h.ways (vt h.n1 h0 h.k1) h1
 ·exact h.ways h0 h1
theorem vu {s:bY} {e:Int} {t:bo} {n:Nat} (h:∀ t∈s.kept,fj t.number/\0<=t.ba/\t.ba < n) (hl:s.kept.length<=40) (ht:0<=t.ba/\t.ba < n):
  (∀ u∈(eQ s e t).1.kept,fj u.number/\0<=u.ba/\u.ba < n)/\(eQ s e t).1.kept.length<=40:=by
 unfold eQ
 split
 ·rename_i h0
  have he:=(gb h0).2
  unfold gP at he
  split at he
  ·rename_i h1;exact absurd he h1
  split at he
  ·rename_i h1;exact absurd he h1
  ·rename_i h1 h2
   have hp:(gP s t).1=lV s t:=by unfold gP;rw [if_neg h1,if_neg h2]
   have hw:(cP (lV s t)).err=0:=by omega
   have hr:=vz hw
   dsimp only
   rw [hp]
   refine ⟨fun x hx=>?_,hr.1⟩
   rcases List.mem_append.1 hx with hx|hx
   ·exact h x hx
   ·obtain rfl:=List.mem_singleton.1 hx
    exact ⟨by have:=hr.2.1;have:=hr.2.2.1;constructor<;>simp only [lV,List.length_append] at *<;>omega,ht⟩
 ·exact ⟨h,hl⟩
theorem Ao {l:List ah} {e:Int} {r:ah} (h:l.length<=100):(jh l e r).1.length<=100:=by
 unfold jh
 split
 ·exact h
 ·rw [List.length_append,List.length_singleton];omega
theorem rW {l:List ah} {e:Int} {r:ah} (h:(jh l e r).2=0):e=0/\l.length≠100/\(jh l e r).1=l++[r]:=by
 unfold jh at h ⊢
 split at h
 ·have:=(gb h).2;omega
 ·rename_i h1;rw [if_neg h1];exact ⟨h,h1,rfl⟩
structure oc (n:Nat) (s:bY):Prop where
 own:∀ t∈s.kept,fj t.number/\0<=t.ba/\t.ba < n
 len:s.kept.length<=40
theorem cu.ud {b:Bk} (h:cu b):oc b.au.length b.s0:=⟨h.k0,h.l0⟩
theorem cu.oP {b:Bk} (h:cu b):oc b.au.length b.s1:=⟨h.k1,h.l1⟩
theorem oc.send {n:Nat} {s:bY} {e:Int} {t:bo} (h:oc n s) (ht:0<=t.ba/\t.ba < n):oc n (eQ s e t).1:=⟨(vu h.own h.len ht).1,(vu h.own h.len ht).2⟩
theorem CW {b:Bk} (h:cu b) (a cz:bC) (d:bx) (hn:0<=d.n/\d.n < b.au.length):
  (∀ c∈(ec b a cz d).1,cX c=0)/\(ec b a cz d).1.length=b.ay.length/\(ec b a cz d).2.1.length=b.due.length/\
  oc b.au.length (ec b a cz d).2.2.2.1/\oc b.au.length (ec b a cz d).2.2.2.2.1:=by
 unfold ec
 have hc:∀ e k x y,(∀ c∈(cH b.ay e k x y).1,cX c=0)/\(cH b.ay e k x y).1.length=b.ay.length:=fun e k x y=>⟨jW h.right,fv _ _ _ _ _⟩
 split
 ·exact ⟨(hc ..).1,(hc ..).2,rfl,h.ud,h.oP⟩
 split
 ·exact ⟨(hc ..).1,(hc ..).2,rfl,h.ud.send hn,h.oP⟩
 split
 ·exact ⟨h.right,rfl,List.length_set ..,h.ud,h.oP.send hn⟩
 split
 ·exact ⟨(hc ..).1,(hc ..).2,rfl,h.ud,h.oP⟩
 split
 ·exact ⟨h.right,rfl,rfl,h.ud.send hn,h.oP⟩
 split
 ·exact ⟨(hc ..).1,(hc ..).2,rfl,h.ud,h.oP⟩
 ·exact ⟨h.right,rfl,rfl,h.ud,h.oP⟩
theorem cu.mb {b:Bk} (h:cu b) (d:bx):cu (dh b d).1:=by
 unfold dh
 split
 ·exact h
 split
 ·exact h
 rename_i hd hn
 have hn:0<=d.n/\d.n < b.au.length:=by omega
 split
 ·exact h
 rename_i cz ho
 split
 ·exact h
 rename_i hm
 split
 ·exact h
 have hm:ck cz d.move d.sum=((ck cz d.move d.sum).1,0):=Prod.ext rfl (by dsimp only;omega)
 obtain ⟨m1,m2,m3,m4,_⟩:=kQ hm
 obtain ⟨r1,r2,r3,r4,r5⟩:=CW h (ck cz d.move d.sum).1 cz d hn
 have hp:=h.perm cz (List.mem_of_getElem? ho)
 unfold nK
 refine h.dd fun _=>⟨h.time,by rw [r2];exact h.ay,by rw [r3];exact h.due,by rw [List.length_set];exact h.au,Ao h.aP,h.w0,h.w1,fun a ha=>?_,by dsimp only;rw [r2,r3];exact h.jR,by dsimp only;rw [List.length_set];exact r4.own,by dsimp only;rw [List.length_set];exact r5.own,r1,r4.len,r5.len,by dsimp only;rw [List.length_set];exact h.p0,by dsimp only;rw [List.length_set];exact h.p1,h.n0,h.n1,h.calm⟩
 dsimp only
 rw [r2,r3]
 rcases gC ha with ha|rfl
 ·exact h.perm a ha
 ·exact ⟨m2,by rw [m3,m4];exact hp.2⟩
theorem oL {aO aE n time:Int} (h:(dr aO aE n time).2=0):bL (dr aO aE n time).1=0/\(dr aO aE n time).1=⟨aO,aE,n,0,0,0,time+100,false⟩/\¬(n < 1\/n > 1000000\/time < 0\/time > 1000000\/aO < 0\/aO > 7\/aE < 0\/aE > 7):=by
 unfold dr at h ⊢
 split at h
 ·cases h
 ·rename_i h1;rw [if_neg h1];exact ⟨rP (by dsimp only;omega),rfl,h1⟩
theorem Cv {s:cC} {a:ch} (h:(ct s a).2=0):(ct s a).1.bd=s.bd++[a]:=by
 unfold ct at h ⊢
 split at h
 ·rename_i h1;exact absurd h h1
 split at h
 ·cases h
 split at h
 ·cases h
 split at h
 ·cases h
 ·rename_i h1 h2 h3 h4;rw [if_neg h1,if_neg h2,if_neg h3,if_neg h4]
theorem sl {e:Int} (h:hP e=0):e=0:=by unfold hP at h;split at h<;>omega
theorem cu.asks {b:Bk} (h:cu b) (d:bx):cu (dy b d).1:=by
 unfold dy
 split
 ·exact h
 rename_i hn
 have hlen:∀ a∈b.bG.bd++[(⟨d.n,d.aE,d.sum,b.time⟩:ch)],0<=a.aO/\a.aO < b.ay.length/\0<=a.aE/\a.aE < b.due.length:=fun a ha=>by
  rcases List.mem_append.1 ha with ha|ha
  ·exact h.jR a ha
  ·obtain rfl:=List.mem_singleton.1 ha;dsimp only;omega
 split
 ·split
  ·exact h
  split
  ·exact h
  rename_i h1 h2
  have he:=sl (show hP (ct b.bG ⟨d.n,d.aE,d.sum,b.time⟩).2=0 by omega)
  have hg:=Cv he
  exact ⟨h.time,h.ay,h.due,by dsimp only;omega,h.aP,h.w0,h.w1,h.perm,by dsimp only;rw [hg];exact hlen,h.k0,h.k1,h.right,h.l0,h.l1,h.p0,h.p1,h.n0,h.n1,fun hf=>by dsimp only at hf;simp_all⟩
 split
 ·exact h
 split
 ·exact h
 split
 ·exact h
 rename_i h1 h2 h3 c hc
 split
 ·exact h
 rename_i h4
 obtain ⟨w1,w2,w3⟩:=oL (show (dr d.n d.aE d.sum b.time).2=0 by omega)
 have hcr:cX (dZ c d.sum b.time).1=0:=by
  rcases rn (show dZ c d.sum b.time=((dZ c d.sum b.time).1,(dZ c d.sum b.time).2) from rfl) with ⟨h5,_⟩|⟨h5,h6,h7,h8,h9,h10,h11,l,h12,h13⟩
  ·exact absurd h5 (by omega)
  ·rw [h13];have hr:=jv h6;exact pC (by dsimp only;omega) hr.2.2.2.2.1 (Bw h12)
 have hq:=h.calm (by cases hd:b.down with|true=>exact absurd hd (by assumption)|false=>rfl)
 have hl:b.au.length+1<=30:=by have:=h.au;rw [hq] at this;simp only [List.length_nil] at this;omega
 have hk:∀ {n:Int},n < (b.au.length:Int)->n < ((b.au++[(dr d.n d.aE d.sum b.time).1]).length:Int):=fun hn=>by rw [List.length_append,List.length_singleton];omega
 refine ⟨h.time,by rw [List.length_set];exact h.ay,h.due,by dsimp only;rw [hq,List.length_append,List.length_singleton];exact hl,h.aP,h.w0,h.w1,fun a ha=>?_,by dsimp only;rw [List.length_set];exact h.jR,
  fun t ht=>⟨(h.k0 t ht).1,(h.k0 t ht).2.1,hk (h.k0 t ht).2.2⟩,fun t ht=>⟨(h.k1 t ht).1,(h.k1 t ht).2.1,hk (h.k1 t ht).2.2⟩,fun x hx=>?_,h.l0,h.l1,
  fun p hp hs=>⟨(h.p0 p hp hs).1,(h.p0 p hp hs).2.1,hk (h.p0 p hp hs).2.2⟩,fun p hp hs=>⟨(h.p1 p hp hs).1,(h.p1 p hp hs).2.1,hk (h.p1 p hp hs).2.2⟩,h.n0,h.n1,h.calm⟩
 ·dsimp only at ha ⊢
  rw [List.length_set]
  rcases List.mem_append.1 ha with ha|ha
  ·exact h.perm a ha
  ·obtain rfl:=List.mem_singleton.1 ha
   exact ⟨w1,by rw [w2];dsimp only;omega⟩
 ·rcases gC hx with hx|rfl
  ·exact h.right x hx
  ·exact hcr
theorem uc {α:Type} {p:α->Bool} {l:List α} {x:α} (h:x∈dP p l):x∈l:=(List.mem_filter.1 h).1
theorem oc.back {n:Nat} {s:bY} (h:oc n s) {seen:Int} (hb:(ej s seen).2=0):oc n (ej s seen).1:=by
 rcases pP (show ej s seen=((ej s seen).1,(ej s seen).2) from rfl) with ⟨h1,_⟩|⟨_,_,_,_,h2⟩
 ·exact absurd hb h1
 ·rw [h2];exact ⟨fun t ht=>h.own t (uc ht),Nat.le_trans (List.length_filter_le ..) h.len⟩
theorem vd {au:List bC} {due:List Int} {ay:List bI} {book:List Entry} {e:Int} {t:bo} (h:∀ c∈ay,cX c=0):
  (eO au due ay book e t).1.length=due.length/\(∀ c∈(eO au due ay book e t).2.1,cX c=0)/\(eO au due ay book e t).2.1.length=ay.length:=by
 unfold eO
 split
 ·exact ⟨rfl,h,rfl⟩
 split
 ·exact ⟨List.length_set ..,h,rfl⟩
 split
 ·exact ⟨rfl,jW h,fv _ _ _ _ _⟩
 split
 ·exact ⟨List.length_set ..,h,rfl⟩
 ·exact ⟨rfl,h,rfl⟩
theorem nj {n:Int} {t:bo} (h:0<=n):0<=(iB n t).1:=by unfold iB;split<;>(dsimp only;omega)
theorem wq {α:Type} {l:List α} {n:Nat} {x:α} (h:x∈l.drop n):x∈l:=List.mem_of_mem_drop h
theorem cu.bN {b:Bk} (h:cu b) {cs:List bI} {due:List Int} {bk:List Entry} (h1:∀ c∈cs,cX c=0) (h2:cs.length=b.ay.length) (h3:due.length=b.due.length):cu {b with ay:=cs,due:=due,book:=bk}:=
 ⟨h.time,by rw [h2];exact h.ay,by rw [h3];exact h.due,h.au,h.aP,h.w0,h.w1,by dsimp only;rw [h2,h3];exact h.perm,by dsimp only;rw [h2,h3];exact h.jR,h.k0,h.k1,h1,h.l0,h.l1,h.p0,h.p1,h.n0,h.n1,h.calm⟩
theorem cu.yw {b:Bk} (h:cu b):cu {b with w0:=b.w0.drop 1}:=
 ⟨h.time,h.ay,h.due,h.au,h.aP,by dsimp only;rw [List.length_drop];have:=h.w0;omega,h.w1,h.perm,h.jR,h.k0,h.k1,h.right,h.l0,h.l1,fun p hp=>h.p0 p (wq hp),h.p1,h.n0,h.n1,h.calm⟩
theorem cu.yv {b:Bk} (h:cu b):cu {b with w1:=b.w1.drop 1}:=
 ⟨h.time,h.ay,h.due,h.au,h.aP,h.w0,by dsimp only;rw [List.length_drop];have:=h.w1;omega,h.perm,h.jR,h.k0,h.k1,h.right,h.l0,h.l1,h.p0,fun p hp=>h.p1 p (wq hp),h.n0,h.n1,h.calm⟩
theorem cu.GC {b:Bk} (h:cu b) {s:bY} (hs:oc b.au.length s):cu {b with s0:=s}:=
 ⟨h.time,h.ay,h.due,h.au,h.aP,h.w0,h.w1,h.perm,h.jR,hs.own,h.k1,h.right,hs.len,h.l1,h.p0,h.p1,h.n0,h.n1,h.calm⟩
theorem cu.GB {b:Bk} (h:cu b) {s:bY} (hs:oc b.au.length s):cu {b with s1:=s}:=
 ⟨h.time,h.ay,h.due,h.au,h.aP,h.w0,h.w1,h.perm,h.jR,h.k0,hs.own,h.right,h.l0,hs.len,h.p0,h.p1,h.n0,h.n1,h.calm⟩
theorem cu.DE {b:Bk} (h:cu b) {n:Int} (hn:0<=n):cu {b with n0:=n}:=
 ⟨h.time,h.ay,h.due,h.au,h.aP,h.w0,h.w1,h.perm,h.jR,h.k0,h.k1,h.right,h.l0,h.l1,h.p0,h.p1,hn,h.n1,h.calm⟩
theorem cu.DC {b:Bk} (h:cu b) {n:Int} (hn:0<=n):cu {b with n1:=n}:=
 ⟨h.time,h.ay,h.due,h.au,h.aP,h.w0,h.w1,h.perm,h.jR,h.k0,h.k1,h.right,h.l0,h.l1,h.p0,h.p1,h.n0,hn,h.calm⟩
theorem cu.Dk {b:Bk} (h:cu b) (d:bx):cu (fL b d).1:=by
 unfold fL
 split
 ·exact h
 split
 ·exact h.yw
 split
 ·split
  ·rename_i hb;exact h.yw.GC (h.ud.back hb)
  ·exact h
 split
 ·obtain ⟨r1,r2,r3⟩:=vd (au:=b.au) (due:=b.due) (book:=b.book) (e:=0) (t:=(by assumption:cp).cA) h.right
  exact h.dd fun _=>(h.yw.DE (nj h.n0)).bN r2 r3 r1
 ·exact h.yw.DE (nj h.n0)
theorem cu.Dj {b:Bk} (h:cu b) (d:bx):cu (fK b d).1:=by
 unfold fK
 split
 ·exact h
 split
 ·exact h.yv
 split
 ·split
  ·rename_i hb;exact h.yv.GB (h.oP.back hb)
  ·exact h
 split
 ·obtain ⟨r1,r2,r3⟩:=vd (au:=b.au) (due:=b.due) (book:=b.book) (e:=0) (t:=(by assumption:cp).cA) h.right
  exact h.dd fun _=>(h.yv.DC (nj h.n1)).bN r2 r3 r1
 ·exact h.yv.DC (nj h.n1)
theorem cu.me {b:Bk} (h:cu b) (d:bx):cu (cj b d).1:=by
 unfold cj
 split
 ·exact h.Dk d
 split
 ·exact h.Dj d
 ·exact h
theorem oW {c:bI} {n:Int} (h:(fa c n).2=0):cX (fa c n).1=0/\(fa c n).1=⟨c.bN,c.held+n,c.cq,c.cY⟩/\cX c=0/\1<=n/\n<=1000000:=by
 unfold fa at h ⊢
 split at h
 ·rename_i h1;exact absurd h h1
 split at h
 ·cases h
 ·rename_i h1 h2
  rw [if_neg h1,if_neg h2]
  have hw:cX c=0:=by omega
  have hr:=jv hw
  exact ⟨pC (by dsimp only;omega) hr.2.2.2.2.1 hr.2.2.2.2.2,rfl,hw,by omega,by omega⟩
theorem zJ {n m:Nat}:∀ (l:List ch) (cs:List bI) (xs:List bC),(∀ a∈l,0<=a.aO/\a.aO < n/\0<=a.aE/\a.aE < m)->cs.length=n->
  (∀ a∈xs,bL a=0/\0<=a.aO/\a.aO < n/\0<=a.aE/\a.aE < m)->(∀ c∈cs,cX c=0)->
  (∀ c∈(fX l cs xs).1,cX c=0)/\(fX l cs xs).1.length=n/\(∀ a∈(fX l cs xs).2.1,bL a=0/\0<=a.aO/\a.aO < n/\0<=a.aE/\a.aE < m)/\xs.length<=(fX l cs xs).2.1.length/\(fX l cs xs).2.1.length<=xs.length+l.length
 |[],cs,xs,_,h2,h3,h4=>⟨h4,h2,h3,Nat.le_refl _,Nat.le_refl _⟩
 |x::l,cs,xs,h1,h2,h3,h4=>by
  unfold fX
  split
  ·exact ⟨h4,h2,h3,Nat.le_refl _,by dsimp only;omega⟩
  rename_i e1
  split
  ·exact ⟨h4,h2,h3,Nat.le_refl _,by dsimp only;omega⟩
  rename_i c hc
  split
  ·exact ⟨h4,h2,h3,Nat.le_refl _,by dsimp only;omega⟩
  rename_i e2
  have hx:=h1 x List.mem_cons_self
  obtain ⟨w1,w2,w3⟩:=oL (show (dr x.aO x.aE x.sum x.time).2=0 by omega)
  obtain ⟨f1,_⟩:=oW (show (fa c x.sum).2=0 by omega)
  obtain ⟨r1,r2,r3,r4,r5⟩:=zJ l (cs.set x.aO.toNat (fa c x.sum).1) (xs++[(dr x.aO x.aE x.sum x.time).1]) (fun a ha=>h1 a (List.mem_cons_of_mem _ ha)) ((List.length_set ..).trans h2)
   (fun a ha=>by
    rcases List.mem_append.1 ha with ha|ha
    ·exact h3 a ha
    ·obtain rfl:=List.mem_singleton.1 ha;exact ⟨w1,by rw [w2];exact hx⟩)
   (fun z hz=>by
    rcases gC hz with hz|rfl
    ·exact h4 z hz
    ·exact f1)
  rw [List.length_append,List.length_singleton] at r4 r5
  exact ⟨r1,r2,r3,by omega,by rw [List.length_cons];omega⟩
theorem rk {s:cC} (h:(cU s).2.2=0):bU s=0/\(cU s).1=⟨s.cap,List.replicate s.used.length 0,[]⟩/\(cU s).2.1=s.bd:=by
 unfold cU at h ⊢
 split at h
 ·rename_i h1;exact absurd h h1
 ·rename_i h1;rw [if_neg h1];exact ⟨by omega,rfl,rfl⟩
theorem cu.BI {b:Bk} (h:cu b) (h1:(cU b.bG).2.2=0):cu {b with ay:=(fX (cU b.bG).2.1 b.ay b.au).1,au:=(fX (cU b.bG).2.1 b.ay b.au).2.1,bG:=(cU b.bG).1,down:=false}:=by
 obtain ⟨_,c1,c2⟩:=rk h1
 rw [c1,c2]
 obtain ⟨r1,r2,r3,r4,r5⟩:=zJ b.bG.bd b.ay b.au h.jR rfl h.perm h.right
 have hk:∀ {n:Int},n < (b.au.length:Int)->n < ((fX b.bG.bd b.ay b.au).2.1.length:Int):=fun hn=>by omega
 exact ⟨h.time,by rw [r2];exact h.ay,h.due,by have:=h.au;simp only [List.length_nil];omega,h.aP,h.w0,h.w1,by dsimp only;rw [r2];exact r3,fun a ha=>by simp at ha,
  fun t ht=>⟨(h.k0 t ht).1,(h.k0 t ht).2.1,hk (h.k0 t ht).2.2⟩,fun t ht=>⟨(h.k1 t ht).1,(h.k1 t ht).2.1,hk (h.k1 t ht).2.2⟩,r1,h.l0,h.l1,
  fun p hp hs=>⟨(h.p0 p hp hs).1,(h.p0 p hp hs).2.1,hk (h.p0 p hp hs).2.2⟩,fun p hp hs=>⟨(h.p1 p hp hs).1,(h.p1 p hp hs).2.1,hk (h.p1 p hp hs).2.2⟩,h.n0,h.n1,fun _=>rfl⟩
theorem BL {l:List ch} {q:Nat} {x:ch} {cs:List bI} {xs:List bC} {a:bC} {e1 e2:Int} (h:l[q]?=some x) (hn:dr x.aO x.aE x.sum x.time=(a,e1)) (hf:dK 0 e1=e2) (he:¬e2=0):fX (l.drop q) cs xs=(cs,xs,e2):=by
 rw [qI h,hn]
 have:e1=e2:=by unfold dK at hf;rw [if_pos rfl] at hf;exact hf
 subst this
 rw [if_pos he]
theorem BK {l:List ch} {q:Nat} {x:ch} {cs:List bI} {xs:List bC} {a:bC} {c k:bI} {e1 e3 e4:Int} (h:l[q]?=some x) (hn:dr x.aO x.aE x.sum x.time=(a,e1)) (hf1:dK 0 e1=0) (hc:cs[x.aO.toNat]?=some c)
  (hF:fa c x.sum=(k,e3)) (hf:dK 0 e3=e4) (he:¬e4=0):fX (l.drop q) cs xs=(cs,xs,e4):=by
 rw [qI h,hn,hc]
 have h1:e1=0:=(gb hf1).2
 have:e3=e4:=by unfold dK at hf;rw [if_pos rfl] at hf;exact hf
 subst this h1
 dsimp only
 rw [if_neg (by simp),hF,if_pos he]
theorem BJ {l:List ch} {q:Nat} {x:ch} {cs:List bI} {xs:List bC} {a:bC} {c k:bI} {e1 e3:Int} (h:l[q]?=some x) (hn:dr x.aO x.aE x.sum x.time=(a,e1)) (hf1:dK 0 e1=0) (hc:cs[x.aO.toNat]?=some c)
  (hF:fa c x.sum=(k,e3)) (hf:dK 0 e3=0):fX (l.drop q) cs xs=fX (l.drop (q+1)) (cs.set x.aO.toNat k) (xs++[a]):=by
 rw [qI h,hn,hc]
 have h1:e1=0:=(gb hf1).2
 have h3:e3=0:=(gb hf).2
 subst h3 h1
 dsimp only
 rw [if_neg (by simp),hF,if_neg (by simp)]
theorem DS {l:List ch} {q:Nat} {cs:List bI} {xs:List bC} (h:¬q < l.length):fX (l.drop q) cs xs=(cs,xs,0):=by
 rw [List.drop_of_length_le (by omega)];rfl
theorem zL {b:Bk} {s:cC} {l:List ch} {cs:List bI} {xs:List bC} {e:Int} (hd:b.down=true) (h:cU b.bG=(s,l,0)) (hL:fX l b.ay b.au=(cs,xs,e)) (he:¬e=0):ir b=(b,⟨e,0⟩):=by
 unfold ir
 rw [if_neg (by rw [hd];simp),h]
 dsimp only
 rw [if_neg (by simp),hL]
 dsimp only
 rw [if_pos he]
theorem EI {b:Bk} {s:cC} {l:List ch} {cs:List bI} {xs:List bC} (hd:b.down=true) (h:cU b.bG=(s,l,0)) (hL:fX l b.ay b.au=(cs,xs,0)):
  ir b=(gD {b with ay:=cs,au:=xs,bG:=s,down:=false},⟨0,0⟩):=by
 unfold ir
 rw [if_neg (by rw [hd];simp),h]
 dsimp only
 rw [if_neg (by simp),hL]
 dsimp only
 rw [if_neg (by simp)]
theorem cu.Gy {b:Bk} (hb:cu b) {s:cC} {l:List ch} {cs:List bI} {xs:List bC} (h:cU b.bG=(s,l,0)) (hL:fX l b.ay b.au=(cs,xs,0)):
  cu {b with ay:=cs,au:=xs,bG:=s,down:=false}:=by
 have:=hb.BI (by rw [h])
 rw [h] at this;dsimp only at this;rw [hL] at this;exact this
theorem cu.EG {b:Bk} (h:cu b):cu (ir b).1:=by
 unfold ir
 split
 ·exact h
 split
 ·exact h
 split
 ·exact h
 ·exact (h.BI (by omega)).late
theorem cu.qN {b:Bk} (h:cu b) {t:List ah} (ht:t.length<=100):cu {b with aP:=t}:=
 ⟨h.time,h.ay,h.due,h.au,ht,h.w0,h.w1,h.perm,h.jR,h.k0,h.k1,h.right,h.l0,h.l1,h.p0,h.p1,h.n0,h.n1,h.calm⟩
theorem mu {t:List ah} {y:List (List Int)} (h:t.length<=100):(fZ t y).1.length<=100/\(fZ t y).2.1.length<=y.length+1:=by
 unfold fZ
 split
 ·exact ⟨h,Nat.le_succ _⟩
 ·exact ⟨by simp,by simp⟩
theorem cu.CU {b:Bk} (h:cu b) (y:List (List Int)) (d:bx):cu (dk b y d).1/\(dk b y d).2.1.length<=y.length+1:=by
 unfold dk
 split
 ·exact ⟨h.load d,Nat.le_succ _⟩
 split
 ·exact ⟨h.asks d,Nat.le_succ _⟩
 split
 ·exact ⟨h.mb d,Nat.le_succ _⟩
 split
 ·exact ⟨h.cQ d,Nat.le_succ _⟩
 split
 ·exact ⟨h.send d,Nat.le_succ _⟩
 split
 ·exact ⟨h.me d,Nat.le_succ _⟩
 split
 ·split
  ·exact ⟨h,Nat.le_succ _⟩
  ·exact ⟨⟨h.time,h.ay,h.due,h.au,h.aP,h.w0,h.w1,h.perm,h.jR,h.k0,h.k1,h.right,h.l0,h.l1,h.p0,h.p1,h.n0,h.n1,fun h=>by cases h⟩,Nat.le_succ _⟩
 split
 ·exact ⟨h.EG,Nat.le_succ _⟩
 split
 ·exact ⟨h.qN (mu h.aP).1,(mu (y:=y) h.aP).2⟩
 split
 ·exact ⟨h.vG d,Nat.le_succ _⟩
 ·exact ⟨h,Nat.le_succ _⟩
theorem cu.once {b:Bk} (h:cu b) (y:List (List Int)) (told:List (Int×Answer)) (cl:Nat) (d:bx):cu (dG b y told cl d).1/\(dG b y told cl d).2.1.length<=y.length+1:=by
 unfold dG
 split
 ·exact ⟨h,Nat.le_succ _⟩
 ·exact h.CU y d
theorem tU:∀ {l:List eI} {i:Int},(oI l i).err=0->∀ p∈l,fC p=0
 |p::l,i,h,x,hx=>by
  unfold oI at h
  split at h
  ·rename_i h1;exact absurd h h1
  ·rename_i h1
   rcases List.mem_cons.1 hx with rfl|hx
   ·omega
   ·exact tU h x hx
theorem ll {s:Setup} (h:(er s).err=0):s.cZ.length<=8/\0<=s.gT/\s.gT<=8/\0<=s.cap/\s.cap<=1000000/\∀ p∈s.cZ,fC p=0:=by
 unfold er at h
 split at h
 ·cases h
 split at h
 ·cases h
 ·exact ⟨by omega,by omega,by omega,by omega,by omega,tU h⟩
theorem cu.start {s:Setup} (h:(er s).err=0):cu (dJ s):=by
 obtain ⟨h1,h2,h3,h4,h5,h6⟩:=ll h
 have hn:dL s.cap s.cZ.length=({cap:=s.cap,used:=List.replicate s.cZ.length 0,bd:=[]},0):=qk h1 ⟨h4,h5⟩
 unfold dJ
 rw [hn]
 refine ⟨by dsimp only;omega,by simpa using h1,by simp;omega,by simp,by simp,by simp,by simp,by simp,by simp,by simp,by simp,fun c hc=>?_,by simp,by simp,by simp,by simp,by simp,by simp,fun _=>rfl⟩
 obtain ⟨p,hp,rfl⟩:=List.mem_map.1 hc
 exact pC (c:=⟨0,0,p,[]⟩) (by dsimp only;omega) (h6 p hp) (sK.2 ⟨by simp,by simp,by simp⟩)

theorem Iu (x:Nat->Value) (hx:∀ i,(x i).oneCell'=true) (b:Bk) (ok:cu b) (b2:Bk) (a2:Answer) (hr:ir b=(b2,a2)):cJ Try.prog 68 [(.c (.p 0 0 0 0))] [(0,(.box 98 (aW b 1 2 3 4 (.d (.v (x 17))) (.d (.v (x 19)))))),(1,(dT b.ay)),(2,(dM b.due)),(3,(ea b.au)),(4,(cM b.aP))] [0] (.v (.g [cI a2.err,cI a2.ba])) [(0,(.box 98 (aW b2 1 2 3 4 (.d (.v (x 17))) (.d (.v (x 19)))))),(1,(dT b2.ay)),(2,(dM b2.due)),(3,(ea b2.au)),(4,(cM b2.aP))]:=by
 refine cJ.mk 116 [(0,(aC (.p 0 0 0 0)))] 5 Try.func68 rfl rfl rfl rfl rfl rfl rfl rfl rfl ?_
 intro W0 F0 T0 pg
 obtain ⟨okt,okc,okd,oka,oky,okw0,okw1,okp,okv,okk0,okk1,okg,okl0,okl1,okp0,okp1,okn0,okn1,okq⟩:=id ok
 refine ae aa 1 rfl ?_
 refine ag ?_
 refine ae aa 6 rfl ?_
 refine aj rfl (fun hc1=>?_) (fun hc1=>?_)
 ·
  have hc1':=hc1;try simp only [br,bR] at hc1'
  refine ae aa 2 rfl ?_
  refine az ?_
  refine an ?_
  have hX:ir b=(b,(⟨8,0⟩:Answer)):=by
    unfold ir;rw [if_pos (by cases hd:b.down<;>simp_all)]
  rw [hX] at hr;clear hX
  simp only [Prod.mk.injEq] at hr;obtain ⟨rfl,rfl⟩:=hr
  refine al aa [0,1,2,3,4,5] 5 rfl rfl rfl rfl rfl rfl ?_ ?_
  all_goals first|rfl|(simp [aw,aW,bh];done)|(simp [aw,aW,bh];omega)
 have hc1':=hc1;try simp only [br,bR] at hc1'
 refine aS ?_
 refine aF aa 5 rfl ?_
 obtain ⟨xr0,l0,e0,hr0⟩:∃ (xr0:cC) (l0:List ch) (e0:Int),cU b.bG=(xr0,l0,e0):=⟨_,_,_,rfl⟩
 refine aQ 6 [5,0,1,2,3,4] (cb 6 (Fn.frozen (av':=(.t [(.g [(cI xr0.cap),(gM xr0.used),(iq xr0.bd)]),(.c (iq l0)),(.c (cI e0))])) (uN b.bG xr0 l0 e0 hr0) ⟨⟨.inl ⟨_,rfl,rfl⟩,.inr ⟨_,_,_,_,_,rfl,rfl,rfl,by simp⟩,.inr ⟨_,_,_,_,_,rfl,rfl,rfl,by simp⟩,trivial⟩,.inr ⟨_,_,_,_,_,rfl,rfl,rfl,by simp⟩,.inl ⟨_,rfl,rfl⟩,trivial⟩) HS rfl rfl ⟨⟨_,rfl,.g ⟨.d _,.d _,.d _,trivial⟩⟩,trivial⟩ ⟨⟨trivial,trivial,trivial,trivial⟩,trivial,trivial,trivial⟩ trivial rfl rfl rfl rfl) rfl ?_
 refine ad aa 8 rfl ?_
 refine af ?_
 refine ag ?_
 refine ae aa 2 rfl ?_
 refine aj rfl (fun hc2=>?_) (fun hc2=>?_)
 ·
  have hc2':=of_decide_eq_true hc2
  refine ae aa 3 rfl ?_
  refine az ?_
  refine an ?_
  have hX:ir b=(b,(⟨e0,0⟩:Answer)):=by
    unfold ir;rw [if_neg (by cases hd:b.down<;>simp_all),hr0];dsimp only;rw [if_pos (by omega)]
  rw [hX] at hr;clear hX
  simp only [Prod.mk.injEq] at hr;obtain ⟨rfl,rfl⟩:=hr
  refine al aa [0,1,2,3,4,5] 5 rfl rfl rfl rfl rfl rfl ?_ ?_
  all_goals first|rfl|(simp [aw,aW,bh];done)|(simp [aw,aW,bh];omega)
 have hc2':=of_decide_eq_false hc2
 refine aS ?_
 refine aF aa 1 rfl ?_
 refine aQ 16 [0,7,8,9,10,11,12,13,14,15,6,5] (cL id (bf [0,7,8,9,10,11,12,13,14,15]) (kK (x 17) (x 19) b (by first|omega|(simp;done)|(simp;omega)) (by first|omega|(simp;done)|(simp;omega)) (by first|omega|(simp;done)|(simp;omega)) (by first|omega|(simp;done)|(simp;omega))) ra rfl rfl ⟨⟨_,rfl,.inl ⟨rfl,rfl⟩⟩,trivial⟩ ⟨rfl,rfl,rfl,rfl,rfl,trivial⟩ rfl rfl rfl rfl rfl rfl trivial ⟨⟨trivial,trivial,trivial,trivial,trivial,trivial,trivial,trivial,trivial,trivial,trivial,trivial,trivial,trivial,trivial,trivial,trivial,trivial,trivial,trivial,trivial⟩,⟨trivial,trivial,trivial,trivial,trivial,trivial,trivial,trivial,trivial,trivial,trivial,trivial,trivial,trivial,trivial,trivial,trivial,trivial,trivial,trivial,trivial⟩,(fun _ _ _ _=>trivial),(fun _ _ _ _=>trivial),(fun _ _ _ _=>trivial),(fun _ _ _ _=>trivial),(fun _ _ _ _=>trivial),(fun _ _ _ _=>trivial),(fun _ _ _ _=>trivial),(fun _ _ _ _=>trivial),trivial⟩ rfl rfl rfl rfl) rfl ?_
 refine ad aa 1 rfl ?_
 refine af ?_
 refine ag ?_
 obtain rfl:e0=0:=by omega
 have hcl:l0=b.bG.bd:=by have h:=(rk (s:=b.bG) (by rw [hr0])).2.2;rw [hr0] at h;exact h
 refine aF aa 1 rfl ?_
 refine aA (cF rfl rfl rfl rfl rfl Try.underlying39) rfl ?_
 refine ad aa 1 rfl ?_
 refine af ?_
 refine aY ?_
 refine cE (β:=Nat×List bI×List bC) (fun (p:Nat×List bI×List bC)=>match p with|(q,cs,xs)=>⟨[(0,(aC (.p 0 0 0 0))),(2,(aC (.p 5 0 0 0))),(3,(aC (.p 6 0 0 0))),(6,(aC (.p 7 0 0 0))),(36,(aC (iq l0))),(37,(aI (↑l0.length:Int))),(38,(aI (↑q:Int)))],[(0,(.box 98 (aW b 8 9 10 11 (.d (.v (x 17))) (.d (.v (x 19)))))),(7,(.box 147 (((aW b 12 13 14 15 (.d (.v (x 17))) (cI 0)).set 2 (.s 12 0 6 cs.length)).set 4 (.s 14 0 8 xs.length)))),(8,(dT b.ay)),(9,(dM b.due)),(10,(ea b.au)),(11,(cM b.aP)),(12,(dT cs)),(13,(dM b.due)),(14,(ea xs)),(15,(cM b.aP)),(6,(.box 41 [(cI xr0.cap),(gM xr0.used),(iq xr0.bd)])),(5,(.box 65 [(cI 0),(cI 0)]))],16⟩) (fun (p:Nat×List bI×List bC)=>match p with|(q,cs,xs)=>q<=l0.length/\fX l0 b.ay b.au=fX (l0.drop q) cs xs/\cs.length=b.ay.length/\xs.length=b.au.length+q) (fun (p:Nat×List bI×List bC)=>match p with|(q,cs,xs)=>l0.length - q) (0,b.ay,b.au) ?_ ?_ ?_
 ·exact ⟨by omega,rfl,rfl,rfl⟩
 ·exact aH.ca id (by refine ⟨?_,?_,?_,?_,?_,?_,?_,trivial⟩<;>first|rfl|(simp only [bu];done)|(congr 3;omega)|(congr 4;omega)|(simp only [bw];rfl)) (by refine ⟨?_,?_,?_,?_,?_,?_,?_,?_,?_,?_,?_,?_,trivial⟩<;>first|rfl|(simp only [bu];done)|(congr 3;omega)|(congr 4;omega)|(simp only [bw];rfl)) rfl
 rintro ⟨q,cs,xs⟩ ⟨hi0_0,hi0_1,hi0_2,hi0_3⟩
 have hll:b.au.length+l0.length<=30:=by rw [hcl];exact oka
 refine ae aa 1 rfl ?_
 refine ag ?_
 refine aj rfl (fun hc3=>?_) (fun hc3=>?_)
 ·
  have hc3':=of_decide_eq_true hc3
  refine aS ?_
  refine ag ?_
  refine aY ?_
  refine eR ?_
  obtain ⟨x1,hx1⟩:=cf (xs:=l0) (i:=q) (by first|omega|(simp;done)|(simp;omega))
  have hx1A:=okv x1 (by rw [<-hcl];exact List.mem_of_getElem? hx1)
  refine aA (cD (i:=q) rfl rfl rfl Try.underlying39 DB (by first|omega|(simp;done)|(simp;omega)) (bp hx1)) rfl ?_
  refine ad aa 3 rfl ?_
  refine af ?_
  refine aF aa 8 rfl ?_
  obtain ⟨b1,e1,hr1⟩:∃ (b1:bC) (e1:Int),dr x1.aO x1.aE x1.sum x1.time=(b1,e1):=⟨_,_,rfl⟩
  refine aQ 17 [16,0,7,8,9,10,11,12,13,14,15,6,5] (cb 17 (ss x1.aO x1.aE x1.sum x1.time b1 e1 hr1) FM rfl rfl ⟨⟨_,rfl,.c (.d _)⟩,⟨_,rfl,.c (.d _)⟩,⟨_,rfl,.c (.d _)⟩,⟨_,rfl,.c (.d _)⟩,trivial⟩ ⟨⟨trivial,trivial,trivial,trivial,trivial,trivial,trivial,trivial,trivial⟩,trivial,trivial⟩ trivial rfl rfl rfl rfl) rfl ?_
  refine ad aa 6 rfl ?_
  refine af ?_
  refine ag ?_
  refine aF aa 2 rfl ?_
  obtain ⟨e22,hr2⟩:∃ (e22:Int),dK 0 e1=e22:=⟨_,rfl⟩
  refine aQ 18 [7,17,16,0,8,9,10,11,12,13,14,15,6,5] (cr (bf [7]) (bf [7]) (ms:=(dE.set 19 (some (cI 0)))) (ms':=(dE.set 19 (some (cI e22)))) (fun x hx=>kl x hx 0 e1 e22 hr2) nI rfl rfl ⟨⟨_,rfl,.inl ⟨rfl,rfl⟩⟩,⟨_,rfl,.inr (.c (.d _))⟩,trivial⟩ rfl rfl rfl rfl rfl rfl rfl trivial rfl rfl rfl rfl rfl rfl rfl rfl rfl rfl rfl rfl rfl) rfl ?_
  refine af ?_
  refine aj rfl (fun hc4=>?_) (fun hc4=>?_)
  ·
   have hc4':=of_decide_eq_true hc4
   refine cv ?_
   refine aU ?_
   refine sC rfl ?_
   refine aU ?_
   refine aU ?_
   refine bS ?_
   refine then_ok ?_
   refine ae aa 11 rfl ?_
   refine ag ?_
   refine aF aa 2 rfl ?_
   refine aQ 22 [0,18,19,20,21,17,16,6,5] (cL (bf [0,7,8,9,10,11,12,13,14,15]) (bf [0,18,19,20,21]) (gp (x 17) (x 19) b (⟨b.time,false,cs,b.due,xs,b.s0,b.s1,b.n0,b.n1,b.w0,b.w1,xr0,b.aP,b.book⟩:Bk) e22 (by first|assumption|omega)) fW rfl rfl ⟨⟨_,rfl,.inl ⟨rfl,rfl⟩⟩,⟨_,rfl,.inl ⟨rfl,rfl⟩⟩,trivial⟩ ⟨rfl,rfl,rfl,rfl,rfl,rfl,rfl,rfl,rfl,rfl,trivial⟩ rfl rfl rfl rfl rfl rfl trivial ⟨⟨trivial,trivial,trivial,trivial,trivial,trivial,trivial,trivial,trivial,trivial,trivial,trivial,trivial,trivial,trivial,trivial,trivial,trivial,trivial,trivial,trivial⟩,(fun _ _ _ _=>trivial),(fun _ _ _ _=>trivial),(fun _ _ _ _=>trivial),(fun _ _ _ _=>trivial),trivial⟩ rfl rfl rfl rfl) rfl ?_
   refine ad aa 1 rfl ?_
   refine af ?_
   refine ae aa 2 rfl ?_
   refine aj rfl (fun _=>?_) (fun hno=>absurd (hc4.symm.trans hno) (by decide))
   refine ae aa 3 rfl ?_
   refine az ?_
   refine an ?_
   have hX:ir b=(b,(⟨e22,0⟩:Answer)):=by
     exact zL (by cases hd:b.down<;>simp_all) hr0 (hi0_1.trans (BL hx1 hr1 hr2 (by omega))) (by omega)
   rw [hX] at hr;clear hX
   simp only [Prod.mk.injEq] at hr;obtain ⟨rfl,rfl⟩:=hr
   refine al aa [0,18,19,20,21,5] 5 rfl rfl rfl rfl rfl rfl ?_ ?_
   all_goals first|rfl|(simp [aw,aW,bh];done)|(simp [aw,aW,bh];omega)
  have hc4':=of_decide_eq_false hc4
  refine aS ?_
  obtain rfl:e22=0:=by omega
  refine ag ?_
  obtain ⟨x2,hx2⟩:=cf (xs:=cs) (i:=Int.toNat (x1.aO)) (by first|omega|(simp;done)|(simp;omega))
  obtain ⟨xr3,e3,hr3⟩:∃ (xr3:bI) (e3:Int),fa x2 x1.sum=(xr3,e3):=⟨_,_,rfl⟩
  refine df [0,2,3,6,36,37,38,8,9] [7,17,16,0,8,9,10,11,12,13,14,15,6,5] mixed rfl rfl ?_
  refine bT (kn:=[]) aa 7 rfl trivial ?_
  refine bW (n':=18) [62,64] [12] rfl rfl (.inl ⟨(ak.plain rfl),aK.cast (bz (i:=Int.toNat (x1.aO)) rfl rfl rfl Try.underlying29 jq (by first|omega|(simp;done)|(simp;omega)) (by first|omega|(simp;done)|(simp;omega))) rfl⟩) rfl ?_
  refine bW (n':=18) [65] [12] rfl rfl (.inl ⟨(ak.plain rfl),aK.cast (dm rfl rfl rfl Try.underlying61 rfl jq (bp hx2) rfl) rfl⟩) rfl ?_
  refine bT (kn:=[]) aa 2 rfl trivial ?_
  refine bW (n':=18) [66,68] [] rfl rfl (.inl ⟨(ak.plain rfl),aK.cast (cb 18 (Fn.frozen (av':=(.t [(.g [(cI xr3.bN),(cI xr3.held),(cI xr3.cq.cQ),(cI xr3.cq.count),(cI xr3.cq.sum),(fB xr3.cY)]),(.c (cI e3))])) (wE x2 x1.sum xr3 e3 hr3) ⟨⟨.inl ⟨_,rfl,rfl⟩,.inl ⟨_,rfl,rfl⟩,.inl ⟨_,rfl,rfl⟩,.inl ⟨_,rfl,rfl⟩,.inl ⟨_,rfl,rfl⟩,.inr ⟨_,_,_,_,_,rfl,rfl,rfl,by simp⟩,trivial⟩,.inl ⟨_,rfl,rfl⟩,trivial⟩) HR rfl rfl ⟨⟨_,rfl,.g ⟨.d _,.d _,.d _,.d _,.d _,.d _,trivial⟩⟩,⟨_,rfl,.c (.d _)⟩,trivial⟩ ⟨⟨trivial,trivial,trivial,trivial,trivial,trivial,trivial⟩,trivial,trivial⟩ trivial rfl rfl rfl rfl) rfl⟩) rfl ?_
  refine bT (n':=19) (kn:=[]) aa 6 rfl trivial ?_
  refine dU [0,2,3,6,36,37,38,8,9,11,10] [18,7,17,16,0,8,9,10,11,12,13,14,15,6,5] rfl rfl (by kernel_rfl) ?_
  refine then_ok ?_
  refine ag ?_
  refine aF aa 2 rfl ?_
  obtain ⟨e24,hr4⟩:∃ (e24:Int),dK 0 e3=e24:=⟨_,rfl⟩
  refine aQ 19 [7,18,17,16,0,8,9,10,11,12,13,14,15,6,5] (cr (bf [7]) (bf [7]) (ms:=(dE.set 19 (some (cI 0)))) (ms':=(dE.set 19 (some (cI e24)))) (fun x hx=>kl x hx 0 e3 e24 hr4) nI rfl rfl ⟨⟨_,rfl,.inl ⟨rfl,rfl⟩⟩,⟨_,rfl,.inr (.c (.d _))⟩,trivial⟩ rfl rfl rfl rfl rfl rfl rfl trivial rfl rfl rfl rfl rfl rfl rfl rfl rfl rfl rfl rfl rfl) rfl ?_
  refine af ?_
  refine aj rfl (fun hc6=>?_) (fun hc6=>?_)
  ·
   have hc6':=of_decide_eq_true hc6
   refine cv ?_
   refine aU ?_
   refine sC rfl ?_
   refine aU ?_
   refine aU ?_
   refine bS ?_
   refine then_ok ?_
   refine ae aa 11 rfl ?_
   refine ag ?_
   refine aF aa 2 rfl ?_
   refine aQ 23 [0,19,20,21,22,18,17,16,6,5] (cL (bf [0,7,8,9,10,11,12,13,14,15]) (bf [0,19,20,21,22]) (gp (x 17) (x 19) b (⟨b.time,false,cs,b.due,xs,b.s0,b.s1,b.n0,b.n1,b.w0,b.w1,xr0,b.aP,b.book⟩:Bk) e24 (by first|assumption|omega)) fW rfl rfl ⟨⟨_,rfl,.inl ⟨rfl,rfl⟩⟩,⟨_,rfl,.inl ⟨rfl,rfl⟩⟩,trivial⟩ ⟨rfl,rfl,rfl,rfl,rfl,rfl,rfl,rfl,rfl,rfl,trivial⟩ rfl rfl rfl rfl rfl rfl trivial ⟨⟨trivial,trivial,trivial,trivial,trivial,trivial,trivial,trivial,trivial,trivial,trivial,trivial,trivial,trivial,trivial,trivial,trivial,trivial,trivial,trivial,trivial⟩,(fun _ _ _ _=>trivial),(fun _ _ _ _=>trivial),(fun _ _ _ _=>trivial),(fun _ _ _ _=>trivial),trivial⟩ rfl rfl rfl rfl) rfl ?_
   refine ad aa 1 rfl ?_
   refine af ?_
   refine ae aa 2 rfl ?_
   refine aj rfl (fun _=>?_) (fun hno=>absurd (hc6.symm.trans hno) (by decide))
   refine ae aa 3 rfl ?_
   refine az ?_
   refine an ?_
   have hX:ir b=(b,(⟨e24,0⟩:Answer)):=by
     exact zL (by cases hd:b.down<;>simp_all) hr0 (hi0_1.trans (BK hx1 hr1 hr2 hx2 hr3 hr4 (by omega))) (by omega)
   rw [hX] at hr;clear hX
   simp only [Prod.mk.injEq] at hr;obtain ⟨rfl,rfl⟩:=hr
   refine al aa [0,19,20,21,22,5] 5 rfl rfl rfl rfl rfl rfl ?_ ?_
   all_goals first|rfl|(simp [aw,aW,bh];done)|(simp [aw,aW,bh];omega)
  have hc6':=of_decide_eq_false hc6
  refine aS ?_
  obtain rfl:e24=0:=by omega
  refine ag ?_
  refine aX [0,2,3,6,36,37,38,8,9,11] [7,18,17,16,0,8,9,10,11,12,13,14,15,6,5] mixed rfl rfl ?_
  refine aD (kn:=[]) aa 8 rfl trivial ?_
  refine aT (n':=19) [79,81] [12] rfl rfl (.inl ⟨(ak.plain rfl),aK.cast (bz (i:=Int.toNat (x1.aO)) rfl rfl rfl Try.underlying29 jq (by first|omega|(simp;done)|(simp;omega)) (by first|omega|(simp;done)|(simp;omega))) rfl⟩) rfl ?_
  refine bA [7,18,17,16,0,8,9,10,11,12,13,14,15,6,5] rfl rfl rfl rfl (by kernel_rfl) ?_
  refine gj [7,18,17,16,0,8,9,10,11,12,13,14,15,6,5] (dR (ds:=[(dI xr3.bN),(dI xr3.held),(dI xr3.cq.cQ),(dI xr3.cq.count),(dI xr3.cq.sum),(Ga xr3.cY)]) rfl rfl rfl rfl rfl jq rfl (Nat.le_of_ble_eq_true rfl) (bp hx2) rfl (eX (x':=xr3) rfl)) rfl ?_
  refine af ?_
  refine fN (k:=7) (q:=2) (c':=(.s 12 0 6 (((cs).set (Int.toNat (x1.aO)) xr3).length))) rfl rfl (by first|rfl|(simp;done)|(congr 1;omega)) rfl ?_
  refine aX [0,2,3,6,36,37,38,9] [7,17,0,8,9,10,11,12,13,14,15,6,5] mixed rfl rfl ?_
  refine aD (kn:=[]) aa 7 rfl trivial ?_
  refine aT (n':=20) [90] [] rfl rfl (.inl ⟨(ak.plain rfl),aK.cast (dV (ys:=[(0,(.g [(cI b1.aO),(cI b1.aE),(cI b1.sum),(cI b1.captured),(cI b1.bB),(cI b1.bq),(cI b1.dc),(cB b1.shut)]))]) (rows:=([b1]).map jg) 19 sM rfl (by decide) ⟨⟨rfl,rfl⟩,trivial⟩ rfl rfl rfl rfl) rfl⟩) rfl ?_
  refine aT (n':=21) [89,91] [19,14] rfl rfl (.inl ⟨(ak.plain rfl),aK.cast (dw (m:=1) (N:=xs.length+1) (k2:=20) (ys:=([b1]).map jg) sM rfl rfl rfl rfl rfl rfl (by first|omega|(simp;done)|(simp;omega)) rfl (.s rfl (by first|omega|(simp;done)|(simp;omega))) (by first|omega|(simp;done)|(simp;omega)) (by first|omega|(simp;done)|(simp;omega)) fz (by decide) (by first|omega|(simp;done)|(simp;omega)) (by first|omega|(simp;done)|(simp;omega))) rfl⟩) rfl ?_
  refine aD (kn:=[]) aa 3 rfl trivial ?_
  refine bA [20,7,17,0,8,9,10,11,12,13,15,6,5] rfl rfl rfl rfl (by kernel_rfl) ?_
  refine ad aa 1 rfl ?_
  refine bZ ?_
  refine bm ?_
  refine then_ok ?_
  refine fN (k:=7) (q:=4) (c':=(.s 20 0 8 ((xs++([b1])).length))) rfl rfl (by first|rfl|(simp;done)|(congr 1;omega)) rfl ?_
  refine ax ?_
  refine aA (aM rfl rfl rfl (aL (by first|omega|(simp;done)|(simp;omega)))) rfl ?_
  refine ad aa 1 rfl ?_
  refine af ?_
  refine ⟨(q+1,(cs).set (Int.toNat (x1.aO)) xr3,xs++([b1])),⟨by omega,by rw [hi0_1];exact BJ hx1 hr1 hr2 hx2 hr3 hr4,by rw [List.length_set];omega,by rw [List.length_append,List.length_singleton];omega⟩,by first|omega|(simp;done)|(simp;omega),aH.ca (fun k=>if k=14 then 20 else k) (by refine ⟨?_,?_,?_,?_,?_,?_,?_,trivial⟩<;>first|rfl|(simp only [bu];done)|(congr 3;omega)|(congr 4;omega)|(simp only [bw];rfl)) (by refine ⟨?_,?_,?_,?_,?_,?_,?_,?_,?_,?_,?_,?_,trivial⟩<;>first|rfl|(simp only [bu];done)|(congr 3;omega)|(congr 4;omega)|(simp only [bw];rfl)) rfl⟩
 have hc3':=of_decide_eq_false hc3
 refine cv ?_
 refine aU ?_
 refine aU ?_
 refine bS ?_
 refine then_ok ?_
 refine ae aa 11 rfl ?_
 refine ag ?_
 refine aF aa 2 rfl ?_
 refine aQ 20 [0,16,17,18,19,6,5] (cL (bf [0,7,8,9,10,11,12,13,14,15]) (bf [0,16,17,18,19]) (fw (x 17) (x 19) b (⟨b.time,false,cs,b.due,xs,b.s0,b.s1,b.n0,b.n1,b.w0,b.w1,xr0,b.aP,b.book⟩:Bk) 0 (by first|assumption|omega)) fW rfl rfl ⟨⟨_,rfl,.inl ⟨rfl,rfl⟩⟩,⟨_,rfl,.inl ⟨rfl,rfl⟩⟩,trivial⟩ ⟨rfl,rfl,rfl,rfl,rfl,rfl,rfl,rfl,rfl,rfl,trivial⟩ rfl rfl rfl rfl rfl rfl trivial ⟨⟨trivial,trivial,trivial,trivial,trivial,trivial,trivial,trivial,trivial,trivial,trivial,trivial,trivial,trivial,trivial,trivial,trivial,trivial,trivial,trivial,trivial⟩,(fun _ _ _ _=>trivial),(fun _ _ _ _=>trivial),(fun _ _ _ _=>trivial),(fun _ _ _ _=>trivial),trivial⟩ rfl rfl rfl rfl) rfl ?_
 refine ad aa 1 rfl ?_
 refine af ?_
 refine aF aa 1 rfl ?_
 refine aA (aM rfl rfl rfl (show _=some (Value.bool false) from rfl)) rfl ?_
 refine af ?_
 refine aj rfl (fun hno=>by cases hno) (fun _=>?_)
 refine aS ?_
 have hL:=hi0_1;rw [DS (by omega)] at hL
 have okU:=ok.Gy hr0 hL
 refine aF aa 1 rfl ?_
 obtain ⟨b25,hr5⟩:∃ (b25:Bk),gD (⟨b.time,false,cs,b.due,xs,b.s0,b.s1,b.n0,b.n1,b.w0,b.w1,xr0,b.aP,b.book⟩:Bk)=b25:=⟨_,rfl⟩
 refine aQ 24 [0,20,21,22,23,6,5] (cr (bf [0,16,17,18,19]) (bf [0,20,21,22,23]) (ms:=[some (cI b.time),some (cB false),some (.s 1 0 6 cs.length),some (.s 2 0 1 b.due.length),some (.s 3 0 8 xs.length),some (cI b.s0.bX),some (dj b.s0.kept),some (cI b.s1.bX),some (dj b.s1.kept),some (cI b.n0),some (cI b.n1),some (eu b.w0),some (eu b.w1),some (cI xr0.cap),some (gM xr0.used),some (iq xr0.bd),some (.s 4 0 4 b.aP.length),none,some (dW b.book),none]) (ms':=(jo b25 1 2 3 4 none none)) (fun x hx=>Bm x hx (⟨b.time,false,cs,b.due,xs,b.s0,b.s1,b.n0,b.n1,b.w0,b.w1,xr0,b.aP,b.book⟩:Bk) (by first|assumption|exact cu.tick (by assumption) (by omega) (by omega)) b25 hr5) FL rfl rfl ⟨⟨_,rfl,.inl ⟨rfl,rfl⟩⟩,trivial⟩ rfl rfl rfl rfl rfl rfl rfl ⟨rfl,rfl,rfl,rfl,trivial⟩ rfl rfl rfl rfl rfl rfl rfl rfl rfl rfl rfl rfl rfl) rfl ?_
 refine af ?_
 refine ae aa 2 rfl ?_
 refine az ?_
 have hX:ir b=(b25,(⟨0,0⟩:Answer)):=by
   rw [EI (by cases hd:b.down<;>simp_all) hr0 hL,hr5]
 rw [hX] at hr;clear hX
 simp only [Prod.mk.injEq] at hr;obtain ⟨rfl,rfl⟩:=hr
 refine al aa [0,20,21,22,23,5] 5 rfl rfl rfl rfl rfl rfl ?_ ?_
 all_goals first|rfl|(simp [aw,aW,bh];done)|(simp [aw,aW,bh];omega)

theorem Iv (x:Nat->Value) (hx:∀ i,(x i).oneCell'=true) (b:Bk) (days:List (List Int)) (d:bx) (ok:cu b) (hy:days.length<=1000) (b2:Bk) (y2:List (List Int)) (a2:Answer) (hr:dk b days d=(b2,y2,a2)):cJ Try.prog 56 [(.c (.p 0 0 0 0)),(.c (.q (dg d) 0))] [(0,(.box 98 (aW b 1 2 3 4 (.s 5 0 1 days.length) (.d (.v (x 19)))))),(1,(dT b.ay)),(2,(dM b.due)),(3,(ea b.au)),(4,(cM b.aP)),(5,(qC days))] [0] (.v (.g [cI a2.err,cI a2.ba])) [(0,(.box 98 (aW b2 1 2 3 4 (.s 5 0 1 y2.length) (.d (.v (x 19)))))),(1,(dT b2.ay)),(2,(dM b2.due)),(3,(ea b2.au)),(4,(cM b2.aP)),(5,(qC y2))]:=by
 refine cJ.mk 67 [(0,(aC (.p 0 0 0 0))),(1,(aC (.q (dg d) 0)))] 6 Try.func56 rfl rfl rfl rfl rfl rfl rfl rfl rfl ?_
 intro W0 F0 T0 pg
 obtain ⟨okt,okc,okd,oka,oky,okw0,okw1,okp,okv,okk0,okk1,okg,okl0,okl1,okp0,okp1,okn0,okn1,okq⟩:=id ok
 refine ae aa 1 rfl ?_
 refine ag ?_
 refine ae aa 4 rfl ?_
 refine aY ?_
 refine ae aa 2 rfl ?_
 refine aj rfl (fun hc1=>?_) (fun hc1=>?_)
 ·
  have hc1':=of_decide_eq_true hc1
  refine aF aa 2 rfl ?_
  obtain ⟨b20,a20,hr0⟩:∃ (b20:Bk) (a20:Answer),fc b d=(b20,a20):=⟨_,_,rfl⟩
  refine aQ 11 [0,7,8,9,10,6,5] (cr id (bf [0,7,8,9,10]) (ms:=(jo b 1 2 3 4 none none)) (ms':=(jo b20 1 2 3 4 none none)) (fun x hx=>Gh x hx b d (by first|assumption|exact cu.tick (by assumption) (by omega) (by omega)) b20 a20 hr0) Ig rfl rfl ⟨⟨_,rfl,.inl ⟨rfl,rfl⟩⟩,⟨_,rfl,.inl ⟨rfl,rfl⟩⟩,trivial⟩ rfl rfl rfl rfl rfl rfl rfl ⟨rfl,rfl,rfl,rfl,trivial⟩ rfl rfl rfl rfl rfl rfl rfl rfl rfl rfl rfl rfl rfl) rfl ?_
  refine ad aa 1 rfl ?_
  refine af ?_
  refine az ?_
  refine bc ?_
  refine an ?_
  have hX:dk b days d=(b20,days,a20):=by
    unfold dk;(repeat' (first|rw [if_pos (by omega)]|rw [if_neg (by omega)]|fail))<;>first|rfl|(simp only [hr0];done)|(simp only [hr0];rfl)|(simp_all;done)
  rw [hX] at hr;clear hX
  simp only [Prod.mk.injEq] at hr;obtain ⟨rfl,rfl,rfl⟩:=hr
  refine al aa [0,7,8,9,10,5,6] 6 rfl rfl rfl rfl rfl rfl ?_ ?_
  all_goals first|rfl|(simp [aw,aW,bh];done)|(simp [aw,aW,bh];omega)
 have hc1':=of_decide_eq_false hc1
 refine ae aa 2 rfl ?_
 refine aj rfl (fun hc2=>?_) (fun hc2=>?_)
 ·
  have hc2':=of_decide_eq_true hc2
  refine aF aa 2 rfl ?_
  obtain ⟨b21,a21,hr1⟩:∃ (b21:Bk) (a21:Answer),dy b d=(b21,a21):=⟨_,_,rfl⟩
  refine aQ 11 [0,7,8,9,10,6,5] (cr id (bf [0,7,8,9,10]) (ms:=(jo b 1 2 3 4 none none)) (ms':=(jo b21 1 2 3 4 none none)) (fun x hx=>Hm x hx b d (by first|assumption|exact cu.tick (by assumption) (by omega) (by omega)) b21 a21 hr1) Ie rfl rfl ⟨⟨_,rfl,.inl ⟨rfl,rfl⟩⟩,⟨_,rfl,.inl ⟨rfl,rfl⟩⟩,trivial⟩ rfl rfl rfl rfl rfl rfl rfl ⟨rfl,rfl,rfl,rfl,trivial⟩ rfl rfl rfl rfl rfl rfl rfl rfl rfl rfl rfl rfl rfl) rfl ?_
  refine ad aa 1 rfl ?_
  refine af ?_
  refine az ?_
  refine bc ?_
  refine an ?_
  have hX:dk b days d=(b21,days,a21):=by
    unfold dk;(repeat' (first|rw [if_pos (by omega)]|rw [if_neg (by omega)]|fail))<;>first|rfl|(simp only [hr1];done)|(simp only [hr1];rfl)|(simp_all;done)
  rw [hX] at hr;clear hX
  simp only [Prod.mk.injEq] at hr;obtain ⟨rfl,rfl,rfl⟩:=hr
  refine al aa [0,7,8,9,10,5,6] 6 rfl rfl rfl rfl rfl rfl ?_ ?_
  all_goals first|rfl|(simp [aw,aW,bh];done)|(simp [aw,aW,bh];omega)
 have hc2':=of_decide_eq_false hc2
 refine ae aa 2 rfl ?_
 refine aj rfl (fun hc3=>?_) (fun hc3=>?_)
 ·
  have hc3':=of_decide_eq_true hc3
  refine aF aa 2 rfl ?_
  obtain ⟨b22,a22,hr2⟩:∃ (b22:Bk) (a22:Answer),dh b d=(b22,a22):=⟨_,_,rfl⟩
  refine aQ 11 [0,7,8,9,10,6,5] (cr id (bf [0,7,8,9,10]) (ms:=(jo b 1 2 3 4 none none)) (ms':=(jo b22 1 2 3 4 none none)) (fun x hx=>Df x hx b d (by first|assumption|exact cu.tick (by assumption) (by omega) (by omega)) b22 a22 hr2) Ic rfl rfl ⟨⟨_,rfl,.inl ⟨rfl,rfl⟩⟩,⟨_,rfl,.inl ⟨rfl,rfl⟩⟩,trivial⟩ rfl rfl rfl rfl rfl rfl rfl ⟨rfl,rfl,rfl,rfl,trivial⟩ rfl rfl rfl rfl rfl rfl rfl rfl rfl rfl rfl rfl rfl) rfl ?_
  refine ad aa 1 rfl ?_
  refine af ?_
  refine az ?_
  refine bc ?_
  refine an ?_
  have hX:dk b days d=(b22,days,a22):=by
    unfold dk;(repeat' (first|rw [if_pos (by omega)]|rw [if_neg (by omega)]|fail))<;>first|rfl|(simp only [hr2];done)|(simp only [hr2];rfl)|(simp_all;done)
  rw [hX] at hr;clear hX
  simp only [Prod.mk.injEq] at hr;obtain ⟨rfl,rfl,rfl⟩:=hr
  refine al aa [0,7,8,9,10,5,6] 6 rfl rfl rfl rfl rfl rfl ?_ ?_
  all_goals first|rfl|(simp [aw,aW,bh];done)|(simp [aw,aW,bh];omega)
 have hc3':=of_decide_eq_false hc3
 refine ae aa 2 rfl ?_
 refine aj rfl (fun hc4=>?_) (fun hc4=>?_)
 ·
  have hc4':=of_decide_eq_true hc4
  refine aF aa 2 rfl ?_
  obtain ⟨b23,a23,hr3⟩:∃ (b23:Bk) (a23:Answer),eF b d=(b23,a23):=⟨_,_,rfl⟩
  refine aQ 11 [0,7,8,9,10,6,5] (cr id (bf [0,7,8,9,10]) (ms:=(jo b 1 2 3 4 none none)) (ms':=(jo b23 1 2 3 4 none none)) (fun x hx=>Gc x hx b d (by first|assumption|exact cu.tick (by assumption) (by omega) (by omega)) b23 a23 hr3) Ib rfl rfl ⟨⟨_,rfl,.inl ⟨rfl,rfl⟩⟩,⟨_,rfl,.inl ⟨rfl,rfl⟩⟩,trivial⟩ rfl rfl rfl rfl rfl rfl rfl ⟨rfl,rfl,rfl,rfl,trivial⟩ rfl rfl rfl rfl rfl rfl rfl rfl rfl rfl rfl rfl rfl) rfl ?_
  refine ad aa 1 rfl ?_
  refine af ?_
  refine az ?_
  refine bc ?_
  refine an ?_
  have hX:dk b days d=(b23,days,a23):=by
    unfold dk;(repeat' (first|rw [if_pos (by omega)]|rw [if_neg (by omega)]|fail))<;>first|rfl|(simp only [hr3];done)|(simp only [hr3];rfl)|(simp_all;done)
  rw [hX] at hr;clear hX
  simp only [Prod.mk.injEq] at hr;obtain ⟨rfl,rfl,rfl⟩:=hr
  refine al aa [0,7,8,9,10,5,6] 6 rfl rfl rfl rfl rfl rfl ?_ ?_
  all_goals first|rfl|(simp [aw,aW,bh];done)|(simp [aw,aW,bh];omega)
 have hc4':=of_decide_eq_false hc4
 refine ae aa 2 rfl ?_
 refine aj rfl (fun hc5=>?_) (fun hc5=>?_)
 ·
  have hc5':=of_decide_eq_true hc5
  refine aF aa 2 rfl ?_
  obtain ⟨v04,v14,a24,hr4⟩:∃ (v04:List cp) (v14:List cp) (a24:Answer),ei b.s0 b.s1 b.n0 b.n1 b.w0 b.w1 d=(v04,v14,a24):=⟨_,_,_,rfl⟩
  refine aQ 7 [0,6,1,2,3,4,5] (cr id id (ms:=[none,none,none,none,none,some (cI b.s0.bX),some (dj b.s0.kept),some (cI b.s1.bX),some (dj b.s1.kept),some (cI b.n0),some (cI b.n1),some (eu b.w0),some (eu b.w1),none,none,none,none,none,none,none]) (ms':=[none,none,none,none,none,some (cI b.s0.bX),some (dj b.s0.kept),some (cI b.s1.bX),some (dj b.s1.kept),some (cI b.n0),some (cI b.n1),some (eu v04),some (eu v14),none,none,none,none,none,none,none]) (fun x hx=>Ez x hx b.s0 b.s1 b.n0 b.n1 b.w0 b.w1 d (by first|omega|(simp;done)|(simp;omega)) (by first|omega|(simp;done)|(simp;omega)) (by first|omega|(simp;done)|(simp;omega)) (by first|omega|(simp;done)|(simp;omega)) v04 v14 a24 hr4) Ia rfl rfl ⟨⟨_,rfl,.inl ⟨rfl,rfl⟩⟩,⟨_,rfl,.inl ⟨rfl,rfl⟩⟩,trivial⟩ rfl rfl rfl rfl rfl rfl rfl trivial rfl rfl rfl rfl rfl rfl rfl rfl rfl rfl rfl rfl rfl) rfl ?_
  refine ad aa 1 rfl ?_
  refine af ?_
  refine az ?_
  refine bc ?_
  refine an ?_
  have hX:dk b days d=((⟨b.time,b.down,b.ay,b.due,b.au,b.s0,b.s1,b.n0,b.n1,v04,v14,b.bG,b.aP,b.book⟩:Bk),days,a24):=by
    unfold dk;(repeat' (first|rw [if_pos (by omega)]|rw [if_neg (by omega)]|fail))<;>first|rfl|(simp only [hr4];done)|(simp only [hr4];rfl)|(simp_all;done)
  rw [hX] at hr;clear hX
  simp only [Prod.mk.injEq] at hr;obtain ⟨rfl,rfl,rfl⟩:=hr
  refine al aa [0,1,2,3,4,5,6] 6 rfl rfl rfl rfl rfl rfl ?_ ?_
  all_goals first|rfl|(simp [aw,aW,bh];done)|(simp [aw,aW,bh];omega)
 have hc5':=of_decide_eq_false hc5
 refine ag ?_
 refine ae aa 2 rfl ?_
 refine aj rfl (fun hc6=>?_) (fun hc6=>?_)
 ·
  have hc6':=of_decide_eq_true hc6
  refine aS ?_
  refine aj rfl (fun _=>?_) (fun hno=>absurd (hc6.symm.trans hno) (by decide))
  refine aF aa 2 rfl ?_
  obtain ⟨b25,a25,hr5⟩:∃ (b25:Bk) (a25:Answer),cj b d=(b25,a25):=⟨_,_,rfl⟩
  refine aQ 11 [0,7,8,9,10,6,5] (cr id (bf [0,7,8,9,10]) (ms:=(jo b 1 2 3 4 none none)) (ms':=(jo b25 1 2 3 4 none none)) (fun x hx=>wI x hx b d (by assumption) b25 a25 hr5) FO rfl rfl ⟨⟨_,rfl,.inl ⟨rfl,rfl⟩⟩,⟨_,rfl,.inl ⟨rfl,rfl⟩⟩,trivial⟩ rfl rfl rfl rfl rfl rfl rfl ⟨rfl,rfl,rfl,rfl,trivial⟩ rfl rfl rfl rfl rfl rfl rfl rfl rfl rfl rfl rfl rfl) rfl ?_
  refine ad aa 1 rfl ?_
  refine af ?_
  refine az ?_
  refine bc ?_
  refine an ?_
  have hX:dk b days d=(b25,days,a25):=by
    unfold dk;(repeat' (first|rw [if_pos (by omega)]|rw [if_neg (by omega)]|fail))<;>first|rfl|(simp only [hr5];done)|(simp only [hr5];rfl)|(simp_all;done)
  rw [hX] at hr;clear hX
  simp only [Prod.mk.injEq] at hr;obtain ⟨rfl,rfl,rfl⟩:=hr
  refine al aa [0,7,8,9,10,5,6] 6 rfl rfl rfl rfl rfl rfl ?_ ?_
  all_goals first|rfl|(simp [aw,aW,bh];done)|(simp [aw,aW,bh];omega)
 have hc6':=of_decide_eq_false hc6
 refine ax ?_
 refine ad aa 2 rfl ?_
 refine af ?_
 refine aj rfl (fun hc8=>?_) (fun hc8=>?_)
 ·
  have hc8':=of_decide_eq_true hc8
  refine aF aa 2 rfl ?_
  obtain ⟨b26,a26,hr6⟩:∃ (b26:Bk) (a26:Answer),cj b d=(b26,a26):=⟨_,_,rfl⟩
  refine aQ 11 [0,7,8,9,10,6,5] (cr id (bf [0,7,8,9,10]) (ms:=(jo b 1 2 3 4 none none)) (ms':=(jo b26 1 2 3 4 none none)) (fun x hx=>wI x hx b d (by assumption) b26 a26 hr6) FO rfl rfl ⟨⟨_,rfl,.inl ⟨rfl,rfl⟩⟩,⟨_,rfl,.inl ⟨rfl,rfl⟩⟩,trivial⟩ rfl rfl rfl rfl rfl rfl rfl ⟨rfl,rfl,rfl,rfl,trivial⟩ rfl rfl rfl rfl rfl rfl rfl rfl rfl rfl rfl rfl rfl) rfl ?_
  refine ad aa 1 rfl ?_
  refine af ?_
  refine az ?_
  refine bc ?_
  refine an ?_
  have hX:dk b days d=(b26,days,a26):=by
    unfold dk;(repeat' (first|rw [if_pos (by omega)]|rw [if_neg (by omega)]|fail))<;>first|rfl|(simp only [hr6];done)|(simp only [hr6];rfl)|(simp_all;done)
  rw [hX] at hr;clear hX
  simp only [Prod.mk.injEq] at hr;obtain ⟨rfl,rfl,rfl⟩:=hr
  refine al aa [0,7,8,9,10,5,6] 6 rfl rfl rfl rfl rfl rfl ?_ ?_
  all_goals first|rfl|(simp [aw,aW,bh];done)|(simp [aw,aW,bh];omega)
 have hc8':=of_decide_eq_false hc8
 refine ae aa 2 rfl ?_
 refine aj rfl (fun hc9=>?_) (fun hc9=>?_)
 ·
  have hc9':=of_decide_eq_true hc9
  refine ag ?_
  refine ae aa 5 rfl ?_
  refine aj rfl (fun hc10=>?_) (fun hc10=>?_)
  ·
   have hc10':=hc10;try simp only [br,bR] at hc10'
   refine ae aa 2 rfl ?_
   refine az ?_
   refine an ?_
   refine bc ?_
   refine an ?_
   have hX:dk b days d=(b,days,(⟨8,0⟩:Answer)):=by
     unfold dk;(repeat' (first|rw [if_pos (by omega)]|rw [if_neg (by omega)]|fail))<;>first|rfl|(simp_all;done)
   rw [hX] at hr;clear hX
   simp only [Prod.mk.injEq] at hr;obtain ⟨rfl,rfl,rfl⟩:=hr
   refine al aa [0,1,2,3,4,5,6] 6 rfl rfl rfl rfl rfl rfl ?_ ?_
   all_goals first|rfl|(simp [aw,aW,bh];done)|(simp [aw,aW,bh];omega)
  have hc10':=hc10;try simp only [br,bR] at hc10'
  refine aS ?_
  refine ae aa 5 rfl ?_
  refine ae aa 2 rfl ?_
  refine az ?_
  refine bc ?_
  refine an ?_
  have hX:dk b days d=((⟨b.time,true,b.ay,b.due,b.au,b.s0,b.s1,b.n0,b.n1,b.w0,b.w1,b.bG,b.aP,b.book⟩:Bk),days,(⟨0,0⟩:Answer)):=by
    unfold dk;(repeat' (first|rw [if_pos (by omega)]|rw [if_neg (by omega)]|fail))<;>first|rfl|(simp_all;done)
  rw [hX] at hr;clear hX
  simp only [Prod.mk.injEq] at hr;obtain ⟨rfl,rfl,rfl⟩:=hr
  refine al aa [0,1,2,3,4,5,6] 6 rfl rfl rfl rfl rfl rfl ?_ ?_
  all_goals first|rfl|(simp [aw,aW,bh];done)|(simp [aw,aW,bh];omega)
 have hc9':=of_decide_eq_false hc9
 refine ae aa 2 rfl ?_
 refine aj rfl (fun hc11=>?_) (fun hc11=>?_)
 ·
  have hc11':=of_decide_eq_true hc11
  refine aF aa 1 rfl ?_
  obtain ⟨b27,a27,hr7⟩:∃ (b27:Bk) (a27:Answer),ir b=(b27,a27):=⟨_,_,rfl⟩
  refine aQ 11 [0,7,8,9,10,6,5] (cr id (bf [0,7,8,9,10]) (ms:=(jo b 1 2 3 4 none none)) (ms':=(jo b27 1 2 3 4 none none)) (fun x hx=>Iu x hx b (by first|assumption|exact cu.tick (by assumption) (by omega) (by omega)) b27 a27 hr7) HZ rfl rfl ⟨⟨_,rfl,.inl ⟨rfl,rfl⟩⟩,trivial⟩ rfl rfl rfl rfl rfl rfl rfl ⟨rfl,rfl,rfl,rfl,trivial⟩ rfl rfl rfl rfl rfl rfl rfl rfl rfl rfl rfl rfl rfl) rfl ?_
  refine ad aa 1 rfl ?_
  refine af ?_
  refine az ?_
  refine bc ?_
  refine an ?_
  have hX:dk b days d=(b27,days,a27):=by
    unfold dk;(repeat' (first|rw [if_pos (by omega)]|rw [if_neg (by omega)]|fail))<;>first|rfl|(simp only [hr7];done)|(simp only [hr7];rfl)|(simp_all;done)
  rw [hX] at hr;clear hX
  simp only [Prod.mk.injEq] at hr;obtain ⟨rfl,rfl,rfl⟩:=hr
  refine al aa [0,7,8,9,10,5,6] 6 rfl rfl rfl rfl rfl rfl ?_ ?_
  all_goals first|rfl|(simp [aw,aW,bh];done)|(simp [aw,aW,bh];omega)
 have hc11':=of_decide_eq_false hc11
 refine ae aa 2 rfl ?_
 refine aj rfl (fun hc12=>?_) (fun hc12=>?_)
 ·
  have hc12':=of_decide_eq_true hc12
  refine aF aa 1 rfl ?_
  obtain ⟨today28,days28,a28,hr8⟩:∃ (today28:List ah) (days28:List (List Int)) (a28:Answer),fZ b.aP days=(today28,days28,a28):=⟨_,_,_,rfl⟩
  refine aQ 9 [0,7,8,6,1,2,3] (cr (bf [0,4,5]) (bf [0,7,8]) (ms:=((dE.set 16 (some (.s 1 0 4 b.aP.length))).set 17 (some (.s 2 0 1 days.length)))) (ms':=((dE.set 16 (some (.s 1 0 4 today28.length))).set 17 (some (.s 2 0 1 days28.length)))) (fun x hx=>Ge x hx b.aP days (by first|omega|(simp;done)|(simp;omega)) (by first|omega|(simp;done)|(simp;omega)) today28 days28 a28 hr8) HY rfl rfl ⟨⟨_,rfl,.inl ⟨rfl,rfl⟩⟩,trivial⟩ rfl rfl rfl rfl rfl rfl rfl ⟨rfl,rfl,trivial⟩ rfl rfl rfl rfl rfl rfl rfl rfl rfl rfl rfl rfl rfl) rfl ?_
  refine ad aa 1 rfl ?_
  refine af ?_
  refine az ?_
  refine bc ?_
  refine an ?_
  have hX:dk b days d=((⟨b.time,b.down,b.ay,b.due,b.au,b.s0,b.s1,b.n0,b.n1,b.w0,b.w1,b.bG,today28,b.book⟩:Bk),days28,a28):=by
    unfold dk;(repeat' (first|rw [if_pos (by omega)]|rw [if_neg (by omega)]|fail))<;>first|rfl|(simp only [hr8];done)|(simp only [hr8];rfl)|(simp_all;done)
  rw [hX] at hr;clear hX
  simp only [Prod.mk.injEq] at hr;obtain ⟨rfl,rfl,rfl⟩:=hr
  refine al aa [0,1,2,3,7,8,6] 6 rfl rfl rfl rfl rfl rfl ?_ ?_
  all_goals first|rfl|(simp [aw,aW,bh];done)|(simp [aw,aW,bh];omega)
 have hc12':=of_decide_eq_false hc12
 refine ae aa 2 rfl ?_
 refine aj rfl (fun hc13=>?_) (fun hc13=>?_)
 ·
  have hc13':=of_decide_eq_true hc13
  refine aF aa 2 rfl ?_
  obtain ⟨b29,a29,hr9⟩:∃ (b29:Bk) (a29:Answer),fT b d=(b29,a29):=⟨_,_,rfl⟩
  refine aQ 11 [0,7,8,9,10,6,5] (cr id (bf [0,7,8,9,10]) (ms:=(jo b 1 2 3 4 none none)) (ms':=(jo b29 1 2 3 4 none none)) (fun x hx=>Hl x hx b d (by first|assumption|exact cu.tick (by assumption) (by omega) (by omega)) b29 a29 hr9) HX rfl rfl ⟨⟨_,rfl,.inl ⟨rfl,rfl⟩⟩,⟨_,rfl,.inl ⟨rfl,rfl⟩⟩,trivial⟩ rfl rfl rfl rfl rfl rfl rfl ⟨rfl,rfl,rfl,rfl,trivial⟩ rfl rfl rfl rfl rfl rfl rfl rfl rfl rfl rfl rfl rfl) rfl ?_
  refine ad aa 1 rfl ?_
  refine af ?_
  refine az ?_
  refine bc ?_
  refine an ?_
  have hX:dk b days d=(b29,days,a29):=by
    unfold dk;(repeat' (first|rw [if_pos (by omega)]|rw [if_neg (by omega)]|fail))<;>first|rfl|(simp only [hr9];done)|(simp only [hr9];rfl)|(simp_all;done)
  rw [hX] at hr;clear hX
  simp only [Prod.mk.injEq] at hr;obtain ⟨rfl,rfl,rfl⟩:=hr
  refine al aa [0,7,8,9,10,5,6] 6 rfl rfl rfl rfl rfl rfl ?_ ?_
  all_goals first|rfl|(simp [aw,aW,bh];done)|(simp [aw,aW,bh];omega)
 have hc13':=of_decide_eq_false hc13
 refine da ?_
 refine bm ?_
 refine then_ok ?_
 refine ae aa 2 rfl ?_
 refine az ?_
 have hX:dk b days d=(b,days,(⟨1,0⟩:Answer)):=by
   unfold dk;(repeat' (first|rw [if_pos (by omega)]|rw [if_neg (by omega)]|fail))<;>first|rfl|(simp_all;done)
 rw [hX] at hr;clear hX
 simp only [Prod.mk.injEq] at hr;obtain ⟨rfl,rfl,rfl⟩:=hr
 refine al aa [0,1,2,3,4,5,6] 6 rfl rfl rfl rfl rfl rfl ?_ ?_
 all_goals first|rfl|(simp [aw,aW,bh];done)|(simp [aw,aW,bh];omega)

theorem Gf (x:Nat->Value) (hx:∀ i,(x i).oneCell'=true) (b:Bk) (days:List (List Int)) (told:List (Int×Answer)) (cl:Nat) (d:bx) (ok:cu b) (hy:days.length<=1000) (b2:Bk) (y2:List (List Int)) (t2:List (Int×Answer)) (c2:Nat) (a2:Answer) (hr:dG b days told cl d=(b2,y2,t2,c2,a2)):cJ Try.prog 42 [(.c (.p 0 0 0 0)),(.c (.q (dg d) 0))] [(0,(.box 98 (aW b 1 2 3 4 (.s 5 0 1 days.length) (.m 6)))),(1,(dT b.ay)),(2,(dM b.due)),(3,(ea b.au)),(4,(cM b.aP)),(5,(qC days)),(6,(.map (tV told) cl))] [0] (.v (.g [cI a2.err,cI a2.ba])) [(0,(.box 98 (aW b2 1 2 3 4 (.s 5 0 1 y2.length) (.m 6)))),(1,(dT b2.ay)),(2,(dM b2.due)),(3,(ea b2.au)),(4,(cM b2.aP)),(5,(qC y2)),(6,(.map (tV t2) c2))]:=by
 refine cJ.mk 42 [(0,(aC (.p 0 0 0 0))),(1,(aC (.q (dg d) 0)))] 7 Try.func42 rfl rfl rfl rfl rfl rfl rfl rfl rfl ?_
 intro W0 F0 T0 pg
 obtain ⟨okt,okc,okd,oka,oky,okw0,okw1,okp,okv,okk0,okk1,okg,okl0,okl1,okp0,okp1,okn0,okn1,okq⟩:=id ok
 refine ae aa 1 rfl ?_
 refine ag ?_
 refine ag ?_
 refine df [0,1,4] [7,0,1,2,3,4,5,6] mixed rfl rfl ?_
 refine bT (kn:=[]) aa 8 rfl trivial ?_
 refine bW (n':=8) [12,16] [6] rfl rfl (.inl ⟨(ak.plain rfl),aK.cast (AU (ps:=told) Try.underlying96 Try.underlying3 Hx rfl rfl rfl rfl) rfl⟩) rfl ?_
 refine bT (n':=9) (kn:=[]) aa 6 rfl trivial ?_
 refine dU [0,1,4,5,6] [8,7,0,1,2,3,4,5,6] rfl rfl (by kernel_rfl) ?_
 refine then_ok ?_
 refine cw 27 (((ft told d.id).isSome) && (decide (¬d.id=0))) ?_ ?_
 ·
  refine ax ?_
  refine ad aa 2 rfl ?_
  refine bE (t:=21) rfl (fun hb1=>?_) (fun hb1=>?_)
  ·
   have hb1':=hb1;try simp only [br,bR] at hb1'
   refine ad aa 6 rfl ?_
   refine af ?_
   exact aH.bD 9 rfl rfl (by first|(simp [hb1];done)|(simp_all;done)|(exfalso;simp_all;done)|(simp_all;omega)) rfl
  have hb1':=hb1;try simp only [br,bR] at hb1'
  refine ad aa 6 rfl ?_
  refine af ?_
  exact aH.bD 9 rfl rfl (by first|(simp [hb1];done)|(simp_all;done)|(exfalso;simp_all;done)|(simp_all;omega)) rfl
 refine aj rfl (fun hc2=>?_) (fun hc2=>?_)
 ·
  have hc2':=hc2;try simp only [br,bR] at hc2'
  refine ae aa 2 rfl ?_
  refine az ?_
  refine an ?_
  have hX:dG b days told cl d=(b,days,told,cl,((ft told d.id).getD ⟨0,0⟩)):=by
    unfold dG;(repeat' split)<;>first|rfl|omega|(exfalso;omega)|(simp_all;done)|(simp_all;omega)
  rw [hX] at hr;clear hX
  simp only [Prod.mk.injEq] at hr;obtain ⟨rfl,rfl,rfl,rfl,rfl⟩:=hr
  refine al aa [0,1,2,3,4,5,6,7] 7 rfl rfl rfl rfl rfl rfl ?_ ?_
  all_goals first|rfl|(simp [aw,aW,bh];done)|(simp [aw,aW,bh];omega)
 have hc2':=hc2;try simp only [br,bR] at hc2'
 refine aS ?_
 refine aF aa 2 rfl ?_
 obtain ⟨b20,y20,a20,hr0⟩:∃ (b20:Bk) (y20:List (List Int)) (a20:Answer),dk b days d=(b20,y20,a20):=⟨_,_,_,rfl⟩
 refine aQ 14 [0,9,10,11,12,13,8,7,6] (cr id (bf [0,9,10,11,12,13]) (ms:=(jo b 1 2 3 4 (some (.s 5 0 1 days.length)) none)) (ms':=(jo b20 1 2 3 4 (some (.s 5 0 1 y20.length)) none)) (fun x hx=>Iv x hx b days d (by first|assumption|exact cu.tick (by assumption) (by omega) (by omega)) (by first|omega|(simp;done)|(simp;omega)) b20 y20 a20 hr0) Ij rfl rfl ⟨⟨_,rfl,.inl ⟨rfl,rfl⟩⟩,⟨_,rfl,.inl ⟨rfl,rfl⟩⟩,trivial⟩ rfl rfl rfl rfl rfl rfl rfl ⟨rfl,rfl,rfl,rfl,rfl,trivial⟩ rfl rfl rfl rfl rfl rfl rfl rfl rfl rfl rfl rfl rfl) rfl ?_
 refine ad aa 2 rfl ?_
 refine af ?_
 refine ag ?_
 refine aX [0,1,4,7] [14,0,9,10,11,12,13,7,6] mixed rfl rfl ?_
 refine aD (kn:=[]) aa 9 rfl trivial ?_
 refine bA [14,0,9,10,11,12,13,7,6] rfl rfl rfl rfl (by kernel_rfl) ?_
 refine gj [14,0,9,10,11,12,13,7,6] (AQ Try.underlying96 Try.underlying3 rfl rfl rfl rfl rfl) rfl ?_
 refine af ?_
 refine ae aa 2 rfl ?_
 refine az ?_
 have hX:dG b days told cl d=(b20,y20,lq told d.id a20,if (ft told d.id).isSome then cl else cl+1,a20):=by
   unfold dG;simp only [hr0];(repeat' split)<;>first|rfl|omega|(exfalso;omega)|(simp_all;done)|(simp_all;omega)
 rw [hX] at hr;clear hX
 simp only [Prod.mk.injEq] at hr;obtain ⟨rfl,rfl,rfl,rfl,rfl⟩:=hr
 refine al aa [0,9,10,11,12,13,6,7] 7 rfl rfl rfl rfl rfl rfl ?_ ?_
 all_goals first|rfl|(simp [aw,aW,bh];done)|(simp [aw,aW,bh];omega)

theorem wH (s:Setup) (f:cW) (hr:er s=f):Fn Try.prog 40 [(.g [(cR 3 ((s.cZ).map hM)),(cI s.gT),(cI s.cap)])] (.v (.g [(cI f.err),(cI f.at_)])) []:=by
 refine Fn.mk' 47 [(0,(aG [(cR 3 ((s.cZ).map hM)),(cI s.gT),(cI s.cap)]))] Try.func40 rfl rfl rfl rfl ?_
 intro W0 T0
 refine fr 0 0 rfl rfl (fun hlen0_0=>?_)
 refine ae aa 2 rfl ?_
 refine ag ?_
 refine cw 19 (((decide ((↑s.cZ.length:Int) > 8))||(decide (s.gT < 0)))||(decide (s.gT > 8))) ?_ ?_
 ·
  refine ax ?_
  refine ad aa 2 rfl ?_
  refine aA (cF rfl rfl rfl rfl rfl Try.underlying53) rfl ?_
  refine ad aa 2 rfl ?_
  refine bE (t:=10) rfl (fun hb1=>?_) (fun hb1=>?_)
  ·
   have hb1':=of_decide_eq_true hb1
   refine ad aa 9 rfl ?_
   refine af ?_
   exact aH.bD 15 rfl rfl (by first|(simp [hb1];done)|(simp_all;done)|(exfalso;simp_all;done)|(simp_all;omega)) rfl
  have hb1':=of_decide_eq_false hb1
  refine ad aa 5 rfl ?_
  refine bE (t:=15) rfl (fun hb2=>?_) (fun hb2=>?_)
  ·
   have hb2':=of_decide_eq_true hb2
   refine ad aa 4 rfl ?_
   refine af ?_
   exact aH.bD 16 rfl rfl (by first|(simp [hb1,hb2];done)|(simp_all;done)|(exfalso;simp_all;done)|(simp_all;omega)) rfl
  have hb2':=of_decide_eq_false hb2
  refine ad aa 4 rfl ?_
  refine af ?_
  exact aH.bD 16 rfl rfl (by first|(simp [hb1,hb2];done)|(simp_all;done)|(exfalso;simp_all;done)|(simp_all;omega)) rfl
 refine aj rfl (fun hc3=>?_) (fun hc3=>?_)
 ·
  have hc3':=hc3;try simp only [br,bR] at hc3'
  refine ae aa 2 rfl ?_
  refine az ?_
  refine an ?_
  have hX:er s=(⟨5,0⟩:cW):=by
    unfold er;rw [if_pos (by omega)]
  rw [hX] at hr;clear hX
  subst hr
  refine al aa [1] 0 rfl rfl rfl rfl rfl rfl ?_ ?_
  all_goals first|rfl|(simp [aw,aW,bh];done)|(simp [aw,aW,bh];omega)
 have hc3':=hc3;try simp only [br,bR] at hc3'
 refine aS ?_
 refine ag ?_
 refine cw 28 ((decide (s.cap < 0))||(decide (s.cap > 1000000))) ?_ ?_
 ·
  refine ax ?_
  refine ad aa 4 rfl ?_
  refine bE (t:=24) rfl (fun hb4=>?_) (fun hb4=>?_)
  ·
   have hb4':=of_decide_eq_true hb4
   refine ad aa 4 rfl ?_
   refine af ?_
   exact aH.bD 9 rfl rfl (by first|(simp [hb4];done)|(simp_all;done)|(exfalso;simp_all;done)|(simp_all;omega)) rfl
  have hb4':=of_decide_eq_false hb4
  refine ad aa 4 rfl ?_
  refine af ?_
  exact aH.bD 9 rfl rfl (by first|(simp [hb4];done)|(simp_all;done)|(exfalso;simp_all;done)|(simp_all;omega)) rfl
 refine aj rfl (fun hc5=>?_) (fun hc5=>?_)
 ·
  have hc5':=hc5;try simp only [br,bR] at hc5'
  refine ae aa 2 rfl ?_
  refine az ?_
  refine an ?_
  have hX:er s=(⟨3,0⟩:cW):=by
    unfold er;rw [if_neg (by omega),if_pos (by omega)]
  rw [hX] at hr;clear hX
  subst hr
  refine al aa [1] 0 rfl rfl rfl rfl rfl rfl ?_ ?_
  all_goals first|rfl|(simp [aw,aW,bh];done)|(simp [aw,aW,bh];omega)
 have hc5':=hc5;try simp only [br,bR] at hc5'
 refine aS ?_
 refine ag ?_
 refine aF aa 2 rfl ?_
 refine aA (cF rfl rfl rfl rfl rfl Try.underlying53) rfl ?_
 refine ad aa 1 rfl ?_
 refine af ?_
 refine aY ?_
 refine cE (β:=Nat) (fun (q:Nat)=>⟨[(2,(aC (.p 1 0 0 0))),(31,(aC (cR 3 ((s.cZ).map hM)))),(32,(aI (↑s.cZ.length:Int))),(33,(aI (↑q:Int)))],[(1,(.box 50 [(cI 0),(cI 0)]))],2⟩) (fun (q:Nat)=>q<=s.cZ.length/\oI s.cZ 0=oI (s.cZ.drop q) q) (fun (q:Nat)=>s.cZ.length - q) 0 ?_ ?_ ?_
 ·exact ⟨by omega,rfl⟩
 ·exact aH.ca id (by refine ⟨?_,?_,?_,?_,trivial⟩<;>first|rfl|(simp only [bu];done)|(congr 3;omega)|(congr 4;omega)|(simp only [bw];rfl)) (⟨by first|rfl|(simp only [bu];done)|(congr 3;omega)|(congr 4;omega)|(simp only [bw];rfl),trivial⟩) rfl
 rintro q ⟨hi0_0,hi0_1⟩
 refine ae aa 1 rfl ?_
 refine ag ?_
 refine aj rfl (fun hc6=>?_) (fun hc6=>?_)
 ·
  have hc6':=of_decide_eq_true hc6
  refine aS ?_
  refine ag ?_
  refine aY ?_
  refine aF aa 1 rfl ?_
  obtain ⟨x1,hx1⟩:=cf (xs:=s.cZ) (i:=q) (by first|omega|(simp;done)|(simp;omega))
  refine aA (cD (i:=q) rfl rfl rfl Try.underlying53 EK (by first|omega|(simp;done)|(simp;omega)) (bp hx1)) rfl ?_
  refine ad aa 4 rfl ?_
  refine af ?_
  refine aF aa 1 rfl ?_
  obtain ⟨e0,hr0⟩:∃ (e0:Int),fC x1=e0:=⟨_,rfl⟩
  refine aQ 3 [2,1] (cb 3 (lA x1 e0 hr0) CO rfl rfl ⟨⟨_,rfl,.g ⟨.d _,.d _,.d _,trivial⟩⟩,trivial⟩ trivial trivial rfl rfl rfl rfl) rfl ?_
  refine ad aa 1 rfl ?_
  refine af ?_
  refine ae aa 2 rfl ?_
  refine aj rfl (fun hc7=>?_) (fun hc7=>?_)
  ·
   have hc7':=of_decide_eq_true hc7
   refine ae aa 4 rfl ?_
   refine az ?_
   refine bc ?_
   refine an ?_
   refine an ?_
   refine bc ?_
   refine an ?_
   have hX:er s=(⟨e0,(↑q:Int)⟩:cW):=by
     unfold er;rw [if_neg (by omega),if_neg (by omega),hi0_1,tW hx1,if_pos (by omega)];simp_all
   rw [hX] at hr;clear hX
   subst hr
   refine al aa [1] 0 rfl rfl rfl rfl rfl rfl ?_ ?_
   all_goals first|rfl|(simp [aw,aW,bh];done)|(simp [aw,aW,bh];omega)
  have hc7':=of_decide_eq_false hc7
  refine da ?_
  refine bm ?_
  refine then_ok ?_
  refine ax ?_
  refine aA (aM rfl rfl rfl (aL (by first|omega|(simp;done)|(simp;omega)))) rfl ?_
  refine ad aa 1 rfl ?_
  refine af ?_
  refine ⟨q+1,⟨by omega,by rw [hi0_1,tW hx1,if_neg (by omega)]⟩,by first|omega|(simp;done)|(simp;omega),aH.ca id (by refine ⟨?_,?_,?_,?_,trivial⟩<;>first|rfl|(simp only [bu];done)|(congr 3;omega)|(congr 4;omega)|(simp only [bw];rfl)) (⟨by first|rfl|(simp only [bu];done)|(congr 3;omega)|(congr 4;omega)|(simp only [bw];rfl),trivial⟩) rfl⟩
 have hc6':=of_decide_eq_false hc6
 refine cv ?_
 refine aU ?_
 refine aU ?_
 refine bS ?_
 refine then_ok ?_
 refine ae aa 2 rfl ?_
 refine az ?_
 have hX:er s=(⟨0,0⟩:cW):=by
   unfold er;rw [if_neg (by omega),if_neg (by omega),hi0_1,List.drop_of_length_le (by omega)];rfl
 rw [hX] at hr;clear hX
 subst hr
 refine al aa [1] 0 rfl rfl rfl rfl rfl rfl ?_ ?_
 all_goals first|rfl|(simp [aw,aW,bh];done)|(simp [aw,aW,bh];omega)

theorem Bt (s:Setup) (l:List bx) (b2:Bk) (y2:List (List Int)) (o2:List Answer) (f2:cW) (hr:hO s l=(b2,y2,o2,f2)):Fn Try.prog 22 [(.g [(cR 3 ((s.cZ).map hM)),(cI s.gT),(cI s.cap)]),(.c (rA l))] (.t [(.g [(cI b2.time),(cB b2.down),(.s 0 0 6 b2.ay.length),(.s 1 0 1 b2.due.length),(.s 2 0 8 b2.au.length),(cI b2.s0.bX),(dj b2.s0.kept),(cI b2.s1.bX),(dj b2.s1.kept),(cI b2.n0),(cI b2.n1),(eu b2.w0),(eu b2.w1),(cI b2.bG.cap),(gM b2.bG.used),(iq b2.bG.bd),(.s 3 0 4 b2.aP.length),(.s 4 0 1 y2.length),(dW b2.book)]),(.c (.s 5 0 2 o2.length)),(.g [(cI f2.err),(cI f2.at_)])]) [(0,(dT b2.ay)),(1,(dM b2.due)),(2,(ea b2.au)),(3,(cM b2.aP)),(4,(qC y2)),(5,(Gp o2))]:=by
 refine Fn.mk' 89 [(0,(aG [(cR 3 ((s.cZ).map hM)),(cI s.gT),(cI s.cap)])),(1,(aC (rA l)))] Try.func22 rfl rfl rfl rfl ?_
 intro W0 T0
 refine fr 0 0 rfl rfl (fun hlen0_0=>?_)
 refine dt 1 rfl (fun hlen1=>?_)
 refine ae aa 4 rfl ?_
 refine ag ?_
 refine aF aa 1 rfl ?_
 obtain ⟨f0,hr0⟩:∃ (f0:cW),er s=f0:=⟨_,rfl⟩
 refine aQ 3 [2,1,0] (cb 3 (wH s f0 hr0) Iq rfl rfl ⟨⟨_,rfl,.g ⟨.d _,.d _,.d _,trivial⟩⟩,trivial⟩ ⟨trivial,trivial,trivial⟩ trivial rfl rfl rfl rfl) rfl ?_
 refine ad aa 2 rfl ?_
 refine af ?_
 refine ae aa 3 rfl ?_
 refine aj rfl (fun hc1=>?_) (fun hc1=>?_)
 ·
  have hc1':=of_decide_eq_true hc1
  refine ag ?_
  refine df [1,2,4,6,7] [3,2,1,0] mixed rfl rfl ?_
  refine bT (kn:=[]) aa 5 rfl trivial ?_
  refine dU [1,2,4,6,5] [2,1,0] rfl rfl (by kernel_rfl) ?_
  refine then_ok ?_
  refine az ?_
  refine an ?_
  refine cm 1 2 61 6 rfl rfl rfl ?_
  refine cm 1 3 3 1 rfl rfl rfl ?_
  refine cm 1 4 67 8 rfl rfl rfl ?_
  refine fl 1 6 4 rfl rfl rfl ?_
  refine fl 1 8 4 rfl rfl rfl ?_
  refine fl 1 11 5 rfl rfl rfl ?_
  refine fl 1 12 5 rfl rfl rfl ?_
  refine fl 1 14 1 rfl rfl rfl ?_
  refine fl 1 15 4 rfl rfl rfl ?_
  refine cm 1 16 83 4 rfl rfl rfl ?_
  refine cm 1 17 86 1 rfl rfl rfl ?_
  refine fl 1 18 2 rfl rfl rfl ?_
  refine cS (aH.nil 5 65 2 (by decide) rfl) ?_
  have hX:hO s l=((⟨0,false,([]:List bI),([]:List Int),([]:List bC),(⟨0,[]⟩:bY),(⟨0,[]⟩:bY),0,0,[],[],(⟨0,[],[]⟩:cC),([]:List ah),[]⟩:Bk),([]:List (List Int)),([]:List Answer),f0):=by
    unfold hO;rw [hr0,if_pos (by omega)];rfl
  rw [hX] at hr;clear hX
  simp only [Prod.mk.injEq] at hr;obtain ⟨rfl,rfl,rfl,rfl⟩:=hr
  refine al aa [4,5,6,7,8,9,1,2] 6 rfl rfl rfl rfl rfl rfl ?_ ?_
  all_goals first|rfl|(simp [aw,aW,bh];done)|(simp [aw,aW,bh];omega)
 have hc1':=of_decide_eq_false hc1
 refine aS ?_
 refine ag ?_
 refine aF aa 1 rfl ?_
 refine aA (cF rfl rfl rfl rfl rfl Try.underlying24) rfl ?_
 refine ad aa 1 rfl ?_
 refine af ?_
 refine aj rfl (fun hc2=>?_) (fun hc2=>?_)
 ·
  have hc2':=of_decide_eq_true hc2
  refine ae aa 5 rfl ?_
  refine az ?_
  refine an ?_
  refine cm 1 2 61 6 rfl rfl rfl ?_
  refine cm 1 3 3 1 rfl rfl rfl ?_
  refine cm 1 4 67 8 rfl rfl rfl ?_
  refine fl 1 6 4 rfl rfl rfl ?_
  refine fl 1 8 4 rfl rfl rfl ?_
  refine fl 1 11 5 rfl rfl rfl ?_
  refine fl 1 12 5 rfl rfl rfl ?_
  refine fl 1 14 1 rfl rfl rfl ?_
  refine fl 1 15 4 rfl rfl rfl ?_
  refine cm 1 16 83 4 rfl rfl rfl ?_
  refine cm 1 17 86 1 rfl rfl rfl ?_
  refine fl 1 18 2 rfl rfl rfl ?_
  refine cS (aH.nil 5 65 2 (by decide) rfl) ?_
  have hX:hO s l=((⟨0,false,([]:List bI),([]:List Int),([]:List bC),(⟨0,[]⟩:bY),(⟨0,[]⟩:bY),0,0,[],[],(⟨0,[],[]⟩:cC),([]:List ah),[]⟩:Bk),([]:List (List Int)),([]:List Answer),(⟨5,0⟩:cW)):=by
    unfold hO;rw [hr0,if_neg (by omega),if_pos (by omega)];rfl
  rw [hX] at hr;clear hX
  simp only [Prod.mk.injEq] at hr;obtain ⟨rfl,rfl,rfl,rfl⟩:=hr
  refine al aa [4,5,6,7,8,9,1,2] 6 rfl rfl rfl rfl rfl rfl ?_ ?_
  all_goals first|rfl|(simp [aw,aW,bh];done)|(simp [aw,aW,bh];omega)
 have hc2':=of_decide_eq_false hc2
 refine aS ?_
 refine eR ?_
 refine aQ 5 [4,3,2,1,0] (zc 4 rfl) rfl ?_
 refine ad aa 3 rfl ?_
 refine af ?_
 refine ag ?_
 obtain ⟨w1,w2,w3,w4,w5,w6⟩:=ll (s:=s) (by rw [hr0];omega)
 refine pR 5 2 61 6 rfl rfl rfl ?_
 refine pR 5 4 67 8 rfl rfl rfl ?_
 refine kO 5 6 4 rfl rfl rfl ?_
 refine kO 5 8 4 rfl rfl rfl ?_
 refine kO 5 11 5 rfl rfl rfl ?_
 refine kO 5 12 5 rfl rfl rfl ?_
 refine kO 5 14 1 rfl rfl rfl ?_
 refine kO 5 15 4 rfl rfl rfl ?_
 refine pR 5 16 83 4 rfl rfl rfl ?_
 refine pR 5 17 86 1 rfl rfl rfl ?_
 refine kO 5 18 2 rfl rfl rfl ?_
 refine aF aa 2 rfl ?_
 refine aA (cF rfl rfl rfl rfl rfl Try.underlying53) rfl ?_
 refine ad aa 1 rfl ?_
 refine af ?_
 refine aY ?_
 refine cE (β:=Nat×List bI) (fun (p:Nat×List bI)=>match p with|(q,m)=>⟨[(1,(aC (rA l))),(2,(aC (.p 0 0 0 0))),(4,(aC (.p 1 0 0 0))),(5,(aC cN)),(6,(aC (.p 2 0 0 0))),(8,(aC (.p 5 0 0 0))),(29,(aC (cR 3 ((s.cZ).map hM)))),(30,(aI (↑s.cZ.length:Int))),(31,(aI (↑q:Int)))],[(9,(qC ([]:List (List Int)))),(8,(cM ([]:List ah))),(7,(ea ([]:List bC))),(6,(dT m)),(5,(.box 98 [(cI 0),(cB false),(.s 6 0 6 m.length),cN,(.s 7 0 8 0),(cI 0),(dj ([]:List bo)),(cI 0),(dj ([]:List bo)),(cI 0),(cI 0),(eu ([]:List cp)),(eu ([]:List cp)),(cI 0),(gM ([]:List Int)),(iq ([]:List ch)),(.s 8 0 4 0),(.s 9 0 1 0),(dW ([]:List Entry)),(.m 4)])),(4,(.map (tV ([]:List (Int×Answer))) 0)),(2,(.box 50 [(cI 0),(cI 0)])),(1,(.box 46 [(cI 0),(cB false),cN,cN,cN,(cI 0),cN,(cI 0),cN,(cI 0),(cI 0),cN,cN,(cI 0),cN,cN,cN,cN,cN])),(0,(.box 55 [(cR 3 ((s.cZ).map hM)),(cI s.gT),(cI s.cap)]))],10⟩) (fun (p:Nat×List bI)=>match p with|(q,m)=>q<=s.cZ.length/\m=(s.cZ.take q).map pO/\m.length=q) (fun (p:Nat×List bI)=>match p with|(q,m)=>s.cZ.length - q) (0,([]:List bI)) ?_ ?_ ?_
 ·exact ⟨by omega,rfl,rfl⟩
 ·exact aH.ca id (by refine ⟨?_,?_,?_,?_,?_,?_,?_,?_,?_,trivial⟩<;>first|rfl|(simp only [bu];done)|(congr 3;omega)|(congr 4;omega)|(simp only [bw];rfl)) (by refine ⟨?_,?_,?_,?_,?_,?_,?_,?_,?_,trivial⟩<;>first|rfl|(simp only [bu];done)|(congr 3;omega)|(congr 4;omega)|(simp only [bw];rfl)) rfl
 rintro ⟨q,m⟩ ⟨hi0_0,hi0_1,hi0_2⟩
 refine ae aa 1 rfl ?_
 refine ag ?_
 refine aj rfl (fun hc3=>?_) (fun hc3=>?_)
 ·
  have hc3':=of_decide_eq_true hc3
  refine aS ?_
  refine ag ?_
  refine aY ?_
  refine eR ?_
  obtain ⟨x1,hx1⟩:=cf (xs:=s.cZ) (i:=q) (by first|omega|(simp;done)|(simp;omega))
  refine aA (cD (i:=q) rfl rfl rfl Try.underlying53 EK (by first|omega|(simp;done)|(simp;omega)) (bp hx1)) rfl ?_
  refine ad aa 3 rfl ?_
  refine af ?_
  refine aX [1,2,4,5,6,8,29,30,31,10] [10,9,8,7,6,5,4,2,1,0] mixed rfl rfl ?_
  refine aD (kn:=[]) aa 7 rfl trivial ?_
  refine aT (n':=11) [41] [] rfl rfl (.inl ⟨(ak.plain rfl),aK.cast (aK.HG (cs':=[(cI 0),(cI 0),(cI x1.cQ),(cI x1.count),(cI x1.sum),(fB ([]:List db))]) 5 2 (yc (ys:=[(2,(.g [(cI x1.cQ),(cI x1.count),(cI x1.sum)]))]) rfl Hn rfl ⟨⟨rfl,rfl⟩,trivial⟩ rfl rfl) rfl rfl) rfl⟩) rfl ?_
  refine aT (n':=12) [42] [] rfl rfl (.inl ⟨(ak.plain rfl),aK.cast (dV (ys:=[(0,(.g [(cI 0),(cI 0),(cI x1.cQ),(cI x1.count),(cI x1.sum),(fB ([]:List db))]))]) (rows:=([(⟨0,0,x1,([]:List db)⟩:bI)]).map pF) 11 yD rfl (by decide) ⟨⟨rfl,rfl⟩,trivial⟩ rfl rfl rfl rfl) rfl⟩) rfl ?_
  refine aT (n':=13) [40,43] [11,6] rfl rfl (.inl ⟨(ak.plain rfl),aK.cast (dw (m:=1) (N:=m.length+1) (k2:=12) (ys:=([(⟨0,0,x1,([]:List db)⟩:bI)]).map pF) yD rfl rfl rfl rfl rfl rfl (by first|omega|(simp;done)|(simp;omega)) rfl (.s rfl (by first|omega|(simp;done)|(simp;omega))) (by first|omega|(simp;done)|(simp;omega)) (by first|omega|(simp;done)|(simp;omega)) fz (by decide) (by first|omega|(simp;done)|(simp;omega)) (by first|omega|(simp;done)|(simp;omega))) rfl⟩) rfl ?_
  refine aD (kn:=[]) aa 3 rfl trivial ?_
  refine bA [12,10,9,8,7,5,4,2,1,0] rfl rfl rfl rfl (by kernel_rfl) ?_
  refine ad aa 1 rfl ?_
  refine bZ ?_
  refine bm ?_
  refine then_ok ?_
  refine ax ?_
  refine aA (aM rfl rfl rfl (aL (by first|omega|(simp;done)|(simp;omega)))) rfl ?_
  refine ad aa 1 rfl ?_
  refine af ?_
  refine ⟨(q+1,m++([(⟨0,0,x1,([]:List db)⟩:bI)])),⟨by omega,by rw [gN hx1,List.map_append,<-hi0_1];rfl,by rw [List.length_append,hi0_2];rfl⟩,by first|omega|(simp;done)|(simp;omega),aH.ca (fun k=>if k=6 then 12 else k) (by refine ⟨?_,?_,?_,?_,?_,?_,?_,?_,?_,trivial⟩<;>first|rfl|(simp only [bu];done)|(congr 3;omega)|(congr 4;omega)|(simp only [bw];rfl)) (by refine ⟨?_,?_,?_,?_,?_,?_,?_,?_,?_,trivial⟩<;>first|rfl|(simp only [bu];done)|(congr 3;omega)|(congr 4;omega)|(simp only [bw];rfl)) rfl⟩
 have hc3':=of_decide_eq_false hc3
 refine cv ?_
 refine aU ?_
 refine aU ?_
 refine bS ?_
 refine then_ok ?_
 refine aF aa 3 rfl ?_
 refine aQ 11 [10,9,8,7,6,5,4,2,1,0] (pK 10 nm Dv rfl rfl rfl (n:=Int.toNat (s.gT)) (by first|omega|(simp;done)|(simp;omega)) (by first|omega|(simp;done)|(simp;omega)) (by first|omega|(simp;done)|(simp;omega)) (by first|omega|(simp;done)|(simp;omega))) rfl ?_
 refine ad aa 4 rfl ?_
 refine af ?_
 refine aF aa 5 rfl ?_
 refine aA (cF rfl rfl rfl rfl rfl Try.underlying53) rfl ?_
 have hr1:dL s.cap (↑s.cZ.length:Int)=((dL s.cap (↑s.cZ.length:Int)).1,(dL s.cap (↑s.cZ.length:Int)).2):=rfl
 refine aQ 11 [10,9,8,7,6,5,4,2,1,0] (cb 11 (Fn.frozen (av':=(.t [(.g [(cI (((dL s.cap (↑s.cZ.length:Int)).1).cap)),(gM (((dL s.cap (↑s.cZ.length:Int)).1).used)),(iq (((dL s.cap (↑s.cZ.length:Int)).1).bd))]),(.c (cI ((dL s.cap (↑s.cZ.length:Int)).2)))])) (xn s.cap (↑s.cZ.length:Int) ((dL s.cap (↑s.cZ.length:Int)).1) ((dL s.cap (↑s.cZ.length:Int)).2) hr1) ⟨⟨.inl ⟨_,rfl,rfl⟩,.inr ⟨_,_,_,_,_,rfl,rfl,rfl,by simp⟩,.inr ⟨_,_,_,_,_,rfl,rfl,rfl,by simp⟩,trivial⟩,.inl ⟨_,rfl,rfl⟩,trivial⟩) Ip rfl rfl ⟨⟨_,rfl,.c (.d _)⟩,⟨_,rfl,.c (.d _)⟩,trivial⟩ ⟨⟨trivial,trivial,trivial,trivial⟩,trivial,trivial⟩ trivial rfl rfl rfl rfl) rfl ?_
 refine ad aa 7 rfl ?_
 refine af ?_
 refine ae aa 1 rfl ?_
 refine ag ?_
 refine aF aa 1 rfl ?_
 refine aA (cF rfl rfl rfl rfl rfl Try.underlying24) rfl ?_
 refine ad aa 1 rfl ?_
 refine af ?_
 refine aY ?_
 refine gI (aH.nil 11 65 2 (by decide) rfl) ?_
 have htk:m=s.cZ.map pO:=by rw [hi0_1,List.take_of_length_le (by omega)]
 subst htk
 refine cE (β:=Nat×Bk×List (List Int)×List (Int×Answer)×Nat×List Answer) (fun (p:Nat×Bk×List (List Int)×List (Int×Answer)×Nat×List Answer)=>match p with|(u,b,days,told,cl,out)=>⟨[(1,(aC (rA l))),(2,(aC (.p 0 0 0 0))),(4,(aC (.p 1 0 0 0))),(5,(aC cN)),(6,(aC (.p 2 0 0 0))),(8,(aC (.p 5 0 0 0))),(29,(aC (cR 3 ((s.cZ).map hM)))),(30,(aI (↑s.cZ.length:Int))),(31,(aI (↑q:Int))),(11,(aC (.s 11 0 2 out.length))),(70,(aI (↑l.length:Int))),(71,(aI (↑u:Int)))],[(11,(Gp out)),(10,(dM b.due)),(9,(qC days)),(8,(cM b.aP)),(7,(ea b.au)),(6,(dT b.ay)),(5,(.box 98 (aW b 6 10 7 8 (.s 9 0 1 days.length) (.m 4)))),(4,(.map (tV told) cl)),(2,(.box 50 [(cI 0),(cI 0)])),(1,(.box 46 [(cI 0),(cB false),cN,cN,cN,(cI 0),cN,(cI 0),cN,(cI 0),(cI 0),cN,cN,(cI 0),cN,cN,cN,cN,cN])),(0,(.box 55 [(cR 3 ((s.cZ).map hM)),(cI s.gT),(cI s.cap)]))],12⟩) (fun (p:Nat×Bk×List (List Int)×List (Int×Answer)×Nat×List Answer)=>match p with|(u,b,days,told,cl,out)=>u<=l.length/\jB l (dJ s) [] [] 0 []=jB (l.drop u) b days told cl out/\cu b/\days.length<=u/\out.length=u) (fun (p:Nat×Bk×List (List Int)×List (Int×Answer)×Nat×List Answer)=>match p with|(u,b,days,told,cl,out)=>l.length - u) (0,dJ s,([]:List (List Int)),([]:List (Int×Answer)),0,([]:List Answer)) ?_ ?_ ?_
 ·exact ⟨by omega,rfl,cu.start (by rw [hr0];omega),by simp,rfl⟩
 ·exact aH.ca id (by refine ⟨?_,?_,?_,?_,?_,?_,?_,?_,?_,?_,?_,?_,trivial⟩<;>first|rfl|(simp only [bu];done)|(congr 3;omega)|(congr 4;omega)|(simp only [bw];rfl)) (by refine ⟨?_,?_,?_,?_,?_,?_,?_,?_,?_,?_,?_,trivial⟩<;>first|rfl|(simp only [bu];done)|(congr 3;omega)|(congr 4;omega)|(simp only [bw];rfl)|(simp only [aW,dJ,List.length_replicate];rfl)) rfl
 rintro ⟨u,b,days,told,cl,out⟩ ⟨hi1_0,hi1_1,hi1_2,hi1_3,hi1_4⟩
 refine ae aa 1 rfl ?_
 refine ag ?_
 refine aj rfl (fun hc4=>?_) (fun hc4=>?_)
 ·
  have hc4':=of_decide_eq_true hc4
  refine aS ?_
  refine ag ?_
  refine aY ?_
  refine ae aa 2 rfl ?_
  refine ax ?_
  refine ad aa 4 rfl ?_
  obtain ⟨x1,hx1⟩:=cf (xs:=l) (i:=u) (by first|omega|(simp;done)|(simp;omega))
  refine aA (cD (i:=u) rfl rfl rfl Try.underlying24 EL (by first|omega|(simp;done)|(simp;omega)) (bp hx1)) rfl ?_
  obtain ⟨b22,y22,t22,c22,a22,hr2⟩:∃ (b22:Bk) (y22:List (List Int)) (t22:List (Int×Answer)) (c22:Nat) (a22:Answer),dG b days told cl x1=(b22,y22,t22,c22,a22):=⟨_,_,_,_,_,rfl⟩
  refine aQ 18 [5,12,13,14,15,16,17,11,2,1,0] (cr (bf [5,6,10,7,8,9,4]) (bf [5,12,13,14,15,16,17]) (ms:=(jo b 1 2 3 4 (some (.s 5 0 1 days.length)) (some (.m 6)))) (ms':=(jo b22 1 2 3 4 (some (.s 5 0 1 y22.length)) (some (.m 6)))) (fun x hx=>Gf x hx b days told cl x1 (by first|assumption|exact cu.tick (by assumption) (by omega) (by omega)) (by first|omega|(simp;done)|(simp;omega)) b22 y22 t22 c22 a22 hr2) Io rfl rfl ⟨⟨_,rfl,.inl ⟨rfl,rfl⟩⟩,⟨_,rfl,.inl ⟨rfl,rfl⟩⟩,trivial⟩ rfl rfl rfl rfl rfl rfl rfl ⟨rfl,rfl,rfl,rfl,rfl,rfl,trivial⟩ rfl rfl rfl rfl rfl rfl rfl rfl rfl rfl rfl rfl rfl) rfl ?_
  refine aQ 19 [18,5,12,13,14,15,16,17,11,2,1,0] (dV (ys:=[(0,(.g [(cI a22.err),(cI a22.ba)]))]) (rows:=([a22]).map lN) 18 EN rfl (by decide) ⟨⟨rfl,rfl⟩,trivial⟩ rfl rfl rfl rfl) rfl ?_
  refine aQ 20 [19,18,5,12,13,14,15,16,17,2,1,0] (dw (m:=1) (N:=out.length+1) (k2:=19) (ys:=([a22]).map lN) EN rfl rfl rfl rfl rfl rfl (by first|omega|(simp;done)|(simp;omega)) rfl (.s rfl (by first|omega|(simp;done)|(simp;omega))) (by first|omega|(simp;done)|(simp;omega)) (by first|omega|(simp;done)|(simp;omega)) fz (by decide) (by first|omega|(simp;done)|(simp;omega)) (by first|omega|(simp;done)|(simp;omega))) rfl ?_
  refine ad aa 1 rfl ?_
  refine bZ ?_
  refine bm ?_
  refine then_ok ?_
  refine ax ?_
  refine aA (aM rfl rfl rfl (aL (by first|omega|(simp;done)|(simp;omega)))) rfl ?_
  refine ad aa 1 rfl ?_
  refine af ?_
  refine ⟨(u+1,b22,y22,t22,c22,out++([a22])),⟨by omega,by rw [hi1_1,yK hx1,hr2],(by have h:=cu.once hi1_2 days told cl x1;rw [hr2] at h;exact h.1),(by have h:=(cu.once hi1_2 days told cl x1).2;rw [hr2] at h;dsimp only at h;omega),by rw [List.length_append,hi1_4];rfl⟩,by first|omega|(simp;done)|(simp;omega),aH.ca (fun k=>if k=11 then 19 else if k=4 then 17 else if k=9 then 16 else if k=8 then 15 else if k=7 then 14 else if k=10 then 13 else if k=6 then 12 else k) (by refine ⟨?_,?_,?_,?_,?_,?_,?_,?_,?_,?_,?_,?_,trivial⟩<;>first|rfl|(simp only [bu];done)|(congr 3;omega)|(congr 4;omega)|(simp only [bw];rfl)) (by refine ⟨?_,?_,?_,?_,?_,?_,?_,?_,?_,?_,?_,trivial⟩<;>first|rfl|(simp only [bu];done)|(congr 3;omega)|(congr 4;omega)|(simp only [bw];rfl)) rfl⟩
 have hc4':=of_decide_eq_false hc4
 refine cv ?_
 refine aU ?_
 refine aU ?_
 refine bS ?_
 refine then_ok ?_
 refine ae aa 9 rfl ?_
 refine az ?_
 have hX:hO s l=(b,days,out,(⟨0,0⟩:cW)):=by
   unfold hO;rw [hr0,if_neg (by omega),if_neg (by omega),hi1_1,List.drop_of_length_le (by omega)];rfl
 rw [hX] at hr;clear hX
 simp only [Prod.mk.injEq] at hr;obtain ⟨rfl,rfl,rfl,rfl⟩:=hr
 refine al aa [6,10,7,8,9,11,1,2] 6 rfl rfl rfl rfl rfl rfl ?_ ?_
 all_goals first|rfl|(simp [aw,aW,bh];done)|(simp [aw,aW,bh];omega)

theorem Da:Fn Try.prog 43 [] (.v (.g [(.s 0 0 3 1),(cI 1),(cI 30)])) [(0,.arr 58 3 ([(⟨10,5,1000⟩:eI)].map hM))]:=by
 refine Fn.mk' 4 [] Try.func43 rfl rfl rfl rfl ?_
 intro W0 T0
 refine ae aa 1 rfl ?_
 refine aF aa 1 rfl ?_
 refine aQ 2 [1,0] (dV (ys:=[(0,(.g [(cI 10),(cI 5),(cI 1000)]))]) (rows:=([(⟨10,5,1000⟩:eI)]).map hM) 1 HA rfl (by decide) ⟨⟨rfl,rfl⟩,trivial⟩ rfl rfl rfl rfl) rfl ?_
 refine ad aa 2 rfl ?_
 refine af ?_
 refine az ?_
 refine al aa [1,0] 1 rfl rfl rfl rfl rfl rfl ?_ ?_
 all_goals first|rfl|(simp [aw,aW,bh];done)|(simp [aw,aW,bh];omega)
theorem Dg:Fn Try.prog 25 [] (aB true) []:=by
 refine Fn.mk' 66 [] Try.func25 rfl rfl rfl rfl ?_
 intro W0 T0
 refine ae aa 1 rfl ?_
 refine eR ?_
 refine aQ 0 [] (cb 0 (Fn.frozen (av':=(aG [(cR 3 (([(⟨10,5,1000⟩:eI)]).map hM)),(cI 1),(cI 30)])) (Da) ⟨.inr ⟨_,_,_,_,_,rfl,rfl,rfl,by simp⟩,.inl ⟨_,rfl,rfl⟩,.inl ⟨_,rfl,rfl⟩,trivial⟩) Im rfl rfl trivial ⟨trivial,trivial,trivial,trivial⟩ trivial rfl rfl rfl rfl) rfl ?_
 refine ad aa 5 rfl ?_
 refine aQ 1 [0] (dV (ys:=[(0,(.g [(cI 0),(cI 1),(cI 0),(cI 0),(cI 0),(cI 100)])),(1,(.g [(cI 0),(cI 2),(cI 0),(cI 0),(cI 0),(cI 60)])),(2,(.g [(cI 0),(cI 3),(cI 0),(cI 0),(cI 2),(cI 40)])),(3,(.g [(cI 0),(cI 5),(cI 0),(cI 0),(cI 0),(cI 0)])),(4,(.g [(cI 0),(cI 6),(cI 1),(cI 0),(cI 0),(cI 0)]))]) (rows:=([(⟨0,1,0,0,0,100⟩:bx),(⟨0,2,0,0,0,60⟩:bx),(⟨0,3,0,0,2,40⟩:bx),(⟨0,5,0,0,0,0⟩:bx),(⟨0,6,1,0,0,0⟩:bx)]).map dg) 0 HB rfl (by decide) ⟨⟨rfl,rfl⟩,⟨rfl,rfl⟩,⟨rfl,rfl⟩,⟨rfl,rfl⟩,⟨rfl,rfl⟩,trivial⟩ rfl rfl rfl rfl) rfl ?_
 refine uG (s':=[(0,(aB false)),(5,(aG [(cR 3 (([(⟨10,5,1000⟩:eI)]).map hM)),(cI 1),(cI 30)])),(6,(aG [(cI 0),(cI 1),(cI 0),(cI 0),(cI 0),(cI 100)])),(7,(aG [(cI 0),(cI 2),(cI 0),(cI 0),(cI 0),(cI 60)])),(8,(aG [(cI 0),(cI 3),(cI 0),(cI 0),(cI 2),(cI 40)])),(9,(aG [(cI 0),(cI 5),(cI 0),(cI 0),(cI 0),(cI 0)])),(10,(aG [(cI 0),(cI 6),(cI 1),(cI 0),(cI 0),(cI 0)])),(11,(aC (rA ([(⟨0,1,0,0,0,100⟩:bx),(⟨0,2,0,0,0,60⟩:bx),(⟨0,3,0,0,2,40⟩:bx),(⟨0,5,0,0,0,0⟩:bx),(⟨0,6,1,0,0,0⟩:bx)]))))]) (h':=[]) 0 rfl ⟨⟨_,rfl,.inl ⟨rfl,rfl⟩⟩,⟨_,rfl,.inl ⟨rfl,rfl⟩⟩,⟨_,rfl,.inl ⟨rfl,rfl⟩⟩,⟨_,rfl,.inl ⟨rfl,rfl⟩⟩,⟨_,rfl,.inl ⟨rfl,rfl⟩⟩,⟨_,rfl,.inl ⟨rfl,rfl⟩⟩,⟨_,rfl,.inl ⟨rfl,rfl⟩⟩,⟨_,rfl,.inr ⟨_,_,rfl,rfl,.s rfl (by decide) (by first|omega|(simp;done)|(simp;omega))⟩⟩,trivial⟩ trivial rfl ?_
 have hr0:hO (⟨[(⟨10,5,1000⟩:eI)],1,30⟩:Setup) ([(⟨0,1,0,0,0,100⟩:bx),(⟨0,2,0,0,0,60⟩:bx),(⟨0,3,0,0,2,40⟩:bx),(⟨0,5,0,0,0,0⟩:bx),(⟨0,6,1,0,0,0⟩:bx)])=((⟨0,false,[⟨60,20,⟨10,5,1000⟩,[⟨0,60⟩]⟩],[40],[⟨0,0,60,40,0,0,100,false⟩],⟨1,[⟨1,1,0,40⟩]⟩,⟨0,[]⟩,0,1,[],[⟨⟨0,0,0,0⟩,0⟩],⟨30,[0],[]⟩,[⟨0,0,2,40⟩],[⟨0,-100⟩,⟨10,60⟩,⟨50,40⟩]⟩:Bk),[],[(⟨0,0⟩:Answer),(⟨0,0⟩:Answer),(⟨0,0⟩:Answer),(⟨0,0⟩:Answer),(⟨0,0⟩:Answer)],(⟨0,0⟩:cW)):=by kernel_rfl
 refine aQ 1 [] (cb 1 (Fn.frozen (av':=(.t [(.g [(cI 0),(cB false),(DA ([⟨60,20,⟨10,5,1000⟩,[⟨0,60⟩]⟩])),(gM ([40])),(xA ([⟨0,0,60,40,0,0,100,false⟩])),(cI 1),(dj ([⟨1,1,0,40⟩])),(cI 0),(dj ([])),(cI 0),(cI 1),(eu ([])),(eu ([⟨⟨0,0,0,0⟩,0⟩])),(cI 30),(gM ([0])),(iq ([])),(gL ([⟨0,0,2,40⟩])),(Dy ([])),(dW ([⟨0,-100⟩,⟨10,60⟩,⟨50,40⟩]))]),(.c (Dz ([(⟨0,0⟩:Answer),(⟨0,0⟩:Answer),(⟨0,0⟩:Answer),(⟨0,0⟩:Answer),(⟨0,0⟩:Answer)]))),(.g [(cI 0),(cI 0)])])) (Bt (⟨[(⟨10,5,1000⟩:eI)],1,30⟩:Setup) ([(⟨0,1,0,0,0,100⟩:bx),(⟨0,2,0,0,0,60⟩:bx),(⟨0,3,0,0,2,40⟩:bx),(⟨0,5,0,0,0,0⟩:bx),(⟨0,6,1,0,0,0⟩:bx)]) (⟨0,false,[⟨60,20,⟨10,5,1000⟩,[⟨0,60⟩]⟩],[40],[⟨0,0,60,40,0,0,100,false⟩],⟨1,[⟨1,1,0,40⟩]⟩,⟨0,[]⟩,0,1,[],[⟨⟨0,0,0,0⟩,0⟩],⟨30,[0],[]⟩,[⟨0,0,2,40⟩],[⟨0,-100⟩,⟨10,60⟩,⟨50,40⟩]⟩:Bk) ([]) ([(⟨0,0⟩:Answer),(⟨0,0⟩:Answer),(⟨0,0⟩:Answer),(⟨0,0⟩:Answer),(⟨0,0⟩:Answer)]) (⟨0,0⟩:cW) hr0) ⟨⟨.inl ⟨_,rfl,rfl⟩,.inl ⟨_,rfl,rfl⟩,.inr ⟨_,_,_,_,_,rfl,rfl,rfl,by simp⟩,.inr ⟨_,_,_,_,_,rfl,rfl,rfl,by simp⟩,.inr ⟨_,_,_,_,_,rfl,rfl,rfl,by simp⟩,.inl ⟨_,rfl,rfl⟩,.inl ⟨_,rfl,rfl⟩,.inl ⟨_,rfl,rfl⟩,.inl ⟨_,rfl,rfl⟩,.inl ⟨_,rfl,rfl⟩,.inl ⟨_,rfl,rfl⟩,.inl ⟨_,rfl,rfl⟩,.inl ⟨_,rfl,rfl⟩,.inl ⟨_,rfl,rfl⟩,.inl ⟨_,rfl,rfl⟩,.inl ⟨_,rfl,rfl⟩,.inr ⟨_,_,_,_,_,rfl,rfl,rfl,by simp⟩,.inr ⟨_,_,_,_,_,rfl,rfl,rfl,by simp⟩,.inl ⟨_,rfl,rfl⟩,trivial⟩,.inr ⟨_,_,_,_,_,rfl,rfl,rfl,by simp⟩,⟨.inl ⟨_,rfl,rfl⟩,.inl ⟨_,rfl,rfl⟩,trivial⟩,trivial⟩) FZ rfl rfl ⟨⟨_,rfl,.g ⟨.d _,.d _,.d _,trivial⟩⟩,⟨_,rfl,.c (.d _)⟩,trivial⟩ ⟨⟨trivial,trivial,trivial,trivial,trivial,trivial,trivial,trivial,trivial,trivial,trivial,trivial,trivial,trivial,trivial,trivial,trivial,trivial,trivial,trivial⟩,trivial,⟨trivial,trivial,trivial⟩,trivial⟩ trivial rfl rfl rfl rfl) rfl ?_
 refine ad aa 9 rfl ?_
 refine af ?_
 refine aF aa 2 rfl ?_
 refine aA (aM rfl rfl rfl (show _=some (Value.bool true) from rfl)) rfl ?_
 refine ad aa 2 rfl ?_
 refine dA (ak.yes rfl rfl rfl) (cF rfl rfl rfl rfl rfl Try.underlying47) rfl rfl ?_
 refine dA (ak.yes rfl rfl rfl) (aM rfl rfl rfl (show _=some (Value.bool true) from rfl)) rfl rfl ?_
 refine ad aa 3 rfl ?_
 refine dA (ak.yes rfl rfl rfl) (cD (i:=4) rfl rfl rfl Try.underlying47 EJ (by first|omega|(simp;done)|(simp;omega)) (bp (show ([(⟨0,0⟩:Answer),(⟨0,0⟩:Answer),(⟨0,0⟩:Answer),(⟨0,0⟩:Answer),(⟨0,0⟩:Answer)]:List Answer)[4]?=some (⟨0,0⟩:Answer) from rfl))) rfl rfl ?_
 refine ad aa 2 rfl ?_
 refine dA (ak.yes rfl rfl rfl) (aM rfl rfl rfl (show _=some (Value.bool true) from rfl)) rfl rfl ?_
 refine ad aa 4 rfl ?_
 refine dA (ak.yes rfl rfl rfl) (cF rfl rfl rfl rfl rfl Try.underlying30) rfl rfl ?_
 refine dA (ak.yes rfl rfl rfl) (aM rfl rfl rfl (show _=some (Value.bool true) from rfl)) rfl rfl ?_
 refine ad aa 4 rfl ?_
 refine dA (ak.yes rfl rfl rfl) (cF rfl rfl rfl rfl rfl Try.underlying29) rfl rfl ?_
 refine dA (ak.yes rfl rfl rfl) (aM rfl rfl rfl (show _=some (Value.bool true) from rfl)) rfl rfl ?_
 refine ad aa 4 rfl ?_
 refine dA (ak.yes rfl rfl rfl) (cD (i:=0) rfl rfl rfl Try.underlying30 gF (by first|omega|(simp;done)|(simp;omega)) (bp (show ([40]:List Int)[0]?=some 40 from rfl))) rfl rfl ?_
 refine ad aa 1 rfl ?_
 refine dA (ak.yes rfl rfl rfl) (aM rfl rfl rfl (show _=some (Value.bool true) from rfl)) rfl rfl ?_
 refine ad aa 4 rfl ?_
 refine dA (ak.yes rfl rfl rfl) (cD (i:=0) rfl rfl rfl Try.underlying29 jq (by first|omega|(simp;done)|(simp;omega)) (bp (show ([⟨60,20,⟨10,5,1000⟩,[⟨0,60⟩]⟩]:List bI)[0]?=some (⟨60,20,⟨10,5,1000⟩,[⟨0,60⟩]⟩:bI) from rfl))) rfl rfl ?_
 refine ad aa 2 rfl ?_
 refine dA (ak.yes rfl rfl rfl) (aM rfl rfl rfl (show _=some (Value.bool true) from rfl)) rfl rfl ?_
 refine ad aa 4 rfl ?_
 refine dA (ak.yes rfl rfl rfl) (cD (i:=0) rfl rfl rfl Try.underlying29 jq (by first|omega|(simp;done)|(simp;omega)) (bp (show ([⟨60,20,⟨10,5,1000⟩,[⟨0,60⟩]⟩]:List bI)[0]?=some (⟨60,20,⟨10,5,1000⟩,[⟨0,60⟩]⟩:bI) from rfl))) rfl rfl ?_
 refine ad aa 2 rfl ?_
 refine dA (ak.yes rfl rfl rfl) (aM rfl rfl rfl (show _=some (Value.bool true) from rfl)) rfl rfl ?_
 refine ad aa 2 rfl ?_
 refine af ?_
 refine az ?_
 refine al aa [] 0 rfl rfl rfl rfl rfl rfl ?_ ?_
 all_goals first|rfl|(simp [aw,aW,bh];done)|(simp [aw,aW,bh];omega)
end Go.Proofs.Ytegepioggeggaaa.Dev
