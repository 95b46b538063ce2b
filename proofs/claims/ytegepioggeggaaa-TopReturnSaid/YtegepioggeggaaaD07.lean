/- A part of the proof: PlSort3, PlDay, PlBank, Bank0, Pace1, Pace2, Del1, Pace3, Pace5, Card1, Card2. No condition. -/
import Derived.Test.YtegepioggeggaaaD06
set_option linter.unusedVariables false
set_option linter.unusedSimpArgs false
set_option maxHeartbeats 1000000
set_option maxRecDepth 100000
namespace Go.Proofs.Ytegepioggeggaaa.Dev
open Go.RowKit
def kN:List aj->aj->List aj
 |[],r=>[r]
 |x::l,r=>if gq r x=true then r::x::l else x::kN l r
def gn (l:List aj):List aj:=l.foldl kN []
theorem vp {r z:aj}:∀ {l:List aj},z∈kN l r↔z=r\/z∈l
 |[]=>by simp [kN]
 |x::l=>by
  unfold kN
  split
  ·simp
  ·rw [List.mem_cons,vp,List.mem_cons]
   constructor
   ·rintro (h|h|h)
    ·exact .inr (.inl h)
    ·exact .inl h
    ·exact .inr (.inr h)
   ·rintro (h|h|h)
    ·exact .inr (.inl h)
    ·exact .inl h
    ·exact .inr (.inr h)
theorem vo {r:aj}:∀ {l:List aj},eU l->eU (kN l r)
 |[],_=>List.pairwise_singleton _ _
 |x::l,h=>by
  obtain ⟨h1,h2⟩:=List.pairwise_cons.1 h
  unfold kN
  split
  ·rename_i hc
   exact List.pairwise_cons.2 ⟨fun z hz=>by
    rcases List.mem_cons.1 hz with rfl|hz
    ·exact kF hc
    ·exact kE (kF hc) (h1 z hz),h⟩
  ·rename_i hc
   have hc:fN x r:=ry.1 (by simpa using hc)
   exact List.pairwise_cons.2 ⟨fun z hz=>by
    rcases vp.1 hz with rfl|hz
    ·exact hc
    ·exact h1 z hz,vo h2⟩
theorem tG {r:aj}:∀ {l:List aj},eU l->Same (l++[r]) (kN l r)
 |[],_=>Same.refl _
 |x::l,h=>by
  obtain ⟨h1,h2⟩:=List.pairwise_cons.1 h
  unfold kN
  split
  ·rename_i hc
   exact (Same.comm (u:=x::l) (v:=[r]) fun y hy z hz=>by
    rw [List.mem_singleton.1 hz]
    rcases List.mem_cons.1 hy with rfl|hy
    ·exact hc
    ·exact vg hc (h1 y hy))
  ·exact (Same.refl [x]).app (tG h2)
theorem qx:∀ (l acc:List aj),eU acc->eU (l.foldl kN acc)/\Same (acc++l) (l.foldl kN acc)
 |[],acc,h=>⟨h,by rw [List.append_nil];exact Same.refl _⟩
 |x::l,acc,h=>by
  obtain ⟨h1,h2⟩:=qx l (kN acc x) (vo h)
  refine ⟨h1,?_⟩
  have h3:=((tG (r:=x) h).app (Same.refl l)).trans h2
  simpa using h3
theorem zt (l:List aj):eU (gn l):=(qx l [] List.Pairwise.nil).1
theorem nc (l:List aj):Same l (gn l):=(qx l [] List.Pairwise.nil).2
theorem yc {l d:List aj} (h:eU d) (h':Same l d):gn l=d:=eU.uniq (zt l) h ((nc l).symm.trans h')
theorem sY (l:List aj):(gn l).length=l.length:=(nc l).len.symm
theorem zu {l:List aj} (h:l.length=0):gn l=l:=by obtain rfl:=List.eq_nil_of_length_eq_zero h;rfl
def jv (d:List aj) (a s:Nat):List aj:=(d.drop a).take s
def sP (s a:Nat) (d:List aj):Prop:=(∃ q,a=q * s)/\∀ k,(k+1) * s<=a->eU (jv d (k * s) s)
def sO (s:Nat) (d:List aj):Prop:=∀ k,eU (jv d (k * s) s)
def mC (s a:Nat) (d:List aj):Prop:=sP (2 * s) a d/\∀ k,a<=k * s->eU (jv d (k * s) s)
theorem Part.DY {d y:List aj} {a b:Nat} (h:Part d y a b) {c s:Nat} (hc:c+s<=a):jv y c s=jv d c s:=by
 have e:∀ z:List aj,jv z c s=((z.take a).drop c).take s:=fun z=>by
  unfold jv;rw [List.drop_take,List.take_take,Nat.min_eq_left (by omega)]
 rw [e y,e d,h.l]
theorem Part.GG {d y:List aj} {a b:Nat} (h:Part d y a b) {c s:Nat} (hc:b<=c):jv y c s=jv d c s:=by
 have e:∀ z:List aj,jv z c s=((z.drop b).drop (c - b)).take s:=fun z=>by
  unfold jv;rw [List.drop_drop,show b+(c - b)=c by omega]
 rw [e y,e d,h.r]
theorem xf {d:List aj} {a s:Nat} (h:d.length<=a):jv d a s=[]:=by unfold jv;rw [List.drop_of_length_le h];simp
theorem sg {d:List aj} {a s t:Nat} (hs:d.length<=a+s) (ht:d.length<=a+t):jv d a s=jv d a t:=by
 unfold jv;rw [List.take_of_length_le (by rw [List.length_drop];omega),List.take_of_length_le (by rw [List.length_drop];omega)]
theorem xd:eU []:=List.Pairwise.nil
theorem Dm {k q s:Nat} (h:(k+1) * s<=q * s+s) (hs:0 < s):k<=q:=by
 rw [<-Nat.succ_mul] at h
 have:=Nat.le_of_mul_le_mul_right h hs
 omega
theorem rM {s:Nat} (hs:0 < s) {d:List aj}:sP s 0 d:=⟨⟨0,by simp⟩,fun k h=>by rw [Nat.succ_mul] at h;omega⟩
theorem tO {s a:Nat} {d y:List aj} (hs:0 < s) (h:sP s a d) (p:Part d y a (a+s)):sP s (a+s) y:=by
 obtain ⟨⟨q,hq⟩,h2⟩:=h
 refine ⟨⟨q+1,by rw [Nat.succ_mul,hq]⟩,fun k hk=>?_⟩
 subst hq
 have hkq:=Dm hk hs
 by_cases e:k=q
 ·subst e
  have:=p.s
  rw [Nat.add_sub_cancel_left] at this
  exact this
 ·have h3:(k+1) * s<=q * s:=Nat.mul_le_mul_right s (by omega)
  rw [p.DY (by rw [Nat.succ_mul] at h3;exact h3)]
  exact h2 k h3
theorem vK {s a:Nat} {d y:List aj} (hs:0 < s) (h:sP s a d) (ha:a<=y.length) (p:Part d y a y.length) (hn:y.length<=a+s):sO s y:=by
 obtain ⟨⟨q,rfl⟩,h2⟩:=h
 intro k
 rcases Nat.lt_trichotomy k q with e|e|e
 ·have h3:(k+1) * s<=q * s:=Nat.mul_le_mul_right s (by omega)
  rw [p.DY (by rw [Nat.succ_mul] at h3;exact h3)]
  exact h2 k h3
 ·subst e
  have h3:=p.s
  rw [sg (t:=y.length - k * s) hn (by omega)]
  exact h3
 ·have h3:(q+1) * s<=k * s:=Nat.mul_le_mul_right s (by omega)
  rw [Nat.succ_mul] at h3
  rw [xf (by omega)];exact xd
theorem Bm {s:Nat} {d:List aj} (h:sO s d) (hs:d.length<=s):eU d:=by
 have:=h 0
 unfold jv at this
 rw [Nat.zero_mul,List.drop_zero,List.take_of_length_le hs] at this
 exact this
theorem yy {s:Nat} (hs:0 < s) {d:List aj} (h:sO s d):mC s 0 d:=⟨rM (by omega),fun k _=>h k⟩
theorem mC.mul {s a:Nat} {d:List aj} (h:mC s a d):∃ k,a=k * s:=by
 obtain ⟨q,hq⟩:=h.1.1
 exact ⟨q * 2,by rw [hq,Nat.mul_assoc]⟩
theorem BH {s a:Nat} {d:List aj} (h:mC s a d):eU (jv d a s)/\eU (jv d (a+s) s):=by
 obtain ⟨k,hk⟩:=h.mul
 refine ⟨?_,?_⟩
 ·have:=h.2 k (by omega);rwa [<-hk] at this
 ·have:=h.2 (k+1) (by rw [Nat.succ_mul];omega);rwa [Nat.succ_mul,<-hk] at this
theorem Ac {s a:Nat} {d y:List aj} (hs:0 < s) (h:mC s a d) (p:Part d y a (a+2 * s)):mC s (a+2 * s) y:=
 ⟨tO (by omega) h.1 p,fun k hk=>by rw [p.GG hk];exact h.2 k (by omega)⟩
theorem BI {s a:Nat} {d y:List aj} (hs:0 < s) (h:mC s a d) (ha:a<=y.length) (p:Part d y a y.length) (hn:y.length<=a+2 * s):sO (s * 2) y:=by
 rw [Nat.mul_comm];exact vK (by omega) h.1 ha p hn
theorem Ad {s a:Nat} {d:List aj} (hs:0 < s) (h:mC s a d) (hn:d.length<=a+s):sO (s * 2) d:=by
 rw [Nat.mul_comm]
 obtain ⟨⟨⟨q,rfl⟩,h2⟩,h3⟩:=h
 intro k
 rcases Nat.lt_trichotomy k q with e|e|e
 ·exact h2 k (Nat.mul_le_mul_right _ (by omega))
 ·subst e
  rw [sg (t:=s) (by omega) hn]
  have:=h3 (k * 2) (by rw [Nat.mul_assoc];omega)
  rwa [Nat.mul_assoc] at this
 ·have h4:(q+1) * (2 * s)<=k * (2 * s):=Nat.mul_le_mul_right _ (by omega)
  rw [Nat.succ_mul] at h4
  rw [xf (by omega)];exact xd
theorem uG {s a b:Nat} {d:List aj} (hs:0 < s) (h:mC s a d) (h1:a+s < b) (h2:b<=d.length) (h3:b=a+2 * s\/(b=d.length/\b<=a+2 * s)):Part d (dy (b - a) a (a+s) b d) a b:=by
 obtain ⟨s1,s2⟩:=BH h
 refine zl (by omega) h1 h2 (Nat.le_refl _) ?_ ?_
 ·rw [Nat.add_sub_cancel_left];exact s1
 ·rcases h3 with h3|⟨h3,h4⟩
  ·rw [show b - (a+s)=s by omega];exact s2
  ·have:=sg (d:=d) (a:=a+s) (s:=s) (t:=b - (a+s)) (by omega) (by omega)
   show eU (jv d (a+s) (b - (a+s)))
   rw [<-this];exact s2
def mB (r:aj):Prop:=r.kind < 1\/r.kind > 8
def nK (r:aj):Prop:=r.ax < 0\/r.ax > 7\/r.ba < 0\/r.ba > 29\/r.sum < 1\/r.sum > 1000000
instance (r:aj):Decidable (mB r):=by unfold mB;infer_instance
instance (r:aj):Decidable (nK r):=by unfold nK;infer_instance
def mw:List aj->Int->cT
 |[],_=>⟨0,0⟩
 |r::l,i=>if mB r then ⟨1,i⟩ else if nK r then ⟨3,i⟩ else mw l (i+1)
def gk (l:List aj):cT:=if l.length > 100 then ⟨5,0⟩ else mw l 0
theorem oA {l:List aj} {q:Nat} {x:aj} (h:l[q]?=some x):mw (l.drop q) q=if mB x then ⟨1,q⟩ else if nK x then ⟨3,q⟩ else mw (l.drop (q+1)) ((q+1:Nat):Int):=by
 obtain ⟨hq,rfl⟩:=List.getElem?_eq_some_iff.1 h
 rw [List.drop_eq_getElem_cons hq];rfl
theorem zF {l:List aj} {q:Nat} {i:Int} (h:l.length<=q):mw (l.drop q) i=⟨0,0⟩:=by rw [List.drop_of_length_le h];rfl
def xu (r:aj):Prop:=¬mB r/\¬nK r
theorem xo:∀ {l:List aj} {i:Int},(mw l i).err=0↔∀ x∈l,xu x
 |[],i=>by simp [mw]
 |r::l,i=>by
  unfold mw
  split
  ·rename_i h
   simp only [List.mem_cons,forall_eq_or_imp]
   exact ⟨fun e=>absurd e (by decide),fun e=>absurd h e.1.1⟩
  ·split
   ·rename_i h
    simp only [List.mem_cons,forall_eq_or_imp]
    exact ⟨fun e=>absurd e (by decide),fun e=>absurd h e.1.2⟩
   ·rename_i h1 h2
    rw [xo]
    simp only [List.mem_cons,forall_eq_or_imp]
    exact ⟨fun e=>⟨⟨h1,h2⟩,e⟩,fun e=>e.2⟩
theorem zc {l:List aj}:(gk l).err=0↔l.length<=100/\∀ x∈l,xu x:=by
 unfold gk
 split
 ·exact ⟨fun e=>absurd e (by decide),fun e=>by omega⟩
 ·rw [xo];exact ⟨fun e=>⟨by omega,e⟩,fun e=>e.2⟩
theorem FG {x:aj} (h:xu x):0<=x.ax/\x.ax<=7/\0<=x.ba/\x.ba<=29/\1<=x.kind/\x.kind<=8/\1<=x.sum/\x.sum<=1000000:=by
 unfold xu mB nK at h;omega
theorem qT {l:List aj} {q:Nat} {x:aj} (h:l[q]?=some x):l.take (q+1)=l.take q++[x]:=by
 rw [List.take_add_one,h];rfl
def ma (n:Int):Nat->List Int
 |0=>[]
 |k+1=>n / 256 ^ k % 256::ma n k
theorem px (n:Int):∀ k,(ma n k).length=k
 |0=>rfl
 |k+1=>by unfold ma;rw [List.length_cons,px n k]
theorem Cv {n:Int} {k:Nat} (h:1<=k):ma n k=n / 256 ^ (k - 1) % 256::ma n (k - 1):=by
 obtain ⟨j,rfl⟩:∃ j,k=j+1:=⟨k - 1,by omega⟩
 rfl
theorem Dl (k:Nat):(2:Int) ^ (8 * k)=256 ^ k:=by rw [Int.pow_mul];rfl
theorem GD {k:Nat} {b n:Int} (h1:1<=k) (hb:b=8 * ((k:Int) - 1)):n / 2 ^ b.toNat=n / 256 ^ (k - 1):=by
 subst hb
 rw [show (8 * ((k:Int) - 1)).toNat=8 * (k - 1) by omega,Dl]
def uX (x:aj):List Int:=[x.ax % 256,x.ba % 256,x.kind % 256]++ma x.sum 3
def lr:List aj->Int
 |[]=>0
 |x::l=>x.sum+lr l
theorem Bh (u v:List aj):lr (u++v)=lr u+lr v:=by
 induction u with
 |nil=>simp [lr]
 |cons x u ih=>simp only [List.cons_append,lr,ih];omega
theorem zp {l:List aj} {q:Nat} {x:aj} (h:l[q]?=some x):lr (l.take (q+1))=lr (l.take q)+x.sum:=by
 rw [qT h,Bh];simp [lr]
def lU (l r:List aj):List Int:=((l.length:Int) % 256)::r.flatMap uX
theorem yx {l r:List aj} {q:Nat} {x:aj} (h:r[q]?=some x):lU l (r.take (q+1))=lU l (r.take q)++uX x:=by
 unfold lU;rw [qT h,List.flatMap_append];simp
theorem Bv (x:aj):(uX x).length=6:=by unfold uX;rw [List.length_append,px];rfl
theorem Ab (l r:List aj):(lU l r).length=1+6 * r.length:=by
 unfold lU
 rw [List.length_cons]
 induction r with
 |nil=>rfl
 |cons x r ih=>rw [List.flatMap_cons,List.length_append,Bv,List.length_cons];omega
def jQ (l:List aj):List Int×cT:=if (gk l).err=0 then (lU l (gn l)++ma (lr (gn l)) 4,⟨0,0⟩) else ([],gk l)
def dt (e err:Int):Int:=if e=0 then err else e
def dQ (l:List Entry) (e src dst n:Int):List Entry×Int:=
 if dt e (iU l src dst n).2=0 then ((iU l src dst n).1,0) else (l,dt e (iU l src dst n).2)
def cx (l:List bx) (e k held bf:Int):List bx×Int:=
 match l[k.toNat]? with
 |none=>(l,e)
 |some c=>if dt e (dU c held bf).2=0 then (l.set k.toNat (dU c held bf).1,0) else (l,dt e (dU c held bf).2)
def eA (s:bP) (e:Int) (t:aR):bP×Int:=if dt e (fr s t).2=0 then ((fr s t).1,0) else (s,dt e (fr s t).2)
def im (l:List aj) (e:Int) (r:aj):List aj×Int:=if l.length=100 then (l,dt e 5) else (l++[r],e)
theorem ot {l:List bx} {e k held bf:Int} {c:bx} (h:l[k.toNat]?=some c):cx l e k held bf=if dt e (dU c held bf).2=0 then (l.set k.toNat (dU c held bf).1,0) else (l,dt e (dU c held bf).2):=by
 unfold cx;rw [h]
def dX (aq:List bz) (due:List Int) (an:List bx) (book:List Entry) (e:Int) (t:aR):List Int×List bx×List Entry×Int:=
 match aq[t.ba.toNat]? with
 |none=>(due,an,book,e)
 |some a=>
  if t.kind=1 then (due.set a.ax.toNat (IntKind.i64.wrap (due.getD a.ax.toNat 0+t.sum)),an,dQ book e 1 (50+a.ax) t.sum)
  else if t.kind=2 then (due,(cx an e a.aJ 0 t.sum).1,dQ book (cx an e a.aJ 0 t.sum).2 1 (10+a.aJ) t.sum)
  else if t.kind=3 then (due.set a.ax.toNat (IntKind.i64.wrap (due.getD a.ax.toNat 0 - t.sum)),an,dQ book e (50+a.ax) 2 t.sum)
  else (due,an,book,e)
structure Bk where (time:Int) (down:Bool) (an:List bx) (due:List Int) (aq:List bz) (s0 s1:bP) (n0 n1:Int) (w0 w1:List bU) (bG:cu) (aO:List aj) (book:List Entry)
 deriving DecidableEq
def dz (b c:Bk) (e:Int):Bk×Answer:=if e=0 then (c,⟨0,0⟩) else (b,⟨e,0⟩)
def fA (b:Bk) (d:aS):Bk×Answer:=
 if d.n < 0\/d.n>=b.an.length then (b,⟨6,0⟩)
 else if d.sum < 1\/d.sum > 1000000 then (b,⟨3,0⟩)
 else dz b {b with an:=(cx b.an 0 d.n 0 d.sum).1,book:=(dQ b.book (cx b.an 0 d.n 0 d.sum).2 0 (10+d.n) d.sum).1} (dQ b.book (cx b.an 0 d.n 0 d.sum).2 0 (10+d.n) d.sum).2
def gV (b:Bk) (d:aS):Bk×Answer:=
 if d.n < 0\/d.n>=b.due.length then (b,⟨6,0⟩)
 else if b.due.getD d.n.toNat 0<=0 then (b,⟨10,0⟩)
 else dz b {b with due:=b.due.set d.n.toNat 0,book:=(dQ b.book 0 (50+d.n) 0 (b.due.getD d.n.toNat 0)).1} (dQ b.book 0 (50+d.n) 0 (b.due.getD d.n.toNat 0)).2
def fH (time:Int):List bz->Nat->List bx->List bz->Int->List bx×List bz×Int
 |[],_,an,aq,e=>(an,aq,e)
 |a::l,i,an,aq,e=>fH time l (i+1) (cx an e a.aJ (br (eh a time) - br a) 0).1 (aq.set i (eh a time)) (cx an e a.aJ (br (eh a time) - br a) 0).2
def gP (b:Bk):Bk:=if (fH b.time b.aq 0 b.an b.aq 0).2.2=0 then {b with an:=(fH b.time b.aq 0 b.an b.aq 0).1,aq:=(fH b.time b.aq 0 b.an b.aq 0).2.1} else b
def fm (b:Bk) (d:aS):Bk×Answer:=
 if d.sum < 0\/d.sum > 1000000 - b.time then (b,⟨3,0⟩)
 else (if b.down=true then {b with time:=b.time+d.sum} else gP {b with time:=b.time+d.sum},⟨0,0⟩)
def gw (l:List bU) (ks:List aR) (n:Int):List bU:=l++ks.map (fun t=>⟨t,-1⟩)++[⟨⟨0,0,0,0⟩,n⟩]
def ic (w:List bU) (ks:List aR) (n:Int):List bU×Answer:=if (gw w ks n).length > 60 then (w,⟨5,0⟩) else (gw w ks n,⟨0,0⟩)
def ez (s0 s1:bP) (n0 n1:Int) (w0 w1:List bU) (d:aS):List bU×List bU×Answer:=
 if d.n=0 then (w0,ic w1 s0.kept n0) else if d.n=1 then ((ic w0 s1.kept n1).1,w1,(ic w0 s1.kept n1).2) else (w0,w1,⟨6,0⟩)
def iT (aO:List aj) (days:List (List Int)):List aj×List (List Int)×Answer:=
 if (jQ aO).2.err≠0 then (aO,days,⟨(jQ aO).2.err,0⟩) else ([],days++[(jQ aO).1],⟨0,0⟩)
def gz (e:Int):Int:=if e=10 then 12 else e
def dD (b:Bk) (d:aS):Bk×Answer:=
 if d.n < 0\/d.n>=b.an.length\/d.ax < 0\/d.ax>=b.due.length then (b,⟨6,0⟩)
 else if b.down=true then
  (if gz (ch b.bG ⟨d.n,d.ax,d.sum,b.time⟩).2=0/\(b.aq.length:Int)+(ch b.bG ⟨d.n,d.ax,d.sum,b.time⟩).1.aZ.length > 30 then (b,⟨5,0⟩)
  else if gz (ch b.bG ⟨d.n,d.ax,d.sum,b.time⟩).2≠0 then (b,⟨gz (ch b.bG ⟨d.n,d.ax,d.sum,b.time⟩).2,0⟩)
  else ({b with bG:=(ch b.bG ⟨d.n,d.ax,d.sum,b.time⟩).1},⟨0,(b.aq.length:Int)+(ch b.bG ⟨d.n,d.ax,d.sum,b.time⟩).1.aZ.length - 1⟩))
 else if (cY d.n d.ax d.sum b.time).2=0/\b.aq.length=30 then (b,⟨5,0⟩)
 else if (cY d.n d.ax d.sum b.time).2≠0 then (b,⟨(cY d.n d.ax d.sum b.time).2,0⟩)
 else match b.an[d.n.toNat]? with
  |none=>(b,⟨0,0⟩)
  |some c=>
   if (dF c d.sum b.time).2≠0 then (b,⟨(dF c d.sum b.time).2,0⟩)
   else ({b with an:=b.an.set d.n.toNat (dF c d.sum b.time).1,aq:=b.aq++[(cY d.n d.ax d.sum b.time).1]},⟨0,b.aq.length⟩)
theorem ue (s:cu) (a:ca):(ch s a).1.aZ.length<=s.aZ.length+1:=by
 unfold ch;(repeat' split)<;>simp [fC]
def kH (an:List bx) (k:Int):Int:=
 match an[k.toNat]? with
 |none=>0
 |some c=>c.bf - c.held
def dK (b:Bk) (a cz:bz) (d:aS):List bx×List Int×List Entry×bP×bP×Int:=
 if d.move=1\/d.move=4 then ((cx b.an 0 a.aJ (br a - br cz) 0).1,b.due,b.book,b.s0,b.s1,(cx b.an 0 a.aJ (br a - br cz) 0).2)
 else if d.move=2\/d.move=3 then
  ((cx b.an 0 a.aJ (br a - br cz) (0 - d.sum)).1,b.due,(dQ b.book (cx b.an 0 a.aJ (br a - br cz) (0 - d.sum)).2 (10+a.aJ) 1 d.sum).1,
   (eA b.s0 (dQ b.book (cx b.an 0 a.aJ (br a - br cz) (0 - d.sum)).2 (10+a.aJ) 1 d.sum).2 ⟨0,1,d.n,d.sum⟩).1,b.s1,
   (eA b.s0 (dQ b.book (cx b.an 0 a.aJ (br a - br cz) (0 - d.sum)).2 (10+a.aJ) 1 d.sum).2 ⟨0,1,d.n,d.sum⟩).2)
 else if d.move=5 then
  (b.an,b.due.set a.ax.toNat (IntKind.i64.wrap (b.due.getD a.ax.toNat 0 - d.sum)),(dQ b.book 0 (50+a.ax) 1 d.sum).1,b.s0,(eA b.s1 (dQ b.book 0 (50+a.ax) 1 d.sum).2 ⟨0,2,d.n,d.sum⟩).1,(eA b.s1 (dQ b.book 0 (50+a.ax) 1 d.sum).2 ⟨0,2,d.n,d.sum⟩).2)
 else if d.move=6 then ((cx b.an 0 a.aJ 0 d.sum).1,b.due,(dQ b.book (cx b.an 0 a.aJ 0 d.sum).2 2 (10+a.aJ) d.sum).1,b.s0,b.s1,(dQ b.book (cx b.an 0 a.aJ 0 d.sum).2 2 (10+a.aJ) d.sum).2)
 else if d.move=7 then (b.an,b.due,b.book,(eA b.s0 0 ⟨0,3,d.n,d.sum⟩).1,b.s1,(eA b.s0 0 ⟨0,3,d.n,d.sum⟩).2)
 else if d.move=8 then ((cx b.an 0 a.aJ 0 (0 - d.sum)).1,b.due,(dQ b.book (cx b.an 0 a.aJ 0 (0 - d.sum)).2 (10+a.aJ) 2 d.sum).1,b.s0,b.s1,(dQ b.book (cx b.an 0 a.aJ 0 (0 - d.sum)).2 (10+a.aJ) 2 d.sum).2)
 else (b.an,b.due,b.book,b.s0,b.s1,0)
def lZ (b:Bk) (a:bz) (d:aS) (r:List bx×List Int×List Entry×bP×bP×Int):Bk×Answer:=
 dz b { b with an := r.1, due := r.2.1, book := r.2.2.1, s0 := r.2.2.2.1, s1 := r.2.2.2.2.1, aO := (im b.aO r.2.2.2.2.2 ⟨a.ax, d.n, d.move, d.sum⟩).1, aq := b.aq.set d.n.toNat a } (im b.aO r.2.2.2.2.2 ⟨a.ax, d.n, d.move, d.sum⟩).2
def dv (b:Bk) (d:aS):Bk×Answer:=
 if b.down=true then (b,⟨12,0⟩)
 else if d.n < 0\/d.n>=b.aq.length then (b,⟨6,0⟩)
 else match b.aq[d.n.toNat]? with
  |none=>(b,⟨0,0⟩)
  |some cz=>
   if (bW cz d.move d.sum).2≠0 then (b,⟨(bW cz d.move d.sum).2,0⟩)
   else if d.move=1/\d.sum > kH b.an (bW cz d.move d.sum).1.aJ then (b,⟨10,0⟩)
   else lZ b (bW cz d.move d.sum).1 d (dK b (bW cz d.move d.sum).1 cz d)
theorem hZ {a:bz} (h:0<=a.sum/\a.sum<=1000000/\0<=a.captured/\a.captured<=a.sum/\0<=a.bu/\0<=a.bh/\a.bu+a.bh<=a.captured/\0<=a.aJ/\a.aJ<=7/\0<=a.ax/\a.ax<=7/\0<=a.cM/\a.cM<=1000100):bE a=0:=by
 unfold bE;rw [if_neg (by omega),if_neg (by omega)]
theorem eX {α:Type} {x b:α} {e:Int} (h:(x,e)=(b,(0:Int))):x=b/\e=0:=Prod.mk.inj h
theorem wF {a b:bz} {k n:Int} (hw:bE a=0) (h1:1<=n) (h2:n<=1000000) (h:dh a k n=(b,0)):bE b=0/\b.aJ=a.aJ/\b.ax=a.ax:=by
 have hr:=eN hw
 unfold dh at h
 by_cases c1:a.shut=true
 ·rw [if_pos c1] at h;have:=(eX h).2;omega
 rw [if_neg c1] at h
 by_cases c2:k=1
 ·rw [if_pos c2] at h
  by_cases c3:n > 1000000 - a.sum
  ·rw [if_pos c3] at h;have:=(eX h).2;omega
  ·rw [if_neg c3] at h;obtain ⟨rfl,_⟩:=eX h
   exact ⟨hZ (by dsimp only;omega),rfl,rfl⟩
 rw [if_neg c2] at h
 by_cases c3:n > a.sum - a.captured
 ·rw [if_pos c3] at h;have:=(eX h).2;omega
 rw [if_neg c3] at h
 by_cases c4:k=4
 ·rw [if_pos c4] at h;obtain ⟨rfl,_⟩:=eX h
  exact ⟨hZ (by dsimp only;omega),rfl,rfl⟩
 ·rw [if_neg c4] at h;obtain ⟨rfl,_⟩:=eX h
  exact ⟨hZ (by dsimp only;omega),rfl,rfl⟩
theorem my {a b:bz} {k n:Int} (h:bW a k n=(b,0)):bE a=0/\bE b=0/\b.aJ=a.aJ/\b.ax=a.ax/\1<=k/\k<=8/\1<=n/\n<=1000000:=by
 unfold bW at h
 by_cases c0:bE a≠0
 ·rw [if_pos c0] at h;exact absurd (eX h).2 c0
 rw [if_neg c0] at h
 have hw:bE a=0:=by omega
 have hr:=eN hw
 by_cases c1:k < 1\/k > 8
 ·rw [if_pos c1] at h;have:=(eX h).2;omega
 rw [if_neg c1] at h
 by_cases c2:n < 1\/n > 1000000
 ·rw [if_pos c2] at h;have:=(eX h).2;omega
 rw [if_neg c2] at h
 have hb:bE b=0/\b.aJ=a.aJ/\b.ax=a.ax:=by
  by_cases k5:k=5
  ·rw [if_pos k5] at h
   by_cases c:n > a.captured - a.bu - a.bh
   ·rw [if_pos c] at h;have:=(eX h).2;omega
   ·rw [if_neg c] at h;obtain ⟨rfl,_⟩:=eX h;exact ⟨hZ (by dsimp only;omega),rfl,rfl⟩
  rw [if_neg k5] at h
  by_cases k6:k=6
  ·rw [if_pos k6] at h
   by_cases c:n > a.captured - a.bu - a.bh
   ·rw [if_pos c] at h;have:=(eX h).2;omega
   ·rw [if_neg c] at h;obtain ⟨rfl,_⟩:=eX h;exact ⟨hZ (by dsimp only;omega),rfl,rfl⟩
  rw [if_neg k6] at h
  by_cases k7:k=7
  ·rw [if_pos k7] at h
   by_cases c:n > a.bh
   ·rw [if_pos c] at h;have:=(eX h).2;omega
   ·rw [if_neg c] at h;obtain ⟨rfl,_⟩:=eX h;exact ⟨hZ (by dsimp only;omega),rfl,rfl⟩
  rw [if_neg k7] at h
  by_cases k8:k=8
  ·rw [if_pos k8] at h
   by_cases c:n > a.bh
   ·rw [if_pos c] at h;have:=(eX h).2;omega
   ·rw [if_neg c] at h;obtain ⟨rfl,_⟩:=eX h;exact ⟨hZ (by dsimp only;omega),rfl,rfl⟩
  rw [if_neg k8] at h
  by_cases c:(dh a k n).2≠0
  ·rw [if_pos c] at h;exact absurd (eX h).2 c
  ·rw [if_neg c] at h;exact wF hw (by omega) (by omega) h
 exact ⟨hw,hb.1,hb.2.1,hb.2.2,by omega,by omega,by omega,by omega⟩
theorem Bb {c:bx} (h:cr c=0):-9223372036854775808<=c.bf - c.held/\c.bf - c.held<=9223372036854775807:=by
 have:=fW h;omega
def gh:List ca->List bx->List bz->List bx×List bz×Int
 |[],cs,xs=>(cs,xs,0)
 |x::l,cs,xs=>
  if (cY x.aJ x.ax x.sum x.time).2≠0 then (cs,xs,(cY x.aJ x.ax x.sum x.time).2)
  else match cs[x.aJ.toNat]? with
   |none=>(cs,xs,0)
   |some c=>if (eO c x.sum).2≠0 then (cs,xs,(eO c x.sum).2) else gh l (cs.set x.aJ.toNat (eO c x.sum).1) (xs++[(cY x.aJ x.ax x.sum x.time).1])
theorem qf {l:List ca} {q:Nat} {x:ca} {cs:List bx} {xs:List bz} (h:l[q]?=some x):gh (l.drop q) cs xs=
  if (cY x.aJ x.ax x.sum x.time).2≠0 then (cs,xs,(cY x.aJ x.ax x.sum x.time).2)
  else match cs[x.aJ.toNat]? with
   |none=>(cs,xs,0)
   |some c=>if (eO c x.sum).2≠0 then (cs,xs,(eO c x.sum).2) else gh (l.drop (q+1)) (cs.set x.aJ.toNat (eO c x.sum).1) (xs++[(cY x.aJ x.ax x.sum x.time).1]):=by
 obtain ⟨hq,rfl⟩:=List.getElem?_eq_some_iff.1 h
 rw [List.drop_eq_getElem_cons hq];rfl
def jg (b:Bk):Bk×Answer:=
 if b.down=false then (b,⟨8,0⟩)
 else if (cQ b.bG).2.2≠0 then (b,⟨(cQ b.bG).2.2,0⟩)
 else if (gh (cQ b.bG).2.1 b.an b.aq).2.2≠0 then (b,⟨(gh (cQ b.bG).2.1 b.an b.aq).2.2,0⟩)
 else (gP {b with an:=(gh (cQ b.bG).2.1 b.an b.aq).1,aq:=(gh (cQ b.bG).2.1 b.an b.aq).2.1,bG:=(cQ b.bG).1,down:=false},⟨0,0⟩)
def fa (b:Bk) (d:aS):Bk×Answer:=
 match b.w0[0]? with
 |none=>(b,⟨6,0⟩)
 |some p=>
  if d.kind=7 then ({b with w0:=b.w0.drop 1},⟨0,0⟩)
  else if p.seen>=0 then (if (dL b.s0 p.seen).2=0 then ({b with w0:=b.w0.drop 1,s0:=(dL b.s0 p.seen).1},⟨0,0⟩) else (b,⟨(dL b.s0 p.seen).2,0⟩))
  else if (fu b.n0 p.ct).2=true then
   dz b { b with w0 := b.w0.drop 1, n0 := (fu b.n0 p.ct).1, due := (dX b.aq b.due b.an b.book 0 p.ct).1, an := (dX b.aq b.due b.an b.book 0 p.ct).2.1, book := (dX b.aq b.due b.an b.book 0 p.ct).2.2.1 } (dX b.aq b.due b.an b.book 0 p.ct).2.2.2
  else ({b with w0:=b.w0.drop 1,n0:=(fu b.n0 p.ct).1},⟨0,0⟩)
def eZ (b:Bk) (d:aS):Bk×Answer:=
 match b.w1[0]? with
 |none=>(b,⟨6,0⟩)
 |some p=>
  if d.kind=7 then ({b with w1:=b.w1.drop 1},⟨0,0⟩)
  else if p.seen>=0 then (if (dL b.s1 p.seen).2=0 then ({b with w1:=b.w1.drop 1,s1:=(dL b.s1 p.seen).1},⟨0,0⟩) else (b,⟨(dL b.s1 p.seen).2,0⟩))
  else if (fu b.n1 p.ct).2=true then
   dz b { b with w1 := b.w1.drop 1, n1 := (fu b.n1 p.ct).1, due := (dX b.aq b.due b.an b.book 0 p.ct).1, an := (dX b.aq b.due b.an b.book 0 p.ct).2.1, book := (dX b.aq b.due b.an b.book 0 p.ct).2.2.1 } (dX b.aq b.due b.an b.book 0 p.ct).2.2.2
  else ({b with w1:=b.w1.drop 1,n1:=(fu b.n1 p.ct).1},⟨0,0⟩)
def bQ (b:Bk) (d:aS):Bk×Answer:=if d.n=0 then fa b d else if d.n=1 then eZ b d else (b,⟨6,0⟩)
def dc (b:Bk) (days:List (List Int)) (d:aS):Bk×List (List Int)×Answer:=
 if d.kind=1 then ((fA b d).1,days,(fA b d).2)
 else if d.kind=2 then ((dD b d).1,days,(dD b d).2)
 else if d.kind=3 then ((dv b d).1,days,(dv b d).2)
 else if d.kind=4 then ((fm b d).1,days,(fm b d).2)
 else if d.kind=5 then ({b with w0:=(ez b.s0 b.s1 b.n0 b.n1 b.w0 b.w1 d).1,w1:=(ez b.s0 b.s1 b.n0 b.n1 b.w0 b.w1 d).2.1},days,(ez b.s0 b.s1 b.n0 b.n1 b.w0 b.w1 d).2.2)
 else if d.kind=6\/d.kind=7 then ((bQ b d).1,days,(bQ b d).2)
 else if d.kind=8 then (if b.down=true then (b,days,⟨8,0⟩) else ({b with down:=true},days,⟨0,0⟩))
 else if d.kind=9 then ((jg b).1,days,(jg b).2)
 else if d.kind=10 then ({b with aO:=(iT b.aO days).1},(iT b.aO days).2.1,(iT b.aO days).2.2)
 else if d.kind=11 then ((gV b d).1,days,(gV b d).2)
 else (b,days,⟨1,0⟩)
def fG (b:Bk) (days:List (List Int)) (told:List (Int×Answer)) (cl:Nat) (d:aS):Bk×List (List Int)×List (Int×Answer)×Nat×Answer:=
 if (iI told d.id).isSome=true/\d.id≠0 then (b,days,told,cl,(iI told d.id).getD ⟨0,0⟩)
 else ((dc b days d).1,(dc b days d).2.1,oh told d.id (dc b days d).2.2,if (iI told d.id).isSome then cl else cl+1,(dc b days d).2.2)
structure Setup where (cX:List dk) (iE cap:Int)
 deriving DecidableEq
def oC:List dk->Int->cT
 |[],_=>⟨0,0⟩
 |p::l,i=>if fi p≠0 then ⟨fi p,i⟩ else oC l (i+1)
theorem tl {l:List dk} {q:Nat} {p:dk} (h:l[q]?=some p):oC (l.drop q) q=if fi p≠0 then ⟨fi p,q⟩ else oC (l.drop (q+1)) ((q+1:Nat):Int):=by
 obtain ⟨hq,rfl⟩:=List.getElem?_eq_some_iff.1 h
 rw [List.drop_eq_getElem_cons hq];rfl
def ey (s:Setup):cT:=
 if s.cX.length > 8\/s.iE < 0\/s.iE > 8 then ⟨5,0⟩ else if s.cap < 0\/s.cap > 1000000 then ⟨3,0⟩ else oC s.cX 0
def Ee:Bk:=⟨0,false,[],[],[],⟨0,[]⟩,⟨0,[]⟩,0,0,[],[],⟨0,[],[]⟩,[],[]⟩
def pv (p:dk):bx:=⟨0,0,p,[]⟩
def iv (s:Setup):Bk:=⟨0,false,s.cX.map pv,List.replicate s.iE.toNat 0,[],⟨0,[]⟩,⟨0,[]⟩,0,0,[],[],(dw s.cap s.cX.length).1,[],[]⟩
def km:List aS->Bk->List (List Int)->List (Int×Answer)->Nat->List Answer->Bk×List (List Int)×List Answer
 |[],b,days,_,_,out=>(b,days,out)
 |d::l,b,days,told,cl,out=>km l (fG b days told cl d).1 (fG b days told cl d).2.1 (fG b days told cl d).2.2.1 (fG b days told cl d).2.2.2.1 (out++[(fG b days told cl d).2.2.2.2])
theorem yn {l:List aS} {q:Nat} {d:aS} {b:Bk} {days:List (List Int)} {told:List (Int×Answer)} {cl:Nat} {out:List Answer} (h:l[q]?=some d):
  km (l.drop q) b days told cl out=km (l.drop (q+1)) (fG b days told cl d).1 (fG b days told cl d).2.1 (fG b days told cl d).2.2.1 (fG b days told cl d).2.2.2.1 (out++[(fG b days told cl d).2.2.2.2]):=by
 obtain ⟨hq,rfl⟩:=List.getElem?_eq_some_iff.1 h
 rw [List.drop_eq_getElem_cons hq];rfl
def ik (s:Setup) (l:List aS):Bk×List (List Int)×List Answer×cT:=
 if (ey s).err≠0 then (Ee,[],[],ey s) else if l.length > 150 then (Ee,[],[],⟨5,0⟩)
 else ((km l (iv s) [] [] 0 []).1,(km l (iv s) [] [] 0 []).2.1,(km l (iv s) [] [] 0 []).2.2,⟨0,0⟩)
theorem yv {time:Int} {l:List bz} {q:Nat} {a:bz} {an:List bx} {aq:List bz} {e:Int} (h:l[q]?=some a):fH time (l.drop q) q an aq e=
  fH time (l.drop (q+1)) (q+1) (cx an e a.aJ (br (eh a time) - br a) 0).1 (aq.set q (eh a time)) (cx an e a.aJ (br (eh a time) - br a) 0).2:=by
 obtain ⟨hq,rfl⟩:=List.getElem?_eq_some_iff.1 h
 rw [List.drop_eq_getElem_cons hq];rfl
theorem ff (l:List bx) (e k held bf:Int):(cx l e k held bf).1.length=l.length:=by
 unfold cx
 split
 ·rfl
 ·split<;>simp
theorem xF {a:bz} {t:Int} (h:bE a=0):bE (eh a t)=0:=by
 unfold bE at h ⊢;unfold eh;exact h
theorem oK {a:bz} (h:bE a=0):0<=br a/\br a<=1000000:=by
 have:=eN h
 unfold br;split<;>omega
structure ck (b:Bk):Prop where
 time:0<=b.time/\b.time<=1000000
 an:b.an.length<=8
 due:b.due.length<=8
 aq:b.aq.length+b.bG.aZ.length<=30
 aO:b.aO.length<=100
 w0:b.w0.length<=60
 w1:b.w1.length<=60
 perm:∀ a∈b.aq,bE a=0/\0<=a.aJ/\a.aJ < b.an.length/\0<=a.ax/\a.ax < b.due.length
 jy:∀ a∈b.bG.aZ,0<=a.aJ/\a.aJ < b.an.length/\0<=a.ax/\a.ax < b.due.length
 k0:∀ t∈b.s0.kept,fF t.number/\0<=t.ba/\t.ba < b.aq.length
 k1:∀ t∈b.s1.kept,fF t.number/\0<=t.ba/\t.ba < b.aq.length
 right:∀ c∈b.an,cr c=0
 l0:b.s0.kept.length<=40
 l1:b.s1.kept.length<=40
 p0:∀ p∈b.w0,p.seen < 0->fF p.ct.number/\0<=p.ct.ba/\p.ct.ba < b.aq.length
 p1:∀ p∈b.w1,p.seen < 0->fF p.ct.number/\0<=p.ct.ba/\p.ct.ba < b.aq.length
 n0:0<=b.n0
 n1:0<=b.n1
 calm:b.down=false->b.bG.aZ=[]
theorem ck.tick {b:Bk} (h:ck b) {t:Int} (h0:0<=t) (h1:t<=1000000):ck {b with time:=t}:=
 ⟨⟨h0,h1⟩,h.an,h.due,h.aq,h.aO,h.w0,h.w1,h.perm,h.jy,h.k0,h.k1,h.right,h.l0,h.l1,h.p0,h.p1,h.n0,h.n1,h.calm⟩

def aT (b:Bk) (i j k m:Nat) (u v:CV):List CV:=[(cI b.time),(cB b.down),(.s i 0 6 b.an.length),(.s j 0 1 b.due.length),(.s k 0 8 b.aq.length),(cI b.s0.bF),(dd b.s0.kept),(cI b.s1.bF),(dd b.s1.kept),(cI b.n0),(cI b.n1),(eo b.w0),(eo b.w1),(cI b.bG.cap),(fV b.bG.used),(gR b.bG.aZ),(.s m 0 4 b.aO.length),u,(dT b.book),v]
def aX (x:Nat->Value):List CV:=[.d (.v (x 0)),.d (.v (x 1)),.d (.v (x 2)),.d (.v (x 3)),.d (.v (x 4)),.d (.v (x 5)),.d (.v (x 6)),.d (.v (x 7)),.d (.v (x 8)),.d (.v (x 9)),.d (.v (x 10)),.d (.v (x 11)),.d (.v (x 12)),.d (.v (x 13)),.d (.v (x 14)),.d (.v (x 15)),.d (.v (x 16)),.d (.v (x 17)),.d (.v (x 18)),.d (.v (x 19))]
def du:List (Option CV):=[none,none,none,none,none,none,none,none,none,none,none,none,none,none,none,none,none,none,none,none]
def ja (b:Bk) (i j k m:Nat) (u v:Option CV):List (Option CV):=[some (cI b.time),some (cB b.down),some (.s i 0 6 b.an.length),some (.s j 0 1 b.due.length),some (.s k 0 8 b.aq.length),some (cI b.s0.bF),some (dd b.s0.kept),some (cI b.s1.bF),some (dd b.s1.kept),some (cI b.n0),some (cI b.n1),some (eo b.w0),some (eo b.w1),some (cI b.bG.cap),some (fV b.bG.used),some (gR b.bG.aZ),some (.s m 0 4 b.aO.length),u,some (dT b.book),v]


theorem vS (a b c:Int):Fn Try.prog 44 [(.g [(cI a),(cI b),(cI c)])] (aI (kv a b c)) []:=by
 refine Fn.mk' 31 [(0,(aG [(cI a),(cI b),(cI c)]))] Try.func44 rfl rfl rfl rfl ?_
 intro W0 T0
 refine ad aa 2 rfl ?_
 refine af ?_
 refine cq 30 ((((((decide (a < 1))||(decide (a > 1000000)))||(decide (b < 0)))||(decide (b > 30)))||(decide (c < 0)))||(decide (c > 1000000000000))) ?_ ?_
 ·
  refine aw ?_
  refine ab aa 4 rfl ?_
  refine bA (t:=6) rfl (fun hb1=>?_) (fun hb1=>?_)
  ·
   have hb1':=of_decide_eq_true hb1
   refine ab aa 24 rfl ?_
   refine ae ?_
   exact aD.bD 29 rfl rfl (by first|(simp [hb1];done)|(simp_all;done)|(exfalso;simp_all;done)|(simp_all;omega)) rfl
  have hb1':=of_decide_eq_false hb1
  refine ab aa 5 rfl ?_
  refine bA (t:=11) rfl (fun hb2=>?_) (fun hb2=>?_)
  ·
   have hb2':=of_decide_eq_true hb2
   refine ab aa 19 rfl ?_
   refine ae ?_
   exact aD.bD 30 rfl rfl (by first|(simp [hb1,hb2];done)|(simp_all;done)|(exfalso;simp_all;done)|(simp_all;omega)) rfl
  have hb2':=of_decide_eq_false hb2
  refine ab aa 5 rfl ?_
  refine bA (t:=16) rfl (fun hb3=>?_) (fun hb3=>?_)
  ·
   have hb3':=of_decide_eq_true hb3
   refine ab aa 14 rfl ?_
   refine ae ?_
   exact aD.bD 31 rfl rfl (by first|(simp [hb1,hb2,hb3];done)|(simp_all;done)|(exfalso;simp_all;done)|(simp_all;omega)) rfl
  have hb3':=of_decide_eq_false hb3
  refine ab aa 5 rfl ?_
  refine bA (t:=21) rfl (fun hb4=>?_) (fun hb4=>?_)
  ·
   have hb4':=of_decide_eq_true hb4
   refine ab aa 9 rfl ?_
   refine ae ?_
   exact aD.bD 32 rfl rfl (by first|(simp [hb1,hb2,hb3,hb4];done)|(simp_all;done)|(exfalso;simp_all;done)|(simp_all;omega)) rfl
  have hb4':=of_decide_eq_false hb4
  refine ab aa 5 rfl ?_
  refine bA (t:=26) rfl (fun hb5=>?_) (fun hb5=>?_)
  ·
   have hb5':=of_decide_eq_true hb5
   refine ab aa 4 rfl ?_
   refine ae ?_
   exact aD.bD 33 rfl rfl (by first|(simp [hb1,hb2,hb3,hb4,hb5];done)|(simp_all;done)|(exfalso;simp_all;done)|(simp_all;omega)) rfl
  have hb5':=of_decide_eq_false hb5
  refine ab aa 4 rfl ?_
  refine ae ?_
  exact aD.bD 33 rfl rfl (by first|(simp [hb1,hb2,hb3,hb4,hb5];done)|(simp_all;done)|(exfalso;simp_all;done)|(simp_all;omega)) rfl
 refine ag rfl (fun hc6=>?_) (fun hc6=>?_)
 ·
  have hc6':=hc6;try simp only [bm,bL] at hc6'
  refine ad aa 1 rfl ?_
  refine ar ?_
  refine ao ?_
  refine ah aa [] 0 rfl rfl rfl rfl rfl rfl ?_ ?_
  ·(show aI _=aI _;unfold kv;rw [if_pos (by omega)])
  ·rfl
 have hc6':=hc6;try simp only [bm,bL] at hc6'
 refine aP ?_
 refine ad aa 1 rfl ?_
 refine ar ?_
 refine ah aa [] 0 rfl rfl rfl rfl rfl rfl ?_ ?_
 ·(show aI _=aI _;unfold kv;rw [if_neg (by omega)])
 ·rfl

theorem wP (l:List cS):Fn Try.prog 45 [(.c (ft l))] (aG [cI (cD l).1,cI (cD l).2]) []:=by
 refine Fn.mk' 53 [(0,(aC (ft l)))] Try.func45 rfl rfl rfl rfl ?_
 intro W0 T0
 refine dH 0 rfl (fun hlen0=>?_)
 refine ad aa 1 rfl ?_
 refine af ?_
 refine az aa 1 rfl ?_
 refine ay (cO rfl rfl rfl rfl rfl Try.underlying59) rfl ?_
 refine ab aa 1 rfl ?_
 refine ae ?_
 refine ag rfl (fun hc1=>?_) (fun hc1=>?_)
 ·
  have hc1':=of_decide_eq_true hc1
  refine ad aa 2 rfl ?_
  refine ar ?_
  refine ao ?_
  refine ah aa [0] 0 rfl rfl rfl rfl rfl rfl ?_ ?_
  ·(have h:cD l=(5,0):=by (unfold cD;rw [if_pos (by omega)]));rw [h];rfl
  ·rfl
 have hc1':=of_decide_eq_false hc1
 refine aP ?_
 refine af ?_
 refine az aa 1 rfl ?_
 refine ay (cO rfl rfl rfl rfl rfl Try.underlying59) rfl ?_
 refine ab aa 1 rfl ?_
 refine ae ?_
 refine aV ?_
 refine cv (β:=Nat) (fun (q:Nat)=>⟨[(0,(aC (ft l))),(2,(aC (.p 0 0 0 0))),(9,(aC (ft l))),(10,(aI (↑l.length:Int))),(11,(aI (↑q:Int)))],[(0,(.box 50 [(cI 0),(cI 0)]))],1⟩) (fun (q:Nat)=>q<=l.length/\scan (jb l) 0 l.length=scan (jb l) q (l.length - q)) (fun (q:Nat)=>l.length - q) 0 ?_ ?_ ?_
 ·exact ⟨by omega,rfl⟩
 ·exact aD.bZ id (by refine ⟨?_,?_,?_,?_,?_,trivial⟩<;>first|rfl|(simp only [bn];done)|(congr 3;omega)|(congr 4;omega)|(simp only [bo];rfl)) (⟨by first|rfl|(simp only [bn];done)|(congr 3;omega)|(congr 4;omega)|(simp only [bo];rfl),trivial⟩) rfl
 rintro q ⟨hi0_0,hi0_1⟩
 refine ad aa 1 rfl ?_
 refine af ?_
 refine ag rfl (fun hc2=>?_) (fun hc2=>?_)
 ·
  have hc2':=of_decide_eq_true hc2
  refine aP ?_
  refine af ?_
  refine aV ?_
  refine az aa 1 rfl ?_
  obtain ⟨x1,hx1⟩:=cp (xs:=l) (i:=q) (by first|omega|(simp;done)|(simp;omega))
  refine ay (cU (i:=q) rfl rfl rfl Try.underlying59 iD (by first|omega|(simp;done)|(simp;omega)) (bw hx1)) rfl ?_
  refine ab aa 4 rfl ?_
  refine ae ?_
  refine af ?_
  refine cq 33 ((((decide (x1.time < 0))||(decide (x1.time > 1000000)))||(decide (x1.sum < 0)))||(decide (x1.sum > 1000000))) ?_ ?_
  ·
   refine aw ?_
   refine ab aa 4 rfl ?_
   refine bA (t:=19) rfl (fun hb3=>?_) (fun hb3=>?_)
   ·
    have hb3':=of_decide_eq_true hb3
    refine ab aa 14 rfl ?_
    refine ae ?_
    exact aD.bD 19 rfl rfl (by first|(simp [hb3];done)|(simp_all;done)|(exfalso;simp_all;done)|(simp_all;omega)) rfl
   have hb3':=of_decide_eq_false hb3
   refine ab aa 5 rfl ?_
   refine bA (t:=24) rfl (fun hb4=>?_) (fun hb4=>?_)
   ·
    have hb4':=of_decide_eq_true hb4
    refine ab aa 9 rfl ?_
    refine ae ?_
    exact aD.bD 20 rfl rfl (by first|(simp [hb3,hb4];done)|(simp_all;done)|(exfalso;simp_all;done)|(simp_all;omega)) rfl
   have hb4':=of_decide_eq_false hb4
   refine ab aa 5 rfl ?_
   refine bA (t:=29) rfl (fun hb5=>?_) (fun hb5=>?_)
   ·
    have hb5':=of_decide_eq_true hb5
    refine ab aa 4 rfl ?_
    refine ae ?_
    exact aD.bD 21 rfl rfl (by first|(simp [hb3,hb4,hb5];done)|(simp_all;done)|(exfalso;simp_all;done)|(simp_all;omega)) rfl
   have hb5':=of_decide_eq_false hb5
   refine ab aa 4 rfl ?_
   refine ae ?_
   exact aD.bD 21 rfl rfl (by first|(simp [hb3,hb4,hb5];done)|(simp_all;done)|(exfalso;simp_all;done)|(simp_all;omega)) rfl
  refine ag rfl (fun hc6=>?_) (fun hc6=>?_)
  ·
   have hc6':=hc6;try simp only [bm,bL] at hc6'
   refine ad aa 3 rfl ?_
   refine ar ?_
   refine ao ?_
   refine bg ?_
   refine ao ?_
   refine ao ?_
   refine bg ?_
   refine ao ?_
   refine ah aa [0] 0 rfl rfl rfl rfl rfl rfl ?_ ?_
   ·(have h:cD l=(3,(q:Int)):=by (unfold cD;rw [if_neg (by omega),hi0_1];exact ie (by omega) (show jb l q=3 by (unfold jb;simp only [hx1];rw [if_pos (by omega)])) (by decide)));rw [h];rfl
   ·rfl
  have hc6':=hc6;try simp only [bm,bL] at hc6'
  refine aP ?_
  refine af ?_
  rcases Bool.eq_false_or_eq_true (decide ((↑q:Int) > 0)) with hb7|hb7
  ·
   have hb7':=of_decide_eq_true hb7
   obtain ⟨x2,hx2⟩:=cp (xs:=l) (i:=(q) - 1) (by first|omega|(simp;done)|(simp;omega))
   refine bb [0,2,9,10,11,4,3] [1,0] mixed rfl rfl ?_
   refine aA (kn:=[(37,true)]) aa 5 rfl ⟨hb7,trivial⟩ ?_
   refine aU (n':=2) [40,38] [] rfl rfl (.inl ⟨(al.yes rfl rfl rfl),aH.cast (aK rfl rfl rfl (aF (by first|omega|(simp;done)|(simp;omega)))) rfl⟩) rfl ?_
   refine aU (n':=2) [39,41,38] [] rfl rfl (.inl ⟨(al.yes rfl rfl rfl),aH.cast (cU (i:=(q) - 1) rfl rfl rfl Try.underlying59 iD (by first|omega|(simp;done)|(simp;omega)) (bw hx2)) rfl⟩) rfl ?_
   refine aA (kn:=[]) aa 6 rfl trivial ?_
   refine bB [1,0] rfl rfl rfl rfl (by kernel_rfl) ?_
   refine ae ?_
   refine ag rfl (fun hc8=>?_) (fun hc8=>?_)
   ·
    have hc8':=of_decide_eq_true hc8
    refine ad aa 3 rfl ?_
    refine ar ?_
    refine bg ?_
    refine ao ?_
    refine ao ?_
    refine bg ?_
    refine ao ?_
    refine ah aa [0] 0 rfl rfl rfl rfl rfl rfl ?_ ?_
    ·(have h:cD l=(2,(q:Int)):=by (unfold cD;rw [if_neg (by omega),hi0_1];exact ie (by omega) (show jb l q=2 by (unfold jb;simp only [hx1];rw [if_neg (by omega),if_pos (by refine ⟨by omega,?_⟩;rw [List.getD_eq_getElem?_getD,hx2];simp only [Option.getD_some];omega)])) (by decide)));rw [h];rfl
    ·rfl
   have hc8':=of_decide_eq_false hc8
   refine cV ?_
   refine bl ?_
   refine then_ok ?_
   refine aw ?_
   refine ay (aK rfl rfl rfl (aF (by first|omega|(simp;done)|(simp;omega)))) rfl ?_
   refine ab aa 1 rfl ?_
   refine ae ?_
   refine ⟨q+1,⟨by omega,by rw [hi0_1];exact mH (by omega) (by unfold jb;simp only [hx1];rw [if_neg (by omega),if_neg (by first|omega|(rw [List.getD_eq_getElem?_getD,hx2];simp only [Option.getD_some];omega))])⟩,by first|omega|(simp;done)|(simp;omega),aD.bZ id (by refine ⟨?_,?_,?_,?_,?_,trivial⟩<;>first|rfl|(simp only [bn];done)|(congr 3;omega)|(congr 4;omega)|(simp only [bo];rfl)) (⟨by first|rfl|(simp only [bn];done)|(congr 3;omega)|(congr 4;omega)|(simp only [bo];rfl),trivial⟩) rfl⟩
  have hb7':=of_decide_eq_false hb7
  refine bb [0,2,9,10,11,4,3] [1,0] mixed rfl rfl ?_
  refine aA (kn:=[(37,false)]) aa 13 rfl ⟨hb7,trivial⟩ ?_
  refine bB [1,0] rfl rfl rfl rfl (by kernel_rfl) ?_
  refine ae ?_
  refine ag rfl (fun hno=>by cases hno) (fun _=>?_)
  refine cV ?_
  refine bl ?_
  refine then_ok ?_
  refine aw ?_
  refine ay (aK rfl rfl rfl (aF (by first|omega|(simp;done)|(simp;omega)))) rfl ?_
  refine ab aa 1 rfl ?_
  refine ae ?_
  refine ⟨q+1,⟨by omega,by rw [hi0_1];exact mH (by omega) (by unfold jb;simp only [hx1];rw [if_neg (by omega),if_neg (by first|omega|(rw [List.getD_eq_getElem?_getD,hx2];simp only [Option.getD_some];omega))])⟩,by first|omega|(simp;done)|(simp;omega),aD.bZ id (by refine ⟨?_,?_,?_,?_,?_,trivial⟩<;>first|rfl|(simp only [bn];done)|(congr 3;omega)|(congr 4;omega)|(simp only [bo];rfl)) (⟨by first|rfl|(simp only [bn];done)|(congr 3;omega)|(congr 4;omega)|(simp only [bo];rfl),trivial⟩) rfl⟩
 have hc2':=of_decide_eq_false hc2
 refine cm ?_
 refine aQ ?_
 refine aQ ?_
 refine bO ?_
 refine then_ok ?_
 refine ad aa 2 rfl ?_
 refine ar ?_
 refine ah aa [0] 0 rfl rfl rfl rfl rfl rfl ?_ ?_
 ·(have h:cD l=(0,0):=by (unfold cD;rw [if_neg (by omega),hi0_1,nh (by omega)]));rw [h];rfl
 ·rfl

theorem wZ (l:List cS) (fn:FuncId) (bc:List (List D)) (pr:cS->Bool) (hp:∀ x:cS,Fn Try.prog fn ([.g [cI x.time,cI x.sum]]++bc.map fun r=>GV.c (.q r 0)) (aB (pr x)) []) (hen:bd Try.prog fn) (r:Int) (hr:gL pr l=r):Fn Try.prog 123 [(.c (ft l)),(.c (.d (.f fn bc)))] (.v (.c (cI r))) []:=by
 refine Fn.mk' 19 [(0,(aC (ft l))),(1,(aC (.d (.f fn bc))))] Try.func123 rfl rfl rfl rfl ?_
 intro W0 T0
 refine dH 0 rfl (fun hlen0=>?_)
 refine ad aa 1 rfl ?_
 refine af ?_
 refine az aa 1 rfl ?_
 refine ay (cO rfl rfl rfl rfl rfl Try.underlying59) rfl ?_
 refine ab aa 1 rfl ?_
 refine ae ?_
 refine aV ?_
 refine cv (β:=Nat) (fun (q:Nat)=>⟨[(0,(aC (ft l))),(1,(aC (.d (.f fn bc)))),(7,(aI (↑l.length:Int))),(8,(aI (↑q:Int)))],[],0⟩) (fun (q:Nat)=>q<=l.length/\(l.take q).all (fun y=>!pr y)=true) (fun (q:Nat)=>l.length - q) 0 ?_ ?_ ?_
 ·exact ⟨by omega,by simp⟩
 ·exact aD.bZ id (by refine ⟨?_,?_,?_,?_,trivial⟩<;>first|rfl|(simp only [bn];done)|(congr 3;omega)|(congr 4;omega)|(simp only [bo];rfl)) (trivial) rfl
 rintro q ⟨hi0_0,hi0_1⟩
 refine ad aa 1 rfl ?_
 refine af ?_
 refine ag rfl (fun hc1=>?_) (fun hc1=>?_)
 ·
  have hc1':=of_decide_eq_true hc1
  refine aP ?_
  refine af ?_
  refine aV ?_
  refine ad aa 2 rfl ?_
  refine az aa 3 rfl ?_
  obtain ⟨x1,hx1⟩:=cp (xs:=l) (i:=q) (by first|omega|(simp;done)|(simp;omega))
  refine ay (cU (i:=q) rfl rfl rfl Try.underlying59 iD (by first|omega|(simp;done)|(simp;omega)) (bw hx1)) rfl ?_
  refine ab aa 1 rfl ?_
  refine ay (gY 0 (hp x1) hen rfl rfl rfl ⟨⟨_,rfl,.g ⟨.d _,.d _,trivial⟩⟩,trivial⟩ trivial trivial rfl rfl rfl rfl) rfl ?_
  refine ae ?_
  refine ag rfl (fun hc2=>?_) (fun hc2=>?_)
  ·
   have hc2':=hc2;try simp only [bm,bL] at hc2'
   refine ad aa 2 rfl ?_
   refine ar ?_
   refine bg ?_
   refine ao ?_
   refine ao ?_
   refine bg ?_
   refine ao ?_
   have hX:gL pr l=(↑q:Int):=by
     exact tH hi0_1 hx1 hc2
   rw [hX] at hr;clear hX
   subst hr
   refine ah aa [] 0 rfl rfl rfl rfl rfl rfl ?_ ?_
   all_goals first|rfl|(simp [au];done)|(simp [au];omega)
  have hc2':=hc2;try simp only [bm,bL] at hc2'
  refine cV ?_
  refine bl ?_
  refine then_ok ?_
  refine aw ?_
  refine ay (aK rfl rfl rfl (aF (by first|omega|(simp;done)|(simp;omega)))) rfl ?_
  refine ab aa 1 rfl ?_
  refine ae ?_
  refine ⟨q+1,⟨by omega,wm hi0_1 hx1 hc2⟩,by first|omega|(simp;done)|(simp;omega),aD.bZ id (by refine ⟨?_,?_,?_,?_,trivial⟩<;>first|rfl|(simp only [bn];done)|(congr 3;omega)|(congr 4;omega)|(simp only [bo];rfl)) (trivial) rfl⟩
 have hc1':=of_decide_eq_false hc1
 refine cm ?_
 refine aQ ?_
 refine aQ ?_
 refine bO ?_
 refine then_ok ?_
 refine ad aa 1 rfl ?_
 refine ar ?_
 have hX:gL pr l=(-1):=by
   exact vt (by rw [<-List.take_of_length_le (l:=l) (i:=q) (by omega)];exact hi0_1)
 rw [hX] at hr;clear hX
 subst hr
 refine ah aa [] 0 rfl rfl rfl rfl rfl rfl ?_ ?_
 all_goals first|rfl|(simp [au];done)|(simp [au];omega)
theorem wc (l:List cS) (fn:FuncId) (bc:List (List D)) (pr:cS->Bool) (hp:∀ x:cS,Fn Try.prog fn ([.g [cI x.time,cI x.sum]]++bc.map fun r=>GV.c (.q r 0)) (aB (pr x)) []) (hen:bd Try.prog fn) (r:List cS) (hr:dr pr l=r):cC Try.prog 117 [(.c (.s 0 0 2 l.length)),(.c (.d (.f fn bc)))] [(0,(oY l))] [] (.v (.c (.s 0 0 2 r.length))) [(0,(oY r))]:=by
 refine cC.mk 42 [(0,(aC (.s 0 0 2 l.length))),(1,(aC (.d (.f fn bc))))] 1 Try.func117 rfl rfl rfl rfl rfl rfl rfl rfl rfl ?_
 intro W0 F0 T0 pg
 refine fP 0 rfl (fun hlen0=>?_)
 have hic:=tI pr l
 have hib:gL pr l<=l.length/\-1<=gL pr l:=by rcases hic with ⟨h,_⟩|⟨i,h,h1,_⟩<;>omega
 refine ad aa 1 rfl ?_
 refine az aa 2 rfl ?_
 obtain ⟨r0,hr0⟩:∃ (r0:Int),gL pr l=r0:=⟨_,rfl⟩
 refine aL 1 [0] (fO 1 [0] (wZ l fn bc pr hp hen r0 hr0) FR rfl rfl ⟨⟨_,rfl,.c (.s rfl (by decide) (by first|omega|(simp;done)|(simp;omega)))⟩,⟨_,rfl,.c (.d _)⟩,trivial⟩ rfl trivial rfl rfl rfl rfl) rfl ?_
 refine ab aa 1 rfl ?_
 refine ae ?_
 refine af ?_
 refine ad aa 2 rfl ?_
 refine ag rfl (fun hc1=>?_) (fun hc1=>?_)
 ·
  have hc1':=of_decide_eq_true hc1
  refine ad aa 2 rfl ?_
  refine ar ?_
  refine ao ?_
  have hX:dr pr l=l:=by
    rcases hic with ⟨_,h⟩|⟨i0,h,_⟩
    ·exact h
    ·exfalso;omega
  rw [hX] at hr;clear hX
  subst hr
  refine ah aa [0] 1 rfl rfl rfl rfl rfl rfl ?_ ?_
  all_goals first|rfl|(simp [au];done)|(simp [au];omega)
 have hc1':=of_decide_eq_false hc1
 refine aP ?_
 refine af ?_
 refine az aa 1 rfl ?_
 refine ay (aK rfl rfl rfl (aF (by first|omega|(simp;done)|(simp;omega)))) rfl ?_
 refine ab aa 1 rfl ?_
 refine ae ?_
 refine aV ?_
 obtain ⟨i0,hi0,hil,x0,hx0,hp0,hk0⟩:∃ i:Nat,gL pr l=i/\i < l.length/\∃ x,l[i]?=some x/\pr x=true/\dr pr (l.take i)=l.take i:=by
     rcases hic with ⟨h,_⟩|h
     ·exfalso;omega
     ·exact h
 obtain rfl:r0=(i0:Int):=by omega
 refine cv (β:=Nat×Nat×List cS) (fun (p:Nat×Nat×List cS)=>match p with|(j,i,c)=>⟨[(0,(aC (.s 0 0 2 l.length))),(1,(aC (.d (.f fn bc)))),(4,(aC cN)),(5,(aI (↑i:Int))),(6,(aI (↑j:Int)))],[(0,(oY c))],1⟩) (fun (p:Nat×Nat×List cS)=>match p with|(j,i,c)=>kV pr l c i j) (fun (p:Nat×Nat×List cS)=>match p with|(j,i,c)=>l.length - j) (i0+1,i0,l) ?_ ?_ ?_
 ·exact kV.start hx0 hp0 hk0
 ·exact aD.bZ id (by refine ⟨?_,?_,?_,?_,?_,trivial⟩<;>first|rfl|(simp only [bn];done)|(congr 3;omega)|(congr 4;omega)|(simp only [bo];rfl)) (⟨by first|rfl|(simp only [bn];done)|(congr 3;omega)|(congr 4;omega)|(simp only [bo];rfl),trivial⟩) rfl
 rintro ⟨j,i,c⟩ hd
 have hdl:=hd.len;have hdi:=hd.ij;have hdj:=hd.jl
 refine af ?_
 refine az aa 2 rfl ?_
 refine ay (dp rfl rfl rfl rfl rfl Try.underlying59) rfl ?_
 refine ab aa 1 rfl ?_
 refine ae ?_
 refine ag rfl (fun hc2=>?_) (fun hc2=>?_)
 ·
  have hc2':=of_decide_eq_true hc2
  refine aP ?_
  refine af ?_
  refine aV ?_
  refine az aa 2 rfl ?_
  refine ay (bq (i:=j) rfl rfl rfl Try.underlying59 iD (by first|omega|(simp;done)|(simp;omega)) (by first|omega|(simp;done)|(simp;omega))) rfl ?_
  obtain ⟨x1,hx1⟩:=cp (xs:=c) (i:=j) (by first|omega|(simp;done)|(simp;omega))
  refine ay (da rfl rfl rfl Try.underlying125 rfl iD (bw hx1) rfl) rfl ?_
  refine ab aa 2 rfl ?_
  refine ae ?_
  refine az aa 2 rfl ?_
  refine ay (gY 2 (hp x1) hen rfl rfl rfl ⟨⟨_,rfl,.g ⟨.d _,.d _,trivial⟩⟩,trivial⟩ trivial trivial rfl rfl rfl rfl) rfl ?_
  refine ab aa 1 rfl ?_
  refine ae ?_
  refine ag rfl (fun hc3=>?_) (fun hc3=>?_)
  ·
   have hc3':=hc3;try simp only [bm,bL] at hc3'
   refine az aa 3 rfl ?_
   refine ay (bq (i:=i) rfl rfl rfl Try.underlying59 iD (by first|omega|(simp;done)|(simp;omega)) (by first|omega|(simp;done)|(simp;omega))) rfl ?_
   obtain ⟨x2,hx2⟩:=cp (xs:=c) (i:=i) (by first|omega|(simp;done)|(simp;omega))
   refine gf [1,0] (dM (ds:=[(dI x1.time),(dI x1.sum)]) rfl rfl rfl rfl rfl iD rfl (Nat.le_of_ble_eq_true rfl) (bw hx2) rfl (eL (x':=x1) rfl)) rfl ?_
   refine ae ?_
   refine aw ?_
   refine ab aa 1 rfl ?_
   refine ay (aK rfl rfl rfl (aF (by first|omega|(simp;done)|(simp;omega)))) rfl ?_
   refine ab aa 1 rfl ?_
   refine bX ?_
   refine bl ?_
   refine then_ok ?_
   refine aw ?_
   refine ab aa 1 rfl ?_
   refine ay (aK rfl rfl rfl (aF (by first|omega|(simp;done)|(simp;omega)))) rfl ?_
   refine ab aa 1 rfl ?_
   refine ae ?_
   refine ⟨(j+1,(i)+1,(c).set i x1),hd.cF hx1 (by simpa using hc3),by first|omega|(simp;done)|(simp;omega),aD.bZ id (by refine ⟨?_,?_,?_,?_,?_,trivial⟩<;>first|rfl|(simp only [bn];done)|(congr 3;omega)|(congr 4;omega)|(simp only [bo];rfl)) (⟨by first|rfl|(simp only [bn];done)|(congr 3;omega)|(congr 4;omega)|(simp only [bo];rfl),trivial⟩) rfl⟩
  have hc3':=hc3;try simp only [bm,bL] at hc3'
  refine cV ?_
  refine bl ?_
  refine then_ok ?_
  refine aw ?_
  refine ab aa 1 rfl ?_
  refine ay (aK rfl rfl rfl (aF (by first|omega|(simp;done)|(simp;omega)))) rfl ?_
  refine ab aa 1 rfl ?_
  refine ae ?_
  refine ⟨(j+1,i,c),hd.skip hx1 (by simpa using hc3),by first|omega|(simp;done)|(simp;omega),aD.bZ id (by refine ⟨?_,?_,?_,?_,?_,trivial⟩<;>first|rfl|(simp only [bn];done)|(congr 3;omega)|(congr 4;omega)|(simp only [bo];rfl)) (⟨by first|rfl|(simp only [bn];done)|(congr 3;omega)|(congr 4;omega)|(simp only [bo];rfl),trivial⟩) rfl⟩
 have hc2':=of_decide_eq_false hc2
 refine cm ?_
 refine aQ ?_
 refine aQ ?_
 refine bO ?_
 refine then_ok ?_
 refine az aa 2 rfl ?_
 refine ay (nB (l:=i) (h:=l.length) rfl Try.underlying59 iD rfl (.inr ⟨_,rfl,rfl⟩) (.inl ⟨rfl,rfl⟩) (by first|omega|(simp;done)|(simp;omega)) (by first|omega|(simp;done)|(simp;omega)) (by first|omega|(simp;done)|(simp;omega)) rfl) rfl ?_
 refine gf [0] (sC (rows':=(c.take i).map gS) oo Fz rfl rfl rfl rfl rfl rfl rfl rfl rfl (by simp [List.map_take])) rfl ?_
 refine ae ?_
 refine az aa 2 rfl ?_
 refine ay (nB (l:=0) (h:=i) rfl Try.underlying59 iD rfl (.inl ⟨rfl,rfl⟩) (.inr ⟨_,rfl,rfl⟩) (by first|omega|(simp;done)|(simp;omega)) (by first|omega|(simp;done)|(simp;omega)) (by first|omega|(simp;done)|(simp;omega)) rfl) rfl ?_
 refine ab aa 1 rfl ?_
 refine ae ?_
 refine ar ?_
 have hX:dr pr l=(c.take i):=by
   have hdone:=hd.done (by omega)
   rw [<-hdone]
 rw [hX] at hr;clear hX
 subst hr
 refine ah aa [0] 1 rfl rfl rfl rfl rfl rfl ?_ ?_
 all_goals first|rfl|(simp [au];done)|(simp [au];omega)

theorem kP (p:dk) (e:Int) (hr:fi p=e):Fn Try.prog 44 [(.g [cI p.cH,cI p.count,cI p.sum])] (.v (.c (cI e))) []:=hr▸vS p.cH p.count p.sum
theorem oT (l:List cS) (f:cT) (hr:fe l=f):Fn Try.prog 45 [.c (cR 2 (l.map gS))] (.v (.g [cI f.err,cI f.at_])) []:=hr▸wP l

theorem AF (x:cS) (t:Int) (p:dk) (hb:-9223372036854775808<=t - p.cH/\t - p.cH<=9223372036854775807):Fn Try.prog 118 [(.g [(cI x.time),(cI x.sum)]),(.c (.q ([dI t]) 0)),(.c (.q ([dI p.cH,dI p.count,dI p.sum]) 0))] (aB (cz p t x)) []:=by
 refine Fn.mk' 12 [(0,(aG [(cI x.time),(cI x.sum)])),(1,(aC (.q ([dI t]) 0))),(2,(aC (.q ([dI p.cH,dI p.count,dI p.sum]) 0)))] Try.func118 rfl rfl rfl rfl ?_
 intro W0 T0
 refine ad aa 2 rfl ?_
 refine az aa 5 rfl ?_
 refine ay (aK rfl rfl rfl (aF (by first|omega|(simp;done)|(simp;omega)))) rfl ?_
 refine ab aa 2 rfl ?_
 refine ae ?_
 refine ar ?_
 refine ah aa [] 0 rfl rfl rfl rfl rfl rfl ?_ ?_
 all_goals first|rfl|(simp [au];done)|(simp [au];omega)
theorem nY (p:dk) (l:List cS) (t:Int) (hb:-9223372036854775808<=t - p.cH/\t - p.cH<=9223372036854775807) (hl:l.length * 16<=140737488355328) (r:List cS) (hr:dA p l t=r):Fn Try.prog 112 [(.g [(cI p.cH),(cI p.count),(cI p.sum)]),(.c (ft l)),(.c (cI t))] (.v (.c (.s 0 0 2 r.length))) [(0,(oY r))]:=by
 refine Fn.mk' 11 [(0,(aG [(cI p.cH),(cI p.count),(cI p.sum)])),(1,(aC (ft l))),(2,(aI t))] Try.func112 rfl rfl rfl rfl ?_
 intro W0 T0
 refine dH 1 rfl (fun hlen1=>?_)
 refine ad aa 3 rfl ?_
 refine az aa 1 rfl ?_
 refine aL 3 [2,1,0] (bM 2 (pW l (by first|omega|(simp;done)|(simp;omega))) CO rfl rfl ⟨⟨_,rfl,.c (.d _)⟩,trivial⟩ trivial ⟨(fun _ _ _ _=>trivial),trivial⟩ rfl rfl rfl rfl) rfl ?_
 refine ay (Ak (ks:=[1,0]) rfl ⟨rfl,rfl,trivial⟩) rfl ?_
 obtain ⟨r0,hr0⟩:∃ (r0:List cS),dr (cz p t) l=r0:=⟨_,rfl⟩
 refine aL 4 [3,1,0] (vB (aW [2]) (aW [3]) [0,1] (wc l 118 ([[(dI t)],[(dI p.cH),(dI p.count),(dI p.sum)]]) (cz p t) (fun x=>AF x t p hb) FW r0 hr0) FX rfl rfl ⟨⟨_,rfl,.inl ⟨rfl,rfl⟩⟩,⟨_,rfl,.inr (.c (.fn ⟨⟨by decide,_,rfl⟩,⟨by decide,_,rfl⟩,trivial⟩))⟩,trivial⟩ ⟨rfl,trivial⟩ rfl rfl rfl rfl rfl rfl rfl rfl trivial ⟨(BE _),trivial⟩ rfl rfl rfl rfl) rfl ?_
 refine ab aa 1 rfl ?_
 refine ae ?_
 refine ar ?_
 have hX:dA p l t=r0:=by
   assumption
 rw [hX] at hr;clear hX
 subst hr
 refine ah aa [3] 1 rfl rfl rfl rfl rfl rfl ?_ ?_
 all_goals first|rfl|(simp [au];done)|(simp [au];omega)

theorem yT (p:dk) (l:List cS) (x:cS) (r:List cS) (e:Int) (hr:ej p l x=(r,e)):Fn Try.prog 100 [(.g [(cI p.cH),(cI p.count),(cI p.sum)]),(.c (ft l)),(.g [(cI x.time),(cI x.sum)])] (.t [(.c (.s 0 0 2 r.length)),(.c (cI e))]) [(0,(oY r))]:=by
 refine Fn.mk' 87 [(0,(aG [(cI p.cH),(cI p.count),(cI p.sum)])),(1,(aC (ft l))),(2,(aG [(cI x.time),(cI x.sum)]))] Try.func100 rfl rfl rfl rfl ?_
 intro W0 T0
 refine dH 1 rfl (fun hlen1=>?_)
 have hrp:=@oy p
 have hru:(fe l).err=0->l.length<=30:=fun h=>(jE h).1
 have hrx:(fe [x]).err=0->0<=x.time/\x.time<=1000000/\0<=x.sum/\x.sum<=1000000:=fun h=>(@jE [x] h).2 x (by simp)
 refine ad aa 4 rfl ?_
 refine af ?_
 refine az aa 1 rfl ?_
 obtain ⟨e0,hr0⟩:∃ (e0:Int),fi p=e0:=⟨_,rfl⟩
 refine aL 2 [1,0] (bM 2 (kP p e0 hr0) Cb rfl rfl ⟨⟨_,rfl,.g ⟨.d _,.d _,.d _,trivial⟩⟩,trivial⟩ trivial trivial rfl rfl rfl rfl) rfl ?_
 refine ab aa 1 rfl ?_
 refine ae ?_
 refine ad aa 2 rfl ?_
 refine ag rfl (fun hc1=>?_) (fun hc1=>?_)
 ·
  have hc1':=of_decide_eq_true hc1
  refine ad aa 3 rfl ?_
  refine ar ?_
  refine ao ?_
  refine cP (aD.nil 6 125 2 (by decide) rfl) ?_
  have hX:ej p l x=(([]:List cS),e0):=by
    unfold ej;rw [if_pos (by omega),hr0]
  rw [hX] at hr;clear hX
  simp only [Prod.mk.injEq] at hr;obtain ⟨rfl,rfl⟩:=hr
  refine ah aa [2] 1 rfl rfl rfl rfl rfl rfl ?_ ?_
  all_goals first|rfl|(simp [au];done)|(simp [au];omega)
 have hc1':=of_decide_eq_false hc1
 refine aP ?_
 refine af ?_
 refine az aa 2 rfl ?_
 refine aL 3 [2,1,0] (dC (ys:=[(0,(.g [(cI x.time),(cI x.sum)]))]) (rows:=([x]).map gS) 2 oo rfl (by decide) ⟨⟨rfl,rfl⟩,trivial⟩ rfl rfl rfl rfl) rfl ?_
 refine mf (s':=[(0,(aG [(cI p.cH),(cI p.count),(cI p.sum)])),(1,(aC (ft l))),(2,(aG [(cI x.time),(cI x.sum)])),(3,(aC (.p 0 0 0 0))),(5,(aC (.p 1 0 0 0))),(6,(aC cN)),(7,(aI 0)),(17,(aG [(cI p.cH),(cI p.count),(cI p.sum)])),(18,(aI e0)),(8,(aI e0)),(19,(aI e0)),(20,(aB (decide (¬e0=0)))),(22,(aC (ft l))),(23,(aG [(cI x.time),(cI x.sum)])),(24,(aC (ft ([x]))))]) (h':=[(1,(.box 125 [(cI x.time),(cI x.sum)])),(0,(.box 58 [(cI p.cH),(cI p.count),(cI p.sum)]))]) 2 rfl ⟨⟨_,rfl,.inl ⟨rfl,rfl⟩⟩,⟨_,rfl,.inl ⟨rfl,rfl⟩⟩,⟨_,rfl,.inl ⟨rfl,rfl⟩⟩,⟨_,rfl,.inl ⟨rfl,rfl⟩⟩,⟨_,rfl,.inl ⟨rfl,rfl⟩⟩,⟨_,rfl,.inl ⟨rfl,rfl⟩⟩,⟨_,rfl,.inl ⟨rfl,rfl⟩⟩,⟨_,rfl,.inl ⟨rfl,rfl⟩⟩,⟨_,rfl,.inl ⟨rfl,rfl⟩⟩,⟨_,rfl,.inl ⟨rfl,rfl⟩⟩,⟨_,rfl,.inl ⟨rfl,rfl⟩⟩,⟨_,rfl,.inl ⟨rfl,rfl⟩⟩,⟨_,rfl,.inl ⟨rfl,rfl⟩⟩,⟨_,rfl,.inl ⟨rfl,rfl⟩⟩,⟨_,rfl,.inr ⟨_,_,rfl,rfl,.s rfl (by decide) (by first|omega|(simp;done)|(simp;omega))⟩⟩,trivial⟩ ⟨rfl,rfl,trivial⟩ rfl ?_
 refine aL 4 [3,1,0] (dC (ys:=[(0,(.c (ft l))),(1,(.c (ft ([x]))))]) (rows:=([l,[x]]).map uq) 3 FC rfl (by decide) ⟨⟨rfl,rfl⟩,⟨rfl,rfl⟩,trivial⟩ rfl rfl rfl rfl) rfl ?_
 refine ay (dp rfl rfl rfl rfl rfl Try.underlying181) rfl ?_
 refine ab aa 1 rfl ?_
 refine ae ?_
 refine aV ?_
 refine cv (β:=Nat) (fun (q:Nat)=>⟨[(1,(aC (ft l))),(3,(aC (.p 0 0 0 0))),(5,(aC (.p 1 0 0 0))),(25,(aC (.s 3 0 1 2))),(26,(aI 2)),(27,(aI (↑q:Int)))],[(3,(.arr 59 1 (([l,[x]]).map uq))),(1,(.box 125 [(cI x.time),(cI x.sum)])),(0,(.box 58 [(cI p.cH),(cI p.count),(cI p.sum)]))],4⟩) (fun (q:Nat)=>q<=2/\(0 < q->(fe l).err=0)/\(1 < q->(fe [x]).err=0)) (fun (q:Nat)=>2 - q) 0 ?_ ?_ ?_
 ·exact ⟨by omega,by omega,by omega⟩
 ·exact aD.bZ id (by refine ⟨?_,?_,?_,?_,?_,?_,trivial⟩<;>first|rfl|(simp only [bn];done)|(congr 3;omega)|(congr 4;omega)|(simp only [bo];rfl)) (by refine ⟨?_,?_,?_,trivial⟩<;>first|rfl|(simp only [bn];done)|(congr 3;omega)|(congr 4;omega)|(simp only [bo];rfl)) rfl
 rintro q ⟨hi0_0,hi0_1,hi0_2⟩
 refine ad aa 1 rfl ?_
 refine af ?_
 refine ag rfl (fun hc2=>?_) (fun hc2=>?_)
 ·
  have hc2':=of_decide_eq_true hc2
  refine aP ?_
  refine af ?_
  refine aV ?_
  refine eJ ?_
  refine ay (bq (i:=q) rfl rfl rfl Try.underlying181 GA (by first|omega|(simp;done)|(simp;omega)) (by first|omega|(simp;done)|(simp;omega))) rfl ?_
  obtain ⟨x1,hx1⟩:=cp (xs:=([l,[x]]:List (List cS))) (i:=q) (by first|omega|(simp;done)|(simp;omega))
  have hx1v:=Es hx1
  refine ay (eG rfl rfl rfl Try.underlying59 rfl (bw hx1) rfl) rfl ?_
  refine ab aa 1 rfl ?_
  refine ae ?_
  refine az aa 1 rfl ?_
  obtain ⟨f1,hr1⟩:∃ (f1:cT),fe x1=f1:=⟨_,rfl⟩
  refine aL 4 [3,1,0] (bM 4 (oT x1 f1 hr1) EY rfl rfl ⟨⟨_,rfl,.c (.d _)⟩,trivial⟩ ⟨trivial,trivial,trivial⟩ trivial rfl rfl rfl rfl) rfl ?_
  refine ab aa 2 rfl ?_
  refine ae ?_
  refine ad aa 3 rfl ?_
  refine ag rfl (fun hc3=>?_) (fun hc3=>?_)
  ·
   have hc3':=of_decide_eq_true hc3
   refine af ?_
   refine bb [1,3,5,25,26,27,11] [4,3,1,0] mixed rfl rfl ?_
   refine aA (kn:=[]) aa 4 rfl trivial ?_
   refine bB [4,3,1,0] rfl rfl rfl rfl (by kernel_rfl) ?_
   refine ae ?_
   refine ar ?_
   refine bg ?_
   refine ao ?_
   refine ao ?_
   refine bg ?_
   refine ao ?_
   refine cP (aD.nil 6 125 2 (by decide) rfl) ?_
   have hX:ej p l x=(([]:List cS),f1.err):=by
     unfold ej;rcases hx1v with ⟨hq,hx⟩|⟨hq,hx⟩<;>subst hx
     ·rw [if_neg (by omega),if_pos (by rw [hr1];omega),hr1]
     ·rw [if_neg (by omega),if_neg (by have:=hi0_1 (by omega);omega),if_pos (by rw [hr1];omega),hr1]
   rw [hX] at hr;clear hX
   simp only [Prod.mk.injEq] at hr;obtain ⟨rfl,rfl⟩:=hr
   refine ah aa [5] 1 rfl rfl rfl rfl rfl rfl ?_ ?_
   all_goals first|rfl|(simp [au];done)|(simp [au];omega)
  have hc3':=of_decide_eq_false hc3
  refine cV ?_
  refine bl ?_
  refine then_ok ?_
  refine aw ?_
  refine ay (aK rfl rfl rfl (aF (by first|omega|(simp;done)|(simp;omega)))) rfl ?_
  refine ab aa 1 rfl ?_
  refine ae ?_
  refine ⟨q+1,⟨by omega,(fun h=>by rcases hx1v with ⟨hq,hx⟩|⟨hq,hx⟩<;>first|(exact hi0_1 (by omega))|(subst hx;rw [hr1];omega)),(fun h=>by rcases hx1v with ⟨hq,hx⟩|⟨hq,hx⟩<;>first|(exfalso;omega)|(subst hx;rw [hr1];omega))⟩,by first|omega|(simp;done)|(simp;omega),aD.bZ id (by refine ⟨?_,?_,?_,?_,?_,?_,trivial⟩<;>first|rfl|(simp only [bn];done)|(congr 3;omega)|(congr 4;omega)|(simp only [bo];rfl)) (by refine ⟨?_,?_,?_,trivial⟩<;>first|rfl|(simp only [bn];done)|(congr 3;omega)|(congr 4;omega)|(simp only [bo];rfl)) rfl⟩
 have hc2':=of_decide_eq_false hc2
 refine cm ?_
 refine aQ ?_
 refine aQ ?_
 refine bO ?_
 refine then_ok ?_
 refine af ?_
 refine az aa 1 rfl ?_
 refine ay (cO rfl rfl rfl rfl rfl Try.underlying59) rfl ?_
 refine ay (aK rfl rfl rfl (aF (by first|omega|(simp;done)|(simp;omega)))) rfl ?_
 refine ab aa 1 rfl ?_
 refine ae ?_
 refine af ?_
 rcases Bool.eq_false_or_eq_true (decide (((↑l.length:Int) - 1)>=0)) with hb4|hb4
 ·
  have hb4':=of_decide_eq_true hb4
  obtain ⟨x1,hx1⟩:=cp (xs:=l) (i:=(l.length) - 1) (by first|omega|(simp;done)|(simp;omega))
  refine bb [1,3,5,25,26,27,12] [3,1,0] mixed rfl rfl ?_
  refine aA (kn:=[(43,true)]) aa 5 rfl ⟨hb4,trivial⟩ ?_
  refine aU (n':=4) [45,46,44] [] rfl rfl (.inl ⟨(al.yes rfl rfl rfl),aH.cast (cU (i:=(l.length) - 1) rfl rfl rfl Try.underlying59 iD (by first|omega|(simp;done)|(simp;omega)) (bw hx1)) rfl⟩) rfl ?_
  refine aA (kn:=[]) aa 6 rfl trivial ?_
  refine bB [3,1,0] rfl rfl rfl rfl (by kernel_rfl) ?_
  refine ae ?_
  refine ag rfl (fun hc5=>?_) (fun hc5=>?_)
  ·
   have hc5':=of_decide_eq_true hc5
   refine ad aa 2 rfl ?_
   refine ar ?_
   refine ao ?_
   refine cP (aD.nil 6 125 2 (by decide) rfl) ?_
   have hX:ej p l x=(([]:List cS),2):=by
     unfold ej;rw [if_neg (by omega),if_neg (by have:=hi0_1 (by omega);omega),if_neg (by have:=hi0_2 (by omega);omega),if_pos (by rw [mM hx1,decide_eq_true_eq];omega)]
   rw [hX] at hr;clear hX
   simp only [Prod.mk.injEq] at hr;obtain ⟨rfl,rfl⟩:=hr
   refine ah aa [4] 1 rfl rfl rfl rfl rfl rfl ?_ ?_
   all_goals first|rfl|(simp [au];done)|(simp [au];omega)
  have hc5':=of_decide_eq_false hc5
  refine aP ?_
  refine az aa 4 rfl ?_
  obtain ⟨r2,hr2⟩:∃ (r2:List cS),dA p l x.time=r2:=⟨_,rfl⟩
  refine aL 5 [4,3,1,0] (bM 4 (nY p l x.time (by first|assumption|omega|(have q1:=oy (hr2.trans (by omega));have q2:=uses1 (x:=x) (by simp_all);omega)) (by first|assumption|omega) r2 hr2) CP rfl rfl ⟨⟨_,rfl,.g ⟨.d _,.d _,.d _,trivial⟩⟩,⟨_,rfl,.c (.d _)⟩,⟨_,rfl,.c (.d _)⟩,trivial⟩ trivial ⟨(fun _ _ _ _=>trivial),trivial⟩ rfl rfl rfl rfl) rfl ?_
  refine ab aa 1 rfl ?_
  refine ae ?_
  refine ad aa 3 rfl ?_
  refine af ?_
  refine az aa 1 rfl ?_
  refine ay (dp rfl rfl rfl rfl rfl Try.underlying59) rfl ?_
  refine ab aa 1 rfl ?_
  refine ae ?_
  refine aV ?_
  refine cv (β:=Nat) (fun (k:Nat)=>⟨[(1,(aC (ft l))),(3,(aC (.p 0 0 0 0))),(5,(aC (.p 1 0 0 0))),(25,(aC (.s 3 0 1 2))),(26,(aI 2)),(27,(aI (↑q:Int))),(13,(aC (.s 4 0 2 r2.length))),(14,(aI (x.sum+gF ((r2).take k)))),(61,(aC (.s 4 0 2 r2.length))),(62,(aI (↑r2.length:Int))),(63,(aI (↑k:Int)))],[(4,(oY r2)),(3,(.arr 59 1 (([l,[x]]).map uq))),(1,(.box 125 [(cI x.time),(cI x.sum)])),(0,(.box 58 [(cI p.cH),(cI p.count),(cI p.sum)]))],5⟩) (fun (k:Nat)=>k<=(r2).length) (fun (k:Nat)=>(r2).length - k) 0 ?_ ?_ ?_
  ·exact (by omega)
  ·exact aD.bZ id (by refine ⟨?_,?_,?_,?_,?_,?_,?_,?_,?_,?_,?_,trivial⟩<;>first|rfl|(simp only [bn];done)|(congr 3;omega)|(congr 4;omega)|(simp only [bo];rfl)|((rw [List.take_zero,gF,Int.add_zero];rfl))) (by refine ⟨?_,?_,?_,?_,trivial⟩<;>first|rfl|(simp only [bn];done)|(congr 3;omega)|(congr 4;omega)|(simp only [bo];rfl)) rfl
  rintro k hi1_0
  have hsb:=pG (p:=p) (l:=l) (t:=x.time) (k:=k) (hi0_1 (by omega))
  rw [hr2] at hsb
  have hrl:(r2).length<=30:=by rw [<-hr2];exact Nat.le_trans (oH _ _) (hru (hi0_1 (by omega)))
  refine ad aa 1 rfl ?_
  refine af ?_
  refine ag rfl (fun hc6=>?_) (fun hc6=>?_)
  ·
   have hc6':=of_decide_eq_true hc6
   refine aP ?_
   refine af ?_
   refine aV ?_
   refine eJ ?_
   refine ay (bq (i:=k) rfl rfl rfl Try.underlying59 iD (by first|omega|(simp;done)|(simp;omega)) (by first|omega|(simp;done)|(simp;omega))) rfl ?_
   obtain ⟨x2,hx2⟩:=cp (xs:=r2) (i:=k) (by first|omega|(simp;done)|(simp;omega))
   have hx2v:=(jE (hi0_1 (by omega))).2 x2 (ka (hr2.symm▸List.mem_of_getElem? hx2:x2∈dA p l x.time))
   refine ay (da rfl rfl rfl Try.underlying125 rfl iD (bw hx2) rfl) rfl ?_
   refine ab aa 2 rfl ?_
   refine ae ?_
   refine aw ?_
   refine ab aa 3 rfl ?_
   refine ay (aK rfl rfl rfl (aF (by first|omega|(simp;done)|(simp;omega)))) rfl ?_
   refine ab aa 1 rfl ?_
   refine bX ?_
   refine bl ?_
   refine then_ok ?_
   refine aw ?_
   refine ay (aK rfl rfl rfl (aF (by first|omega|(simp;done)|(simp;omega)))) rfl ?_
   refine ab aa 1 rfl ?_
   refine ae ?_
   refine ⟨k+1,by first|omega|trivial,by first|omega|(simp;done)|(simp;omega),aD.bZ id (by refine ⟨?_,?_,?_,?_,?_,?_,?_,?_,?_,?_,?_,trivial⟩<;>first|rfl|(simp only [bn];done)|(congr 3;omega)|(congr 4;omega)|(simp only [bo];rfl)|(first|(rw [iJ hx2,kz,<-Int.add_assoc];rfl)|(rw [iJ hx1,kz,<-Int.add_assoc];rfl))) (by refine ⟨?_,?_,?_,?_,trivial⟩<;>first|rfl|(simp only [bn];done)|(congr 3;omega)|(congr 4;omega)|(simp only [bo];rfl)) rfl⟩
  have hc6':=of_decide_eq_false hc6
  refine cm ?_
  refine aQ ?_
  refine aQ ?_
  refine bO ?_
  refine then_ok ?_
  refine af ?_
  refine cq 82 ((decide ((↑r2.length:Int)>=p.count))||(decide ((x.sum+gF ((r2).take k)) > p.sum))) ?_ ?_
  ·
   refine aw ?_
   refine ab aa 1 rfl ?_
   refine ay (dp rfl rfl rfl rfl rfl Try.underlying59) rfl ?_
   refine ab aa 4 rfl ?_
   refine bA (t:=77) rfl (fun hb7=>?_) (fun hb7=>?_)
   ·
    have hb7':=of_decide_eq_true hb7
    refine ab aa 5 rfl ?_
    refine ae ?_
    exact aD.bD 12 rfl rfl (by first|(simp [hb7];done)|(simp_all;done)|(exfalso;simp_all;done)|(simp_all;omega)) rfl
   have hb7':=of_decide_eq_false hb7
   refine ab aa 5 rfl ?_
   refine ae ?_
   exact aD.bD 12 rfl rfl (by first|(simp [hb7];done)|(simp_all;done)|(exfalso;simp_all;done)|(simp_all;omega)) rfl
  refine ag rfl (fun hc8=>?_) (fun hc8=>?_)
  ·
   have hc8':=hc8;try simp only [bm,bL] at hc8'
   refine ad aa 2 rfl ?_
   refine ar ?_
   refine ao ?_
   refine cP (aD.nil 6 125 2 (by decide) rfl) ?_
   have hX:ej p l x=(([]:List cS),11):=by
     have hlate:gm l x.time=false:=by first|(rw [mM hx1];simp;omega)|(have:l=[]:=List.eq_nil_of_length_eq_zero (by omega);subst this;rfl)
     have hk:(r2).take k=r2:=List.take_of_length_le (by omega)
     rw [hk] at hc8'
     unfold ej;rw [if_neg (by omega),if_neg (by have:=hi0_1 (by omega);omega),if_neg (by have:=hi0_2 (by omega);omega),if_neg (by rw [hlate];simp),hr2,if_pos (by omega)]
   rw [hX] at hr;clear hX
   simp only [Prod.mk.injEq] at hr;obtain ⟨rfl,rfl⟩:=hr
   refine ah aa [5] 1 rfl rfl rfl rfl rfl rfl ?_ ?_
   all_goals first|rfl|(simp [au];done)|(simp [au];omega)
  have hc8':=hc8;try simp only [bm,bL] at hc8'
  refine aP ?_
  refine az aa 2 rfl ?_
  refine aL 6 [5,4,3,1,0] (dC (ys:=[(0,(.g [(cI x.time),(cI x.sum)]))]) (rows:=([x]).map gS) 5 oo rfl (by decide) ⟨⟨rfl,rfl⟩,trivial⟩ rfl rfl rfl rfl) rfl ?_
  refine aL 7 [6,5,3,1,0] (db (m:=1) (N:=r2.length+1) (k2:=6) (ys:=([x]).map gS) oo rfl rfl rfl rfl rfl rfl (by first|omega|(simp;done)|(simp;omega)) rfl (.s rfl (by first|omega|(simp;done)|(simp;omega))) (by first|omega|(simp;done)|(simp;omega)) (by first|omega|(simp;done)|(simp;omega)) eT (by decide) (by first|omega|(simp;done)|(simp;omega)) (by first|omega|(simp;done)|(simp;omega))) rfl ?_
  refine ab aa 2 rfl ?_
  refine ae ?_
  refine ar ?_
  have hX:ej p l x=(r2++([x]),0):=by
    have hlate:gm l x.time=false:=by first|(rw [mM hx1];simp;omega)|(have:l=[]:=List.eq_nil_of_length_eq_zero (by omega);subst this;rfl)
    have hk:(r2).take k=r2:=List.take_of_length_le (by omega)
    rw [hk] at hc8'
    unfold ej;rw [if_neg (by omega),if_neg (by have:=hi0_1 (by omega);omega),if_neg (by have:=hi0_2 (by omega);omega),if_neg (by rw [hlate];simp),hr2,if_neg (by omega)]
  rw [hX] at hr;clear hX
  simp only [Prod.mk.injEq] at hr;obtain ⟨rfl,rfl⟩:=hr
  refine ah aa [6] 1 rfl rfl rfl rfl rfl rfl ?_ ?_
  all_goals first|rfl|(simp [au];done)|(simp [au];omega)
 have hb4':=of_decide_eq_false hb4
 refine bb [1,3,5,25,26,27,12] [3,1,0] mixed rfl rfl ?_
 refine aA (kn:=[(43,false)]) aa 12 rfl ⟨hb4,trivial⟩ ?_
 refine bB [3,1,0] rfl rfl rfl rfl (by kernel_rfl) ?_
 refine ae ?_
 refine ag rfl (fun hno=>by cases hno) (fun _=>?_)
 refine aP ?_
 refine az aa 4 rfl ?_
 obtain ⟨r3,hr3⟩:∃ (r3:List cS),dA p l x.time=r3:=⟨_,rfl⟩
 refine aL 5 [4,3,1,0] (bM 4 (nY p l x.time (by first|assumption|omega|(have q1:=oy (hr2.trans (by omega));have q2:=uses1 (x:=x) (by simp_all);omega)) (by first|assumption|omega) r3 hr3) CP rfl rfl ⟨⟨_,rfl,.g ⟨.d _,.d _,.d _,trivial⟩⟩,⟨_,rfl,.c (.d _)⟩,⟨_,rfl,.c (.d _)⟩,trivial⟩ trivial ⟨(fun _ _ _ _=>trivial),trivial⟩ rfl rfl rfl rfl) rfl ?_
 refine ab aa 1 rfl ?_
 refine ae ?_
 refine ad aa 3 rfl ?_
 refine af ?_
 refine az aa 1 rfl ?_
 refine ay (dp rfl rfl rfl rfl rfl Try.underlying59) rfl ?_
 refine ab aa 1 rfl ?_
 refine ae ?_
 refine aV ?_
 refine cv (β:=Nat) (fun (k:Nat)=>⟨[(1,(aC (ft l))),(3,(aC (.p 0 0 0 0))),(5,(aC (.p 1 0 0 0))),(25,(aC (.s 3 0 1 2))),(26,(aI 2)),(27,(aI (↑q:Int))),(13,(aC (.s 4 0 2 r3.length))),(14,(aI (x.sum+gF ((r3).take k)))),(61,(aC (.s 4 0 2 r3.length))),(62,(aI (↑r3.length:Int))),(63,(aI (↑k:Int)))],[(4,(oY r3)),(3,(.arr 59 1 (([l,[x]]).map uq))),(1,(.box 125 [(cI x.time),(cI x.sum)])),(0,(.box 58 [(cI p.cH),(cI p.count),(cI p.sum)]))],5⟩) (fun (k:Nat)=>k<=(r3).length) (fun (k:Nat)=>(r3).length - k) 0 ?_ ?_ ?_
 ·exact (by omega)
 ·exact aD.bZ id (by refine ⟨?_,?_,?_,?_,?_,?_,?_,?_,?_,?_,?_,trivial⟩<;>first|rfl|(simp only [bn];done)|(congr 3;omega)|(congr 4;omega)|(simp only [bo];rfl)|((rw [List.take_zero,gF,Int.add_zero];rfl))) (by refine ⟨?_,?_,?_,?_,trivial⟩<;>first|rfl|(simp only [bn];done)|(congr 3;omega)|(congr 4;omega)|(simp only [bo];rfl)) rfl
 rintro k hi1_0
 have hsb:=pG (p:=p) (l:=l) (t:=x.time) (k:=k) (hi0_1 (by omega))
 rw [hr3] at hsb
 have hrl:(r3).length<=30:=by rw [<-hr3];exact Nat.le_trans (oH _ _) (hru (hi0_1 (by omega)))
 refine ad aa 1 rfl ?_
 refine af ?_
 refine ag rfl (fun hc10=>?_) (fun hc10=>?_)
 ·
  have hc10':=of_decide_eq_true hc10
  refine aP ?_
  refine af ?_
  refine aV ?_
  refine eJ ?_
  refine ay (bq (i:=k) rfl rfl rfl Try.underlying59 iD (by first|omega|(simp;done)|(simp;omega)) (by first|omega|(simp;done)|(simp;omega))) rfl ?_
  obtain ⟨x1,hx1⟩:=cp (xs:=r3) (i:=k) (by first|omega|(simp;done)|(simp;omega))
  have hx1v:=(jE (hi0_1 (by omega))).2 x1 (ka (hr3.symm▸List.mem_of_getElem? hx1:x1∈dA p l x.time))
  refine ay (da rfl rfl rfl Try.underlying125 rfl iD (bw hx1) rfl) rfl ?_
  refine ab aa 2 rfl ?_
  refine ae ?_
  refine aw ?_
  refine ab aa 3 rfl ?_
  refine ay (aK rfl rfl rfl (aF (by first|omega|(simp;done)|(simp;omega)))) rfl ?_
  refine ab aa 1 rfl ?_
  refine bX ?_
  refine bl ?_
  refine then_ok ?_
  refine aw ?_
  refine ay (aK rfl rfl rfl (aF (by first|omega|(simp;done)|(simp;omega)))) rfl ?_
  refine ab aa 1 rfl ?_
  refine ae ?_
  refine ⟨k+1,by first|omega|trivial,by first|omega|(simp;done)|(simp;omega),aD.bZ id (by refine ⟨?_,?_,?_,?_,?_,?_,?_,?_,?_,?_,?_,trivial⟩<;>first|rfl|(simp only [bn];done)|(congr 3;omega)|(congr 4;omega)|(simp only [bo];rfl)|(first|(rw [iJ hx2,kz,<-Int.add_assoc];rfl)|(rw [iJ hx1,kz,<-Int.add_assoc];rfl))) (by refine ⟨?_,?_,?_,?_,trivial⟩<;>first|rfl|(simp only [bn];done)|(congr 3;omega)|(congr 4;omega)|(simp only [bo];rfl)) rfl⟩
 have hc10':=of_decide_eq_false hc10
 refine cm ?_
 refine aQ ?_
 refine aQ ?_
 refine bO ?_
 refine then_ok ?_
 refine af ?_
 refine cq 82 ((decide ((↑r3.length:Int)>=p.count))||(decide ((x.sum+gF ((r3).take k)) > p.sum))) ?_ ?_
 ·
  refine aw ?_
  refine ab aa 1 rfl ?_
  refine ay (dp rfl rfl rfl rfl rfl Try.underlying59) rfl ?_
  refine ab aa 4 rfl ?_
  refine bA (t:=77) rfl (fun hb11=>?_) (fun hb11=>?_)
  ·
   have hb11':=of_decide_eq_true hb11
   refine ab aa 5 rfl ?_
   refine ae ?_
   exact aD.bD 12 rfl rfl (by first|(simp [hb11];done)|(simp_all;done)|(exfalso;simp_all;done)|(simp_all;omega)) rfl
  have hb11':=of_decide_eq_false hb11
  refine ab aa 5 rfl ?_
  refine ae ?_
  exact aD.bD 12 rfl rfl (by first|(simp [hb11];done)|(simp_all;done)|(exfalso;simp_all;done)|(simp_all;omega)) rfl
 refine ag rfl (fun hc12=>?_) (fun hc12=>?_)
 ·
  have hc12':=hc12;try simp only [bm,bL] at hc12'
  refine ad aa 2 rfl ?_
  refine ar ?_
  refine ao ?_
  refine cP (aD.nil 6 125 2 (by decide) rfl) ?_
  have hX:ej p l x=(([]:List cS),11):=by
    have hlate:gm l x.time=false:=by first|(rw [mM hx1];simp;omega)|(have:l=[]:=List.eq_nil_of_length_eq_zero (by omega);subst this;rfl)
    have hk:(r3).take k=r3:=List.take_of_length_le (by omega)
    rw [hk] at hc12'
    unfold ej;rw [if_neg (by omega),if_neg (by have:=hi0_1 (by omega);omega),if_neg (by have:=hi0_2 (by omega);omega),if_neg (by rw [hlate];simp),hr3,if_pos (by omega)]
  rw [hX] at hr;clear hX
  simp only [Prod.mk.injEq] at hr;obtain ⟨rfl,rfl⟩:=hr
  refine ah aa [5] 1 rfl rfl rfl rfl rfl rfl ?_ ?_
  all_goals first|rfl|(simp [au];done)|(simp [au];omega)
 have hc12':=hc12;try simp only [bm,bL] at hc12'
 refine aP ?_
 refine az aa 2 rfl ?_
 refine aL 6 [5,4,3,1,0] (dC (ys:=[(0,(.g [(cI x.time),(cI x.sum)]))]) (rows:=([x]).map gS) 5 oo rfl (by decide) ⟨⟨rfl,rfl⟩,trivial⟩ rfl rfl rfl rfl) rfl ?_
 refine aL 7 [6,5,3,1,0] (db (m:=1) (N:=r3.length+1) (k2:=6) (ys:=([x]).map gS) oo rfl rfl rfl rfl rfl rfl (by first|omega|(simp;done)|(simp;omega)) rfl (.s rfl (by first|omega|(simp;done)|(simp;omega))) (by first|omega|(simp;done)|(simp;omega)) (by first|omega|(simp;done)|(simp;omega)) eT (by decide) (by first|omega|(simp;done)|(simp;omega)) (by first|omega|(simp;done)|(simp;omega))) rfl ?_
 refine ab aa 2 rfl ?_
 refine ae ?_
 refine ar ?_
 have hX:ej p l x=(r3++([x]),0):=by
   have hlate:gm l x.time=false:=by first|(rw [mM hx1];simp;omega)|(have:l=[]:=List.eq_nil_of_length_eq_zero (by omega);subst this;rfl)
   have hk:(r3).take k=r3:=List.take_of_length_le (by omega)
   rw [hk] at hc12'
   unfold ej;rw [if_neg (by omega),if_neg (by have:=hi0_1 (by omega);omega),if_neg (by have:=hi0_2 (by omega);omega),if_neg (by rw [hlate];simp),hr3,if_neg (by omega)]
 rw [hX] at hr;clear hX
 simp only [Prod.mk.injEq] at hr;obtain ⟨rfl,rfl⟩:=hr
 refine ah aa [6] 1 rfl rfl rfl rfl rfl rfl ?_ ?_
 all_goals first|rfl|(simp [au];done)|(simp [au];omega)

theorem jP (c:bx) (e:Int) (hr:cr c=e):Fn Try.prog 28 [(.g [(cI c.bf),(cI c.held),(cI c.bY.cH),(cI c.bY.count),(cI c.bY.sum),(ft c.cD)])] (.v (.c (cI e))) []:=by
 refine Fn.mk' 32 [(0,(aG [(cI c.bf),(cI c.held),(cI c.bY.cH),(cI c.bY.count),(cI c.bY.sum),(ft c.cD)]))] Try.func28 rfl rfl rfl rfl ?_
 intro W0 T0
 refine fl 0 5 rfl rfl (fun hlen0_5=>?_)
 refine ad aa 2 rfl ?_
 refine af ?_
 refine cq 21 ((((decide (c.bf < (-1000000000000)))||(decide (c.bf > 1000000000000)))||(decide (c.held < 0)))||(decide (c.held > 1000000000000))) ?_ ?_
 ·
  refine aw ?_
  refine ab aa 4 rfl ?_
  refine bA (t:=7) rfl (fun hb1=>?_) (fun hb1=>?_)
  ·
   have hb1':=of_decide_eq_true hb1
   refine ab aa 14 rfl ?_
   refine ae ?_
   exact aD.bD 19 rfl rfl (by first|(simp [hb1];done)|(simp_all;done)|(exfalso;simp_all;done)|(simp_all;omega)) rfl
  have hb1':=of_decide_eq_false hb1
  refine ab aa 5 rfl ?_
  refine bA (t:=12) rfl (fun hb2=>?_) (fun hb2=>?_)
  ·
   have hb2':=of_decide_eq_true hb2
   refine ab aa 9 rfl ?_
   refine ae ?_
   exact aD.bD 20 rfl rfl (by first|(simp [hb1,hb2];done)|(simp_all;done)|(exfalso;simp_all;done)|(simp_all;omega)) rfl
  have hb2':=of_decide_eq_false hb2
  refine ab aa 5 rfl ?_
  refine bA (t:=17) rfl (fun hb3=>?_) (fun hb3=>?_)
  ·
   have hb3':=of_decide_eq_true hb3
   refine ab aa 4 rfl ?_
   refine ae ?_
   exact aD.bD 21 rfl rfl (by first|(simp [hb1,hb2,hb3];done)|(simp_all;done)|(exfalso;simp_all;done)|(simp_all;omega)) rfl
  have hb3':=of_decide_eq_false hb3
  refine ab aa 4 rfl ?_
  refine ae ?_
  exact aD.bD 21 rfl rfl (by first|(simp [hb1,hb2,hb3];done)|(simp_all;done)|(exfalso;simp_all;done)|(simp_all;omega)) rfl
 refine ag rfl (fun hc4=>?_) (fun hc4=>?_)
 ·
  have hc4':=hc4;try simp only [bm,bL] at hc4'
  refine ad aa 1 rfl ?_
  refine ar ?_
  refine ao ?_
  have hX:cr c=3:=by
    unfold cr;rw [if_pos (by omega)]
  rw [hX] at hr;clear hX
  subst hr
  refine ah aa [] 0 rfl rfl rfl rfl rfl rfl ?_ ?_
  all_goals first|rfl|(simp [au];done)|(simp [au];omega)
 have hc4':=hc4;try simp only [bm,bL] at hc4'
 refine aP ?_
 refine af ?_
 refine az aa 2 rfl ?_
 obtain ⟨e0,hr0⟩:∃ (e0:Int),fi c.bY=e0:=⟨_,rfl⟩
 refine aL 1 [0] (bM 1 (kP c.bY e0 hr0) Cb rfl rfl ⟨⟨_,rfl,.g ⟨.d _,.d _,.d _,trivial⟩⟩,trivial⟩ trivial trivial rfl rfl rfl rfl) rfl ?_
 refine ab aa 1 rfl ?_
 refine ae ?_
 refine ad aa 2 rfl ?_
 refine ag rfl (fun hc5=>?_) (fun hc5=>?_)
 ·
  have hc5':=of_decide_eq_true hc5
  refine ad aa 2 rfl ?_
  refine ar ?_
  refine ao ?_
  have hX:cr c=e0:=by
    unfold cr;rw [if_neg (by omega),if_pos (by omega),hr0]
  rw [hX] at hr;clear hX
  subst hr
  refine ah aa [] 0 rfl rfl rfl rfl rfl rfl ?_ ?_
  all_goals first|rfl|(simp [au];done)|(simp [au];omega)
 have hc5':=of_decide_eq_false hc5
 refine aP ?_
 refine az aa 2 rfl ?_
 obtain ⟨f1,hr1⟩:∃ (f1:cT),fe c.cD=f1:=⟨_,rfl⟩
 refine aL 1 [0] (bM 1 (oT c.cD f1 hr1) EY rfl rfl ⟨⟨_,rfl,.c (.d _)⟩,trivial⟩ ⟨trivial,trivial,trivial⟩ trivial rfl rfl rfl rfl) rfl ?_
 refine ay (BR rfl rfl Try.underlying50 rfl Try.underlying48 rfl rfl) rfl ?_
 refine ab aa 1 rfl ?_
 refine ae ?_
 refine ar ?_
 have hX:cr c=f1.err:=by
   unfold cr;rw [if_neg (by omega),if_neg (by omega),hr1]
 rw [hX] at hr;clear hX
 subst hr
 refine ah aa [] 0 rfl rfl rfl rfl rfl rfl ?_ ?_
 all_goals first|rfl|(simp [au];done)|(simp [au];omega)
theorem mA (c:bx) (hb:-9223372036854775808<=c.bf - c.held/\c.bf - c.held<=9223372036854775807):Fn Try.prog 24 [(.g [(cI c.bf),(cI c.held),(cI c.bY.cH),(cI c.bY.count),(cI c.bY.sum),(ft c.cD)])] (aI (c.bf - c.held)) []:=by
 refine Fn.mk' 8 [(0,(aG [(cI c.bf),(cI c.held),(cI c.bY.cH),(cI c.bY.count),(cI c.bY.sum),(ft c.cD)]))] Try.func24 rfl rfl rfl rfl ?_
 intro W0 T0
 refine fl 0 5 rfl rfl (fun hlen0_5=>?_)
 obtain ⟨hb1,hb2⟩:=hb
 refine ad aa 2 rfl ?_
 refine az aa 4 rfl ?_
 refine ay (aK rfl rfl rfl (aF (by first|omega|(simp;done)|(simp;omega)))) rfl ?_
 refine ab aa 1 rfl ?_
 refine ae ?_
 refine ar ?_
 refine ah aa [] 0 rfl rfl rfl rfl rfl rfl ?_ ?_
 all_goals first|rfl|(simp [au];done)|(simp [au];omega)
theorem rO (c:bx) (hl:c.cD.length<=1048576):Fn Try.prog 108 [(.g [(cI c.bf),(cI c.held),(cI c.bY.cH),(cI c.bY.count),(cI c.bY.sum),(ft c.cD)])] (.v (.g [cI c.bf,cI c.held,cI c.bY.cH,cI c.bY.count,cI c.bY.sum,.s 0 0 2 c.cD.length])) [(0,.arr 125 2 (c.cD.map gS))]:=by
 refine Fn.mk' 8 [(0,(aG [(cI c.bf),(cI c.held),(cI c.bY.cH),(cI c.bY.count),(cI c.bY.sum),(ft c.cD)]))] Try.func108 rfl rfl rfl rfl ?_
 intro W0 T0
 refine fl 0 5 rfl rfl (fun hlen0_5=>?_)
 refine ad aa 2 rfl ?_
 refine az aa 2 rfl ?_
 refine aL 3 [2,1,0] (bM 2 (pW c.cD (by first|omega|(simp;done)|(simp;omega))) CO rfl rfl ⟨⟨_,rfl,.c (.d _)⟩,trivial⟩ trivial ⟨(fun _ _ _ _=>trivial),trivial⟩ rfl rfl rfl rfl) rfl ?_
 refine ab aa 2 rfl ?_
 refine ae ?_
 refine ad aa 2 rfl ?_
 refine ar ?_
 refine ah aa [2,1] 1 rfl rfl rfl rfl rfl rfl ?_ ?_
 all_goals first|rfl|(simp [au];done)|(simp [au];omega)

theorem vX (c:bx) (n time:Int) (x:bx) (e:Int) (hr:dF c n time=(x,e)):Fn Try.prog 80 [(.g [(cI c.bf),(cI c.held),(cI c.bY.cH),(cI c.bY.count),(cI c.bY.sum),(ft c.cD)]),(.c (cI n)),(.c (cI time))] (.t [(.g [(cI x.bf),(cI x.held),(cI x.bY.cH),(cI x.bY.count),(cI x.bY.sum),(.s 0 0 2 x.cD.length)]),(.c (cI e))]) [(0,(oY x.cD))]:=by
 refine Fn.mk' 60 [(0,(aG [(cI c.bf),(cI c.held),(cI c.bY.cH),(cI c.bY.count),(cI c.bY.sum),(ft c.cD)])),(1,(aI n)),(2,(aI time))] Try.func80 rfl rfl rfl rfl ?_
 intro W0 T0
 refine fl 0 5 rfl rfl (fun hlen0_5=>?_)
 have hrc:=@fW c
 have hrl:=@nm c
 refine ad aa 3 rfl ?_
 refine af ?_
 refine az aa 1 rfl ?_
 obtain ⟨e0,hr0⟩:∃ (e0:Int),cr c=e0:=⟨_,rfl⟩
 refine aL 2 [1,0] (bM 2 (jP c e0 hr0) yK rfl rfl ⟨⟨_,rfl,.g ⟨.d _,.d _,.d _,.d _,.d _,.d _,trivial⟩⟩,trivial⟩ trivial trivial rfl rfl rfl rfl) rfl ?_
 refine ab aa 1 rfl ?_
 refine ae ?_
 refine ad aa 2 rfl ?_
 refine ag rfl (fun hc1=>?_) (fun hc1=>?_)
 ·
  have hc1':=of_decide_eq_true hc1
  refine ad aa 4 rfl ?_
  refine ar ?_
  refine ao ?_
  refine cf 1 5 125 2 rfl rfl rfl ?_
  have hX:dF c n time=((⟨0,0,(⟨0,0,0⟩:dk),([]:List cS)⟩:bx),e0):=by
    unfold dF;rw [if_pos (by omega),hr0];rfl
  rw [hX] at hr;clear hX
  simp only [Prod.mk.injEq] at hr;obtain ⟨rfl,rfl⟩:=hr
  refine ah aa [2,1] 1 rfl rfl rfl rfl rfl rfl ?_ ?_
  all_goals first|rfl|(simp [au];done)|(simp [au];omega)
 have hc1':=of_decide_eq_false hc1
 refine aP ?_
 refine af ?_
 refine cq 30 ((((decide (n < 1))||(decide (n > 1000000)))||(decide (time < 0)))||(decide (time > 1000000))) ?_ ?_
 ·
  refine aw ?_
  refine ab aa 3 rfl ?_
  refine bA (t:=19) rfl (fun hb2=>?_) (fun hb2=>?_)
  ·
   have hb2':=of_decide_eq_true hb2
   refine ab aa 11 rfl ?_
   refine ae ?_
   exact aD.bD 15 rfl rfl (by first|(simp [hb2];done)|(simp_all;done)|(exfalso;simp_all;done)|(simp_all;omega)) rfl
  have hb2':=of_decide_eq_false hb2
  refine ab aa 4 rfl ?_
  refine bA (t:=23) rfl (fun hb3=>?_) (fun hb3=>?_)
  ·
   have hb3':=of_decide_eq_true hb3
   refine ab aa 7 rfl ?_
   refine ae ?_
   exact aD.bD 16 rfl rfl (by first|(simp [hb2,hb3];done)|(simp_all;done)|(exfalso;simp_all;done)|(simp_all;omega)) rfl
  have hb3':=of_decide_eq_false hb3
  refine ab aa 4 rfl ?_
  refine bA (t:=27) rfl (fun hb4=>?_) (fun hb4=>?_)
  ·
   have hb4':=of_decide_eq_true hb4
   refine ab aa 3 rfl ?_
   refine ae ?_
   exact aD.bD 17 rfl rfl (by first|(simp [hb2,hb3,hb4];done)|(simp_all;done)|(exfalso;simp_all;done)|(simp_all;omega)) rfl
  have hb4':=of_decide_eq_false hb4
  refine ab aa 3 rfl ?_
  refine ae ?_
  exact aD.bD 17 rfl rfl (by first|(simp [hb2,hb3,hb4];done)|(simp_all;done)|(exfalso;simp_all;done)|(simp_all;omega)) rfl
 refine ag rfl (fun hc5=>?_) (fun hc5=>?_)
 ·
  have hc5':=hc5;try simp only [bm,bL] at hc5'
  refine ad aa 3 rfl ?_
  refine ar ?_
  refine ao ?_
  refine cf 1 5 125 2 rfl rfl rfl ?_
  have hX:dF c n time=((⟨0,0,(⟨0,0,0⟩:dk),([]:List cS)⟩:bx),3):=by
    unfold dF;rw [if_neg (by omega),if_pos (by omega)];rfl
  rw [hX] at hr;clear hX
  simp only [Prod.mk.injEq] at hr;obtain ⟨rfl,rfl⟩:=hr
  refine ah aa [2,1] 1 rfl rfl rfl rfl rfl rfl ?_ ?_
  all_goals first|rfl|(simp [au];done)|(simp [au];omega)
 have hc5':=hc5;try simp only [bm,bL] at hc5'
 refine aP ?_
 refine af ?_
 refine az aa 2 rfl ?_
 refine aL 2 [1,0] (bM 2 (mA c (by first|assumption|omega|(constructor<;>decide)|(have hz:=fW (by first|assumption|omega);omega))) Cd rfl rfl ⟨⟨_,rfl,.g ⟨.d _,.d _,.d _,.d _,.d _,.d _,trivial⟩⟩,trivial⟩ trivial trivial rfl rfl rfl rfl) rfl ?_
 refine ab aa 1 rfl ?_
 refine ae ?_
 refine ag rfl (fun hc6=>?_) (fun hc6=>?_)
 ·
  have hc6':=of_decide_eq_true hc6
  refine ad aa 3 rfl ?_
  refine ar ?_
  refine ao ?_
  refine cf 1 5 125 2 rfl rfl rfl ?_
  have hX:dF c n time=((⟨0,0,(⟨0,0,0⟩:dk),([]:List cS)⟩:bx),10):=by
    unfold dF;rw [if_neg (by omega),if_neg (by omega),if_pos (by omega)];rfl
  rw [hX] at hr;clear hX
  simp only [Prod.mk.injEq] at hr;obtain ⟨rfl,rfl⟩:=hr
  refine ah aa [2,1] 1 rfl rfl rfl rfl rfl rfl ?_ ?_
  all_goals first|rfl|(simp [au];done)|(simp [au];omega)
 have hc6':=of_decide_eq_false hc6
 refine aP ?_
 refine az aa 7 rfl ?_
 obtain ⟨r1,e1,hr1⟩:∃ (r1:List cS) (e1:Int),ej c.bY c.cD (⟨time,n⟩:cS)=(r1,e1):=⟨_,_,rfl⟩
 refine aL 3 [2,1,0] (bM 2 (yT c.bY c.cD (⟨time,n⟩:cS) r1 e1 hr1) Gg rfl rfl ⟨⟨_,rfl,.g ⟨.d _,.d _,.d _,trivial⟩⟩,⟨_,rfl,.c (.d _)⟩,⟨_,rfl,.g ⟨.d _,.d _,trivial⟩⟩,trivial⟩ ⟨trivial,trivial,trivial⟩ ⟨(fun _ _ _ _=>trivial),trivial⟩ rfl rfl rfl rfl) rfl ?_
 refine ab aa 5 rfl ?_
 refine ae ?_
 refine af ?_
 refine ad aa 2 rfl ?_
 refine ag rfl (fun hc7=>?_) (fun hc7=>?_)
 ·
  have hc7':=of_decide_eq_true hc7
  refine ad aa 4 rfl ?_
  refine ar ?_
  refine ao ?_
  refine cf 1 5 125 2 rfl rfl rfl ?_
  have hX:dF c n time=((⟨0,0,(⟨0,0,0⟩:dk),([]:List cS)⟩:bx),e1):=by
    have ha:=hr1
    unfold dF;rw [if_neg (by omega),if_neg (by omega),if_neg (by omega),if_pos (by rw [ha];dsimp only;omega),ha];rfl
  rw [hX] at hr;clear hX
  simp only [Prod.mk.injEq] at hr;obtain ⟨rfl,rfl⟩:=hr
  refine ah aa [3,1] 1 rfl rfl rfl rfl rfl rfl ?_ ?_
  all_goals first|rfl|(simp [au];done)|(simp [au];omega)
 have hc7':=of_decide_eq_false hc7
 refine aP ?_
 refine ad aa 3 rfl ?_
 refine az aa 3 rfl ?_
 refine ay (aK rfl rfl rfl (aF (by first|omega|(simp;done)|(simp;omega)))) rfl ?_
 refine ab aa 2 rfl ?_
 refine ae ?_
 refine ad aa 3 rfl ?_
 refine ar ?_
 have hX:dF c n time=((⟨c.bf,c.held+n,c.bY,r1⟩:bx),0):=by
   have ha:=hr1
   unfold dF;rw [if_neg (by omega),if_neg (by omega),if_neg (by omega),if_neg (by rw [ha];dsimp only;omega),ha]
 rw [hX] at hr;clear hX
 simp only [Prod.mk.injEq] at hr;obtain ⟨rfl,rfl⟩:=hr
 refine ah aa [2,1] 1 rfl rfl rfl rfl rfl rfl ?_ ?_
 all_goals first|rfl|(simp [au];done)|(simp [au];omega)
theorem vW (c:bx) (n:Int) (x:bx) (e:Int) (hr:eO c n=(x,e)):Fn Try.prog 91 [(.g [(cI c.bf),(cI c.held),(cI c.bY.cH),(cI c.bY.count),(cI c.bY.sum),(ft c.cD)]),(.c (cI n))] (.t [(.g [(cI x.bf),(cI x.held),(cI x.bY.cH),(cI x.bY.count),(cI x.bY.sum),(.s 0 0 2 x.cD.length)]),(.c (cI e))]) [(0,(oY x.cD))]:=by
 refine Fn.mk' 35 [(0,(aG [(cI c.bf),(cI c.held),(cI c.bY.cH),(cI c.bY.count),(cI c.bY.sum),(ft c.cD)])),(1,(aI n))] Try.func91 rfl rfl rfl rfl ?_
 intro W0 T0
 refine fl 0 5 rfl rfl (fun hlen0_5=>?_)
 have hrc:=@fW c
 have hrl:=@nm c
 refine ad aa 3 rfl ?_
 refine af ?_
 refine az aa 1 rfl ?_
 obtain ⟨e0,hr0⟩:∃ (e0:Int),cr c=e0:=⟨_,rfl⟩
 refine aL 2 [1,0] (bM 2 (jP c e0 hr0) yK rfl rfl ⟨⟨_,rfl,.g ⟨.d _,.d _,.d _,.d _,.d _,.d _,trivial⟩⟩,trivial⟩ trivial trivial rfl rfl rfl rfl) rfl ?_
 refine ab aa 1 rfl ?_
 refine ae ?_
 refine ad aa 2 rfl ?_
 refine ag rfl (fun hc1=>?_) (fun hc1=>?_)
 ·
  have hc1':=of_decide_eq_true hc1
  refine ad aa 4 rfl ?_
  refine ar ?_
  refine ao ?_
  refine cf 1 5 125 2 rfl rfl rfl ?_
  have hX:eO c n=((⟨0,0,(⟨0,0,0⟩:dk),([]:List cS)⟩:bx),e0):=by
    unfold eO;rw [if_pos (by omega),hr0];rfl
  rw [hX] at hr;clear hX
  simp only [Prod.mk.injEq] at hr;obtain ⟨rfl,rfl⟩:=hr
  refine ah aa [2,1] 1 rfl rfl rfl rfl rfl rfl ?_ ?_
  all_goals first|rfl|(simp [au];done)|(simp [au];omega)
 have hc1':=of_decide_eq_false hc1
 refine aP ?_
 refine af ?_
 refine cq 25 (((decide (n < 1))||(decide (n > 1000000)))||(decide (n > (1000000000000 - c.held)))) ?_ ?_
 ·
  refine aw ?_
  refine ab aa 3 rfl ?_
  refine bA (t:=15) rfl (fun hb2=>?_) (fun hb2=>?_)
  ·
   have hb2':=of_decide_eq_true hb2
   refine ab aa 10 rfl ?_
   refine ae ?_
   exact aD.bD 14 rfl rfl (by first|(simp [hb2];done)|(simp_all;done)|(exfalso;simp_all;done)|(simp_all;omega)) rfl
  have hb2':=of_decide_eq_false hb2
  refine ab aa 4 rfl ?_
  refine bA (t:=19) rfl (fun hb3=>?_) (fun hb3=>?_)
  ·
   have hb3':=of_decide_eq_true hb3
   refine ab aa 6 rfl ?_
   refine ae ?_
   exact aD.bD 15 rfl rfl (by first|(simp [hb2,hb3];done)|(simp_all;done)|(exfalso;simp_all;done)|(simp_all;omega)) rfl
  have hb3':=of_decide_eq_false hb3
  refine ab aa 3 rfl ?_
  refine dW (al.yes rfl rfl rfl) (aK rfl rfl rfl (aF (by first|omega|(simp;done)|(simp;omega)))) rfl rfl ?_
  refine ab aa 2 rfl ?_
  refine ae ?_
  exact aD.bD 15 rfl rfl (by first|(simp [hb2,hb3];done)|(simp_all;done)|(exfalso;simp_all;done)|(simp_all;omega)) rfl
 refine ag rfl (fun hc4=>?_) (fun hc4=>?_)
 ·
  have hc4':=hc4;try simp only [bm,bL] at hc4'
  refine ad aa 3 rfl ?_
  refine ar ?_
  refine ao ?_
  refine cf 1 5 125 2 rfl rfl rfl ?_
  have hX:eO c n=((⟨0,0,(⟨0,0,0⟩:dk),([]:List cS)⟩:bx),3):=by
    unfold eO;rw [if_neg (by omega),if_pos (by omega)];rfl
  rw [hX] at hr;clear hX
  simp only [Prod.mk.injEq] at hr;obtain ⟨rfl,rfl⟩:=hr
  refine ah aa [2,1] 1 rfl rfl rfl rfl rfl rfl ?_ ?_
  all_goals first|rfl|(simp [au];done)|(simp [au];omega)
 have hc4':=hc4;try simp only [bm,bL] at hc4'
 refine aP ?_
 refine az aa 1 rfl ?_
 refine aL 3 [2,1,0] (bM 2 (rO c (by first|assumption|omega)) CR rfl rfl ⟨⟨_,rfl,.g ⟨.d _,.d _,.d _,.d _,.d _,.d _,trivial⟩⟩,trivial⟩ ⟨trivial,trivial,trivial,trivial,trivial,trivial,trivial⟩ ⟨(fun _ _ _ _=>trivial),trivial⟩ rfl rfl rfl rfl) rfl ?_
 refine ab aa 1 rfl ?_
 refine ae ?_
 refine az aa 3 rfl ?_
 refine ay (aK rfl rfl rfl (aF (by first|omega|(simp;done)|(simp;omega)))) rfl ?_
 refine ab aa 2 rfl ?_
 refine ae ?_
 refine ad aa 3 rfl ?_
 refine ar ?_
 have hX:eO c n=((⟨c.bf,c.held+n,c.bY,c.cD⟩:bx),0):=by
   unfold eO;rw [if_neg (by omega),if_neg (by omega)]
 rw [hX] at hr;clear hX
 simp only [Prod.mk.injEq] at hr;obtain ⟨rfl,rfl⟩:=hr
 refine ah aa [2,1] 1 rfl rfl rfl rfl rfl rfl ?_ ?_
 all_goals first|rfl|(simp [au];done)|(simp [au];omega)
end Go.Proofs.Ytegepioggeggaaa.Dev
