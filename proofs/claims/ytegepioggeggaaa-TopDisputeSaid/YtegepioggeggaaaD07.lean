/- A part of the proof: PlSort3, PlDay, PlBank, Bank0, Pace1, Pace2, Del1, Pace3, Pace5, Card1, Card2. No condition. -/
import Derived.Test.YtegepioggeggaaaD06
set_option linter.unusedVariables false
set_option linter.unusedSimpArgs false
set_option maxHeartbeats 1000000
set_option maxRecDepth 100000
namespace Go.Proofs.Ytegepioggeggaaa.Dev
open Go.RowKit
def kL:List an->an->List an
 |[],r=>[r]
 |x::l,r=>if gu r x=true then r::x::l else x::kL l r
def gp (l:List an):List an:=l.foldl kL []
theorem vm {r z:an}:∀ {l:List an},z∈kL l r↔z=r\/z∈l
 |[]=>by simp [kL]
 |x::l=>by
  unfold kL
  split
  ·simp
  ·rw [List.mem_cons,vm,List.mem_cons]
   constructor
   ·rintro (h|h|h)
    ·exact .inr (.inl h)
    ·exact .inl h
    ·exact .inr (.inr h)
   ·rintro (h|h|h)
    ·exact .inr (.inl h)
    ·exact .inl h
    ·exact .inr (.inr h)
theorem vk {r:an}:∀ {l:List an},eU l->eU (kL l r)
 |[],_=>List.pairwise_singleton _ _
 |x::l,h=>by
  obtain ⟨h1,h2⟩:=List.pairwise_cons.1 h
  unfold kL
  split
  ·rename_i hc
   exact List.pairwise_cons.2 ⟨fun z hz=>by
    rcases List.mem_cons.1 hz with rfl|hz
    ·exact kA hc
    ·exact kz (kA hc) (h1 z hz),h⟩
  ·rename_i hc
   have hc:fO x r:=rm.1 (by simpa using hc)
   exact List.pairwise_cons.2 ⟨fun z hz=>by
    rcases vm.1 hz with rfl|hz
    ·exact hc
    ·exact h1 z hz,vk h2⟩
theorem tx {r:an}:∀ {l:List an},eU l->Same (l++[r]) (kL l r)
 |[],_=>Same.refl _
 |x::l,h=>by
  obtain ⟨h1,h2⟩:=List.pairwise_cons.1 h
  unfold kL
  split
  ·rename_i hc
   exact (Same.comm (u:=x::l) (v:=[r]) fun y hy z hz=>by
    rw [List.mem_singleton.1 hz]
    rcases List.mem_cons.1 hy with rfl|hy
    ·exact hc
    ·exact ve hc (h1 y hy))
  ·exact (Same.refl [x]).app (tx h2)
theorem qo:∀ (l acc:List an),eU acc->eU (l.foldl kL acc)/\Same (acc++l) (l.foldl kL acc)
 |[],acc,h=>⟨h,by rw [List.append_nil];exact Same.refl _⟩
 |x::l,acc,h=>by
  obtain ⟨h1,h2⟩:=qo l (kL acc x) (vk h)
  refine ⟨h1,?_⟩
  have h3:=((tx (r:=x) h).app (Same.refl l)).trans h2
  simpa using h3
theorem zo (l:List an):eU (gp l):=(qo l [] List.Pairwise.nil).1
theorem mW (l:List an):Same l (gp l):=(qo l [] List.Pairwise.nil).2
theorem xX {l d:List an} (h:eU d) (h':Same l d):gp l=d:=eU.uniq (zo l) h ((mW l).symm.trans h')
theorem sU (l:List an):(gp l).length=l.length:=(mW l).len.symm
theorem zp {l:List an} (h:l.length=0):gp l=l:=by obtain rfl:=List.eq_nil_of_length_eq_zero h;rfl
def js (d:List an) (a s:Nat):List an:=(d.drop a).take s
def sL (s a:Nat) (d:List an):Prop:=(∃ q,a=q * s)/\∀ k,(k+1) * s<=a->eU (js d (k * s) s)
def sK (s:Nat) (d:List an):Prop:=∀ k,eU (js d (k * s) s)
def mv (s a:Nat) (d:List an):Prop:=sL (2 * s) a d/\∀ k,a<=k * s->eU (js d (k * s) s)
theorem Part.DS {d y:List an} {a b:Nat} (h:Part d y a b) {c s:Nat} (hc:c+s<=a):js y c s=js d c s:=by
 have e:∀ z:List an,js z c s=((z.take a).drop c).take s:=fun z=>by
  unfold js;rw [List.drop_take,List.take_take,Nat.min_eq_left (by omega)]
 rw [e y,e d,h.l]
theorem Part.Gx {d y:List an} {a b:Nat} (h:Part d y a b) {c s:Nat} (hc:b<=c):js y c s=js d c s:=by
 have e:∀ z:List an,js z c s=((z.drop b).drop (c - b)).take s:=fun z=>by
  unfold js;rw [List.drop_drop,show b+(c - b)=c by omega]
 rw [e y,e d,h.r]
theorem wZ {d:List an} {a s:Nat} (h:d.length<=a):js d a s=[]:=by unfold js;rw [List.drop_of_length_le h];simp
theorem sb {d:List an} {a s t:Nat} (hs:d.length<=a+s) (ht:d.length<=a+t):js d a s=js d a t:=by
 unfold js;rw [List.take_of_length_le (by rw [List.length_drop];omega),List.take_of_length_le (by rw [List.length_drop];omega)]
theorem wX:eU []:=List.Pairwise.nil
theorem Di {k q s:Nat} (h:(k+1) * s<=q * s+s) (hs:0 < s):k<=q:=by
 rw [<-Nat.succ_mul] at h
 have:=Nat.le_of_mul_le_mul_right h hs
 omega
theorem rD {s:Nat} (hs:0 < s) {d:List an}:sL s 0 d:=⟨⟨0,by simp⟩,fun k h=>by rw [Nat.succ_mul] at h;omega⟩
theorem tJ {s a:Nat} {d y:List an} (hs:0 < s) (h:sL s a d) (p:Part d y a (a+s)):sL s (a+s) y:=by
 obtain ⟨⟨q,hq⟩,h2⟩:=h
 refine ⟨⟨q+1,by rw [Nat.succ_mul,hq]⟩,fun k hk=>?_⟩
 subst hq
 have hkq:=Di hk hs
 by_cases e:k=q
 ·subst e
  have:=p.s
  rw [Nat.add_sub_cancel_left] at this
  exact this
 ·have h3:(k+1) * s<=q * s:=Nat.mul_le_mul_right s (by omega)
  rw [p.DS (by rw [Nat.succ_mul] at h3;exact h3)]
  exact h2 k h3
theorem vI {s a:Nat} {d y:List an} (hs:0 < s) (h:sL s a d) (ha:a<=y.length) (p:Part d y a y.length) (hn:y.length<=a+s):sK s y:=by
 obtain ⟨⟨q,rfl⟩,h2⟩:=h
 intro k
 rcases Nat.lt_trichotomy k q with e|e|e
 ·have h3:(k+1) * s<=q * s:=Nat.mul_le_mul_right s (by omega)
  rw [p.DS (by rw [Nat.succ_mul] at h3;exact h3)]
  exact h2 k h3
 ·subst e
  have h3:=p.s
  rw [sb (t:=y.length - k * s) hn (by omega)]
  exact h3
 ·have h3:(q+1) * s<=k * s:=Nat.mul_le_mul_right s (by omega)
  rw [Nat.succ_mul] at h3
  rw [wZ (by omega)];exact wX
theorem Bh {s:Nat} {d:List an} (h:sK s d) (hs:d.length<=s):eU d:=by
 have:=h 0
 unfold js at this
 rw [Nat.zero_mul,List.drop_zero,List.take_of_length_le hs] at this
 exact this
theorem yq {s:Nat} (hs:0 < s) {d:List an} (h:sK s d):mv s 0 d:=⟨rD (by omega),fun k _=>h k⟩
theorem mv.mul {s a:Nat} {d:List an} (h:mv s a d):∃ k,a=k * s:=by
 obtain ⟨q,hq⟩:=h.1.1
 exact ⟨q * 2,by rw [hq,Nat.mul_assoc]⟩
theorem BC {s a:Nat} {d:List an} (h:mv s a d):eU (js d a s)/\eU (js d (a+s) s):=by
 obtain ⟨k,hk⟩:=h.mul
 refine ⟨?_,?_⟩
 ·have:=h.2 k (by omega);rwa [<-hk] at this
 ·have:=h.2 (k+1) (by rw [Nat.succ_mul];omega);rwa [Nat.succ_mul,<-hk] at this
theorem zZ {s a:Nat} {d y:List an} (hs:0 < s) (h:mv s a d) (p:Part d y a (a+2 * s)):mv s (a+2 * s) y:=
 ⟨tJ (by omega) h.1 p,fun k hk=>by rw [p.Gx hk];exact h.2 k (by omega)⟩
theorem BD {s a:Nat} {d y:List an} (hs:0 < s) (h:mv s a d) (ha:a<=y.length) (p:Part d y a y.length) (hn:y.length<=a+2 * s):sK (s * 2) y:=by
 rw [Nat.mul_comm];exact vI (by omega) h.1 ha p hn
theorem Aa {s a:Nat} {d:List an} (hs:0 < s) (h:mv s a d) (hn:d.length<=a+s):sK (s * 2) d:=by
 rw [Nat.mul_comm]
 obtain ⟨⟨⟨q,rfl⟩,h2⟩,h3⟩:=h
 intro k
 rcases Nat.lt_trichotomy k q with e|e|e
 ·exact h2 k (Nat.mul_le_mul_right _ (by omega))
 ·subst e
  rw [sb (t:=s) (by omega) hn]
  have:=h3 (k * 2) (by rw [Nat.mul_assoc];omega)
  rwa [Nat.mul_assoc] at this
 ·have h4:(q+1) * (2 * s)<=k * (2 * s):=Nat.mul_le_mul_right _ (by omega)
  rw [Nat.succ_mul] at h4
  rw [wZ (by omega)];exact wX
theorem uC {s a b:Nat} {d:List an} (hs:0 < s) (h:mv s a d) (h1:a+s < b) (h2:b<=d.length) (h3:b=a+2 * s\/(b=d.length/\b<=a+2 * s)):Part d (dA (b - a) a (a+s) b d) a b:=by
 obtain ⟨s1,s2⟩:=BC h
 refine zi (by omega) h1 h2 (Nat.le_refl _) ?_ ?_
 ·rw [Nat.add_sub_cancel_left];exact s1
 ·rcases h3 with h3|⟨h3,h4⟩
  ·rw [show b - (a+s)=s by omega];exact s2
  ·have:=sb (d:=d) (a:=a+s) (s:=s) (t:=b - (a+s)) (by omega) (by omega)
   show eU (js d (a+s) (b - (a+s)))
   rw [<-this];exact s2
def mu (r:an):Prop:=r.kind < 1\/r.kind > 8
def nG (r:an):Prop:=r.ax < 0\/r.ax > 7\/r.ba < 0\/r.ba > 29\/r.sum < 1\/r.sum > 1000000
instance (r:an):Decidable (mu r):=by unfold mu;infer_instance
instance (r:an):Decidable (nG r):=by unfold nG;infer_instance
def mo:List an->Int->cP
 |[],_=>⟨0,0⟩
 |r::l,i=>if mu r then ⟨1,i⟩ else if nG r then ⟨3,i⟩ else mo l (i+1)
def gl (l:List an):cP:=if l.length > 100 then ⟨5,0⟩ else mo l 0
theorem ov {l:List an} {q:Nat} {x:an} (h:l[q]?=some x):mo (l.drop q) q=if mu x then ⟨1,q⟩ else if nG x then ⟨3,q⟩ else mo (l.drop (q+1)) ((q+1:Nat):Int):=by
 obtain ⟨hq,rfl⟩:=List.getElem?_eq_some_iff.1 h
 rw [List.drop_eq_getElem_cons hq];rfl
theorem zA {l:List an} {q:Nat} {i:Int} (h:l.length<=q):mo (l.drop q) i=⟨0,0⟩:=by rw [List.drop_of_length_le h];rfl
def xl (r:an):Prop:=¬mu r/\¬nG r
theorem xh:∀ {l:List an} {i:Int},(mo l i).err=0↔∀ x∈l,xl x
 |[],i=>by simp [mo]
 |r::l,i=>by
  unfold mo
  split
  ·rename_i h
   simp only [List.mem_cons,forall_eq_or_imp]
   exact ⟨fun e=>absurd e (by decide),fun e=>absurd h e.1.1⟩
  ·split
   ·rename_i h
    simp only [List.mem_cons,forall_eq_or_imp]
    exact ⟨fun e=>absurd e (by decide),fun e=>absurd h e.1.2⟩
   ·rename_i h1 h2
    rw [xh]
    simp only [List.mem_cons,forall_eq_or_imp]
    exact ⟨fun e=>⟨⟨h1,h2⟩,e⟩,fun e=>e.2⟩
theorem yX {l:List an}:(gl l).err=0↔l.length<=100/\∀ x∈l,xl x:=by
 unfold gl
 split
 ·exact ⟨fun e=>absurd e (by decide),fun e=>by omega⟩
 ·rw [xh];exact ⟨fun e=>⟨by omega,e⟩,fun e=>e.2⟩
theorem Fy {x:an} (h:xl x):0<=x.ax/\x.ax<=7/\0<=x.ba/\x.ba<=29/\1<=x.kind/\x.kind<=8/\1<=x.sum/\x.sum<=1000000:=by
 unfold xl mu nG at h;omega
theorem qN {l:List an} {q:Nat} {x:an} (h:l[q]?=some x):l.take (q+1)=l.take q++[x]:=by
 rw [List.take_add_one,h];rfl
def lX (n:Int):Nat->List Int
 |0=>[]
 |k+1=>n / 256 ^ k % 256::lX n k
theorem pn (n:Int):∀ k,(lX n k).length=k
 |0=>rfl
 |k+1=>by unfold lX;rw [List.length_cons,pn n k]
theorem Cq {n:Int} {k:Nat} (h:1<=k):lX n k=n / 256 ^ (k - 1) % 256::lX n (k - 1):=by
 obtain ⟨j,rfl⟩:∃ j,k=j+1:=⟨k - 1,by omega⟩
 rfl
theorem Dh (k:Nat):(2:Int) ^ (8 * k)=256 ^ k:=by rw [Int.pow_mul];rfl
theorem Gv {k:Nat} {b n:Int} (h1:1<=k) (hb:b=8 * ((k:Int) - 1)):n / 2 ^ b.toNat=n / 256 ^ (k - 1):=by
 subst hb
 rw [show (8 * ((k:Int) - 1)).toNat=8 * (k - 1) by omega,Dh]
def uT (x:an):List Int:=[x.ax % 256,x.ba % 256,x.kind % 256]++lX x.sum 3
def lp:List an->Int
 |[]=>0
 |x::l=>x.sum+lp l
theorem Bd (u v:List an):lp (u++v)=lp u+lp v:=by
 induction u with
 |nil=>simp [lp]
 |cons x u ih=>simp only [List.cons_append,lp,ih];omega
theorem zl {l:List an} {q:Nat} {x:an} (h:l[q]?=some x):lp (l.take (q+1))=lp (l.take q)+x.sum:=by
 rw [qN h,Bd];simp [lp]
def lS (l r:List an):List Int:=((l.length:Int) % 256)::r.flatMap uT
theorem yp {l r:List an} {q:Nat} {x:an} (h:r[q]?=some x):lS l (r.take (q+1))=lS l (r.take q)++uT x:=by
 unfold lS;rw [qN h,List.flatMap_append];simp
theorem Br (x:an):(uT x).length=6:=by unfold uT;rw [List.length_append,pn];rfl
theorem zY (l r:List an):(lS l r).length=1+6 * r.length:=by
 unfold lS
 rw [List.length_cons]
 induction r with
 |nil=>rfl
 |cons x r ih=>rw [List.flatMap_cons,List.length_append,Br,List.length_cons];omega
def jK (l:List an):List Int×cP:=if (gl l).err=0 then (lS l (gp l)++lX (lp (gp l)) 4,⟨0,0⟩) else ([],gl l)
def dv (e err:Int):Int:=if e=0 then err else e
def dT (l:List Entry) (e src dst n:Int):List Entry×Int:=
 if dv e (iQ l src dst n).2=0 then ((iQ l src dst n).1,0) else (l,dv e (iQ l src dst n).2)
def cz (l:List bx) (e k held bj:Int):List bx×Int:=
 match l[k.toNat]? with
 |none=>(l,e)
 |some c=>if dv e (dW c held bj).2=0 then (l.set k.toNat (dW c held bj).1,0) else (l,dv e (dW c held bj).2)
def eA (s:bR) (e:Int) (t:aW):bR×Int:=if dv e (fu s t).2=0 then ((fu s t).1,0) else (s,dv e (fu s t).2)
def gE (l:List an) (e:Int) (r:an):List an×Int:=if l.length=100 then (l,dv e 5) else (l++[r],e)
theorem oe {l:List bx} {e k held bj:Int} {c:bx} (h:l[k.toNat]?=some c):cz l e k held bj=if dv e (dW c held bj).2=0 then (l.set k.toNat (dW c held bj).1,0) else (l,dv e (dW c held bj).2):=by
 unfold cz;rw [h]
def dY (aq:List bz) (due:List Int) (aj:List bx) (book:List Entry) (e:Int) (t:aW):List Int×List bx×List Entry×Int:=
 match aq[t.ba.toNat]? with
 |none=>(due,aj,book,e)
 |some a=>
  if t.kind=1 then (due.set a.ax.toNat (IntKind.i64.wrap (due.getD a.ax.toNat 0+t.sum)),aj,dT book e 1 (50+a.ax) t.sum)
  else if t.kind=2 then (due,(cz aj e a.aJ 0 t.sum).1,dT book (cz aj e a.aJ 0 t.sum).2 1 (10+a.aJ) t.sum)
  else if t.kind=3 then (due.set a.ax.toNat (IntKind.i64.wrap (due.getD a.ax.toNat 0 - t.sum)),aj,dT book e (50+a.ax) 2 t.sum)
  else (due,aj,book,e)
structure Bk where (time:Int) (down:Bool) (aj:List bx) (due:List Int) (aq:List bz) (s0 s1:bR) (n0 n1:Int) (w0 w1:List bV) (bH:cw) (aN:List an) (book:List Entry)
 deriving DecidableEq
def dC (b c:Bk) (e:Int):Bk×Answer:=if e=0 then (c,⟨0,0⟩) else (b,⟨e,0⟩)
def fB (b:Bk) (d:aE):Bk×Answer:=
 if d.n < 0\/d.n>=b.aj.length then (b,⟨6,0⟩)
 else if d.sum < 1\/d.sum > 1000000 then (b,⟨3,0⟩)
 else dC b {b with aj:=(cz b.aj 0 d.n 0 d.sum).1,book:=(dT b.book (cz b.aj 0 d.n 0 d.sum).2 0 (10+d.n) d.sum).1} (dT b.book (cz b.aj 0 d.n 0 d.sum).2 0 (10+d.n) d.sum).2
def gX (b:Bk) (d:aE):Bk×Answer:=
 if d.n < 0\/d.n>=b.due.length then (b,⟨6,0⟩)
 else if b.due.getD d.n.toNat 0<=0 then (b,⟨10,0⟩)
 else dC b {b with due:=b.due.set d.n.toNat 0,book:=(dT b.book 0 (50+d.n) 0 (b.due.getD d.n.toNat 0)).1} (dT b.book 0 (50+d.n) 0 (b.due.getD d.n.toNat 0)).2
def fI (time:Int):List bz->Nat->List bx->List bz->Int->List bx×List bz×Int
 |[],_,aj,aq,e=>(aj,aq,e)
 |a::l,i,aj,aq,e=>fI time l (i+1) (cz aj e a.aJ (bu (ei a time) - bu a) 0).1 (aq.set i (ei a time)) (cz aj e a.aJ (bu (ei a time) - bu a) 0).2
def gS (b:Bk):Bk:=if (fI b.time b.aq 0 b.aj b.aq 0).2.2=0 then {b with aj:=(fI b.time b.aq 0 b.aj b.aq 0).1,aq:=(fI b.time b.aq 0 b.aj b.aq 0).2.1} else b
def fm (b:Bk) (d:aE):Bk×Answer:=
 if d.sum < 0\/d.sum > 1000000 - b.time then (b,⟨3,0⟩)
 else (if b.down=true then {b with time:=b.time+d.sum} else gS {b with time:=b.time+d.sum},⟨0,0⟩)
def gD (l:List bV) (ks:List aW) (n:Int):List bV:=l++ks.map (fun t=>⟨t,-1⟩)++[⟨⟨0,0,0,0⟩,n⟩]
def hZ (w:List bV) (ks:List aW) (n:Int):List bV×Answer:=if (gD w ks n).length > 60 then (w,⟨5,0⟩) else (gD w ks n,⟨0,0⟩)
def ez (s0 s1:bR) (n0 n1:Int) (w0 w1:List bV) (d:aE):List bV×List bV×Answer:=
 if d.n=0 then (w0,hZ w1 s0.kept n0) else if d.n=1 then ((hZ w0 s1.kept n1).1,w1,(hZ w0 s1.kept n1).2) else (w0,w1,⟨6,0⟩)
def iP (aN:List an) (days:List (List Int)):List an×List (List Int)×Answer:=
 if (jK aN).2.err≠0 then (aN,days,⟨(jK aN).2.err,0⟩) else ([],days++[(jK aN).1],⟨0,0⟩)
def gF (e:Int):Int:=if e=10 then 12 else e
def dJ (b:Bk) (d:aE):Bk×Answer:=
 if d.n < 0\/d.n>=b.aj.length\/d.ax < 0\/d.ax>=b.due.length then (b,⟨6,0⟩)
 else if b.down=true then
  (if gF (cj b.bH ⟨d.n,d.ax,d.sum,b.time⟩).2=0/\(b.aq.length:Int)+(cj b.bH ⟨d.n,d.ax,d.sum,b.time⟩).1.aX.length > 30 then (b,⟨5,0⟩)
  else if gF (cj b.bH ⟨d.n,d.ax,d.sum,b.time⟩).2≠0 then (b,⟨gF (cj b.bH ⟨d.n,d.ax,d.sum,b.time⟩).2,0⟩)
  else ({b with bH:=(cj b.bH ⟨d.n,d.ax,d.sum,b.time⟩).1},⟨0,(b.aq.length:Int)+(cj b.bH ⟨d.n,d.ax,d.sum,b.time⟩).1.aX.length - 1⟩))
 else if (de d.n d.ax d.sum b.time).2=0/\b.aq.length=30 then (b,⟨5,0⟩)
 else if (de d.n d.ax d.sum b.time).2≠0 then (b,⟨(de d.n d.ax d.sum b.time).2,0⟩)
 else match b.aj[d.n.toNat]? with
  |none=>(b,⟨0,0⟩)
  |some c=>
   if (dK c d.sum b.time).2≠0 then (b,⟨(dK c d.sum b.time).2,0⟩)
   else ({b with aj:=b.aj.set d.n.toNat (dK c d.sum b.time).1,aq:=b.aq++[(de d.n d.ax d.sum b.time).1]},⟨0,b.aq.length⟩)
theorem tZ (s:cw) (a:ca):(cj s a).1.aX.length<=s.aX.length+1:=by
 unfold cj;(repeat' split)<;>simp [fD]
def kD (aj:List bx) (k:Int):Int:=
 match aj[k.toNat]? with
 |none=>0
 |some c=>c.bj - c.held
def dH (b:Bk) (a cu:bz) (d:aE):List bx×List Int×List Entry×bR×bR×Int:=
 if d.move=1\/d.move=4 then ((cz b.aj 0 a.aJ (bu a - bu cu) 0).1,b.due,b.book,b.s0,b.s1,(cz b.aj 0 a.aJ (bu a - bu cu) 0).2)
 else if d.move=2\/d.move=3 then
  ((cz b.aj 0 a.aJ (bu a - bu cu) (0 - d.sum)).1,b.due,(dT b.book (cz b.aj 0 a.aJ (bu a - bu cu) (0 - d.sum)).2 (10+a.aJ) 1 d.sum).1,
   (eA b.s0 (dT b.book (cz b.aj 0 a.aJ (bu a - bu cu) (0 - d.sum)).2 (10+a.aJ) 1 d.sum).2 ⟨0,1,d.n,d.sum⟩).1,b.s1,
   (eA b.s0 (dT b.book (cz b.aj 0 a.aJ (bu a - bu cu) (0 - d.sum)).2 (10+a.aJ) 1 d.sum).2 ⟨0,1,d.n,d.sum⟩).2)
 else if d.move=5 then
  (b.aj,b.due.set a.ax.toNat (IntKind.i64.wrap (b.due.getD a.ax.toNat 0 - d.sum)),(dT b.book 0 (50+a.ax) 1 d.sum).1,b.s0,(eA b.s1 (dT b.book 0 (50+a.ax) 1 d.sum).2 ⟨0,2,d.n,d.sum⟩).1,(eA b.s1 (dT b.book 0 (50+a.ax) 1 d.sum).2 ⟨0,2,d.n,d.sum⟩).2)
 else if d.move=6 then ((cz b.aj 0 a.aJ 0 d.sum).1,b.due,(dT b.book (cz b.aj 0 a.aJ 0 d.sum).2 2 (10+a.aJ) d.sum).1,b.s0,b.s1,(dT b.book (cz b.aj 0 a.aJ 0 d.sum).2 2 (10+a.aJ) d.sum).2)
 else if d.move=7 then (b.aj,b.due,b.book,(eA b.s0 0 ⟨0,3,d.n,d.sum⟩).1,b.s1,(eA b.s0 0 ⟨0,3,d.n,d.sum⟩).2)
 else if d.move=8 then ((cz b.aj 0 a.aJ 0 (0 - d.sum)).1,b.due,(dT b.book (cz b.aj 0 a.aJ 0 (0 - d.sum)).2 (10+a.aJ) 2 d.sum).1,b.s0,b.s1,(dT b.book (cz b.aj 0 a.aJ 0 (0 - d.sum)).2 (10+a.aJ) 2 d.sum).2)
 else (b.aj,b.due,b.book,b.s0,b.s1,0)
def kl (b:Bk) (a:bz) (d:aE) (r:List bx×List Int×List Entry×bR×bR×Int):Bk×Answer:=
 dC b { b with aj := r.1, due := r.2.1, book := r.2.2.1, s0 := r.2.2.2.1, s1 := r.2.2.2.2.1, aN := (gE b.aN r.2.2.2.2.2 ⟨a.ax, d.n, d.move, d.sum⟩).1, aq := b.aq.set d.n.toNat a } (gE b.aN r.2.2.2.2.2 ⟨a.ax, d.n, d.move, d.sum⟩).2
def di (b:Bk) (d:aE):Bk×Answer:=
 if b.down=true then (b,⟨12,0⟩)
 else if d.n < 0\/d.n>=b.aq.length then (b,⟨6,0⟩)
 else match b.aq[d.n.toNat]? with
  |none=>(b,⟨0,0⟩)
  |some cu=>
   if (bN cu d.move d.sum).2≠0 then (b,⟨(bN cu d.move d.sum).2,0⟩)
   else if d.move=1/\d.sum > kD b.aj (bN cu d.move d.sum).1.aJ then (b,⟨10,0⟩)
   else kl b (bN cu d.move d.sum).1 d (dH b (bN cu d.move d.sum).1 cu d)
theorem gk {a:bz} (h:0<=a.sum/\a.sum<=1000000/\0<=a.captured/\a.captured<=a.sum/\0<=a.br/\0<=a.bd/\a.br+a.bd<=a.captured/\0<=a.aJ/\a.aJ<=7/\0<=a.ax/\a.ax<=7/\0<=a.cS/\a.cS<=1000100):bC a=0:=by
 unfold bC;rw [if_neg (by omega),if_neg (by omega)]
theorem eX {α:Type} {x b:α} {e:Int} (h:(x,e)=(b,(0:Int))):x=b/\e=0:=Prod.mk.inj h
theorem wz {a b:bz} {k n:Int} (hw:bC a=0) (h1:1<=n) (h2:n<=1000000) (h:dm a k n=(b,0)):bC b=0/\b.aJ=a.aJ/\b.ax=a.ax:=by
 have hr:=eN hw
 unfold dm at h
 by_cases c1:a.shut=true
 ·rw [if_pos c1] at h;have:=(eX h).2;omega
 rw [if_neg c1] at h
 by_cases c2:k=1
 ·rw [if_pos c2] at h
  by_cases c3:n > 1000000 - a.sum
  ·rw [if_pos c3] at h;have:=(eX h).2;omega
  ·rw [if_neg c3] at h;obtain ⟨rfl,_⟩:=eX h
   exact ⟨gk (by dsimp only;omega),rfl,rfl⟩
 rw [if_neg c2] at h
 by_cases c3:n > a.sum - a.captured
 ·rw [if_pos c3] at h;have:=(eX h).2;omega
 rw [if_neg c3] at h
 by_cases c4:k=4
 ·rw [if_pos c4] at h;obtain ⟨rfl,_⟩:=eX h
  exact ⟨gk (by dsimp only;omega),rfl,rfl⟩
 ·rw [if_neg c4] at h;obtain ⟨rfl,_⟩:=eX h
  exact ⟨gk (by dsimp only;omega),rfl,rfl⟩
theorem mq {a b:bz} {k n:Int} (h:bN a k n=(b,0)):bC a=0/\bC b=0/\b.aJ=a.aJ/\b.ax=a.ax/\1<=k/\k<=8/\1<=n/\n<=1000000:=by
 unfold bN at h
 by_cases c0:bC a≠0
 ·rw [if_pos c0] at h;exact absurd (eX h).2 c0
 rw [if_neg c0] at h
 have hw:bC a=0:=by omega
 have hr:=eN hw
 by_cases c1:k < 1\/k > 8
 ·rw [if_pos c1] at h;have:=(eX h).2;omega
 rw [if_neg c1] at h
 by_cases c2:n < 1\/n > 1000000
 ·rw [if_pos c2] at h;have:=(eX h).2;omega
 rw [if_neg c2] at h
 have hb:bC b=0/\b.aJ=a.aJ/\b.ax=a.ax:=by
  by_cases k5:k=5
  ·rw [if_pos k5] at h
   by_cases c:n > a.captured - a.br - a.bd
   ·rw [if_pos c] at h;have:=(eX h).2;omega
   ·rw [if_neg c] at h;obtain ⟨rfl,_⟩:=eX h;exact ⟨gk (by dsimp only;omega),rfl,rfl⟩
  rw [if_neg k5] at h
  by_cases k6:k=6
  ·rw [if_pos k6] at h
   by_cases c:n > a.captured - a.br - a.bd
   ·rw [if_pos c] at h;have:=(eX h).2;omega
   ·rw [if_neg c] at h;obtain ⟨rfl,_⟩:=eX h;exact ⟨gk (by dsimp only;omega),rfl,rfl⟩
  rw [if_neg k6] at h
  by_cases k7:k=7
  ·rw [if_pos k7] at h
   by_cases c:n > a.bd
   ·rw [if_pos c] at h;have:=(eX h).2;omega
   ·rw [if_neg c] at h;obtain ⟨rfl,_⟩:=eX h;exact ⟨gk (by dsimp only;omega),rfl,rfl⟩
  rw [if_neg k7] at h
  by_cases k8:k=8
  ·rw [if_pos k8] at h
   by_cases c:n > a.bd
   ·rw [if_pos c] at h;have:=(eX h).2;omega
   ·rw [if_neg c] at h;obtain ⟨rfl,_⟩:=eX h;exact ⟨gk (by dsimp only;omega),rfl,rfl⟩
  rw [if_neg k8] at h
  by_cases c:(dm a k n).2≠0
  ·rw [if_pos c] at h;exact absurd (eX h).2 c
  ·rw [if_neg c] at h;exact wz hw (by omega) (by omega) h
 exact ⟨hw,hb.1,hb.2.1,hb.2.2,by omega,by omega,by omega,by omega⟩
theorem AX {c:bx} (h:cr c=0):-9223372036854775808<=c.bj - c.held/\c.bj - c.held<=9223372036854775807:=by
 have:=fV h;omega
def gh:List ca->List bx->List bz->List bx×List bz×Int
 |[],cs,xs=>(cs,xs,0)
 |x::l,cs,xs=>
  if (de x.aJ x.ax x.sum x.time).2≠0 then (cs,xs,(de x.aJ x.ax x.sum x.time).2)
  else match cs[x.aJ.toNat]? with
   |none=>(cs,xs,0)
   |some c=>if (eO c x.sum).2≠0 then (cs,xs,(eO c x.sum).2) else gh l (cs.set x.aJ.toNat (eO c x.sum).1) (xs++[(de x.aJ x.ax x.sum x.time).1])
theorem pY {l:List ca} {q:Nat} {x:ca} {cs:List bx} {xs:List bz} (h:l[q]?=some x):gh (l.drop q) cs xs=
  if (de x.aJ x.ax x.sum x.time).2≠0 then (cs,xs,(de x.aJ x.ax x.sum x.time).2)
  else match cs[x.aJ.toNat]? with
   |none=>(cs,xs,0)
   |some c=>if (eO c x.sum).2≠0 then (cs,xs,(eO c x.sum).2) else gh (l.drop (q+1)) (cs.set x.aJ.toNat (eO c x.sum).1) (xs++[(de x.aJ x.ax x.sum x.time).1]):=by
 obtain ⟨hq,rfl⟩:=List.getElem?_eq_some_iff.1 h
 rw [List.drop_eq_getElem_cons hq];rfl
def jc (b:Bk):Bk×Answer:=
 if b.down=false then (b,⟨8,0⟩)
 else if (cW b.bH).2.2≠0 then (b,⟨(cW b.bH).2.2,0⟩)
 else if (gh (cW b.bH).2.1 b.aj b.aq).2.2≠0 then (b,⟨(gh (cW b.bH).2.1 b.aj b.aq).2.2,0⟩)
 else (gS {b with aj:=(gh (cW b.bH).2.1 b.aj b.aq).1,aq:=(gh (cW b.bH).2.1 b.aj b.aq).2.1,bH:=(cW b.bH).1,down:=false},⟨0,0⟩)
def fa (b:Bk) (d:aE):Bk×Answer:=
 match b.w0[0]? with
 |none=>(b,⟨6,0⟩)
 |some p=>
  if d.kind=7 then ({b with w0:=b.w0.drop 1},⟨0,0⟩)
  else if p.seen>=0 then (if (dO b.s0 p.seen).2=0 then ({b with w0:=b.w0.drop 1,s0:=(dO b.s0 p.seen).1},⟨0,0⟩) else (b,⟨(dO b.s0 p.seen).2,0⟩))
  else if (fr b.n0 p.ct).2=true then
   dC b { b with w0 := b.w0.drop 1, n0 := (fr b.n0 p.ct).1, due := (dY b.aq b.due b.aj b.book 0 p.ct).1, aj := (dY b.aq b.due b.aj b.book 0 p.ct).2.1, book := (dY b.aq b.due b.aj b.book 0 p.ct).2.2.1 } (dY b.aq b.due b.aj b.book 0 p.ct).2.2.2
  else ({b with w0:=b.w0.drop 1,n0:=(fr b.n0 p.ct).1},⟨0,0⟩)
def eZ (b:Bk) (d:aE):Bk×Answer:=
 match b.w1[0]? with
 |none=>(b,⟨6,0⟩)
 |some p=>
  if d.kind=7 then ({b with w1:=b.w1.drop 1},⟨0,0⟩)
  else if p.seen>=0 then (if (dO b.s1 p.seen).2=0 then ({b with w1:=b.w1.drop 1,s1:=(dO b.s1 p.seen).1},⟨0,0⟩) else (b,⟨(dO b.s1 p.seen).2,0⟩))
  else if (fr b.n1 p.ct).2=true then
   dC b { b with w1 := b.w1.drop 1, n1 := (fr b.n1 p.ct).1, due := (dY b.aq b.due b.aj b.book 0 p.ct).1, aj := (dY b.aq b.due b.aj b.book 0 p.ct).2.1, book := (dY b.aq b.due b.aj b.book 0 p.ct).2.2.1 } (dY b.aq b.due b.aj b.book 0 p.ct).2.2.2
  else ({b with w1:=b.w1.drop 1,n1:=(fr b.n1 p.ct).1},⟨0,0⟩)
def bS (b:Bk) (d:aE):Bk×Answer:=if d.n=0 then fa b d else if d.n=1 then eZ b d else (b,⟨6,0⟩)
def cY (b:Bk) (days:List (List Int)) (d:aE):Bk×List (List Int)×Answer:=
 if d.kind=1 then ((fB b d).1,days,(fB b d).2)
 else if d.kind=2 then ((dJ b d).1,days,(dJ b d).2)
 else if d.kind=3 then ((di b d).1,days,(di b d).2)
 else if d.kind=4 then ((fm b d).1,days,(fm b d).2)
 else if d.kind=5 then ({b with w0:=(ez b.s0 b.s1 b.n0 b.n1 b.w0 b.w1 d).1,w1:=(ez b.s0 b.s1 b.n0 b.n1 b.w0 b.w1 d).2.1},days,(ez b.s0 b.s1 b.n0 b.n1 b.w0 b.w1 d).2.2)
 else if d.kind=6\/d.kind=7 then ((bS b d).1,days,(bS b d).2)
 else if d.kind=8 then (if b.down=true then (b,days,⟨8,0⟩) else ({b with down:=true},days,⟨0,0⟩))
 else if d.kind=9 then ((jc b).1,days,(jc b).2)
 else if d.kind=10 then ({b with aN:=(iP b.aN days).1},(iP b.aN days).2.1,(iP b.aN days).2.2)
 else if d.kind=11 then ((gX b d).1,days,(gX b d).2)
 else (b,days,⟨1,0⟩)
def fH (b:Bk) (days:List (List Int)) (told:List (Int×Answer)) (cl:Nat) (d:aE):Bk×List (List Int)×List (Int×Answer)×Nat×Answer:=
 if (iD told d.id).isSome=true/\d.id≠0 then (b,days,told,cl,(iD told d.id).getD ⟨0,0⟩)
 else ((cY b days d).1,(cY b days d).2.1,oa told d.id (cY b days d).2.2,if (iD told d.id).isSome then cl else cl+1,(cY b days d).2.2)
structure Setup where (dd:List cO) (ix cap:Int)
 deriving DecidableEq
def ox:List cO->Int->cP
 |[],_=>⟨0,0⟩
 |p::l,i=>if fi p≠0 then ⟨fi p,i⟩ else ox l (i+1)
theorem tf {l:List cO} {q:Nat} {p:cO} (h:l[q]?=some p):ox (l.drop q) q=if fi p≠0 then ⟨fi p,q⟩ else ox (l.drop (q+1)) ((q+1:Nat):Int):=by
 obtain ⟨hq,rfl⟩:=List.getElem?_eq_some_iff.1 h
 rw [List.drop_eq_getElem_cons hq];rfl
def ey (s:Setup):cP:=
 if s.dd.length > 8\/s.ix < 0\/s.ix > 8 then ⟨5,0⟩ else if s.cap < 0\/s.cap > 1000000 then ⟨3,0⟩ else ox s.dd 0
def DX:Bk:=⟨0,false,[],[],[],⟨0,[]⟩,⟨0,[]⟩,0,0,[],[],⟨0,[],[]⟩,[],[]⟩
def pk (p:cO):bx:=⟨0,0,p,[]⟩
def ik (s:Setup):Bk:=⟨0,false,s.dd.map pk,List.replicate s.ix.toNat 0,[],⟨0,[]⟩,⟨0,[]⟩,0,0,[],[],(dx s.cap s.dd.length).1,[],[]⟩
def kh:List aE->Bk->List (List Int)->List (Int×Answer)->Nat->List Answer->Bk×List (List Int)×List Answer
 |[],b,days,_,_,out=>(b,days,out)
 |d::l,b,days,told,cl,out=>kh l (fH b days told cl d).1 (fH b days told cl d).2.1 (fH b days told cl d).2.2.1 (fH b days told cl d).2.2.2.1 (out++[(fH b days told cl d).2.2.2.2])
theorem yh {l:List aE} {q:Nat} {d:aE} {b:Bk} {days:List (List Int)} {told:List (Int×Answer)} {cl:Nat} {out:List Answer} (h:l[q]?=some d):
  kh (l.drop q) b days told cl out=kh (l.drop (q+1)) (fH b days told cl d).1 (fH b days told cl d).2.1 (fH b days told cl d).2.2.1 (fH b days told cl d).2.2.2.1 (out++[(fH b days told cl d).2.2.2.2]):=by
 obtain ⟨hq,rfl⟩:=List.getElem?_eq_some_iff.1 h
 rw [List.drop_eq_getElem_cons hq];rfl
def gq (s:Setup) (l:List aE):Bk×List (List Int)×List Answer×cP:=
 if (ey s).err≠0 then (DX,[],[],ey s) else if l.length > 150 then (DX,[],[],⟨5,0⟩)
 else ((kh l (ik s) [] [] 0 []).1,(kh l (ik s) [] [] 0 []).2.1,(kh l (ik s) [] [] 0 []).2.2,⟨0,0⟩)
theorem yn {time:Int} {l:List bz} {q:Nat} {a:bz} {aj:List bx} {aq:List bz} {e:Int} (h:l[q]?=some a):fI time (l.drop q) q aj aq e=
  fI time (l.drop (q+1)) (q+1) (cz aj e a.aJ (bu (ei a time) - bu a) 0).1 (aq.set q (ei a time)) (cz aj e a.aJ (bu (ei a time) - bu a) 0).2:=by
 obtain ⟨hq,rfl⟩:=List.getElem?_eq_some_iff.1 h
 rw [List.drop_eq_getElem_cons hq];rfl
theorem ff (l:List bx) (e k held bj:Int):(cz l e k held bj).1.length=l.length:=by
 unfold cz
 split
 ·rfl
 ·split<;>simp
theorem xz {a:bz} {t:Int} (h:bC a=0):bC (ei a t)=0:=by
 unfold bC at h ⊢;unfold ei;exact h
theorem oE {a:bz} (h:bC a=0):0<=bu a/\bu a<=1000000:=by
 have:=eN h
 unfold bu;split<;>omega
structure cm (b:Bk):Prop where
 time:0<=b.time/\b.time<=1000000
 aj:b.aj.length<=8
 due:b.due.length<=8
 aq:b.aq.length+b.bH.aX.length<=30
 aN:b.aN.length<=100
 w0:b.w0.length<=60
 w1:b.w1.length<=60
 perm:∀ a∈b.aq,bC a=0/\0<=a.aJ/\a.aJ < b.aj.length/\0<=a.ax/\a.ax < b.due.length
 jv:∀ a∈b.bH.aX,0<=a.aJ/\a.aJ < b.aj.length/\0<=a.ax/\a.ax < b.due.length
 k0:∀ t∈b.s0.kept,fG t.number/\0<=t.ba/\t.ba < b.aq.length
 k1:∀ t∈b.s1.kept,fG t.number/\0<=t.ba/\t.ba < b.aq.length
 right:∀ c∈b.aj,cr c=0
 l0:b.s0.kept.length<=40
 l1:b.s1.kept.length<=40
 p0:∀ p∈b.w0,p.seen < 0->fG p.ct.number/\0<=p.ct.ba/\p.ct.ba < b.aq.length
 p1:∀ p∈b.w1,p.seen < 0->fG p.ct.number/\0<=p.ct.ba/\p.ct.ba < b.aq.length
 n0:0<=b.n0
 n1:0<=b.n1
 calm:b.down=false->b.bH.aX=[]
theorem cm.tick {b:Bk} (h:cm b) {t:Int} (h0:0<=t) (h1:t<=1000000):cm {b with time:=t}:=
 ⟨⟨h0,h1⟩,h.aj,h.due,h.aq,h.aN,h.w0,h.w1,h.perm,h.jv,h.k0,h.k1,h.right,h.l0,h.l1,h.p0,h.p1,h.n0,h.n1,h.calm⟩

def aS (b:Bk) (i j k m:Nat) (u v:CV):List CV:=[(cI b.time),(cB b.down),(.s i 0 6 b.aj.length),(.s j 0 1 b.due.length),(.s k 0 8 b.aq.length),(cI b.s0.bE),(dc b.s0.kept),(cI b.s1.bE),(dc b.s1.kept),(cI b.n0),(cI b.n1),(ed b.w0),(ed b.w1),(cI b.bH.cap),(fC b.bH.used),(gz b.bH.aX),(.s m 0 4 b.aN.length),u,(dM b.book),v]
def aZ (x:Nat->Value):List CV:=[.d (.v (x 0)),.d (.v (x 1)),.d (.v (x 2)),.d (.v (x 3)),.d (.v (x 4)),.d (.v (x 5)),.d (.v (x 6)),.d (.v (x 7)),.d (.v (x 8)),.d (.v (x 9)),.d (.v (x 10)),.d (.v (x 11)),.d (.v (x 12)),.d (.v (x 13)),.d (.v (x 14)),.d (.v (x 15)),.d (.v (x 16)),.d (.v (x 17)),.d (.v (x 18)),.d (.v (x 19))]
def dw:List (Option CV):=[none,none,none,none,none,none,none,none,none,none,none,none,none,none,none,none,none,none,none,none]
def iY (b:Bk) (i j k m:Nat) (u v:Option CV):List (Option CV):=[some (cI b.time),some (cB b.down),some (.s i 0 6 b.aj.length),some (.s j 0 1 b.due.length),some (.s k 0 8 b.aq.length),some (cI b.s0.bE),some (dc b.s0.kept),some (cI b.s1.bE),some (dc b.s1.kept),some (cI b.n0),some (cI b.n1),some (ed b.w0),some (ed b.w1),some (cI b.bH.cap),some (fC b.bH.used),some (gz b.bH.aX),some (.s m 0 4 b.aN.length),u,some (dM b.book),v]


theorem vN (a b c:Int):Fn Try.prog 44 [(.g [(cI a),(cI b),(cI c)])] (aI (kp a b c)) []:=by
 refine Fn.mk' 31 [(0,(aG [(cI a),(cI b),(cI c)]))] Try.func44 rfl rfl rfl rfl ?_
 intro W0 T0
 refine ad aa 2 rfl ?_
 refine af ?_
 refine cq 30 ((((((decide (a < 1))||(decide (a > 1000000)))||(decide (b < 0)))||(decide (b > 30)))||(decide (c < 0)))||(decide (c > 1000000000000))) ?_ ?_
 ·
  refine aw ?_
  refine ab aa 4 rfl ?_
  refine bA (t:=6) rfl (fun hb1=>?_) (fun hb1=>?_)
  ·
   have hb1':=of_decide_eq_true hb1
   refine ab aa 24 rfl ?_
   refine ae ?_
   exact aD.bG 29 rfl rfl (by first|(simp [hb1];done)|(simp_all;done)|(exfalso;simp_all;done)|(simp_all;omega)) rfl
  have hb1':=of_decide_eq_false hb1
  refine ab aa 5 rfl ?_
  refine bA (t:=11) rfl (fun hb2=>?_) (fun hb2=>?_)
  ·
   have hb2':=of_decide_eq_true hb2
   refine ab aa 19 rfl ?_
   refine ae ?_
   exact aD.bG 30 rfl rfl (by first|(simp [hb1,hb2];done)|(simp_all;done)|(exfalso;simp_all;done)|(simp_all;omega)) rfl
  have hb2':=of_decide_eq_false hb2
  refine ab aa 5 rfl ?_
  refine bA (t:=16) rfl (fun hb3=>?_) (fun hb3=>?_)
  ·
   have hb3':=of_decide_eq_true hb3
   refine ab aa 14 rfl ?_
   refine ae ?_
   exact aD.bG 31 rfl rfl (by first|(simp [hb1,hb2,hb3];done)|(simp_all;done)|(exfalso;simp_all;done)|(simp_all;omega)) rfl
  have hb3':=of_decide_eq_false hb3
  refine ab aa 5 rfl ?_
  refine bA (t:=21) rfl (fun hb4=>?_) (fun hb4=>?_)
  ·
   have hb4':=of_decide_eq_true hb4
   refine ab aa 9 rfl ?_
   refine ae ?_
   exact aD.bG 32 rfl rfl (by first|(simp [hb1,hb2,hb3,hb4];done)|(simp_all;done)|(exfalso;simp_all;done)|(simp_all;omega)) rfl
  have hb4':=of_decide_eq_false hb4
  refine ab aa 5 rfl ?_
  refine bA (t:=26) rfl (fun hb5=>?_) (fun hb5=>?_)
  ·
   have hb5':=of_decide_eq_true hb5
   refine ab aa 4 rfl ?_
   refine ae ?_
   exact aD.bG 33 rfl rfl (by first|(simp [hb1,hb2,hb3,hb4,hb5];done)|(simp_all;done)|(exfalso;simp_all;done)|(simp_all;omega)) rfl
  have hb5':=of_decide_eq_false hb5
  refine ab aa 4 rfl ?_
  refine ae ?_
  exact aD.bG 33 rfl rfl (by first|(simp [hb1,hb2,hb3,hb4,hb5];done)|(simp_all;done)|(exfalso;simp_all;done)|(simp_all;omega)) rfl
 refine ag rfl (fun hc6=>?_) (fun hc6=>?_)
 ·
  have hc6':=hc6;try simp only [bm,bM] at hc6'
  refine ad aa 1 rfl ?_
  refine ar ?_
  refine ao ?_
  refine ah aa [] 0 rfl rfl rfl rfl rfl rfl ?_ ?_
  ·(show aI _=aI _;unfold kp;rw [if_pos (by omega)])
  ·rfl
 have hc6':=hc6;try simp only [bm,bM] at hc6'
 refine aP ?_
 refine ad aa 1 rfl ?_
 refine ar ?_
 refine ah aa [] 0 rfl rfl rfl rfl rfl rfl ?_ ?_
 ·(show aI _=aI _;unfold kp;rw [if_neg (by omega)])
 ·rfl

theorem wL (l:List cX):Fn Try.prog 45 [(.c (fq l))] (aG [cI (cD l).1,cI (cD l).2]) []:=by
 refine Fn.mk' 53 [(0,(aC (fq l)))] Try.func45 rfl rfl rfl rfl ?_
 intro W0 T0
 refine dG 0 rfl (fun hlen0=>?_)
 refine ad aa 1 rfl ?_
 refine af ?_
 refine az aa 1 rfl ?_
 refine ay (cT rfl rfl rfl rfl rfl Try.underlying59) rfl ?_
 refine ab aa 1 rfl ?_
 refine ae ?_
 refine ag rfl (fun hc1=>?_) (fun hc1=>?_)
 ·
  have hc1':=of_decide_eq_true hc1
  refine ad aa 2 rfl ?_
  refine ar ?_
  refine ao ?_
  refine ah aa [0] 0 rfl rfl rfl rfl rfl rfl ?_ ?_
  ·(have h:cD l=(5,0):=by (unfold cD;rw [if_pos (by omega)]));rw [h];rfl
  ·rfl
 have hc1':=of_decide_eq_false hc1
 refine aP ?_
 refine af ?_
 refine az aa 1 rfl ?_
 refine ay (cT rfl rfl rfl rfl rfl Try.underlying59) rfl ?_
 refine ab aa 1 rfl ?_
 refine ae ?_
 refine aV ?_
 refine cx (β:=Nat) (fun (q:Nat)=>⟨[(0,(aC (fq l))),(2,(aC (.p 0 0 0 0))),(9,(aC (fq l))),(10,(aI (↑l.length:Int))),(11,(aI (↑q:Int)))],[(0,(.box 50 [(cI 0),(cI 0)]))],1⟩) (fun (q:Nat)=>q<=l.length/\scan (iZ l) 0 l.length=scan (iZ l) q (l.length - q)) (fun (q:Nat)=>l.length - q) 0 ?_ ?_ ?_
 ·exact ⟨by omega,rfl⟩
 ·exact aD.bY id (by refine ⟨?_,?_,?_,?_,?_,trivial⟩<;>first|rfl|(simp only [bn];done)|(congr 3;omega)|(congr 4;omega)|(simp only [bo];rfl)) (⟨by first|rfl|(simp only [bn];done)|(congr 3;omega)|(congr 4;omega)|(simp only [bo];rfl),trivial⟩) rfl
 rintro q ⟨hi0_0,hi0_1⟩
 refine ad aa 1 rfl ?_
 refine af ?_
 refine ag rfl (fun hc2=>?_) (fun hc2=>?_)
 ·
  have hc2':=of_decide_eq_true hc2
  refine aP ?_
  refine af ?_
  refine aV ?_
  refine az aa 1 rfl ?_
  obtain ⟨x1,hx1⟩:=ch (xs:=l) (i:=q) (by first|omega|(simp;done)|(simp;omega))
  refine ay (cQ (i:=q) rfl rfl rfl Try.underlying59 iw (by first|omega|(simp;done)|(simp;omega)) (bw hx1)) rfl ?_
  refine ab aa 4 rfl ?_
  refine ae ?_
  refine af ?_
  refine cq 33 ((((decide (x1.time < 0))||(decide (x1.time > 1000000)))||(decide (x1.sum < 0)))||(decide (x1.sum > 1000000))) ?_ ?_
  ·
   refine aw ?_
   refine ab aa 4 rfl ?_
   refine bA (t:=19) rfl (fun hb3=>?_) (fun hb3=>?_)
   ·
    have hb3':=of_decide_eq_true hb3
    refine ab aa 14 rfl ?_
    refine ae ?_
    exact aD.bG 19 rfl rfl (by first|(simp [hb3];done)|(simp_all;done)|(exfalso;simp_all;done)|(simp_all;omega)) rfl
   have hb3':=of_decide_eq_false hb3
   refine ab aa 5 rfl ?_
   refine bA (t:=24) rfl (fun hb4=>?_) (fun hb4=>?_)
   ·
    have hb4':=of_decide_eq_true hb4
    refine ab aa 9 rfl ?_
    refine ae ?_
    exact aD.bG 20 rfl rfl (by first|(simp [hb3,hb4];done)|(simp_all;done)|(exfalso;simp_all;done)|(simp_all;omega)) rfl
   have hb4':=of_decide_eq_false hb4
   refine ab aa 5 rfl ?_
   refine bA (t:=29) rfl (fun hb5=>?_) (fun hb5=>?_)
   ·
    have hb5':=of_decide_eq_true hb5
    refine ab aa 4 rfl ?_
    refine ae ?_
    exact aD.bG 21 rfl rfl (by first|(simp [hb3,hb4,hb5];done)|(simp_all;done)|(exfalso;simp_all;done)|(simp_all;omega)) rfl
   have hb5':=of_decide_eq_false hb5
   refine ab aa 4 rfl ?_
   refine ae ?_
   exact aD.bG 21 rfl rfl (by first|(simp [hb3,hb4,hb5];done)|(simp_all;done)|(exfalso;simp_all;done)|(simp_all;omega)) rfl
  refine ag rfl (fun hc6=>?_) (fun hc6=>?_)
  ·
   have hc6':=hc6;try simp only [bm,bM] at hc6'
   refine ad aa 3 rfl ?_
   refine ar ?_
   refine ao ?_
   refine bg ?_
   refine ao ?_
   refine ao ?_
   refine bg ?_
   refine ao ?_
   refine ah aa [0] 0 rfl rfl rfl rfl rfl rfl ?_ ?_
   ·(have h:cD l=(3,(q:Int)):=by (unfold cD;rw [if_neg (by omega),hi0_1];exact ia (by omega) (show iZ l q=3 by (unfold iZ;simp only [hx1];rw [if_pos (by omega)])) (by decide)));rw [h];rfl
   ·rfl
  have hc6':=hc6;try simp only [bm,bM] at hc6'
  refine aP ?_
  refine af ?_
  rcases Bool.eq_false_or_eq_true (decide ((↑q:Int) > 0)) with hb7|hb7
  ·
   have hb7':=of_decide_eq_true hb7
   obtain ⟨x2,hx2⟩:=ch (xs:=l) (i:=(q) - 1) (by first|omega|(simp;done)|(simp;omega))
   refine bb [0,2,9,10,11,4,3] [1,0] mixed rfl rfl ?_
   refine aA (kn:=[(37,true)]) aa 5 rfl ⟨hb7,trivial⟩ ?_
   refine aT (n':=2) [40,38] [] rfl rfl (.inl ⟨(ak.yes rfl rfl rfl),aK.cast (aM rfl rfl rfl (aH (by first|omega|(simp;done)|(simp;omega)))) rfl⟩) rfl ?_
   refine aT (n':=2) [39,41,38] [] rfl rfl (.inl ⟨(ak.yes rfl rfl rfl),aK.cast (cQ (i:=(q) - 1) rfl rfl rfl Try.underlying59 iw (by first|omega|(simp;done)|(simp;omega)) (bw hx2)) rfl⟩) rfl ?_
   refine aA (kn:=[]) aa 6 rfl trivial ?_
   refine bB [1,0] rfl rfl rfl rfl (by kernel_rfl) ?_
   refine ae ?_
   refine ag rfl (fun hc8=>?_) (fun hc8=>?_)
   ·
    have hc8':=of_decide_eq_true hc8
    refine ad aa 3 rfl ?_
    refine ar ?_
    refine bg ?_
    refine ao ?_
    refine ao ?_
    refine bg ?_
    refine ao ?_
    refine ah aa [0] 0 rfl rfl rfl rfl rfl rfl ?_ ?_
    ·(have h:cD l=(2,(q:Int)):=by (unfold cD;rw [if_neg (by omega),hi0_1];exact ia (by omega) (show iZ l q=2 by (unfold iZ;simp only [hx1];rw [if_neg (by omega),if_pos (by refine ⟨by omega,?_⟩;rw [List.getD_eq_getElem?_getD,hx2];simp only [Option.getD_some];omega)])) (by decide)));rw [h];rfl
    ·rfl
   have hc8':=of_decide_eq_false hc8
   refine cU ?_
   refine bp ?_
   refine then_ok ?_
   refine aw ?_
   refine ay (aM rfl rfl rfl (aH (by first|omega|(simp;done)|(simp;omega)))) rfl ?_
   refine ab aa 1 rfl ?_
   refine ae ?_
   refine ⟨q+1,⟨by omega,by rw [hi0_1];exact mB (by omega) (by unfold iZ;simp only [hx1];rw [if_neg (by omega),if_neg (by first|omega|(rw [List.getD_eq_getElem?_getD,hx2];simp only [Option.getD_some];omega))])⟩,by first|omega|(simp;done)|(simp;omega),aD.bY id (by refine ⟨?_,?_,?_,?_,?_,trivial⟩<;>first|rfl|(simp only [bn];done)|(congr 3;omega)|(congr 4;omega)|(simp only [bo];rfl)) (⟨by first|rfl|(simp only [bn];done)|(congr 3;omega)|(congr 4;omega)|(simp only [bo];rfl),trivial⟩) rfl⟩
  have hb7':=of_decide_eq_false hb7
  refine bb [0,2,9,10,11,4,3] [1,0] mixed rfl rfl ?_
  refine aA (kn:=[(37,false)]) aa 13 rfl ⟨hb7,trivial⟩ ?_
  refine bB [1,0] rfl rfl rfl rfl (by kernel_rfl) ?_
  refine ae ?_
  refine ag rfl (fun hno=>by cases hno) (fun _=>?_)
  refine cU ?_
  refine bp ?_
  refine then_ok ?_
  refine aw ?_
  refine ay (aM rfl rfl rfl (aH (by first|omega|(simp;done)|(simp;omega)))) rfl ?_
  refine ab aa 1 rfl ?_
  refine ae ?_
  refine ⟨q+1,⟨by omega,by rw [hi0_1];exact mB (by omega) (by unfold iZ;simp only [hx1];rw [if_neg (by omega),if_neg (by first|omega|(rw [List.getD_eq_getElem?_getD,hx2];simp only [Option.getD_some];omega))])⟩,by first|omega|(simp;done)|(simp;omega),aD.bY id (by refine ⟨?_,?_,?_,?_,?_,trivial⟩<;>first|rfl|(simp only [bn];done)|(congr 3;omega)|(congr 4;omega)|(simp only [bo];rfl)) (⟨by first|rfl|(simp only [bn];done)|(congr 3;omega)|(congr 4;omega)|(simp only [bo];rfl),trivial⟩) rfl⟩
 have hc2':=of_decide_eq_false hc2
 refine cp ?_
 refine aR ?_
 refine aR ?_
 refine bQ ?_
 refine then_ok ?_
 refine ad aa 2 rfl ?_
 refine ar ?_
 refine ah aa [0] 0 rfl rfl rfl rfl rfl rfl ?_ ?_
 ·(have h:cD l=(0,0):=by (unfold cD;rw [if_neg (by omega),hi0_1,na (by omega)]));rw [h];rfl
 ·rfl

theorem wU (l:List cX) (fn:FuncId) (bc:List (List D)) (pr:cX->Bool) (hp:∀ x:cX,Fn Try.prog fn ([.g [cI x.time,cI x.sum]]++bc.map fun r=>GV.c (.q r 0)) (aB (pr x)) []) (hen:bf Try.prog fn) (r:Int) (hr:gO pr l=r):Fn Try.prog 123 [(.c (fq l)),(.c (.d (.f fn bc)))] (.v (.c (cI r))) []:=by
 refine Fn.mk' 19 [(0,(aC (fq l))),(1,(aC (.d (.f fn bc))))] Try.func123 rfl rfl rfl rfl ?_
 intro W0 T0
 refine dG 0 rfl (fun hlen0=>?_)
 refine ad aa 1 rfl ?_
 refine af ?_
 refine az aa 1 rfl ?_
 refine ay (cT rfl rfl rfl rfl rfl Try.underlying59) rfl ?_
 refine ab aa 1 rfl ?_
 refine ae ?_
 refine aV ?_
 refine cx (β:=Nat) (fun (q:Nat)=>⟨[(0,(aC (fq l))),(1,(aC (.d (.f fn bc)))),(7,(aI (↑l.length:Int))),(8,(aI (↑q:Int)))],[],0⟩) (fun (q:Nat)=>q<=l.length/\(l.take q).all (fun y=>!pr y)=true) (fun (q:Nat)=>l.length - q) 0 ?_ ?_ ?_
 ·exact ⟨by omega,by simp⟩
 ·exact aD.bY id (by refine ⟨?_,?_,?_,?_,trivial⟩<;>first|rfl|(simp only [bn];done)|(congr 3;omega)|(congr 4;omega)|(simp only [bo];rfl)) (trivial) rfl
 rintro q ⟨hi0_0,hi0_1⟩
 refine ad aa 1 rfl ?_
 refine af ?_
 refine ag rfl (fun hc1=>?_) (fun hc1=>?_)
 ·
  have hc1':=of_decide_eq_true hc1
  refine aP ?_
  refine af ?_
  refine aV ?_
  refine ad aa 2 rfl ?_
  refine az aa 3 rfl ?_
  obtain ⟨x1,hx1⟩:=ch (xs:=l) (i:=q) (by first|omega|(simp;done)|(simp;omega))
  refine ay (cQ (i:=q) rfl rfl rfl Try.underlying59 iw (by first|omega|(simp;done)|(simp;omega)) (bw hx1)) rfl ?_
  refine ab aa 1 rfl ?_
  refine ay (hG 0 (hp x1) hen rfl rfl rfl ⟨⟨_,rfl,.g ⟨.d _,.d _,trivial⟩⟩,trivial⟩ trivial trivial rfl rfl rfl rfl) rfl ?_
  refine ae ?_
  refine ag rfl (fun hc2=>?_) (fun hc2=>?_)
  ·
   have hc2':=hc2;try simp only [bm,bM] at hc2'
   refine ad aa 2 rfl ?_
   refine ar ?_
   refine bg ?_
   refine ao ?_
   refine ao ?_
   refine bg ?_
   refine ao ?_
   have hX:gO pr l=(↑q:Int):=by
     exact tz hi0_1 hx1 hc2
   rw [hX] at hr;clear hX
   subst hr
   refine ah aa [] 0 rfl rfl rfl rfl rfl rfl ?_ ?_
   all_goals first|rfl|(simp [au];done)|(simp [au];omega)
  have hc2':=hc2;try simp only [bm,bM] at hc2'
  refine cU ?_
  refine bp ?_
  refine then_ok ?_
  refine aw ?_
  refine ay (aM rfl rfl rfl (aH (by first|omega|(simp;done)|(simp;omega)))) rfl ?_
  refine ab aa 1 rfl ?_
  refine ae ?_
  refine ⟨q+1,⟨by omega,wg hi0_1 hx1 hc2⟩,by first|omega|(simp;done)|(simp;omega),aD.bY id (by refine ⟨?_,?_,?_,?_,trivial⟩<;>first|rfl|(simp only [bn];done)|(congr 3;omega)|(congr 4;omega)|(simp only [bo];rfl)) (trivial) rfl⟩
 have hc1':=of_decide_eq_false hc1
 refine cp ?_
 refine aR ?_
 refine aR ?_
 refine bQ ?_
 refine then_ok ?_
 refine ad aa 1 rfl ?_
 refine ar ?_
 have hX:gO pr l=(-1):=by
   exact vp (by rw [<-List.take_of_length_le (l:=l) (i:=q) (by omega)];exact hi0_1)
 rw [hX] at hr;clear hX
 subst hr
 refine ah aa [] 0 rfl rfl rfl rfl rfl rfl ?_ ?_
 all_goals first|rfl|(simp [au];done)|(simp [au];omega)
theorem vX (l:List cX) (fn:FuncId) (bc:List (List D)) (pr:cX->Bool) (hp:∀ x:cX,Fn Try.prog fn ([.g [cI x.time,cI x.sum]]++bc.map fun r=>GV.c (.q r 0)) (aB (pr x)) []) (hen:bf Try.prog fn) (r:List cX) (hr:du pr l=r):cA Try.prog 117 [(.c (.s 0 0 2 l.length)),(.c (.d (.f fn bc)))] [(0,(oT l))] [] (.v (.c (.s 0 0 2 r.length))) [(0,(oT r))]:=by
 refine cA.mk 42 [(0,(aC (.s 0 0 2 l.length))),(1,(aC (.d (.f fn bc))))] 1 Try.func117 rfl rfl rfl rfl rfl rfl rfl rfl rfl ?_
 intro W0 F0 T0 pg
 refine fQ 0 rfl (fun hlen0=>?_)
 have hic:=tC pr l
 have hib:gO pr l<=l.length/\-1<=gO pr l:=by rcases hic with ⟨h,_⟩|⟨i,h,h1,_⟩<;>omega
 refine ad aa 1 rfl ?_
 refine az aa 2 rfl ?_
 obtain ⟨r0,hr0⟩:∃ (r0:Int),gO pr l=r0:=⟨_,rfl⟩
 refine aL 1 [0] (fP 1 [0] (wU l fn bc pr hp hen r0 hr0) FJ rfl rfl ⟨⟨_,rfl,.c (.s rfl (by decide) (by first|omega|(simp;done)|(simp;omega)))⟩,⟨_,rfl,.c (.d _)⟩,trivial⟩ rfl trivial rfl rfl rfl rfl) rfl ?_
 refine ab aa 1 rfl ?_
 refine ae ?_
 refine af ?_
 refine ad aa 2 rfl ?_
 refine ag rfl (fun hc1=>?_) (fun hc1=>?_)
 ·
  have hc1':=of_decide_eq_true hc1
  refine ad aa 2 rfl ?_
  refine ar ?_
  refine ao ?_
  have hX:du pr l=l:=by
    rcases hic with ⟨_,h⟩|⟨i0,h,_⟩
    ·exact h
    ·exfalso;omega
  rw [hX] at hr;clear hX
  subst hr
  refine ah aa [0] 1 rfl rfl rfl rfl rfl rfl ?_ ?_
  all_goals first|rfl|(simp [au];done)|(simp [au];omega)
 have hc1':=of_decide_eq_false hc1
 refine aP ?_
 refine af ?_
 refine az aa 1 rfl ?_
 refine ay (aM rfl rfl rfl (aH (by first|omega|(simp;done)|(simp;omega)))) rfl ?_
 refine ab aa 1 rfl ?_
 refine ae ?_
 refine aV ?_
 obtain ⟨i0,hi0,hil,x0,hx0,hp0,hk0⟩:∃ i:Nat,gO pr l=i/\i < l.length/\∃ x,l[i]?=some x/\pr x=true/\du pr (l.take i)=l.take i:=by
     rcases hic with ⟨h,_⟩|h
     ·exfalso;omega
     ·exact h
 obtain rfl:r0=(i0:Int):=by omega
 refine cx (β:=Nat×Nat×List cX) (fun (p:Nat×Nat×List cX)=>match p with|(j,i,c)=>⟨[(0,(aC (.s 0 0 2 l.length))),(1,(aC (.d (.f fn bc)))),(4,(aC cN)),(5,(aI (↑i:Int))),(6,(aI (↑j:Int)))],[(0,(oT c))],1⟩) (fun (p:Nat×Nat×List cX)=>match p with|(j,i,c)=>kR pr l c i j) (fun (p:Nat×Nat×List cX)=>match p with|(j,i,c)=>l.length - j) (i0+1,i0,l) ?_ ?_ ?_
 ·exact kR.start hx0 hp0 hk0
 ·exact aD.bY id (by refine ⟨?_,?_,?_,?_,?_,trivial⟩<;>first|rfl|(simp only [bn];done)|(congr 3;omega)|(congr 4;omega)|(simp only [bo];rfl)) (⟨by first|rfl|(simp only [bn];done)|(congr 3;omega)|(congr 4;omega)|(simp only [bo];rfl),trivial⟩) rfl
 rintro ⟨j,i,c⟩ hd
 have hdl:=hd.len;have hdi:=hd.ij;have hdj:=hd.jl
 refine af ?_
 refine az aa 2 rfl ?_
 refine ay (dr rfl rfl rfl rfl rfl Try.underlying59) rfl ?_
 refine ab aa 1 rfl ?_
 refine ae ?_
 refine ag rfl (fun hc2=>?_) (fun hc2=>?_)
 ·
  have hc2':=of_decide_eq_true hc2
  refine aP ?_
  refine af ?_
  refine aV ?_
  refine az aa 2 rfl ?_
  refine ay (bq (i:=j) rfl rfl rfl Try.underlying59 iw (by first|omega|(simp;done)|(simp;omega)) (by first|omega|(simp;done)|(simp;omega))) rfl ?_
  obtain ⟨x1,hx1⟩:=ch (xs:=c) (i:=j) (by first|omega|(simp;done)|(simp;omega))
  refine ay (dg rfl rfl rfl Try.underlying125 rfl iw (bw hx1) rfl) rfl ?_
  refine ab aa 2 rfl ?_
  refine ae ?_
  refine az aa 2 rfl ?_
  refine ay (hG 2 (hp x1) hen rfl rfl rfl ⟨⟨_,rfl,.g ⟨.d _,.d _,trivial⟩⟩,trivial⟩ trivial trivial rfl rfl rfl rfl) rfl ?_
  refine ab aa 1 rfl ?_
  refine ae ?_
  refine ag rfl (fun hc3=>?_) (fun hc3=>?_)
  ·
   have hc3':=hc3;try simp only [bm,bM] at hc3'
   refine az aa 3 rfl ?_
   refine ay (bq (i:=i) rfl rfl rfl Try.underlying59 iw (by first|omega|(simp;done)|(simp;omega)) (by first|omega|(simp;done)|(simp;omega))) rfl ?_
   obtain ⟨x2,hx2⟩:=ch (xs:=c) (i:=i) (by first|omega|(simp;done)|(simp;omega))
   refine gf [1,0] (dP (ds:=[(dI x1.time),(dI x1.sum)]) rfl rfl rfl rfl rfl iw rfl (Nat.le_of_ble_eq_true rfl) (bw hx2) rfl (eL (x':=x1) rfl)) rfl ?_
   refine ae ?_
   refine aw ?_
   refine ab aa 1 rfl ?_
   refine ay (aM rfl rfl rfl (aH (by first|omega|(simp;done)|(simp;omega)))) rfl ?_
   refine ab aa 1 rfl ?_
   refine bZ ?_
   refine bp ?_
   refine then_ok ?_
   refine aw ?_
   refine ab aa 1 rfl ?_
   refine ay (aM rfl rfl rfl (aH (by first|omega|(simp;done)|(simp;omega)))) rfl ?_
   refine ab aa 1 rfl ?_
   refine ae ?_
   refine ⟨(j+1,(i)+1,(c).set i x1),hd.cF hx1 (by simpa using hc3),by first|omega|(simp;done)|(simp;omega),aD.bY id (by refine ⟨?_,?_,?_,?_,?_,trivial⟩<;>first|rfl|(simp only [bn];done)|(congr 3;omega)|(congr 4;omega)|(simp only [bo];rfl)) (⟨by first|rfl|(simp only [bn];done)|(congr 3;omega)|(congr 4;omega)|(simp only [bo];rfl),trivial⟩) rfl⟩
  have hc3':=hc3;try simp only [bm,bM] at hc3'
  refine cU ?_
  refine bp ?_
  refine then_ok ?_
  refine aw ?_
  refine ab aa 1 rfl ?_
  refine ay (aM rfl rfl rfl (aH (by first|omega|(simp;done)|(simp;omega)))) rfl ?_
  refine ab aa 1 rfl ?_
  refine ae ?_
  refine ⟨(j+1,i,c),hd.skip hx1 (by simpa using hc3),by first|omega|(simp;done)|(simp;omega),aD.bY id (by refine ⟨?_,?_,?_,?_,?_,trivial⟩<;>first|rfl|(simp only [bn];done)|(congr 3;omega)|(congr 4;omega)|(simp only [bo];rfl)) (⟨by first|rfl|(simp only [bn];done)|(congr 3;omega)|(congr 4;omega)|(simp only [bo];rfl),trivial⟩) rfl⟩
 have hc2':=of_decide_eq_false hc2
 refine cp ?_
 refine aR ?_
 refine aR ?_
 refine bQ ?_
 refine then_ok ?_
 refine az aa 2 rfl ?_
 refine ay (nt (l:=i) (h:=l.length) rfl Try.underlying59 iw rfl (.inr ⟨_,rfl,rfl⟩) (.inl ⟨rfl,rfl⟩) (by first|omega|(simp;done)|(simp;omega)) (by first|omega|(simp;done)|(simp;omega)) (by first|omega|(simp;done)|(simp;omega)) rfl) rfl ?_
 refine gf [0] (ss (rows':=(c.take i).map gU) od Fs rfl rfl rfl rfl rfl rfl rfl rfl rfl (by simp [List.map_take])) rfl ?_
 refine ae ?_
 refine az aa 2 rfl ?_
 refine ay (nt (l:=0) (h:=i) rfl Try.underlying59 iw rfl (.inl ⟨rfl,rfl⟩) (.inr ⟨_,rfl,rfl⟩) (by first|omega|(simp;done)|(simp;omega)) (by first|omega|(simp;done)|(simp;omega)) (by first|omega|(simp;done)|(simp;omega)) rfl) rfl ?_
 refine ab aa 1 rfl ?_
 refine ae ?_
 refine ar ?_
 have hX:du pr l=(c.take i):=by
   have hdone:=hd.done (by omega)
   rw [<-hdone]
 rw [hX] at hr;clear hX
 subst hr
 refine ah aa [0] 1 rfl rfl rfl rfl rfl rfl ?_ ?_
 all_goals first|rfl|(simp [au];done)|(simp [au];omega)

theorem kN (p:cO) (e:Int) (hr:fi p=e):Fn Try.prog 44 [(.g [cI p.cK,cI p.count,cI p.sum])] (.v (.c (cI e))) []:=hr▸vN p.cK p.count p.sum
theorem oO (l:List cX) (f:cP) (hr:fe l=f):Fn Try.prog 45 [.c (cR 2 (l.map gU))] (.v (.g [cI f.err,cI f.at_])) []:=hr▸wL l

theorem AA (x:cX) (t:Int) (p:cO) (hb:-9223372036854775808<=t - p.cK/\t - p.cK<=9223372036854775807):Fn Try.prog 118 [(.g [(cI x.time),(cI x.sum)]),(.c (.q ([dI t]) 0)),(.c (.q ([dI p.cK,dI p.count,dI p.sum]) 0))] (aB (cu p t x)) []:=by
 refine Fn.mk' 12 [(0,(aG [(cI x.time),(cI x.sum)])),(1,(aC (.q ([dI t]) 0))),(2,(aC (.q ([dI p.cK,dI p.count,dI p.sum]) 0)))] Try.func118 rfl rfl rfl rfl ?_
 intro W0 T0
 refine ad aa 2 rfl ?_
 refine az aa 5 rfl ?_
 refine ay (aM rfl rfl rfl (aH (by first|omega|(simp;done)|(simp;omega)))) rfl ?_
 refine ab aa 2 rfl ?_
 refine ae ?_
 refine ar ?_
 refine ah aa [] 0 rfl rfl rfl rfl rfl rfl ?_ ?_
 all_goals first|rfl|(simp [au];done)|(simp [au];omega)
theorem nU (p:cO) (l:List cX) (t:Int) (hb:-9223372036854775808<=t - p.cK/\t - p.cK<=9223372036854775807) (hl:l.length * 16<=140737488355328) (r:List cX) (hr:dD p l t=r):Fn Try.prog 112 [(.g [(cI p.cK),(cI p.count),(cI p.sum)]),(.c (fq l)),(.c (cI t))] (.v (.c (.s 0 0 2 r.length))) [(0,(oT r))]:=by
 refine Fn.mk' 11 [(0,(aG [(cI p.cK),(cI p.count),(cI p.sum)])),(1,(aC (fq l))),(2,(aI t))] Try.func112 rfl rfl rfl rfl ?_
 intro W0 T0
 refine dG 1 rfl (fun hlen1=>?_)
 refine ad aa 3 rfl ?_
 refine az aa 1 rfl ?_
 refine aL 3 [2,1,0] (bJ 2 (pQ l (by first|omega|(simp;done)|(simp;omega))) CM rfl rfl ⟨⟨_,rfl,.c (.d _)⟩,trivial⟩ trivial ⟨(fun _ _ _ _=>trivial),trivial⟩ rfl rfl rfl rfl) rfl ?_
 refine ay (Ah (ks:=[1,0]) rfl ⟨rfl,rfl,trivial⟩) rfl ?_
 obtain ⟨r0,hr0⟩:∃ (r0:List cX),du (cu p t) l=r0:=⟨_,rfl⟩
 refine aL 4 [3,1,0] (vy (aU [2]) (aU [3]) [0,1] (vX l 118 ([[(dI t)],[(dI p.cK),(dI p.count),(dI p.sum)]]) (cu p t) (fun x=>AA x t p hb) FN r0 hr0) FO rfl rfl ⟨⟨_,rfl,.inl ⟨rfl,rfl⟩⟩,⟨_,rfl,.inr (.c (.fn ⟨⟨by decide,_,rfl⟩,⟨by decide,_,rfl⟩,trivial⟩))⟩,trivial⟩ ⟨rfl,trivial⟩ rfl rfl rfl rfl rfl rfl rfl rfl trivial ⟨(Bz _),trivial⟩ rfl rfl rfl rfl) rfl ?_
 refine ab aa 1 rfl ?_
 refine ae ?_
 refine ar ?_
 have hX:dD p l t=r0:=by
   assumption
 rw [hX] at hr;clear hX
 subst hr
 refine ah aa [3] 1 rfl rfl rfl rfl rfl rfl ?_ ?_
 all_goals first|rfl|(simp [au];done)|(simp [au];omega)

theorem yO (p:cO) (l:List cX) (x:cX) (r:List cX) (e:Int) (hr:ek p l x=(r,e)):Fn Try.prog 100 [(.g [(cI p.cK),(cI p.count),(cI p.sum)]),(.c (fq l)),(.g [(cI x.time),(cI x.sum)])] (.t [(.c (.s 0 0 2 r.length)),(.c (cI e))]) [(0,(oT r))]:=by
 refine Fn.mk' 87 [(0,(aG [(cI p.cK),(cI p.count),(cI p.sum)])),(1,(aC (fq l))),(2,(aG [(cI x.time),(cI x.sum)]))] Try.func100 rfl rfl rfl rfl ?_
 intro W0 T0
 refine dG 1 rfl (fun hlen1=>?_)
 have hrp:=@ot p
 have hru:(fe l).err=0->l.length<=30:=fun h=>(jz h).1
 have hrx:(fe [x]).err=0->0<=x.time/\x.time<=1000000/\0<=x.sum/\x.sum<=1000000:=fun h=>(@jz [x] h).2 x (by simp)
 refine ad aa 4 rfl ?_
 refine af ?_
 refine az aa 1 rfl ?_
 obtain ⟨e0,hr0⟩:∃ (e0:Int),fi p=e0:=⟨_,rfl⟩
 refine aL 2 [1,0] (bJ 2 (kN p e0 hr0) BV rfl rfl ⟨⟨_,rfl,.g ⟨.d _,.d _,.d _,trivial⟩⟩,trivial⟩ trivial trivial rfl rfl rfl rfl) rfl ?_
 refine ab aa 1 rfl ?_
 refine ae ?_
 refine ad aa 2 rfl ?_
 refine ag rfl (fun hc1=>?_) (fun hc1=>?_)
 ·
  have hc1':=of_decide_eq_true hc1
  refine ad aa 3 rfl ?_
  refine ar ?_
  refine ao ?_
  refine cV (aD.nil 6 125 2 (by decide) rfl) ?_
  have hX:ek p l x=(([]:List cX),e0):=by
    unfold ek;rw [if_pos (by omega),hr0]
  rw [hX] at hr;clear hX
  simp only [Prod.mk.injEq] at hr;obtain ⟨rfl,rfl⟩:=hr
  refine ah aa [2] 1 rfl rfl rfl rfl rfl rfl ?_ ?_
  all_goals first|rfl|(simp [au];done)|(simp [au];omega)
 have hc1':=of_decide_eq_false hc1
 refine aP ?_
 refine af ?_
 refine az aa 2 rfl ?_
 refine aL 3 [2,1,0] (dz (ys:=[(0,(.g [(cI x.time),(cI x.sum)]))]) (rows:=([x]).map gU) 2 od rfl (by decide) ⟨⟨rfl,rfl⟩,trivial⟩ rfl rfl rfl rfl) rfl ?_
 refine kF (s':=[(0,(aG [(cI p.cK),(cI p.count),(cI p.sum)])),(1,(aC (fq l))),(2,(aG [(cI x.time),(cI x.sum)])),(3,(aC (.p 0 0 0 0))),(5,(aC (.p 1 0 0 0))),(6,(aC cN)),(7,(aI 0)),(17,(aG [(cI p.cK),(cI p.count),(cI p.sum)])),(18,(aI e0)),(8,(aI e0)),(19,(aI e0)),(20,(aB (decide (¬e0=0)))),(22,(aC (fq l))),(23,(aG [(cI x.time),(cI x.sum)])),(24,(aC (fq ([x]))))]) (h':=[(1,(.box 125 [(cI x.time),(cI x.sum)])),(0,(.box 58 [(cI p.cK),(cI p.count),(cI p.sum)]))]) 2 rfl ⟨⟨_,rfl,.inl ⟨rfl,rfl⟩⟩,⟨_,rfl,.inl ⟨rfl,rfl⟩⟩,⟨_,rfl,.inl ⟨rfl,rfl⟩⟩,⟨_,rfl,.inl ⟨rfl,rfl⟩⟩,⟨_,rfl,.inl ⟨rfl,rfl⟩⟩,⟨_,rfl,.inl ⟨rfl,rfl⟩⟩,⟨_,rfl,.inl ⟨rfl,rfl⟩⟩,⟨_,rfl,.inl ⟨rfl,rfl⟩⟩,⟨_,rfl,.inl ⟨rfl,rfl⟩⟩,⟨_,rfl,.inl ⟨rfl,rfl⟩⟩,⟨_,rfl,.inl ⟨rfl,rfl⟩⟩,⟨_,rfl,.inl ⟨rfl,rfl⟩⟩,⟨_,rfl,.inl ⟨rfl,rfl⟩⟩,⟨_,rfl,.inl ⟨rfl,rfl⟩⟩,⟨_,rfl,.inr ⟨_,_,rfl,rfl,.s rfl (by decide) (by first|omega|(simp;done)|(simp;omega))⟩⟩,trivial⟩ ⟨rfl,rfl,trivial⟩ rfl ?_
 refine aL 4 [3,1,0] (dz (ys:=[(0,(.c (fq l))),(1,(.c (fq ([x]))))]) (rows:=([l,[x]]).map ui) 3 Fv rfl (by decide) ⟨⟨rfl,rfl⟩,⟨rfl,rfl⟩,trivial⟩ rfl rfl rfl rfl) rfl ?_
 refine ay (dr rfl rfl rfl rfl rfl Try.underlying181) rfl ?_
 refine ab aa 1 rfl ?_
 refine ae ?_
 refine aV ?_
 refine cx (β:=Nat) (fun (q:Nat)=>⟨[(1,(aC (fq l))),(3,(aC (.p 0 0 0 0))),(5,(aC (.p 1 0 0 0))),(25,(aC (.s 3 0 1 2))),(26,(aI 2)),(27,(aI (↑q:Int)))],[(3,(.arr 59 1 (([l,[x]]).map ui))),(1,(.box 125 [(cI x.time),(cI x.sum)])),(0,(.box 58 [(cI p.cK),(cI p.count),(cI p.sum)]))],4⟩) (fun (q:Nat)=>q<=2/\(0 < q->(fe l).err=0)/\(1 < q->(fe [x]).err=0)) (fun (q:Nat)=>2 - q) 0 ?_ ?_ ?_
 ·exact ⟨by omega,by omega,by omega⟩
 ·exact aD.bY id (by refine ⟨?_,?_,?_,?_,?_,?_,trivial⟩<;>first|rfl|(simp only [bn];done)|(congr 3;omega)|(congr 4;omega)|(simp only [bo];rfl)) (by refine ⟨?_,?_,?_,trivial⟩<;>first|rfl|(simp only [bn];done)|(congr 3;omega)|(congr 4;omega)|(simp only [bo];rfl)) rfl
 rintro q ⟨hi0_0,hi0_1,hi0_2⟩
 refine ad aa 1 rfl ?_
 refine af ?_
 refine ag rfl (fun hc2=>?_) (fun hc2=>?_)
 ·
  have hc2':=of_decide_eq_true hc2
  refine aP ?_
  refine af ?_
  refine aV ?_
  refine eE ?_
  refine ay (bq (i:=q) rfl rfl rfl Try.underlying181 Gs (by first|omega|(simp;done)|(simp;omega)) (by first|omega|(simp;done)|(simp;omega))) rfl ?_
  obtain ⟨x1,hx1⟩:=ch (xs:=([l,[x]]:List (List cX))) (i:=q) (by first|omega|(simp;done)|(simp;omega))
  have hx1v:=Ek hx1
  refine ay (eG rfl rfl rfl Try.underlying59 rfl (bw hx1) rfl) rfl ?_
  refine ab aa 1 rfl ?_
  refine ae ?_
  refine az aa 1 rfl ?_
  obtain ⟨f1,hr1⟩:∃ (f1:cP),fe x1=f1:=⟨_,rfl⟩
  refine aL 4 [3,1,0] (bJ 4 (oO x1 f1 hr1) ER rfl rfl ⟨⟨_,rfl,.c (.d _)⟩,trivial⟩ ⟨trivial,trivial,trivial⟩ trivial rfl rfl rfl rfl) rfl ?_
  refine ab aa 2 rfl ?_
  refine ae ?_
  refine ad aa 3 rfl ?_
  refine ag rfl (fun hc3=>?_) (fun hc3=>?_)
  ·
   have hc3':=of_decide_eq_true hc3
   refine af ?_
   refine bb [1,3,5,25,26,27,11] [4,3,1,0] mixed rfl rfl ?_
   refine aA (kn:=[]) aa 4 rfl trivial ?_
   refine bB [4,3,1,0] rfl rfl rfl rfl (by kernel_rfl) ?_
   refine ae ?_
   refine ar ?_
   refine bg ?_
   refine ao ?_
   refine ao ?_
   refine bg ?_
   refine ao ?_
   refine cV (aD.nil 6 125 2 (by decide) rfl) ?_
   have hX:ek p l x=(([]:List cX),f1.err):=by
     unfold ek;rcases hx1v with ⟨hq,hx⟩|⟨hq,hx⟩<;>subst hx
     ·rw [if_neg (by omega),if_pos (by rw [hr1];omega),hr1]
     ·rw [if_neg (by omega),if_neg (by have:=hi0_1 (by omega);omega),if_pos (by rw [hr1];omega),hr1]
   rw [hX] at hr;clear hX
   simp only [Prod.mk.injEq] at hr;obtain ⟨rfl,rfl⟩:=hr
   refine ah aa [5] 1 rfl rfl rfl rfl rfl rfl ?_ ?_
   all_goals first|rfl|(simp [au];done)|(simp [au];omega)
  have hc3':=of_decide_eq_false hc3
  refine cU ?_
  refine bp ?_
  refine then_ok ?_
  refine aw ?_
  refine ay (aM rfl rfl rfl (aH (by first|omega|(simp;done)|(simp;omega)))) rfl ?_
  refine ab aa 1 rfl ?_
  refine ae ?_
  refine ⟨q+1,⟨by omega,(fun h=>by rcases hx1v with ⟨hq,hx⟩|⟨hq,hx⟩<;>first|(exact hi0_1 (by omega))|(subst hx;rw [hr1];omega)),(fun h=>by rcases hx1v with ⟨hq,hx⟩|⟨hq,hx⟩<;>first|(exfalso;omega)|(subst hx;rw [hr1];omega))⟩,by first|omega|(simp;done)|(simp;omega),aD.bY id (by refine ⟨?_,?_,?_,?_,?_,?_,trivial⟩<;>first|rfl|(simp only [bn];done)|(congr 3;omega)|(congr 4;omega)|(simp only [bo];rfl)) (by refine ⟨?_,?_,?_,trivial⟩<;>first|rfl|(simp only [bn];done)|(congr 3;omega)|(congr 4;omega)|(simp only [bo];rfl)) rfl⟩
 have hc2':=of_decide_eq_false hc2
 refine cp ?_
 refine aR ?_
 refine aR ?_
 refine bQ ?_
 refine then_ok ?_
 refine af ?_
 refine az aa 1 rfl ?_
 refine ay (cT rfl rfl rfl rfl rfl Try.underlying59) rfl ?_
 refine ay (aM rfl rfl rfl (aH (by first|omega|(simp;done)|(simp;omega)))) rfl ?_
 refine ab aa 1 rfl ?_
 refine ae ?_
 refine af ?_
 rcases Bool.eq_false_or_eq_true (decide (((↑l.length:Int) - 1)>=0)) with hb4|hb4
 ·
  have hb4':=of_decide_eq_true hb4
  obtain ⟨x1,hx1⟩:=ch (xs:=l) (i:=(l.length) - 1) (by first|omega|(simp;done)|(simp;omega))
  refine bb [1,3,5,25,26,27,12] [3,1,0] mixed rfl rfl ?_
  refine aA (kn:=[(43,true)]) aa 5 rfl ⟨hb4,trivial⟩ ?_
  refine aT (n':=4) [45,46,44] [] rfl rfl (.inl ⟨(ak.yes rfl rfl rfl),aK.cast (cQ (i:=(l.length) - 1) rfl rfl rfl Try.underlying59 iw (by first|omega|(simp;done)|(simp;omega)) (bw hx1)) rfl⟩) rfl ?_
  refine aA (kn:=[]) aa 6 rfl trivial ?_
  refine bB [3,1,0] rfl rfl rfl rfl (by kernel_rfl) ?_
  refine ae ?_
  refine ag rfl (fun hc5=>?_) (fun hc5=>?_)
  ·
   have hc5':=of_decide_eq_true hc5
   refine ad aa 2 rfl ?_
   refine ar ?_
   refine ao ?_
   refine cV (aD.nil 6 125 2 (by decide) rfl) ?_
   have hX:ek p l x=(([]:List cX),2):=by
     unfold ek;rw [if_neg (by omega),if_neg (by have:=hi0_1 (by omega);omega),if_neg (by have:=hi0_2 (by omega);omega),if_pos (by rw [mF hx1,decide_eq_true_eq];omega)]
   rw [hX] at hr;clear hX
   simp only [Prod.mk.injEq] at hr;obtain ⟨rfl,rfl⟩:=hr
   refine ah aa [4] 1 rfl rfl rfl rfl rfl rfl ?_ ?_
   all_goals first|rfl|(simp [au];done)|(simp [au];omega)
  have hc5':=of_decide_eq_false hc5
  refine aP ?_
  refine az aa 4 rfl ?_
  obtain ⟨r2,hr2⟩:∃ (r2:List cX),dD p l x.time=r2:=⟨_,rfl⟩
  refine aL 5 [4,3,1,0] (bJ 4 (nU p l x.time (by first|assumption|omega|(have q1:=ot (hr2.trans (by omega));have q2:=uses1 (x:=x) (by simp_all);omega)) (by first|assumption|omega) r2 hr2) CN rfl rfl ⟨⟨_,rfl,.g ⟨.d _,.d _,.d _,trivial⟩⟩,⟨_,rfl,.c (.d _)⟩,⟨_,rfl,.c (.d _)⟩,trivial⟩ trivial ⟨(fun _ _ _ _=>trivial),trivial⟩ rfl rfl rfl rfl) rfl ?_
  refine ab aa 1 rfl ?_
  refine ae ?_
  refine ad aa 3 rfl ?_
  refine af ?_
  refine az aa 1 rfl ?_
  refine ay (dr rfl rfl rfl rfl rfl Try.underlying59) rfl ?_
  refine ab aa 1 rfl ?_
  refine ae ?_
  refine aV ?_
  refine cx (β:=Nat) (fun (k:Nat)=>⟨[(1,(aC (fq l))),(3,(aC (.p 0 0 0 0))),(5,(aC (.p 1 0 0 0))),(25,(aC (.s 3 0 1 2))),(26,(aI 2)),(27,(aI (↑q:Int))),(13,(aC (.s 4 0 2 r2.length))),(14,(aI (x.sum+gJ ((r2).take k)))),(61,(aC (.s 4 0 2 r2.length))),(62,(aI (↑r2.length:Int))),(63,(aI (↑k:Int)))],[(4,(oT r2)),(3,(.arr 59 1 (([l,[x]]).map ui))),(1,(.box 125 [(cI x.time),(cI x.sum)])),(0,(.box 58 [(cI p.cK),(cI p.count),(cI p.sum)]))],5⟩) (fun (k:Nat)=>k<=(r2).length) (fun (k:Nat)=>(r2).length - k) 0 ?_ ?_ ?_
  ·exact (by omega)
  ·exact aD.bY id (by refine ⟨?_,?_,?_,?_,?_,?_,?_,?_,?_,?_,?_,trivial⟩<;>first|rfl|(simp only [bn];done)|(congr 3;omega)|(congr 4;omega)|(simp only [bo];rfl)|((rw [List.take_zero,gJ,Int.add_zero];rfl))) (by refine ⟨?_,?_,?_,?_,trivial⟩<;>first|rfl|(simp only [bn];done)|(congr 3;omega)|(congr 4;omega)|(simp only [bo];rfl)) rfl
  rintro k hi1_0
  have hsb:=pz (p:=p) (l:=l) (t:=x.time) (k:=k) (hi0_1 (by omega))
  rw [hr2] at hsb
  have hrl:(r2).length<=30:=by rw [<-hr2];exact Nat.le_trans (oC _ _) (hru (hi0_1 (by omega)))
  refine ad aa 1 rfl ?_
  refine af ?_
  refine ag rfl (fun hc6=>?_) (fun hc6=>?_)
  ·
   have hc6':=of_decide_eq_true hc6
   refine aP ?_
   refine af ?_
   refine aV ?_
   refine eE ?_
   refine ay (bq (i:=k) rfl rfl rfl Try.underlying59 iw (by first|omega|(simp;done)|(simp;omega)) (by first|omega|(simp;done)|(simp;omega))) rfl ?_
   obtain ⟨x2,hx2⟩:=ch (xs:=r2) (i:=k) (by first|omega|(simp;done)|(simp;omega))
   have hx2v:=(jz (hi0_1 (by omega))).2 x2 (jV (hr2.symm▸List.mem_of_getElem? hx2:x2∈dD p l x.time))
   refine ay (dg rfl rfl rfl Try.underlying125 rfl iw (bw hx2) rfl) rfl ?_
   refine ab aa 2 rfl ?_
   refine ae ?_
   refine aw ?_
   refine ab aa 3 rfl ?_
   refine ay (aM rfl rfl rfl (aH (by first|omega|(simp;done)|(simp;omega)))) rfl ?_
   refine ab aa 1 rfl ?_
   refine bZ ?_
   refine bp ?_
   refine then_ok ?_
   refine aw ?_
   refine ay (aM rfl rfl rfl (aH (by first|omega|(simp;done)|(simp;omega)))) rfl ?_
   refine ab aa 1 rfl ?_
   refine ae ?_
   refine ⟨k+1,by first|omega|trivial,by first|omega|(simp;done)|(simp;omega),aD.bY id (by refine ⟨?_,?_,?_,?_,?_,?_,?_,?_,?_,?_,?_,trivial⟩<;>first|rfl|(simp only [bn];done)|(congr 3;omega)|(congr 4;omega)|(simp only [bo];rfl)|(first|(rw [iE hx2,ku,<-Int.add_assoc];rfl)|(rw [iE hx1,ku,<-Int.add_assoc];rfl))) (by refine ⟨?_,?_,?_,?_,trivial⟩<;>first|rfl|(simp only [bn];done)|(congr 3;omega)|(congr 4;omega)|(simp only [bo];rfl)) rfl⟩
  have hc6':=of_decide_eq_false hc6
  refine cp ?_
  refine aR ?_
  refine aR ?_
  refine bQ ?_
  refine then_ok ?_
  refine af ?_
  refine cq 82 ((decide ((↑r2.length:Int)>=p.count))||(decide ((x.sum+gJ ((r2).take k)) > p.sum))) ?_ ?_
  ·
   refine aw ?_
   refine ab aa 1 rfl ?_
   refine ay (dr rfl rfl rfl rfl rfl Try.underlying59) rfl ?_
   refine ab aa 4 rfl ?_
   refine bA (t:=77) rfl (fun hb7=>?_) (fun hb7=>?_)
   ·
    have hb7':=of_decide_eq_true hb7
    refine ab aa 5 rfl ?_
    refine ae ?_
    exact aD.bG 12 rfl rfl (by first|(simp [hb7];done)|(simp_all;done)|(exfalso;simp_all;done)|(simp_all;omega)) rfl
   have hb7':=of_decide_eq_false hb7
   refine ab aa 5 rfl ?_
   refine ae ?_
   exact aD.bG 12 rfl rfl (by first|(simp [hb7];done)|(simp_all;done)|(exfalso;simp_all;done)|(simp_all;omega)) rfl
  refine ag rfl (fun hc8=>?_) (fun hc8=>?_)
  ·
   have hc8':=hc8;try simp only [bm,bM] at hc8'
   refine ad aa 2 rfl ?_
   refine ar ?_
   refine ao ?_
   refine cV (aD.nil 6 125 2 (by decide) rfl) ?_
   have hX:ek p l x=(([]:List cX),11):=by
     have hlate:gn l x.time=false:=by first|(rw [mF hx1];simp;omega)|(have:l=[]:=List.eq_nil_of_length_eq_zero (by omega);subst this;rfl)
     have hk:(r2).take k=r2:=List.take_of_length_le (by omega)
     rw [hk] at hc8'
     unfold ek;rw [if_neg (by omega),if_neg (by have:=hi0_1 (by omega);omega),if_neg (by have:=hi0_2 (by omega);omega),if_neg (by rw [hlate];simp),hr2,if_pos (by omega)]
   rw [hX] at hr;clear hX
   simp only [Prod.mk.injEq] at hr;obtain ⟨rfl,rfl⟩:=hr
   refine ah aa [5] 1 rfl rfl rfl rfl rfl rfl ?_ ?_
   all_goals first|rfl|(simp [au];done)|(simp [au];omega)
  have hc8':=hc8;try simp only [bm,bM] at hc8'
  refine aP ?_
  refine az aa 2 rfl ?_
  refine aL 6 [5,4,3,1,0] (dz (ys:=[(0,(.g [(cI x.time),(cI x.sum)]))]) (rows:=([x]).map gU) 5 od rfl (by decide) ⟨⟨rfl,rfl⟩,trivial⟩ rfl rfl rfl rfl) rfl ?_
  refine aL 7 [6,5,3,1,0] (da (m:=1) (N:=r2.length+1) (k2:=6) (ys:=([x]).map gU) od rfl rfl rfl rfl rfl rfl (by first|omega|(simp;done)|(simp;omega)) rfl (.s rfl (by first|omega|(simp;done)|(simp;omega))) (by first|omega|(simp;done)|(simp;omega)) (by first|omega|(simp;done)|(simp;omega)) eP (by decide) (by first|omega|(simp;done)|(simp;omega)) (by first|omega|(simp;done)|(simp;omega))) rfl ?_
  refine ab aa 2 rfl ?_
  refine ae ?_
  refine ar ?_
  have hX:ek p l x=(r2++([x]),0):=by
    have hlate:gn l x.time=false:=by first|(rw [mF hx1];simp;omega)|(have:l=[]:=List.eq_nil_of_length_eq_zero (by omega);subst this;rfl)
    have hk:(r2).take k=r2:=List.take_of_length_le (by omega)
    rw [hk] at hc8'
    unfold ek;rw [if_neg (by omega),if_neg (by have:=hi0_1 (by omega);omega),if_neg (by have:=hi0_2 (by omega);omega),if_neg (by rw [hlate];simp),hr2,if_neg (by omega)]
  rw [hX] at hr;clear hX
  simp only [Prod.mk.injEq] at hr;obtain ⟨rfl,rfl⟩:=hr
  refine ah aa [6] 1 rfl rfl rfl rfl rfl rfl ?_ ?_
  all_goals first|rfl|(simp [au];done)|(simp [au];omega)
 have hb4':=of_decide_eq_false hb4
 refine bb [1,3,5,25,26,27,12] [3,1,0] mixed rfl rfl ?_
 refine aA (kn:=[(43,false)]) aa 12 rfl ⟨hb4,trivial⟩ ?_
 refine bB [3,1,0] rfl rfl rfl rfl (by kernel_rfl) ?_
 refine ae ?_
 refine ag rfl (fun hno=>by cases hno) (fun _=>?_)
 refine aP ?_
 refine az aa 4 rfl ?_
 obtain ⟨r3,hr3⟩:∃ (r3:List cX),dD p l x.time=r3:=⟨_,rfl⟩
 refine aL 5 [4,3,1,0] (bJ 4 (nU p l x.time (by first|assumption|omega|(have q1:=ot (hr2.trans (by omega));have q2:=uses1 (x:=x) (by simp_all);omega)) (by first|assumption|omega) r3 hr3) CN rfl rfl ⟨⟨_,rfl,.g ⟨.d _,.d _,.d _,trivial⟩⟩,⟨_,rfl,.c (.d _)⟩,⟨_,rfl,.c (.d _)⟩,trivial⟩ trivial ⟨(fun _ _ _ _=>trivial),trivial⟩ rfl rfl rfl rfl) rfl ?_
 refine ab aa 1 rfl ?_
 refine ae ?_
 refine ad aa 3 rfl ?_
 refine af ?_
 refine az aa 1 rfl ?_
 refine ay (dr rfl rfl rfl rfl rfl Try.underlying59) rfl ?_
 refine ab aa 1 rfl ?_
 refine ae ?_
 refine aV ?_
 refine cx (β:=Nat) (fun (k:Nat)=>⟨[(1,(aC (fq l))),(3,(aC (.p 0 0 0 0))),(5,(aC (.p 1 0 0 0))),(25,(aC (.s 3 0 1 2))),(26,(aI 2)),(27,(aI (↑q:Int))),(13,(aC (.s 4 0 2 r3.length))),(14,(aI (x.sum+gJ ((r3).take k)))),(61,(aC (.s 4 0 2 r3.length))),(62,(aI (↑r3.length:Int))),(63,(aI (↑k:Int)))],[(4,(oT r3)),(3,(.arr 59 1 (([l,[x]]).map ui))),(1,(.box 125 [(cI x.time),(cI x.sum)])),(0,(.box 58 [(cI p.cK),(cI p.count),(cI p.sum)]))],5⟩) (fun (k:Nat)=>k<=(r3).length) (fun (k:Nat)=>(r3).length - k) 0 ?_ ?_ ?_
 ·exact (by omega)
 ·exact aD.bY id (by refine ⟨?_,?_,?_,?_,?_,?_,?_,?_,?_,?_,?_,trivial⟩<;>first|rfl|(simp only [bn];done)|(congr 3;omega)|(congr 4;omega)|(simp only [bo];rfl)|((rw [List.take_zero,gJ,Int.add_zero];rfl))) (by refine ⟨?_,?_,?_,?_,trivial⟩<;>first|rfl|(simp only [bn];done)|(congr 3;omega)|(congr 4;omega)|(simp only [bo];rfl)) rfl
 rintro k hi1_0
 have hsb:=pz (p:=p) (l:=l) (t:=x.time) (k:=k) (hi0_1 (by omega))
 rw [hr3] at hsb
 have hrl:(r3).length<=30:=by rw [<-hr3];exact Nat.le_trans (oC _ _) (hru (hi0_1 (by omega)))
 refine ad aa 1 rfl ?_
 refine af ?_
 refine ag rfl (fun hc10=>?_) (fun hc10=>?_)
 ·
  have hc10':=of_decide_eq_true hc10
  refine aP ?_
  refine af ?_
  refine aV ?_
  refine eE ?_
  refine ay (bq (i:=k) rfl rfl rfl Try.underlying59 iw (by first|omega|(simp;done)|(simp;omega)) (by first|omega|(simp;done)|(simp;omega))) rfl ?_
  obtain ⟨x1,hx1⟩:=ch (xs:=r3) (i:=k) (by first|omega|(simp;done)|(simp;omega))
  have hx1v:=(jz (hi0_1 (by omega))).2 x1 (jV (hr3.symm▸List.mem_of_getElem? hx1:x1∈dD p l x.time))
  refine ay (dg rfl rfl rfl Try.underlying125 rfl iw (bw hx1) rfl) rfl ?_
  refine ab aa 2 rfl ?_
  refine ae ?_
  refine aw ?_
  refine ab aa 3 rfl ?_
  refine ay (aM rfl rfl rfl (aH (by first|omega|(simp;done)|(simp;omega)))) rfl ?_
  refine ab aa 1 rfl ?_
  refine bZ ?_
  refine bp ?_
  refine then_ok ?_
  refine aw ?_
  refine ay (aM rfl rfl rfl (aH (by first|omega|(simp;done)|(simp;omega)))) rfl ?_
  refine ab aa 1 rfl ?_
  refine ae ?_
  refine ⟨k+1,by first|omega|trivial,by first|omega|(simp;done)|(simp;omega),aD.bY id (by refine ⟨?_,?_,?_,?_,?_,?_,?_,?_,?_,?_,?_,trivial⟩<;>first|rfl|(simp only [bn];done)|(congr 3;omega)|(congr 4;omega)|(simp only [bo];rfl)|(first|(rw [iE hx2,ku,<-Int.add_assoc];rfl)|(rw [iE hx1,ku,<-Int.add_assoc];rfl))) (by refine ⟨?_,?_,?_,?_,trivial⟩<;>first|rfl|(simp only [bn];done)|(congr 3;omega)|(congr 4;omega)|(simp only [bo];rfl)) rfl⟩
 have hc10':=of_decide_eq_false hc10
 refine cp ?_
 refine aR ?_
 refine aR ?_
 refine bQ ?_
 refine then_ok ?_
 refine af ?_
 refine cq 82 ((decide ((↑r3.length:Int)>=p.count))||(decide ((x.sum+gJ ((r3).take k)) > p.sum))) ?_ ?_
 ·
  refine aw ?_
  refine ab aa 1 rfl ?_
  refine ay (dr rfl rfl rfl rfl rfl Try.underlying59) rfl ?_
  refine ab aa 4 rfl ?_
  refine bA (t:=77) rfl (fun hb11=>?_) (fun hb11=>?_)
  ·
   have hb11':=of_decide_eq_true hb11
   refine ab aa 5 rfl ?_
   refine ae ?_
   exact aD.bG 12 rfl rfl (by first|(simp [hb11];done)|(simp_all;done)|(exfalso;simp_all;done)|(simp_all;omega)) rfl
  have hb11':=of_decide_eq_false hb11
  refine ab aa 5 rfl ?_
  refine ae ?_
  exact aD.bG 12 rfl rfl (by first|(simp [hb11];done)|(simp_all;done)|(exfalso;simp_all;done)|(simp_all;omega)) rfl
 refine ag rfl (fun hc12=>?_) (fun hc12=>?_)
 ·
  have hc12':=hc12;try simp only [bm,bM] at hc12'
  refine ad aa 2 rfl ?_
  refine ar ?_
  refine ao ?_
  refine cV (aD.nil 6 125 2 (by decide) rfl) ?_
  have hX:ek p l x=(([]:List cX),11):=by
    have hlate:gn l x.time=false:=by first|(rw [mF hx1];simp;omega)|(have:l=[]:=List.eq_nil_of_length_eq_zero (by omega);subst this;rfl)
    have hk:(r3).take k=r3:=List.take_of_length_le (by omega)
    rw [hk] at hc12'
    unfold ek;rw [if_neg (by omega),if_neg (by have:=hi0_1 (by omega);omega),if_neg (by have:=hi0_2 (by omega);omega),if_neg (by rw [hlate];simp),hr3,if_pos (by omega)]
  rw [hX] at hr;clear hX
  simp only [Prod.mk.injEq] at hr;obtain ⟨rfl,rfl⟩:=hr
  refine ah aa [5] 1 rfl rfl rfl rfl rfl rfl ?_ ?_
  all_goals first|rfl|(simp [au];done)|(simp [au];omega)
 have hc12':=hc12;try simp only [bm,bM] at hc12'
 refine aP ?_
 refine az aa 2 rfl ?_
 refine aL 6 [5,4,3,1,0] (dz (ys:=[(0,(.g [(cI x.time),(cI x.sum)]))]) (rows:=([x]).map gU) 5 od rfl (by decide) ⟨⟨rfl,rfl⟩,trivial⟩ rfl rfl rfl rfl) rfl ?_
 refine aL 7 [6,5,3,1,0] (da (m:=1) (N:=r3.length+1) (k2:=6) (ys:=([x]).map gU) od rfl rfl rfl rfl rfl rfl (by first|omega|(simp;done)|(simp;omega)) rfl (.s rfl (by first|omega|(simp;done)|(simp;omega))) (by first|omega|(simp;done)|(simp;omega)) (by first|omega|(simp;done)|(simp;omega)) eP (by decide) (by first|omega|(simp;done)|(simp;omega)) (by first|omega|(simp;done)|(simp;omega))) rfl ?_
 refine ab aa 2 rfl ?_
 refine ae ?_
 refine ar ?_
 have hX:ek p l x=(r3++([x]),0):=by
   have hlate:gn l x.time=false:=by first|(rw [mF hx1];simp;omega)|(have:l=[]:=List.eq_nil_of_length_eq_zero (by omega);subst this;rfl)
   have hk:(r3).take k=r3:=List.take_of_length_le (by omega)
   rw [hk] at hc12'
   unfold ek;rw [if_neg (by omega),if_neg (by have:=hi0_1 (by omega);omega),if_neg (by have:=hi0_2 (by omega);omega),if_neg (by rw [hlate];simp),hr3,if_neg (by omega)]
 rw [hX] at hr;clear hX
 simp only [Prod.mk.injEq] at hr;obtain ⟨rfl,rfl⟩:=hr
 refine ah aa [6] 1 rfl rfl rfl rfl rfl rfl ?_ ?_
 all_goals first|rfl|(simp [au];done)|(simp [au];omega)

theorem jJ (c:bx) (e:Int) (hr:cr c=e):Fn Try.prog 28 [(.g [(cI c.bj),(cI c.held),(cI c.bX.cK),(cI c.bX.count),(cI c.bX.sum),(fq c.cD)])] (.v (.c (cI e))) []:=by
 refine Fn.mk' 32 [(0,(aG [(cI c.bj),(cI c.held),(cI c.bX.cK),(cI c.bX.count),(cI c.bX.sum),(fq c.cD)]))] Try.func28 rfl rfl rfl rfl ?_
 intro W0 T0
 refine fl 0 5 rfl rfl (fun hlen0_5=>?_)
 refine ad aa 2 rfl ?_
 refine af ?_
 refine cq 21 ((((decide (c.bj < (-1000000000000)))||(decide (c.bj > 1000000000000)))||(decide (c.held < 0)))||(decide (c.held > 1000000000000))) ?_ ?_
 ·
  refine aw ?_
  refine ab aa 4 rfl ?_
  refine bA (t:=7) rfl (fun hb1=>?_) (fun hb1=>?_)
  ·
   have hb1':=of_decide_eq_true hb1
   refine ab aa 14 rfl ?_
   refine ae ?_
   exact aD.bG 19 rfl rfl (by first|(simp [hb1];done)|(simp_all;done)|(exfalso;simp_all;done)|(simp_all;omega)) rfl
  have hb1':=of_decide_eq_false hb1
  refine ab aa 5 rfl ?_
  refine bA (t:=12) rfl (fun hb2=>?_) (fun hb2=>?_)
  ·
   have hb2':=of_decide_eq_true hb2
   refine ab aa 9 rfl ?_
   refine ae ?_
   exact aD.bG 20 rfl rfl (by first|(simp [hb1,hb2];done)|(simp_all;done)|(exfalso;simp_all;done)|(simp_all;omega)) rfl
  have hb2':=of_decide_eq_false hb2
  refine ab aa 5 rfl ?_
  refine bA (t:=17) rfl (fun hb3=>?_) (fun hb3=>?_)
  ·
   have hb3':=of_decide_eq_true hb3
   refine ab aa 4 rfl ?_
   refine ae ?_
   exact aD.bG 21 rfl rfl (by first|(simp [hb1,hb2,hb3];done)|(simp_all;done)|(exfalso;simp_all;done)|(simp_all;omega)) rfl
  have hb3':=of_decide_eq_false hb3
  refine ab aa 4 rfl ?_
  refine ae ?_
  exact aD.bG 21 rfl rfl (by first|(simp [hb1,hb2,hb3];done)|(simp_all;done)|(exfalso;simp_all;done)|(simp_all;omega)) rfl
 refine ag rfl (fun hc4=>?_) (fun hc4=>?_)
 ·
  have hc4':=hc4;try simp only [bm,bM] at hc4'
  refine ad aa 1 rfl ?_
  refine ar ?_
  refine ao ?_
  have hX:cr c=3:=by
    unfold cr;rw [if_pos (by omega)]
  rw [hX] at hr;clear hX
  subst hr
  refine ah aa [] 0 rfl rfl rfl rfl rfl rfl ?_ ?_
  all_goals first|rfl|(simp [au];done)|(simp [au];omega)
 have hc4':=hc4;try simp only [bm,bM] at hc4'
 refine aP ?_
 refine af ?_
 refine az aa 2 rfl ?_
 obtain ⟨e0,hr0⟩:∃ (e0:Int),fi c.bX=e0:=⟨_,rfl⟩
 refine aL 1 [0] (bJ 1 (kN c.bX e0 hr0) BV rfl rfl ⟨⟨_,rfl,.g ⟨.d _,.d _,.d _,trivial⟩⟩,trivial⟩ trivial trivial rfl rfl rfl rfl) rfl ?_
 refine ab aa 1 rfl ?_
 refine ae ?_
 refine ad aa 2 rfl ?_
 refine ag rfl (fun hc5=>?_) (fun hc5=>?_)
 ·
  have hc5':=of_decide_eq_true hc5
  refine ad aa 2 rfl ?_
  refine ar ?_
  refine ao ?_
  have hX:cr c=e0:=by
    unfold cr;rw [if_neg (by omega),if_pos (by omega),hr0]
  rw [hX] at hr;clear hX
  subst hr
  refine ah aa [] 0 rfl rfl rfl rfl rfl rfl ?_ ?_
  all_goals first|rfl|(simp [au];done)|(simp [au];omega)
 have hc5':=of_decide_eq_false hc5
 refine aP ?_
 refine az aa 2 rfl ?_
 obtain ⟨f1,hr1⟩:∃ (f1:cP),fe c.cD=f1:=⟨_,rfl⟩
 refine aL 1 [0] (bJ 1 (oO c.cD f1 hr1) ER rfl rfl ⟨⟨_,rfl,.c (.d _)⟩,trivial⟩ ⟨trivial,trivial,trivial⟩ trivial rfl rfl rfl rfl) rfl ?_
 refine ay (BM rfl rfl Try.underlying50 rfl Try.underlying48 rfl rfl) rfl ?_
 refine ab aa 1 rfl ?_
 refine ae ?_
 refine ar ?_
 have hX:cr c=f1.err:=by
   unfold cr;rw [if_neg (by omega),if_neg (by omega),hr1]
 rw [hX] at hr;clear hX
 subst hr
 refine ah aa [] 0 rfl rfl rfl rfl rfl rfl ?_ ?_
 all_goals first|rfl|(simp [au];done)|(simp [au];omega)
theorem pN (c:bx) (hb:-9223372036854775808<=c.bj - c.held/\c.bj - c.held<=9223372036854775807):Fn Try.prog 24 [(.g [(cI c.bj),(cI c.held),(cI c.bX.cK),(cI c.bX.count),(cI c.bX.sum),(fq c.cD)])] (aI (c.bj - c.held)) []:=by
 refine Fn.mk' 8 [(0,(aG [(cI c.bj),(cI c.held),(cI c.bX.cK),(cI c.bX.count),(cI c.bX.sum),(fq c.cD)]))] Try.func24 rfl rfl rfl rfl ?_
 intro W0 T0
 refine fl 0 5 rfl rfl (fun hlen0_5=>?_)
 obtain ⟨hb1,hb2⟩:=hb
 refine ad aa 2 rfl ?_
 refine az aa 4 rfl ?_
 refine ay (aM rfl rfl rfl (aH (by first|omega|(simp;done)|(simp;omega)))) rfl ?_
 refine ab aa 1 rfl ?_
 refine ae ?_
 refine ar ?_
 refine ah aa [] 0 rfl rfl rfl rfl rfl rfl ?_ ?_
 all_goals first|rfl|(simp [au];done)|(simp [au];omega)
theorem rH (c:bx) (hl:c.cD.length<=1048576):Fn Try.prog 108 [(.g [(cI c.bj),(cI c.held),(cI c.bX.cK),(cI c.bX.count),(cI c.bX.sum),(fq c.cD)])] (.v (.g [cI c.bj,cI c.held,cI c.bX.cK,cI c.bX.count,cI c.bX.sum,.s 0 0 2 c.cD.length])) [(0,.arr 125 2 (c.cD.map gU))]:=by
 refine Fn.mk' 8 [(0,(aG [(cI c.bj),(cI c.held),(cI c.bX.cK),(cI c.bX.count),(cI c.bX.sum),(fq c.cD)]))] Try.func108 rfl rfl rfl rfl ?_
 intro W0 T0
 refine fl 0 5 rfl rfl (fun hlen0_5=>?_)
 refine ad aa 2 rfl ?_
 refine az aa 2 rfl ?_
 refine aL 3 [2,1,0] (bJ 2 (pQ c.cD (by first|omega|(simp;done)|(simp;omega))) CM rfl rfl ⟨⟨_,rfl,.c (.d _)⟩,trivial⟩ trivial ⟨(fun _ _ _ _=>trivial),trivial⟩ rfl rfl rfl rfl) rfl ?_
 refine ab aa 2 rfl ?_
 refine ae ?_
 refine ad aa 2 rfl ?_
 refine ar ?_
 refine ah aa [2,1] 1 rfl rfl rfl rfl rfl rfl ?_ ?_
 all_goals first|rfl|(simp [au];done)|(simp [au];omega)

theorem vR (c:bx) (n time:Int) (x:bx) (e:Int) (hr:dK c n time=(x,e)):Fn Try.prog 80 [(.g [(cI c.bj),(cI c.held),(cI c.bX.cK),(cI c.bX.count),(cI c.bX.sum),(fq c.cD)]),(.c (cI n)),(.c (cI time))] (.t [(.g [(cI x.bj),(cI x.held),(cI x.bX.cK),(cI x.bX.count),(cI x.bX.sum),(.s 0 0 2 x.cD.length)]),(.c (cI e))]) [(0,(oT x.cD))]:=by
 refine Fn.mk' 60 [(0,(aG [(cI c.bj),(cI c.held),(cI c.bX.cK),(cI c.bX.count),(cI c.bX.sum),(fq c.cD)])),(1,(aI n)),(2,(aI time))] Try.func80 rfl rfl rfl rfl ?_
 intro W0 T0
 refine fl 0 5 rfl rfl (fun hlen0_5=>?_)
 have hrc:=@fV c
 have hrl:=@nf c
 refine ad aa 3 rfl ?_
 refine af ?_
 refine az aa 1 rfl ?_
 obtain ⟨e0,hr0⟩:∃ (e0:Int),cr c=e0:=⟨_,rfl⟩
 refine aL 2 [1,0] (bJ 2 (jJ c e0 hr0) yE rfl rfl ⟨⟨_,rfl,.g ⟨.d _,.d _,.d _,.d _,.d _,.d _,trivial⟩⟩,trivial⟩ trivial trivial rfl rfl rfl rfl) rfl ?_
 refine ab aa 1 rfl ?_
 refine ae ?_
 refine ad aa 2 rfl ?_
 refine ag rfl (fun hc1=>?_) (fun hc1=>?_)
 ·
  have hc1':=of_decide_eq_true hc1
  refine ad aa 4 rfl ?_
  refine ar ?_
  refine ao ?_
  refine cf 1 5 125 2 rfl rfl rfl ?_
  have hX:dK c n time=((⟨0,0,(⟨0,0,0⟩:cO),([]:List cX)⟩:bx),e0):=by
    unfold dK;rw [if_pos (by omega),hr0];rfl
  rw [hX] at hr;clear hX
  simp only [Prod.mk.injEq] at hr;obtain ⟨rfl,rfl⟩:=hr
  refine ah aa [2,1] 1 rfl rfl rfl rfl rfl rfl ?_ ?_
  all_goals first|rfl|(simp [au];done)|(simp [au];omega)
 have hc1':=of_decide_eq_false hc1
 refine aP ?_
 refine af ?_
 refine cq 30 ((((decide (n < 1))||(decide (n > 1000000)))||(decide (time < 0)))||(decide (time > 1000000))) ?_ ?_
 ·
  refine aw ?_
  refine ab aa 3 rfl ?_
  refine bA (t:=19) rfl (fun hb2=>?_) (fun hb2=>?_)
  ·
   have hb2':=of_decide_eq_true hb2
   refine ab aa 11 rfl ?_
   refine ae ?_
   exact aD.bG 15 rfl rfl (by first|(simp [hb2];done)|(simp_all;done)|(exfalso;simp_all;done)|(simp_all;omega)) rfl
  have hb2':=of_decide_eq_false hb2
  refine ab aa 4 rfl ?_
  refine bA (t:=23) rfl (fun hb3=>?_) (fun hb3=>?_)
  ·
   have hb3':=of_decide_eq_true hb3
   refine ab aa 7 rfl ?_
   refine ae ?_
   exact aD.bG 16 rfl rfl (by first|(simp [hb2,hb3];done)|(simp_all;done)|(exfalso;simp_all;done)|(simp_all;omega)) rfl
  have hb3':=of_decide_eq_false hb3
  refine ab aa 4 rfl ?_
  refine bA (t:=27) rfl (fun hb4=>?_) (fun hb4=>?_)
  ·
   have hb4':=of_decide_eq_true hb4
   refine ab aa 3 rfl ?_
   refine ae ?_
   exact aD.bG 17 rfl rfl (by first|(simp [hb2,hb3,hb4];done)|(simp_all;done)|(exfalso;simp_all;done)|(simp_all;omega)) rfl
  have hb4':=of_decide_eq_false hb4
  refine ab aa 3 rfl ?_
  refine ae ?_
  exact aD.bG 17 rfl rfl (by first|(simp [hb2,hb3,hb4];done)|(simp_all;done)|(exfalso;simp_all;done)|(simp_all;omega)) rfl
 refine ag rfl (fun hc5=>?_) (fun hc5=>?_)
 ·
  have hc5':=hc5;try simp only [bm,bM] at hc5'
  refine ad aa 3 rfl ?_
  refine ar ?_
  refine ao ?_
  refine cf 1 5 125 2 rfl rfl rfl ?_
  have hX:dK c n time=((⟨0,0,(⟨0,0,0⟩:cO),([]:List cX)⟩:bx),3):=by
    unfold dK;rw [if_neg (by omega),if_pos (by omega)];rfl
  rw [hX] at hr;clear hX
  simp only [Prod.mk.injEq] at hr;obtain ⟨rfl,rfl⟩:=hr
  refine ah aa [2,1] 1 rfl rfl rfl rfl rfl rfl ?_ ?_
  all_goals first|rfl|(simp [au];done)|(simp [au];omega)
 have hc5':=hc5;try simp only [bm,bM] at hc5'
 refine aP ?_
 refine af ?_
 refine az aa 2 rfl ?_
 refine aL 2 [1,0] (bJ 2 (pN c (by first|assumption|omega|(constructor<;>decide)|(have hz:=fV (by first|assumption|omega);omega))) ET rfl rfl ⟨⟨_,rfl,.g ⟨.d _,.d _,.d _,.d _,.d _,.d _,trivial⟩⟩,trivial⟩ trivial trivial rfl rfl rfl rfl) rfl ?_
 refine ab aa 1 rfl ?_
 refine ae ?_
 refine ag rfl (fun hc6=>?_) (fun hc6=>?_)
 ·
  have hc6':=of_decide_eq_true hc6
  refine ad aa 3 rfl ?_
  refine ar ?_
  refine ao ?_
  refine cf 1 5 125 2 rfl rfl rfl ?_
  have hX:dK c n time=((⟨0,0,(⟨0,0,0⟩:cO),([]:List cX)⟩:bx),10):=by
    unfold dK;rw [if_neg (by omega),if_neg (by omega),if_pos (by omega)];rfl
  rw [hX] at hr;clear hX
  simp only [Prod.mk.injEq] at hr;obtain ⟨rfl,rfl⟩:=hr
  refine ah aa [2,1] 1 rfl rfl rfl rfl rfl rfl ?_ ?_
  all_goals first|rfl|(simp [au];done)|(simp [au];omega)
 have hc6':=of_decide_eq_false hc6
 refine aP ?_
 refine az aa 7 rfl ?_
 obtain ⟨r1,e1,hr1⟩:∃ (r1:List cX) (e1:Int),ek c.bX c.cD (⟨time,n⟩:cX)=(r1,e1):=⟨_,_,rfl⟩
 refine aL 3 [2,1,0] (bJ 2 (yO c.bX c.cD (⟨time,n⟩:cX) r1 e1 hr1) FY rfl rfl ⟨⟨_,rfl,.g ⟨.d _,.d _,.d _,trivial⟩⟩,⟨_,rfl,.c (.d _)⟩,⟨_,rfl,.g ⟨.d _,.d _,trivial⟩⟩,trivial⟩ ⟨trivial,trivial,trivial⟩ ⟨(fun _ _ _ _=>trivial),trivial⟩ rfl rfl rfl rfl) rfl ?_
 refine ab aa 5 rfl ?_
 refine ae ?_
 refine af ?_
 refine ad aa 2 rfl ?_
 refine ag rfl (fun hc7=>?_) (fun hc7=>?_)
 ·
  have hc7':=of_decide_eq_true hc7
  refine ad aa 4 rfl ?_
  refine ar ?_
  refine ao ?_
  refine cf 1 5 125 2 rfl rfl rfl ?_
  have hX:dK c n time=((⟨0,0,(⟨0,0,0⟩:cO),([]:List cX)⟩:bx),e1):=by
    have ha:=hr1
    unfold dK;rw [if_neg (by omega),if_neg (by omega),if_neg (by omega),if_pos (by rw [ha];dsimp only;omega),ha];rfl
  rw [hX] at hr;clear hX
  simp only [Prod.mk.injEq] at hr;obtain ⟨rfl,rfl⟩:=hr
  refine ah aa [3,1] 1 rfl rfl rfl rfl rfl rfl ?_ ?_
  all_goals first|rfl|(simp [au];done)|(simp [au];omega)
 have hc7':=of_decide_eq_false hc7
 refine aP ?_
 refine ad aa 3 rfl ?_
 refine az aa 3 rfl ?_
 refine ay (aM rfl rfl rfl (aH (by first|omega|(simp;done)|(simp;omega)))) rfl ?_
 refine ab aa 2 rfl ?_
 refine ae ?_
 refine ad aa 3 rfl ?_
 refine ar ?_
 have hX:dK c n time=((⟨c.bj,c.held+n,c.bX,r1⟩:bx),0):=by
   have ha:=hr1
   unfold dK;rw [if_neg (by omega),if_neg (by omega),if_neg (by omega),if_neg (by rw [ha];dsimp only;omega),ha]
 rw [hX] at hr;clear hX
 simp only [Prod.mk.injEq] at hr;obtain ⟨rfl,rfl⟩:=hr
 refine ah aa [2,1] 1 rfl rfl rfl rfl rfl rfl ?_ ?_
 all_goals first|rfl|(simp [au];done)|(simp [au];omega)
theorem vQ (c:bx) (n:Int) (x:bx) (e:Int) (hr:eO c n=(x,e)):Fn Try.prog 91 [(.g [(cI c.bj),(cI c.held),(cI c.bX.cK),(cI c.bX.count),(cI c.bX.sum),(fq c.cD)]),(.c (cI n))] (.t [(.g [(cI x.bj),(cI x.held),(cI x.bX.cK),(cI x.bX.count),(cI x.bX.sum),(.s 0 0 2 x.cD.length)]),(.c (cI e))]) [(0,(oT x.cD))]:=by
 refine Fn.mk' 35 [(0,(aG [(cI c.bj),(cI c.held),(cI c.bX.cK),(cI c.bX.count),(cI c.bX.sum),(fq c.cD)])),(1,(aI n))] Try.func91 rfl rfl rfl rfl ?_
 intro W0 T0
 refine fl 0 5 rfl rfl (fun hlen0_5=>?_)
 have hrc:=@fV c
 have hrl:=@nf c
 refine ad aa 3 rfl ?_
 refine af ?_
 refine az aa 1 rfl ?_
 obtain ⟨e0,hr0⟩:∃ (e0:Int),cr c=e0:=⟨_,rfl⟩
 refine aL 2 [1,0] (bJ 2 (jJ c e0 hr0) yE rfl rfl ⟨⟨_,rfl,.g ⟨.d _,.d _,.d _,.d _,.d _,.d _,trivial⟩⟩,trivial⟩ trivial trivial rfl rfl rfl rfl) rfl ?_
 refine ab aa 1 rfl ?_
 refine ae ?_
 refine ad aa 2 rfl ?_
 refine ag rfl (fun hc1=>?_) (fun hc1=>?_)
 ·
  have hc1':=of_decide_eq_true hc1
  refine ad aa 4 rfl ?_
  refine ar ?_
  refine ao ?_
  refine cf 1 5 125 2 rfl rfl rfl ?_
  have hX:eO c n=((⟨0,0,(⟨0,0,0⟩:cO),([]:List cX)⟩:bx),e0):=by
    unfold eO;rw [if_pos (by omega),hr0];rfl
  rw [hX] at hr;clear hX
  simp only [Prod.mk.injEq] at hr;obtain ⟨rfl,rfl⟩:=hr
  refine ah aa [2,1] 1 rfl rfl rfl rfl rfl rfl ?_ ?_
  all_goals first|rfl|(simp [au];done)|(simp [au];omega)
 have hc1':=of_decide_eq_false hc1
 refine aP ?_
 refine af ?_
 refine cq 25 (((decide (n < 1))||(decide (n > 1000000)))||(decide (n > (1000000000000 - c.held)))) ?_ ?_
 ·
  refine aw ?_
  refine ab aa 3 rfl ?_
  refine bA (t:=15) rfl (fun hb2=>?_) (fun hb2=>?_)
  ·
   have hb2':=of_decide_eq_true hb2
   refine ab aa 10 rfl ?_
   refine ae ?_
   exact aD.bG 14 rfl rfl (by first|(simp [hb2];done)|(simp_all;done)|(exfalso;simp_all;done)|(simp_all;omega)) rfl
  have hb2':=of_decide_eq_false hb2
  refine ab aa 4 rfl ?_
  refine bA (t:=19) rfl (fun hb3=>?_) (fun hb3=>?_)
  ·
   have hb3':=of_decide_eq_true hb3
   refine ab aa 6 rfl ?_
   refine ae ?_
   exact aD.bG 15 rfl rfl (by first|(simp [hb2,hb3];done)|(simp_all;done)|(exfalso;simp_all;done)|(simp_all;omega)) rfl
  have hb3':=of_decide_eq_false hb3
  refine ab aa 3 rfl ?_
  refine dF (ak.yes rfl rfl rfl) (aM rfl rfl rfl (aH (by first|omega|(simp;done)|(simp;omega)))) rfl rfl ?_
  refine ab aa 2 rfl ?_
  refine ae ?_
  exact aD.bG 15 rfl rfl (by first|(simp [hb2,hb3];done)|(simp_all;done)|(exfalso;simp_all;done)|(simp_all;omega)) rfl
 refine ag rfl (fun hc4=>?_) (fun hc4=>?_)
 ·
  have hc4':=hc4;try simp only [bm,bM] at hc4'
  refine ad aa 3 rfl ?_
  refine ar ?_
  refine ao ?_
  refine cf 1 5 125 2 rfl rfl rfl ?_
  have hX:eO c n=((⟨0,0,(⟨0,0,0⟩:cO),([]:List cX)⟩:bx),3):=by
    unfold eO;rw [if_neg (by omega),if_pos (by omega)];rfl
  rw [hX] at hr;clear hX
  simp only [Prod.mk.injEq] at hr;obtain ⟨rfl,rfl⟩:=hr
  refine ah aa [2,1] 1 rfl rfl rfl rfl rfl rfl ?_ ?_
  all_goals first|rfl|(simp [au];done)|(simp [au];omega)
 have hc4':=hc4;try simp only [bm,bM] at hc4'
 refine aP ?_
 refine az aa 1 rfl ?_
 refine aL 3 [2,1,0] (bJ 2 (rH c (by first|assumption|omega)) CP rfl rfl ⟨⟨_,rfl,.g ⟨.d _,.d _,.d _,.d _,.d _,.d _,trivial⟩⟩,trivial⟩ ⟨trivial,trivial,trivial,trivial,trivial,trivial,trivial⟩ ⟨(fun _ _ _ _=>trivial),trivial⟩ rfl rfl rfl rfl) rfl ?_
 refine ab aa 1 rfl ?_
 refine ae ?_
 refine az aa 3 rfl ?_
 refine ay (aM rfl rfl rfl (aH (by first|omega|(simp;done)|(simp;omega)))) rfl ?_
 refine ab aa 2 rfl ?_
 refine ae ?_
 refine ad aa 3 rfl ?_
 refine ar ?_
 have hX:eO c n=((⟨c.bj,c.held+n,c.bX,c.cD⟩:bx),0):=by
   unfold eO;rw [if_neg (by omega),if_neg (by omega)]
 rw [hX] at hr;clear hX
 simp only [Prod.mk.injEq] at hr;obtain ⟨rfl,rfl⟩:=hr
 refine ah aa [2,1] 1 rfl rfl rfl rfl rfl rfl ?_ ?_
 all_goals first|rfl|(simp [au];done)|(simp [au];omega)
end Go.Proofs.Ytegepioggeggaaa.Dev
