/- A part of the proof: PlSort3, PlDay, PlDay2, PlBank, OpsB, Bank0, Pace1, Pace2, Del1, Pace3, Pace4, Pace5, Pace6, Card1, Card2. No condition. -/
import Derived.Test.YtegepioggeggaaaD06
set_option linter.unusedVariables false
set_option linter.unusedSimpArgs false
set_option maxHeartbeats 1000000
set_option maxRecDepth 100000
namespace Go.Proofs.Ytegepioggeggaaa.Dev
open Go.RowKit
def kD:List al->al->List al
 |[],r=>[r]
 |x::l,r=>if gl r x=true then r::x::l else x::kD l r
def gj (l:List al):List al:=l.foldl kD []
theorem uS {r z:al}:∀ {l:List al},z∈kD l r↔z=r\/z∈l
 |[]=>by simp [kD]
 |x::l=>by
  unfold kD
  split
  ·simp
  ·rw [List.mem_cons,uS,List.mem_cons]
   constructor
   ·rintro (h|h|h)
    ·exact .inr (.inl h)
    ·exact .inl h
    ·exact .inr (.inr h)
   ·rintro (h|h|h)
    ·exact .inr (.inl h)
    ·exact .inl h
    ·exact .inr (.inr h)
theorem uR {r:al}:∀ {l:List al},eO l->eO (kD l r)
 |[],_=>List.pairwise_singleton _ _
 |x::l,h=>by
  obtain ⟨h1,h2⟩:=List.pairwise_cons.1 h
  unfold kD
  split
  ·rename_i hc
   exact List.pairwise_cons.2 ⟨fun z hz=>by
    rcases List.mem_cons.1 hz with rfl|hz
    ·exact ku hc
    ·exact kr (ku hc) (h1 z hz),h⟩
  ·rename_i hc
   have hc:fL x r:=qS.1 (by simpa using hc)
   exact List.pairwise_cons.2 ⟨fun z hz=>by
    rcases uS.1 hz with rfl|hz
    ·exact hc
    ·exact h1 z hz,uR h2⟩
theorem ta {r:al}:∀ {l:List al},eO l->Same (l++[r]) (kD l r)
 |[],_=>Same.refl _
 |x::l,h=>by
  obtain ⟨h1,h2⟩:=List.pairwise_cons.1 h
  unfold kD
  split
  ·rename_i hc
   exact (Same.comm (u:=x::l) (v:=[r]) fun y hy z hz=>by
    rw [List.mem_singleton.1 hz]
    rcases List.mem_cons.1 hy with rfl|hy
    ·exact hc
    ·exact uL hc (h1 y hy))
  ·exact (Same.refl [x]).app (ta h2)
theorem qe:∀ (l acc:List al),eO acc->eO (l.foldl kD acc)/\Same (acc++l) (l.foldl kD acc)
 |[],acc,h=>⟨h,by rw [List.append_nil];exact Same.refl _⟩
 |x::l,acc,h=>by
  obtain ⟨h1,h2⟩:=qe l (kD acc x) (uR h)
  refine ⟨h1,?_⟩
  have h3:=((ta (r:=x) h).app (Same.refl l)).trans h2
  simpa using h3
theorem yL (l:List al):eO (gj l):=(qe l [] List.Pairwise.nil).1
theorem mK (l:List al):Same l (gj l):=(qe l [] List.Pairwise.nil).2
theorem xz {l d:List al} (h:eO d) (h':Same l d):gj l=d:=eO.uniq (yL l) h ((mK l).symm.trans h')
theorem sD (l:List al):(gj l).length=l.length:=(mK l).len.symm
theorem yM {l:List al} (h:l.length=0):gj l=l:=by obtain rfl:=List.eq_nil_of_length_eq_zero h;rfl
def jn (d:List al) (a s:Nat):List al:=(d.drop a).take s
def sl (s a:Nat) (d:List al):Prop:=(∃ q,a=q * s)/\∀ k,(k+1) * s<=a->eO (jn d (k * s) s)
def sj (s:Nat) (d:List al):Prop:=∀ k,eO (jn d (k * s) s)
def mj (s a:Nat) (d:List al):Prop:=sl (2 * s) a d/\∀ k,a<=k * s->eO (jn d (k * s) s)
theorem Part.Ds {d y:List al} {a b:Nat} (h:Part d y a b) {c s:Nat} (hc:c+s<=a):jn y c s=jn d c s:=by
 have e:∀ z:List al,jn z c s=((z.take a).drop c).take s:=fun z=>by
  unfold jn;rw [List.drop_take,List.take_take,Nat.min_eq_left (by omega)]
 rw [e y,e d,h.l]
theorem Part.FY {d y:List al} {a b:Nat} (h:Part d y a b) {c s:Nat} (hc:b<=c):jn y c s=jn d c s:=by
 have e:∀ z:List al,jn z c s=((z.drop b).drop (c - b)).take s:=fun z=>by
  unfold jn;rw [List.drop_drop,show b+(c - b)=c by omega]
 rw [e y,e d,h.r]
theorem wC {d:List al} {a s:Nat} (h:d.length<=a):jn d a s=[]:=by unfold jn;rw [List.drop_of_length_le h];simp
theorem rK {d:List al} {a s t:Nat} (hs:d.length<=a+s) (ht:d.length<=a+t):jn d a s=jn d a t:=by
 unfold jn;rw [List.take_of_length_le (by rw [List.length_drop];omega),List.take_of_length_le (by rw [List.length_drop];omega)]
theorem wA:eO []:=List.Pairwise.nil
theorem CC {k q s:Nat} (h:(k+1) * s<=q * s+s) (hs:0 < s):k<=q:=by
 rw [<-Nat.succ_mul] at h
 have:=Nat.le_of_mul_le_mul_right h hs
 omega
theorem rk {s:Nat} (hs:0 < s) {d:List al}:sl s 0 d:=⟨⟨0,by simp⟩,fun k h=>by rw [Nat.succ_mul] at h;omega⟩
theorem tk {s a:Nat} {d y:List al} (hs:0 < s) (h:sl s a d) (p:Part d y a (a+s)):sl s (a+s) y:=by
 obtain ⟨⟨q,hq⟩,h2⟩:=h
 refine ⟨⟨q+1,by rw [Nat.succ_mul,hq]⟩,fun k hk=>?_⟩
 subst hq
 have hkq:=CC hk hs
 by_cases e:k=q
 ·subst e
  have:=p.s
  rw [Nat.add_sub_cancel_left] at this
  exact this
 ·have h3:(k+1) * s<=q * s:=Nat.mul_le_mul_right s (by omega)
  rw [p.Ds (by rw [Nat.succ_mul] at h3;exact h3)]
  exact h2 k h3
theorem vn {s a:Nat} {d y:List al} (hs:0 < s) (h:sl s a d) (ha:a<=y.length) (p:Part d y a y.length) (hn:y.length<=a+s):sj s y:=by
 obtain ⟨⟨q,rfl⟩,h2⟩:=h
 intro k
 rcases Nat.lt_trichotomy k q with e|e|e
 ·have h3:(k+1) * s<=q * s:=Nat.mul_le_mul_right s (by omega)
  rw [p.Ds (by rw [Nat.succ_mul] at h3;exact h3)]
  exact h2 k h3
 ·subst e
  have h3:=p.s
  rw [rK (t:=y.length - k * s) hn (by omega)]
  exact h3
 ·have h3:(q+1) * s<=k * s:=Nat.mul_le_mul_right s (by omega)
  rw [Nat.succ_mul] at h3
  rw [wC (by omega)];exact wA
theorem Ax {s:Nat} {d:List al} (h:sj s d) (hs:d.length<=s):eO d:=by
 have:=h 0
 unfold jn at this
 rw [Nat.zero_mul,List.drop_zero,List.take_of_length_le hs] at this
 exact this
theorem xS {s:Nat} (hs:0 < s) {d:List al} (h:sj s d):mj s 0 d:=⟨rk (by omega),fun k _=>h k⟩
theorem mj.mul {s a:Nat} {d:List al} (h:mj s a d):∃ k,a=k * s:=by
 obtain ⟨q,hq⟩:=h.1.1
 exact ⟨q * 2,by rw [hq,Nat.mul_assoc]⟩
theorem AX {s a:Nat} {d:List al} (h:mj s a d):eO (jn d a s)/\eO (jn d (a+s) s):=by
 obtain ⟨k,hk⟩:=h.mul
 refine ⟨?_,?_⟩
 ·have:=h.2 k (by omega);rwa [<-hk] at this
 ·have:=h.2 (k+1) (by rw [Nat.succ_mul];omega);rwa [Nat.succ_mul,<-hk] at this
theorem zt {s a:Nat} {d y:List al} (hs:0 < s) (h:mj s a d) (p:Part d y a (a+2 * s)):mj s (a+2 * s) y:=
 ⟨tk (by omega) h.1 p,fun k hk=>by rw [p.FY hk];exact h.2 k (by omega)⟩
theorem AY {s a:Nat} {d y:List al} (hs:0 < s) (h:mj s a d) (ha:a<=y.length) (p:Part d y a y.length) (hn:y.length<=a+2 * s):sj (s * 2) y:=by
 rw [Nat.mul_comm];exact vn (by omega) h.1 ha p hn
theorem zu {s a:Nat} {d:List al} (hs:0 < s) (h:mj s a d) (hn:d.length<=a+s):sj (s * 2) d:=by
 rw [Nat.mul_comm]
 obtain ⟨⟨⟨q,rfl⟩,h2⟩,h3⟩:=h
 intro k
 rcases Nat.lt_trichotomy k q with e|e|e
 ·exact h2 k (Nat.mul_le_mul_right _ (by omega))
 ·subst e
  rw [rK (t:=s) (by omega) hn]
  have:=h3 (k * 2) (by rw [Nat.mul_assoc];omega)
  rwa [Nat.mul_assoc] at this
 ·have h4:(q+1) * (2 * s)<=k * (2 * s):=Nat.mul_le_mul_right _ (by omega)
  rw [Nat.succ_mul] at h4
  rw [wC (by omega)];exact wA
theorem uf {s a b:Nat} {d:List al} (hs:0 < s) (h:mj s a d) (h1:a+s < b) (h2:b<=d.length) (h3:b=a+2 * s\/(b=d.length/\b<=a+2 * s)):Part d (dw (b - a) a (a+s) b d) a b:=by
 obtain ⟨s1,s2⟩:=AX h
 refine yF (by omega) h1 h2 (Nat.le_refl _) ?_ ?_
 ·rw [Nat.add_sub_cancel_left];exact s1
 ·rcases h3 with h3|⟨h3,h4⟩
  ·rw [show b - (a+s)=s by omega];exact s2
  ·have:=rK (d:=d) (a:=a+s) (s:=s) (t:=b - (a+s)) (by omega) (by omega)
   show eO (jn d (a+s) (b - (a+s)))
   rw [<-this];exact s2
def mh (r:al):Prop:=r.kind < 1\/r.kind > 8
def nt (r:al):Prop:=r.ay < 0\/r.ay > 7\/r.ba < 0\/r.ba > 29\/r.sum < 1\/r.sum > 1000000
instance (r:al):Decidable (mh r):=by unfold mh;infer_instance
instance (r:al):Decidable (nt r):=by unfold nt;infer_instance
def me:List al->Int->cV
 |[],_=>⟨0,0⟩
 |r::l,i=>if mh r then ⟨1,i⟩ else if nt r then ⟨3,i⟩ else me l (i+1)
def gd (l:List al):cV:=if l.length > 100 then ⟨5,0⟩ else me l 0
theorem nZ {l:List al} {q:Nat} {x:al} (h:l[q]?=some x):me (l.drop q) q=if mh x then ⟨1,q⟩ else if nt x then ⟨3,q⟩ else me (l.drop (q+1)) ((q+1:Nat):Int):=by
 obtain ⟨hq,rfl⟩:=List.getElem?_eq_some_iff.1 h
 rw [List.drop_eq_getElem_cons hq];rfl
theorem yV {l:List al} {q:Nat} {i:Int} (h:l.length<=q):me (l.drop q) i=⟨0,0⟩:=by rw [List.drop_of_length_le h];rfl
def wN (r:al):Prop:=¬mh r/\¬nt r
theorem wJ:∀ {l:List al} {i:Int},(me l i).err=0↔∀ x∈l,wN x
 |[],i=>by simp [me]
 |r::l,i=>by
  unfold me
  split
  ·rename_i h
   simp only [List.mem_cons,forall_eq_or_imp]
   exact ⟨fun e=>absurd e (by decide),fun e=>absurd h e.1.1⟩
  ·split
   ·rename_i h
    simp only [List.mem_cons,forall_eq_or_imp]
    exact ⟨fun e=>absurd e (by decide),fun e=>absurd h e.1.2⟩
   ·rename_i h1 h2
    rw [wJ]
    simp only [List.mem_cons,forall_eq_or_imp]
    exact ⟨fun e=>⟨⟨h1,h2⟩,e⟩,fun e=>e.2⟩
theorem yx {l:List al}:(gd l).err=0↔l.length<=100/\∀ x∈l,wN x:=by
 unfold gd
 split
 ·exact ⟨fun e=>absurd e (by decide),fun e=>by omega⟩
 ·rw [wJ];exact ⟨fun e=>⟨by omega,e⟩,fun e=>e.2⟩
theorem EY {x:al} (h:wN x):0<=x.ay/\x.ay<=7/\0<=x.ba/\x.ba<=29/\1<=x.kind/\x.kind<=8/\1<=x.sum/\x.sum<=1000000:=by
 unfold wN mh nt at h;omega
theorem qA {l:List al} {q:Nat} {x:al} (h:l[q]?=some x):l.take (q+1)=l.take q++[x]:=by
 rw [List.take_add_one,h];rfl
def lO (n:Int):Nat->List Int
 |0=>[]
 |k+1=>n / 256 ^ k % 256::lO n k
theorem oZ (n:Int):∀ k,(lO n k).length=k
 |0=>rfl
 |k+1=>by unfold lO;rw [List.length_cons,oZ n k]
theorem BM {n:Int} {k:Nat} (h:1<=k):lO n k=n / 256 ^ (k - 1) % 256::lO n (k - 1):=by
 obtain ⟨j,rfl⟩:∃ j,k=j+1:=⟨k - 1,by omega⟩
 rfl
theorem CB (k:Nat):(2:Int) ^ (8 * k)=256 ^ k:=by rw [Int.pow_mul];rfl
theorem FW {k:Nat} {b n:Int} (h1:1<=k) (hb:b=8 * ((k:Int) - 1)):n / 2 ^ b.toNat=n / 256 ^ (k - 1):=by
 subst hb
 rw [show (8 * ((k:Int) - 1)).toNat=8 * (k - 1) by omega,CB]
def uC (x:al):List Int:=[x.ay % 256,x.ba % 256,x.kind % 256]++lO x.sum 3
def lf:List al->Int
 |[]=>0
 |x::l=>x.sum+lf l
theorem At (u v:List al):lf (u++v)=lf u+lf v:=by
 induction u with
 |nil=>simp [lf]
 |cons x u ih=>simp only [List.cons_append,lf,ih];omega
theorem yI {l:List al} {q:Nat} {x:al} (h:l[q]?=some x):lf (l.take (q+1))=lf (l.take q)+x.sum:=by
 rw [qA h,At];simp [lf]
def lJ (l r:List al):List Int:=((l.length:Int) % 256)::r.flatMap uC
theorem xR {l r:List al} {q:Nat} {x:al} (h:r[q]?=some x):lJ l (r.take (q+1))=lJ l (r.take q)++uC x:=by
 unfold lJ;rw [qA h,List.flatMap_append];simp
theorem AJ (x:al):(uC x).length=6:=by unfold uC;rw [List.length_append,oZ];rfl
theorem zr (l r:List al):(lJ l r).length=1+6 * r.length:=by
 unfold lJ
 rw [List.length_cons]
 induction r with
 |nil=>rfl
 |cons x r ih=>rw [List.flatMap_cons,List.length_append,AJ,List.length_cons];omega
def jI (l:List al):List Int×cV:=if (gd l).err=0 then (lJ l (gj l)++lO (lf (gj l)) 4,⟨0,0⟩) else ([],gd l)

def dv (e err:Int):Int:=if e=0 then err else e
def dQ (l:List Entry) (e src dst n:Int):List Entry×Int:=
 if dv e (iL l src dst n).2=0 then ((iL l src dst n).1,0) else (l,dv e (iL l src dst n).2)
def cv (l:List bx) (e k held bp:Int):List bx×Int:=
 match l[k.toNat]? with
 |none=>(l,e)
 |some c=>if dv e (dT c held bp).2=0 then (l.set k.toNat (dT c held bp).1,0) else (l,dv e (dT c held bp).2)
def eA (s:bS) (e:Int) (t:aV):bS×Int:=if dv e (fF s t).2=0 then ((fF s t).1,0) else (s,dv e (fF s t).2)
def iq (l:List al) (e:Int) (r:al):List al×Int:=if l.length=100 then (l,dv e 5) else (l++[r],e)
theorem nS {l:List bx} {e k held bp:Int} {c:bx} (h:l[k.toNat]?=some c):cv l e k held bp=if dv e (dT c held bp).2=0 then (l.set k.toNat (dT c held bp).1,0) else (l,dv e (dT c held bp).2):=by
 unfold cv;rw [h]
def dW (aq:List bB) (due:List Int) (an:List bx) (book:List Entry) (e:Int) (t:aV):List Int×List bx×List Entry×Int:=
 match aq[t.ba.toNat]? with
 |none=>(due,an,book,e)
 |some a=>
  if t.kind=1 then (due.set a.ay.toNat (IntKind.i64.wrap (due.getD a.ay.toNat 0+t.sum)),an,dQ book e 1 (50+a.ay) t.sum)
  else if t.kind=2 then (due,(cv an e a.aK 0 t.sum).1,dQ book (cv an e a.aK 0 t.sum).2 1 (10+a.aK) t.sum)
  else if t.kind=3 then (due.set a.ay.toNat (IntKind.i64.wrap (due.getD a.ay.toNat 0 - t.sum)),an,dQ book e (50+a.ay) 2 t.sum)
  else (due,an,book,e)
structure Bk where (time:Int) (down:Bool) (an:List bx) (due:List Int) (aq:List bB) (s0 s1:bS) (n0 n1:Int) (w0 w1:List bU) (bF:cr) (aQ:List al) (book:List Entry)
 deriving DecidableEq
def dx (b c:Bk) (e:Int):Bk×Answer:=if e=0 then (c,⟨0,0⟩) else (b,⟨e,0⟩)
def fw (b:Bk) (d:aR):Bk×Answer:=
 if d.n < 0\/d.n>=b.an.length then (b,⟨6,0⟩)
 else if d.sum < 1\/d.sum > 1000000 then (b,⟨3,0⟩)
 else dx b {b with an:=(cv b.an 0 d.n 0 d.sum).1,book:=(dQ b.book (cv b.an 0 d.n 0 d.sum).2 0 (10+d.n) d.sum).1} (dQ b.book (cv b.an 0 d.n 0 d.sum).2 0 (10+d.n) d.sum).2
def gm (b:Bk) (d:aR):Bk×Answer:=
 if d.n < 0\/d.n>=b.due.length then (b,⟨6,0⟩)
 else if b.due.getD d.n.toNat 0<=0 then (b,⟨10,0⟩)
 else dx b {b with due:=b.due.set d.n.toNat 0,book:=(dQ b.book 0 (50+d.n) 0 (b.due.getD d.n.toNat 0)).1} (dQ b.book 0 (50+d.n) 0 (b.due.getD d.n.toNat 0)).2
def fD (time:Int):List bB->Nat->List bx->List bB->Int->List bx×List bB×Int
 |[],_,an,aq,e=>(an,aq,e)
 |a::l,i,an,aq,e=>fD time l (i+1) (cv an e a.aK (bq (ed a time) - bq a) 0).1 (aq.set i (ed a time)) (cv an e a.aK (bq (ed a time) - bq a) 0).2
def gL (b:Bk):Bk:=if (fD b.time b.aq 0 b.an b.aq 0).2.2=0 then {b with an:=(fD b.time b.aq 0 b.an b.aq 0).1,aq:=(fD b.time b.aq 0 b.an b.aq 0).2.1} else b
def fi (b:Bk) (d:aR):Bk×Answer:=
 if d.sum < 0\/d.sum > 1000000 - b.time then (b,⟨3,0⟩)
 else (if b.down=true then {b with time:=b.time+d.sum} else gL {b with time:=b.time+d.sum},⟨0,0⟩)
def gr (l:List bU) (ks:List aV) (n:Int):List bU:=l++ks.map (fun t=>⟨t,-1⟩)++[⟨⟨0,0,0,0⟩,n⟩]
def gX (w:List bU) (ks:List aV) (n:Int):List bU×Answer:=if (gr w ks n).length > 60 then (w,⟨5,0⟩) else (gr w ks n,⟨0,0⟩)
def eu (s0 s1:bS) (n0 n1:Int) (w0 w1:List bU) (d:aR):List bU×List bU×Answer:=
 if d.n=0 then (w0,gX w1 s0.kept n0) else if d.n=1 then ((gX w0 s1.kept n1).1,w1,(gX w0 s1.kept n1).2) else (w0,w1,⟨6,0⟩)
def iK (aQ:List al) (days:List (List Int)):List al×List (List Int)×Answer:=
 if (jI aQ).2.err≠0 then (aQ,days,⟨(jI aQ).2.err,0⟩) else ([],days++[(jI aQ).1],⟨0,0⟩)
def gu (e:Int):Int:=if e=10 then 12 else e
def dD (b:Bk) (d:aR):Bk×Answer:=
 if d.n < 0\/d.n>=b.an.length\/d.ay < 0\/d.ay>=b.due.length then (b,⟨6,0⟩)
 else if b.down=true then
  (if gu (cf b.bF ⟨d.n,d.ay,d.sum,b.time⟩).2=0/\(b.aq.length:Int)+(cf b.bF ⟨d.n,d.ay,d.sum,b.time⟩).1.aZ.length > 30 then (b,⟨5,0⟩)
  else if gu (cf b.bF ⟨d.n,d.ay,d.sum,b.time⟩).2≠0 then (b,⟨gu (cf b.bF ⟨d.n,d.ay,d.sum,b.time⟩).2,0⟩)
  else ({b with bF:=(cf b.bF ⟨d.n,d.ay,d.sum,b.time⟩).1},⟨0,(b.aq.length:Int)+(cf b.bF ⟨d.n,d.ay,d.sum,b.time⟩).1.aZ.length - 1⟩))
 else if (cY d.n d.ay d.sum b.time).2=0/\b.aq.length=30 then (b,⟨5,0⟩)
 else if (cY d.n d.ay d.sum b.time).2≠0 then (b,⟨(cY d.n d.ay d.sum b.time).2,0⟩)
 else match b.an[d.n.toNat]? with
  |none=>(b,⟨0,0⟩)
  |some c=>
   if (dE c d.sum b.time).2≠0 then (b,⟨(dE c d.sum b.time).2,0⟩)
   else ({b with an:=b.an.set d.n.toNat (dE c d.sum b.time).1,aq:=b.aq++[(cY d.n d.ay d.sum b.time).1]},⟨0,b.aq.length⟩)
theorem tH (s:cr) (a:ca):(cf s a).1.aZ.length<=s.aZ.length+1:=by
 unfold cf;(repeat' split)<;>simp [fy]
def kx (an:List bx) (k:Int):Int:=
 match an[k.toNat]? with
 |none=>0
 |some c=>c.bp - c.held
def dR (b:Bk) (a cw:bB) (d:aR):List bx×List Int×List Entry×bS×bS×Int:=
 if d.move=1\/d.move=4 then ((cv b.an 0 a.aK (bq a - bq cw) 0).1,b.due,b.book,b.s0,b.s1,(cv b.an 0 a.aK (bq a - bq cw) 0).2)
 else if d.move=2\/d.move=3 then
  ((cv b.an 0 a.aK (bq a - bq cw) (0 - d.sum)).1,b.due,(dQ b.book (cv b.an 0 a.aK (bq a - bq cw) (0 - d.sum)).2 (10+a.aK) 1 d.sum).1,
   (eA b.s0 (dQ b.book (cv b.an 0 a.aK (bq a - bq cw) (0 - d.sum)).2 (10+a.aK) 1 d.sum).2 ⟨0,1,d.n,d.sum⟩).1,b.s1,
   (eA b.s0 (dQ b.book (cv b.an 0 a.aK (bq a - bq cw) (0 - d.sum)).2 (10+a.aK) 1 d.sum).2 ⟨0,1,d.n,d.sum⟩).2)
 else if d.move=5 then
  (b.an,b.due.set a.ay.toNat (IntKind.i64.wrap (b.due.getD a.ay.toNat 0 - d.sum)),(dQ b.book 0 (50+a.ay) 1 d.sum).1,b.s0,(eA b.s1 (dQ b.book 0 (50+a.ay) 1 d.sum).2 ⟨0,2,d.n,d.sum⟩).1,(eA b.s1 (dQ b.book 0 (50+a.ay) 1 d.sum).2 ⟨0,2,d.n,d.sum⟩).2)
 else if d.move=6 then ((cv b.an 0 a.aK 0 d.sum).1,b.due,(dQ b.book (cv b.an 0 a.aK 0 d.sum).2 2 (10+a.aK) d.sum).1,b.s0,b.s1,(dQ b.book (cv b.an 0 a.aK 0 d.sum).2 2 (10+a.aK) d.sum).2)
 else if d.move=7 then (b.an,b.due,b.book,(eA b.s0 0 ⟨0,3,d.n,d.sum⟩).1,b.s1,(eA b.s0 0 ⟨0,3,d.n,d.sum⟩).2)
 else if d.move=8 then ((cv b.an 0 a.aK 0 (0 - d.sum)).1,b.due,(dQ b.book (cv b.an 0 a.aK 0 (0 - d.sum)).2 (10+a.aK) 2 d.sum).1,b.s0,b.s1,(dQ b.book (cv b.an 0 a.aK 0 (0 - d.sum)).2 (10+a.aK) 2 d.sum).2)
 else (b.an,b.due,b.book,b.s0,b.s1,0)
def nk (b:Bk) (a:bB) (d:aR) (r:List bx×List Int×List Entry×bS×bS×Int):Bk×Answer:=
 dx b { b with an := r.1, due := r.2.1, book := r.2.2.1, s0 := r.2.2.2.1, s1 := r.2.2.2.2.1, aQ := (iq b.aQ r.2.2.2.2.2 ⟨a.ay, d.n, d.move, d.sum⟩).1, aq := b.aq.set d.n.toNat a } (iq b.aQ r.2.2.2.2.2 ⟨a.ay, d.n, d.move, d.sum⟩).2
def dG (b:Bk) (d:aR):Bk×Answer:=
 if b.down=true then (b,⟨12,0⟩)
 else if d.n < 0\/d.n>=b.aq.length then (b,⟨6,0⟩)
 else match b.aq[d.n.toNat]? with
  |none=>(b,⟨0,0⟩)
  |some cw=>
   if (bZ cw d.move d.sum).2≠0 then (b,⟨(bZ cw d.move d.sum).2,0⟩)
   else if d.move=1/\d.sum > kx b.an (bZ cw d.move d.sum).1.aK then (b,⟨10,0⟩)
   else nk b (bZ cw d.move d.sum).1 d (dR b (bZ cw d.move d.sum).1 cw d)
theorem iv {a:bB} (h:0<=a.sum/\a.sum<=1000000/\0<=a.captured/\a.captured<=a.sum/\0<=a.bw/\0<=a.bg/\a.bw+a.bg<=a.captured/\0<=a.aK/\a.aK<=7/\0<=a.ay/\a.ay<=7/\0<=a.cO/\a.cO<=1000100):bE a=0:=by
 unfold bE;rw [if_neg (by omega),if_neg (by omega)]
theorem eS {α:Type} {x b:α} {e:Int} (h:(x,e)=(b,(0:Int))):x=b/\e=0:=Prod.mk.inj h
theorem vV {a b:bB} {k n:Int} (hw:bE a=0) (h1:1<=n) (h2:n<=1000000) (h:dh a k n=(b,0)):bE b=0/\b.aK=a.aK/\b.ay=a.ay:=by
 have hr:=eJ hw
 unfold dh at h
 by_cases c1:a.shut=true
 ·rw [if_pos c1] at h;have:=(eS h).2;omega
 rw [if_neg c1] at h
 by_cases c2:k=1
 ·rw [if_pos c2] at h
  by_cases c3:n > 1000000 - a.sum
  ·rw [if_pos c3] at h;have:=(eS h).2;omega
  ·rw [if_neg c3] at h;obtain ⟨rfl,_⟩:=eS h
   exact ⟨iv (by dsimp only;omega),rfl,rfl⟩
 rw [if_neg c2] at h
 by_cases c3:n > a.sum - a.captured
 ·rw [if_pos c3] at h;have:=(eS h).2;omega
 rw [if_neg c3] at h
 by_cases c4:k=4
 ·rw [if_pos c4] at h;obtain ⟨rfl,_⟩:=eS h
  exact ⟨iv (by dsimp only;omega),rfl,rfl⟩
 ·rw [if_neg c4] at h;obtain ⟨rfl,_⟩:=eS h
  exact ⟨iv (by dsimp only;omega),rfl,rfl⟩
theorem mf {a b:bB} {k n:Int} (h:bZ a k n=(b,0)):bE a=0/\bE b=0/\b.aK=a.aK/\b.ay=a.ay/\1<=k/\k<=8/\1<=n/\n<=1000000:=by
 unfold bZ at h
 by_cases c0:bE a≠0
 ·rw [if_pos c0] at h;exact absurd (eS h).2 c0
 rw [if_neg c0] at h
 have hw:bE a=0:=by omega
 have hr:=eJ hw
 by_cases c1:k < 1\/k > 8
 ·rw [if_pos c1] at h;have:=(eS h).2;omega
 rw [if_neg c1] at h
 by_cases c2:n < 1\/n > 1000000
 ·rw [if_pos c2] at h;have:=(eS h).2;omega
 rw [if_neg c2] at h
 have hb:bE b=0/\b.aK=a.aK/\b.ay=a.ay:=by
  by_cases k5:k=5
  ·rw [if_pos k5] at h
   by_cases c:n > a.captured - a.bw - a.bg
   ·rw [if_pos c] at h;have:=(eS h).2;omega
   ·rw [if_neg c] at h;obtain ⟨rfl,_⟩:=eS h;exact ⟨iv (by dsimp only;omega),rfl,rfl⟩
  rw [if_neg k5] at h
  by_cases k6:k=6
  ·rw [if_pos k6] at h
   by_cases c:n > a.captured - a.bw - a.bg
   ·rw [if_pos c] at h;have:=(eS h).2;omega
   ·rw [if_neg c] at h;obtain ⟨rfl,_⟩:=eS h;exact ⟨iv (by dsimp only;omega),rfl,rfl⟩
  rw [if_neg k6] at h
  by_cases k7:k=7
  ·rw [if_pos k7] at h
   by_cases c:n > a.bg
   ·rw [if_pos c] at h;have:=(eS h).2;omega
   ·rw [if_neg c] at h;obtain ⟨rfl,_⟩:=eS h;exact ⟨iv (by dsimp only;omega),rfl,rfl⟩
  rw [if_neg k7] at h
  by_cases k8:k=8
  ·rw [if_pos k8] at h
   by_cases c:n > a.bg
   ·rw [if_pos c] at h;have:=(eS h).2;omega
   ·rw [if_neg c] at h;obtain ⟨rfl,_⟩:=eS h;exact ⟨iv (by dsimp only;omega),rfl,rfl⟩
  rw [if_neg k8] at h
  by_cases c:(dh a k n).2≠0
  ·rw [if_pos c] at h;exact absurd (eS h).2 c
  ·rw [if_neg c] at h;exact vV hw (by omega) (by omega) h
 exact ⟨hw,hb.1,hb.2.1,hb.2.2,by omega,by omega,by omega,by omega⟩
theorem An {c:bx} (h:cu c=0):-9223372036854775808<=c.bp - c.held/\c.bp - c.held<=9223372036854775807:=by
 have:=gq h;omega
def fZ:List ca->List bx->List bB->List bx×List bB×Int
 |[],cs,xs=>(cs,xs,0)
 |x::l,cs,xs=>
  if (cY x.aK x.ay x.sum x.time).2≠0 then (cs,xs,(cY x.aK x.ay x.sum x.time).2)
  else match cs[x.aK.toNat]? with
   |none=>(cs,xs,0)
   |some c=>if (eK c x.sum).2≠0 then (cs,xs,(eK c x.sum).2) else fZ l (cs.set x.aK.toNat (eK c x.sum).1) (xs++[(cY x.aK x.ay x.sum x.time).1])
theorem pO {l:List ca} {q:Nat} {x:ca} {cs:List bx} {xs:List bB} (h:l[q]?=some x):fZ (l.drop q) cs xs=
  if (cY x.aK x.ay x.sum x.time).2≠0 then (cs,xs,(cY x.aK x.ay x.sum x.time).2)
  else match cs[x.aK.toNat]? with
   |none=>(cs,xs,0)
   |some c=>if (eK c x.sum).2≠0 then (cs,xs,(eK c x.sum).2) else fZ (l.drop (q+1)) (cs.set x.aK.toNat (eK c x.sum).1) (xs++[(cY x.aK x.ay x.sum x.time).1]):=by
 obtain ⟨hq,rfl⟩:=List.getElem?_eq_some_iff.1 h
 rw [List.drop_eq_getElem_cons hq];rfl
def iW (b:Bk):Bk×Answer:=
 if b.down=false then (b,⟨8,0⟩)
 else if (cS b.bF).2.2≠0 then (b,⟨(cS b.bF).2.2,0⟩)
 else if (fZ (cS b.bF).2.1 b.an b.aq).2.2≠0 then (b,⟨(fZ (cS b.bF).2.1 b.an b.aq).2.2,0⟩)
 else (gL {b with an:=(fZ (cS b.bF).2.1 b.an b.aq).1,aq:=(fZ (cS b.bF).2.1 b.an b.aq).2.1,bF:=(cS b.bF).1,down:=false},⟨0,0⟩)
def eV (b:Bk) (d:aR):Bk×Answer:=
 match b.w0[0]? with
 |none=>(b,⟨6,0⟩)
 |some p=>
  if d.kind=7 then ({b with w0:=b.w0.drop 1},⟨0,0⟩)
  else if p.seen>=0 then (if (dK b.s0 p.seen).2=0 then ({b with w0:=b.w0.drop 1,s0:=(dK b.s0 p.seen).1},⟨0,0⟩) else (b,⟨(dK b.s0 p.seen).2,0⟩))
  else if (fo b.n0 p.cq).2=true then
   dx b { b with w0 := b.w0.drop 1, n0 := (fo b.n0 p.cq).1, due := (dW b.aq b.due b.an b.book 0 p.cq).1, an := (dW b.aq b.due b.an b.book 0 p.cq).2.1, book := (dW b.aq b.due b.an b.book 0 p.cq).2.2.1 } (dW b.aq b.due b.an b.book 0 p.cq).2.2.2
  else ({b with w0:=b.w0.drop 1,n0:=(fo b.n0 p.cq).1},⟨0,0⟩)
def eU (b:Bk) (d:aR):Bk×Answer:=
 match b.w1[0]? with
 |none=>(b,⟨6,0⟩)
 |some p=>
  if d.kind=7 then ({b with w1:=b.w1.drop 1},⟨0,0⟩)
  else if p.seen>=0 then (if (dK b.s1 p.seen).2=0 then ({b with w1:=b.w1.drop 1,s1:=(dK b.s1 p.seen).1},⟨0,0⟩) else (b,⟨(dK b.s1 p.seen).2,0⟩))
  else if (fo b.n1 p.cq).2=true then
   dx b { b with w1 := b.w1.drop 1, n1 := (fo b.n1 p.cq).1, due := (dW b.aq b.due b.an b.book 0 p.cq).1, an := (dW b.aq b.due b.an b.book 0 p.cq).2.1, book := (dW b.aq b.due b.an b.book 0 p.cq).2.2.1 } (dW b.aq b.due b.an b.book 0 p.cq).2.2.2
  else ({b with w1:=b.w1.drop 1,n1:=(fo b.n1 p.cq).1},⟨0,0⟩)
def bP (b:Bk) (d:aR):Bk×Answer:=if d.n=0 then eV b d else if d.n=1 then eU b d else (b,⟨6,0⟩)
def dc (b:Bk) (days:List (List Int)) (d:aR):Bk×List (List Int)×Answer:=
 if d.kind=1 then ((fw b d).1,days,(fw b d).2)
 else if d.kind=2 then ((dD b d).1,days,(dD b d).2)
 else if d.kind=3 then ((dG b d).1,days,(dG b d).2)
 else if d.kind=4 then ((fi b d).1,days,(fi b d).2)
 else if d.kind=5 then ({b with w0:=(eu b.s0 b.s1 b.n0 b.n1 b.w0 b.w1 d).1,w1:=(eu b.s0 b.s1 b.n0 b.n1 b.w0 b.w1 d).2.1},days,(eu b.s0 b.s1 b.n0 b.n1 b.w0 b.w1 d).2.2)
 else if d.kind=6\/d.kind=7 then ((bP b d).1,days,(bP b d).2)
 else if d.kind=8 then (if b.down=true then (b,days,⟨8,0⟩) else ({b with down:=true},days,⟨0,0⟩))
 else if d.kind=9 then ((iW b).1,days,(iW b).2)
 else if d.kind=10 then ({b with aQ:=(iK b.aQ days).1},(iK b.aQ days).2.1,(iK b.aQ days).2.2)
 else if d.kind=11 then ((gm b d).1,days,(gm b d).2)
 else (b,days,⟨1,0⟩)
def fC (b:Bk) (days:List (List Int)) (told:List (Int×Answer)) (cl:Nat) (d:aR):Bk×List (List Int)×List (Int×Answer)×Nat×Answer:=
 if (ix told d.id).isSome=true/\d.id≠0 then (b,days,told,cl,(ix told d.id).getD ⟨0,0⟩)
 else ((dc b days d).1,(dc b days d).2.1,nN told d.id (dc b days d).2.2,if (ix told d.id).isSome then cl else cl+1,(dc b days d).2.2)
structure Setup where (cX:List dk) (im cap:Int)
 deriving DecidableEq
def oc:List dk->Int->cV
 |[],_=>⟨0,0⟩
 |p::l,i=>if fc p≠0 then ⟨fc p,i⟩ else oc l (i+1)
theorem sO {l:List dk} {q:Nat} {p:dk} (h:l[q]?=some p):oc (l.drop q) q=if fc p≠0 then ⟨fc p,q⟩ else oc (l.drop (q+1)) ((q+1:Nat):Int):=by
 obtain ⟨hq,rfl⟩:=List.getElem?_eq_some_iff.1 h
 rw [List.drop_eq_getElem_cons hq];rfl
def er (s:Setup):cV:=
 if s.cX.length > 8\/s.im < 0\/s.im > 8 then ⟨5,0⟩ else if s.cap < 0\/s.cap > 1000000 then ⟨3,0⟩ else oc s.cX 0
def Dw:Bk:=⟨0,false,[],[],[],⟨0,[]⟩,⟨0,[]⟩,0,0,[],[],⟨0,[],[]⟩,[],[]⟩
def oY (p:dk):bx:=⟨0,0,p,[]⟩
def hZ (s:Setup):Bk:=⟨0,false,s.cX.map oY,List.replicate s.im.toNat 0,[],⟨0,[]⟩,⟨0,[]⟩,0,0,[],[],(dt s.cap s.cX.length).1,[],[]⟩
def kd:List aR->Bk->List (List Int)->List (Int×Answer)->Nat->List Answer->Bk×List (List Int)×List Answer
 |[],b,days,_,_,out=>(b,days,out)
 |d::l,b,days,told,cl,out=>kd l (fC b days told cl d).1 (fC b days told cl d).2.1 (fC b days told cl d).2.2.1 (fC b days told cl d).2.2.2.1 (out++[(fC b days told cl d).2.2.2.2])
theorem xJ {l:List aR} {q:Nat} {d:aR} {b:Bk} {days:List (List Int)} {told:List (Int×Answer)} {cl:Nat} {out:List Answer} (h:l[q]?=some d):
  kd (l.drop q) b days told cl out=kd (l.drop (q+1)) (fC b days told cl d).1 (fC b days told cl d).2.1 (fC b days told cl d).2.2.1 (fC b days told cl d).2.2.2.1 (out++[(fC b days told cl d).2.2.2.2]):=by
 obtain ⟨hq,rfl⟩:=List.getElem?_eq_some_iff.1 h
 rw [List.drop_eq_getElem_cons hq];rfl
def hG (s:Setup) (l:List aR):Bk×List (List Int)×List Answer×cV:=
 if (er s).err≠0 then (Dw,[],[],er s) else if l.length > 150 then (Dw,[],[],⟨5,0⟩)
 else ((kd l (hZ s) [] [] 0 []).1,(kd l (hZ s) [] [] 0 []).2.1,(kd l (hZ s) [] [] 0 []).2.2,⟨0,0⟩)
theorem xP {time:Int} {l:List bB} {q:Nat} {a:bB} {an:List bx} {aq:List bB} {e:Int} (h:l[q]?=some a):fD time (l.drop q) q an aq e=
  fD time (l.drop (q+1)) (q+1) (cv an e a.aK (bq (ed a time) - bq a) 0).1 (aq.set q (ed a time)) (cv an e a.aK (bq (ed a time) - bq a) 0).2:=by
 obtain ⟨hq,rfl⟩:=List.getElem?_eq_some_iff.1 h
 rw [List.drop_eq_getElem_cons hq];rfl
theorem fa (l:List bx) (e k held bp:Int):(cv l e k held bp).1.length=l.length:=by
 unfold cv
 split
 ·rfl
 ·split<;>simp
theorem wY {a:bB} {t:Int} (h:bE a=0):bE (ed a t)=0:=by
 unfold bE at h ⊢;unfold ed;exact h
theorem ou {a:bB} (h:bE a=0):0<=bq a/\bq a<=1000000:=by
 have:=eJ h
 unfold bq;split<;>omega
structure ch (b:Bk):Prop where
 time:0<=b.time/\b.time<=1000000
 an:b.an.length<=8
 due:b.due.length<=8
 aq:b.aq.length+b.bF.aZ.length<=30
 aQ:b.aQ.length<=100
 w0:b.w0.length<=60
 w1:b.w1.length<=60
 perm:∀ a∈b.aq,bE a=0/\0<=a.aK/\a.aK < b.an.length/\0<=a.ay/\a.ay < b.due.length
 jr:∀ a∈b.bF.aZ,0<=a.aK/\a.aK < b.an.length/\0<=a.ay/\a.ay < b.due.length
 k0:∀ t∈b.s0.kept,fB t.number/\0<=t.ba/\t.ba < b.aq.length
 k1:∀ t∈b.s1.kept,fB t.number/\0<=t.ba/\t.ba < b.aq.length
 right:∀ c∈b.an,cu c=0
 l0:b.s0.kept.length<=40
 l1:b.s1.kept.length<=40
 p0:∀ p∈b.w0,p.seen < 0->fB p.cq.number/\0<=p.cq.ba/\p.cq.ba < b.aq.length
 p1:∀ p∈b.w1,p.seen < 0->fB p.cq.number/\0<=p.cq.ba/\p.cq.ba < b.aq.length
 n0:0<=b.n0
 n1:0<=b.n1
 calm:b.down=false->b.bF.aZ=[]
theorem ch.tick {b:Bk} (h:ch b) {t:Int} (h0:0<=t) (h1:t<=1000000):ch {b with time:=t}:=
 ⟨⟨h0,h1⟩,h.an,h.due,h.aq,h.aQ,h.w0,h.w1,h.perm,h.jr,h.k0,h.k1,h.right,h.l0,h.l1,h.p0,h.p1,h.n0,h.n1,h.calm⟩
section
open Go.ChangeShapes Go.WideShapes Go.Deep Go.Joins
end

def aS (b:Bk) (i j k m:Nat) (u v:CV):List CV:=[(cI b.time),(cB b.down),(.s i 0 6 b.an.length),(.s j 0 1 b.due.length),(.s k 0 8 b.aq.length),(cI b.s0.bG),(db b.s0.kept),(cI b.s1.bG),(db b.s1.kept),(cI b.n0),(cI b.n1),(ej b.w0),(ej b.w1),(cI b.bF.cap),(fG b.bF.used),(gM b.bF.aZ),(.s m 0 4 b.aQ.length),u,(dJ b.book),v]
def aY (x:Nat->Value):List CV:=[.d (.v (x 0)),.d (.v (x 1)),.d (.v (x 2)),.d (.v (x 3)),.d (.v (x 4)),.d (.v (x 5)),.d (.v (x 6)),.d (.v (x 7)),.d (.v (x 8)),.d (.v (x 9)),.d (.v (x 10)),.d (.v (x 11)),.d (.v (x 12)),.d (.v (x 13)),.d (.v (x 14)),.d (.v (x 15)),.d (.v (x 16)),.d (.v (x 17)),.d (.v (x 18)),.d (.v (x 19))]
def dr:List (Option CV):=[none,none,none,none,none,none,none,none,none,none,none,none,none,none,none,none,none,none,none,none]
def iR (b:Bk) (i j k m:Nat) (u v:Option CV):List (Option CV):=[some (cI b.time),some (cB b.down),some (.s i 0 6 b.an.length),some (.s j 0 1 b.due.length),some (.s k 0 8 b.aq.length),some (cI b.s0.bG),some (db b.s0.kept),some (cI b.s1.bG),some (db b.s1.kept),some (cI b.n0),some (cI b.n1),some (ej b.w0),some (ej b.w1),some (cI b.bF.cap),some (fG b.bF.used),some (gM b.bF.aZ),some (.s m 0 4 b.aQ.length),u,some (dJ b.book),v]


theorem vu (a b c:Int):Fn Try.prog 44 [(.g [(cI a),(cI b),(cI c)])] (aI (ki a b c)) []:=by
 refine Fn.mk' 31 [(0,(aG [(cI a),(cI b),(cI c)]))] Try.func44 rfl rfl rfl rfl ?_
 intro W0 T0
 refine ad aa 2 rfl ?_
 refine af ?_
 refine cp 30 ((((((decide (a < 1))||(decide (a > 1000000)))||(decide (b < 0)))||(decide (b > 30)))||(decide (c < 0)))||(decide (c > 1000000000000))) ?_ ?_
 ·
  refine aw ?_
  refine ab aa 4 rfl ?_
  refine bz (t:=6) rfl (fun hb1=>?_) (fun hb1=>?_)
  ·
   have hb1':=of_decide_eq_true hb1
   refine ab aa 24 rfl ?_
   refine ae ?_
   exact aD.bD 29 rfl rfl (by first|(simp [hb1];done)|(simp_all;done)|(exfalso;simp_all;done)|(simp_all;omega)) rfl
  have hb1':=of_decide_eq_false hb1
  refine ab aa 5 rfl ?_
  refine bz (t:=11) rfl (fun hb2=>?_) (fun hb2=>?_)
  ·
   have hb2':=of_decide_eq_true hb2
   refine ab aa 19 rfl ?_
   refine ae ?_
   exact aD.bD 30 rfl rfl (by first|(simp [hb1,hb2];done)|(simp_all;done)|(exfalso;simp_all;done)|(simp_all;omega)) rfl
  have hb2':=of_decide_eq_false hb2
  refine ab aa 5 rfl ?_
  refine bz (t:=16) rfl (fun hb3=>?_) (fun hb3=>?_)
  ·
   have hb3':=of_decide_eq_true hb3
   refine ab aa 14 rfl ?_
   refine ae ?_
   exact aD.bD 31 rfl rfl (by first|(simp [hb1,hb2,hb3];done)|(simp_all;done)|(exfalso;simp_all;done)|(simp_all;omega)) rfl
  have hb3':=of_decide_eq_false hb3
  refine ab aa 5 rfl ?_
  refine bz (t:=21) rfl (fun hb4=>?_) (fun hb4=>?_)
  ·
   have hb4':=of_decide_eq_true hb4
   refine ab aa 9 rfl ?_
   refine ae ?_
   exact aD.bD 32 rfl rfl (by first|(simp [hb1,hb2,hb3,hb4];done)|(simp_all;done)|(exfalso;simp_all;done)|(simp_all;omega)) rfl
  have hb4':=of_decide_eq_false hb4
  refine ab aa 5 rfl ?_
  refine bz (t:=26) rfl (fun hb5=>?_) (fun hb5=>?_)
  ·
   have hb5':=of_decide_eq_true hb5
   refine ab aa 4 rfl ?_
   refine ae ?_
   exact aD.bD 33 rfl rfl (by first|(simp [hb1,hb2,hb3,hb4,hb5];done)|(simp_all;done)|(exfalso;simp_all;done)|(simp_all;omega)) rfl
  have hb5':=of_decide_eq_false hb5
  refine ab aa 4 rfl ?_
  refine ae ?_
  exact aD.bD 33 rfl rfl (by first|(simp [hb1,hb2,hb3,hb4,hb5];done)|(simp_all;done)|(exfalso;simp_all;done)|(simp_all;omega)) rfl
 refine ag rfl (fun hc6=>?_) (fun hc6=>?_)
 ·
  have hc6':=hc6;try simp only [bj,bL] at hc6'
  refine ad aa 1 rfl ?_
  refine ar ?_
  refine ao ?_
  refine ah aa [] 0 rfl rfl rfl rfl rfl rfl ?_ ?_
  ·(show aI _=aI _;unfold ki;rw [if_pos (by omega)])
  ·rfl
 have hc6':=hc6;try simp only [bj,bL] at hc6'
 refine aN ?_
 refine ad aa 1 rfl ?_
 refine ar ?_
 refine ah aa [] 0 rfl rfl rfl rfl rfl rfl ?_ ?_
 ·(show aI _=aI _;unfold ki;rw [if_neg (by omega)])
 ·rfl

theorem wh (l:List cT):Fn Try.prog 45 [(.c (fm l))] (aG [cI (cD l).1,cI (cD l).2]) []:=by
 refine Fn.mk' 53 [(0,(aC (fm l)))] Try.func45 rfl rfl rfl rfl ?_
 intro W0 T0
 refine dz 0 rfl (fun hlen0=>?_)
 refine ad aa 1 rfl ?_
 refine af ?_
 refine aA aa 1 rfl ?_
 refine ax (cM rfl rfl rfl rfl rfl Try.underlying59) rfl ?_
 refine ab aa 1 rfl ?_
 refine ae ?_
 refine ag rfl (fun hc1=>?_) (fun hc1=>?_)
 ·
  have hc1':=of_decide_eq_true hc1
  refine ad aa 2 rfl ?_
  refine ar ?_
  refine ao ?_
  refine ah aa [0] 0 rfl rfl rfl rfl rfl rfl ?_ ?_
  ·(have h:cD l=(5,0):=by (unfold cD;rw [if_pos (by omega)]));rw [h];rfl
  ·rfl
 have hc1':=of_decide_eq_false hc1
 refine aN ?_
 refine af ?_
 refine aA aa 1 rfl ?_
 refine ax (cM rfl rfl rfl rfl rfl Try.underlying59) rfl ?_
 refine ab aa 1 rfl ?_
 refine ae ?_
 refine aU ?_
 refine ct (β:=Nat) (fun (q:Nat)=>⟨[(0,(aC (fm l))),(2,(aC (.p 0 0 0 0))),(9,(aC (fm l))),(10,(aI (↑l.length:Int))),(11,(aI (↑q:Int)))],[(0,(.box 50 [(cI 0),(cI 0)]))],1⟩) (fun (q:Nat)=>q<=l.length/\scan (iS l) 0 l.length=scan (iS l) q (l.length - q)) (fun (q:Nat)=>l.length - q) 0 ?_ ?_ ?_
 ·exact ⟨by omega,rfl⟩
 ·exact aD.bW id (by refine ⟨?_,?_,?_,?_,?_,trivial⟩<;>first|rfl|(simp only [bm];done)|(congr 3;omega)|(congr 4;omega)|(simp only [bn];rfl)) (⟨by first|rfl|(simp only [bm];done)|(congr 3;omega)|(congr 4;omega)|(simp only [bn];rfl),trivial⟩) rfl
 rintro q ⟨hi0_0,hi0_1⟩
 refine ad aa 1 rfl ?_
 refine af ?_
 refine ag rfl (fun hc2=>?_) (fun hc2=>?_)
 ·
  have hc2':=of_decide_eq_true hc2
  refine aN ?_
  refine af ?_
  refine aU ?_
  refine aA aa 1 rfl ?_
  obtain ⟨x1,hx1⟩:=ck (xs:=l) (i:=q) (by first|omega|(simp;done)|(simp;omega))
  refine ax (cP (i:=q) rfl rfl rfl Try.underlying59 il (by first|omega|(simp;done)|(simp;omega)) (bu hx1)) rfl ?_
  refine ab aa 4 rfl ?_
  refine ae ?_
  refine af ?_
  refine cp 33 ((((decide (x1.time < 0))||(decide (x1.time > 1000000)))||(decide (x1.sum < 0)))||(decide (x1.sum > 1000000))) ?_ ?_
  ·
   refine aw ?_
   refine ab aa 4 rfl ?_
   refine bz (t:=19) rfl (fun hb3=>?_) (fun hb3=>?_)
   ·
    have hb3':=of_decide_eq_true hb3
    refine ab aa 14 rfl ?_
    refine ae ?_
    exact aD.bD 19 rfl rfl (by first|(simp [hb3];done)|(simp_all;done)|(exfalso;simp_all;done)|(simp_all;omega)) rfl
   have hb3':=of_decide_eq_false hb3
   refine ab aa 5 rfl ?_
   refine bz (t:=24) rfl (fun hb4=>?_) (fun hb4=>?_)
   ·
    have hb4':=of_decide_eq_true hb4
    refine ab aa 9 rfl ?_
    refine ae ?_
    exact aD.bD 20 rfl rfl (by first|(simp [hb3,hb4];done)|(simp_all;done)|(exfalso;simp_all;done)|(simp_all;omega)) rfl
   have hb4':=of_decide_eq_false hb4
   refine ab aa 5 rfl ?_
   refine bz (t:=29) rfl (fun hb5=>?_) (fun hb5=>?_)
   ·
    have hb5':=of_decide_eq_true hb5
    refine ab aa 4 rfl ?_
    refine ae ?_
    exact aD.bD 21 rfl rfl (by first|(simp [hb3,hb4,hb5];done)|(simp_all;done)|(exfalso;simp_all;done)|(simp_all;omega)) rfl
   have hb5':=of_decide_eq_false hb5
   refine ab aa 4 rfl ?_
   refine ae ?_
   exact aD.bD 21 rfl rfl (by first|(simp [hb3,hb4,hb5];done)|(simp_all;done)|(exfalso;simp_all;done)|(simp_all;omega)) rfl
  refine ag rfl (fun hc6=>?_) (fun hc6=>?_)
  ·
   have hc6':=hc6;try simp only [bj,bL] at hc6'
   refine ad aa 3 rfl ?_
   refine ar ?_
   refine ao ?_
   refine bf ?_
   refine ao ?_
   refine ao ?_
   refine bf ?_
   refine ao ?_
   refine ah aa [0] 0 rfl rfl rfl rfl rfl rfl ?_ ?_
   ·(have h:cD l=(3,(q:Int)):=by (unfold cD;rw [if_neg (by omega),hi0_1];exact gY (by omega) (show iS l q=3 by (unfold iS;simp only [hx1];rw [if_pos (by omega)])) (by decide)));rw [h];rfl
   ·rfl
  have hc6':=hc6;try simp only [bj,bL] at hc6'
  refine aN ?_
  refine af ?_
  rcases Bool.eq_false_or_eq_true (decide ((↑q:Int) > 0)) with hb7|hb7
  ·
   have hb7':=of_decide_eq_true hb7
   obtain ⟨x2,hx2⟩:=ck (xs:=l) (i:=(q) - 1) (by first|omega|(simp;done)|(simp;omega))
   refine bb [0,2,9,10,11,4,3] [1,0] mixed rfl rfl ?_
   refine az (kn:=[(37,true)]) aa 5 rfl ⟨hb7,trivial⟩ ?_
   refine aT (n':=2) [40,38] [] rfl rfl (.inl ⟨(aj.yes rfl rfl rfl),aH.cast (aJ rfl rfl rfl (aF (by first|omega|(simp;done)|(simp;omega)))) rfl⟩) rfl ?_
   refine aT (n':=2) [39,41,38] [] rfl rfl (.inl ⟨(aj.yes rfl rfl rfl),aH.cast (cP (i:=(q) - 1) rfl rfl rfl Try.underlying59 il (by first|omega|(simp;done)|(simp;omega)) (bu hx2)) rfl⟩) rfl ?_
   refine az (kn:=[]) aa 6 rfl trivial ?_
   refine bA [1,0] rfl rfl rfl rfl (by kernel_rfl) ?_
   refine ae ?_
   refine ag rfl (fun hc8=>?_) (fun hc8=>?_)
   ·
    have hc8':=of_decide_eq_true hc8
    refine ad aa 3 rfl ?_
    refine ar ?_
    refine bf ?_
    refine ao ?_
    refine ao ?_
    refine bf ?_
    refine ao ?_
    refine ah aa [0] 0 rfl rfl rfl rfl rfl rfl ?_ ?_
    ·(have h:cD l=(2,(q:Int)):=by (unfold cD;rw [if_neg (by omega),hi0_1];exact gY (by omega) (show iS l q=2 by (unfold iS;simp only [hx1];rw [if_neg (by omega),if_pos (by refine ⟨by omega,?_⟩;rw [List.getD_eq_getElem?_getD,hx2];simp only [Option.getD_some];omega)])) (by decide)));rw [h];rfl
    ·rfl
   have hc8':=of_decide_eq_false hc8
   refine cU ?_
   refine bl ?_
   refine then_ok ?_
   refine aw ?_
   refine ax (aJ rfl rfl rfl (aF (by first|omega|(simp;done)|(simp;omega)))) rfl ?_
   refine ab aa 1 rfl ?_
   refine ae ?_
   refine ⟨q+1,⟨by omega,by rw [hi0_1];exact mq (by omega) (by unfold iS;simp only [hx1];rw [if_neg (by omega),if_neg (by first|omega|(rw [List.getD_eq_getElem?_getD,hx2];simp only [Option.getD_some];omega))])⟩,by first|omega|(simp;done)|(simp;omega),aD.bW id (by refine ⟨?_,?_,?_,?_,?_,trivial⟩<;>first|rfl|(simp only [bm];done)|(congr 3;omega)|(congr 4;omega)|(simp only [bn];rfl)) (⟨by first|rfl|(simp only [bm];done)|(congr 3;omega)|(congr 4;omega)|(simp only [bn];rfl),trivial⟩) rfl⟩
  have hb7':=of_decide_eq_false hb7
  refine bb [0,2,9,10,11,4,3] [1,0] mixed rfl rfl ?_
  refine az (kn:=[(37,false)]) aa 13 rfl ⟨hb7,trivial⟩ ?_
  refine bA [1,0] rfl rfl rfl rfl (by kernel_rfl) ?_
  refine ae ?_
  refine ag rfl (fun hno=>by cases hno) (fun _=>?_)
  refine cU ?_
  refine bl ?_
  refine then_ok ?_
  refine aw ?_
  refine ax (aJ rfl rfl rfl (aF (by first|omega|(simp;done)|(simp;omega)))) rfl ?_
  refine ab aa 1 rfl ?_
  refine ae ?_
  refine ⟨q+1,⟨by omega,by rw [hi0_1];exact mq (by omega) (by unfold iS;simp only [hx1];rw [if_neg (by omega),if_neg (by first|omega|(rw [List.getD_eq_getElem?_getD,hx2];simp only [Option.getD_some];omega))])⟩,by first|omega|(simp;done)|(simp;omega),aD.bW id (by refine ⟨?_,?_,?_,?_,?_,trivial⟩<;>first|rfl|(simp only [bm];done)|(congr 3;omega)|(congr 4;omega)|(simp only [bn];rfl)) (⟨by first|rfl|(simp only [bm];done)|(congr 3;omega)|(congr 4;omega)|(simp only [bn];rfl),trivial⟩) rfl⟩
 have hc2':=of_decide_eq_false hc2
 refine cm ?_
 refine aP ?_
 refine aP ?_
 refine bN ?_
 refine then_ok ?_
 refine ad aa 2 rfl ?_
 refine ar ?_
 refine ah aa [0] 0 rfl rfl rfl rfl rfl rfl ?_ ?_
 ·(have h:cD l=(0,0):=by (unfold cD;rw [if_neg (by omega),hi0_1,mO (by omega)]));rw [h];rfl
 ·rfl

theorem wx (l:List cT) (fn:FuncId) (bc:List (List D)) (pr:cT->Bool) (hp:∀ x:cT,Fn Try.prog fn ([.g [cI x.time,cI x.sum]]++bc.map fun r=>GV.c (.q r 0)) (aB (pr x)) []) (hen:bd Try.prog fn) (r:Int) (hr:gH pr l=r):Fn Try.prog 123 [(.c (fm l)),(.c (.d (.f fn bc)))] (.v (.c (cI r))) []:=by
 refine Fn.mk' 19 [(0,(aC (fm l))),(1,(aC (.d (.f fn bc))))] Try.func123 rfl rfl rfl rfl ?_
 intro W0 T0
 refine dz 0 rfl (fun hlen0=>?_)
 refine ad aa 1 rfl ?_
 refine af ?_
 refine aA aa 1 rfl ?_
 refine ax (cM rfl rfl rfl rfl rfl Try.underlying59) rfl ?_
 refine ab aa 1 rfl ?_
 refine ae ?_
 refine aU ?_
 refine ct (β:=Nat) (fun (q:Nat)=>⟨[(0,(aC (fm l))),(1,(aC (.d (.f fn bc)))),(7,(aI (↑l.length:Int))),(8,(aI (↑q:Int)))],[],0⟩) (fun (q:Nat)=>q<=l.length/\(l.take q).all (fun y=>!pr y)=true) (fun (q:Nat)=>l.length - q) 0 ?_ ?_ ?_
 ·exact ⟨by omega,by simp⟩
 ·exact aD.bW id (by refine ⟨?_,?_,?_,?_,trivial⟩<;>first|rfl|(simp only [bm];done)|(congr 3;omega)|(congr 4;omega)|(simp only [bn];rfl)) (trivial) rfl
 rintro q ⟨hi0_0,hi0_1⟩
 refine ad aa 1 rfl ?_
 refine af ?_
 refine ag rfl (fun hc1=>?_) (fun hc1=>?_)
 ·
  have hc1':=of_decide_eq_true hc1
  refine aN ?_
  refine af ?_
  refine aU ?_
  refine ad aa 2 rfl ?_
  refine aA aa 3 rfl ?_
  obtain ⟨x1,hx1⟩:=ck (xs:=l) (i:=q) (by first|omega|(simp;done)|(simp;omega))
  refine ax (cP (i:=q) rfl rfl rfl Try.underlying59 il (by first|omega|(simp;done)|(simp;omega)) (bu hx1)) rfl ?_
  refine ab aa 1 rfl ?_
  refine ax (gS 0 (hp x1) hen rfl rfl rfl ⟨⟨_,rfl,.g ⟨.d _,.d _,trivial⟩⟩,trivial⟩ trivial trivial rfl rfl rfl rfl) rfl ?_
  refine ae ?_
  refine ag rfl (fun hc2=>?_) (fun hc2=>?_)
  ·
   have hc2':=hc2;try simp only [bj,bL] at hc2'
   refine ad aa 2 rfl ?_
   refine ar ?_
   refine bf ?_
   refine ao ?_
   refine ao ?_
   refine bf ?_
   refine ao ?_
   have hX:gH pr l=(↑q:Int):=by
     exact tb hi0_1 hx1 hc2
   rw [hX] at hr;clear hX
   subst hr
   refine ah aa [] 0 rfl rfl rfl rfl rfl rfl ?_ ?_
   all_goals first|rfl|(simp [au];done)|(simp [au];omega)
  have hc2':=hc2;try simp only [bj,bL] at hc2'
  refine cU ?_
  refine bl ?_
  refine then_ok ?_
  refine aw ?_
  refine ax (aJ rfl rfl rfl (aF (by first|omega|(simp;done)|(simp;omega)))) rfl ?_
  refine ab aa 1 rfl ?_
  refine ae ?_
  refine ⟨q+1,⟨by omega,vK hi0_1 hx1 hc2⟩,by first|omega|(simp;done)|(simp;omega),aD.bW id (by refine ⟨?_,?_,?_,?_,trivial⟩<;>first|rfl|(simp only [bm];done)|(congr 3;omega)|(congr 4;omega)|(simp only [bn];rfl)) (trivial) rfl⟩
 have hc1':=of_decide_eq_false hc1
 refine cm ?_
 refine aP ?_
 refine aP ?_
 refine bN ?_
 refine then_ok ?_
 refine ad aa 1 rfl ?_
 refine ar ?_
 have hX:gH pr l=(-1):=by
   exact uV (by rw [<-List.take_of_length_le (l:=l) (i:=q) (by omega)];exact hi0_1)
 rw [hX] at hr;clear hX
 subst hr
 refine ah aa [] 0 rfl rfl rfl rfl rfl rfl ?_ ?_
 all_goals first|rfl|(simp [au];done)|(simp [au];omega)
theorem vD (l:List cT) (fn:FuncId) (bc:List (List D)) (pr:cT->Bool) (hp:∀ x:cT,Fn Try.prog fn ([.g [cI x.time,cI x.sum]]++bc.map fun r=>GV.c (.q r 0)) (aB (pr x)) []) (hen:bd Try.prog fn) (r:List cT) (hr:dq pr l=r):cz Try.prog 117 [(.c (.s 0 0 2 l.length)),(.c (.d (.f fn bc)))] [(0,(oI l))] [] (.v (.c (.s 0 0 2 r.length))) [(0,(oI r))]:=by
 refine cz.mk 42 [(0,(aC (.s 0 0 2 l.length))),(1,(aC (.d (.f fn bc))))] 1 Try.func117 rfl rfl rfl rfl rfl rfl rfl rfl rfl ?_
 intro W0 F0 T0 pg
 refine fN 0 rfl (fun hlen0=>?_)
 have hic:=tc pr l
 have hib:gH pr l<=l.length/\-1<=gH pr l:=by rcases hic with ⟨h,_⟩|⟨i,h,h1,_⟩<;>omega
 refine ad aa 1 rfl ?_
 refine aA aa 2 rfl ?_
 obtain ⟨r0,hr0⟩:∃ (r0:Int),gH pr l=r0:=⟨_,rfl⟩
 refine aL 1 [0] (fM 1 [0] (wx l fn bc pr hp hen r0 hr0) Fj rfl rfl ⟨⟨_,rfl,.c (.s rfl (by decide) (by first|omega|(simp;done)|(simp;omega)))⟩,⟨_,rfl,.c (.d _)⟩,trivial⟩ rfl trivial rfl rfl rfl rfl) rfl ?_
 refine ab aa 1 rfl ?_
 refine ae ?_
 refine af ?_
 refine ad aa 2 rfl ?_
 refine ag rfl (fun hc1=>?_) (fun hc1=>?_)
 ·
  have hc1':=of_decide_eq_true hc1
  refine ad aa 2 rfl ?_
  refine ar ?_
  refine ao ?_
  have hX:dq pr l=l:=by
    rcases hic with ⟨_,h⟩|⟨i0,h,_⟩
    ·exact h
    ·exfalso;omega
  rw [hX] at hr;clear hX
  subst hr
  refine ah aa [0] 1 rfl rfl rfl rfl rfl rfl ?_ ?_
  all_goals first|rfl|(simp [au];done)|(simp [au];omega)
 have hc1':=of_decide_eq_false hc1
 refine aN ?_
 refine af ?_
 refine aA aa 1 rfl ?_
 refine ax (aJ rfl rfl rfl (aF (by first|omega|(simp;done)|(simp;omega)))) rfl ?_
 refine ab aa 1 rfl ?_
 refine ae ?_
 refine aU ?_
 obtain ⟨i0,hi0,hil,x0,hx0,hp0,hk0⟩:∃ i:Nat,gH pr l=i/\i < l.length/\∃ x,l[i]?=some x/\pr x=true/\dq pr (l.take i)=l.take i:=by
     rcases hic with ⟨h,_⟩|h
     ·exfalso;omega
     ·exact h
 obtain rfl:r0=(i0:Int):=by omega
 refine ct (β:=Nat×Nat×List cT) (fun (p:Nat×Nat×List cT)=>match p with|(j,i,c)=>⟨[(0,(aC (.s 0 0 2 l.length))),(1,(aC (.d (.f fn bc)))),(4,(aC cN)),(5,(aI (↑i:Int))),(6,(aI (↑j:Int)))],[(0,(oI c))],1⟩) (fun (p:Nat×Nat×List cT)=>match p with|(j,i,c)=>kK pr l c i j) (fun (p:Nat×Nat×List cT)=>match p with|(j,i,c)=>l.length - j) (i0+1,i0,l) ?_ ?_ ?_
 ·exact kK.start hx0 hp0 hk0
 ·exact aD.bW id (by refine ⟨?_,?_,?_,?_,?_,trivial⟩<;>first|rfl|(simp only [bm];done)|(congr 3;omega)|(congr 4;omega)|(simp only [bn];rfl)) (⟨by first|rfl|(simp only [bm];done)|(congr 3;omega)|(congr 4;omega)|(simp only [bn];rfl),trivial⟩) rfl
 rintro ⟨j,i,c⟩ hd
 have hdl:=hd.len;have hdi:=hd.ij;have hdj:=hd.jl
 refine af ?_
 refine aA aa 2 rfl ?_
 refine ax (dn rfl rfl rfl rfl rfl Try.underlying59) rfl ?_
 refine ab aa 1 rfl ?_
 refine ae ?_
 refine ag rfl (fun hc2=>?_) (fun hc2=>?_)
 ·
  have hc2':=of_decide_eq_true hc2
  refine aN ?_
  refine af ?_
  refine aU ?_
  refine aA aa 2 rfl ?_
  refine ax (bo (i:=j) rfl rfl rfl Try.underlying59 il (by first|omega|(simp;done)|(simp;omega)) (by first|omega|(simp;done)|(simp;omega))) rfl ?_
  obtain ⟨x1,hx1⟩:=ck (xs:=c) (i:=j) (by first|omega|(simp;done)|(simp;omega))
  refine ax (da rfl rfl rfl Try.underlying125 rfl il (bu hx1) rfl) rfl ?_
  refine ab aa 2 rfl ?_
  refine ae ?_
  refine aA aa 2 rfl ?_
  refine ax (gS 2 (hp x1) hen rfl rfl rfl ⟨⟨_,rfl,.g ⟨.d _,.d _,trivial⟩⟩,trivial⟩ trivial trivial rfl rfl rfl rfl) rfl ?_
  refine ab aa 1 rfl ?_
  refine ae ?_
  refine ag rfl (fun hc3=>?_) (fun hc3=>?_)
  ·
   have hc3':=hc3;try simp only [bj,bL] at hc3'
   refine aA aa 3 rfl ?_
   refine ax (bo (i:=i) rfl rfl rfl Try.underlying59 il (by first|omega|(simp;done)|(simp;omega)) (by first|omega|(simp;done)|(simp;omega))) rfl ?_
   obtain ⟨x2,hx2⟩:=ck (xs:=c) (i:=i) (by first|omega|(simp;done)|(simp;omega))
   refine fY [1,0] (dL (ds:=[(dI x1.time),(dI x1.sum)]) rfl rfl rfl rfl rfl il rfl (Nat.le_of_ble_eq_true rfl) (bu hx2) rfl (eH (x':=x1) rfl)) rfl ?_
   refine ae ?_
   refine aw ?_
   refine ab aa 1 rfl ?_
   refine ax (aJ rfl rfl rfl (aF (by first|omega|(simp;done)|(simp;omega)))) rfl ?_
   refine ab aa 1 rfl ?_
   refine bY ?_
   refine bl ?_
   refine then_ok ?_
   refine aw ?_
   refine ab aa 1 rfl ?_
   refine ax (aJ rfl rfl rfl (aF (by first|omega|(simp;done)|(simp;omega)))) rfl ?_
   refine ab aa 1 rfl ?_
   refine ae ?_
   refine ⟨(j+1,(i)+1,(c).set i x1),hd.cE hx1 (by simpa using hc3),by first|omega|(simp;done)|(simp;omega),aD.bW id (by refine ⟨?_,?_,?_,?_,?_,trivial⟩<;>first|rfl|(simp only [bm];done)|(congr 3;omega)|(congr 4;omega)|(simp only [bn];rfl)) (⟨by first|rfl|(simp only [bm];done)|(congr 3;omega)|(congr 4;omega)|(simp only [bn];rfl),trivial⟩) rfl⟩
  have hc3':=hc3;try simp only [bj,bL] at hc3'
  refine cU ?_
  refine bl ?_
  refine then_ok ?_
  refine aw ?_
  refine ab aa 1 rfl ?_
  refine ax (aJ rfl rfl rfl (aF (by first|omega|(simp;done)|(simp;omega)))) rfl ?_
  refine ab aa 1 rfl ?_
  refine ae ?_
  refine ⟨(j+1,i,c),hd.skip hx1 (by simpa using hc3),by first|omega|(simp;done)|(simp;omega),aD.bW id (by refine ⟨?_,?_,?_,?_,?_,trivial⟩<;>first|rfl|(simp only [bm];done)|(congr 3;omega)|(congr 4;omega)|(simp only [bn];rfl)) (⟨by first|rfl|(simp only [bm];done)|(congr 3;omega)|(congr 4;omega)|(simp only [bn];rfl),trivial⟩) rfl⟩
 have hc2':=of_decide_eq_false hc2
 refine cm ?_
 refine aP ?_
 refine aP ?_
 refine bN ?_
 refine then_ok ?_
 refine aA aa 2 rfl ?_
 refine ax (nf (l:=i) (h:=l.length) rfl Try.underlying59 il rfl (.inr ⟨_,rfl,rfl⟩) (.inl ⟨rfl,rfl⟩) (by first|omega|(simp;done)|(simp;omega)) (by first|omega|(simp;done)|(simp;omega)) (by first|omega|(simp;done)|(simp;omega)) rfl) rfl ?_
 refine fY [0] (rV (rows':=(c.take i).map gN) nP ER rfl rfl rfl rfl rfl rfl rfl rfl rfl (by simp [List.map_take])) rfl ?_
 refine ae ?_
 refine aA aa 2 rfl ?_
 refine ax (nf (l:=0) (h:=i) rfl Try.underlying59 il rfl (.inl ⟨rfl,rfl⟩) (.inr ⟨_,rfl,rfl⟩) (by first|omega|(simp;done)|(simp;omega)) (by first|omega|(simp;done)|(simp;omega)) (by first|omega|(simp;done)|(simp;omega)) rfl) rfl ?_
 refine ab aa 1 rfl ?_
 refine ae ?_
 refine ar ?_
 have hX:dq pr l=(c.take i):=by
   have hdone:=hd.done (by omega)
   rw [<-hdone]
 rw [hX] at hr;clear hX
 subst hr
 refine ah aa [0] 1 rfl rfl rfl rfl rfl rfl ?_ ?_
 all_goals first|rfl|(simp [au];done)|(simp [au];omega)

theorem kF (p:dk) (e:Int) (hr:fc p=e):Fn Try.prog 44 [(.g [cI p.cH,cI p.count,cI p.sum])] (.v (.c (cI e))) []:=hr▸vu p.cH p.count p.sum
theorem oD (l:List cT) (f:cV) (hr:eZ l=f):Fn Try.prog 45 [.c (cR 2 (l.map gN))] (.v (.g [cI f.err,cI f.at_])) []:=hr▸wh l

theorem zW (x:cT) (t:Int) (p:dk) (hb:-9223372036854775808<=t - p.cH/\t - p.cH<=9223372036854775807):Fn Try.prog 118 [(.g [(cI x.time),(cI x.sum)]),(.c (.q ([dI t]) 0)),(.c (.q ([dI p.cH,dI p.count,dI p.sum]) 0))] (aB (cw p t x)) []:=by
 refine Fn.mk' 12 [(0,(aG [(cI x.time),(cI x.sum)])),(1,(aC (.q ([dI t]) 0))),(2,(aC (.q ([dI p.cH,dI p.count,dI p.sum]) 0)))] Try.func118 rfl rfl rfl rfl ?_
 intro W0 T0
 refine ad aa 2 rfl ?_
 refine aA aa 5 rfl ?_
 refine ax (aJ rfl rfl rfl (aF (by first|omega|(simp;done)|(simp;omega)))) rfl ?_
 refine ab aa 2 rfl ?_
 refine ae ?_
 refine ar ?_
 refine ah aa [] 0 rfl rfl rfl rfl rfl rfl ?_ ?_
 all_goals first|rfl|(simp [au];done)|(simp [au];omega)
theorem nH (p:dk) (l:List cT) (t:Int) (hb:-9223372036854775808<=t - p.cH/\t - p.cH<=9223372036854775807) (hl:l.length * 16<=140737488355328) (r:List cT) (hr:dy p l t=r):Fn Try.prog 112 [(.g [(cI p.cH),(cI p.count),(cI p.sum)]),(.c (fm l)),(.c (cI t))] (.v (.c (.s 0 0 2 r.length))) [(0,(oI r))]:=by
 refine Fn.mk' 11 [(0,(aG [(cI p.cH),(cI p.count),(cI p.sum)])),(1,(aC (fm l))),(2,(aI t))] Try.func112 rfl rfl rfl rfl ?_
 intro W0 T0
 refine dz 1 rfl (fun hlen1=>?_)
 refine ad aa 3 rfl ?_
 refine aA aa 1 rfl ?_
 refine aL 3 [2,1,0] (bO 2 (pG l (by first|omega|(simp;done)|(simp;omega))) Ch rfl rfl ⟨⟨_,rfl,.c (.d _)⟩,trivial⟩ trivial ⟨(fun _ _ _ _=>trivial),trivial⟩ rfl rfl rfl rfl) rfl ?_
 refine ax (zC (ks:=[1,0]) rfl ⟨rfl,rfl,trivial⟩) rfl ?_
 obtain ⟨r0,hr0⟩:∃ (r0:List cT),dq (cw p t) l=r0:=⟨_,rfl⟩
 refine aL 4 [3,1,0] (vd (aW [2]) (aW [3]) [0,1] (vD l 118 ([[(dI t)],[(dI p.cH),(dI p.count),(dI p.sum)]]) (cw p t) (fun x=>zW x t p hb) Fo r0 hr0) Fp rfl rfl ⟨⟨_,rfl,.inl ⟨rfl,rfl⟩⟩,⟨_,rfl,.inr (.c (.fn ⟨⟨by decide,_,rfl⟩,⟨by decide,_,rfl⟩,trivial⟩))⟩,trivial⟩ ⟨rfl,trivial⟩ rfl rfl rfl rfl rfl rfl rfl rfl trivial ⟨(AS _),trivial⟩ rfl rfl rfl rfl) rfl ?_
 refine ab aa 1 rfl ?_
 refine ae ?_
 refine ar ?_
 have hX:dy p l t=r0:=by
   assumption
 rw [hX] at hr;clear hX
 subst hr
 refine ah aa [3] 1 rfl rfl rfl rfl rfl rfl ?_ ?_
 all_goals first|rfl|(simp [au];done)|(simp [au];omega)
section
open Go.RowKit
end

theorem yl (p:dk) (l:List cT) (x:cT) (r:List cT) (e:Int) (hr:eg p l x=(r,e)):Fn Try.prog 100 [(.g [(cI p.cH),(cI p.count),(cI p.sum)]),(.c (fm l)),(.g [(cI x.time),(cI x.sum)])] (.t [(.c (.s 0 0 2 r.length)),(.c (cI e))]) [(0,(oI r))]:=by
 refine Fn.mk' 87 [(0,(aG [(cI p.cH),(cI p.count),(cI p.sum)])),(1,(aC (fm l))),(2,(aG [(cI x.time),(cI x.sum)]))] Try.func100 rfl rfl rfl rfl ?_
 intro W0 T0
 refine dz 1 rfl (fun hlen1=>?_)
 have hrp:=@nX p
 have hru:(eZ l).err=0->l.length<=30:=fun h=>(jw h).1
 have hrx:(eZ [x]).err=0->0<=x.time/\x.time<=1000000/\0<=x.sum/\x.sum<=1000000:=fun h=>(@jw [x] h).2 x (by simp)
 refine ad aa 4 rfl ?_
 refine af ?_
 refine aA aa 1 rfl ?_
 obtain ⟨e0,hr0⟩:∃ (e0:Int),fc p=e0:=⟨_,rfl⟩
 refine aL 2 [1,0] (bO 2 (kF p e0 hr0) Bq rfl rfl ⟨⟨_,rfl,.g ⟨.d _,.d _,.d _,trivial⟩⟩,trivial⟩ trivial trivial rfl rfl rfl rfl) rfl ?_
 refine ab aa 1 rfl ?_
 refine ae ?_
 refine ad aa 2 rfl ?_
 refine ag rfl (fun hc1=>?_) (fun hc1=>?_)
 ·
  have hc1':=of_decide_eq_true hc1
  refine ad aa 3 rfl ?_
  refine ar ?_
  refine ao ?_
  refine cQ (aD.nil 6 125 2 (by decide) rfl) ?_
  have hX:eg p l x=(([]:List cT),e0):=by
    unfold eg;rw [if_pos (by omega),hr0]
  rw [hX] at hr;clear hX
  simp only [Prod.mk.injEq] at hr;obtain ⟨rfl,rfl⟩:=hr
  refine ah aa [2] 1 rfl rfl rfl rfl rfl rfl ?_ ?_
  all_goals first|rfl|(simp [au];done)|(simp [au];omega)
 have hc1':=of_decide_eq_false hc1
 refine aN ?_
 refine af ?_
 refine aA aa 2 rfl ?_
 refine aL 3 [2,1,0] (dA (ys:=[(0,(.g [(cI x.time),(cI x.sum)]))]) (rows:=([x]).map gN) 2 nP rfl (by decide) ⟨⟨rfl,rfl⟩,trivial⟩ rfl rfl rfl rfl) rfl ?_
 refine lR (s':=[(0,(aG [(cI p.cH),(cI p.count),(cI p.sum)])),(1,(aC (fm l))),(2,(aG [(cI x.time),(cI x.sum)])),(3,(aC (.p 0 0 0 0))),(5,(aC (.p 1 0 0 0))),(6,(aC cN)),(7,(aI 0)),(17,(aG [(cI p.cH),(cI p.count),(cI p.sum)])),(18,(aI e0)),(8,(aI e0)),(19,(aI e0)),(20,(aB (decide (¬e0=0)))),(22,(aC (fm l))),(23,(aG [(cI x.time),(cI x.sum)])),(24,(aC (fm ([x]))))]) (h':=[(1,(.box 125 [(cI x.time),(cI x.sum)])),(0,(.box 58 [(cI p.cH),(cI p.count),(cI p.sum)]))]) 2 rfl ⟨⟨_,rfl,.inl ⟨rfl,rfl⟩⟩,⟨_,rfl,.inl ⟨rfl,rfl⟩⟩,⟨_,rfl,.inl ⟨rfl,rfl⟩⟩,⟨_,rfl,.inl ⟨rfl,rfl⟩⟩,⟨_,rfl,.inl ⟨rfl,rfl⟩⟩,⟨_,rfl,.inl ⟨rfl,rfl⟩⟩,⟨_,rfl,.inl ⟨rfl,rfl⟩⟩,⟨_,rfl,.inl ⟨rfl,rfl⟩⟩,⟨_,rfl,.inl ⟨rfl,rfl⟩⟩,⟨_,rfl,.inl ⟨rfl,rfl⟩⟩,⟨_,rfl,.inl ⟨rfl,rfl⟩⟩,⟨_,rfl,.inl ⟨rfl,rfl⟩⟩,⟨_,rfl,.inl ⟨rfl,rfl⟩⟩,⟨_,rfl,.inl ⟨rfl,rfl⟩⟩,⟨_,rfl,.inr ⟨_,_,rfl,rfl,.s rfl (by decide) (by first|omega|(simp;done)|(simp;omega))⟩⟩,trivial⟩ ⟨rfl,rfl,trivial⟩ rfl ?_
 refine aL 4 [3,1,0] (dA (ys:=[(0,(.c (fm l))),(1,(.c (fm ([x]))))]) (rows:=([l,[x]]).map tQ) 3 EU rfl (by decide) ⟨⟨rfl,rfl⟩,⟨rfl,rfl⟩,trivial⟩ rfl rfl rfl rfl) rfl ?_
 refine ax (dn rfl rfl rfl rfl rfl Try.underlying181) rfl ?_
 refine ab aa 1 rfl ?_
 refine ae ?_
 refine aU ?_
 refine ct (β:=Nat) (fun (q:Nat)=>⟨[(1,(aC (fm l))),(3,(aC (.p 0 0 0 0))),(5,(aC (.p 1 0 0 0))),(25,(aC (.s 3 0 1 2))),(26,(aI 2)),(27,(aI (↑q:Int)))],[(3,(.arr 59 1 (([l,[x]]).map tQ))),(1,(.box 125 [(cI x.time),(cI x.sum)])),(0,(.box 58 [(cI p.cH),(cI p.count),(cI p.sum)]))],4⟩) (fun (q:Nat)=>q<=2/\(0 < q->(eZ l).err=0)/\(1 < q->(eZ [x]).err=0)) (fun (q:Nat)=>2 - q) 0 ?_ ?_ ?_
 ·exact ⟨by omega,by omega,by omega⟩
 ·exact aD.bW id (by refine ⟨?_,?_,?_,?_,?_,?_,trivial⟩<;>first|rfl|(simp only [bm];done)|(congr 3;omega)|(congr 4;omega)|(simp only [bn];rfl)) (by refine ⟨?_,?_,?_,trivial⟩<;>first|rfl|(simp only [bm];done)|(congr 3;omega)|(congr 4;omega)|(simp only [bn];rfl)) rfl
 rintro q ⟨hi0_0,hi0_1,hi0_2⟩
 refine ad aa 1 rfl ?_
 refine af ?_
 refine ag rfl (fun hc2=>?_) (fun hc2=>?_)
 ·
  have hc2':=of_decide_eq_true hc2
  refine aN ?_
  refine af ?_
  refine aU ?_
  refine eC ?_
  refine ax (bo (i:=q) rfl rfl rfl Try.underlying181 FT (by first|omega|(simp;done)|(simp;omega)) (by first|omega|(simp;done)|(simp;omega))) rfl ?_
  obtain ⟨x1,hx1⟩:=ck (xs:=([l,[x]]:List (List cT))) (i:=q) (by first|omega|(simp;done)|(simp;omega))
  have hx1v:=DJ hx1
  refine ax (eD rfl rfl rfl Try.underlying59 rfl (bu hx1) rfl) rfl ?_
  refine ab aa 1 rfl ?_
  refine ae ?_
  refine aA aa 1 rfl ?_
  obtain ⟨f1,hr1⟩:∃ (f1:cV),eZ x1=f1:=⟨_,rfl⟩
  refine aL 4 [3,1,0] (bO 4 (oD x1 f1 hr1) En rfl rfl ⟨⟨_,rfl,.c (.d _)⟩,trivial⟩ ⟨trivial,trivial,trivial⟩ trivial rfl rfl rfl rfl) rfl ?_
  refine ab aa 2 rfl ?_
  refine ae ?_
  refine ad aa 3 rfl ?_
  refine ag rfl (fun hc3=>?_) (fun hc3=>?_)
  ·
   have hc3':=of_decide_eq_true hc3
   refine af ?_
   refine bb [1,3,5,25,26,27,11] [4,3,1,0] mixed rfl rfl ?_
   refine az (kn:=[]) aa 4 rfl trivial ?_
   refine bA [4,3,1,0] rfl rfl rfl rfl (by kernel_rfl) ?_
   refine ae ?_
   refine ar ?_
   refine bf ?_
   refine ao ?_
   refine ao ?_
   refine bf ?_
   refine ao ?_
   refine cQ (aD.nil 6 125 2 (by decide) rfl) ?_
   have hX:eg p l x=(([]:List cT),f1.err):=by
     unfold eg;rcases hx1v with ⟨hq,hx⟩|⟨hq,hx⟩<;>subst hx
     ·rw [if_neg (by omega),if_pos (by rw [hr1];omega),hr1]
     ·rw [if_neg (by omega),if_neg (by have:=hi0_1 (by omega);omega),if_pos (by rw [hr1];omega),hr1]
   rw [hX] at hr;clear hX
   simp only [Prod.mk.injEq] at hr;obtain ⟨rfl,rfl⟩:=hr
   refine ah aa [5] 1 rfl rfl rfl rfl rfl rfl ?_ ?_
   all_goals first|rfl|(simp [au];done)|(simp [au];omega)
  have hc3':=of_decide_eq_false hc3
  refine cU ?_
  refine bl ?_
  refine then_ok ?_
  refine aw ?_
  refine ax (aJ rfl rfl rfl (aF (by first|omega|(simp;done)|(simp;omega)))) rfl ?_
  refine ab aa 1 rfl ?_
  refine ae ?_
  refine ⟨q+1,⟨by omega,(fun h=>by rcases hx1v with ⟨hq,hx⟩|⟨hq,hx⟩<;>first|(exact hi0_1 (by omega))|(subst hx;rw [hr1];omega)),(fun h=>by rcases hx1v with ⟨hq,hx⟩|⟨hq,hx⟩<;>first|(exfalso;omega)|(subst hx;rw [hr1];omega))⟩,by first|omega|(simp;done)|(simp;omega),aD.bW id (by refine ⟨?_,?_,?_,?_,?_,?_,trivial⟩<;>first|rfl|(simp only [bm];done)|(congr 3;omega)|(congr 4;omega)|(simp only [bn];rfl)) (by refine ⟨?_,?_,?_,trivial⟩<;>first|rfl|(simp only [bm];done)|(congr 3;omega)|(congr 4;omega)|(simp only [bn];rfl)) rfl⟩
 have hc2':=of_decide_eq_false hc2
 refine cm ?_
 refine aP ?_
 refine aP ?_
 refine bN ?_
 refine then_ok ?_
 refine af ?_
 refine aA aa 1 rfl ?_
 refine ax (cM rfl rfl rfl rfl rfl Try.underlying59) rfl ?_
 refine ax (aJ rfl rfl rfl (aF (by first|omega|(simp;done)|(simp;omega)))) rfl ?_
 refine ab aa 1 rfl ?_
 refine ae ?_
 refine af ?_
 rcases Bool.eq_false_or_eq_true (decide (((↑l.length:Int) - 1)>=0)) with hb4|hb4
 ·
  have hb4':=of_decide_eq_true hb4
  obtain ⟨x1,hx1⟩:=ck (xs:=l) (i:=(l.length) - 1) (by first|omega|(simp;done)|(simp;omega))
  refine bb [1,3,5,25,26,27,12] [3,1,0] mixed rfl rfl ?_
  refine az (kn:=[(43,true)]) aa 5 rfl ⟨hb4,trivial⟩ ?_
  refine aT (n':=4) [45,46,44] [] rfl rfl (.inl ⟨(aj.yes rfl rfl rfl),aH.cast (cP (i:=(l.length) - 1) rfl rfl rfl Try.underlying59 il (by first|omega|(simp;done)|(simp;omega)) (bu hx1)) rfl⟩) rfl ?_
  refine az (kn:=[]) aa 6 rfl trivial ?_
  refine bA [3,1,0] rfl rfl rfl rfl (by kernel_rfl) ?_
  refine ae ?_
  refine ag rfl (fun hc5=>?_) (fun hc5=>?_)
  ·
   have hc5':=of_decide_eq_true hc5
   refine ad aa 2 rfl ?_
   refine ar ?_
   refine ao ?_
   refine cQ (aD.nil 6 125 2 (by decide) rfl) ?_
   have hX:eg p l x=(([]:List cT),2):=by
     unfold eg;rw [if_neg (by omega),if_neg (by have:=hi0_1 (by omega);omega),if_neg (by have:=hi0_2 (by omega);omega),if_pos (by rw [mw hx1,decide_eq_true_eq];omega)]
   rw [hX] at hr;clear hX
   simp only [Prod.mk.injEq] at hr;obtain ⟨rfl,rfl⟩:=hr
   refine ah aa [4] 1 rfl rfl rfl rfl rfl rfl ?_ ?_
   all_goals first|rfl|(simp [au];done)|(simp [au];omega)
  have hc5':=of_decide_eq_false hc5
  refine aN ?_
  refine aA aa 4 rfl ?_
  obtain ⟨r2,hr2⟩:∃ (r2:List cT),dy p l x.time=r2:=⟨_,rfl⟩
  refine aL 5 [4,3,1,0] (bO 4 (nH p l x.time (by first|assumption|omega|(have q1:=nX (hr2.trans (by omega));have q2:=uses1 (x:=x) (by simp_all);omega)) (by first|assumption|omega) r2 hr2) Ci rfl rfl ⟨⟨_,rfl,.g ⟨.d _,.d _,.d _,trivial⟩⟩,⟨_,rfl,.c (.d _)⟩,⟨_,rfl,.c (.d _)⟩,trivial⟩ trivial ⟨(fun _ _ _ _=>trivial),trivial⟩ rfl rfl rfl rfl) rfl ?_
  refine ab aa 1 rfl ?_
  refine ae ?_
  refine ad aa 3 rfl ?_
  refine af ?_
  refine aA aa 1 rfl ?_
  refine ax (dn rfl rfl rfl rfl rfl Try.underlying59) rfl ?_
  refine ab aa 1 rfl ?_
  refine ae ?_
  refine aU ?_
  refine ct (β:=Nat) (fun (k:Nat)=>⟨[(1,(aC (fm l))),(3,(aC (.p 0 0 0 0))),(5,(aC (.p 1 0 0 0))),(25,(aC (.s 3 0 1 2))),(26,(aI 2)),(27,(aI (↑q:Int))),(13,(aC (.s 4 0 2 r2.length))),(14,(aI (x.sum+gC ((r2).take k)))),(61,(aC (.s 4 0 2 r2.length))),(62,(aI (↑r2.length:Int))),(63,(aI (↑k:Int)))],[(4,(oI r2)),(3,(.arr 59 1 (([l,[x]]).map tQ))),(1,(.box 125 [(cI x.time),(cI x.sum)])),(0,(.box 58 [(cI p.cH),(cI p.count),(cI p.sum)]))],5⟩) (fun (k:Nat)=>k<=(r2).length) (fun (k:Nat)=>(r2).length - k) 0 ?_ ?_ ?_
  ·exact (by omega)
  ·exact aD.bW id (by refine ⟨?_,?_,?_,?_,?_,?_,?_,?_,?_,?_,?_,trivial⟩<;>first|rfl|(simp only [bm];done)|(congr 3;omega)|(congr 4;omega)|(simp only [bn];rfl)|((rw [List.take_zero,gC,Int.add_zero];rfl))) (by refine ⟨?_,?_,?_,?_,trivial⟩<;>first|rfl|(simp only [bm];done)|(congr 3;omega)|(congr 4;omega)|(simp only [bn];rfl)) rfl
  rintro k hi1_0
  have hsb:=pj (p:=p) (l:=l) (t:=x.time) (k:=k) (hi0_1 (by omega))
  rw [hr2] at hsb
  have hrl:(r2).length<=30:=by rw [<-hr2];exact Nat.le_trans (oo _ _) (hru (hi0_1 (by omega)))
  refine ad aa 1 rfl ?_
  refine af ?_
  refine ag rfl (fun hc6=>?_) (fun hc6=>?_)
  ·
   have hc6':=of_decide_eq_true hc6
   refine aN ?_
   refine af ?_
   refine aU ?_
   refine eC ?_
   refine ax (bo (i:=k) rfl rfl rfl Try.underlying59 il (by first|omega|(simp;done)|(simp;omega)) (by first|omega|(simp;done)|(simp;omega))) rfl ?_
   obtain ⟨x2,hx2⟩:=ck (xs:=r2) (i:=k) (by first|omega|(simp;done)|(simp;omega))
   have hx2v:=(jw (hi0_1 (by omega))).2 x2 (jS (hr2.symm▸List.mem_of_getElem? hx2:x2∈dy p l x.time))
   refine ax (da rfl rfl rfl Try.underlying125 rfl il (bu hx2) rfl) rfl ?_
   refine ab aa 2 rfl ?_
   refine ae ?_
   refine aw ?_
   refine ab aa 3 rfl ?_
   refine ax (aJ rfl rfl rfl (aF (by first|omega|(simp;done)|(simp;omega)))) rfl ?_
   refine ab aa 1 rfl ?_
   refine bY ?_
   refine bl ?_
   refine then_ok ?_
   refine aw ?_
   refine ax (aJ rfl rfl rfl (aF (by first|omega|(simp;done)|(simp;omega)))) rfl ?_
   refine ab aa 1 rfl ?_
   refine ae ?_
   refine ⟨k+1,by first|omega|trivial,by first|omega|(simp;done)|(simp;omega),aD.bW id (by refine ⟨?_,?_,?_,?_,?_,?_,?_,?_,?_,?_,?_,trivial⟩<;>first|rfl|(simp only [bm];done)|(congr 3;omega)|(congr 4;omega)|(simp only [bn];rfl)|(first|(rw [iy hx2,km,<-Int.add_assoc];rfl)|(rw [iy hx1,km,<-Int.add_assoc];rfl))) (by refine ⟨?_,?_,?_,?_,trivial⟩<;>first|rfl|(simp only [bm];done)|(congr 3;omega)|(congr 4;omega)|(simp only [bn];rfl)) rfl⟩
  have hc6':=of_decide_eq_false hc6
  refine cm ?_
  refine aP ?_
  refine aP ?_
  refine bN ?_
  refine then_ok ?_
  refine af ?_
  refine cp 82 ((decide ((↑r2.length:Int)>=p.count))||(decide ((x.sum+gC ((r2).take k)) > p.sum))) ?_ ?_
  ·
   refine aw ?_
   refine ab aa 1 rfl ?_
   refine ax (dn rfl rfl rfl rfl rfl Try.underlying59) rfl ?_
   refine ab aa 4 rfl ?_
   refine bz (t:=77) rfl (fun hb7=>?_) (fun hb7=>?_)
   ·
    have hb7':=of_decide_eq_true hb7
    refine ab aa 5 rfl ?_
    refine ae ?_
    exact aD.bD 12 rfl rfl (by first|(simp [hb7];done)|(simp_all;done)|(exfalso;simp_all;done)|(simp_all;omega)) rfl
   have hb7':=of_decide_eq_false hb7
   refine ab aa 5 rfl ?_
   refine ae ?_
   exact aD.bD 12 rfl rfl (by first|(simp [hb7];done)|(simp_all;done)|(exfalso;simp_all;done)|(simp_all;omega)) rfl
  refine ag rfl (fun hc8=>?_) (fun hc8=>?_)
  ·
   have hc8':=hc8;try simp only [bj,bL] at hc8'
   refine ad aa 2 rfl ?_
   refine ar ?_
   refine ao ?_
   refine cQ (aD.nil 6 125 2 (by decide) rfl) ?_
   have hX:eg p l x=(([]:List cT),11):=by
     have hlate:gi l x.time=false:=by first|(rw [mw hx1];simp;omega)|(have:l=[]:=List.eq_nil_of_length_eq_zero (by omega);subst this;rfl)
     have hk:(r2).take k=r2:=List.take_of_length_le (by omega)
     rw [hk] at hc8'
     unfold eg;rw [if_neg (by omega),if_neg (by have:=hi0_1 (by omega);omega),if_neg (by have:=hi0_2 (by omega);omega),if_neg (by rw [hlate];simp),hr2,if_pos (by omega)]
   rw [hX] at hr;clear hX
   simp only [Prod.mk.injEq] at hr;obtain ⟨rfl,rfl⟩:=hr
   refine ah aa [5] 1 rfl rfl rfl rfl rfl rfl ?_ ?_
   all_goals first|rfl|(simp [au];done)|(simp [au];omega)
  have hc8':=hc8;try simp only [bj,bL] at hc8'
  refine aN ?_
  refine aA aa 2 rfl ?_
  refine aL 6 [5,4,3,1,0] (dA (ys:=[(0,(.g [(cI x.time),(cI x.sum)]))]) (rows:=([x]).map gN) 5 nP rfl (by decide) ⟨⟨rfl,rfl⟩,trivial⟩ rfl rfl rfl rfl) rfl ?_
  refine aL 7 [6,5,3,1,0] (de (m:=1) (N:=r2.length+1) (k2:=6) (ys:=([x]).map gN) nP rfl rfl rfl rfl rfl rfl (by first|omega|(simp;done)|(simp;omega)) rfl (.s rfl (by first|omega|(simp;done)|(simp;omega))) (by first|omega|(simp;done)|(simp;omega)) (by first|omega|(simp;done)|(simp;omega)) eY (by decide) (by first|omega|(simp;done)|(simp;omega)) (by first|omega|(simp;done)|(simp;omega))) rfl ?_
  refine ab aa 2 rfl ?_
  refine ae ?_
  refine ar ?_
  have hX:eg p l x=(r2++([x]),0):=by
    have hlate:gi l x.time=false:=by first|(rw [mw hx1];simp;omega)|(have:l=[]:=List.eq_nil_of_length_eq_zero (by omega);subst this;rfl)
    have hk:(r2).take k=r2:=List.take_of_length_le (by omega)
    rw [hk] at hc8'
    unfold eg;rw [if_neg (by omega),if_neg (by have:=hi0_1 (by omega);omega),if_neg (by have:=hi0_2 (by omega);omega),if_neg (by rw [hlate];simp),hr2,if_neg (by omega)]
  rw [hX] at hr;clear hX
  simp only [Prod.mk.injEq] at hr;obtain ⟨rfl,rfl⟩:=hr
  refine ah aa [6] 1 rfl rfl rfl rfl rfl rfl ?_ ?_
  all_goals first|rfl|(simp [au];done)|(simp [au];omega)
 have hb4':=of_decide_eq_false hb4
 refine bb [1,3,5,25,26,27,12] [3,1,0] mixed rfl rfl ?_
 refine az (kn:=[(43,false)]) aa 12 rfl ⟨hb4,trivial⟩ ?_
 refine bA [3,1,0] rfl rfl rfl rfl (by kernel_rfl) ?_
 refine ae ?_
 refine ag rfl (fun hno=>by cases hno) (fun _=>?_)
 refine aN ?_
 refine aA aa 4 rfl ?_
 obtain ⟨r3,hr3⟩:∃ (r3:List cT),dy p l x.time=r3:=⟨_,rfl⟩
 refine aL 5 [4,3,1,0] (bO 4 (nH p l x.time (by first|assumption|omega|(have q1:=nX (hr2.trans (by omega));have q2:=uses1 (x:=x) (by simp_all);omega)) (by first|assumption|omega) r3 hr3) Ci rfl rfl ⟨⟨_,rfl,.g ⟨.d _,.d _,.d _,trivial⟩⟩,⟨_,rfl,.c (.d _)⟩,⟨_,rfl,.c (.d _)⟩,trivial⟩ trivial ⟨(fun _ _ _ _=>trivial),trivial⟩ rfl rfl rfl rfl) rfl ?_
 refine ab aa 1 rfl ?_
 refine ae ?_
 refine ad aa 3 rfl ?_
 refine af ?_
 refine aA aa 1 rfl ?_
 refine ax (dn rfl rfl rfl rfl rfl Try.underlying59) rfl ?_
 refine ab aa 1 rfl ?_
 refine ae ?_
 refine aU ?_
 refine ct (β:=Nat) (fun (k:Nat)=>⟨[(1,(aC (fm l))),(3,(aC (.p 0 0 0 0))),(5,(aC (.p 1 0 0 0))),(25,(aC (.s 3 0 1 2))),(26,(aI 2)),(27,(aI (↑q:Int))),(13,(aC (.s 4 0 2 r3.length))),(14,(aI (x.sum+gC ((r3).take k)))),(61,(aC (.s 4 0 2 r3.length))),(62,(aI (↑r3.length:Int))),(63,(aI (↑k:Int)))],[(4,(oI r3)),(3,(.arr 59 1 (([l,[x]]).map tQ))),(1,(.box 125 [(cI x.time),(cI x.sum)])),(0,(.box 58 [(cI p.cH),(cI p.count),(cI p.sum)]))],5⟩) (fun (k:Nat)=>k<=(r3).length) (fun (k:Nat)=>(r3).length - k) 0 ?_ ?_ ?_
 ·exact (by omega)
 ·exact aD.bW id (by refine ⟨?_,?_,?_,?_,?_,?_,?_,?_,?_,?_,?_,trivial⟩<;>first|rfl|(simp only [bm];done)|(congr 3;omega)|(congr 4;omega)|(simp only [bn];rfl)|((rw [List.take_zero,gC,Int.add_zero];rfl))) (by refine ⟨?_,?_,?_,?_,trivial⟩<;>first|rfl|(simp only [bm];done)|(congr 3;omega)|(congr 4;omega)|(simp only [bn];rfl)) rfl
 rintro k hi1_0
 have hsb:=pj (p:=p) (l:=l) (t:=x.time) (k:=k) (hi0_1 (by omega))
 rw [hr3] at hsb
 have hrl:(r3).length<=30:=by rw [<-hr3];exact Nat.le_trans (oo _ _) (hru (hi0_1 (by omega)))
 refine ad aa 1 rfl ?_
 refine af ?_
 refine ag rfl (fun hc10=>?_) (fun hc10=>?_)
 ·
  have hc10':=of_decide_eq_true hc10
  refine aN ?_
  refine af ?_
  refine aU ?_
  refine eC ?_
  refine ax (bo (i:=k) rfl rfl rfl Try.underlying59 il (by first|omega|(simp;done)|(simp;omega)) (by first|omega|(simp;done)|(simp;omega))) rfl ?_
  obtain ⟨x1,hx1⟩:=ck (xs:=r3) (i:=k) (by first|omega|(simp;done)|(simp;omega))
  have hx1v:=(jw (hi0_1 (by omega))).2 x1 (jS (hr3.symm▸List.mem_of_getElem? hx1:x1∈dy p l x.time))
  refine ax (da rfl rfl rfl Try.underlying125 rfl il (bu hx1) rfl) rfl ?_
  refine ab aa 2 rfl ?_
  refine ae ?_
  refine aw ?_
  refine ab aa 3 rfl ?_
  refine ax (aJ rfl rfl rfl (aF (by first|omega|(simp;done)|(simp;omega)))) rfl ?_
  refine ab aa 1 rfl ?_
  refine bY ?_
  refine bl ?_
  refine then_ok ?_
  refine aw ?_
  refine ax (aJ rfl rfl rfl (aF (by first|omega|(simp;done)|(simp;omega)))) rfl ?_
  refine ab aa 1 rfl ?_
  refine ae ?_
  refine ⟨k+1,by first|omega|trivial,by first|omega|(simp;done)|(simp;omega),aD.bW id (by refine ⟨?_,?_,?_,?_,?_,?_,?_,?_,?_,?_,?_,trivial⟩<;>first|rfl|(simp only [bm];done)|(congr 3;omega)|(congr 4;omega)|(simp only [bn];rfl)|(first|(rw [iy hx2,km,<-Int.add_assoc];rfl)|(rw [iy hx1,km,<-Int.add_assoc];rfl))) (by refine ⟨?_,?_,?_,?_,trivial⟩<;>first|rfl|(simp only [bm];done)|(congr 3;omega)|(congr 4;omega)|(simp only [bn];rfl)) rfl⟩
 have hc10':=of_decide_eq_false hc10
 refine cm ?_
 refine aP ?_
 refine aP ?_
 refine bN ?_
 refine then_ok ?_
 refine af ?_
 refine cp 82 ((decide ((↑r3.length:Int)>=p.count))||(decide ((x.sum+gC ((r3).take k)) > p.sum))) ?_ ?_
 ·
  refine aw ?_
  refine ab aa 1 rfl ?_
  refine ax (dn rfl rfl rfl rfl rfl Try.underlying59) rfl ?_
  refine ab aa 4 rfl ?_
  refine bz (t:=77) rfl (fun hb11=>?_) (fun hb11=>?_)
  ·
   have hb11':=of_decide_eq_true hb11
   refine ab aa 5 rfl ?_
   refine ae ?_
   exact aD.bD 12 rfl rfl (by first|(simp [hb11];done)|(simp_all;done)|(exfalso;simp_all;done)|(simp_all;omega)) rfl
  have hb11':=of_decide_eq_false hb11
  refine ab aa 5 rfl ?_
  refine ae ?_
  exact aD.bD 12 rfl rfl (by first|(simp [hb11];done)|(simp_all;done)|(exfalso;simp_all;done)|(simp_all;omega)) rfl
 refine ag rfl (fun hc12=>?_) (fun hc12=>?_)
 ·
  have hc12':=hc12;try simp only [bj,bL] at hc12'
  refine ad aa 2 rfl ?_
  refine ar ?_
  refine ao ?_
  refine cQ (aD.nil 6 125 2 (by decide) rfl) ?_
  have hX:eg p l x=(([]:List cT),11):=by
    have hlate:gi l x.time=false:=by first|(rw [mw hx1];simp;omega)|(have:l=[]:=List.eq_nil_of_length_eq_zero (by omega);subst this;rfl)
    have hk:(r3).take k=r3:=List.take_of_length_le (by omega)
    rw [hk] at hc12'
    unfold eg;rw [if_neg (by omega),if_neg (by have:=hi0_1 (by omega);omega),if_neg (by have:=hi0_2 (by omega);omega),if_neg (by rw [hlate];simp),hr3,if_pos (by omega)]
  rw [hX] at hr;clear hX
  simp only [Prod.mk.injEq] at hr;obtain ⟨rfl,rfl⟩:=hr
  refine ah aa [5] 1 rfl rfl rfl rfl rfl rfl ?_ ?_
  all_goals first|rfl|(simp [au];done)|(simp [au];omega)
 have hc12':=hc12;try simp only [bj,bL] at hc12'
 refine aN ?_
 refine aA aa 2 rfl ?_
 refine aL 6 [5,4,3,1,0] (dA (ys:=[(0,(.g [(cI x.time),(cI x.sum)]))]) (rows:=([x]).map gN) 5 nP rfl (by decide) ⟨⟨rfl,rfl⟩,trivial⟩ rfl rfl rfl rfl) rfl ?_
 refine aL 7 [6,5,3,1,0] (de (m:=1) (N:=r3.length+1) (k2:=6) (ys:=([x]).map gN) nP rfl rfl rfl rfl rfl rfl (by first|omega|(simp;done)|(simp;omega)) rfl (.s rfl (by first|omega|(simp;done)|(simp;omega))) (by first|omega|(simp;done)|(simp;omega)) (by first|omega|(simp;done)|(simp;omega)) eY (by decide) (by first|omega|(simp;done)|(simp;omega)) (by first|omega|(simp;done)|(simp;omega))) rfl ?_
 refine ab aa 2 rfl ?_
 refine ae ?_
 refine ar ?_
 have hX:eg p l x=(r3++([x]),0):=by
   have hlate:gi l x.time=false:=by first|(rw [mw hx1];simp;omega)|(have:l=[]:=List.eq_nil_of_length_eq_zero (by omega);subst this;rfl)
   have hk:(r3).take k=r3:=List.take_of_length_le (by omega)
   rw [hk] at hc12'
   unfold eg;rw [if_neg (by omega),if_neg (by have:=hi0_1 (by omega);omega),if_neg (by have:=hi0_2 (by omega);omega),if_neg (by rw [hlate];simp),hr3,if_neg (by omega)]
 rw [hX] at hr;clear hX
 simp only [Prod.mk.injEq] at hr;obtain ⟨rfl,rfl⟩:=hr
 refine ah aa [6] 1 rfl rfl rfl rfl rfl rfl ?_ ?_
 all_goals first|rfl|(simp [au];done)|(simp [au];omega)
section
open Go.RowKit
end

theorem jH (c:bx) (e:Int) (hr:cu c=e):Fn Try.prog 28 [(.g [(cI c.bp),(cI c.held),(cI c.bX.cH),(cI c.bX.count),(cI c.bX.sum),(fm c.cD)])] (.v (.c (cI e))) []:=by
 refine Fn.mk' 32 [(0,(aG [(cI c.bp),(cI c.held),(cI c.bX.cH),(cI c.bX.count),(cI c.bX.sum),(fm c.cD)]))] Try.func28 rfl rfl rfl rfl ?_
 intro W0 T0
 refine fg 0 5 rfl rfl (fun hlen0_5=>?_)
 refine ad aa 2 rfl ?_
 refine af ?_
 refine cp 21 ((((decide (c.bp < (-1000000000000)))||(decide (c.bp > 1000000000000)))||(decide (c.held < 0)))||(decide (c.held > 1000000000000))) ?_ ?_
 ·
  refine aw ?_
  refine ab aa 4 rfl ?_
  refine bz (t:=7) rfl (fun hb1=>?_) (fun hb1=>?_)
  ·
   have hb1':=of_decide_eq_true hb1
   refine ab aa 14 rfl ?_
   refine ae ?_
   exact aD.bD 19 rfl rfl (by first|(simp [hb1];done)|(simp_all;done)|(exfalso;simp_all;done)|(simp_all;omega)) rfl
  have hb1':=of_decide_eq_false hb1
  refine ab aa 5 rfl ?_
  refine bz (t:=12) rfl (fun hb2=>?_) (fun hb2=>?_)
  ·
   have hb2':=of_decide_eq_true hb2
   refine ab aa 9 rfl ?_
   refine ae ?_
   exact aD.bD 20 rfl rfl (by first|(simp [hb1,hb2];done)|(simp_all;done)|(exfalso;simp_all;done)|(simp_all;omega)) rfl
  have hb2':=of_decide_eq_false hb2
  refine ab aa 5 rfl ?_
  refine bz (t:=17) rfl (fun hb3=>?_) (fun hb3=>?_)
  ·
   have hb3':=of_decide_eq_true hb3
   refine ab aa 4 rfl ?_
   refine ae ?_
   exact aD.bD 21 rfl rfl (by first|(simp [hb1,hb2,hb3];done)|(simp_all;done)|(exfalso;simp_all;done)|(simp_all;omega)) rfl
  have hb3':=of_decide_eq_false hb3
  refine ab aa 4 rfl ?_
  refine ae ?_
  exact aD.bD 21 rfl rfl (by first|(simp [hb1,hb2,hb3];done)|(simp_all;done)|(exfalso;simp_all;done)|(simp_all;omega)) rfl
 refine ag rfl (fun hc4=>?_) (fun hc4=>?_)
 ·
  have hc4':=hc4;try simp only [bj,bL] at hc4'
  refine ad aa 1 rfl ?_
  refine ar ?_
  refine ao ?_
  have hX:cu c=3:=by
    unfold cu;rw [if_pos (by omega)]
  rw [hX] at hr;clear hX
  subst hr
  refine ah aa [] 0 rfl rfl rfl rfl rfl rfl ?_ ?_
  all_goals first|rfl|(simp [au];done)|(simp [au];omega)
 have hc4':=hc4;try simp only [bj,bL] at hc4'
 refine aN ?_
 refine af ?_
 refine aA aa 2 rfl ?_
 obtain ⟨e0,hr0⟩:∃ (e0:Int),fc c.bX=e0:=⟨_,rfl⟩
 refine aL 1 [0] (bO 1 (kF c.bX e0 hr0) Bq rfl rfl ⟨⟨_,rfl,.g ⟨.d _,.d _,.d _,trivial⟩⟩,trivial⟩ trivial trivial rfl rfl rfl rfl) rfl ?_
 refine ab aa 1 rfl ?_
 refine ae ?_
 refine ad aa 2 rfl ?_
 refine ag rfl (fun hc5=>?_) (fun hc5=>?_)
 ·
  have hc5':=of_decide_eq_true hc5
  refine ad aa 2 rfl ?_
  refine ar ?_
  refine ao ?_
  have hX:cu c=e0:=by
    unfold cu;rw [if_neg (by omega),if_pos (by omega),hr0]
  rw [hX] at hr;clear hX
  subst hr
  refine ah aa [] 0 rfl rfl rfl rfl rfl rfl ?_ ?_
  all_goals first|rfl|(simp [au];done)|(simp [au];omega)
 have hc5':=of_decide_eq_false hc5
 refine aN ?_
 refine aA aa 2 rfl ?_
 obtain ⟨f1,hr1⟩:∃ (f1:cV),eZ c.cD=f1:=⟨_,rfl⟩
 refine aL 1 [0] (bO 1 (oD c.cD f1 hr1) En rfl rfl ⟨⟨_,rfl,.c (.d _)⟩,trivial⟩ ⟨trivial,trivial,trivial⟩ trivial rfl rfl rfl rfl) rfl ?_
 refine ax (Bh rfl rfl Try.underlying50 rfl Try.underlying48 rfl rfl) rfl ?_
 refine ab aa 1 rfl ?_
 refine ae ?_
 refine ar ?_
 have hX:cu c=f1.err:=by
   unfold cu;rw [if_neg (by omega),if_neg (by omega),hr1]
 rw [hX] at hr;clear hX
 subst hr
 refine ah aa [] 0 rfl rfl rfl rfl rfl rfl ?_ ?_
 all_goals first|rfl|(simp [au];done)|(simp [au];omega)
theorem pD (c:bx) (hb:-9223372036854775808<=c.bp - c.held/\c.bp - c.held<=9223372036854775807):Fn Try.prog 24 [(.g [(cI c.bp),(cI c.held),(cI c.bX.cH),(cI c.bX.count),(cI c.bX.sum),(fm c.cD)])] (aI (c.bp - c.held)) []:=by
 refine Fn.mk' 8 [(0,(aG [(cI c.bp),(cI c.held),(cI c.bX.cH),(cI c.bX.count),(cI c.bX.sum),(fm c.cD)]))] Try.func24 rfl rfl rfl rfl ?_
 intro W0 T0
 refine fg 0 5 rfl rfl (fun hlen0_5=>?_)
 obtain ⟨hb1,hb2⟩:=hb
 refine ad aa 2 rfl ?_
 refine aA aa 4 rfl ?_
 refine ax (aJ rfl rfl rfl (aF (by first|omega|(simp;done)|(simp;omega)))) rfl ?_
 refine ab aa 1 rfl ?_
 refine ae ?_
 refine ar ?_
 refine ah aa [] 0 rfl rfl rfl rfl rfl rfl ?_ ?_
 all_goals first|rfl|(simp [au];done)|(simp [au];omega)
theorem rm (c:bx) (hl:c.cD.length<=1048576):Fn Try.prog 108 [(.g [(cI c.bp),(cI c.held),(cI c.bX.cH),(cI c.bX.count),(cI c.bX.sum),(fm c.cD)])] (.v (.g [cI c.bp,cI c.held,cI c.bX.cH,cI c.bX.count,cI c.bX.sum,.s 0 0 2 c.cD.length])) [(0,.arr 125 2 (c.cD.map gN))]:=by
 refine Fn.mk' 8 [(0,(aG [(cI c.bp),(cI c.held),(cI c.bX.cH),(cI c.bX.count),(cI c.bX.sum),(fm c.cD)]))] Try.func108 rfl rfl rfl rfl ?_
 intro W0 T0
 refine fg 0 5 rfl rfl (fun hlen0_5=>?_)
 refine ad aa 2 rfl ?_
 refine aA aa 2 rfl ?_
 refine aL 3 [2,1,0] (bO 2 (pG c.cD (by first|omega|(simp;done)|(simp;omega))) Ch rfl rfl ⟨⟨_,rfl,.c (.d _)⟩,trivial⟩ trivial ⟨(fun _ _ _ _=>trivial),trivial⟩ rfl rfl rfl rfl) rfl ?_
 refine ab aa 2 rfl ?_
 refine ae ?_
 refine ad aa 2 rfl ?_
 refine ar ?_
 refine ah aa [2,1] 1 rfl rfl rfl rfl rfl rfl ?_ ?_
 all_goals first|rfl|(simp [au];done)|(simp [au];omega)

theorem vy (c:bx) (n time:Int) (x:bx) (e:Int) (hr:dE c n time=(x,e)):Fn Try.prog 80 [(.g [(cI c.bp),(cI c.held),(cI c.bX.cH),(cI c.bX.count),(cI c.bX.sum),(fm c.cD)]),(.c (cI n)),(.c (cI time))] (.t [(.g [(cI x.bp),(cI x.held),(cI x.bX.cH),(cI x.bX.count),(cI x.bX.sum),(.s 0 0 2 x.cD.length)]),(.c (cI e))]) [(0,(oI x.cD))]:=by
 refine Fn.mk' 60 [(0,(aG [(cI c.bp),(cI c.held),(cI c.bX.cH),(cI c.bX.count),(cI c.bX.sum),(fm c.cD)])),(1,(aI n)),(2,(aI time))] Try.func80 rfl rfl rfl rfl ?_
 intro W0 T0
 refine fg 0 5 rfl rfl (fun hlen0_5=>?_)
 have hrc:=@gq c
 have hrl:=@mR c
 refine ad aa 3 rfl ?_
 refine af ?_
 refine aA aa 1 rfl ?_
 obtain ⟨e0,hr0⟩:∃ (e0:Int),cu c=e0:=⟨_,rfl⟩
 refine aL 2 [1,0] (bO 2 (jH c e0 hr0) ye rfl rfl ⟨⟨_,rfl,.g ⟨.d _,.d _,.d _,.d _,.d _,.d _,trivial⟩⟩,trivial⟩ trivial trivial rfl rfl rfl rfl) rfl ?_
 refine ab aa 1 rfl ?_
 refine ae ?_
 refine ad aa 2 rfl ?_
 refine ag rfl (fun hc1=>?_) (fun hc1=>?_)
 ·
  have hc1':=of_decide_eq_true hc1
  refine ad aa 4 rfl ?_
  refine ar ?_
  refine ao ?_
  refine cb 1 5 125 2 rfl rfl rfl ?_
  have hX:dE c n time=((⟨0,0,(⟨0,0,0⟩:dk),([]:List cT)⟩:bx),e0):=by
    unfold dE;rw [if_pos (by omega),hr0];rfl
  rw [hX] at hr;clear hX
  simp only [Prod.mk.injEq] at hr;obtain ⟨rfl,rfl⟩:=hr
  refine ah aa [2,1] 1 rfl rfl rfl rfl rfl rfl ?_ ?_
  all_goals first|rfl|(simp [au];done)|(simp [au];omega)
 have hc1':=of_decide_eq_false hc1
 refine aN ?_
 refine af ?_
 refine cp 30 ((((decide (n < 1))||(decide (n > 1000000)))||(decide (time < 0)))||(decide (time > 1000000))) ?_ ?_
 ·
  refine aw ?_
  refine ab aa 3 rfl ?_
  refine bz (t:=19) rfl (fun hb2=>?_) (fun hb2=>?_)
  ·
   have hb2':=of_decide_eq_true hb2
   refine ab aa 11 rfl ?_
   refine ae ?_
   exact aD.bD 15 rfl rfl (by first|(simp [hb2];done)|(simp_all;done)|(exfalso;simp_all;done)|(simp_all;omega)) rfl
  have hb2':=of_decide_eq_false hb2
  refine ab aa 4 rfl ?_
  refine bz (t:=23) rfl (fun hb3=>?_) (fun hb3=>?_)
  ·
   have hb3':=of_decide_eq_true hb3
   refine ab aa 7 rfl ?_
   refine ae ?_
   exact aD.bD 16 rfl rfl (by first|(simp [hb2,hb3];done)|(simp_all;done)|(exfalso;simp_all;done)|(simp_all;omega)) rfl
  have hb3':=of_decide_eq_false hb3
  refine ab aa 4 rfl ?_
  refine bz (t:=27) rfl (fun hb4=>?_) (fun hb4=>?_)
  ·
   have hb4':=of_decide_eq_true hb4
   refine ab aa 3 rfl ?_
   refine ae ?_
   exact aD.bD 17 rfl rfl (by first|(simp [hb2,hb3,hb4];done)|(simp_all;done)|(exfalso;simp_all;done)|(simp_all;omega)) rfl
  have hb4':=of_decide_eq_false hb4
  refine ab aa 3 rfl ?_
  refine ae ?_
  exact aD.bD 17 rfl rfl (by first|(simp [hb2,hb3,hb4];done)|(simp_all;done)|(exfalso;simp_all;done)|(simp_all;omega)) rfl
 refine ag rfl (fun hc5=>?_) (fun hc5=>?_)
 ·
  have hc5':=hc5;try simp only [bj,bL] at hc5'
  refine ad aa 3 rfl ?_
  refine ar ?_
  refine ao ?_
  refine cb 1 5 125 2 rfl rfl rfl ?_
  have hX:dE c n time=((⟨0,0,(⟨0,0,0⟩:dk),([]:List cT)⟩:bx),3):=by
    unfold dE;rw [if_neg (by omega),if_pos (by omega)];rfl
  rw [hX] at hr;clear hX
  simp only [Prod.mk.injEq] at hr;obtain ⟨rfl,rfl⟩:=hr
  refine ah aa [2,1] 1 rfl rfl rfl rfl rfl rfl ?_ ?_
  all_goals first|rfl|(simp [au];done)|(simp [au];omega)
 have hc5':=hc5;try simp only [bj,bL] at hc5'
 refine aN ?_
 refine af ?_
 refine aA aa 2 rfl ?_
 refine aL 2 [1,0] (bO 2 (pD c (by first|assumption|omega|(constructor<;>decide)|(have hz:=gq (by first|assumption|omega);omega))) Er rfl rfl ⟨⟨_,rfl,.g ⟨.d _,.d _,.d _,.d _,.d _,.d _,trivial⟩⟩,trivial⟩ trivial trivial rfl rfl rfl rfl) rfl ?_
 refine ab aa 1 rfl ?_
 refine ae ?_
 refine ag rfl (fun hc6=>?_) (fun hc6=>?_)
 ·
  have hc6':=of_decide_eq_true hc6
  refine ad aa 3 rfl ?_
  refine ar ?_
  refine ao ?_
  refine cb 1 5 125 2 rfl rfl rfl ?_
  have hX:dE c n time=((⟨0,0,(⟨0,0,0⟩:dk),([]:List cT)⟩:bx),10):=by
    unfold dE;rw [if_neg (by omega),if_neg (by omega),if_pos (by omega)];rfl
  rw [hX] at hr;clear hX
  simp only [Prod.mk.injEq] at hr;obtain ⟨rfl,rfl⟩:=hr
  refine ah aa [2,1] 1 rfl rfl rfl rfl rfl rfl ?_ ?_
  all_goals first|rfl|(simp [au];done)|(simp [au];omega)
 have hc6':=of_decide_eq_false hc6
 refine aN ?_
 refine aA aa 7 rfl ?_
 obtain ⟨r1,e1,hr1⟩:∃ (r1:List cT) (e1:Int),eg c.bX c.cD (⟨time,n⟩:cT)=(r1,e1):=⟨_,_,rfl⟩
 refine aL 3 [2,1,0] (bO 2 (yl c.bX c.cD (⟨time,n⟩:cT) r1 e1 hr1) Fz rfl rfl ⟨⟨_,rfl,.g ⟨.d _,.d _,.d _,trivial⟩⟩,⟨_,rfl,.c (.d _)⟩,⟨_,rfl,.g ⟨.d _,.d _,trivial⟩⟩,trivial⟩ ⟨trivial,trivial,trivial⟩ ⟨(fun _ _ _ _=>trivial),trivial⟩ rfl rfl rfl rfl) rfl ?_
 refine ab aa 5 rfl ?_
 refine ae ?_
 refine af ?_
 refine ad aa 2 rfl ?_
 refine ag rfl (fun hc7=>?_) (fun hc7=>?_)
 ·
  have hc7':=of_decide_eq_true hc7
  refine ad aa 4 rfl ?_
  refine ar ?_
  refine ao ?_
  refine cb 1 5 125 2 rfl rfl rfl ?_
  have hX:dE c n time=((⟨0,0,(⟨0,0,0⟩:dk),([]:List cT)⟩:bx),e1):=by
    have ha:=hr1
    unfold dE;rw [if_neg (by omega),if_neg (by omega),if_neg (by omega),if_pos (by rw [ha];dsimp only;omega),ha];rfl
  rw [hX] at hr;clear hX
  simp only [Prod.mk.injEq] at hr;obtain ⟨rfl,rfl⟩:=hr
  refine ah aa [3,1] 1 rfl rfl rfl rfl rfl rfl ?_ ?_
  all_goals first|rfl|(simp [au];done)|(simp [au];omega)
 have hc7':=of_decide_eq_false hc7
 refine aN ?_
 refine ad aa 3 rfl ?_
 refine aA aa 3 rfl ?_
 refine ax (aJ rfl rfl rfl (aF (by first|omega|(simp;done)|(simp;omega)))) rfl ?_
 refine ab aa 2 rfl ?_
 refine ae ?_
 refine ad aa 3 rfl ?_
 refine ar ?_
 have hX:dE c n time=((⟨c.bp,c.held+n,c.bX,r1⟩:bx),0):=by
   have ha:=hr1
   unfold dE;rw [if_neg (by omega),if_neg (by omega),if_neg (by omega),if_neg (by rw [ha];dsimp only;omega),ha]
 rw [hX] at hr;clear hX
 simp only [Prod.mk.injEq] at hr;obtain ⟨rfl,rfl⟩:=hr
 refine ah aa [2,1] 1 rfl rfl rfl rfl rfl rfl ?_ ?_
 all_goals first|rfl|(simp [au];done)|(simp [au];omega)
theorem vx (c:bx) (n:Int) (x:bx) (e:Int) (hr:eK c n=(x,e)):Fn Try.prog 91 [(.g [(cI c.bp),(cI c.held),(cI c.bX.cH),(cI c.bX.count),(cI c.bX.sum),(fm c.cD)]),(.c (cI n))] (.t [(.g [(cI x.bp),(cI x.held),(cI x.bX.cH),(cI x.bX.count),(cI x.bX.sum),(.s 0 0 2 x.cD.length)]),(.c (cI e))]) [(0,(oI x.cD))]:=by
 refine Fn.mk' 35 [(0,(aG [(cI c.bp),(cI c.held),(cI c.bX.cH),(cI c.bX.count),(cI c.bX.sum),(fm c.cD)])),(1,(aI n))] Try.func91 rfl rfl rfl rfl ?_
 intro W0 T0
 refine fg 0 5 rfl rfl (fun hlen0_5=>?_)
 have hrc:=@gq c
 have hrl:=@mR c
 refine ad aa 3 rfl ?_
 refine af ?_
 refine aA aa 1 rfl ?_
 obtain ⟨e0,hr0⟩:∃ (e0:Int),cu c=e0:=⟨_,rfl⟩
 refine aL 2 [1,0] (bO 2 (jH c e0 hr0) ye rfl rfl ⟨⟨_,rfl,.g ⟨.d _,.d _,.d _,.d _,.d _,.d _,trivial⟩⟩,trivial⟩ trivial trivial rfl rfl rfl rfl) rfl ?_
 refine ab aa 1 rfl ?_
 refine ae ?_
 refine ad aa 2 rfl ?_
 refine ag rfl (fun hc1=>?_) (fun hc1=>?_)
 ·
  have hc1':=of_decide_eq_true hc1
  refine ad aa 4 rfl ?_
  refine ar ?_
  refine ao ?_
  refine cb 1 5 125 2 rfl rfl rfl ?_
  have hX:eK c n=((⟨0,0,(⟨0,0,0⟩:dk),([]:List cT)⟩:bx),e0):=by
    unfold eK;rw [if_pos (by omega),hr0];rfl
  rw [hX] at hr;clear hX
  simp only [Prod.mk.injEq] at hr;obtain ⟨rfl,rfl⟩:=hr
  refine ah aa [2,1] 1 rfl rfl rfl rfl rfl rfl ?_ ?_
  all_goals first|rfl|(simp [au];done)|(simp [au];omega)
 have hc1':=of_decide_eq_false hc1
 refine aN ?_
 refine af ?_
 refine cp 25 (((decide (n < 1))||(decide (n > 1000000)))||(decide (n > (1000000000000 - c.held)))) ?_ ?_
 ·
  refine aw ?_
  refine ab aa 3 rfl ?_
  refine bz (t:=15) rfl (fun hb2=>?_) (fun hb2=>?_)
  ·
   have hb2':=of_decide_eq_true hb2
   refine ab aa 10 rfl ?_
   refine ae ?_
   exact aD.bD 14 rfl rfl (by first|(simp [hb2];done)|(simp_all;done)|(exfalso;simp_all;done)|(simp_all;omega)) rfl
  have hb2':=of_decide_eq_false hb2
  refine ab aa 4 rfl ?_
  refine bz (t:=19) rfl (fun hb3=>?_) (fun hb3=>?_)
  ·
   have hb3':=of_decide_eq_true hb3
   refine ab aa 6 rfl ?_
   refine ae ?_
   exact aD.bD 15 rfl rfl (by first|(simp [hb2,hb3];done)|(simp_all;done)|(exfalso;simp_all;done)|(simp_all;omega)) rfl
  have hb3':=of_decide_eq_false hb3
  refine ab aa 3 rfl ?_
  refine dP (aj.yes rfl rfl rfl) (aJ rfl rfl rfl (aF (by first|omega|(simp;done)|(simp;omega)))) rfl rfl ?_
  refine ab aa 2 rfl ?_
  refine ae ?_
  exact aD.bD 15 rfl rfl (by first|(simp [hb2,hb3];done)|(simp_all;done)|(exfalso;simp_all;done)|(simp_all;omega)) rfl
 refine ag rfl (fun hc4=>?_) (fun hc4=>?_)
 ·
  have hc4':=hc4;try simp only [bj,bL] at hc4'
  refine ad aa 3 rfl ?_
  refine ar ?_
  refine ao ?_
  refine cb 1 5 125 2 rfl rfl rfl ?_
  have hX:eK c n=((⟨0,0,(⟨0,0,0⟩:dk),([]:List cT)⟩:bx),3):=by
    unfold eK;rw [if_neg (by omega),if_pos (by omega)];rfl
  rw [hX] at hr;clear hX
  simp only [Prod.mk.injEq] at hr;obtain ⟨rfl,rfl⟩:=hr
  refine ah aa [2,1] 1 rfl rfl rfl rfl rfl rfl ?_ ?_
  all_goals first|rfl|(simp [au];done)|(simp [au];omega)
 have hc4':=hc4;try simp only [bj,bL] at hc4'
 refine aN ?_
 refine aA aa 1 rfl ?_
 refine aL 3 [2,1,0] (bO 2 (rm c (by first|assumption|omega)) Ck rfl rfl ⟨⟨_,rfl,.g ⟨.d _,.d _,.d _,.d _,.d _,.d _,trivial⟩⟩,trivial⟩ ⟨trivial,trivial,trivial,trivial,trivial,trivial,trivial⟩ ⟨(fun _ _ _ _=>trivial),trivial⟩ rfl rfl rfl rfl) rfl ?_
 refine ab aa 1 rfl ?_
 refine ae ?_
 refine aA aa 3 rfl ?_
 refine ax (aJ rfl rfl rfl (aF (by first|omega|(simp;done)|(simp;omega)))) rfl ?_
 refine ab aa 2 rfl ?_
 refine ae ?_
 refine ad aa 3 rfl ?_
 refine ar ?_
 have hX:eK c n=((⟨c.bp,c.held+n,c.bX,c.cD⟩:bx),0):=by
   unfold eK;rw [if_neg (by omega),if_neg (by omega)]
 rw [hX] at hr;clear hX
 simp only [Prod.mk.injEq] at hr;obtain ⟨rfl,rfl⟩:=hr
 refine ah aa [2,1] 1 rfl rfl rfl rfl rfl rfl ?_ ?_
 all_goals first|rfl|(simp [au];done)|(simp [au];omega)
end Go.Proofs.Ytegepioggeggaaa.Dev
