/- A part of the proof: PlDay, PlBank, Bank0, Pace1, Pace2, Del1, Pace3, Pace5, Card1, Card2, Card3. No condition. -/
import Derived.Test.YtegepioggeggaaaD06
set_option linter.unusedVariables false
set_option linter.unusedSimpArgs false
set_option maxHeartbeats 1000000
set_option maxRecDepth 100000
namespace Go.Proofs.Ytegepioggeggaaa.Dev
open Go.RowKit
def mg (r:ak):Prop:=r.kind < 1\/r.kind > 8
def nt (r:ak):Prop:=r.az < 0\/r.az > 7\/r.ba < 0\/r.ba > 29\/r.sum < 1\/r.sum > 1000000
instance (r:ak):Decidable (mg r):=by unfold mg;infer_instance
instance (r:ak):Decidable (nt r):=by unfold nt;infer_instance
def mb:List ak->Int->cX
 |[],_=>⟨0,0⟩
 |r::l,i=>if mg r then ⟨1,i⟩ else if nt r then ⟨3,i⟩ else mb l (i+1)
def ga (l:List ak):cX:=if l.length > 100 then ⟨5,0⟩ else mb l 0
theorem nY {l:List ak} {q:Nat} {x:ak} (h:l[q]?=some x):mb (l.drop q) q=if mg x then ⟨1,q⟩ else if nt x then ⟨3,q⟩ else mb (l.drop (q+1)) ((q+1:Nat):Int):=by
 obtain ⟨hq,rfl⟩:=List.getElem?_eq_some_iff.1 h
 rw [List.drop_eq_getElem_cons hq];rfl
theorem yI {l:List ak} {q:Nat} {i:Int} (h:l.length<=q):mb (l.drop q) i=⟨0,0⟩:=by rw [List.drop_of_length_le h];rfl
def wx (r:ak):Prop:=¬mg r/\¬nt r
theorem wo:∀ {l:List ak} {i:Int},(mb l i).err=0↔∀ x∈l,wx x
 |[],i=>by simp [mb]
 |r::l,i=>by
  unfold mb
  split
  ·rename_i h
   simp only [List.mem_cons,forall_eq_or_imp]
   exact ⟨fun e=>absurd e (by decide),fun e=>absurd h e.1.1⟩
  ·split
   ·rename_i h
    simp only [List.mem_cons,forall_eq_or_imp]
    exact ⟨fun e=>absurd e (by decide),fun e=>absurd h e.1.2⟩
   ·rename_i h1 h2
    rw [wo]
    simp only [List.mem_cons,forall_eq_or_imp]
    exact ⟨fun e=>⟨⟨h1,h2⟩,e⟩,fun e=>e.2⟩
theorem yh {l:List ak}:(ga l).err=0↔l.length<=100/\∀ x∈l,wx x:=by
 unfold ga
 split
 ·exact ⟨fun e=>absurd e (by decide),fun e=>by omega⟩
 ·rw [wo];exact ⟨fun e=>⟨by omega,e⟩,fun e=>e.2⟩
theorem Et {x:ak} (h:wx x):0<=x.az/\x.az<=7/\0<=x.ba/\x.ba<=29/\1<=x.kind/\x.kind<=8/\1<=x.sum/\x.sum<=1000000:=by
 unfold wx mg nt at h;omega
theorem qz {l:List ak} {q:Nat} {x:ak} (h:l[q]?=some x):l.take (q+1)=l.take q++[x]:=by
 rw [List.take_add_one,h];rfl
def lM (n:Int):Nat->List Int
 |0=>[]
 |k+1=>n / 256 ^ k % 256::lM n k
theorem oY (n:Int):∀ k,(lM n k).length=k
 |0=>rfl
 |k+1=>by unfold lM;rw [List.length_cons,oY n k]
theorem Bn {n:Int} {k:Nat} (h:1<=k):lM n k=n / 256 ^ (k - 1) % 256::lM n (k - 1):=by
 obtain ⟨j,rfl⟩:∃ j,k=j+1:=⟨k - 1,by omega⟩
 rfl
theorem Ce (k:Nat):(2:Int) ^ (8 * k)=256 ^ k:=by rw [Int.pow_mul];rfl
theorem Ft {k:Nat} {b n:Int} (h1:1<=k) (hb:b=8 * ((k:Int) - 1)):n / 2 ^ b.toNat=n / 256 ^ (k - 1):=by
 subst hb
 rw [show (8 * ((k:Int) - 1)).toNat=8 * (k - 1) by omega,Ce]
def uw (x:ak):List Int:=[x.az % 256,x.ba % 256,x.kind % 256]++lM x.sum 3
def kY:List ak->Int
 |[]=>0
 |x::l=>x.sum+kY l
theorem zZ (u v:List ak):kY (u++v)=kY u+kY v:=by
 induction u with
 |nil=>simp [kY]
 |cons x u ih=>simp only [List.cons_append,kY,ih];omega
theorem yv {l:List ak} {q:Nat} {x:ak} (h:l[q]?=some x):kY (l.take (q+1))=kY (l.take q)+x.sum:=by
 rw [qz h,zZ];simp [kY]
def lH (l r:List ak):List Int:=((l.length:Int) % 256)::r.flatMap uw
theorem xB {l r:List ak} {q:Nat} {x:ak} (h:r[q]?=some x):lH l (r.take (q+1))=lH l (r.take q)++uw x:=by
 unfold lH;rw [qz h,List.flatMap_append];simp
theorem Ak (x:ak):(uw x).length=6:=by unfold uw;rw [List.length_append,oY];rfl
theorem ze (l r:List ak):(lH l r).length=1+6 * r.length:=by
 unfold lH
 rw [List.length_cons]
 induction r with
 |nil=>rfl
 |cons x r ih=>rw [List.flatMap_cons,List.length_append,Ak,List.length_cons];omega
def jD (l:List ak):List Int×cX:=if (ga l).err=0 then (lH l (gi l)++lM (kY (gi l)) 4,⟨0,0⟩) else ([],ga l)
def dw (e err:Int):Int:=if e=0 then err else e
def dM (l:List Entry) (e src dst n:Int):List Entry×Int:=
 if dw e (iA l src dst n).2=0 then ((iA l src dst n).1,0) else (l,dw e (iA l src dst n).2)
def cz (l:List bD) (e k held bx:Int):List bD×Int:=
 match l[k.toNat]? with
 |none=>(l,e)
 |some c=>if dw e (dQ c held bx).2=0 then (l.set k.toNat (dQ c held bx).1,0) else (l,dw e (dQ c held bx).2)
def eA (s:bV) (e:Int) (t:bj):bV×Int:=if dw e (gf s t).2=0 then ((gf s t).1,0) else (s,dw e (gf s t).2)
def iz (l:List ak) (e:Int) (r:ak):List ak×Int:=if l.length=100 then (l,dw e 5) else (l++[r],e)
theorem nR {l:List bD} {e k held bx:Int} {c:bD} (h:l[k.toNat]?=some c):cz l e k held bx=if dw e (dQ c held bx).2=0 then (l.set k.toNat (dQ c held bx).1,0) else (l,dw e (dQ c held bx).2):=by
 unfold cz;rw [h]
def ez (aq:List bB) (due:List Int) (ao:List bD) (book:List Entry) (e:Int) (t:bj):List Int×List bD×List Entry×Int:=
 match aq[t.ba.toNat]? with
 |none=>(due,ao,book,e)
 |some a=>
  if t.kind=1 then (due.set a.az.toNat (IntKind.i64.wrap (due.getD a.az.toNat 0+t.sum)),ao,dM book e 1 (50+a.az) t.sum)
  else if t.kind=2 then (due,(cz ao e a.aL 0 t.sum).1,dM book (cz ao e a.aL 0 t.sum).2 1 (10+a.aL) t.sum)
  else if t.kind=3 then (due.set a.az.toNat (IntKind.i64.wrap (due.getD a.az.toNat 0 - t.sum)),ao,dM book e (50+a.az) 2 t.sum)
  else (due,ao,book,e)
structure Bk where (time:Int) (down:Bool) (ao:List bD) (due:List Int) (aq:List bB) (s0 s1:bV) (n0 n1:Int) (w0 w1:List cc) (bF:cv) (aS:List ak) (book:List Entry)
 deriving DecidableEq
def dt (b c:Bk) (e:Int):Bk×Answer:=if e=0 then (c,⟨0,0⟩) else (b,⟨e,0⟩)
def ft (b:Bk) (d:aV):Bk×Answer:=
 if d.n < 0\/d.n>=b.ao.length then (b,⟨6,0⟩)
 else if d.sum < 1\/d.sum > 1000000 then (b,⟨3,0⟩)
 else dt b {b with ao:=(cz b.ao 0 d.n 0 d.sum).1,book:=(dM b.book (cz b.ao 0 d.n 0 d.sum).2 0 (10+d.n) d.sum).1} (dM b.book (cz b.ao 0 d.n 0 d.sum).2 0 (10+d.n) d.sum).2
def gL (b:Bk) (d:aV):Bk×Answer:=
 if d.n < 0\/d.n>=b.due.length then (b,⟨6,0⟩)
 else if b.due.getD d.n.toNat 0<=0 then (b,⟨10,0⟩)
 else dt b {b with due:=b.due.set d.n.toNat 0,book:=(dM b.book 0 (50+d.n) 0 (b.due.getD d.n.toNat 0)).1} (dM b.book 0 (50+d.n) 0 (b.due.getD d.n.toNat 0)).2
def fk (time:Int):List bB->Nat->List bD->List bB->Int->List bD×List bB×Int
 |[],_,ao,aq,e=>(ao,aq,e)
 |a::l,i,ao,aq,e=>fk time l (i+1) (cz ao e a.aL (bK (dU a time) - bK a) 0).1 (aq.set i (dU a time)) (cz ao e a.aL (bK (dU a time) - bK a) 0).2
def gk (b:Bk):Bk:=if (fk b.time b.aq 0 b.ao b.aq 0).2.2=0 then {b with ao:=(fk b.time b.aq 0 b.ao b.aq 0).1,aq:=(fk b.time b.aq 0 b.ao b.aq 0).2.1} else b
def eT (b:Bk) (d:aV):Bk×Answer:=
 if d.sum < 0\/d.sum > 1000000 - b.time then (b,⟨3,0⟩)
 else (if b.down=true then {b with time:=b.time+d.sum} else gk {b with time:=b.time+d.sum},⟨0,0⟩)
def lD (l:List cc) (ks:List bj) (n:Int):List cc:=l++ks.map (fun t=>⟨t,-1⟩)++[⟨⟨0,0,0,0⟩,n⟩]
def jo (w:List cc) (ks:List bj) (n:Int):List cc×Answer:=if (lD w ks n).length > 60 then (w,⟨5,0⟩) else (lD w ks n,⟨0,0⟩)
def eK (s0 s1:bV) (n0 n1:Int) (w0 w1:List cc) (d:aV):List cc×List cc×Answer:=
 if d.n=0 then (w0,jo w1 s0.kept n0) else if d.n=1 then ((jo w0 s1.kept n1).1,w1,(jo w0 s1.kept n1).2) else (w0,w1,⟨6,0⟩)
def iy (aS:List ak) (days:List (List Int)):List ak×List (List Int)×Answer:=
 if (jD aS).2.err≠0 then (aS,days,⟨(jD aS).2.err,0⟩) else ([],days++[(jD aS).1],⟨0,0⟩)
def gr (e:Int):Int:=if e=10 then 12 else e
def du (b:Bk) (d:aV):Bk×Answer:=
 if d.n < 0\/d.n>=b.ao.length\/d.az < 0\/d.az>=b.due.length then (b,⟨6,0⟩)
 else if b.down=true then
  (if gr (cg b.bF ⟨d.n,d.az,d.sum,b.time⟩).2=0/\(b.aq.length:Int)+(cg b.bF ⟨d.n,d.az,d.sum,b.time⟩).1.aY.length > 30 then (b,⟨5,0⟩)
  else if gr (cg b.bF ⟨d.n,d.az,d.sum,b.time⟩).2≠0 then (b,⟨gr (cg b.bF ⟨d.n,d.az,d.sum,b.time⟩).2,0⟩)
  else ({b with bF:=(cg b.bF ⟨d.n,d.az,d.sum,b.time⟩).1},⟨0,(b.aq.length:Int)+(cg b.bF ⟨d.n,d.az,d.sum,b.time⟩).1.aY.length - 1⟩))
 else if (cV d.n d.az d.sum b.time).2=0/\b.aq.length=30 then (b,⟨5,0⟩)
 else if (cV d.n d.az d.sum b.time).2≠0 then (b,⟨(cV d.n d.az d.sum b.time).2,0⟩)
 else match b.ao[d.n.toNat]? with
  |none=>(b,⟨0,0⟩)
  |some c=>
   if (dx c d.sum b.time).2≠0 then (b,⟨(dx c d.sum b.time).2,0⟩)
   else ({b with ao:=b.ao.set d.n.toNat (dx c d.sum b.time).1,aq:=b.aq++[(cV d.n d.az d.sum b.time).1]},⟨0,b.aq.length⟩)
theorem tD (s:cv) (a:ca):(cg s a).1.aY.length<=s.aY.length+1:=by
 unfold cg;(repeat' split)<;>simp [fv]
def km (ao:List bD) (k:Int):Int:=
 match ao[k.toNat]? with
 |none=>0
 |some c=>c.bx - c.held
def dT (b:Bk) (a cx:bB) (d:aV):List bD×List Int×List Entry×bV×bV×Int:=
 if d.move=1\/d.move=4 then ((cz b.ao 0 a.aL (bK a - bK cx) 0).1,b.due,b.book,b.s0,b.s1,(cz b.ao 0 a.aL (bK a - bK cx) 0).2)
 else if d.move=2\/d.move=3 then
  ((cz b.ao 0 a.aL (bK a - bK cx) (0 - d.sum)).1,b.due,(dM b.book (cz b.ao 0 a.aL (bK a - bK cx) (0 - d.sum)).2 (10+a.aL) 1 d.sum).1,
   (eA b.s0 (dM b.book (cz b.ao 0 a.aL (bK a - bK cx) (0 - d.sum)).2 (10+a.aL) 1 d.sum).2 ⟨0,1,d.n,d.sum⟩).1,b.s1,
   (eA b.s0 (dM b.book (cz b.ao 0 a.aL (bK a - bK cx) (0 - d.sum)).2 (10+a.aL) 1 d.sum).2 ⟨0,1,d.n,d.sum⟩).2)
 else if d.move=5 then
  (b.ao,b.due.set a.az.toNat (IntKind.i64.wrap (b.due.getD a.az.toNat 0 - d.sum)),(dM b.book 0 (50+a.az) 1 d.sum).1,b.s0,(eA b.s1 (dM b.book 0 (50+a.az) 1 d.sum).2 ⟨0,2,d.n,d.sum⟩).1,(eA b.s1 (dM b.book 0 (50+a.az) 1 d.sum).2 ⟨0,2,d.n,d.sum⟩).2)
 else if d.move=6 then ((cz b.ao 0 a.aL 0 d.sum).1,b.due,(dM b.book (cz b.ao 0 a.aL 0 d.sum).2 2 (10+a.aL) d.sum).1,b.s0,b.s1,(dM b.book (cz b.ao 0 a.aL 0 d.sum).2 2 (10+a.aL) d.sum).2)
 else if d.move=7 then (b.ao,b.due,b.book,(eA b.s0 0 ⟨0,3,d.n,d.sum⟩).1,b.s1,(eA b.s0 0 ⟨0,3,d.n,d.sum⟩).2)
 else if d.move=8 then ((cz b.ao 0 a.aL 0 (0 - d.sum)).1,b.due,(dM b.book (cz b.ao 0 a.aL 0 (0 - d.sum)).2 (10+a.aL) 2 d.sum).1,b.s0,b.s1,(dM b.book (cz b.ao 0 a.aL 0 (0 - d.sum)).2 (10+a.aL) 2 d.sum).2)
 else (b.ao,b.due,b.book,b.s0,b.s1,0)
def oX (b:Bk) (a:bB) (d:aV) (r:List bD×List Int×List Entry×bV×bV×Int):Bk×Answer:=
 dt b { b with ao := r.1, due := r.2.1, book := r.2.2.1, s0 := r.2.2.2.1, s1 := r.2.2.2.2.1, aS := (iz b.aS r.2.2.2.2.2 ⟨a.az, d.n, d.move, d.sum⟩).1, aq := b.aq.set d.n.toNat a } (iz b.aS r.2.2.2.2.2 ⟨a.az, d.n, d.move, d.sum⟩).2
def dN (b:Bk) (d:aV):Bk×Answer:=
 if b.down=true then (b,⟨12,0⟩)
 else if d.n < 0\/d.n>=b.aq.length then (b,⟨6,0⟩)
 else match b.aq[d.n.toNat]? with
  |none=>(b,⟨0,0⟩)
  |some cx=>
   if (ck cx d.move d.sum).2≠0 then (b,⟨(ck cx d.move d.sum).2,0⟩)
   else if d.move=1/\d.sum > km b.ao (ck cx d.move d.sum).1.aL then (b,⟨10,0⟩)
   else oX b (ck cx d.move d.sum).1 d (dT b (ck cx d.move d.sum).1 cx d)
theorem iV {a:bB} (h:0<=a.sum/\a.sum<=1000000/\0<=a.captured/\a.captured<=a.sum/\0<=a.bz/\0<=a.bm/\a.bz+a.bm<=a.captured/\0<=a.aL/\a.aL<=7/\0<=a.az/\a.az<=7/\0<=a.cQ/\a.cQ<=1000100):bG a=0:=by
 unfold bG;rw [if_neg (by omega),if_neg (by omega)]
theorem eV {α:Type} {x b:α} {e:Int} (h:(x,e)=(b,(0:Int))):x=b/\e=0:=Prod.mk.inj h
theorem vG {a b:bB} {k n:Int} (hw:bG a=0) (h1:1<=n) (h2:n<=1000000) (h:dG a k n=(b,0)):bG b=0/\b.aL=a.aL/\b.az=a.az:=by
 have hr:=eI hw
 unfold dG at h
 by_cases c1:a.shut=true
 ·rw [if_pos c1] at h;have:=(eV h).2;omega
 rw [if_neg c1] at h
 by_cases c2:k=1
 ·rw [if_pos c2] at h
  by_cases c3:n > 1000000 - a.sum
  ·rw [if_pos c3] at h;have:=(eV h).2;omega
  ·rw [if_neg c3] at h;obtain ⟨rfl,_⟩:=eV h
   exact ⟨iV (by dsimp only;omega),rfl,rfl⟩
 rw [if_neg c2] at h
 by_cases c3:n > a.sum - a.captured
 ·rw [if_pos c3] at h;have:=(eV h).2;omega
 rw [if_neg c3] at h
 by_cases c4:k=4
 ·rw [if_pos c4] at h;obtain ⟨rfl,_⟩:=eV h
  exact ⟨iV (by dsimp only;omega),rfl,rfl⟩
 ·rw [if_neg c4] at h;obtain ⟨rfl,_⟩:=eV h
  exact ⟨iV (by dsimp only;omega),rfl,rfl⟩
theorem me {a b:bB} {k n:Int} (h:ck a k n=(b,0)):bG a=0/\bG b=0/\b.aL=a.aL/\b.az=a.az/\1<=k/\k<=8/\1<=n/\n<=1000000:=by
 unfold ck at h
 by_cases c0:bG a≠0
 ·rw [if_pos c0] at h;exact absurd (eV h).2 c0
 rw [if_neg c0] at h
 have hw:bG a=0:=by omega
 have hr:=eI hw
 by_cases c1:k < 1\/k > 8
 ·rw [if_pos c1] at h;have:=(eV h).2;omega
 rw [if_neg c1] at h
 by_cases c2:n < 1\/n > 1000000
 ·rw [if_pos c2] at h;have:=(eV h).2;omega
 rw [if_neg c2] at h
 have hb:bG b=0/\b.aL=a.aL/\b.az=a.az:=by
  by_cases k5:k=5
  ·rw [if_pos k5] at h
   by_cases c:n > a.captured - a.bz - a.bm
   ·rw [if_pos c] at h;have:=(eV h).2;omega
   ·rw [if_neg c] at h;obtain ⟨rfl,_⟩:=eV h;exact ⟨iV (by dsimp only;omega),rfl,rfl⟩
  rw [if_neg k5] at h
  by_cases k6:k=6
  ·rw [if_pos k6] at h
   by_cases c:n > a.captured - a.bz - a.bm
   ·rw [if_pos c] at h;have:=(eV h).2;omega
   ·rw [if_neg c] at h;obtain ⟨rfl,_⟩:=eV h;exact ⟨iV (by dsimp only;omega),rfl,rfl⟩
  rw [if_neg k6] at h
  by_cases k7:k=7
  ·rw [if_pos k7] at h
   by_cases c:n > a.bm
   ·rw [if_pos c] at h;have:=(eV h).2;omega
   ·rw [if_neg c] at h;obtain ⟨rfl,_⟩:=eV h;exact ⟨iV (by dsimp only;omega),rfl,rfl⟩
  rw [if_neg k7] at h
  by_cases k8:k=8
  ·rw [if_pos k8] at h
   by_cases c:n > a.bm
   ·rw [if_pos c] at h;have:=(eV h).2;omega
   ·rw [if_neg c] at h;obtain ⟨rfl,_⟩:=eV h;exact ⟨iV (by dsimp only;omega),rfl,rfl⟩
  rw [if_neg k8] at h
  by_cases c:(dG a k n).2≠0
  ·rw [if_pos c] at h;exact absurd (eV h).2 c
  ·rw [if_neg c] at h;exact vG hw (by omega) (by omega) h
 exact ⟨hw,hb.1,hb.2.1,hb.2.2,by omega,by omega,by omega,by omega⟩
theorem zT {c:bD} (h:ct c=0):-9223372036854775808<=c.bx - c.held/\c.bx - c.held<=9223372036854775807:=by
 have:=gq h;omega
def fW:List ca->List bD->List bB->List bD×List bB×Int
 |[],cs,xs=>(cs,xs,0)
 |x::l,cs,xs=>
  if (cV x.aL x.az x.sum x.time).2≠0 then (cs,xs,(cV x.aL x.az x.sum x.time).2)
  else match cs[x.aL.toNat]? with
   |none=>(cs,xs,0)
   |some c=>if (eJ c x.sum).2≠0 then (cs,xs,(eJ c x.sum).2) else fW l (cs.set x.aL.toNat (eJ c x.sum).1) (xs++[(cV x.aL x.az x.sum x.time).1])
theorem pP {l:List ca} {q:Nat} {x:ca} {cs:List bD} {xs:List bB} (h:l[q]?=some x):fW (l.drop q) cs xs=
  if (cV x.aL x.az x.sum x.time).2≠0 then (cs,xs,(cV x.aL x.az x.sum x.time).2)
  else match cs[x.aL.toNat]? with
   |none=>(cs,xs,0)
   |some c=>if (eJ c x.sum).2≠0 then (cs,xs,(eJ c x.sum).2) else fW (l.drop (q+1)) (cs.set x.aL.toNat (eJ c x.sum).1) (xs++[(cV x.aL x.az x.sum x.time).1]):=by
 obtain ⟨hq,rfl⟩:=List.getElem?_eq_some_iff.1 h
 rw [List.drop_eq_getElem_cons hq];rfl
def iK (b:Bk):Bk×Answer:=
 if b.down=false then (b,⟨8,0⟩)
 else if (cU b.bF).2.2≠0 then (b,⟨(cU b.bF).2.2,0⟩)
 else if (fW (cU b.bF).2.1 b.ao b.aq).2.2≠0 then (b,⟨(fW (cU b.bF).2.1 b.ao b.aq).2.2,0⟩)
 else (gk {b with ao:=(fW (cU b.bF).2.1 b.ao b.aq).1,aq:=(fW (cU b.bF).2.1 b.ao b.aq).2.1,bF:=(cU b.bF).1,down:=false},⟨0,0⟩)
def fJ (b:Bk) (d:aV):Bk×Answer:=
 match b.w0[0]? with
 |none=>(b,⟨6,0⟩)
 |some p=>
  if d.kind=7 then ({b with w0:=b.w0.drop 1},⟨0,0⟩)
  else if p.seen>=0 then (if (dW b.s0 p.seen).2=0 then ({b with w0:=b.w0.drop 1,s0:=(dW b.s0 p.seen).1},⟨0,0⟩) else (b,⟨(dW b.s0 p.seen).2,0⟩))
  else if (gV b.n0 p.cu).2=true then
   dt b { b with w0 := b.w0.drop 1, n0 := (gV b.n0 p.cu).1, due := (ez b.aq b.due b.ao b.book 0 p.cu).1, ao := (ez b.aq b.due b.ao b.book 0 p.cu).2.1, book := (ez b.aq b.due b.ao b.book 0 p.cu).2.2.1 } (ez b.aq b.due b.ao b.book 0 p.cu).2.2.2
  else ({b with w0:=b.w0.drop 1,n0:=(gV b.n0 p.cu).1},⟨0,0⟩)
def fI (b:Bk) (d:aV):Bk×Answer:=
 match b.w1[0]? with
 |none=>(b,⟨6,0⟩)
 |some p=>
  if d.kind=7 then ({b with w1:=b.w1.drop 1},⟨0,0⟩)
  else if p.seen>=0 then (if (dW b.s1 p.seen).2=0 then ({b with w1:=b.w1.drop 1,s1:=(dW b.s1 p.seen).1},⟨0,0⟩) else (b,⟨(dW b.s1 p.seen).2,0⟩))
  else if (gV b.n1 p.cu).2=true then
   dt b { b with w1 := b.w1.drop 1, n1 := (gV b.n1 p.cu).1, due := (ez b.aq b.due b.ao b.book 0 p.cu).1, ao := (ez b.aq b.due b.ao b.book 0 p.cu).2.1, book := (ez b.aq b.due b.ao b.book 0 p.cu).2.2.1 } (ez b.aq b.due b.ao b.book 0 p.cu).2.2.2
  else ({b with w1:=b.w1.drop 1,n1:=(gV b.n1 p.cu).1},⟨0,0⟩)
def cr (b:Bk) (d:aV):Bk×Answer:=if d.n=0 then fJ b d else if d.n=1 then fI b d else (b,⟨6,0⟩)
def dR (b:Bk) (days:List (List Int)) (d:aV):Bk×List (List Int)×Answer:=
 if d.kind=1 then ((ft b d).1,days,(ft b d).2)
 else if d.kind=2 then ((du b d).1,days,(du b d).2)
 else if d.kind=3 then ((dN b d).1,days,(dN b d).2)
 else if d.kind=4 then ((eT b d).1,days,(eT b d).2)
 else if d.kind=5 then ({b with w0:=(eK b.s0 b.s1 b.n0 b.n1 b.w0 b.w1 d).1,w1:=(eK b.s0 b.s1 b.n0 b.n1 b.w0 b.w1 d).2.1},days,(eK b.s0 b.s1 b.n0 b.n1 b.w0 b.w1 d).2.2)
 else if d.kind=6\/d.kind=7 then ((cr b d).1,days,(cr b d).2)
 else if d.kind=8 then (if b.down=true then (b,days,⟨8,0⟩) else ({b with down:=true},days,⟨0,0⟩))
 else if d.kind=9 then ((iK b).1,days,(iK b).2)
 else if d.kind=10 then ({b with aS:=(iy b.aS days).1},(iy b.aS days).2.1,(iy b.aS days).2.2)
 else if d.kind=11 then ((gL b d).1,days,(gL b d).2)
 else (b,days,⟨1,0⟩)
def fA (b:Bk) (days:List (List Int)) (told:List (Int×Answer)) (cl:Nat) (d:aV):Bk×List (List Int)×List (Int×Answer)×Nat×Answer:=
 if (ik told d.id).isSome=true/\d.id≠0 then (b,days,told,cl,(ik told d.id).getD ⟨0,0⟩)
 else ((dR b days d).1,(dR b days d).2.1,nN told d.id (dR b days d).2.2,if (ik told d.id).isSome then cl else cl+1,(dR b days d).2.2)
structure Setup where (da:List dg) (ib cap:Int)
 deriving DecidableEq
def mZ:List dg->Int->cX
 |[],_=>⟨0,0⟩
 |p::l,i=>if eY p≠0 then ⟨eY p,i⟩ else mZ l (i+1)
theorem sN {l:List dg} {q:Nat} {p:dg} (h:l[q]?=some p):mZ (l.drop q) q=if eY p≠0 then ⟨eY p,q⟩ else mZ (l.drop (q+1)) ((q+1:Nat):Int):=by
 obtain ⟨hq,rfl⟩:=List.getElem?_eq_some_iff.1 h
 rw [List.drop_eq_getElem_cons hq];rfl
def ea (s:Setup):cX:=
 if s.da.length > 8\/s.ib < 0\/s.ib > 8 then ⟨5,0⟩ else if s.cap < 0\/s.cap > 1000000 then ⟨3,0⟩ else mZ s.da 0
def CW:Bk:=⟨0,false,[],[],[],⟨0,[]⟩,⟨0,[]⟩,0,0,[],[],⟨0,[],[]⟩,[],[]⟩
def kN (p:dg):bD:=⟨0,0,p,[]⟩
def fC (s:Setup):Bk:=⟨0,false,s.da.map kN,List.replicate s.ib.toNat 0,[],⟨0,[]⟩,⟨0,[]⟩,0,0,[],[],(dy s.cap s.da.length).1,[],[]⟩
def jW:List aV->Bk->List (List Int)->List (Int×Answer)->Nat->List Answer->Bk×List (List Int)×List Answer
 |[],b,days,_,_,out=>(b,days,out)
 |d::l,b,days,told,cl,out=>jW l (fA b days told cl d).1 (fA b days told cl d).2.1 (fA b days told cl d).2.2.1 (fA b days told cl d).2.2.2.1 (out++[(fA b days told cl d).2.2.2.2])
theorem xp {l:List aV} {q:Nat} {d:aV} {b:Bk} {days:List (List Int)} {told:List (Int×Answer)} {cl:Nat} {out:List Answer} (h:l[q]?=some d):
  jW (l.drop q) b days told cl out=jW (l.drop (q+1)) (fA b days told cl d).1 (fA b days told cl d).2.1 (fA b days told cl d).2.2.1 (fA b days told cl d).2.2.2.1 (out++[(fA b days told cl d).2.2.2.2]):=by
 obtain ⟨hq,rfl⟩:=List.getElem?_eq_some_iff.1 h
 rw [List.drop_eq_getElem_cons hq];rfl
def gX (s:Setup) (l:List aV):Bk×List (List Int)×List Answer×cX:=
 if (ea s).err≠0 then (CW,[],[],ea s) else if l.length > 150 then (CW,[],[],⟨5,0⟩)
 else ((jW l (fC s) [] [] 0 []).1,(jW l (fC s) [] [] 0 []).2.1,(jW l (fC s) [] [] 0 []).2.2,⟨0,0⟩)
theorem xy {time:Int} {l:List bB} {q:Nat} {a:bB} {ao:List bD} {aq:List bB} {e:Int} (h:l[q]?=some a):fk time (l.drop q) q ao aq e=
  fk time (l.drop (q+1)) (q+1) (cz ao e a.aL (bK (dU a time) - bK a) 0).1 (aq.set q (dU a time)) (cz ao e a.aL (bK (dU a time) - bK a) 0).2:=by
 obtain ⟨hq,rfl⟩:=List.getElem?_eq_some_iff.1 h
 rw [List.drop_eq_getElem_cons hq];rfl
theorem fa (l:List bD) (e k held bx:Int):(cz l e k held bx).1.length=l.length:=by
 unfold cz
 split
 ·rfl
 ·split<;>simp
theorem wI {a:bB} {t:Int} (h:bG a=0):bG (dU a t)=0:=by
 unfold bG at h ⊢;unfold dU;exact h
theorem om {a:bB} (h:bG a=0):0<=bK a/\bK a<=1000000:=by
 have:=eI h
 unfold bK;split<;>omega
structure cj (b:Bk):Prop where
 time:0<=b.time/\b.time<=1000000
 ao:b.ao.length<=8
 due:b.due.length<=8
 aq:b.aq.length+b.bF.aY.length<=30
 aS:b.aS.length<=100
 w0:b.w0.length<=60
 w1:b.w1.length<=60
 perm:∀ a∈b.aq,bG a=0/\0<=a.aL/\a.aL < b.ao.length/\0<=a.az/\a.az < b.due.length
 ji:∀ a∈b.bF.aY,0<=a.aL/\a.aL < b.ao.length/\0<=a.az/\a.az < b.due.length
 k0:∀ t∈b.s0.kept,fz t.number/\0<=t.ba/\t.ba < b.aq.length
 k1:∀ t∈b.s1.kept,fz t.number/\0<=t.ba/\t.ba < b.aq.length
 right:∀ c∈b.ao,ct c=0
 l0:b.s0.kept.length<=40
 l1:b.s1.kept.length<=40
 p0:∀ p∈b.w0,p.seen < 0->fz p.cu.number/\0<=p.cu.ba/\p.cu.ba < b.aq.length
 p1:∀ p∈b.w1,p.seen < 0->fz p.cu.number/\0<=p.cu.ba/\p.cu.ba < b.aq.length
 n0:0<=b.n0
 n1:0<=b.n1
 calm:b.down=false->b.bF.aY=[]
theorem cj.tick {b:Bk} (h:cj b) {t:Int} (h0:0<=t) (h1:t<=1000000):cj {b with time:=t}:=
 ⟨⟨h0,h1⟩,h.ao,h.due,h.aq,h.aS,h.w0,h.w1,h.perm,h.ji,h.k0,h.k1,h.right,h.l0,h.l1,h.p0,h.p1,h.n0,h.n1,h.calm⟩

def aU (b:Bk) (i j k m:Nat) (u v:CV):List CV:=[(cI b.time),(cB b.down),(.s i 0 6 b.ao.length),(.s j 0 1 b.due.length),(.s k 0 8 b.aq.length),(cI b.s0.bW),(de b.s0.kept),(cI b.s1.bW),(de b.s1.kept),(cI b.n0),(cI b.n1),(ej b.w0),(ej b.w1),(cI b.bF.cap),(gn b.bF.used),(gI b.bF.aY),(.s m 0 4 b.aS.length),u,(dP b.book),v]
def bb (x:Nat->Value):List CV:=[.d (.v (x 0)),.d (.v (x 1)),.d (.v (x 2)),.d (.v (x 3)),.d (.v (x 4)),.d (.v (x 5)),.d (.v (x 6)),.d (.v (x 7)),.d (.v (x 8)),.d (.v (x 9)),.d (.v (x 10)),.d (.v (x 11)),.d (.v (x 12)),.d (.v (x 13)),.d (.v (x 14)),.d (.v (x 15)),.d (.v (x 16)),.d (.v (x 17)),.d (.v (x 18)),.d (.v (x 19))]
def dq:List (Option CV):=[none,none,none,none,none,none,none,none,none,none,none,none,none,none,none,none,none,none,none,none]
def iG (b:Bk) (i j k m:Nat) (u v:Option CV):List (Option CV):=[some (cI b.time),some (cB b.down),some (.s i 0 6 b.ao.length),some (.s j 0 1 b.due.length),some (.s k 0 8 b.aq.length),some (cI b.s0.bW),some (de b.s0.kept),some (cI b.s1.bW),some (de b.s1.kept),some (cI b.n0),some (cI b.n1),some (ej b.w0),some (ej b.w1),some (cI b.bF.cap),some (gn b.bF.used),some (gI b.bF.aY),some (.s m 0 4 b.aS.length),u,some (dP b.book),v]


theorem vj (a b c:Int):Fn Try.prog 44 [(.g [(cI a),(cI b),(cI c)])] (aI (jb a b c)) []:=by
 refine Fn.mk' 31 [(0,(aG [(cI a),(cI b),(cI c)]))] Try.func44 rfl rfl rfl rfl ?_
 intro W0 T0
 refine ad aa 2 rfl ?_
 refine af ?_
 refine cp 30 ((((((decide (a < 1))||(decide (a > 1000000)))||(decide (b < 0)))||(decide (b > 30)))||(decide (c < 0)))||(decide (c > 1000000000000))) ?_ ?_
 ·
  refine aw ?_
  refine ab aa 4 rfl ?_
  refine bw (t:=6) rfl (fun hb1=>?_) (fun hb1=>?_)
  ·
   have hb1':=of_decide_eq_true hb1
   refine ab aa 24 rfl ?_
   refine ae ?_
   exact aD.bA 29 rfl rfl (by first|(simp [hb1];done)|(simp_all;done)|(exfalso;simp_all;done)|(simp_all;omega)) rfl
  have hb1':=of_decide_eq_false hb1
  refine ab aa 5 rfl ?_
  refine bw (t:=11) rfl (fun hb2=>?_) (fun hb2=>?_)
  ·
   have hb2':=of_decide_eq_true hb2
   refine ab aa 19 rfl ?_
   refine ae ?_
   exact aD.bA 30 rfl rfl (by first|(simp [hb1,hb2];done)|(simp_all;done)|(exfalso;simp_all;done)|(simp_all;omega)) rfl
  have hb2':=of_decide_eq_false hb2
  refine ab aa 5 rfl ?_
  refine bw (t:=16) rfl (fun hb3=>?_) (fun hb3=>?_)
  ·
   have hb3':=of_decide_eq_true hb3
   refine ab aa 14 rfl ?_
   refine ae ?_
   exact aD.bA 31 rfl rfl (by first|(simp [hb1,hb2,hb3];done)|(simp_all;done)|(exfalso;simp_all;done)|(simp_all;omega)) rfl
  have hb3':=of_decide_eq_false hb3
  refine ab aa 5 rfl ?_
  refine bw (t:=21) rfl (fun hb4=>?_) (fun hb4=>?_)
  ·
   have hb4':=of_decide_eq_true hb4
   refine ab aa 9 rfl ?_
   refine ae ?_
   exact aD.bA 32 rfl rfl (by first|(simp [hb1,hb2,hb3,hb4];done)|(simp_all;done)|(exfalso;simp_all;done)|(simp_all;omega)) rfl
  have hb4':=of_decide_eq_false hb4
  refine ab aa 5 rfl ?_
  refine bw (t:=26) rfl (fun hb5=>?_) (fun hb5=>?_)
  ·
   have hb5':=of_decide_eq_true hb5
   refine ab aa 4 rfl ?_
   refine ae ?_
   exact aD.bA 33 rfl rfl (by first|(simp [hb1,hb2,hb3,hb4,hb5];done)|(simp_all;done)|(exfalso;simp_all;done)|(simp_all;omega)) rfl
  have hb5':=of_decide_eq_false hb5
  refine ab aa 4 rfl ?_
  refine ae ?_
  exact aD.bA 33 rfl rfl (by first|(simp [hb1,hb2,hb3,hb4,hb5];done)|(simp_all;done)|(exfalso;simp_all;done)|(simp_all;omega)) rfl
 refine ag rfl (fun hc6=>?_) (fun hc6=>?_)
 ·
  have hc6':=hc6;try simp only [bl,bJ] at hc6'
  refine ad aa 1 rfl ?_
  refine ax ?_
  refine an ?_
  refine al aa [] 0 rfl rfl rfl rfl rfl rfl ?_ ?_
  ·(show aI _=aI _;unfold jb;rw [if_pos (by omega)])
  ·rfl
 have hc6':=hc6;try simp only [bl,bJ] at hc6'
 refine aP ?_
 refine ad aa 1 rfl ?_
 refine ax ?_
 refine al aa [] 0 rfl rfl rfl rfl rfl rfl ?_ ?_
 ·(show aI _=aI _;unfold jb;rw [if_neg (by omega)])
 ·rfl

theorem vQ (l:List cF):Fn Try.prog 45 [(.c (fj l))] (aG [cI (cM l).1,cI (cM l).2]) []:=by
 refine Fn.mk' 53 [(0,(aC (fj l)))] Try.func45 rfl rfl rfl rfl ?_
 intro W0 T0
 refine dF 0 rfl (fun hlen0=>?_)
 refine ad aa 1 rfl ?_
 refine af ?_
 refine aE aa 1 rfl ?_
 refine ay (cY rfl rfl rfl rfl rfl Try.underlying59) rfl ?_
 refine ab aa 1 rfl ?_
 refine ae ?_
 refine ag rfl (fun hc1=>?_) (fun hc1=>?_)
 ·
  have hc1':=of_decide_eq_true hc1
  refine ad aa 2 rfl ?_
  refine ax ?_
  refine an ?_
  refine al aa [0] 0 rfl rfl rfl rfl rfl rfl ?_ ?_
  ·(have h:cM l=(5,0):=by (unfold cM;rw [if_pos (by omega)]));rw [h];rfl
  ·rfl
 have hc1':=of_decide_eq_false hc1
 refine aP ?_
 refine af ?_
 refine aE aa 1 rfl ?_
 refine ay (cY rfl rfl rfl rfl rfl Try.underlying59) rfl ?_
 refine ab aa 1 rfl ?_
 refine ae ?_
 refine aW ?_
 refine cw (β:=Nat) (fun (q:Nat)=>⟨[(0,(aC (fj l))),(2,(aC (.p 0 0 0 0))),(9,(aC (fj l))),(10,(aI (↑l.length:Int))),(11,(aI (↑q:Int)))],[(0,(.box 50 [(cI 0),(cI 0)]))],1⟩) (fun (q:Nat)=>q<=l.length/\scan (kr l) 0 l.length=scan (kr l) q (l.length - q)) (fun (q:Nat)=>l.length - q) 0 ?_ ?_ ?_
 ·exact ⟨by omega,rfl⟩
 ·exact aD.bY id (by refine ⟨?_,?_,?_,?_,?_,trivial⟩<;>first|rfl|(simp only [bo];done)|(congr 3;omega)|(congr 4;omega)|(simp only [bp];rfl)) (⟨by first|rfl|(simp only [bo];done)|(congr 3;omega)|(congr 4;omega)|(simp only [bp];rfl),trivial⟩) rfl
 rintro q ⟨hi0_0,hi0_1⟩
 refine ad aa 1 rfl ?_
 refine af ?_
 refine ag rfl (fun hc2=>?_) (fun hc2=>?_)
 ·
  have hc2':=of_decide_eq_true hc2
  refine aP ?_
  refine af ?_
  refine aW ?_
  refine aE aa 1 rfl ?_
  obtain ⟨x1,hx1⟩:=cq (xs:=l) (i:=q) (by first|omega|(simp;done)|(simp;omega))
  refine ay (cS (i:=q) rfl rfl rfl Try.underlying59 ia (by first|omega|(simp;done)|(simp;omega)) (bu hx1)) rfl ?_
  refine ab aa 4 rfl ?_
  refine ae ?_
  refine af ?_
  refine cp 33 ((((decide (x1.time < 0))||(decide (x1.time > 1000000)))||(decide (x1.sum < 0)))||(decide (x1.sum > 1000000))) ?_ ?_
  ·
   refine aw ?_
   refine ab aa 4 rfl ?_
   refine bw (t:=19) rfl (fun hb3=>?_) (fun hb3=>?_)
   ·
    have hb3':=of_decide_eq_true hb3
    refine ab aa 14 rfl ?_
    refine ae ?_
    exact aD.bA 19 rfl rfl (by first|(simp [hb3];done)|(simp_all;done)|(exfalso;simp_all;done)|(simp_all;omega)) rfl
   have hb3':=of_decide_eq_false hb3
   refine ab aa 5 rfl ?_
   refine bw (t:=24) rfl (fun hb4=>?_) (fun hb4=>?_)
   ·
    have hb4':=of_decide_eq_true hb4
    refine ab aa 9 rfl ?_
    refine ae ?_
    exact aD.bA 20 rfl rfl (by first|(simp [hb3,hb4];done)|(simp_all;done)|(exfalso;simp_all;done)|(simp_all;omega)) rfl
   have hb4':=of_decide_eq_false hb4
   refine ab aa 5 rfl ?_
   refine bw (t:=29) rfl (fun hb5=>?_) (fun hb5=>?_)
   ·
    have hb5':=of_decide_eq_true hb5
    refine ab aa 4 rfl ?_
    refine ae ?_
    exact aD.bA 21 rfl rfl (by first|(simp [hb3,hb4,hb5];done)|(simp_all;done)|(exfalso;simp_all;done)|(simp_all;omega)) rfl
   have hb5':=of_decide_eq_false hb5
   refine ab aa 4 rfl ?_
   refine ae ?_
   exact aD.bA 21 rfl rfl (by first|(simp [hb3,hb4,hb5];done)|(simp_all;done)|(exfalso;simp_all;done)|(simp_all;omega)) rfl
  refine ag rfl (fun hc6=>?_) (fun hc6=>?_)
  ·
   have hc6':=hc6;try simp only [bl,bJ] at hc6'
   refine ad aa 3 rfl ?_
   refine ax ?_
   refine an ?_
   refine bf ?_
   refine an ?_
   refine an ?_
   refine bf ?_
   refine an ?_
   refine al aa [0] 0 rfl rfl rfl rfl rfl rfl ?_ ?_
   ·(have h:cM l=(3,(q:Int)):=by (unfold cM;rw [if_neg (by omega),hi0_1];exact gW (by omega) (show kr l q=3 by (unfold kr;simp only [hx1];rw [if_pos (by omega)])) (by decide)));rw [h];rfl
   ·rfl
  have hc6':=hc6;try simp only [bl,bJ] at hc6'
  refine aP ?_
  refine af ?_
  rcases Bool.eq_false_or_eq_true (decide ((↑q:Int) > 0)) with hb7|hb7
  ·
   have hb7':=of_decide_eq_true hb7
   obtain ⟨x2,hx2⟩:=cq (xs:=l) (i:=(q) - 1) (by first|omega|(simp;done)|(simp;omega))
   refine bc [0,2,9,10,11,4,3] [1,0] mixed rfl rfl ?_
   refine aA (kn:=[(37,true)]) aa 5 rfl ⟨hb7,trivial⟩ ?_
   refine aT (n':=2) [40,38] [] rfl rfl (.inl ⟨(ah.yes rfl rfl rfl),aJ.cast (aK rfl rfl rfl (aH (by first|omega|(simp;done)|(simp;omega)))) rfl⟩) rfl ?_
   refine aT (n':=2) [39,41,38] [] rfl rfl (.inl ⟨(ah.yes rfl rfl rfl),aJ.cast (cS (i:=(q) - 1) rfl rfl rfl Try.underlying59 ia (by first|omega|(simp;done)|(simp;omega)) (bu hx2)) rfl⟩) rfl ?_
   refine aA (kn:=[]) aa 6 rfl trivial ?_
   refine bC [1,0] rfl rfl rfl rfl (by kernel_rfl) ?_
   refine ae ?_
   refine ag rfl (fun hc8=>?_) (fun hc8=>?_)
   ·
    have hc8':=of_decide_eq_true hc8
    refine ad aa 3 rfl ?_
    refine ax ?_
    refine bf ?_
    refine an ?_
    refine an ?_
    refine bf ?_
    refine an ?_
    refine al aa [0] 0 rfl rfl rfl rfl rfl rfl ?_ ?_
    ·(have h:cM l=(2,(q:Int)):=by (unfold cM;rw [if_neg (by omega),hi0_1];exact gW (by omega) (show kr l q=2 by (unfold kr;simp only [hx1];rw [if_neg (by omega),if_pos (by refine ⟨by omega,?_⟩;rw [List.getD_eq_getElem?_getD,hx2];simp only [Option.getD_some];omega)])) (by decide)));rw [h];rfl
    ·rfl
   have hc8':=of_decide_eq_false hc8
   refine cW ?_
   refine bn ?_
   refine then_ok ?_
   refine aw ?_
   refine ay (aK rfl rfl rfl (aH (by first|omega|(simp;done)|(simp;omega)))) rfl ?_
   refine ab aa 1 rfl ?_
   refine ae ?_
   refine ⟨q+1,⟨by omega,by rw [hi0_1];exact mo (by omega) (by unfold kr;simp only [hx1];rw [if_neg (by omega),if_neg (by first|omega|(rw [List.getD_eq_getElem?_getD,hx2];simp only [Option.getD_some];omega))])⟩,by first|omega|(simp;done)|(simp;omega),aD.bY id (by refine ⟨?_,?_,?_,?_,?_,trivial⟩<;>first|rfl|(simp only [bo];done)|(congr 3;omega)|(congr 4;omega)|(simp only [bp];rfl)) (⟨by first|rfl|(simp only [bo];done)|(congr 3;omega)|(congr 4;omega)|(simp only [bp];rfl),trivial⟩) rfl⟩
  have hb7':=of_decide_eq_false hb7
  refine bc [0,2,9,10,11,4,3] [1,0] mixed rfl rfl ?_
  refine aA (kn:=[(37,false)]) aa 13 rfl ⟨hb7,trivial⟩ ?_
  refine bC [1,0] rfl rfl rfl rfl (by kernel_rfl) ?_
  refine ae ?_
  refine ag rfl (fun hno=>by cases hno) (fun _=>?_)
  refine cW ?_
  refine bn ?_
  refine then_ok ?_
  refine aw ?_
  refine ay (aK rfl rfl rfl (aH (by first|omega|(simp;done)|(simp;omega)))) rfl ?_
  refine ab aa 1 rfl ?_
  refine ae ?_
  refine ⟨q+1,⟨by omega,by rw [hi0_1];exact mo (by omega) (by unfold kr;simp only [hx1];rw [if_neg (by omega),if_neg (by first|omega|(rw [List.getD_eq_getElem?_getD,hx2];simp only [Option.getD_some];omega))])⟩,by first|omega|(simp;done)|(simp;omega),aD.bY id (by refine ⟨?_,?_,?_,?_,?_,trivial⟩<;>first|rfl|(simp only [bo];done)|(congr 3;omega)|(congr 4;omega)|(simp only [bp];rfl)) (⟨by first|rfl|(simp only [bo];done)|(congr 3;omega)|(congr 4;omega)|(simp only [bp];rfl),trivial⟩) rfl⟩
 have hc2':=of_decide_eq_false hc2
 refine cm ?_
 refine aQ ?_
 refine aQ ?_
 refine bO ?_
 refine then_ok ?_
 refine ad aa 2 rfl ?_
 refine ax ?_
 refine al aa [0] 0 rfl rfl rfl rfl rfl rfl ?_ ?_
 ·(have h:cM l=(0,0):=by (unfold cM;rw [if_neg (by omega),hi0_1,mQ (by omega)]));rw [h];rfl
 ·rfl

theorem vZ (l:List cF) (fn:FuncId) (bd:List (List D)) (pr:cF->Bool) (hp:∀ x:cF,Fn Try.prog fn ([.g [cI x.time,cI x.sum]]++bd.map fun r=>GV.c (.q r 0)) (aB (pr x)) []) (hen:bg Try.prog fn) (r:Int) (hr:gE pr l=r):Fn Try.prog 123 [(.c (fj l)),(.c (.d (.f fn bd)))] (.v (.c (cI r))) []:=by
 refine Fn.mk' 19 [(0,(aC (fj l))),(1,(aC (.d (.f fn bd))))] Try.func123 rfl rfl rfl rfl ?_
 intro W0 T0
 refine dF 0 rfl (fun hlen0=>?_)
 refine ad aa 1 rfl ?_
 refine af ?_
 refine aE aa 1 rfl ?_
 refine ay (cY rfl rfl rfl rfl rfl Try.underlying59) rfl ?_
 refine ab aa 1 rfl ?_
 refine ae ?_
 refine aW ?_
 refine cw (β:=Nat) (fun (q:Nat)=>⟨[(0,(aC (fj l))),(1,(aC (.d (.f fn bd)))),(7,(aI (↑l.length:Int))),(8,(aI (↑q:Int)))],[],0⟩) (fun (q:Nat)=>q<=l.length/\(l.take q).all (fun y=>!pr y)=true) (fun (q:Nat)=>l.length - q) 0 ?_ ?_ ?_
 ·exact ⟨by omega,by simp⟩
 ·exact aD.bY id (by refine ⟨?_,?_,?_,?_,trivial⟩<;>first|rfl|(simp only [bo];done)|(congr 3;omega)|(congr 4;omega)|(simp only [bp];rfl)) (trivial) rfl
 rintro q ⟨hi0_0,hi0_1⟩
 refine ad aa 1 rfl ?_
 refine af ?_
 refine ag rfl (fun hc1=>?_) (fun hc1=>?_)
 ·
  have hc1':=of_decide_eq_true hc1
  refine aP ?_
  refine af ?_
  refine aW ?_
  refine ad aa 2 rfl ?_
  refine aE aa 3 rfl ?_
  obtain ⟨x1,hx1⟩:=cq (xs:=l) (i:=q) (by first|omega|(simp;done)|(simp;omega))
  refine ay (cS (i:=q) rfl rfl rfl Try.underlying59 ia (by first|omega|(simp;done)|(simp;omega)) (bu hx1)) rfl ?_
  refine ab aa 1 rfl ?_
  refine ay (gP 0 (hp x1) hen rfl rfl rfl ⟨⟨_,rfl,.g ⟨.d _,.d _,trivial⟩⟩,trivial⟩ trivial trivial rfl rfl rfl rfl) rfl ?_
  refine ae ?_
  refine ag rfl (fun hc2=>?_) (fun hc2=>?_)
  ·
   have hc2':=hc2;try simp only [bl,bJ] at hc2'
   refine ad aa 2 rfl ?_
   refine ax ?_
   refine bf ?_
   refine an ?_
   refine an ?_
   refine bf ?_
   refine an ?_
   have hX:gE pr l=(↑q:Int):=by
     exact sZ hi0_1 hx1 hc2
   rw [hX] at hr;clear hX
   subst hr
   refine al aa [] 0 rfl rfl rfl rfl rfl rfl ?_ ?_
   all_goals first|rfl|(simp [ar];done)|(simp [ar];omega)
  have hc2':=hc2;try simp only [bl,bJ] at hc2'
  refine cW ?_
  refine bn ?_
  refine then_ok ?_
  refine aw ?_
  refine ay (aK rfl rfl rfl (aH (by first|omega|(simp;done)|(simp;omega)))) rfl ?_
  refine ab aa 1 rfl ?_
  refine ae ?_
  refine ⟨q+1,⟨by omega,vz hi0_1 hx1 hc2⟩,by first|omega|(simp;done)|(simp;omega),aD.bY id (by refine ⟨?_,?_,?_,?_,trivial⟩<;>first|rfl|(simp only [bo];done)|(congr 3;omega)|(congr 4;omega)|(simp only [bp];rfl)) (trivial) rfl⟩
 have hc1':=of_decide_eq_false hc1
 refine cm ?_
 refine aQ ?_
 refine aQ ?_
 refine bO ?_
 refine then_ok ?_
 refine ad aa 1 rfl ?_
 refine ax ?_
 have hX:gE pr l=(-1):=by
   exact uO (by rw [<-List.take_of_length_le (l:=l) (i:=q) (by omega)];exact hi0_1)
 rw [hX] at hr;clear hX
 subst hr
 refine al aa [] 0 rfl rfl rfl rfl rfl rfl ?_ ?_
 all_goals first|rfl|(simp [ar];done)|(simp [ar];omega)
theorem vu (l:List cF) (fn:FuncId) (bd:List (List D)) (pr:cF->Bool) (hp:∀ x:cF,Fn Try.prog fn ([.g [cI x.time,cI x.sum]]++bd.map fun r=>GV.c (.q r 0)) (aB (pr x)) []) (hen:bg Try.prog fn) (r:List cF) (hr:dz pr l=r):cA Try.prog 117 [(.c (.s 0 0 2 l.length)),(.c (.d (.f fn bd)))] [(0,(oH l))] [] (.v (.c (.s 0 0 2 r.length))) [(0,(oH r))]:=by
 refine cA.mk 42 [(0,(aC (.s 0 0 2 l.length))),(1,(aC (.d (.f fn bd))))] 1 Try.func117 rfl rfl rfl rfl rfl rfl rfl rfl rfl ?_
 intro W0 F0 T0 pg
 refine fK 0 rfl (fun hlen0=>?_)
 have hic:=ta pr l
 have hib:gE pr l<=l.length/\-1<=gE pr l:=by rcases hic with ⟨h,_⟩|⟨i,h,h1,_⟩<;>omega
 refine ad aa 1 rfl ?_
 refine aE aa 2 rfl ?_
 obtain ⟨r0,hr0⟩:∃ (r0:Int),gE pr l=r0:=⟨_,rfl⟩
 refine aM 1 [0] (fH 1 [0] (vZ l fn bd pr hp hen r0 hr0) EF rfl rfl ⟨⟨_,rfl,.c (.s rfl (by decide) (by first|omega|(simp;done)|(simp;omega)))⟩,⟨_,rfl,.c (.d _)⟩,trivial⟩ rfl trivial rfl rfl rfl rfl) rfl ?_
 refine ab aa 1 rfl ?_
 refine ae ?_
 refine af ?_
 refine ad aa 2 rfl ?_
 refine ag rfl (fun hc1=>?_) (fun hc1=>?_)
 ·
  have hc1':=of_decide_eq_true hc1
  refine ad aa 2 rfl ?_
  refine ax ?_
  refine an ?_
  have hX:dz pr l=l:=by
    rcases hic with ⟨_,h⟩|⟨i0,h,_⟩
    ·exact h
    ·exfalso;omega
  rw [hX] at hr;clear hX
  subst hr
  refine al aa [0] 1 rfl rfl rfl rfl rfl rfl ?_ ?_
  all_goals first|rfl|(simp [ar];done)|(simp [ar];omega)
 have hc1':=of_decide_eq_false hc1
 refine aP ?_
 refine af ?_
 refine aE aa 1 rfl ?_
 refine ay (aK rfl rfl rfl (aH (by first|omega|(simp;done)|(simp;omega)))) rfl ?_
 refine ab aa 1 rfl ?_
 refine ae ?_
 refine aW ?_
 obtain ⟨i0,hi0,hil,x0,hx0,hp0,hk0⟩:∃ i:Nat,gE pr l=i/\i < l.length/\∃ x,l[i]?=some x/\pr x=true/\dz pr (l.take i)=l.take i:=by
     rcases hic with ⟨h,_⟩|h
     ·exfalso;omega
     ·exact h
 obtain rfl:r0=(i0:Int):=by omega
 refine cw (β:=Nat×Nat×List cF) (fun (p:Nat×Nat×List cF)=>match p with|(j,i,c)=>⟨[(0,(aC (.s 0 0 2 l.length))),(1,(aC (.d (.f fn bd)))),(4,(aC cN)),(5,(aI (↑i:Int))),(6,(aI (↑j:Int)))],[(0,(oH c))],1⟩) (fun (p:Nat×Nat×List cF)=>match p with|(j,i,c)=>kE pr l c i j) (fun (p:Nat×Nat×List cF)=>match p with|(j,i,c)=>l.length - j) (i0+1,i0,l) ?_ ?_ ?_
 ·exact kE.start hx0 hp0 hk0
 ·exact aD.bY id (by refine ⟨?_,?_,?_,?_,?_,trivial⟩<;>first|rfl|(simp only [bo];done)|(congr 3;omega)|(congr 4;omega)|(simp only [bp];rfl)) (⟨by first|rfl|(simp only [bo];done)|(congr 3;omega)|(congr 4;omega)|(simp only [bp];rfl),trivial⟩) rfl
 rintro ⟨j,i,c⟩ hd
 have hdl:=hd.len;have hdi:=hd.ij;have hdj:=hd.jl
 refine af ?_
 refine aE aa 2 rfl ?_
 refine ay (dm rfl rfl rfl rfl rfl Try.underlying59) rfl ?_
 refine ab aa 1 rfl ?_
 refine ae ?_
 refine ag rfl (fun hc2=>?_) (fun hc2=>?_)
 ·
  have hc2':=of_decide_eq_true hc2
  refine aP ?_
  refine af ?_
  refine aW ?_
  refine aE aa 2 rfl ?_
  refine ay (br (i:=j) rfl rfl rfl Try.underlying59 ia (by first|omega|(simp;done)|(simp;omega)) (by first|omega|(simp;done)|(simp;omega))) rfl ?_
  obtain ⟨x1,hx1⟩:=cq (xs:=c) (i:=j) (by first|omega|(simp;done)|(simp;omega))
  refine ay (dc rfl rfl rfl Try.underlying125 rfl ia (bu hx1) rfl) rfl ?_
  refine ab aa 2 rfl ?_
  refine ae ?_
  refine aE aa 2 rfl ?_
  refine ay (gP 2 (hp x1) hen rfl rfl rfl ⟨⟨_,rfl,.g ⟨.d _,.d _,trivial⟩⟩,trivial⟩ trivial trivial rfl rfl rfl rfl) rfl ?_
  refine ab aa 1 rfl ?_
  refine ae ?_
  refine ag rfl (fun hc3=>?_) (fun hc3=>?_)
  ·
   have hc3':=hc3;try simp only [bl,bJ] at hc3'
   refine aE aa 3 rfl ?_
   refine ay (br (i:=i) rfl rfl rfl Try.underlying59 ia (by first|omega|(simp;done)|(simp;omega)) (by first|omega|(simp;done)|(simp;omega))) rfl ?_
   obtain ⟨x2,hx2⟩:=cq (xs:=c) (i:=i) (by first|omega|(simp;done)|(simp;omega))
   refine fV [1,0] (dH (ds:=[(dI x1.time),(dI x1.sum)]) rfl rfl rfl rfl rfl ia rfl (Nat.le_of_ble_eq_true rfl) (bu hx2) rfl (eG (x':=x1) rfl)) rfl ?_
   refine ae ?_
   refine aw ?_
   refine ab aa 1 rfl ?_
   refine ay (aK rfl rfl rfl (aH (by first|omega|(simp;done)|(simp;omega)))) rfl ?_
   refine ab aa 1 rfl ?_
   refine bX ?_
   refine bn ?_
   refine then_ok ?_
   refine aw ?_
   refine ab aa 1 rfl ?_
   refine ay (aK rfl rfl rfl (aH (by first|omega|(simp;done)|(simp;omega)))) rfl ?_
   refine ab aa 1 rfl ?_
   refine ae ?_
   refine ⟨(j+1,(i)+1,(c).set i x1),hd.cH hx1 (by simpa using hc3),by first|omega|(simp;done)|(simp;omega),aD.bY id (by refine ⟨?_,?_,?_,?_,?_,trivial⟩<;>first|rfl|(simp only [bo];done)|(congr 3;omega)|(congr 4;omega)|(simp only [bp];rfl)) (⟨by first|rfl|(simp only [bo];done)|(congr 3;omega)|(congr 4;omega)|(simp only [bp];rfl),trivial⟩) rfl⟩
  have hc3':=hc3;try simp only [bl,bJ] at hc3'
  refine cW ?_
  refine bn ?_
  refine then_ok ?_
  refine aw ?_
  refine ab aa 1 rfl ?_
  refine ay (aK rfl rfl rfl (aH (by first|omega|(simp;done)|(simp;omega)))) rfl ?_
  refine ab aa 1 rfl ?_
  refine ae ?_
  refine ⟨(j+1,i,c),hd.skip hx1 (by simpa using hc3),by first|omega|(simp;done)|(simp;omega),aD.bY id (by refine ⟨?_,?_,?_,?_,?_,trivial⟩<;>first|rfl|(simp only [bo];done)|(congr 3;omega)|(congr 4;omega)|(simp only [bp];rfl)) (⟨by first|rfl|(simp only [bo];done)|(congr 3;omega)|(congr 4;omega)|(simp only [bp];rfl),trivial⟩) rfl⟩
 have hc2':=of_decide_eq_false hc2
 refine cm ?_
 refine aQ ?_
 refine aQ ?_
 refine bO ?_
 refine then_ok ?_
 refine aE aa 2 rfl ?_
 refine ay (nj (l:=i) (h:=l.length) rfl Try.underlying59 ia rfl (.inr ⟨_,rfl,rfl⟩) (.inl ⟨rfl,rfl⟩) (by first|omega|(simp;done)|(simp;omega)) (by first|omega|(simp;done)|(simp;omega)) (by first|omega|(simp;done)|(simp;omega)) rfl) rfl ?_
 refine fV [0] (rT (rows':=(c.take i).map gJ) nP Em rfl rfl rfl rfl rfl rfl rfl rfl rfl (by simp [List.map_take])) rfl ?_
 refine ae ?_
 refine aE aa 2 rfl ?_
 refine ay (nj (l:=0) (h:=i) rfl Try.underlying59 ia rfl (.inl ⟨rfl,rfl⟩) (.inr ⟨_,rfl,rfl⟩) (by first|omega|(simp;done)|(simp;omega)) (by first|omega|(simp;done)|(simp;omega)) (by first|omega|(simp;done)|(simp;omega)) rfl) rfl ?_
 refine ab aa 1 rfl ?_
 refine ae ?_
 refine ax ?_
 have hX:dz pr l=(c.take i):=by
   have hdone:=hd.done (by omega)
   rw [<-hdone]
 rw [hX] at hr;clear hX
 subst hr
 refine al aa [0] 1 rfl rfl rfl rfl rfl rfl ?_ ?_
 all_goals first|rfl|(simp [ar];done)|(simp [ar];omega)

theorem kz (p:dg) (e:Int) (hr:eY p=e):Fn Try.prog 44 [(.g [cI p.aO,cI p.count,cI p.sum])] (.v (.c (cI e))) []:=hr▸vj p.aO p.count p.sum
theorem oB (l:List cF) (f:cX) (hr:eD l=f):Fn Try.prog 45 [.c (cR 2 (l.map gJ))] (.v (.g [cI f.err,cI f.at_])) []:=hr▸vQ l

theorem zG (x:cF) (t:Int) (p:dg) (hb:-9223372036854775808<=t - p.aO/\t - p.aO<=9223372036854775807):Fn Try.prog 118 [(.g [(cI x.time),(cI x.sum)]),(.c (.q ([dI t]) 0)),(.c (.q ([dI p.aO,dI p.count,dI p.sum]) 0))] (aB (cx p t x)) []:=by
 refine Fn.mk' 12 [(0,(aG [(cI x.time),(cI x.sum)])),(1,(aC (.q ([dI t]) 0))),(2,(aC (.q ([dI p.aO,dI p.count,dI p.sum]) 0)))] Try.func118 rfl rfl rfl rfl ?_
 intro W0 T0
 refine ad aa 2 rfl ?_
 refine aE aa 5 rfl ?_
 refine ay (aK rfl rfl rfl (aH (by first|omega|(simp;done)|(simp;omega)))) rfl ?_
 refine ab aa 2 rfl ?_
 refine ae ?_
 refine ax ?_
 refine al aa [] 0 rfl rfl rfl rfl rfl rfl ?_ ?_
 all_goals first|rfl|(simp [ar];done)|(simp [ar];omega)
theorem nH (p:dg) (l:List cF) (t:Int) (hb:-9223372036854775808<=t - p.aO/\t - p.aO<=9223372036854775807) (hl:l.length * 16<=140737488355328) (r:List cF) (hr:cD p l t=r):Fn Try.prog 112 [(.g [(cI p.aO),(cI p.count),(cI p.sum)]),(.c (fj l)),(.c (cI t))] (.v (.c (.s 0 0 2 r.length))) [(0,(oH r))]:=by
 refine Fn.mk' 11 [(0,(aG [(cI p.aO),(cI p.count),(cI p.sum)])),(1,(aC (fj l))),(2,(aI t))] Try.func112 rfl rfl rfl rfl ?_
 intro W0 T0
 refine dF 1 rfl (fun hlen1=>?_)
 refine ad aa 3 rfl ?_
 refine aE aa 1 rfl ?_
 refine aM 3 [2,1,0] (bP 2 (pG l (by first|omega|(simp;done)|(simp;omega))) BI rfl rfl ⟨⟨_,rfl,.c (.d _)⟩,trivial⟩ trivial ⟨(fun _ _ _ _=>trivial),trivial⟩ rfl rfl rfl rfl) rfl ?_
 refine ay (zm (ks:=[1,0]) rfl ⟨rfl,rfl,trivial⟩) rfl ?_
 obtain ⟨r0,hr0⟩:∃ (r0:List cF),dz (cx p t) l=r0:=⟨_,rfl⟩
 refine aM 4 [3,1,0] (uW (aX [2]) (aX [3]) [0,1] (vu l 118 ([[(dI t)],[(dI p.aO),(dI p.count),(dI p.sum)]]) (cx p t) (fun x=>zG x t p hb) EJ r0 hr0) EK rfl rfl ⟨⟨_,rfl,.inl ⟨rfl,rfl⟩⟩,⟨_,rfl,.inr (.c (.fn ⟨⟨by decide,_,rfl⟩,⟨by decide,_,rfl⟩,trivial⟩))⟩,trivial⟩ ⟨rfl,trivial⟩ rfl rfl rfl rfl rfl rfl rfl rfl trivial ⟨(As _),trivial⟩ rfl rfl rfl rfl) rfl ?_
 refine ab aa 1 rfl ?_
 refine ae ?_
 refine ax ?_
 have hX:cD p l t=r0:=by
   assumption
 rw [hX] at hr;clear hX
 subst hr
 refine al aa [3] 1 rfl rfl rfl rfl rfl rfl ?_ ?_
 all_goals first|rfl|(simp [ar];done)|(simp [ar];omega)

theorem xW (p:dg) (l:List cF) (x:cF) (r:List cF) (e:Int) (hr:ef p l x=(r,e)):Fn Try.prog 100 [(.g [(cI p.aO),(cI p.count),(cI p.sum)]),(.c (fj l)),(.g [(cI x.time),(cI x.sum)])] (.t [(.c (.s 0 0 2 r.length)),(.c (cI e))]) [(0,(oH r))]:=by
 refine Fn.mk' 87 [(0,(aG [(cI p.aO),(cI p.count),(cI p.sum)])),(1,(aC (fj l))),(2,(aG [(cI x.time),(cI x.sum)]))] Try.func100 rfl rfl rfl rfl ?_
 intro W0 T0
 refine dF 1 rfl (fun hlen1=>?_)
 have hrp:=@nW p
 have hru:(eD l).err=0->l.length<=30:=fun h=>(iN h).1
 have hrx:(eD [x]).err=0->0<=x.time/\x.time<=1000000/\0<=x.sum/\x.sum<=1000000:=fun h=>(@iN [x] h).2 x (by simp)
 refine ad aa 4 rfl ?_
 refine af ?_
 refine aE aa 1 rfl ?_
 obtain ⟨e0,hr0⟩:∃ (e0:Int),eY p=e0:=⟨_,rfl⟩
 refine aM 2 [1,0] (bP 2 (kz p e0 hr0) AS rfl rfl ⟨⟨_,rfl,.g ⟨.d _,.d _,.d _,trivial⟩⟩,trivial⟩ trivial trivial rfl rfl rfl rfl) rfl ?_
 refine ab aa 1 rfl ?_
 refine ae ?_
 refine ad aa 2 rfl ?_
 refine ag rfl (fun hc1=>?_) (fun hc1=>?_)
 ·
  have hc1':=of_decide_eq_true hc1
  refine ad aa 3 rfl ?_
  refine ax ?_
  refine an ?_
  refine cT (aD.nil 6 125 2 (by decide) rfl) ?_
  have hX:ef p l x=(([]:List cF),e0):=by
    unfold ef;rw [if_pos (by omega),hr0]
  rw [hX] at hr;clear hX
  simp only [Prod.mk.injEq] at hr;obtain ⟨rfl,rfl⟩:=hr
  refine al aa [2] 1 rfl rfl rfl rfl rfl rfl ?_ ?_
  all_goals first|rfl|(simp [ar];done)|(simp [ar];omega)
 have hc1':=of_decide_eq_false hc1
 refine aP ?_
 refine af ?_
 refine aE aa 2 rfl ?_
 refine aM 3 [2,1,0] (dv (ys:=[(0,(.g [(cI x.time),(cI x.sum)]))]) (rows:=([x]).map gJ) 2 nP rfl (by decide) ⟨⟨rfl,rfl⟩,trivial⟩ rfl rfl rfl rfl) rfl ?_
 refine lP (s':=[(0,(aG [(cI p.aO),(cI p.count),(cI p.sum)])),(1,(aC (fj l))),(2,(aG [(cI x.time),(cI x.sum)])),(3,(aC (.p 0 0 0 0))),(5,(aC (.p 1 0 0 0))),(6,(aC cN)),(7,(aI 0)),(17,(aG [(cI p.aO),(cI p.count),(cI p.sum)])),(18,(aI e0)),(8,(aI e0)),(19,(aI e0)),(20,(aB (decide (¬e0=0)))),(22,(aC (fj l))),(23,(aG [(cI x.time),(cI x.sum)])),(24,(aC (fj ([x]))))]) (h':=[(1,(.box 125 [(cI x.time),(cI x.sum)])),(0,(.box 58 [(cI p.aO),(cI p.count),(cI p.sum)]))]) 2 rfl ⟨⟨_,rfl,.inl ⟨rfl,rfl⟩⟩,⟨_,rfl,.inl ⟨rfl,rfl⟩⟩,⟨_,rfl,.inl ⟨rfl,rfl⟩⟩,⟨_,rfl,.inl ⟨rfl,rfl⟩⟩,⟨_,rfl,.inl ⟨rfl,rfl⟩⟩,⟨_,rfl,.inl ⟨rfl,rfl⟩⟩,⟨_,rfl,.inl ⟨rfl,rfl⟩⟩,⟨_,rfl,.inl ⟨rfl,rfl⟩⟩,⟨_,rfl,.inl ⟨rfl,rfl⟩⟩,⟨_,rfl,.inl ⟨rfl,rfl⟩⟩,⟨_,rfl,.inl ⟨rfl,rfl⟩⟩,⟨_,rfl,.inl ⟨rfl,rfl⟩⟩,⟨_,rfl,.inl ⟨rfl,rfl⟩⟩,⟨_,rfl,.inl ⟨rfl,rfl⟩⟩,⟨_,rfl,.inr ⟨_,_,rfl,rfl,.s rfl (by decide) (by first|omega|(simp;done)|(simp;omega))⟩⟩,trivial⟩ ⟨rfl,rfl,trivial⟩ rfl ?_
 refine aM 4 [3,1,0] (dv (ys:=[(0,(.c (fj l))),(1,(.c (fj ([x]))))]) (rows:=([l,[x]]).map tM) 3 Ep rfl (by decide) ⟨⟨rfl,rfl⟩,⟨rfl,rfl⟩,trivial⟩ rfl rfl rfl rfl) rfl ?_
 refine ay (dm rfl rfl rfl rfl rfl Try.underlying181) rfl ?_
 refine ab aa 1 rfl ?_
 refine ae ?_
 refine aW ?_
 refine cw (β:=Nat) (fun (q:Nat)=>⟨[(1,(aC (fj l))),(3,(aC (.p 0 0 0 0))),(5,(aC (.p 1 0 0 0))),(25,(aC (.s 3 0 1 2))),(26,(aI 2)),(27,(aI (↑q:Int)))],[(3,(.arr 59 1 (([l,[x]]).map tM))),(1,(.box 125 [(cI x.time),(cI x.sum)])),(0,(.box 58 [(cI p.aO),(cI p.count),(cI p.sum)]))],4⟩) (fun (q:Nat)=>q<=2/\(0 < q->(eD l).err=0)/\(1 < q->(eD [x]).err=0)) (fun (q:Nat)=>2 - q) 0 ?_ ?_ ?_
 ·exact ⟨by omega,by omega,by omega⟩
 ·exact aD.bY id (by refine ⟨?_,?_,?_,?_,?_,?_,trivial⟩<;>first|rfl|(simp only [bo];done)|(congr 3;omega)|(congr 4;omega)|(simp only [bp];rfl)) (by refine ⟨?_,?_,?_,trivial⟩<;>first|rfl|(simp only [bo];done)|(congr 3;omega)|(congr 4;omega)|(simp only [bp];rfl)) rfl
 rintro q ⟨hi0_0,hi0_1,hi0_2⟩
 refine ad aa 1 rfl ?_
 refine af ?_
 refine ag rfl (fun hc2=>?_) (fun hc2=>?_)
 ·
  have hc2':=of_decide_eq_true hc2
  refine aP ?_
  refine af ?_
  refine aW ?_
  refine eN ?_
  refine ay (br (i:=q) rfl rfl rfl Try.underlying181 Fq (by first|omega|(simp;done)|(simp;omega)) (by first|omega|(simp;done)|(simp;omega))) rfl ?_
  obtain ⟨x1,hx1⟩:=cq (xs:=([l,[x]]:List (List cF))) (i:=q) (by first|omega|(simp;done)|(simp;omega))
  have hx1v:=Dj hx1
  refine ay (eB rfl rfl rfl Try.underlying59 rfl (bu hx1) rfl) rfl ?_
  refine ab aa 1 rfl ?_
  refine ae ?_
  refine aE aa 1 rfl ?_
  obtain ⟨f1,hr1⟩:∃ (f1:cX),eD x1=f1:=⟨_,rfl⟩
  refine aM 4 [3,1,0] (bP 4 (oB x1 f1 hr1) DO rfl rfl ⟨⟨_,rfl,.c (.d _)⟩,trivial⟩ ⟨trivial,trivial,trivial⟩ trivial rfl rfl rfl rfl) rfl ?_
  refine ab aa 2 rfl ?_
  refine ae ?_
  refine ad aa 3 rfl ?_
  refine ag rfl (fun hc3=>?_) (fun hc3=>?_)
  ·
   have hc3':=of_decide_eq_true hc3
   refine af ?_
   refine bc [1,3,5,25,26,27,11] [4,3,1,0] mixed rfl rfl ?_
   refine aA (kn:=[]) aa 4 rfl trivial ?_
   refine bC [4,3,1,0] rfl rfl rfl rfl (by kernel_rfl) ?_
   refine ae ?_
   refine ax ?_
   refine bf ?_
   refine an ?_
   refine an ?_
   refine bf ?_
   refine an ?_
   refine cT (aD.nil 6 125 2 (by decide) rfl) ?_
   have hX:ef p l x=(([]:List cF),f1.err):=by
     unfold ef;rcases hx1v with ⟨hq,hx⟩|⟨hq,hx⟩<;>subst hx
     ·rw [if_neg (by omega),if_pos (by rw [hr1];omega),hr1]
     ·rw [if_neg (by omega),if_neg (by have:=hi0_1 (by omega);omega),if_pos (by rw [hr1];omega),hr1]
   rw [hX] at hr;clear hX
   simp only [Prod.mk.injEq] at hr;obtain ⟨rfl,rfl⟩:=hr
   refine al aa [5] 1 rfl rfl rfl rfl rfl rfl ?_ ?_
   all_goals first|rfl|(simp [ar];done)|(simp [ar];omega)
  have hc3':=of_decide_eq_false hc3
  refine cW ?_
  refine bn ?_
  refine then_ok ?_
  refine aw ?_
  refine ay (aK rfl rfl rfl (aH (by first|omega|(simp;done)|(simp;omega)))) rfl ?_
  refine ab aa 1 rfl ?_
  refine ae ?_
  refine ⟨q+1,⟨by omega,(fun h=>by rcases hx1v with ⟨hq,hx⟩|⟨hq,hx⟩<;>first|(exact hi0_1 (by omega))|(subst hx;rw [hr1];omega)),(fun h=>by rcases hx1v with ⟨hq,hx⟩|⟨hq,hx⟩<;>first|(exfalso;omega)|(subst hx;rw [hr1];omega))⟩,by first|omega|(simp;done)|(simp;omega),aD.bY id (by refine ⟨?_,?_,?_,?_,?_,?_,trivial⟩<;>first|rfl|(simp only [bo];done)|(congr 3;omega)|(congr 4;omega)|(simp only [bp];rfl)) (by refine ⟨?_,?_,?_,trivial⟩<;>first|rfl|(simp only [bo];done)|(congr 3;omega)|(congr 4;omega)|(simp only [bp];rfl)) rfl⟩
 have hc2':=of_decide_eq_false hc2
 refine cm ?_
 refine aQ ?_
 refine aQ ?_
 refine bO ?_
 refine then_ok ?_
 refine af ?_
 refine aE aa 1 rfl ?_
 refine ay (cY rfl rfl rfl rfl rfl Try.underlying59) rfl ?_
 refine ay (aK rfl rfl rfl (aH (by first|omega|(simp;done)|(simp;omega)))) rfl ?_
 refine ab aa 1 rfl ?_
 refine ae ?_
 refine af ?_
 rcases Bool.eq_false_or_eq_true (decide (((↑l.length:Int) - 1)>=0)) with hb4|hb4
 ·
  have hb4':=of_decide_eq_true hb4
  obtain ⟨x1,hx1⟩:=cq (xs:=l) (i:=(l.length) - 1) (by first|omega|(simp;done)|(simp;omega))
  refine bc [1,3,5,25,26,27,12] [3,1,0] mixed rfl rfl ?_
  refine aA (kn:=[(43,true)]) aa 5 rfl ⟨hb4,trivial⟩ ?_
  refine aT (n':=4) [45,46,44] [] rfl rfl (.inl ⟨(ah.yes rfl rfl rfl),aJ.cast (cS (i:=(l.length) - 1) rfl rfl rfl Try.underlying59 ia (by first|omega|(simp;done)|(simp;omega)) (bu hx1)) rfl⟩) rfl ?_
  refine aA (kn:=[]) aa 6 rfl trivial ?_
  refine bC [3,1,0] rfl rfl rfl rfl (by kernel_rfl) ?_
  refine ae ?_
  refine ag rfl (fun hc5=>?_) (fun hc5=>?_)
  ·
   have hc5':=of_decide_eq_true hc5
   refine ad aa 2 rfl ?_
   refine ax ?_
   refine an ?_
   refine cT (aD.nil 6 125 2 (by decide) rfl) ?_
   have hX:ef p l x=(([]:List cF),2):=by
     unfold ef;rw [if_neg (by omega),if_neg (by have:=hi0_1 (by omega);omega),if_neg (by have:=hi0_2 (by omega);omega),if_pos (by rw [mu hx1,decide_eq_true_eq];omega)]
   rw [hX] at hr;clear hX
   simp only [Prod.mk.injEq] at hr;obtain ⟨rfl,rfl⟩:=hr
   refine al aa [4] 1 rfl rfl rfl rfl rfl rfl ?_ ?_
   all_goals first|rfl|(simp [ar];done)|(simp [ar];omega)
  have hc5':=of_decide_eq_false hc5
  refine aP ?_
  refine aE aa 4 rfl ?_
  obtain ⟨r2,hr2⟩:∃ (r2:List cF),cD p l x.time=r2:=⟨_,rfl⟩
  refine aM 5 [4,3,1,0] (bP 4 (nH p l x.time (by first|assumption|omega|(have q1:=nW (hr2.trans (by omega));have q2:=uses1 (x:=x) (by simp_all);omega)) (by first|assumption|omega) r2 hr2) BJ rfl rfl ⟨⟨_,rfl,.g ⟨.d _,.d _,.d _,trivial⟩⟩,⟨_,rfl,.c (.d _)⟩,⟨_,rfl,.c (.d _)⟩,trivial⟩ trivial ⟨(fun _ _ _ _=>trivial),trivial⟩ rfl rfl rfl rfl) rfl ?_
  refine ab aa 1 rfl ?_
  refine ae ?_
  refine ad aa 3 rfl ?_
  refine af ?_
  refine aE aa 1 rfl ?_
  refine ay (dm rfl rfl rfl rfl rfl Try.underlying59) rfl ?_
  refine ab aa 1 rfl ?_
  refine ae ?_
  refine aW ?_
  refine cw (β:=Nat) (fun (k:Nat)=>⟨[(1,(aC (fj l))),(3,(aC (.p 0 0 0 0))),(5,(aC (.p 1 0 0 0))),(25,(aC (.s 3 0 1 2))),(26,(aI 2)),(27,(aI (↑q:Int))),(13,(aC (.s 4 0 2 r2.length))),(14,(aI (x.sum+gb ((r2).take k)))),(61,(aC (.s 4 0 2 r2.length))),(62,(aI (↑r2.length:Int))),(63,(aI (↑k:Int)))],[(4,(oH r2)),(3,(.arr 59 1 (([l,[x]]).map tM))),(1,(.box 125 [(cI x.time),(cI x.sum)])),(0,(.box 58 [(cI p.aO),(cI p.count),(cI p.sum)]))],5⟩) (fun (k:Nat)=>k<=(r2).length) (fun (k:Nat)=>(r2).length - k) 0 ?_ ?_ ?_
  ·exact (by omega)
  ·exact aD.bY id (by refine ⟨?_,?_,?_,?_,?_,?_,?_,?_,?_,?_,?_,trivial⟩<;>first|rfl|(simp only [bo];done)|(congr 3;omega)|(congr 4;omega)|(simp only [bp];rfl)|((rw [List.take_zero,gb,Int.add_zero];rfl))) (by refine ⟨?_,?_,?_,?_,trivial⟩<;>first|rfl|(simp only [bo];done)|(congr 3;omega)|(congr 4;omega)|(simp only [bp];rfl)) rfl
  rintro k hi1_0
  have hsb:=ph (p:=p) (l:=l) (t:=x.time) (k:=k) (hi0_1 (by omega))
  rw [hr2] at hsb
  have hrl:(r2).length<=30:=by rw [<-hr2];exact Nat.le_trans (od _ _) (hru (hi0_1 (by omega)))
  refine ad aa 1 rfl ?_
  refine af ?_
  refine ag rfl (fun hc6=>?_) (fun hc6=>?_)
  ·
   have hc6':=of_decide_eq_true hc6
   refine aP ?_
   refine af ?_
   refine aW ?_
   refine eN ?_
   refine ay (br (i:=k) rfl rfl rfl Try.underlying59 ia (by first|omega|(simp;done)|(simp;omega)) (by first|omega|(simp;done)|(simp;omega))) rfl ?_
   obtain ⟨x2,hx2⟩:=cq (xs:=r2) (i:=k) (by first|omega|(simp;done)|(simp;omega))
   have hx2v:=(iN (hi0_1 (by omega))).2 x2 (iY (hr2.symm▸List.mem_of_getElem? hx2:x2∈cD p l x.time))
   refine ay (dc rfl rfl rfl Try.underlying125 rfl ia (bu hx2) rfl) rfl ?_
   refine ab aa 2 rfl ?_
   refine ae ?_
   refine aw ?_
   refine ab aa 3 rfl ?_
   refine ay (aK rfl rfl rfl (aH (by first|omega|(simp;done)|(simp;omega)))) rfl ?_
   refine ab aa 1 rfl ?_
   refine bX ?_
   refine bn ?_
   refine then_ok ?_
   refine aw ?_
   refine ay (aK rfl rfl rfl (aH (by first|omega|(simp;done)|(simp;omega)))) rfl ?_
   refine ab aa 1 rfl ?_
   refine ae ?_
   refine ⟨k+1,by first|omega|trivial,by first|omega|(simp;done)|(simp;omega),aD.bY id (by refine ⟨?_,?_,?_,?_,?_,?_,?_,?_,?_,?_,?_,trivial⟩<;>first|rfl|(simp only [bo];done)|(congr 3;omega)|(congr 4;omega)|(simp only [bp];rfl)|(first|(rw [il hx2,kd,<-Int.add_assoc];rfl)|(rw [il hx1,kd,<-Int.add_assoc];rfl))) (by refine ⟨?_,?_,?_,?_,trivial⟩<;>first|rfl|(simp only [bo];done)|(congr 3;omega)|(congr 4;omega)|(simp only [bp];rfl)) rfl⟩
  have hc6':=of_decide_eq_false hc6
  refine cm ?_
  refine aQ ?_
  refine aQ ?_
  refine bO ?_
  refine then_ok ?_
  refine af ?_
  refine cp 82 ((decide ((↑r2.length:Int)>=p.count))||(decide ((x.sum+gb ((r2).take k)) > p.sum))) ?_ ?_
  ·
   refine aw ?_
   refine ab aa 1 rfl ?_
   refine ay (dm rfl rfl rfl rfl rfl Try.underlying59) rfl ?_
   refine ab aa 4 rfl ?_
   refine bw (t:=77) rfl (fun hb7=>?_) (fun hb7=>?_)
   ·
    have hb7':=of_decide_eq_true hb7
    refine ab aa 5 rfl ?_
    refine ae ?_
    exact aD.bA 12 rfl rfl (by first|(simp [hb7];done)|(simp_all;done)|(exfalso;simp_all;done)|(simp_all;omega)) rfl
   have hb7':=of_decide_eq_false hb7
   refine ab aa 5 rfl ?_
   refine ae ?_
   exact aD.bA 12 rfl rfl (by first|(simp [hb7];done)|(simp_all;done)|(exfalso;simp_all;done)|(simp_all;omega)) rfl
  refine ag rfl (fun hc8=>?_) (fun hc8=>?_)
  ·
   have hc8':=hc8;try simp only [bl,bJ] at hc8'
   refine ad aa 2 rfl ?_
   refine ax ?_
   refine an ?_
   refine cT (aD.nil 6 125 2 (by decide) rfl) ?_
   have hX:ef p l x=(([]:List cF),11):=by
     have hlate:eR l x.time=false:=by first|(rw [mu hx1];simp;omega)|(have:l=[]:=List.eq_nil_of_length_eq_zero (by omega);subst this;rfl)
     have hk:(r2).take k=r2:=List.take_of_length_le (by omega)
     rw [hk] at hc8'
     unfold ef;rw [if_neg (by omega),if_neg (by have:=hi0_1 (by omega);omega),if_neg (by have:=hi0_2 (by omega);omega),if_neg (by rw [hlate];simp),hr2,if_pos (by omega)]
   rw [hX] at hr;clear hX
   simp only [Prod.mk.injEq] at hr;obtain ⟨rfl,rfl⟩:=hr
   refine al aa [5] 1 rfl rfl rfl rfl rfl rfl ?_ ?_
   all_goals first|rfl|(simp [ar];done)|(simp [ar];omega)
  have hc8':=hc8;try simp only [bl,bJ] at hc8'
  refine aP ?_
  refine aE aa 2 rfl ?_
  refine aM 6 [5,4,3,1,0] (dv (ys:=[(0,(.g [(cI x.time),(cI x.sum)]))]) (rows:=([x]).map gJ) 5 nP rfl (by decide) ⟨⟨rfl,rfl⟩,trivial⟩ rfl rfl rfl rfl) rfl ?_
  refine aM 7 [6,5,3,1,0] (dd (m:=1) (N:=r2.length+1) (k2:=6) (ys:=([x]).map gJ) nP rfl rfl rfl rfl rfl rfl (by first|omega|(simp;done)|(simp;omega)) rfl (.s rfl (by first|omega|(simp;done)|(simp;omega))) (by first|omega|(simp;done)|(simp;omega)) (by first|omega|(simp;done)|(simp;omega)) eP (by decide) (by first|omega|(simp;done)|(simp;omega)) (by first|omega|(simp;done)|(simp;omega))) rfl ?_
  refine ab aa 2 rfl ?_
  refine ae ?_
  refine ax ?_
  have hX:ef p l x=(r2++([x]),0):=by
    have hlate:eR l x.time=false:=by first|(rw [mu hx1];simp;omega)|(have:l=[]:=List.eq_nil_of_length_eq_zero (by omega);subst this;rfl)
    have hk:(r2).take k=r2:=List.take_of_length_le (by omega)
    rw [hk] at hc8'
    unfold ef;rw [if_neg (by omega),if_neg (by have:=hi0_1 (by omega);omega),if_neg (by have:=hi0_2 (by omega);omega),if_neg (by rw [hlate];simp),hr2,if_neg (by omega)]
  rw [hX] at hr;clear hX
  simp only [Prod.mk.injEq] at hr;obtain ⟨rfl,rfl⟩:=hr
  refine al aa [6] 1 rfl rfl rfl rfl rfl rfl ?_ ?_
  all_goals first|rfl|(simp [ar];done)|(simp [ar];omega)
 have hb4':=of_decide_eq_false hb4
 refine bc [1,3,5,25,26,27,12] [3,1,0] mixed rfl rfl ?_
 refine aA (kn:=[(43,false)]) aa 12 rfl ⟨hb4,trivial⟩ ?_
 refine bC [3,1,0] rfl rfl rfl rfl (by kernel_rfl) ?_
 refine ae ?_
 refine ag rfl (fun hno=>by cases hno) (fun _=>?_)
 refine aP ?_
 refine aE aa 4 rfl ?_
 obtain ⟨r3,hr3⟩:∃ (r3:List cF),cD p l x.time=r3:=⟨_,rfl⟩
 refine aM 5 [4,3,1,0] (bP 4 (nH p l x.time (by first|assumption|omega|(have q1:=nW (hr2.trans (by omega));have q2:=uses1 (x:=x) (by simp_all);omega)) (by first|assumption|omega) r3 hr3) BJ rfl rfl ⟨⟨_,rfl,.g ⟨.d _,.d _,.d _,trivial⟩⟩,⟨_,rfl,.c (.d _)⟩,⟨_,rfl,.c (.d _)⟩,trivial⟩ trivial ⟨(fun _ _ _ _=>trivial),trivial⟩ rfl rfl rfl rfl) rfl ?_
 refine ab aa 1 rfl ?_
 refine ae ?_
 refine ad aa 3 rfl ?_
 refine af ?_
 refine aE aa 1 rfl ?_
 refine ay (dm rfl rfl rfl rfl rfl Try.underlying59) rfl ?_
 refine ab aa 1 rfl ?_
 refine ae ?_
 refine aW ?_
 refine cw (β:=Nat) (fun (k:Nat)=>⟨[(1,(aC (fj l))),(3,(aC (.p 0 0 0 0))),(5,(aC (.p 1 0 0 0))),(25,(aC (.s 3 0 1 2))),(26,(aI 2)),(27,(aI (↑q:Int))),(13,(aC (.s 4 0 2 r3.length))),(14,(aI (x.sum+gb ((r3).take k)))),(61,(aC (.s 4 0 2 r3.length))),(62,(aI (↑r3.length:Int))),(63,(aI (↑k:Int)))],[(4,(oH r3)),(3,(.arr 59 1 (([l,[x]]).map tM))),(1,(.box 125 [(cI x.time),(cI x.sum)])),(0,(.box 58 [(cI p.aO),(cI p.count),(cI p.sum)]))],5⟩) (fun (k:Nat)=>k<=(r3).length) (fun (k:Nat)=>(r3).length - k) 0 ?_ ?_ ?_
 ·exact (by omega)
 ·exact aD.bY id (by refine ⟨?_,?_,?_,?_,?_,?_,?_,?_,?_,?_,?_,trivial⟩<;>first|rfl|(simp only [bo];done)|(congr 3;omega)|(congr 4;omega)|(simp only [bp];rfl)|((rw [List.take_zero,gb,Int.add_zero];rfl))) (by refine ⟨?_,?_,?_,?_,trivial⟩<;>first|rfl|(simp only [bo];done)|(congr 3;omega)|(congr 4;omega)|(simp only [bp];rfl)) rfl
 rintro k hi1_0
 have hsb:=ph (p:=p) (l:=l) (t:=x.time) (k:=k) (hi0_1 (by omega))
 rw [hr3] at hsb
 have hrl:(r3).length<=30:=by rw [<-hr3];exact Nat.le_trans (od _ _) (hru (hi0_1 (by omega)))
 refine ad aa 1 rfl ?_
 refine af ?_
 refine ag rfl (fun hc10=>?_) (fun hc10=>?_)
 ·
  have hc10':=of_decide_eq_true hc10
  refine aP ?_
  refine af ?_
  refine aW ?_
  refine eN ?_
  refine ay (br (i:=k) rfl rfl rfl Try.underlying59 ia (by first|omega|(simp;done)|(simp;omega)) (by first|omega|(simp;done)|(simp;omega))) rfl ?_
  obtain ⟨x1,hx1⟩:=cq (xs:=r3) (i:=k) (by first|omega|(simp;done)|(simp;omega))
  have hx1v:=(iN (hi0_1 (by omega))).2 x1 (iY (hr3.symm▸List.mem_of_getElem? hx1:x1∈cD p l x.time))
  refine ay (dc rfl rfl rfl Try.underlying125 rfl ia (bu hx1) rfl) rfl ?_
  refine ab aa 2 rfl ?_
  refine ae ?_
  refine aw ?_
  refine ab aa 3 rfl ?_
  refine ay (aK rfl rfl rfl (aH (by first|omega|(simp;done)|(simp;omega)))) rfl ?_
  refine ab aa 1 rfl ?_
  refine bX ?_
  refine bn ?_
  refine then_ok ?_
  refine aw ?_
  refine ay (aK rfl rfl rfl (aH (by first|omega|(simp;done)|(simp;omega)))) rfl ?_
  refine ab aa 1 rfl ?_
  refine ae ?_
  refine ⟨k+1,by first|omega|trivial,by first|omega|(simp;done)|(simp;omega),aD.bY id (by refine ⟨?_,?_,?_,?_,?_,?_,?_,?_,?_,?_,?_,trivial⟩<;>first|rfl|(simp only [bo];done)|(congr 3;omega)|(congr 4;omega)|(simp only [bp];rfl)|(first|(rw [il hx2,kd,<-Int.add_assoc];rfl)|(rw [il hx1,kd,<-Int.add_assoc];rfl))) (by refine ⟨?_,?_,?_,?_,trivial⟩<;>first|rfl|(simp only [bo];done)|(congr 3;omega)|(congr 4;omega)|(simp only [bp];rfl)) rfl⟩
 have hc10':=of_decide_eq_false hc10
 refine cm ?_
 refine aQ ?_
 refine aQ ?_
 refine bO ?_
 refine then_ok ?_
 refine af ?_
 refine cp 82 ((decide ((↑r3.length:Int)>=p.count))||(decide ((x.sum+gb ((r3).take k)) > p.sum))) ?_ ?_
 ·
  refine aw ?_
  refine ab aa 1 rfl ?_
  refine ay (dm rfl rfl rfl rfl rfl Try.underlying59) rfl ?_
  refine ab aa 4 rfl ?_
  refine bw (t:=77) rfl (fun hb11=>?_) (fun hb11=>?_)
  ·
   have hb11':=of_decide_eq_true hb11
   refine ab aa 5 rfl ?_
   refine ae ?_
   exact aD.bA 12 rfl rfl (by first|(simp [hb11];done)|(simp_all;done)|(exfalso;simp_all;done)|(simp_all;omega)) rfl
  have hb11':=of_decide_eq_false hb11
  refine ab aa 5 rfl ?_
  refine ae ?_
  exact aD.bA 12 rfl rfl (by first|(simp [hb11];done)|(simp_all;done)|(exfalso;simp_all;done)|(simp_all;omega)) rfl
 refine ag rfl (fun hc12=>?_) (fun hc12=>?_)
 ·
  have hc12':=hc12;try simp only [bl,bJ] at hc12'
  refine ad aa 2 rfl ?_
  refine ax ?_
  refine an ?_
  refine cT (aD.nil 6 125 2 (by decide) rfl) ?_
  have hX:ef p l x=(([]:List cF),11):=by
    have hlate:eR l x.time=false:=by first|(rw [mu hx1];simp;omega)|(have:l=[]:=List.eq_nil_of_length_eq_zero (by omega);subst this;rfl)
    have hk:(r3).take k=r3:=List.take_of_length_le (by omega)
    rw [hk] at hc12'
    unfold ef;rw [if_neg (by omega),if_neg (by have:=hi0_1 (by omega);omega),if_neg (by have:=hi0_2 (by omega);omega),if_neg (by rw [hlate];simp),hr3,if_pos (by omega)]
  rw [hX] at hr;clear hX
  simp only [Prod.mk.injEq] at hr;obtain ⟨rfl,rfl⟩:=hr
  refine al aa [5] 1 rfl rfl rfl rfl rfl rfl ?_ ?_
  all_goals first|rfl|(simp [ar];done)|(simp [ar];omega)
 have hc12':=hc12;try simp only [bl,bJ] at hc12'
 refine aP ?_
 refine aE aa 2 rfl ?_
 refine aM 6 [5,4,3,1,0] (dv (ys:=[(0,(.g [(cI x.time),(cI x.sum)]))]) (rows:=([x]).map gJ) 5 nP rfl (by decide) ⟨⟨rfl,rfl⟩,trivial⟩ rfl rfl rfl rfl) rfl ?_
 refine aM 7 [6,5,3,1,0] (dd (m:=1) (N:=r3.length+1) (k2:=6) (ys:=([x]).map gJ) nP rfl rfl rfl rfl rfl rfl (by first|omega|(simp;done)|(simp;omega)) rfl (.s rfl (by first|omega|(simp;done)|(simp;omega))) (by first|omega|(simp;done)|(simp;omega)) (by first|omega|(simp;done)|(simp;omega)) eP (by decide) (by first|omega|(simp;done)|(simp;omega)) (by first|omega|(simp;done)|(simp;omega))) rfl ?_
 refine ab aa 2 rfl ?_
 refine ae ?_
 refine ax ?_
 have hX:ef p l x=(r3++([x]),0):=by
   have hlate:eR l x.time=false:=by first|(rw [mu hx1];simp;omega)|(have:l=[]:=List.eq_nil_of_length_eq_zero (by omega);subst this;rfl)
   have hk:(r3).take k=r3:=List.take_of_length_le (by omega)
   rw [hk] at hc12'
   unfold ef;rw [if_neg (by omega),if_neg (by have:=hi0_1 (by omega);omega),if_neg (by have:=hi0_2 (by omega);omega),if_neg (by rw [hlate];simp),hr3,if_neg (by omega)]
 rw [hX] at hr;clear hX
 simp only [Prod.mk.injEq] at hr;obtain ⟨rfl,rfl⟩:=hr
 refine al aa [6] 1 rfl rfl rfl rfl rfl rfl ?_ ?_
 all_goals first|rfl|(simp [ar];done)|(simp [ar];omega)

theorem jC (c:bD) (e:Int) (hr:ct c=e):Fn Try.prog 28 [(.g [(cI c.bx),(cI c.held),(cI c.bZ.aO),(cI c.bZ.count),(cI c.bZ.sum),(fj c.cM)])] (.v (.c (cI e))) []:=by
 refine Fn.mk' 32 [(0,(aG [(cI c.bx),(cI c.held),(cI c.bZ.aO),(cI c.bZ.count),(cI c.bZ.sum),(fj c.cM)]))] Try.func28 rfl rfl rfl rfl ?_
 intro W0 T0
 refine ff 0 5 rfl rfl (fun hlen0_5=>?_)
 refine ad aa 2 rfl ?_
 refine af ?_
 refine cp 21 ((((decide (c.bx < (-1000000000000)))||(decide (c.bx > 1000000000000)))||(decide (c.held < 0)))||(decide (c.held > 1000000000000))) ?_ ?_
 ·
  refine aw ?_
  refine ab aa 4 rfl ?_
  refine bw (t:=7) rfl (fun hb1=>?_) (fun hb1=>?_)
  ·
   have hb1':=of_decide_eq_true hb1
   refine ab aa 14 rfl ?_
   refine ae ?_
   exact aD.bA 19 rfl rfl (by first|(simp [hb1];done)|(simp_all;done)|(exfalso;simp_all;done)|(simp_all;omega)) rfl
  have hb1':=of_decide_eq_false hb1
  refine ab aa 5 rfl ?_
  refine bw (t:=12) rfl (fun hb2=>?_) (fun hb2=>?_)
  ·
   have hb2':=of_decide_eq_true hb2
   refine ab aa 9 rfl ?_
   refine ae ?_
   exact aD.bA 20 rfl rfl (by first|(simp [hb1,hb2];done)|(simp_all;done)|(exfalso;simp_all;done)|(simp_all;omega)) rfl
  have hb2':=of_decide_eq_false hb2
  refine ab aa 5 rfl ?_
  refine bw (t:=17) rfl (fun hb3=>?_) (fun hb3=>?_)
  ·
   have hb3':=of_decide_eq_true hb3
   refine ab aa 4 rfl ?_
   refine ae ?_
   exact aD.bA 21 rfl rfl (by first|(simp [hb1,hb2,hb3];done)|(simp_all;done)|(exfalso;simp_all;done)|(simp_all;omega)) rfl
  have hb3':=of_decide_eq_false hb3
  refine ab aa 4 rfl ?_
  refine ae ?_
  exact aD.bA 21 rfl rfl (by first|(simp [hb1,hb2,hb3];done)|(simp_all;done)|(exfalso;simp_all;done)|(simp_all;omega)) rfl
 refine ag rfl (fun hc4=>?_) (fun hc4=>?_)
 ·
  have hc4':=hc4;try simp only [bl,bJ] at hc4'
  refine ad aa 1 rfl ?_
  refine ax ?_
  refine an ?_
  have hX:ct c=3:=by
    unfold ct;rw [if_pos (by omega)]
  rw [hX] at hr;clear hX
  subst hr
  refine al aa [] 0 rfl rfl rfl rfl rfl rfl ?_ ?_
  all_goals first|rfl|(simp [ar];done)|(simp [ar];omega)
 have hc4':=hc4;try simp only [bl,bJ] at hc4'
 refine aP ?_
 refine af ?_
 refine aE aa 2 rfl ?_
 obtain ⟨e0,hr0⟩:∃ (e0:Int),eY c.bZ=e0:=⟨_,rfl⟩
 refine aM 1 [0] (bP 1 (kz c.bZ e0 hr0) AS rfl rfl ⟨⟨_,rfl,.g ⟨.d _,.d _,.d _,trivial⟩⟩,trivial⟩ trivial trivial rfl rfl rfl rfl) rfl ?_
 refine ab aa 1 rfl ?_
 refine ae ?_
 refine ad aa 2 rfl ?_
 refine ag rfl (fun hc5=>?_) (fun hc5=>?_)
 ·
  have hc5':=of_decide_eq_true hc5
  refine ad aa 2 rfl ?_
  refine ax ?_
  refine an ?_
  have hX:ct c=e0:=by
    unfold ct;rw [if_neg (by omega),if_pos (by omega),hr0]
  rw [hX] at hr;clear hX
  subst hr
  refine al aa [] 0 rfl rfl rfl rfl rfl rfl ?_ ?_
  all_goals first|rfl|(simp [ar];done)|(simp [ar];omega)
 have hc5':=of_decide_eq_false hc5
 refine aP ?_
 refine aE aa 2 rfl ?_
 obtain ⟨f1,hr1⟩:∃ (f1:cX),eD c.cM=f1:=⟨_,rfl⟩
 refine aM 1 [0] (bP 1 (oB c.cM f1 hr1) DO rfl rfl ⟨⟨_,rfl,.c (.d _)⟩,trivial⟩ ⟨trivial,trivial,trivial⟩ trivial rfl rfl rfl rfl) rfl ?_
 refine ay (AH rfl rfl Try.underlying50 rfl Try.underlying48 rfl rfl) rfl ?_
 refine ab aa 1 rfl ?_
 refine ae ?_
 refine ax ?_
 have hX:ct c=f1.err:=by
   unfold ct;rw [if_neg (by omega),if_neg (by omega),hr1]
 rw [hX] at hr;clear hX
 subst hr
 refine al aa [] 0 rfl rfl rfl rfl rfl rfl ?_ ?_
 all_goals first|rfl|(simp [ar];done)|(simp [ar];omega)
theorem pD (c:bD) (hb:-9223372036854775808<=c.bx - c.held/\c.bx - c.held<=9223372036854775807):Fn Try.prog 24 [(.g [(cI c.bx),(cI c.held),(cI c.bZ.aO),(cI c.bZ.count),(cI c.bZ.sum),(fj c.cM)])] (aI (c.bx - c.held)) []:=by
 refine Fn.mk' 8 [(0,(aG [(cI c.bx),(cI c.held),(cI c.bZ.aO),(cI c.bZ.count),(cI c.bZ.sum),(fj c.cM)]))] Try.func24 rfl rfl rfl rfl ?_
 intro W0 T0
 refine ff 0 5 rfl rfl (fun hlen0_5=>?_)
 obtain ⟨hb1,hb2⟩:=hb
 refine ad aa 2 rfl ?_
 refine aE aa 4 rfl ?_
 refine ay (aK rfl rfl rfl (aH (by first|omega|(simp;done)|(simp;omega)))) rfl ?_
 refine ab aa 1 rfl ?_
 refine ae ?_
 refine ax ?_
 refine al aa [] 0 rfl rfl rfl rfl rfl rfl ?_ ?_
 all_goals first|rfl|(simp [ar];done)|(simp [ar];omega)
theorem rn (c:bD) (hl:c.cM.length<=1048576):Fn Try.prog 108 [(.g [(cI c.bx),(cI c.held),(cI c.bZ.aO),(cI c.bZ.count),(cI c.bZ.sum),(fj c.cM)])] (.v (.g [cI c.bx,cI c.held,cI c.bZ.aO,cI c.bZ.count,cI c.bZ.sum,.s 0 0 2 c.cM.length])) [(0,.arr 125 2 (c.cM.map gJ))]:=by
 refine Fn.mk' 8 [(0,(aG [(cI c.bx),(cI c.held),(cI c.bZ.aO),(cI c.bZ.count),(cI c.bZ.sum),(fj c.cM)]))] Try.func108 rfl rfl rfl rfl ?_
 intro W0 T0
 refine ff 0 5 rfl rfl (fun hlen0_5=>?_)
 refine ad aa 2 rfl ?_
 refine aE aa 2 rfl ?_
 refine aM 3 [2,1,0] (bP 2 (pG c.cM (by first|omega|(simp;done)|(simp;omega))) BI rfl rfl ⟨⟨_,rfl,.c (.d _)⟩,trivial⟩ trivial ⟨(fun _ _ _ _=>trivial),trivial⟩ rfl rfl rfl rfl) rfl ?_
 refine ab aa 2 rfl ?_
 refine ae ?_
 refine ad aa 2 rfl ?_
 refine ax ?_
 refine al aa [2,1] 1 rfl rfl rfl rfl rfl rfl ?_ ?_
 all_goals first|rfl|(simp [ar];done)|(simp [ar];omega)

theorem vo (c:bD) (n time:Int) (x:bD) (e:Int) (hr:dx c n time=(x,e)):Fn Try.prog 80 [(.g [(cI c.bx),(cI c.held),(cI c.bZ.aO),(cI c.bZ.count),(cI c.bZ.sum),(fj c.cM)]),(.c (cI n)),(.c (cI time))] (.t [(.g [(cI x.bx),(cI x.held),(cI x.bZ.aO),(cI x.bZ.count),(cI x.bZ.sum),(.s 0 0 2 x.cM.length)]),(.c (cI e))]) [(0,(oH x.cM))]:=by
 refine Fn.mk' 60 [(0,(aG [(cI c.bx),(cI c.held),(cI c.bZ.aO),(cI c.bZ.count),(cI c.bZ.sum),(fj c.cM)])),(1,(aI n)),(2,(aI time))] Try.func80 rfl rfl rfl rfl ?_
 intro W0 T0
 refine ff 0 5 rfl rfl (fun hlen0_5=>?_)
 have hrc:=@gq c
 have hrl:=@mT c
 refine ad aa 3 rfl ?_
 refine af ?_
 refine aE aa 1 rfl ?_
 obtain ⟨e0,hr0⟩:∃ (e0:Int),ct c=e0:=⟨_,rfl⟩
 refine aM 2 [1,0] (bP 2 (jC c e0 hr0) xO rfl rfl ⟨⟨_,rfl,.g ⟨.d _,.d _,.d _,.d _,.d _,.d _,trivial⟩⟩,trivial⟩ trivial trivial rfl rfl rfl rfl) rfl ?_
 refine ab aa 1 rfl ?_
 refine ae ?_
 refine ad aa 2 rfl ?_
 refine ag rfl (fun hc1=>?_) (fun hc1=>?_)
 ·
  have hc1':=of_decide_eq_true hc1
  refine ad aa 4 rfl ?_
  refine ax ?_
  refine an ?_
  refine cb 1 5 125 2 rfl rfl rfl ?_
  have hX:dx c n time=((⟨0,0,(⟨0,0,0⟩:dg),([]:List cF)⟩:bD),e0):=by
    unfold dx;rw [if_pos (by omega),hr0];rfl
  rw [hX] at hr;clear hX
  simp only [Prod.mk.injEq] at hr;obtain ⟨rfl,rfl⟩:=hr
  refine al aa [2,1] 1 rfl rfl rfl rfl rfl rfl ?_ ?_
  all_goals first|rfl|(simp [ar];done)|(simp [ar];omega)
 have hc1':=of_decide_eq_false hc1
 refine aP ?_
 refine af ?_
 refine cp 30 ((((decide (n < 1))||(decide (n > 1000000)))||(decide (time < 0)))||(decide (time > 1000000))) ?_ ?_
 ·
  refine aw ?_
  refine ab aa 3 rfl ?_
  refine bw (t:=19) rfl (fun hb2=>?_) (fun hb2=>?_)
  ·
   have hb2':=of_decide_eq_true hb2
   refine ab aa 11 rfl ?_
   refine ae ?_
   exact aD.bA 15 rfl rfl (by first|(simp [hb2];done)|(simp_all;done)|(exfalso;simp_all;done)|(simp_all;omega)) rfl
  have hb2':=of_decide_eq_false hb2
  refine ab aa 4 rfl ?_
  refine bw (t:=23) rfl (fun hb3=>?_) (fun hb3=>?_)
  ·
   have hb3':=of_decide_eq_true hb3
   refine ab aa 7 rfl ?_
   refine ae ?_
   exact aD.bA 16 rfl rfl (by first|(simp [hb2,hb3];done)|(simp_all;done)|(exfalso;simp_all;done)|(simp_all;omega)) rfl
  have hb3':=of_decide_eq_false hb3
  refine ab aa 4 rfl ?_
  refine bw (t:=27) rfl (fun hb4=>?_) (fun hb4=>?_)
  ·
   have hb4':=of_decide_eq_true hb4
   refine ab aa 3 rfl ?_
   refine ae ?_
   exact aD.bA 17 rfl rfl (by first|(simp [hb2,hb3,hb4];done)|(simp_all;done)|(exfalso;simp_all;done)|(simp_all;omega)) rfl
  have hb4':=of_decide_eq_false hb4
  refine ab aa 3 rfl ?_
  refine ae ?_
  exact aD.bA 17 rfl rfl (by first|(simp [hb2,hb3,hb4];done)|(simp_all;done)|(exfalso;simp_all;done)|(simp_all;omega)) rfl
 refine ag rfl (fun hc5=>?_) (fun hc5=>?_)
 ·
  have hc5':=hc5;try simp only [bl,bJ] at hc5'
  refine ad aa 3 rfl ?_
  refine ax ?_
  refine an ?_
  refine cb 1 5 125 2 rfl rfl rfl ?_
  have hX:dx c n time=((⟨0,0,(⟨0,0,0⟩:dg),([]:List cF)⟩:bD),3):=by
    unfold dx;rw [if_neg (by omega),if_pos (by omega)];rfl
  rw [hX] at hr;clear hX
  simp only [Prod.mk.injEq] at hr;obtain ⟨rfl,rfl⟩:=hr
  refine al aa [2,1] 1 rfl rfl rfl rfl rfl rfl ?_ ?_
  all_goals first|rfl|(simp [ar];done)|(simp [ar];omega)
 have hc5':=hc5;try simp only [bl,bJ] at hc5'
 refine aP ?_
 refine af ?_
 refine aE aa 2 rfl ?_
 refine aM 2 [1,0] (bP 2 (pD c (by first|assumption|omega|(constructor<;>decide)|(have hz:=gq (by first|assumption|omega);omega))) DQ rfl rfl ⟨⟨_,rfl,.g ⟨.d _,.d _,.d _,.d _,.d _,.d _,trivial⟩⟩,trivial⟩ trivial trivial rfl rfl rfl rfl) rfl ?_
 refine ab aa 1 rfl ?_
 refine ae ?_
 refine ag rfl (fun hc6=>?_) (fun hc6=>?_)
 ·
  have hc6':=of_decide_eq_true hc6
  refine ad aa 3 rfl ?_
  refine ax ?_
  refine an ?_
  refine cb 1 5 125 2 rfl rfl rfl ?_
  have hX:dx c n time=((⟨0,0,(⟨0,0,0⟩:dg),([]:List cF)⟩:bD),10):=by
    unfold dx;rw [if_neg (by omega),if_neg (by omega),if_pos (by omega)];rfl
  rw [hX] at hr;clear hX
  simp only [Prod.mk.injEq] at hr;obtain ⟨rfl,rfl⟩:=hr
  refine al aa [2,1] 1 rfl rfl rfl rfl rfl rfl ?_ ?_
  all_goals first|rfl|(simp [ar];done)|(simp [ar];omega)
 have hc6':=of_decide_eq_false hc6
 refine aP ?_
 refine aE aa 7 rfl ?_
 obtain ⟨r1,e1,hr1⟩:∃ (r1:List cF) (e1:Int),ef c.bZ c.cM (⟨time,n⟩:cF)=(r1,e1):=⟨_,_,rfl⟩
 refine aM 3 [2,1,0] (bP 2 (xW c.bZ c.cM (⟨time,n⟩:cF) r1 e1 hr1) EU rfl rfl ⟨⟨_,rfl,.g ⟨.d _,.d _,.d _,trivial⟩⟩,⟨_,rfl,.c (.d _)⟩,⟨_,rfl,.g ⟨.d _,.d _,trivial⟩⟩,trivial⟩ ⟨trivial,trivial,trivial⟩ ⟨(fun _ _ _ _=>trivial),trivial⟩ rfl rfl rfl rfl) rfl ?_
 refine ab aa 5 rfl ?_
 refine ae ?_
 refine af ?_
 refine ad aa 2 rfl ?_
 refine ag rfl (fun hc7=>?_) (fun hc7=>?_)
 ·
  have hc7':=of_decide_eq_true hc7
  refine ad aa 4 rfl ?_
  refine ax ?_
  refine an ?_
  refine cb 1 5 125 2 rfl rfl rfl ?_
  have hX:dx c n time=((⟨0,0,(⟨0,0,0⟩:dg),([]:List cF)⟩:bD),e1):=by
    have ha:=hr1
    unfold dx;rw [if_neg (by omega),if_neg (by omega),if_neg (by omega),if_pos (by rw [ha];dsimp only;omega),ha];rfl
  rw [hX] at hr;clear hX
  simp only [Prod.mk.injEq] at hr;obtain ⟨rfl,rfl⟩:=hr
  refine al aa [3,1] 1 rfl rfl rfl rfl rfl rfl ?_ ?_
  all_goals first|rfl|(simp [ar];done)|(simp [ar];omega)
 have hc7':=of_decide_eq_false hc7
 refine aP ?_
 refine ad aa 3 rfl ?_
 refine aE aa 3 rfl ?_
 refine ay (aK rfl rfl rfl (aH (by first|omega|(simp;done)|(simp;omega)))) rfl ?_
 refine ab aa 2 rfl ?_
 refine ae ?_
 refine ad aa 3 rfl ?_
 refine ax ?_
 have hX:dx c n time=((⟨c.bx,c.held+n,c.bZ,r1⟩:bD),0):=by
   have ha:=hr1
   unfold dx;rw [if_neg (by omega),if_neg (by omega),if_neg (by omega),if_neg (by rw [ha];dsimp only;omega),ha]
 rw [hX] at hr;clear hX
 simp only [Prod.mk.injEq] at hr;obtain ⟨rfl,rfl⟩:=hr
 refine al aa [2,1] 1 rfl rfl rfl rfl rfl rfl ?_ ?_
 all_goals first|rfl|(simp [ar];done)|(simp [ar];omega)
theorem vn (c:bD) (n:Int) (x:bD) (e:Int) (hr:eJ c n=(x,e)):Fn Try.prog 91 [(.g [(cI c.bx),(cI c.held),(cI c.bZ.aO),(cI c.bZ.count),(cI c.bZ.sum),(fj c.cM)]),(.c (cI n))] (.t [(.g [(cI x.bx),(cI x.held),(cI x.bZ.aO),(cI x.bZ.count),(cI x.bZ.sum),(.s 0 0 2 x.cM.length)]),(.c (cI e))]) [(0,(oH x.cM))]:=by
 refine Fn.mk' 35 [(0,(aG [(cI c.bx),(cI c.held),(cI c.bZ.aO),(cI c.bZ.count),(cI c.bZ.sum),(fj c.cM)])),(1,(aI n))] Try.func91 rfl rfl rfl rfl ?_
 intro W0 T0
 refine ff 0 5 rfl rfl (fun hlen0_5=>?_)
 have hrc:=@gq c
 have hrl:=@mT c
 refine ad aa 3 rfl ?_
 refine af ?_
 refine aE aa 1 rfl ?_
 obtain ⟨e0,hr0⟩:∃ (e0:Int),ct c=e0:=⟨_,rfl⟩
 refine aM 2 [1,0] (bP 2 (jC c e0 hr0) xO rfl rfl ⟨⟨_,rfl,.g ⟨.d _,.d _,.d _,.d _,.d _,.d _,trivial⟩⟩,trivial⟩ trivial trivial rfl rfl rfl rfl) rfl ?_
 refine ab aa 1 rfl ?_
 refine ae ?_
 refine ad aa 2 rfl ?_
 refine ag rfl (fun hc1=>?_) (fun hc1=>?_)
 ·
  have hc1':=of_decide_eq_true hc1
  refine ad aa 4 rfl ?_
  refine ax ?_
  refine an ?_
  refine cb 1 5 125 2 rfl rfl rfl ?_
  have hX:eJ c n=((⟨0,0,(⟨0,0,0⟩:dg),([]:List cF)⟩:bD),e0):=by
    unfold eJ;rw [if_pos (by omega),hr0];rfl
  rw [hX] at hr;clear hX
  simp only [Prod.mk.injEq] at hr;obtain ⟨rfl,rfl⟩:=hr
  refine al aa [2,1] 1 rfl rfl rfl rfl rfl rfl ?_ ?_
  all_goals first|rfl|(simp [ar];done)|(simp [ar];omega)
 have hc1':=of_decide_eq_false hc1
 refine aP ?_
 refine af ?_
 refine cp 25 (((decide (n < 1))||(decide (n > 1000000)))||(decide (n > (1000000000000 - c.held)))) ?_ ?_
 ·
  refine aw ?_
  refine ab aa 3 rfl ?_
  refine bw (t:=15) rfl (fun hb2=>?_) (fun hb2=>?_)
  ·
   have hb2':=of_decide_eq_true hb2
   refine ab aa 10 rfl ?_
   refine ae ?_
   exact aD.bA 14 rfl rfl (by first|(simp [hb2];done)|(simp_all;done)|(exfalso;simp_all;done)|(simp_all;omega)) rfl
  have hb2':=of_decide_eq_false hb2
  refine ab aa 4 rfl ?_
  refine bw (t:=19) rfl (fun hb3=>?_) (fun hb3=>?_)
  ·
   have hb3':=of_decide_eq_true hb3
   refine ab aa 6 rfl ?_
   refine ae ?_
   exact aD.bA 15 rfl rfl (by first|(simp [hb2,hb3];done)|(simp_all;done)|(exfalso;simp_all;done)|(simp_all;omega)) rfl
  have hb3':=of_decide_eq_false hb3
  refine ab aa 3 rfl ?_
  refine dD (ah.yes rfl rfl rfl) (aK rfl rfl rfl (aH (by first|omega|(simp;done)|(simp;omega)))) rfl rfl ?_
  refine ab aa 2 rfl ?_
  refine ae ?_
  exact aD.bA 15 rfl rfl (by first|(simp [hb2,hb3];done)|(simp_all;done)|(exfalso;simp_all;done)|(simp_all;omega)) rfl
 refine ag rfl (fun hc4=>?_) (fun hc4=>?_)
 ·
  have hc4':=hc4;try simp only [bl,bJ] at hc4'
  refine ad aa 3 rfl ?_
  refine ax ?_
  refine an ?_
  refine cb 1 5 125 2 rfl rfl rfl ?_
  have hX:eJ c n=((⟨0,0,(⟨0,0,0⟩:dg),([]:List cF)⟩:bD),3):=by
    unfold eJ;rw [if_neg (by omega),if_pos (by omega)];rfl
  rw [hX] at hr;clear hX
  simp only [Prod.mk.injEq] at hr;obtain ⟨rfl,rfl⟩:=hr
  refine al aa [2,1] 1 rfl rfl rfl rfl rfl rfl ?_ ?_
  all_goals first|rfl|(simp [ar];done)|(simp [ar];omega)
 have hc4':=hc4;try simp only [bl,bJ] at hc4'
 refine aP ?_
 refine aE aa 1 rfl ?_
 refine aM 3 [2,1,0] (bP 2 (rn c (by first|assumption|omega)) BL rfl rfl ⟨⟨_,rfl,.g ⟨.d _,.d _,.d _,.d _,.d _,.d _,trivial⟩⟩,trivial⟩ ⟨trivial,trivial,trivial,trivial,trivial,trivial,trivial⟩ ⟨(fun _ _ _ _=>trivial),trivial⟩ rfl rfl rfl rfl) rfl ?_
 refine ab aa 1 rfl ?_
 refine ae ?_
 refine aE aa 3 rfl ?_
 refine ay (aK rfl rfl rfl (aH (by first|omega|(simp;done)|(simp;omega)))) rfl ?_
 refine ab aa 2 rfl ?_
 refine ae ?_
 refine ad aa 3 rfl ?_
 refine ax ?_
 have hX:eJ c n=((⟨c.bx,c.held+n,c.bZ,c.cM⟩:bD),0):=by
   unfold eJ;rw [if_neg (by omega),if_neg (by omega)]
 rw [hX] at hr;clear hX
 simp only [Prod.mk.injEq] at hr;obtain ⟨rfl,rfl⟩:=hr
 refine al aa [2,1] 1 rfl rfl rfl rfl rfl rfl ?_ ?_
 all_goals first|rfl|(simp [ar];done)|(simp [ar];omega)

theorem vm (c:bD) (held bx:Int) (x:bD) (e:Int) (hr:dQ c held bx=(x,e)):Fn Try.prog 97 [(.g [(cI c.bx),(cI c.held),(cI c.bZ.aO),(cI c.bZ.count),(cI c.bZ.sum),(fj c.cM)]),(.c (cI held)),(.c (cI bx))] (.t [(.g [(cI x.bx),(cI x.held),(cI x.bZ.aO),(cI x.bZ.count),(cI x.bZ.sum),(.s 0 0 2 x.cM.length)]),(.c (cI e))]) [(0,(oH x.cM))]:=by
 refine Fn.mk' 52 [(0,(aG [(cI c.bx),(cI c.held),(cI c.bZ.aO),(cI c.bZ.count),(cI c.bZ.sum),(fj c.cM)])),(1,(aI held)),(2,(aI bx))] Try.func97 rfl rfl rfl rfl ?_
 intro W0 T0
 refine ff 0 5 rfl rfl (fun hlen0_5=>?_)
 have hrc:=@gq c
 have hrl:=@mT c
 refine ad aa 3 rfl ?_
 refine af ?_
 refine aE aa 1 rfl ?_
 obtain ⟨e0,hr0⟩:∃ (e0:Int),ct c=e0:=⟨_,rfl⟩
 refine aM 2 [1,0] (bP 2 (jC c e0 hr0) xO rfl rfl ⟨⟨_,rfl,.g ⟨.d _,.d _,.d _,.d _,.d _,.d _,trivial⟩⟩,trivial⟩ trivial trivial rfl rfl rfl rfl) rfl ?_
 refine ab aa 1 rfl ?_
 refine ae ?_
 refine ad aa 2 rfl ?_
 refine ag rfl (fun hc1=>?_) (fun hc1=>?_)
 ·
  have hc1':=of_decide_eq_true hc1
  refine ad aa 4 rfl ?_
  refine ax ?_
  refine an ?_
  refine cb 1 5 125 2 rfl rfl rfl ?_
  have hX:dQ c held bx=((⟨0,0,(⟨0,0,0⟩:dg),([]:List cF)⟩:bD),e0):=by
    unfold dQ;rw [if_pos (by omega),hr0];rfl
  rw [hX] at hr;clear hX
  simp only [Prod.mk.injEq] at hr;obtain ⟨rfl,rfl⟩:=hr
  refine al aa [2,1] 1 rfl rfl rfl rfl rfl rfl ?_ ?_
  all_goals first|rfl|(simp [ar];done)|(simp [ar];omega)
 have hc1':=of_decide_eq_false hc1
 refine aP ?_
 refine af ?_
 refine aE aa 2 rfl ?_
 refine aM 3 [2,1,0] (dv (ys:=[(0,(.c (cI held))),(1,(.c (cI bx)))]) (rows:=([held,bx]).map rI) 2 mM rfl (by decide) ⟨⟨rfl,rfl⟩,⟨rfl,rfl⟩,trivial⟩ rfl rfl rfl rfl) rfl ?_
 refine ay (dm rfl rfl rfl rfl rfl Try.underlying30) rfl ?_
 refine ab aa 1 rfl ?_
 refine ae ?_
 refine aW ?_
 refine cw (β:=Nat) (fun (q:Nat)=>⟨[(1,(aI held)),(2,(aI bx)),(3,(aC (.p 0 0 0 0))),(6,(aC (.p 1 0 0 0))),(20,(aC (.s 2 0 1 2))),(21,(aI 2)),(22,(aI (↑q:Int)))],[(2,(dC ([held,bx]))),(1,(.box 61 [(cI 0),(cI 0),(cI 0),(cI 0),(cI 0),cN])),(0,(.box 61 [(cI c.bx),(cI c.held),(cI c.bZ.aO),(cI c.bZ.count),(cI c.bZ.sum),(fj c.cM)]))],3⟩) (fun (q:Nat)=>q<=2/\(0 < q->-1000000000000<=held/\held<=1000000000000)/\(1 < q->-1000000000000<=bx/\bx<=1000000000000)) (fun (q:Nat)=>2 - q) 0 ?_ ?_ ?_
 ·exact ⟨by omega,by omega,by omega⟩
 ·exact aD.bY id (by refine ⟨?_,?_,?_,?_,?_,?_,?_,trivial⟩<;>first|rfl|(simp only [bo];done)|(congr 3;omega)|(congr 4;omega)|(simp only [bp];rfl)) (by refine ⟨?_,?_,?_,trivial⟩<;>first|rfl|(simp only [bo];done)|(congr 3;omega)|(congr 4;omega)|(simp only [bp];rfl)) rfl
 rintro q ⟨hi0_0,hi0_1,hi0_2⟩
 refine ad aa 1 rfl ?_
 refine af ?_
 refine ag rfl (fun hc2=>?_) (fun hc2=>?_)
 ·
  have hc2':=of_decide_eq_true hc2
  refine aP ?_
  refine af ?_
  refine aW ?_
  refine eN ?_
  refine ay (br (i:=q) rfl rfl rfl Try.underlying30 fX (by first|omega|(simp;done)|(simp;omega)) (by first|omega|(simp;done)|(simp;omega))) rfl ?_
  obtain ⟨x1,hx1⟩:=cq (xs:=([held,bx]:List Int)) (i:=q) (by first|omega|(simp;done)|(simp;omega))
  have hx1v:=Dj hx1
  refine ay (eB rfl rfl rfl Try.underlying3 rfl (bu hx1) rfl) rfl ?_
  refine ab aa 1 rfl ?_
  refine ae ?_
  refine cp 31 ((decide (x1 < (-1000000000000)))||(decide (x1 > 1000000000000))) ?_ ?_
  ·
   refine aw ?_
   refine ab aa 3 rfl ?_
   refine bw (t:=28) rfl (fun hb3=>?_) (fun hb3=>?_)
   ·
    have hb3':=of_decide_eq_true hb3
    refine ab aa 3 rfl ?_
    refine ae ?_
    exact aD.bA 7 rfl rfl (by first|(simp [hb3];done)|(simp_all;done)|(exfalso;simp_all;done)|(simp_all;omega)) rfl
   have hb3':=of_decide_eq_false hb3
   refine ab aa 3 rfl ?_
   refine ae ?_
   exact aD.bA 7 rfl rfl (by first|(simp [hb3];done)|(simp_all;done)|(exfalso;simp_all;done)|(simp_all;omega)) rfl
  refine ag rfl (fun hc4=>?_) (fun hc4=>?_)
  ·
   have hc4':=hc4;try simp only [bl,bJ] at hc4'
   refine ad aa 3 rfl ?_
   refine ax ?_
   refine bf ?_
   refine an ?_
   refine an ?_
   refine bf ?_
   refine an ?_
   refine cb 1 5 125 2 rfl rfl rfl ?_
   have hX:dQ c held bx=((⟨0,0,(⟨0,0,0⟩:dg),([]:List cF)⟩:bD),3):=by
     unfold dQ;rw [if_neg (by omega),if_pos (by omega)];rfl
   rw [hX] at hr;clear hX
   simp only [Prod.mk.injEq] at hr;obtain ⟨rfl,rfl⟩:=hr
   refine al aa [3,1] 1 rfl rfl rfl rfl rfl rfl ?_ ?_
   all_goals first|rfl|(simp [ar];done)|(simp [ar];omega)
  have hc4':=hc4;try simp only [bl,bJ] at hc4'
  refine cW ?_
  refine bn ?_
  refine then_ok ?_
  refine aw ?_
  refine ay (aK rfl rfl rfl (aH (by first|omega|(simp;done)|(simp;omega)))) rfl ?_
  refine ab aa 1 rfl ?_
  refine ae ?_
  refine ⟨q+1,⟨by omega,by omega,by omega⟩,by first|omega|(simp;done)|(simp;omega),aD.bY id (by refine ⟨?_,?_,?_,?_,?_,?_,?_,trivial⟩<;>first|rfl|(simp only [bo];done)|(congr 3;omega)|(congr 4;omega)|(simp only [bp];rfl)) (by refine ⟨?_,?_,?_,trivial⟩<;>first|rfl|(simp only [bo];done)|(congr 3;omega)|(congr 4;omega)|(simp only [bp];rfl)) rfl⟩
 have hc2':=of_decide_eq_false hc2
 refine cm ?_
 refine aQ ?_
 refine aQ ?_
 refine bO ?_
 refine then_ok ?_
 refine aE aa 1 rfl ?_
 refine aM 4 [3,2,1,0] (bP 3 (rn c (by first|assumption|omega)) BL rfl rfl ⟨⟨_,rfl,.g ⟨.d _,.d _,.d _,.d _,.d _,.d _,trivial⟩⟩,trivial⟩ ⟨trivial,trivial,trivial,trivial,trivial,trivial,trivial⟩ ⟨(fun _ _ _ _=>trivial),trivial⟩ rfl rfl rfl rfl) rfl ?_
 refine ab aa 1 rfl ?_
 refine ae ?_
 refine aE aa 3 rfl ?_
 refine ay (aK rfl rfl rfl (aH (by first|omega|(simp;done)|(simp;omega)))) rfl ?_
 refine ab aa 2 rfl ?_
 refine ae ?_
 refine aE aa 3 rfl ?_
 refine ay (aK rfl rfl rfl (aH (by first|omega|(simp;done)|(simp;omega)))) rfl ?_
 refine ab aa 2 rfl ?_
 refine ae ?_
 refine af ?_
 refine aE aa 1 rfl ?_
 obtain ⟨e1,hr1⟩:∃ (e1:Int),ct (⟨c.bx+bx,c.held+held,c.bZ,c.cM⟩:bD)=e1:=⟨_,rfl⟩
 refine aM 4 [3,2,1,0] (fH 4 [3] (jC (⟨c.bx+bx,c.held+held,c.bZ,c.cM⟩:bD) e1 hr1) xO rfl rfl ⟨⟨_,rfl,.g ⟨.d _,.d _,.d _,.d _,.d _,.s rfl (by decide) (by first|omega|(simp;done)|(simp;omega)),trivial⟩⟩,trivial⟩ rfl trivial rfl rfl rfl rfl) rfl ?_
 refine ab aa 1 rfl ?_
 refine ae ?_
 refine ad aa 2 rfl ?_
 refine ag rfl (fun hc5=>?_) (fun hc5=>?_)
 ·
  have hc5':=of_decide_eq_true hc5
  refine ad aa 3 rfl ?_
  refine ax ?_
  refine an ?_
  refine cb 1 5 125 2 rfl rfl rfl ?_
  have hX:dQ c held bx=((⟨0,0,(⟨0,0,0⟩:dg),([]:List cF)⟩:bD),10):=by
    unfold dQ;rw [if_neg (by omega),if_neg (by omega),if_pos (by first|omega|(intro hz;have hy:=gq hz;dsimp only at hy;omega))];rfl
  rw [hX] at hr;clear hX
  simp only [Prod.mk.injEq] at hr;obtain ⟨rfl,rfl⟩:=hr
  refine al aa [4,1] 1 rfl rfl rfl rfl rfl rfl ?_ ?_
  all_goals first|rfl|(simp [ar];done)|(simp [ar];omega)
 have hc5':=of_decide_eq_false hc5
 refine aP ?_
 refine ad aa 3 rfl ?_
 refine ax ?_
 have hX:dQ c held bx=((⟨c.bx+bx,c.held+held,c.bZ,c.cM⟩:bD),0):=by
   unfold dQ;rw [if_neg (by omega),if_neg (by omega),if_neg (by first|omega|(have hz:=kQ (c:=⟨c.bx+bx,c.held+held,c.bZ,c.cM⟩) (by dsimp only;omega) (hrc (by omega)).2.2.2.2.1 (hrc (by omega)).2.2.2.2.2;omega))]
 rw [hX] at hr;clear hX
 simp only [Prod.mk.injEq] at hr;obtain ⟨rfl,rfl⟩:=hr
 refine al aa [3,1] 1 rfl rfl rfl rfl rfl rfl ?_ ?_
 all_goals first|rfl|(simp [ar];done)|(simp [ar];omega)
end Go.Proofs.Ytegepioggeggaaa.Dev
