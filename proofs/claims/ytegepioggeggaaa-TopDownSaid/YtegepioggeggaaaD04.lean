/- A part of the proof: Sh28, PlDel, PlPace, PlCard, PlPost, Sh29, Sh30, Sh31, Sh32. No condition. -/
import Derived.Test.YtegepioggeggaaaD03
set_option linter.unusedVariables false
set_option linter.unusedSimpArgs false
namespace Go.Proofs.Ytegepioggeggaaa.Dev
open Go.RowKit
section
def lW (a:Answer):Value:=.agg #[.int .i64 a.err,.int .i64 a.ba]
def tV (ps:List (Int×Answer)):List (Int×Value):=ps.map fun p=>(p.1,lW p.2)
def il:List (Int×Answer)->Int->Option Answer
 |[],_=>none
 |(k,v)::l,a=>if k=a then some v else il l a
def nW:List (Int×Answer)->Int->Answer->List (Int×Answer)
 |[],a,v=>[(a,v)]
 |(k,u)::l,a,v=>if k=a then (a,v)::l else (k,u)::nW l a v
theorem oH {a:Int}:∀ {ps:List (Int×Answer)} {ms:List MapEntry} (i:Nat),ms.map (fun e=>(e.key,e.val))=(tV ps).map (fun e=>(Value.int .i64 e.1,e.2))->
  (∃ j v,Instr.findNow (.int .i64) (.int .i64 a) ms i=some (some (i+j,lW v))/\il ps a=some v/\(∃ e,ms[j]?=some e/\e.key=.int .i64 a)/\∀ u,tV (nW ps a u)=(tV ps).set j (a,lW u))\/
  (Instr.findNow (.int .i64) (.int .i64 a) ms i=some none/\il ps a=none/\∀ u,nW ps a u=ps++[(a,u)])
 |[],[],i,_=>.inr ⟨rfl,rfl,fun _=>rfl⟩
 |[],_::_,_,h=>by cases h
 |_::_,[],_,h=>by cases h
 |(k,v)::ps,e::ms,i,h=>by
  obtain ⟨h1,h2⟩:=List.cons.inj h
  injection h1 with h3 h4
  unfold Instr.findNow il nW
  rw [h3,h4]
  by_cases hk:k=a
  ·subst hk
   exact .inl ⟨0,v,by simp [Instr.sameNow],by simp,⟨e,rfl,h3⟩,fun u=>by simp [tV]⟩
  ·have hk':(a==k)=false:=beq_eq_false_iff_ne.2 fun e=>hk e.symm
   rcases oH (ps:=ps) (ms:=ms) (a:=a) (i+1) h2 with ⟨j,w,h5,h6,⟨e',h7,h8⟩,h9⟩|⟨h5,h6,h7⟩
   ·refine .inl ⟨j+1,w,?_,by simp [hk,h6],⟨e',by simpa using h7,h8⟩,fun u=>?_⟩
    ·simp only [Instr.sameNow,hk',h5]
     simp [show i+1+j=i+(j+1) by omega]
    ·rw [if_neg hk]
     have:=h9 u
     simp only [tV] at this ⊢
     simp [this]
   ·exact .inr ⟨by simp [Instr.sameNow,hk',h5],by simp [hk,h6],fun u=>by rw [if_neg hk,h7];rfl⟩
section
variable {P:Program} {st:aF} {o:Oper}
theorem zn {t kt et:TypeId} {m x:Operand} {k cl:Nat} {a:Int} {ps:List (Int×Answer)} (hu:P.underlying t=some (.map kt et)) (hkt:P.underlying kt=some (.int .i64)) (hz:(P.info? et).bind (fun i=>i.zero)=some (.agg #[.int .i64 0,.int .i64 0])) (ho:o.op=.lookup t m x true)
  (hm:ev st m (.v (.c (.m k)))) (hx:ev st x (.v (.c (.d (.v (.int .i64 a)))))) (hb:look st.h k=some (.map (tV ps) cl)):
  aH P o st (.t [.g [cI ((il ps a).getD ⟨0,0⟩).err,cI ((il ps a).getD ⟨0,0⟩).ba],.c (cB (il ps a).isSome)]) [] []:=
 aH.val fun σ T ac w C=>by
  obtain ⟨g,h1,h2⟩:=bK C hm
  have h3:=bp.inv (bK C hx)
  obtain ⟨g',ms,e1,e2,e3,e4⟩:=C.heap k _ hb
  rw [h1] at e1;injection e1 with e1;subst e1
  refine ⟨.tuple #[lW ((il ps a).getD ⟨0,0⟩),.bool (il ps a).isSome],?_,⟨_,rfl,⟨_,rfl,bp.v _ rfl,bp.v _ rfl,trivial⟩,bp.v _ rfl,trivial⟩⟩
  cases hq:P.info? et with
  |none=>simp [hq] at hz
  |some i=>
   have hzz:i.zero=some (.agg #[.int .i64 0,.int .i64 0]):=by simpa [hq] using hz
   unfold execOp
   rcases oH (a:=a) 0 e4 with ⟨j,v,hf,hg,_⟩|⟨hf,hg,_⟩
   ·simp [ho,h2,h3,hg,Instr.lookup,run_underlying hu,MapKept.run_getObj_map e3,MapKept.run_checkKey hkt (show MapKept.IsKey (.int .i64) (.int .i64 a) from rfl),MapKept.run_findKey hkt hf,Result.andThen]
   ·simp [ho,h2,h3,hg,Instr.lookup,run_underlying hu,MapKept.run_getObj_map e3,MapKept.run_checkKey hkt (show MapKept.IsKey (.int .i64) (.int .i64 a) from rfl),MapKept.run_findKey hkt hf,Result.andThen,zeroValue,typeInfo,hq,hzz,lW]
theorem zl {t kt et:TypeId} {m x y:Operand} {k cl:Nat} {a e u:Int} {ps:List (Int×Answer)} (hu:P.underlying t=some (.map kt et)) (hkt:P.underlying kt=some (.int .i64)) (ho:o.op=.mapUpdate t m x y)
  (hm:ev st m (.v (.c (.m k)))) (hx:ev st x (.v (.c (.d (.v (.int .i64 a)))))) (hy:ev st y (.v (.g [cI e,cI u]))) (hb:look st.h k=some (.map (tV ps) cl)):
  aH P o st (.v (.c .any)) [(k,.map (tV (nW ps a ⟨e,u⟩)) (if (il ps a).isSome then cl else cl+1))] [k]:=by
 intro σ T ac w C _
 obtain ⟨g,h1,h2⟩:=bK C hm
 have h3:=bp.inv (bK C hx)
 obtain ⟨vs,h4,h5⟩:=bK C hy
 have h4:ac.eval y=lW ⟨e,u⟩:=by
  match vs,h5 with
  |[v1,v2],h5=>rw [h4,bp.inv h5.1,bp.inv h5.2.1];rfl
 obtain ⟨g',ms,e1,e2,e3,e4⟩:=C.heap k _ hb
 rw [h1] at e1;injection e1 with e1;subst e1
 have hlt:=(Array.getElem?_eq_some_iff.1 e3).1
 rcases oH (a:=a) 0 e4 with ⟨j,v,hf,hg,⟨e0,hj,hk⟩,hp⟩|⟨hf,hg,hp⟩
 ·rw [Nat.zero_add] at hf
  have hj':ms[j]?=some e0:=by simpa using hj
  refine mO (w':={w with heap:=w.heap.setIfInBounds g.g (.map (ms.modify j fun e'=>{e' with key:=.int .i64 a,val:=lW ⟨e,u⟩}) cl)}) ?_ ⟨undef,σ,T,rfl,Ext.write C hb h1 rfl rfl rfl (by simp) (fun i hi=>(MapKept.heap_set e3).2 i hi) fun G=>?_,trivial⟩
  ·unfold execOp
   simp [ho,h2,h3,h4,Instr.mapUpdate,Sem.run_bind,run_underlying hu,Result.andThen_ok,MapKept.run_getObj_map e3,MapKept.run_checkKey hkt (show MapKept.IsKey (.int .i64) (.int .i64 a) from rfl),MapKept.run_findKey hkt hf,hj',hk,MapKept.run_keyThatStays (show MapKept.IsKey (.int .i64) (.int .i64 a) from rfl),MapKept.run_setObj_map _ e3]
  ·refine ⟨g,(ms.modify j fun e'=>{e' with key:=.int .i64 a,val:=lW ⟨e,u⟩}),rfl,e2,?_,?_⟩
   ·rw [hg];exact (MapKept.heap_set e3).1
   ·rw [hp,List.map_set,<-e4]
    refine List.ext_getElem? fun q=>?_
    rw [List.getElem?_map,Array.getElem?_toList,Array.getElem?_modify,List.getElem?_set,List.getElem?_map,Array.getElem?_toList]
    by_cases hq:j=q
    ·subst hq
     have hjl:=(Array.getElem?_eq_some_iff.1 hj').1
     simp [hj',hjl]
    ·simp [hq]
 ·refine mO (w':={w with heap:=w.heap.setIfInBounds g.g (.map (ms.push {key:=.int .i64 a,val:=lW ⟨e,u⟩,born:=cl}) (cl+1))}) ?_ ⟨undef,σ,T,rfl,Ext.write C hb h1 rfl rfl rfl (by simp) (fun i hi=>(MapKept.heap_set e3).2 i hi) fun G=>?_,trivial⟩
  ·unfold execOp
   simp only [ho,h2,h3,h4,Instr.mapUpdate,Sem.run_bind,run_underlying hu,Result.andThen_ok,MapKept.run_getObj_map e3,MapKept.run_checkKey hkt (show MapKept.IsKey (.int .i64) (.int .i64 a) from rfl),MapKept.run_findKey hkt hf,MapKept.run_setObj_map _ e3]
   rfl
  ·refine ⟨g,(ms.push {key:=.int .i64 a,val:=lW ⟨e,u⟩,born:=cl}),rfl,e2,?_,?_⟩
   ·rw [hg];exact (MapKept.heap_set e3).1
   ·rw [hp,Array.toList_push,List.map_append,e4]
    simp [tV]
theorem xL {t:TypeId} (k:Nat) (ho:o.op=.makeMap t none):aH P o st (.v (.c (.m k))) [(k,.map (tV []) 0)] []:=zm k ho
end
end
section
def dE {α:Type} (p:α->Bool) (l:List α):List α:=l.filter fun x=>!p x
def gE {α:Type} (p:α->Bool) (l:List α):Int:=
 match l.findIdx? p with
 |some i=>i
 |none=>-1
variable {α:Type} {p:α->Bool} {l c:List α} {i j q:Nat} {x:α}
theorem nm (h:l[j]?=some x):dE p (l.take (j+1))=dE p (l.take j)++if p x then [] else [x]:=by
 rw [im h,dE,dE,List.filter_append]
 cases hp:p x<;>simp [hp]
theorem oA (p:α->Bool) (l:List α):(dE p l).length<=l.length:=List.length_filter_le _ _
theorem tc (h:(l.take q).all (fun y=>!p y)=true) (hx:l[q]?=some x) (hp:p x=true):gE p l=q:=by
 unfold gE
 have hq:=(List.getElem?_eq_some_iff.1 hx).1
 have:l.findIdx? p=some q:=by
  rw [List.findIdx?_eq_some_iff_getElem]
  refine ⟨hq,?_,fun r hr=>?_⟩
  ·have:=(List.getElem?_eq_some_iff.1 hx).2;rw [this];exact hp
  ·rw [List.all_eq_true] at h
   have hm:l[r]'(by omega)∈l.take q:=by
    rw [List.mem_iff_getElem]
    exact ⟨r,by rw [List.length_take];omega,by simp⟩
   have:=h _ hm
   simpa using this
 rw [this]
theorem uP (h:l.all (fun y=>!p y)=true):gE p l=-1:=by
 unfold gE
 have:l.findIdx? p=none:=by
  rw [List.findIdx?_eq_none_iff]
  intro y hy
  have:=List.all_eq_true.1 h y hy
  simpa using this
 rw [this]
theorem vB (h:(l.take q).all (fun y=>!p y)=true) (hx:l[q]?=some x) (hp:p x=false):(l.take (q+1)).all (fun y=>!p y)=true:=wX h hx (by simp [hp])
theorem td (p:α->Bool) (l:List α):(gE p l=-1/\dE p l=l)\/∃ i:Nat,gE p l=i/\i < l.length/\∃ x,l[i]?=some x/\p x=true/\dE p (l.take i)=l.take i:=by
 unfold gE
 cases h:l.findIdx? p with
 |none=>
  refine .inl ⟨rfl,?_⟩
  rw [List.findIdx?_eq_none_iff] at h
  exact List.filter_eq_self.2 fun y hy=>by simp [h y hy]
 |some i=>
  rw [List.findIdx?_eq_some_iff_getElem] at h
  obtain ⟨h1,h2,h3⟩:=h
  refine .inr ⟨i,rfl,h1,l[i],List.getElem?_eq_getElem h1,h2,?_⟩
  refine List.filter_eq_self.2 fun y hy=>?_
  obtain ⟨r,hr,rfl⟩:=List.mem_iff_getElem.1 hy
  rw [List.length_take] at hr
  have:=h3 r (by omega)
  simp [this]
structure kI (p:α->Bool) (l c:List α) (i j:Nat):Prop where
 len:c.length=l.length
 ij:i < j
 jl:j<=l.length
 pre:c.take i=dE p (l.take j)
 post:c.drop j=l.drop j
theorem kI.get (h:kI p l c i j) (hx:c[j]?=some x):l[j]?=some x:=by
 have h1:(c.drop j)[0]?=(l.drop j)[0]?:=by rw [h.post]
 simpa [hx] using h1.symm
theorem kI.skip (h:kI p l c i j) (hx:c[j]?=some x) (hp:p x=true):kI p l c i (j+1):=by
 have hl:=h.get hx
 have hj:=(List.getElem?_eq_some_iff.1 hl).1
 refine ⟨h.len,Nat.lt_succ_of_lt h.ij,hj,?_,?_⟩
 ·rw [nm hl,hp,h.pre];simp
 ·rw [<-List.drop_drop,<-List.drop_drop,h.post]
theorem kI.cD (h:kI p l c i j) (hx:c[j]?=some x) (hp:p x=false):kI p l (c.set i x) (i+1) (j+1):=by
 have hl:=h.get hx
 have hj:=(List.getElem?_eq_some_iff.1 hl).1
 have hi:i < c.length:=by have:=h.ij;rw [h.len];omega
 refine ⟨by rw [List.length_set];exact h.len,Nat.succ_lt_succ h.ij,hj,?_,?_⟩
 ·rw [nm hl,hp,<-h.pre]
  rw [List.take_succ_eq_append_getElem (by rw [List.length_set];exact hi)]
  simp [List.take_set_of_le]
 ·rw [List.drop_set_of_lt (by have:=h.ij;omega),<-List.drop_drop,<-List.drop_drop,h.post]
theorem kI.start {i:Nat} (hx:l[i]?=some x) (hp:p x=true) (hk:dE p (l.take i)=l.take i):kI p l l i (i+1):=by
 have hi:=(List.getElem?_eq_some_iff.1 hx).1
 refine ⟨rfl,Nat.lt_succ_self i,hi,?_,rfl⟩
 rw [nm hx,hp,hk];simp
theorem kI.done (h:kI p l c i j) (hj:l.length<=j):c.take i=dE p l:=by
 rw [h.pre,List.take_of_length_le hj]
end
section
section
variable {α:Type} [DecidableEq α] {a b:List α}
end
end
section
def kd (a b c:Int):Int:=if a < 1\/a > 1000000\/b < 0\/b > 30\/c < 0\/c > 1000000000000 then 3 else 0
def scan (e:Nat->Int) (q:Nat):Nat->Int×Int
 |0=>(0,0)
 |k+1=>if e q≠0 then (e q,(q:Int)) else scan e (q+1) k
theorem mA {e:Nat->Int} {q n:Nat} (hq:q < n) (h:e q=0):scan e q (n - q)=scan e (q+1) (n - (q+1)):=by
 rw [show n - q=(n - (q+1))+1 by omega,scan,if_neg (by simp [h])]
theorem gU {e:Nat->Int} {q n:Nat} (hq:q < n) {c:Int} (h:e q=c) (hc:c≠0):scan e q (n - q)=(c,(q:Int)):=by
 rw [show n - q=(n - (q+1))+1 by omega,scan,if_pos (by rw [h];exact hc),h]
theorem mY {e:Nat->Int} {q n:Nat} (hq:¬q < n):scan e q (n - q)=(0,0):=by rw [show n - q=0 by omega];rfl
theorem mZ {e:Nat->Int}:∀ (n q:Nat),(scan e q n).1=0↔∀ i,q<=i->i < q+n->e i=0
 |0,q=>by simp [scan];intro i h1 h2;omega
 |n+1,q=>by
  rw [scan]
  split
  ·rename_i h;exact ⟨fun h'=>absurd h' h,fun h'=>absurd (h' q (Nat.le_refl _) (by omega)) h⟩
  ·rename_i h
   rw [mZ n (q+1)]
   constructor
   ·intro h' i h1 h2
    by_cases hi:i=q
    ·subst hi;omega
    ·exact h' i (by omega) (by omega)
   ·exact fun h' i h1 h2=>h' i (by omega) (by omega)
def kz (l:List cU) (q:Nat):Int:=
 match l[q]? with
 |some u=>if u.time < 0\/u.time > 1000000\/u.sum < 0\/u.sum > 1000000 then 3 else if 0 < q/\(l.getD (q - 1) ⟨0,0⟩).time > u.time then 2 else 0
 |none=>0
def cL (l:List cU):Int×Int:=if l.length > 30 then (5,0) else scan (kz l) 0 l.length
def fl (p:di):Int:=kd p.cH p.count p.sum
def fw (l:List cU):cV:=⟨(cL l).1,(cL l).2⟩
def cx (p:di) (t:Int) (u:cU):Bool:=decide (u.time<=t - p.cH)
def dy (p:di) (l:List cU) (t:Int):List cU:=dE (cx p t) l
def gI:List cU->Int
 |[]=>0
 |u::l=>u.sum+gI l
def gD (l:List cU) (t:Int):Bool:=match l.getLast? with
 |some u=>decide (u.time > t)
 |none=>false
def ew (p:di) (l:List cU) (x:cU):List cU×Int:=
 if fl p≠0 then ([],fl p)
 else if (fw l).err≠0 then ([],(fw l).err)
 else if (fw [x]).err≠0 then ([],(fw [x]).err)
 else if gD l x.time=true then ([],2)
 else if p.count < ((dy p l x.time).length:Int)+1\/p.sum < gI (dy p l x.time)+x.sum then ([],11)
 else (dy p l x.time++[x],0)
theorem om {p:di} (h:fl p=0):1<=p.cH/\p.cH<=1000000/\0<=p.count/\p.count<=30/\0<=p.sum/\p.sum<=1000000000000:=by
 unfold fl kd at h
 split at h
 ·cases h
 ·omega
theorem pS {l:List cU}:(fw l).err=0↔l.length<=30/\∀ i,i < l.length->kz l i=0:=by
 unfold fw cL
 dsimp only
 split
 ·constructor
  ·intro h;cases h
  ·intro h;omega
 ·rw [mZ]
  constructor
  ·exact fun h=>⟨by omega,fun i hi=>h i (Nat.zero_le _) (by omega)⟩
  ·exact fun h i _ hi=>h.2 i (by omega)
theorem pU {l:List cU} {q:Nat} {u:cU} (h:l[q]?=some u):kz l q=0↔(0<=u.time/\u.time<=1000000/\0<=u.sum/\u.sum<=1000000)/\∀ v,0 < q->l[q - 1]?=some v->v.time<=u.time:=by
 unfold kz
 rw [h]
 dsimp only
 have hq:=(List.getElem?_eq_some_iff.1 h).1
 split
 ·constructor
  ·intro h;cases h
  ·intro h;omega
 ·split
  ·rename_i h1 h2
   constructor
   ·intro h;cases h
   ·intro h3
    have hv:l[q - 1]?=some l[q - 1]:=List.getElem?_eq_getElem (by omega)
    have:=h3.2 _ h2.1 hv
    rw [List.getD_eq_getElem?_getD,hv] at h2
    simp only [Option.getD_some] at h2
    omega
  ·rename_i h1 h2
   refine ⟨fun _=>⟨by omega,fun v h3 h4=>?_⟩,fun _=>rfl⟩
   rw [List.getD_eq_getElem?_getD,h4] at h2
   simp only [Option.getD_some] at h2
   omega
theorem jr {l:List cU} (h:(fw l).err=0):l.length<=30/\∀ u∈l,0<=u.time/\u.time<=1000000/\0<=u.sum/\u.sum<=1000000:=by
 obtain ⟨h1,h2⟩:=pS.1 h
 refine ⟨h1,fun u hu=>?_⟩
 obtain ⟨i,hi⟩:=List.getElem?_of_mem hu
 exact ((pU hi).1 (h2 i (List.getElem?_eq_some_iff.1 hi).1)).1
theorem kg (l:List cU) (u:cU):gI (l++[u])=gI l+u.sum:=by
 induction l with
 |nil=>simp [gI]
 |cons x l ih=>simp only [List.cons_append,gI,ih];omega
theorem xj {l:List cU} (h:∀ u∈l,0<=u.time/\u.time<=1000000/\0<=u.sum/\u.sum<=1000000):0<=gI l/\gI l<=1000000 * l.length:=by
 induction l with
 |nil=>simp [gI]
 |cons x l ih=>
  have h1:=ih fun u hu=>h u (List.mem_cons_of_mem _ hu)
  have h2:=h x List.mem_cons_self
  simp only [gI,List.length_cons]
  omega
theorem jN {α:Type} {p:α->Bool} {l:List α} {x:α} (h:x∈dE p l):x∈l:=(List.mem_filter.1 h).1
theorem pw {p:di} {l:List cU} {t:Int} {k:Nat} (h:(fw l).err=0):0<=gI ((dy p l t).take k)/\gI ((dy p l t).take k)<=30000000:=by
 obtain ⟨h1,h2⟩:=jr h
 have h3:=xj (l:=(dy p l t).take k) fun u hu=>h2 u (jN (List.mem_of_mem_take hu))
 have h4:=oA (cx p t) l
 have h5:((dy p l t).take k).length<=(dy p l t).length:=by rw [List.length_take];exact Nat.min_le_right _ _
 have h6:(dy p l t).length<=30:=Nat.le_trans h4 h1
 omega
theorem Dm {α:Type} {a b x:α} {q:Nat} (h:[a,b][q]?=some x):(q=0/\x=a)\/(q=1/\x=b):=by
 match q with
 |0=>left;simp_all
 |1=>right;simp_all
 |q+2=>simp at h
theorem mD {l:List cU} {t:Int} {u:cU} (h:l[l.length - 1]?=some u):gD l t=decide (u.time > t):=by
 unfold gD
 rw [List.getLast?_eq_getElem?,h]
end
section
end
section
theorem zQ {p:di} {l r:List cU} {x:cU} (h:ew p l x=(r,0)):fl p=0/\(fw l).err=0/\(fw [x]).err=0/\gD l x.time=false/\((dy p l x.time).length:Int)+1<=p.count/\gI (dy p l x.time)+x.sum<=p.sum/\r=dy p l x.time++[x]:=by
 unfold ew at h
 split at h
 ·rename_i h1;simp only [Prod.mk.injEq] at h;exact absurd h.2 h1
 split at h
 ·rename_i h1;simp only [Prod.mk.injEq] at h;exact absurd h.2 h1
 split at h
 ·rename_i h1;simp only [Prod.mk.injEq] at h;exact absurd h.2 h1
 split at h
 ·simp at h
 split at h
 ·simp at h
 ·rename_i h1 h2 h3 h4 h5
  simp only [Prod.mk.injEq] at h
  exact ⟨by omega,by omega,by omega,by simpa using h4,by omega,by omega,h.1.symm⟩
structure Kept (p:di) (all kept:List cU):Prop where
 times:∀ u∈all,∀ v,all.getLast?=some v->u.time<=v.time
 last:kept.getLast?=all.getLast?
 FB:∀ t,(∀ v,all.getLast?=some v->v.time<=t)->dy p kept t=dy p all t
 dV:∀ i u,all[i]?=some u->((dy p (all.take (i+1)) u.time).length:Int)<=p.count/\gI (dy p (all.take (i+1)) u.time)<=p.sum
 bound:∀ u∈all,0<=u.time/\u.time<=1000000/\0<=u.sum/\u.sum<=1000000
theorem Kept.nil (p:di):Kept p [] []:=⟨fun u h=>by simp at h,rfl,fun _ _=>rfl,fun i u h=>by simp at h,fun u h=>by simp at h⟩
theorem oz (p:cU->Bool) (l:List cU) (x:cU):dE p (l++[x])=dE p l++if p x then [] else [x]:=by
 rw [dE,dE,List.filter_append]
 cases hp:p x<;>simp [hp]
theorem Kept.add {p:di} {all kept r:List cU} {x:cU} (h:Kept p all kept) (ha:ew p kept x=(r,0)):Kept p (all++[x]) r:=by
 obtain ⟨h1,h2,h3,h4,h5,h6,rfl⟩:=zQ ha
 have hp:=om h1
 have hl:∀ v,all.getLast?=some v->v.time<=x.time:=fun v hv=>by
  unfold gD at h4
  rw [h.last,hv] at h4
  simpa using h4
 have hx:=(jr h3).2 x (by simp)
 have hrec:dy p kept x.time=dy p all x.time:=h.FB _ hl
 have hold:∀ t,cx p t x=false\/t - p.cH>=x.time:=fun t=>by unfold cx;by_cases h:x.time<=t - p.cH<;>simp [h]
 have hx0:cx p x.time x=false:=by unfold cx;simp;omega
 refine ⟨fun u hu v hv=>?_,by simp,fun t ht=>?_,fun i u hi=>?_,fun u hu=>?_⟩
 ·have hv':v=x:=by simpa using hv.symm
  subst hv'
  rcases List.mem_append.1 hu with hu|hu
  ·cases hg:all.getLast? with
   |none=>rw [List.getLast?_eq_none_iff] at hg;subst hg;simp at hu
   |some w=>have:=h.times u hu w hg;have:=hl w hg;omega
  ·have:u=v:=by simpa using hu
   subst this;omega
 ·have htx:x.time<=t:=ht x (by simp)
  unfold dy
  rw [oz,oz]
  congr 1
  show dE (cx p t) (dy p kept x.time)=dE (cx p t) all
  rw [hrec]
  unfold dy dE
  rw [List.filter_filter]
  apply List.filter_congr
  intro u _
  unfold cx
  by_cases h1:u.time<=t - p.cH
  ·simp [h1]
  ·have:¬u.time<=x.time - p.cH:=by omega
   simp [h1,this]
 ·by_cases hi':i < all.length
  ·rw [List.getElem?_append_left hi'] at hi
   rw [List.take_append_of_le_length (by omega)]
   exact h.dV i u hi
  ·have hlt:=(List.getElem?_eq_some_iff.1 hi).1
   simp at hlt
   obtain rfl:i=all.length:=by omega
   have hux:u=x:=by simpa using hi.symm
   subst hux
   rw [List.take_of_length_le (by simp)]
   unfold dy at *
   rw [oz,hx0,<-hrec]
   simp only [Bool.false_eq_true,if_false,List.length_append,List.length_singleton,kg]
   omega
 ·rcases List.mem_append.1 hu with hu|hu
  ·exact h.bound u hu
  ·have:u=x:=by simpa using hu
   subst this;exact hx
end
section
def cv (c:bC):Int:=
 if c.bu < -1000000000000\/c.bu > 1000000000000\/c.held < 0\/c.held > 1000000000000 then 3 else if fl c.ca≠0 then fl c.ca else (fw c.cL).err
def ov:bC:=⟨0,0,⟨0,0,0⟩,[]⟩
def dQ (c:bC) (n time:Int):bC×Int:=
 if cv c≠0 then (ov,cv c)
 else if n < 1\/n > 1000000\/time < 0\/time > 1000000 then (ov,3)
 else if c.held+n > c.bu then (ov,10)
 else if (ew c.ca c.cL ⟨time,n⟩).2≠0 then (ov,(ew c.ca c.cL ⟨time,n⟩).2)
 else (⟨c.bu,c.held+n,c.ca,(ew c.ca c.cL ⟨time,n⟩).1⟩,0)
def eu (c:bC) (n:Int):bC×Int:=
 if cv c≠0 then (ov,cv c)
 else if n < 1\/n > 1000000\/c.held+n > 1000000000000 then (ov,3)
 else (⟨c.bu,c.held+n,c.ca,c.cL⟩,0)
def dP (c:bC) (held bu:Int):bC×Int:=
 if cv c≠0 then (ov,cv c)
 else if held < -1000000000000\/held > 1000000000000\/bu < -1000000000000\/bu > 1000000000000 then (ov,3)
 else if cv ⟨c.bu+bu,c.held+held,c.ca,c.cL⟩≠0 then (ov,10)
 else (⟨c.bu+bu,c.held+held,c.ca,c.cL⟩,0)
theorem eU {c:bC} (h:cv c=0):-1000000000000<=c.bu/\c.bu<=1000000000000/\0<=c.held/\c.held<=1000000000000/\fl c.ca=0/\(fw c.cL).err=0:=by
 unfold cv at h
 split at h
 ·cases h
 ·split at h
  ·omega
  ·omega
theorem oX {c:bC} (h:-1000000000000<=c.bu/\c.bu<=1000000000000/\0<=c.held/\c.held<=1000000000000) (h1:fl c.ca=0) (h2:(fw c.cL).err=0):cv c=0:=by
 unfold cv
 rw [if_neg (by omega),if_neg (by omega),h2]
theorem nc {c:bC} (h:cv c=0):c.cL.length<=30:=(jr (eU h).2.2.2.2.2).1
theorem pW {c x:bC} {a m e:Int} (h:dP c a m=(x,e)):(e≠0/\x=ov/\(e=3->cv c=0->(a < -1000000000000\/a > 1000000000000\/m < -1000000000000\/m > 1000000000000)))\/(e=0/\cv c=0/\-1000000000000<=a/\a<=1000000000000/\-1000000000000<=m/\m<=1000000000000/\x=⟨c.bu+m,c.held+a,c.ca,c.cL⟩/\cv x=0):=by
 unfold dP at h
 split at h
 ·rename_i h1;simp only [Prod.mk.injEq] at h;exact .inl ⟨h.2▸h1,h.1.symm,fun _ h3=>absurd h3 h1⟩
 split at h
 ·rename_i h1;simp only [Prod.mk.injEq] at h;exact .inl ⟨by omega,h.1.symm,fun _ _=>h1⟩
 split at h
 ·simp only [Prod.mk.injEq] at h;exact .inl ⟨by omega,h.1.symm,fun h3=>by omega⟩
 ·rename_i h1 h2 h3
  simp only [Prod.mk.injEq] at h
  obtain ⟨rfl,rfl⟩:=h
  exact .inr ⟨rfl,by omega,by omega,by omega,by omega,by omega,rfl,by omega⟩
theorem qv {c x:bC} {n t e:Int} (h:dQ c n t=(x,e)):(e≠0/\x=ov/\(e=10->cv c=0->c.held+n > c.bu\/(ew c.ca c.cL ⟨t,n⟩).2=10))\/(e=0/\cv c=0/\1<=n/\n<=1000000/\0<=t/\t<=1000000/\c.held+n<=c.bu/\∃ l,ew c.ca c.cL ⟨t,n⟩=(l,0)/\x=⟨c.bu,c.held+n,c.ca,l⟩):=by
 unfold dQ at h
 split at h
 ·rename_i h1;simp only [Prod.mk.injEq] at h;exact .inl ⟨h.2▸h1,h.1.symm,fun _ h3=>absurd h3 h1⟩
 split at h
 ·simp only [Prod.mk.injEq] at h;exact .inl ⟨by omega,h.1.symm,fun h3=>by omega⟩
 split at h
 ·rename_i h1;simp only [Prod.mk.injEq] at h;exact .inl ⟨by omega,h.1.symm,fun _ _=>.inl h1⟩
 split at h
 ·rename_i h1;simp only [Prod.mk.injEq] at h;exact .inl ⟨h.2▸h1,h.1.symm,fun h3 _=>.inr (h.2.trans h3)⟩
 ·rename_i h1 h2 h3 h4
  simp only [Prod.mk.injEq] at h
  refine .inr ⟨h.2.symm,by omega,by omega,by omega,by omega,by omega,by omega,_,Prod.ext rfl (by simpa using h4),h.1.symm⟩
end
section
end
section
theorem rK {l:List cU}:(fw l).err=0↔l.length<=30/\(∀ u∈l,0<=u.time/\u.time<=1000000/\0<=u.sum/\u.sum<=1000000)/\l.Pairwise fun a b=>a.time<=b.time:=by
 constructor
 ·intro h
  obtain ⟨h1,h2⟩:=pS.1 h
  refine ⟨h1,(jr h).2,?_⟩
  rw [List.pairwise_iff_getElem]
  have step:∀ i (hi:i+1 < l.length),l[i].time<=l[i+1].time:=fun i hi=>by
   have h3:=((pU (List.getElem?_eq_getElem hi)).1 (h2 (i+1) hi)).2 l[i] (by omega) (List.getElem?_eq_getElem (by omega))
   exact h3
  intro i j hi hj hij
  obtain ⟨k,rfl⟩:∃ k,j=i+1+k:=⟨j - i - 1,by omega⟩
  clear hij
  induction k with
  |zero=>exact step i hj
  |succ k ih=>
   have h4:=ih (by omega)
   have h5:=step (i+1+k) hj
   exact Int.le_trans h4 h5
 ·rintro ⟨h1,h2,h3⟩
  refine pS.2 ⟨h1,fun i hi=>?_⟩
  refine (pU (List.getElem?_eq_getElem hi)).2 ⟨h2 _ (List.getElem_mem hi),fun v h0 hv=>?_⟩
  rw [List.pairwise_iff_getElem] at h3
  obtain ⟨h5,rfl⟩:=List.getElem?_eq_some_iff.1 hv
  exact h3 (i - 1) i h5 hi (by omega)
theorem zP {p:di} {l r:List cU} {x:cU} (h:ew p l x=(r,0)):(fw r).err=0:=by
 obtain ⟨h1,h2,h3,h4,h5,h6,rfl⟩:=zQ h
 have hp:=om h1
 obtain ⟨h7,h8,h9⟩:=rK.1 h2
 have hx:=(jr h3).2 x (by simp)
 refine rK.2 ⟨by rw [List.length_append,List.length_singleton];omega,fun u hu=>?_,?_⟩
 ·rcases List.mem_append.1 hu with hu|hu
  ·exact h8 u (jN hu)
  ·have:u=x:=by simpa using hu
   subst this;exact hx
 ·rw [List.pairwise_append]
  refine ⟨List.Pairwise.filter _ h9,by simp,fun u hu v hv=>?_⟩
  have:v=x:=by simpa using hv
  subst this
  have hu':=jN hu
  have hne:l≠[]:=by intro e;subst e;simp at hu'
  have hlast:(l.getLast hne).time<=v.time:=by
   unfold gD at h4
   rw [List.getLast?_eq_some_getLast hne] at h4
   simpa using h4
  refine Int.le_trans ?_ hlast
  obtain ⟨i,hi,rfl⟩:=List.mem_iff_getElem.1 hu'
  rw [List.getLast_eq_getElem]
  by_cases e:i=l.length - 1
  ·subst e;exact Int.le_refl _
  ·rw [List.pairwise_iff_getElem] at h9
   exact h9 i (l.length - 1) hi (by omega) (by omega)
end
section

end
section
def lX (s:bU) (q:Nat):Int:=
 match s.kept[q]? with
 |some t=>if t.kind < 1\/t.kind > 3 then 1 else if t.ba < 0\/t.ba > 29\/t.sum < 1\/t.sum > 1000000 then 3 else if t.number≠s.bV - s.kept.length+1+q then 2 else 0
 |none=>0
def ji (s:bU):Int×Int:=
 if s.kept.length > 40 then (5,0) else if s.bV < s.kept.length\/s.bV > 1000000 then (3,0) else scan (lX s) 0 s.kept.length
def cE (s:bU):cV:=⟨(ji s).1,(ji s).2⟩
def wA:bU:=⟨0,[]⟩
def lf (s:bU) (t:bl):bU:=⟨s.bV+1,s.kept++[⟨s.bV+1,t.kind,t.ba,t.sum⟩]⟩
def gl (s:bU) (t:bl):bU×Int:=
 if (cE s).err≠0 then (wA,(cE s).err)
 else if (cE (lf s t)).err≠0 then (wA,(cE (lf s t)).err) else (lf s t,0)
def came (seen:Int) (t:bl):Bool:=decide (t.number<=seen)
def dX (s:bU) (seen:Int):bU×Int:=
 if (cE s).err≠0 then (wA,(cE s).err)
 else if seen < 0\/seen > s.bV then (wA,3) else (⟨s.bV,dE (came seen) s.kept⟩,0)
def gT (seen:Int) (t:bl):Int×Bool:=
 if seen < 0\/seen>=1000000\/t.number≠seen+1 then (seen,false) else (seen+1,true)
theorem kJ {s:bU}:(cE s).err=0↔s.kept.length<=40/\(s.kept.length:Int)<=s.bV/\s.bV<=1000000/\∀ i,i < s.kept.length->lX s i=0:=by
 unfold cE ji
 dsimp only
 split
 ·constructor
  ·intro h;cases h
  ·intro h;omega
 ·split
  ·constructor
   ·intro h;cases h
   ·intro h;omega
  ·rw [mZ]
   constructor
   ·exact fun h=>⟨by omega,by omega,by omega,fun i hi=>h i (Nat.zero_le _) (by omega)⟩
   ·exact fun h i _ hi=>h.2.2.2 i (by omega)
theorem ub {s:bU} {q:Nat} {t:bl} (h:s.kept[q]?=some t):lX s q=0↔1<=t.kind/\t.kind<=3/\0<=t.ba/\t.ba<=29/\1<=t.sum/\t.sum<=1000000/\t.number=s.bV - s.kept.length+1+q:=by
 unfold lX
 rw [h]
 dsimp only
 split
 ·constructor
  ·intro h;cases h
  ·intro h;omega
 ·split
  ·constructor
   ·intro h;cases h
   ·intro h;omega
  ·split
   ·constructor
    ·intro h;cases h
    ·intro h;omega
   ·constructor
    ·intro _;omega
    ·intro _;rfl
theorem uu {s:bU} (h:(cE s).err=0):s.kept.length<=40/\(s.kept.length:Int)<=s.bV/\s.bV<=1000000/\∀ (i:Nat) (t:bl),s.kept[i]?=some t->1<=t.kind/\t.kind<=3/\0<=t.ba/\t.ba<=29/\1<=t.sum/\t.sum<=1000000/\t.number=s.bV - s.kept.length+1+i:=by
 obtain ⟨h1,h2,h3,h4⟩:=kJ.1 h
 exact ⟨h1,h2,h3,fun i t ht=>(ub ht).1 (h4 i (List.getElem?_eq_some_iff.1 ht).1)⟩
theorem Ce {s:bU} (h1:s.kept.length<=40) (h2:(s.kept.length:Int)<=s.bV) (h3:s.bV<=1000000) (h4:∀ (i:Nat) (t:bl),s.kept[i]?=some t->1<=t.kind/\t.kind<=3/\0<=t.ba/\t.ba<=29/\1<=t.sum/\t.sum<=1000000/\t.number=s.bV - s.kept.length+1+i):(cE s).err=0:=
 kJ.2 ⟨h1,h2,h3,fun i hi=>by
  have ht:s.kept[i]?=some s.kept[i]:=List.getElem?_eq_getElem hi
  exact (ub ht).2 (h4 i _ ht)⟩
theorem yY {s:bU} (h:(cE s).err=0) (seen:Int):dE (came seen) s.kept=s.kept.drop (seen - (s.bV - s.kept.length)).toNat:=by
 obtain ⟨h1,h2,h3,h4⟩:=uu h
 have gen:∀ (l:List bl) (a:Int),(∀ (i:Nat) (t:bl),l[i]?=some t->t.number=a+1+i)->dE (came seen) l=l.drop (seen - a).toNat:=by
  intro l
  induction l with
  |nil=>intro a _;simp [dE]
  |cons t l ih=>
   intro a ha
   have ht:=ha 0 t rfl
   have ih:=ih (a+1) fun i u hu=>by have:=ha (i+1) u (by simpa using hu);omega
   unfold dE at ih ⊢
   rw [List.filter_cons]
   by_cases hs:t.number<=seen
   ·have h0:came seen t=true:=by simp [came,hs]
    rw [h0,if_neg (by simp),ih]
    have:(seen - a).toNat=(seen - (a+1)).toNat+1:=by omega
    rw [this,List.drop_succ_cons]
   ·have h0:came seen t=false:=by simp [came,hs]
    rw [h0,if_pos (by simp),ih]
    have h1:(seen - (a+1)).toNat=0:=by omega
    have h2:(seen - a).toNat=0:=by omega
    rw [h1,h2];rfl
 exact gen s.kept _ fun i t ht=>(h4 i t ht).2.2.2.2.2.2
end
section
theorem pk {s x:bU} {seen e:Int} (h:dX s seen=(x,e)):(e≠0/\x=wA)\/(e=0/\(cE s).err=0/\0<=seen/\seen<=s.bV/\x=⟨s.bV,dE (came seen) s.kept⟩):=by
 unfold dX at h
 split at h
 ·rename_i h1;simp only [Prod.mk.injEq] at h;exact .inl ⟨h.2▸h1,h.1.symm⟩
 split at h
 ·simp only [Prod.mk.injEq] at h;exact .inl ⟨by omega,h.1.symm⟩
 ·simp only [Prod.mk.injEq] at h;exact .inr ⟨h.2.symm,by omega,by omega,by omega,h.1.symm⟩
theorem yb {s:bU} {seen:Int} (h:(cE s).err=0) (h0:0<=seen) (h1:seen<=s.bV):(cE ⟨s.bV,dE (came seen) s.kept⟩).err=0:=by
 obtain ⟨h2,h3,h4,h5⟩:=uu h
 rw [yY h]
 generalize hd:(seen - (s.bV - s.kept.length)).toNat=d
 refine Ce (by simp;omega) (by simp;omega) h4 fun i t ht=>?_
 rw [List.getElem?_drop] at ht
 have h6:=h5 (d+i) t ht
 have hlt:=(List.getElem?_eq_some_iff.1 ht).1
 simp only [List.length_drop]
 omega
end
theorem aH.FC {P:Program} {o:Oper} {st:aF} {nb:List (Nat×AB)} {E:List Nat} {cs cs':List CV} (i K:Nat) (g:aH P o st (.v (.g cs)) nb E) (hc:cs[i]?=some cN) (he:cs.set i (cR K [])=cs'):aH P o st (.v (.g cs')) nb E:=by
 subst he
 refine fun σ T a w C hn=>gX (g σ T a w C hn) ?_
 rintro a w ⟨u,σ',T',h1,h2,vs,hv,hall⟩
 refine ⟨u,σ',T',h1,h2,vs,hv,?_⟩
 obtain ⟨v,hv',hr⟩:=hall.get hc
 have hnil:v=.slice none 0 0:=bp.inv hr
 have hs:=hall.set (x:=cR K []) (y:=v) (by rw [hnil];exact bp.nil K none 0) i
 have e:vs.set i v=vs:=by
  apply List.ext_getElem?
  intro m
  rw [List.getElem?_set]
  split
  ·rename_i e;subst e
   split
   ·exact hv'.symm
   ·rename_i hlt;exact absurd (List.getElem?_eq_some_iff.1 hv').1 hlt
  ·rfl
 rwa [e] at hs
section

structure TI where
 fs:List (Nat×Nat)
 agg:Bool
 size:Nat
 zero:List Value
structure Bv (P:Program) (t:TypeId) (i:TI):Prop where
 Fj:∃ d,P.underlying t=some d/\kG d=i.agg
 Dx:i.fs=[]\/((Program.fieldsOf P t).bind fun fs=>fs.toList.mapM fun f=>(P.info? f.type).map fun i=>(f.offset,i.size))=some i.fs
 size:(P.info? t).map (·.size)=some i.size
 zero:i.zero=[]\/(((P.info? t).bind (·.zero)).map (fun v=>v.cells.toList)=some i.zero/\i.zero.all (·.oneCell')=true)
def ga (P:Program):List (Nat×TI)->Prop
 |[]=>True
 |x::l=>Bv P x.1 x.2/\ga P l
theorem ga.get {P:Program}:∀ {T:List (Nat×TI)},ga P T->∀ {t:Nat} {i:TI},look T t=some i->Bv P t i
 |x::l,h,t,i,hl=>by
  obtain ⟨k,j⟩:=x
  rw [bR] at hl
  split at hl
  ·rename_i e;injection hl with hl;subst e hl;exact h.1
  ·exact ga.get h.2 hl
def tM:Nat->List CV->Option (List CV)
 |0,_=>some []
 |_+1,[]=>none
 |n+1,c::l=>match tM n l with
  |some r=>some (c::r)
  |none=>none
theorem ua:∀ {n:Nat} {l r:List CV},tM n l=some r->l.take n=r/\r.length=n
 |0,l,r,h=>by cases h;simp
 |n+1,[],r,h=>by cases h
 |n+1,c::l,r,h=>by
  unfold tM at h
  split at h
  ·rename_i r' h';injection h with h;subst h
   obtain ⟨h1,h2⟩:=ua h'
   simp [h1,h2]
  ·cases h
def wy:List CV->List CV->Option (List CV)
 |cs,[]=>some cs
 |[],_::_=>none
 |_::cs,x::xs=>match wy cs xs with
  |some r=>some (x::r)
  |none=>none
theorem yK:∀ {cs xs r:List CV},wy cs xs=some r->xs.length<=cs.length/\r=xs++cs.drop xs.length
 |cs,[],r,h=>by unfold wy at h;injection h with h;subst h;simp
 |[],_::_,r,h=>by cases h
 |c::cs,x::xs,r,h=>by
  unfold wy at h
  split at h
  ·rename_i r' h';injection h with h;subst h
   obtain ⟨h1,h2⟩:=yK h'
   simp [h2];omega
  ·cases h
def jK:List CV->Nat->List CV->Option (List CV)
 |cs,0,xs=>wy cs xs
 |[],_+1,_=>none
 |c::cs,n+1,xs=>match jK cs n xs with
  |some r=>some (c::r)
  |none=>none
theorem jJ:∀ {cs:List CV} {n:Nat} {xs r:List CV},jK cs n xs=some r->n+xs.length<=cs.length/\cs.take n++xs++cs.drop (n+xs.length)=r
 |cs,0,xs,r,h=>by
  have h:wy cs xs=some r:=by cases cs<;>exact h
  obtain ⟨h1,h2⟩:=yK h
  simp [h2];omega
 |[],n+1,xs,r,h=>by cases h
 |c::cs,n+1,xs,r,h=>by
  unfold jK at h
  split at h
  ·rename_i r' h';injection h with h;subst h
   obtain ⟨h1,h2⟩:=jJ h'
   refine ⟨by simp;omega,?_⟩
   rw [show n+1+xs.length=n+xs.length+1 by omega]
   simp [<-h2]
  ·cases h
def kY:List (Nat×AB)->Nat->AB->Option (List (Nat×AB))
 |[],_,_=>none
 |(j,x)::l,k,b=>bif Nat.beq j k then some ((j,b)::l) else match kY l k b with
  |some r=>some ((j,x)::r)
  |none=>none
theorem my:∀ {l:List (Nat×AB)} {k:Nat} {b:AB} {r:List (Nat×AB)},kY l k b=some r->kf l k b=r
 |(j,x)::l,k,b,r,h=>by
  unfold kY at h
  unfold kf
  cases hjk:Nat.beq j k with
  |true=>rw [hjk] at h;simpa using h
  |false=>
   rw [hjk] at h
   simp only [cond_false] at h ⊢
   split at h
   ·rename_i r' h';injection h with h;subst h;rw [my h']
   ·cases h
def mN:List Value->Option (List CV)
 |[]=>some []
 |v::l=>match mN l with
  |some r=>some (.d (.v v)::r)
  |none=>none
theorem kX:∀ {l:List Value} {r:List CV},mN l=some r->(l.map fun x=>CV.d (.v x))=r
 |[],r,h=>by cases h;rfl
 |v::l,r,h=>by
  unfold mN at h
  split at h
  ·rename_i r' h';injection h with h;subst h;rw [<-kX h'];rfl
  ·cases h
def xq:List D->Option (List CV)
 |[]=>some []
 |v::l=>match xq l with
  |some r=>some (.d v::r)
  |none=>none
theorem wj:∀ {l:List D} {r:List CV},xq l=some r->l.map CV.d=r
 |[],r,h=>by cases h;rfl
 |v::l,r,h=>by
  unfold xq at h
  split at h
  ·rename_i r' h';injection h with h;subst h;rw [<-wj h'];rfl
  ·cases h
def qS (s:List (Nat×AV)):List (Nat×Operand)->Option (List (Nat×GV))
 |[]=>some []
 |(i,x)::l=>match iJ s x with
  |some (.v g)=>match qS s l with
   |some r=>some ((i,g)::r)
   |none=>none
  |_=>none
theorem sO {s:List (Nat×AV)} {h:List (Nat×AB)} {n:Nat}:∀ {l:List (Nat×Operand)} {r:List (Nat×GV)},qS s l=some r->zU ⟨s,h,n⟩ l r
 |[],r,hr=>by cases hr;trivial
 |(i,x)::l,r,hr=>by
  unfold qS at hr
  split at hr
  ·rename_i g hg
   split at hr
   ·rename_i r' h';injection hr with hr;subst hr;exact ⟨⟨rfl,ej hg⟩,sO h'⟩
   ·cases hr
  ·cases hr
def rl (places:List (Nat×Nat)):List CV->List (Nat×GV)->Option (List CV)
 |cells,[]=>some cells
 |cells,(i,g)::rest=>match places[i]? with
  |none=>none
  |some (off,size)=>bif Nat.beq (ek g).length size then (match jK cells off (ek g) with
   |some c=>rl places c rest
   |none=>none) else none
theorem vc {places:List (Nat×Nat)}:∀ {l:List (Nat×GV)} {cells r:List CV},rl places cells l=some r->kQ (fun i=>places[i]?) cells (l.map fun y=>(y.1,ek y.2))=some r
 |[],cells,r,h=>by unfold rl at h;exact h
 |(i,g)::rest,cells,r,h=>by
  unfold rl at h
  split at h
  ·cases h
  rename_i off size hp
  cases hs:Nat.beq (ek g).length size with
  |false=>rw [hs] at h;cases h
  |true=>
   rw [hs] at h
   simp only [cond_true] at h
   split at h
   ·rename_i c hc
    obtain ⟨h1,h2⟩:=jJ hc
    show kQ _ cells ((i,ek g)::rest.map _)=_
    unfold kQ
    rw [hp]
    dsimp only
    rw [if_pos ⟨Nat.eq_of_beq_eq_true hs,h1⟩,h2]
    exact vc h
   ·cases h
def DB:IntKind->IntKind->Bool
 |.i64,.i64=>true
 |.u8,.u8=>true
 |_,_=>false
theorem DA {a b:IntKind} (h:DB a b=true):a=b:=by cases a<;>cases b<;>first|rfl|cases h
def zr (T:List (Nat×TI)) (s:List (Nat×AV)) (h:List (Nat×AB)):Op->Option AV
 |.move x=>iJ s x
 |.assign x=>iJ s x
 |.pick c x y=>match iJ s c with
  |some (.v (.c (.d (.v (.bool b)))))=>iJ s (bif b then x else y)
  |_=>none
 |.nilCheck x=>match iJ s x with
  |some v=>bif uB v then some v else none
  |none=>none
 |.fieldAddr t x i=>match look T t with
  |none=>none
  |some ti=>match ti.fs[i]? with
   |none=>none
   |some (off,sz)=>bif Nat.beq sz 0 then none else (match iJ s x with
    |some (.v (.c (.p k r K o)))=>some (.v (.c (.p k r K (o+off))))
    |some (.v (.c (.q row o)))=>some (.v (.c (.q row (o+off))))
    |_=>none)
 |.load t x=>match look T t with
  |none=>none
  |some ti=>match iJ s x with
   |some (.v (.c (.q row j)))=>bif ti.agg then (bif Nat.beq j 0 && Nat.beq row.length ti.size then (match xq row with
     |some xs=>some (.v (.g xs))
     |none=>none) else none) else (match row[j]? with
    |some d=>some (.v (.c (.d d)))
    |none=>none)
   |some (.v (.c (.p k r K j)))=>bif Nat.beq r 0 && Nat.beq K 0 then (match look h k with
    |some (.box _ cs)=>bif ti.agg then (match tM ti.size (cs.drop j) with
      |some xs=>some (.v (.g xs))
      |none=>none) else (match cs[j]? with
     |some c=>some (.v (.c c))
     |none=>none)
    |_=>none) else none
   |_=>none
 |.binOp op _ x y _=>match iJ s x with
  |some (.v (.c (.d (.v (.int k a)))))=>(match iJ s y with
   |some (.v (.c (.d (.v (.int k' b)))))=>bif DB k k' then (match ya op k a b with
    |some c=>some (.v (.c (.d (.v c))))
    |none=>none) else none
   |_=>none)
  |_=>none
 |.unOp .not _ x=>match iJ s x with
  |some (.v (.c (.d (.v (.bool b)))))=>some (.v (.c (.d (.v (.bool !b)))))
  |_=>none
 |.extract x i=>match iJ s x with
  |some (.t gs)=>(match gs[i]? with
   |some g=>some (.v g)
   |none=>none)
  |_=>none
 |.build t parts=>match look T t with
  |none=>none
  |some ti=>bif ti.fs.isEmpty||ti.zero.isEmpty then none else (match qS s parts.toList with
   |none=>none
   |some ps=>bif ps.all (fun y=>y.2.known) then (match mN ti.zero with
    |none=>none
    |some z=>match rl ti.fs z ps with
     |some cs=>some (.v (.g cs))
     |none=>none) else none)
 |_=>none
theorem vO {P:Program} {t:TypeId} {ti:TI} (hT:Bv P t ti) {i off sz:Nat} (hf:ti.fs[i]?=some (off,sz)):∃ fs f,P.underlying t=some (.struct fs)/\fs[i]?=some f/\f.offset=off/\(P.info? f.type).map (·.size)=some sz:=by
 rcases hT.Dx with h|h
 ·rw [h] at hf;cases hf
 ·cases hfs:Program.fieldsOf P t with
  |none=>rw [hfs] at h;cases h
  |some fs=>
   rw [hfs] at h
   simp only [Option.bind_some] at h
   have hu:P.underlying t=some (.struct fs):=by
    unfold Program.fieldsOf at hfs
    split at hfs
    ·rename_i e;injection hfs with hfs;subst hfs;exact e
    ·cases hfs
   have gen:∀ (l:List Field) (r:List (Nat×Nat)) (i:Nat),(l.mapM fun f=>(P.info? f.type).map fun i=>(f.offset,i.size))=some r->r[i]?=some (off,sz)->∃ f,l[i]?=some f/\f.offset=off/\(P.info? f.type).map (·.size)=some sz:=by
    intro l
    induction l with
    |nil=>intro r i h1 h2;simp at h1;subst h1;simp at h2
    |cons f l ih=>
     intro r i h1 h2
     simp only [List.mapM_cons] at h1
     cases hi:P.info? f.type with
     |none=>rw [hi] at h1;simp at h1
     |some inf=>
      rw [hi] at h1
      cases hr:(l.mapM fun f=>(P.info? f.type).map fun i=>(f.offset,i.size)) with
      |none=>rw [hr] at h1;simp at h1
      |some r'=>
       rw [hr] at h1
       simp at h1
       subst h1
       cases i with
       |zero=>simp at h2;exact ⟨f,rfl,h2.1,by rw [hi];simp [h2.2]⟩
       |succ i=>simp at h2;obtain ⟨g,h3,h4,h5⟩:=ih r' i hr h2;exact ⟨g,by simpa using h3,h4,h5⟩
   obtain ⟨f,h1,h2,h3⟩:=gen fs.toList ti.fs i h hf
   exact ⟨fs,f,hu,by simpa using h1,h2,h3⟩
theorem vd {P:Program} {T:List (Nat×TI)} (hT:ga P T) {o:Oper} {s:List (Nat×AV)} {h:List (Nat×AB)} {n:Nat} {v:AV} (he:zr T s h o.op=some v):aH P o ⟨s,h,n⟩ v [] []:=by
 unfold zr at he
 split at he
 ·rename_i x ho;exact Dr ho (ej he)
 ·rename_i x ho;exact AN ho (ej he)
 ·rename_i c x y ho
  split at he
  ·rename_i b hb;exact Dp ho (ej hb) (by cases b<;>exact ej he)
  ·cases he
 ·rename_i x ho
  split at he
  ·rename_i v' hv
   cases hn:uB v' with
   |true=>rw [hn] at he;injection he with he;subst he;exact xK ho (ej hv) hn
   |false=>rw [hn] at he;cases he
  ·cases he
 ·rename_i t x i ho
  split at he
  ·cases he
  rename_i ti ht
  split at he
  ·cases he
  rename_i off sz hf
  cases hz:Nat.beq sz 0 with
  |true=>rw [hz] at he;cases he
  |false=>
   rw [hz] at he
   simp only [cond_false] at he
   obtain ⟨fs,f,h1,h2,h3,h4⟩:=vO (hT.get ht) hf
   have hne:sz≠0:=fun e=>by subst e;cases hz
   split at he
   ·rename_i k r K o' hx;injection he with he;subst he h3;exact AJ ho (ej hx) h1 h2 h4 hne
   ·rename_i row o' hx;injection he with he;subst he h3;exact AH ho (ej hx) h1 h2 h4 hne
   ·cases he
 ·rename_i t x ho
  split at he
  ·cases he
  rename_i ti ht
  obtain ⟨d,hu,hd⟩:=(hT.get ht).Fj
  split at he
  ·rename_i row j hx
   cases ha:ti.agg with
   |true=>
    rw [ha] at he
    simp only [cond_true] at he
    cases hc:(Nat.beq j 0 && Nat.beq row.length ti.size) with
    |false=>rw [hc] at he;cases he
    |true=>
     rw [hc] at he
     simp only [cond_true] at he
     rw [Bool.and_eq_true] at hc
     have hj:=Nat.eq_of_beq_eq_true hc.1
     subst hj
     split at he
     ·rename_i xs hxs;injection he with he;subst he
      exact AE ho (ej hx) hu (hd.trans ha) (hT.get ht).size (Nat.eq_of_beq_eq_true hc.2) (wj hxs)
     ·cases he
   |false=>
    rw [ha] at he
    simp only [cond_false] at he
    split at he
    ·rename_i c hc;injection he with he;subst he;exact Cp ho (ej hx) hu (hd.trans ha) hc
    ·cases he
  ·rename_i k r K j hx
   cases hc:(Nat.beq r 0 && Nat.beq K 0) with
   |false=>rw [hc] at he;cases he
   |true=>
    rw [hc] at he
    simp only [cond_true] at he
    rw [Bool.and_eq_true] at hc
    have hr:=Nat.eq_of_beq_eq_true hc.1
    have hK:=Nat.eq_of_beq_eq_true hc.2
    subst hr hK
    split at he
    ·rename_i bt cs hb
     cases ha:ti.agg with
     |true=>
      rw [ha] at he
      simp only [cond_true] at he
      split at he
      ·rename_i xs hxs;injection he with he;subst he
       obtain ⟨h1,h2⟩:=ua hxs
       exact AF ho (ej hx) hb hu (hd.trans ha) (hT.get ht).size h1 h2
      ·cases he
     |false=>
      rw [ha] at he
      simp only [cond_false] at he
      split at he
      ·rename_i c hc';injection he with he;subst he;exact Cq ho (ej hx) hb hu (hd.trans ha) hc'
      ·cases he
    ·cases he
  ·cases he
 ·rename_i op xt x y yt ho
  split at he
  ·rename_i k a hx
   split at he
   ·rename_i k' b hy
    cases hk:DB k k' with
    |false=>rw [hk] at he;cases he
    |true=>
     rw [hk] at he
     have:=DA hk
     subst this
     simp only [cond_true] at he
     split at he
     ·rename_i c hc;injection he with he;subst he;exact aJ ho (ej hx) (ej hy) hc
     ·cases he
   ·cases he
  ·cases he
 ·rename_i t x ho
  split at he
  ·rename_i b hb;injection he with he;subst he;exact Dq ho (ej hb)
  ·cases he
 ·rename_i x i ho
  split at he
  ·rename_i gs hx
   split at he
   ·rename_i g hg;injection he with he;subst he;exact zp ho (ej hx) hg
   ·cases he
  ·cases he
 ·rename_i t parts ho
  split at he
  ·cases he
  rename_i ti ht
  cases hc:(ti.fs.isEmpty||ti.zero.isEmpty) with
  |true=>rw [hc] at he;cases he
  |false=>
   rw [hc] at he
   simp only [cond_false] at he
   rw [Bool.or_eq_false_iff] at hc
   split at he
   ·cases he
   rename_i ps hps
   cases hk:ps.all (fun y=>y.2.known) with
   |false=>rw [hk] at he;cases he
   |true=>
    rw [hk] at he
    simp only [cond_true] at he
    split at he
    ·cases he
    rename_i z hz
    split at he
    ·rename_i cs hcs;injection he with he;subst he
     have h1:ti.fs≠[]:=fun e=>by rw [e] at hc;simp at hc
     have h2:ti.zero≠[]:=fun e=>by rw [e] at hc;simp at hc
     have h3:=(hT.get ht).Dx.resolve_left h1
     have h4:=(hT.get ht).zero.resolve_left h2
     exact wM ho ⟨h4.1,h3⟩ h4.2 (sO hps) hk (by rw [kX hz];exact vc hcs)
    ·cases he
 ·cases he
def CW (T:List (Nat×TI)) (N:Nat) (o:Oper) (s:List (Nat×AV)) (h:List (Nat×AB)) (n:Nat):Option (List (Nat×AV)×List (Nat×AB)×Nat):=
 match o.op with
 |.alloc t=>match look T t with
  |none=>none
  |some ti=>match o.dst with
   |none=>none
   |some d=>bif ti.zero.isEmpty||!Nat.blt d N then none else (match mN ti.zero with
    |some cs=>some ((d,.v (.c (.p n 0 0 0)))::s,(n,.box t cs)::h,n+1)
    |none=>none)
 |.box t x=>match o.dst with
  |none=>none
  |some d=>bif Nat.blt d N then (match iJ s x with
   |some (.v (.c c))=>bif c.known then some ((d,.v (.c (.p n 0 0 0)))::s,(n,.box t [c])::h,n+1) else none
   |some (.v (.g cs))=>some ((d,.v (.c (.p n 0 0 0)))::s,(n,.box t cs)::h,n+1)
   |_=>none) else none
 |.store t x y=>match look T t with
  |none=>none
  |some ti=>match o.dst with
   |some _=>none
   |none=>match iJ s x with
    |some (.v (.c (.p k r K j)))=>bif Nat.beq r 0 && Nat.beq K 0 && Nat.blt k n then (match iJ s y with
     |some (.v gv)=>bif (ek gv).all CV.known && Nat.beq (ek gv).length ti.size then (match look h k with
      |some (.box bt cs)=>(match jK cs j (ek gv) with
       |some cs'=>(match kY h k (.box bt cs') with
        |some h'=>some (s,h',n)
        |none=>none)
       |none=>none)
      |_=>none) else none
     |_=>none) else none
    |_=>none
 |op=>match zr T s h op with
  |none=>none
  |some v=>match o.dst with
   |none=>none
   |some d=>bif Nat.blt d N then some ((d,v)::s,h,n) else none
def uo (ops:Array Oper) (T:List (Nat×TI)) (N:Nat) (o:Oper) (s:List (Nat×AV)) (h:List (Nat×AB)) (n:Nat):Option (List (Nat×AV)×List (Nat×AB)×Nat):=
 match oE ops s o with
 |some false=>(match o.dst with
  |some d=>bif Nat.blt d N then some ((d,.t [])::s,h,n) else none
  |none=>none)
 |some true=>CW T N o s h n
 |none=>none
def um (ops:Array Oper) (T:List (Nat×TI)) (N:Nat):Nat->List Oper->List (Nat×AV)->List (Nat×AB)->Nat->Option (List Oper×List (Nat×AV)×List (Nat×AB)×Nat)
 |0,l,s,h,n=>some (l,s,h,n)
 |_+1,[],s,h,n=>some ([],s,h,n)
 |k+1,o::l,s,h,n=>match uo ops T N o s h n with
  |some (s',h',n')=>um ops T N k l s' h' n'
  |none=>none
section
variable {P:Program} {W0:World} {F:Nat->Prop} {N:NT} {T0:Nat->Prop} {pin:List (Nat×bM)} {ops:Array Oper} {Q:Exit->aF->Prop}
theorem CG {T:List (Nat×TI)} (hT:ga P T) {o:Oper} {l:List Oper} {s s':List (Nat×AV)} {h h':List (Nat×AB)} {n n':Nat} (hr:Dev.uo ops T N.1 o s h n=some (s',h',n')) (k:AL P W0 F N T0 pin ops Q l ⟨s',h',n'⟩):AL P W0 F N T0 pin ops Q (o::l) ⟨s,h,n⟩:=by
 unfold Dev.uo at hr
 split at hr
 ·rename_i hg
  split at hr
  ·rename_i d hd
   cases hN:Nat.blt d N.1 with
   |false=>rw [hN] at hr;cases hr
   |true=>
    rw [hN] at hr
    simp only [cond_true] at hr
    injection hr with hr;injection hr with h1 h2;injection h2 with h2 h3
    subst h1 h2 h3
    exact Fh ((hY hg).2 rfl) hd hN k
  ·cases hr
 ·rename_i hg
  have hw:ah ops o ⟨s,h,n⟩:=(hY hg).1 rfl
  unfold CW at hr
  split at hr
  ·rename_i t ho
   split at hr
   ·cases hr
   rename_i ti ht
   split at hr
   ·cases hr
   rename_i d hd
   cases hc:(ti.zero.isEmpty||!Nat.blt d N.1) with
   |true=>rw [hc] at hr;cases hr
   |false=>
    rw [hc] at hr
    simp only [cond_false] at hr
    rw [Bool.or_eq_false_iff] at hc
    split at hr
    ·rename_i cs hcs
     injection hr with hr;injection hr with h1 h2;injection h2 with h2 h3
     subst h1 h2 h3
     have h2:ti.zero≠[]:=fun e=>by rw [e] at hc;simp at hc
     have h4:=(hT.get ht).zero.resolve_left h2
     cases hz:(P.info? t).bind (·.zero) with
     |none=>rw [hz] at h4;exact absurd h4.1 (by simp)
     |some z=>
      rw [hz] at h4
      refine vE hw (sa n ho hz (Option.some.inj h4.1) h4.2 (kX hcs)) hd (by simpa using hc.2) rfl k
    ·cases hr
  ·rename_i t x ho
   split at hr
   ·cases hr
   rename_i d hd
   cases hN:Nat.blt d N.1 with
   |false=>rw [hN] at hr;cases hr
   |true=>
    rw [hN] at hr
    simp only [cond_true] at hr
    split at hr
    ·rename_i c hx
     cases hk:c.known with
     |false=>rw [hk] at hr;cases hr
     |true=>
      rw [hk] at hr
      simp only [cond_true] at hr
      injection hr with hr;injection hr with h1 h2;injection h2 with h2 h3
      subst h1 h2 h3
      exact vE hw (uZ n ho (ej hx) hk) hd hN rfl k
    ·rename_i cs hx
     injection hr with hr;injection hr with h1 h2;injection h2 with h2 h3
     subst h1 h2 h3
     exact vE hw (uY n ho (ej hx)) hd hN rfl k
    ·cases hr
  ·rename_i t x y ho
   split at hr
   ·cases hr
   rename_i ti ht
   split at hr
   ·cases hr
   rename_i hd
   split at hr
   ·rename_i kk r K j hx
    cases hc:(Nat.beq r 0 && Nat.beq K 0 && Nat.blt kk n) with
    |false=>rw [hc] at hr;cases hr
    |true=>
     rw [hc] at hr
     simp only [cond_true] at hr
     simp only [Bool.and_eq_true] at hc
     obtain ⟨⟨c1,c2⟩,c3⟩:=hc
     have c1:=Nat.eq_of_beq_eq_true c1
     have c2:=Nat.eq_of_beq_eq_true c2
     subst c1 c2
     split at hr
     ·rename_i gv hy
      cases hk:((ek gv).all CV.known && Nat.beq (ek gv).length ti.size) with
      |false=>rw [hk] at hr;cases hr
      |true=>
       rw [hk] at hr
       simp only [cond_true] at hr
       rw [Bool.and_eq_true] at hk
       split at hr
       ·rename_i bt cs hb
        split at hr
        ·rename_i cs' hcs
         split at hr
         ·rename_i h2 hh
          injection hr with hr;injection hr with e1 e2;injection e2 with e2 e3
          subst e1 e2 e3
          obtain ⟨p1,p2⟩:=jJ hcs
          have hl:=Nat.eq_of_beq_eq_true hk.2
          exact zV hw (uU ho (ej hx) (ej hy) hb hk.1 (hT.get ht).size hl (by rw [<-hl];exact p1) (by rw [<-hl];exact p2)) hd hb c3 (my hh) k
         ·cases hr
        ·cases hr
       ·cases hr
     ·cases hr
   ·cases hr
  ·split at hr
   ·cases hr
   rename_i v hv
   split at hr
   ·cases hr
   rename_i d hd
   cases hN:Nat.blt d N.1 with
   |false=>rw [hN] at hr;cases hr
   |true=>
    rw [hN] at hr
    simp only [cond_true] at hr
    injection hr with hr;injection hr with h1 h2;injection h2 with h2 h3
    subst h1 h2 h3
    exact cJ hw (vd hT hv) hd hN k
 ·cases hr
theorem ab {T:List (Nat×TI)} (hT:ga P T):∀ (k:Nat) {l l':List Oper} {s s':List (Nat×AV)} {h h':List (Nat×AB)} {n n':Nat},um ops T N.1 k l s h n=some (l',s',h',n')->AL P W0 F N T0 pin ops Q l' ⟨s',h',n'⟩->AL P W0 F N T0 pin ops Q l ⟨s,h,n⟩
 |0,l,l',s,s',h,h',n,n',hr,k=>by
  have:(l,s,h,n)=(l',s',h',n'):=by cases l<;>exact Option.some.inj hr
  injection this with e1 e2;injection e2 with e2 e3;injection e3 with e3 e4
  subst e1 e2 e3 e4;exact k
 |_+1,[],l',s,s',h,h',n,n',hr,k=>by
  have:(([]:List Oper),s,h,n)=(l',s',h',n'):=Option.some.inj hr
  injection this with e1 e2;injection e2 with e2 e3;injection e3 with e3 e4
  subst e1 e2 e3 e4;exact k
 |f+1,o::l,l',s,s',h,h',n,n',hr,k=>by
  unfold um at hr
  split at hr
  ·rename_i s1 h1 n1 h1'
   exact CG hT h1' (ab hT f hr k)
  ·cases hr
theorem az {T:List (Nat×TI)} (hT:ga P T) {id:Nat} {l:List Oper} {y:Code} (k:Nat) {l':List Oper} {s s':List (Nat×AV)} {h h':List (Nat×AB)} {n n':Nat} (hr:um l.toArray T N.1 k l s h n=some (l',s',h',n'))
  (g:AL P W0 F N T0 pin l.toArray (iy (AC P W0 F N T0 pin Q y) Q) l' ⟨s',h',n'⟩):AC P W0 F N T0 pin Q (.seq (.region id l.toArray false) y) ⟨s,h,n⟩:=
 af (aw (ab hT k hr g))
theorem ad {T:List (Nat×TI)} (hT:ga P T) {id:Nat} {l:List Oper} {y:Code} (k:Nat) {s s':List (Nat×AV)} {h h':List (Nat×AB)} {n n':Nat} (hr:um l.toArray T N.1 k l s h n=some ([],s',h',n'))
  (g:AC P W0 F N T0 pin Q y ⟨s',h',n'⟩):AC P W0 F N T0 pin Q (.seq (.region id l.toArray false) y) ⟨s,h,n⟩:=
 az hT k hr (bX g)
end
end
section

def jZ {α:Type} (s:List (Nat×α)):List Nat->Option (List (Nat×α))
 |[]=>some []
 |t::ts=>match look s t with
  |none=>none
  |some v=>match jZ s ts with
   |some r=>some ((t,v)::r)
   |none=>none
theorem kN {α:Type} {s:List (Nat×α)}:∀ {ts:List Nat} {r:List (Nat×α)},jZ s ts=some r->∀ x∈r,look s x.1=some x.2
 |[],r,h,x,hx=>by cases h;cases hx
 |t::ts,r,h,x,hx=>by
  unfold jZ at h
  split at h
  ·cases h
  rename_i v hv
  split at h
  ·rename_i r' hr;injection h with h;subst h
   rcases List.mem_cons.1 hx with rfl|hx
   ·exact hv
   ·exact kN hr x hx
  ·cases h
theorem kl {α:Type} {s:List (Nat×α)} {ts:List Nat} {r:List (Nat×α)} (h:jZ s ts=some r) {i:Nat} {v:α} (hi:look r i=some v):look s i=some v:=kN h _ (bH hi)
def findD:List bD->Nat->Nat->Option (Nat×AV)
 |[],_,_=>none
 |_,0,_=>none
 |r::l,i+1,t=>match r.dst with
  |some d=>bif Nat.beq d t then some (i,r.v) else findD l i t
  |none=>findD l i t
def nt:List bD->Nat->Nat->Option (Nat×AB)
 |[],_,_=>none
 |_,0,_=>none
 |r::l,i+1,k=>match look r.nb k with
  |some b=>some (i,b)
  |none=>nt l i k
theorem qk:∀ {l:List bD} {i t:Nat} {j:Nat} {v:AV},l.length=i->findD l i t=some (j,v)->∃ q,l.reverse[j]?=some q/\q.dst=some t/\q.v=v
 |[],i,t,j,v,hl,h=>by cases h
 |r::l,0,t,j,v,hl,h=>by cases hl
 |r::l,i+1,t,j,v,hl,h=>by
  have hl:l.length=i:=by simpa using hl
  have rest:findD l i t=some (j,v)->∃ q,(r::l).reverse[j]?=some q/\q.dst=some t/\q.v=v:=fun h=>by
   obtain ⟨q,h1,h2⟩:=qk hl h
   exact ⟨q,by rw [List.reverse_cons,List.getElem?_append_left (List.getElem?_eq_some_iff.1 h1).1];exact h1,h2⟩
  unfold findD at h
  split at h
  ·rename_i d hd
   cases hb:Nat.beq d t with
   |true=>
    rw [hb] at h
    simp only [cond_true,Option.some.injEq,Prod.mk.injEq] at h
    obtain ⟨rfl,rfl⟩:=h
    exact ⟨r,by rw [List.reverse_cons,List.getElem?_append_right (by simp [hl])];simp [hl],by rw [hd,Nat.eq_of_beq_eq_true hb],rfl⟩
   |false=>rw [hb] at h;exact rest h
  ·exact rest h
theorem ql:∀ {l:List bD} {i k:Nat} {j:Nat} {b:AB},l.length=i->nt l i k=some (j,b)->∃ q,l.reverse[j]?=some q/\(k,b)∈q.nb
 |[],i,t,j,v,hl,h=>by cases h
 |r::l,0,t,j,v,hl,h=>by cases hl
 |r::l,i+1,k,j,b,hl,h=>by
  have hl:l.length=i:=by simpa using hl
  unfold nt at h
  split at h
  ·rename_i b' hb
   simp only [Option.some.injEq,Prod.mk.injEq] at h
   obtain ⟨rfl,rfl⟩:=h
   exact ⟨r,by rw [List.reverse_cons,List.getElem?_append_right (by simp [hl])];simp [hl],bH hb⟩
  ·obtain ⟨q,h1,h2⟩:=ql hl h
   exact ⟨q,by rw [List.reverse_cons,List.getElem?_append_left (List.getElem?_eq_some_iff.1 h1).1];exact h1,h2⟩
def gr (s:List (Nat×AV)) (racc:List bD) (i:Nat):List Nat->List (Nat×AV)×List Nat
 |[]=>([],[])
 |t::ts=>match gr s racc i ts with
  |(sv,pre)=>match findD racc i t with
   |some (j,v)=>((t,v)::sv,j::pre)
   |none=>match look s t with
    |some v=>((t,v)::sv,pre)
    |none=>(sv,pre)
def fU (h:List (Nat×AB)) (racc:List bD) (i:Nat):List Nat->List (Nat×AB)×List Nat
 |[]=>([],[])
 |k::ks=>match fU h racc i ks with
  |(hv,pre)=>match nt racc i k with
   |some (j,b)=>((k,b)::hv,j::pre)
   |none=>match look h k with
    |some b=>((k,b)::hv,pre)
    |none=>(hv,pre)
def Bw (s:List (Nat×AV)) (aM:List bD) (pre:List Nat) (x:Nat×AV):Prop:=look s x.1=some x.2\/∃ j,j∈pre/\∃ q,aM[j]?=some q/\q.dst=some x.1/\q.v=x.2
def Bx (h:List (Nat×AB)) (aM:List bD) (pre:List Nat) (x:Nat×AB):Prop:=look h x.1=some x.2\/∃ j,j∈pre/\∃ q,aM[j]?=some q/\x∈q.nb
theorem pQ {s:List (Nat×AV)} {racc:List bD} {i:Nat} (hl:racc.length=i):∀ {ts:List Nat} {sv:List (Nat×AV)} {pre:List Nat},gr s racc i ts=(sv,pre)->∀ x∈sv,Bw s racc.reverse pre x
 |[],sv,pre,h,x,hx=>by cases h;cases hx
 |t::ts,sv,pre,h,x,hx=>by
  unfold gr at h
  cases hv:gr s racc i ts with
  |mk sv0 pre0=>
   rw [hv] at h
   have ih:=pQ hl hv
   dsimp only at h
   split at h
   ·rename_i j v hf
    injection h with h1 h2;subst h1 h2
    rcases List.mem_cons.1 hx with rfl|hx
    ·obtain ⟨q,h1,h2,h3⟩:=qk hl hf
     exact .inr ⟨j,List.mem_cons_self,q,h1,h2,h3⟩
    ·rcases ih x hx with h|⟨j',h1,h2⟩
     ·exact .inl h
     ·exact .inr ⟨j',List.mem_cons_of_mem _ h1,h2⟩
   ·split at h
    ·rename_i v hf
     injection h with h1 h2;subst h1 h2
     rcases List.mem_cons.1 hx with rfl|hx
     ·exact .inl hf
     ·exact ih x hx
    ·injection h with h1 h2;subst h1 h2;exact ih x hx
theorem pR {s:List (Nat×AB)} {racc:List bD} {i:Nat} (hl:racc.length=i):∀ {ts:List Nat} {sv:List (Nat×AB)} {pre:List Nat},fU s racc i ts=(sv,pre)->∀ x∈sv,Bx s racc.reverse pre x
 |[],sv,pre,h,x,hx=>by cases h;cases hx
 |t::ts,sv,pre,h,x,hx=>by
  unfold fU at h
  cases hv:fU s racc i ts with
  |mk sv0 pre0=>
   rw [hv] at h
   have ih:=pR hl hv
   dsimp only at h
   split at h
   ·rename_i j v hf
    injection h with h1 h2;subst h1 h2
    rcases List.mem_cons.1 hx with rfl|hx
    ·obtain ⟨q,h1,h2⟩:=ql hl hf
     exact .inr ⟨j,List.mem_cons_self,q,h1,h2⟩
    ·rcases ih x hx with h|⟨j',h1,h2⟩
     ·exact .inl h
     ·exact .inr ⟨j',List.mem_cons_of_mem _ h1,h2⟩
   ·split at h
    ·rename_i v hf
     injection h with h1 h2;subst h1 h2
     rcases List.mem_cons.1 hx with rfl|hx
     ·exact .inl hf
     ·exact ih x hx
    ·injection h with h1 h2;subst h1 h2;exact ih x hx
def Seen (st:aF) (aM:List bD) (r:bD):Prop:=(∀ x∈r.s,Bw st.s aM r.pre x)/\∀ x∈r.h,Bx st.h aM r.pre x
theorem Seen.more {st:aF} {aM more:List bD} {r:bD} (h:Seen st aM r):Seen st (aM++more) r:=by
 have g:∀ {j:Nat} {q:bD},aM[j]?=some q->(aM++more)[j]?=some q:=fun hj=>by rw [List.getElem?_append_left (List.getElem?_eq_some_iff.1 hj).1];exact hj
 refine ⟨fun x hx=>?_,fun x hx=>?_⟩
 ·rcases h.1 x hx with h1|⟨j,h1,q,h2,h3⟩
  ·exact .inl h1
  ·exact .inr ⟨j,h1,q,g h2,h3⟩
 ·rcases h.2 x hx with h1|⟨j,h1,q,h2,h3⟩
  ·exact .inl h1
  ·exact .inr ⟨j,h1,q,g h2,h3⟩
theorem wi {st:aF} {aM:List bD}:∀ {rs:List bD},(∀ r∈rs,Seen st aM r)->kv st aM rs
 |[],_=>trivial
 |r::rs,h=>⟨⟨eT (h r List.mem_cons_self).1,eT (h r List.mem_cons_self).2⟩,wi fun q hq=>h q (List.mem_cons_of_mem _ hq)⟩
def PD (P:Program) (ops:Array Oper) (st:aF) (K:List bD->Prop) (i:Nat) (racc:List bD) (n:Nat) (l:List Oper):Prop:=
 racc.length=i->(∀ r∈racc,Seen st racc.reverse r)->∃ rows,iT P ops rows l/\(∀ r∈racc.reverse++rows,Seen st (racc.reverse++rows) r)/\K (racc.reverse++rows)
section
variable {P:Program} {ops:Array Oper} {st:aF} {K:List bD->Prop} {i n:Nat} {racc:List bD} {l:List Oper}
theorem zS {o:Oper} {r:bD} {n':Nat} (hr:lT P ops r o) (hs:racc.length=i->Seen st racc.reverse r) (h:PD P ops st K (i+1) (r::racc) n' l):PD P ops st K i racc n (o::l):=fun hl hsee=>by
 obtain ⟨rows,h1,h2,h3⟩:=h (by rw [List.length_cons,hl]) (fun q hq=>by
  rw [List.reverse_cons]
  rcases List.mem_cons.1 hq with rfl|hq
  ·exact (hs hl).more
  ·exact (hsee q hq).more)
 rw [List.reverse_cons,List.append_assoc] at h2 h3
 exact ⟨r::rows,⟨hr,h1⟩,h2,h3⟩
theorem aS {o:Oper} {v:AV} {nb:List (Nat×AB)} {E pre pre':List Nat} {sv:List (Nat×AV)} {hv:List (Nat×AB)} {n':Nat} (ts ks:List Nat) (hs:gr st.s racc i ts=(sv,pre)) (hh:fU st.h racc i ks=(hv,pre'))
  (hr:lT P ops ⟨o.dst,v,nb,E,pre++pre',sv,hv⟩ o) (hn:ic nb n=n') (h:PD P ops st K (i+1) (⟨o.dst,v,nb,E,pre++pre',sv,hv⟩::racc) n' l):PD P ops st K i racc n (o::l):=
 zS hr (fun hl=>⟨fun x hx=>by
  rcases pQ hl hs x hx with h1|⟨j,h1,h2⟩
  ·exact .inl h1
  ·exact .inr ⟨j,List.mem_append_left _ h1,h2⟩,fun x hx=>by
  rcases pR hl hh x hx with h1|⟨j,h1,h2⟩
  ·exact .inl h1
  ·exact .inr ⟨j,List.mem_append_right _ h1,h2⟩⟩) h
end
def jf:Operand->List Nat->List Nat
 |.tmp t,l=>t::l
 |_,l=>l
def Fm:List (Nat×Operand)->List Nat
 |[]=>[]
 |(_,x)::l=>jf x (Fm l)
def Ao:Op->List Nat
 |.move x=>jf x []
 |.assign x=>jf x []
 |.pick c x y=>jf c (jf x (jf y []))
 |.nilCheck x=>jf x []
 |.fieldAddr _ x _=>jf x []
 |.load _ x=>jf x []
 |.binOp _ _ x y _=>jf x (jf y [])
 |.unOp _ _ x=>jf x []
 |.extract x _=>jf x []
 |.build _ ps=>Fm ps.toList
 |.box _ x=>jf x []
 |_=>[]
def CX (ops:Array Oper) (o:Oper):List Nat:=
 match o.guard with
 |none=>Ao o.op
 |some (j,_)=>match (ops[j]?).bind (·.dst) with
  |some t=>t::Ao o.op
  |none=>Ao o.op
def rC (s:List (Nat×AV)):Op->List Nat
 |.load _ x=>match iJ s x with
  |some (.v (.c (.p k _ _ _)))=>[k]
  |_=>[]
 |_=>[]
def nw (kn:List (Nat×Bool)) (d:Nat) (v:AV):AV×List (Bool×Bool):=
 match look kn d with
 |none=>(v,[])
 |some c=>match v with
  |.v (.c (.d (.v (.bool b))))=>(.v (.c (.d (.v (.bool c)))),[(b,c)])
  |v=>(v,[])
theorem wR {kn:List (Nat×Bool)} {d:Nat} {v v':AV} {ob:List (Bool×Bool)} (h:nw kn d v=(v',ob)) (ho:∀ x∈ob,x.1=x.2):v=v':=by
 unfold nw at h
 split at h
 ·exact (Prod.mk.inj h).1
 ·split at h
  ·rename_i c _ _ b
   obtain ⟨h1,h2⟩:=Prod.mk.inj h
   have:=ho (b,c) (by rw [<-h2];exact List.mem_singleton_self _)
   dsimp only at this
   rw [<-h1,this]
  ·exact (Prod.mk.inj h).1
def ur (ops:Array Oper) (T:List (Nat×TI)) (st:aF) (kn:List (Nat×Bool)) (i:Nat) (racc:List bD) (n:Nat) (o:Oper):Option (bD×Nat×List (Bool×Bool)):=
 match o.dst with
 |none=>none
 |some d=>match gr st.s racc i (CX ops o) with
  |(sv,pre)=>match oE ops sv o with
   |none=>none
   |some false=>some (⟨some d,.t [],[],[],pre,sv,[]⟩,n,[])
   |some true=>match o.op with
    |.alloc t=>(match look T t with
     |none=>none
     |some ti=>bif ti.zero.isEmpty then none else (match mN ti.zero with
      |some cs=>some (⟨some d,.v (.c (.p n 0 0 0)),[(n,.box t cs)],[],pre,sv,[]⟩,n+1,[])
      |none=>none))
    |.box t x=>(match iJ sv x with
     |some (.v (.c c))=>bif c.known then some (⟨some d,.v (.c (.p n 0 0 0)),[(n,.box t [c])],[],pre,sv,[]⟩,n+1,[]) else none
     |some (.v (.g cs))=>some (⟨some d,.v (.c (.p n 0 0 0)),[(n,.box t cs)],[],pre,sv,[]⟩,n+1,[])
     |_=>none)
    |op=>match fU st.h racc i (rC sv op) with
     |(hv,pre')=>match zr T sv hv op with
      |none=>none
      |some v=>match nw kn d v with
       |(v',ob)=>some (⟨some d,v',[],[],pre++pre',sv,hv⟩,n,ob)
def Ag (ops:Array Oper) (T:List (Nat×TI)) (st:aF) (kn:List (Nat×Bool)):Nat->Nat->List bD->Nat->List Oper->Option (Nat×List bD×Nat×List Oper×List (Bool×Bool))
 |0,i,racc,n,l=>some (i,racc,n,l,[])
 |_+1,i,racc,n,[]=>some (i,racc,n,[],[])
 |k+1,i,racc,n,o::l=>match ur ops T st kn i racc n o with
  |none=>none
  |some (r,n',ob)=>match Ag ops T st kn k (i+1) (r::racc) n' l with
   |none=>none
   |some (i2,racc2,n2,l2,ob2)=>match ob with
    |[]=>some (i2,racc2,n2,l2,ob2)
    |x::_=>some (i2,racc2,n2,l2,x::ob2)
section
variable {P:Program} {ops:Array Oper} {st:aF} {K:List bD->Prop} {T:List (Nat×TI)} {kn:List (Nat×Bool)}
theorem Cd (hT:ga P T) {i n n':Nat} {racc:List bD} {o:Oper} {r:bD} {ob:List (Bool×Bool)} (h:ur ops T st kn i racc n o=some (r,n',ob)) (hob:∀ x∈ob,x.1=x.2):lT P ops r o/\(racc.length=i->Seen st racc.reverse r):=by
 unfold ur at h
 split at h
 ·cases h
 rename_i d hd
 cases hv:gr st.s racc i (CX ops o) with
 |mk sv pre=>
  rw [hv] at h
  dsimp only at h
  have hsee:racc.length=i->∀ x∈sv,Bw st.s racc.reverse pre x:=fun hl=>pQ hl hv
  have none_:∀ x∈([]:List (Nat×AB)),Bx st.h racc.reverse pre x:=fun x hx=>by cases hx
  split at h
  ·cases h
  ·rename_i hg
   simp only [Option.some.injEq,Prod.mk.injEq] at h
   obtain ⟨rfl,_,_⟩:=h
   exact ⟨.inr ⟨(hY (s:=sv) (h:=[]) (n:=0) hg).2 rfl,rfl,rfl,rfl⟩,fun hl=>⟨hsee hl,none_⟩⟩
  ·rename_i hg
   have hw:∀ hh,ah ops o ⟨sv,hh,0⟩:=fun hh=>(hY hg).1 rfl
   split at h
   ·rename_i t ho
    split at h
    ·cases h
    rename_i ti ht
    cases hz:ti.zero.isEmpty with
    |true=>rw [hz] at h;cases h
    |false=>
     rw [hz] at h
     simp only [cond_false] at h
     split at h
     ·rename_i cs hcs
      simp only [Option.some.injEq,Prod.mk.injEq] at h
      obtain ⟨rfl,_,_⟩:=h
      have h2:ti.zero≠[]:=fun e=>by rw [e] at hz;simp at hz
      have h4:=(hT.get ht).zero.resolve_left h2
      cases hz2:(P.info? t).bind (·.zero) with
      |none=>rw [hz2] at h4;exact absurd h4.1 (by simp)
      |some z=>
       rw [hz2] at h4
       exact ⟨.inl ⟨hw _,sa n ho hz2 (Option.some.inj h4.1) h4.2 (kX hcs)⟩,fun hl=>⟨hsee hl,none_⟩⟩
     ·cases h
   ·rename_i t x ho
    split at h
    ·rename_i c hx
     cases hk:c.known with
     |false=>rw [hk] at h;cases h
     |true=>
      rw [hk] at h
      simp only [cond_true,Option.some.injEq,Prod.mk.injEq] at h
      obtain ⟨rfl,_,_⟩:=h
      exact ⟨.inl ⟨hw _,uZ n ho (ej hx) hk⟩,fun hl=>⟨hsee hl,none_⟩⟩
    ·rename_i cs hx
     simp only [Option.some.injEq,Prod.mk.injEq] at h
     obtain ⟨rfl,_,_⟩:=h
     exact ⟨.inl ⟨hw _,uY n ho (ej hx)⟩,fun hl=>⟨hsee hl,none_⟩⟩
    ·cases h
   ·cases hvh:fU st.h racc i (rC sv o.op) with
    |mk hv pre'=>
     rw [hvh] at h
     dsimp only at h
     split at h
     ·cases h
     rename_i v he
     cases hdv:nw kn d v with
     |mk v' ob'=>
      rw [hdv] at h
      simp only [Option.some.injEq,Prod.mk.injEq] at h
      obtain ⟨rfl,_,rfl⟩:=h
      have:=wR hdv hob
      subst this
      refine ⟨.inl ⟨hw _,vd hT he⟩,fun hl=>⟨fun x hx=>?_,fun x hx=>?_⟩⟩
      ·rcases hsee hl x hx with h1|⟨j,h1,h2⟩
       ·exact .inl h1
       ·exact .inr ⟨j,List.mem_append_left _ h1,h2⟩
      ·rcases pR hl hvh x hx with h1|⟨j,h1,h2⟩
       ·exact .inl h1
       ·exact .inr ⟨j,List.mem_append_right _ h1,h2⟩
theorem vh {kn:List (Nat×Bool)} {d:Nat} {v v':AV} {ob:List (Bool×Bool)} (h:nw kn d v=(v',ob)):ob.length<=1:=by
 unfold nw at h
 split at h
 ·rw [<-(Prod.mk.inj h).2];exact Nat.zero_le _
 ·split at h
  ·rw [<-(Prod.mk.inj h).2];exact Nat.le_refl _
  ·rw [<-(Prod.mk.inj h).2];exact Nat.zero_le _
theorem Ak {i n n':Nat} {racc:List bD} {o:Oper} {r:bD} {ob:List (Bool×Bool)} (h:ur ops T st kn i racc n o=some (r,n',ob)):ob.length<=1:=by
 unfold ur at h
 split at h
 ·cases h
 rename_i d hd
 dsimp only at h
 split at h
 ·cases h
 ·simp only [Option.some.injEq,Prod.mk.injEq] at h;rw [<-h.2.2];exact Nat.zero_le _
 ·split at h
  ·split at h
   ·cases h
   rename_i ti _
   cases hz:ti.zero.isEmpty with
   |true=>rw [hz] at h;cases h
   |false=>
    rw [hz] at h
    simp only [cond_false] at h
    split at h
    ·simp only [Option.some.injEq,Prod.mk.injEq] at h;rw [<-h.2.2];exact Nat.zero_le _
    ·cases h
  ·split at h
   ·rename_i c _
    cases hk:c.known with
    |false=>rw [hk] at h;cases h
    |true=>rw [hk] at h;simp only [cond_true,Option.some.injEq,Prod.mk.injEq] at h;rw [<-h.2.2];exact Nat.zero_le _
   ·simp only [Option.some.injEq,Prod.mk.injEq] at h;rw [<-h.2.2];exact Nat.zero_le _
   ·cases h
  ·split at h
   ·cases h
   ·rename_i v _
    cases hdv:nw kn d v with
    |mk v' ob'=>
     rw [hdv] at h
     simp only [Option.some.injEq,Prod.mk.injEq] at h
     rw [<-h.2.2];exact vh hdv
theorem aA (hT:ga P T):∀ (k:Nat) {i i' n n':Nat} {racc racc':List bD} {l l':List Oper} {ob:List (Bool×Bool)},Ag ops T st kn k i racc n l=some (i',racc',n',l',ob)->df (fun x=>x.1=x.2) ob->PD P ops st K i' racc' n' l'->PD P ops st K i racc n l
 |0,i,i',n,n',racc,racc',l,l',ob,h,_,k=>by
  have:some (i,racc,n,l,([]:List (Bool×Bool)))=some (i',racc',n',l',ob):=by rw [<-h];cases l<;>rfl
  simp only [Option.some.injEq,Prod.mk.injEq] at this
  obtain ⟨rfl,rfl,rfl,rfl,_⟩:=this
  exact k
 |_+1,i,i',n,n',racc,racc',[],l',ob,h,_,k=>by
  have:some (i,racc,n,([]:List Oper),([]:List (Bool×Bool)))=some (i',racc',n',l',ob):=by rw [<-h];rfl
  simp only [Option.some.injEq,Prod.mk.injEq] at this
  obtain ⟨rfl,rfl,rfl,rfl,_⟩:=this
  exact k
 |f+1,i,i',n,n',racc,racc',o::l,l',ob,h,hob,k=>by
  unfold Ag at h
  split at h
  ·cases h
  rename_i r n1 ob1 hr
  split at h
  ·cases h
  rename_i i2 racc2 n2 l2 ob2 h2
  have hone:=Ak hr
  have key:i2=i'/\racc2=racc'/\n2=n'/\l2=l'/\(∀ x∈ob1,x∈ob)/\∀ x∈ob2,x∈ob:=by
   split at h
   ·simp only [Option.some.injEq,Prod.mk.injEq] at h
    obtain ⟨h1,h2,h3,h4,rfl⟩:=h
    exact ⟨h1,h2,h3,h4,(fun x hx=>by cases hx),fun x hx=>hx⟩
   ·rename_i y ys
    simp only [Option.some.injEq,Prod.mk.injEq] at h
    obtain ⟨h1,h2,h3,h4,rfl⟩:=h
    have hys:ys=[]:=by simpa using hone
    subst hys
    exact ⟨h1,h2,h3,h4,fun x hx=>by rw [List.mem_singleton.1 hx];exact List.mem_cons_self,fun x hx=>List.mem_cons_of_mem _ hx⟩
  obtain ⟨rfl,rfl,rfl,rfl,k1,k2⟩:=key
  have hob:=hob.mem
  obtain ⟨h3,h4⟩:=Cd hT hr fun x hx=>hob x (k1 x hx)
  exact zS h3 h4 (aA hT f h2 (eT fun x hx=>hob x (k2 x hx)) k)
end
def xN:List bD->List (Nat×AV)->Option (List (Nat×AV))
 |[],s=>some s
 |r::l,s=>match xN l s with
  |none=>none
  |some s'=>match r.dst with
   |some d=>some ((d,r.v)::s')
   |none=>some s'
def xO:List bD->List (Nat×AB)->Option (List (Nat×AB))
 |[],h=>some h
 |r::l,h=>match xO l h with
  |none=>none
  |some h'=>some (r.nb++h')
theorem va:∀ {l:List bD} {s s':List (Nat×AV)},xN l s=some s'->∀ x∈s',x∈s\/∃ r∈l,r.dst=some x.1/\r.v=x.2
 |[],s,s',h,x,hx=>by cases h;exact .inl hx
 |r::l,s,s',h,x,hx=>by
  unfold xN at h
  split at h
  ·cases h
  rename_i s1 h1
  have ih:=va h1
  split at h
  ·rename_i d hd
   injection h with h;subst h
   rcases List.mem_cons.1 hx with rfl|hx
   ·exact .inr ⟨r,List.mem_cons_self,hd,rfl⟩
   ·rcases ih x hx with h2|⟨q,h2,h3⟩
    ·exact .inl h2
    ·exact .inr ⟨q,List.mem_cons_of_mem _ h2,h3⟩
  ·injection h with h;subst h
   rcases ih x hx with h2|⟨q,h2,h3⟩
   ·exact .inl h2
   ·exact .inr ⟨q,List.mem_cons_of_mem _ h2,h3⟩
theorem vb:∀ {l:List bD} {s s':List (Nat×AB)},xO l s=some s'->∀ x∈s',x∈s\/∃ r∈l,x∈r.nb
 |[],s,s',h,x,hx=>by cases h;exact .inl hx
 |r::l,s,s',h,x,hx=>by
  unfold xO at h
  split at h
  ·cases h
  rename_i s1 h1
  have ih:=vb h1
  injection h with h;subst h
  rcases List.mem_append.1 hx with hx|hx
  ·exact .inr ⟨r,List.mem_cons_self,hx⟩
  ·rcases ih x hx with h2|⟨q,h2,h3⟩
   ·exact .inl h2
   ·exact .inr ⟨q,List.mem_cons_of_mem _ h2,h3⟩
section
variable {P:Program} {W0:World} {F:Nat->Prop} {N:NT} {T0:Nat->Prop} {pin:List (Nat×bM)} {Q:Exit->aF->Prop}
def BX (P:Program) (W0:World) (F:Nat->Prop) (N:NT) (T0:Nat->Prop) (pin:List (Nat×bM)) (Q:Exit->aF->Prop) (l:List Oper) (st:aF) (aM:List bD):Prop:=
 (∀ x∈st.s,look st.s x.1=some x.2)->(∀ x∈st.h,look st.h x.1=some x.2)->∃ fin,pe l.toArray aM N.1 st fin=true/\tU st aM fin/\AL P W0 F N T0 pin l.toArray Q (l.drop aM.length) fin
theorem sU {α:Type}:∀ {l:List (Nat×α)} {x:Nat×α},x∈l->∃ v,look l x.1=some v
 |y::l,x,h=>by
  obtain ⟨k,v⟩:=y
  rw [bR]
  split
  ·exact ⟨v,rfl⟩
  ·rename_i hne
   rcases List.mem_cons.1 h with rfl|h
   ·exact absurd rfl hne
   ·exact sU h
theorem sN {α:Type} {s:List (Nat×α)} {ts:List Nat} {r:List (Nat×α)} (h:jZ s ts=some r):∀ x∈r,look r x.1=some x.2:=fun x hx=>by
 obtain ⟨v,hv⟩:=sU hx
 have h1:=kl h hv
 rw [kN h x hx] at h1
 rw [hv,h1]
theorem bb {id:Nat} {l:List Oper} {s s0:List (Nat×AV)} {h h0:List (Nat×AB)} {n:Nat} (lv hv:List Nat) (hm:P.follows .mixedOrders=true) (h1:jZ s lv=some s0) (h2:jZ h hv=some h0)
  (k:PD P l.toArray ⟨s0,h0,n⟩ (BX P W0 F N T0 pin Q l ⟨s0,h0,n⟩) 0 [] n l):AC P W0 F N T0 pin Q (.region id l.toArray true) ⟨s,h,n⟩:=by
 refine gP (st':=⟨s0,h0,n⟩) (aD.sub (fun i v hi=>kl h1 hi) (fun i v hi=>kl h2 hi) rfl) ?_
 obtain ⟨rows,h3,h4,h5'⟩:=k rfl (fun r hr=>by cases hr)
 obtain ⟨fin,h5,h6,h7⟩:=h5' (sN h1) (sN h2)
 exact CH rows fin hm h5 h3 (wi h4) h6 h7
theorem bx {l l':List Oper} {s0 fs:List (Nat×AV)} {h0 h1 fh:List (Nat×AB)} {n0 i n:Nat} {racc:List bD} (ev:List Nat) (hs:xN racc s0=some fs) (hh:xO racc h0=some h1) (he:jZ h1 ev=some fh) (hd:l.drop i=l')
  (hB:pe l.toArray racc.reverse N.1 ⟨s0,h0,n0⟩ ⟨fs,fh,n⟩=true) (k:AL P W0 F N T0 pin l.toArray Q l' ⟨fs,fh,n⟩):
  PD P l.toArray ⟨s0,h0,n0⟩ (BX P W0 F N T0 pin Q l ⟨s0,h0,n0⟩) i racc n l':=fun hl hsee=>by
 refine ⟨[],trivial,by rw [List.append_nil];exact fun r hr=>hsee r (List.mem_reverse.1 hr),?_⟩
 rw [List.append_nil]
 have at_:∀ r∈racc,∃ j,racc.reverse[j]?=some r:=fun r hr=>List.getElem?_of_mem (List.mem_reverse.2 hr)
 refine fun hs0 hh0=>⟨⟨fs,fh,n⟩,hB,⟨eT fun x hx=>?_,eT fun x hx=>?_⟩,?_⟩
 ·rcases va hs x hx with h1|⟨r,h1,h2,h3⟩
  ·exact .inl (hs0 x h1)
  ·obtain ⟨j,hj⟩:=at_ r h1
   exact .inr ⟨j,r,hj,h2,h3⟩
 ·rcases vb hh x (bH (kN he x hx)) with h1|⟨r,h1,h2⟩
  ·exact .inl (hh0 x h1)
  ·obtain ⟨j,hj⟩:=at_ r h1
   exact .inr ⟨j,r,hj,h2⟩
 ·rw [List.length_reverse,hl,hd];exact k
end
end
section

def ed:Nat->List Nat
 |0=>[]
 |n+1=>n::ed n
theorem qp:∀ {n q:Nat},q∈ed n->q < n
 |n+1,q,h=>by
  rcases List.mem_cons.1 h with rfl|h
  ·exact Nat.lt_succ_self _
  ·exact Nat.lt_succ_of_lt (qp h)
theorem oG {p q:Nat->Bool}:∀ {l:List Nat},(∀ x∈l,p x=q x)->l.find? p=l.find? q
 |[],_=>rfl
 |x::l,h=>by rw [List.find?_cons,List.find?_cons,h x List.mem_cons_self,oG fun y hy=>h y (List.mem_cons_of_mem _ hy)]
theorem lh {aM more:List bD} {q:Nat} (h:q < aM.length):(aM++more)[q]?=aM[q]?:=List.getElem?_append_left h
theorem sF {aM more:List bD} {j x:Nat} (hj:j<=aM.length):jH (aM++more) (ed j) x=jH aM (ed j) x:=
 oG fun q hq=>by unfold pv;rw [lh (Nat.lt_of_lt_of_le (qp hq) hj)]
theorem sG {aM more:List bD} {j x:Nat} (hj:j<=aM.length):jm (aM++more) (ed j) x=jm aM (ed j) x:=
 oG fun q hq=>by unfold De;rw [lh (Nat.lt_of_lt_of_le (qp hq) hj)]
theorem lu.more {st:aF} {aM more:List bD} {x:Nat} {v:AV} {o:Option Nat} (h:lu st aM x v o):lu st (aM++more) x v o:=by
 cases o with
 |none=>exact h
 |some j=>obtain ⟨q,h1,h2⟩:=h;exact ⟨q,by rw [lh (List.getElem?_eq_some_iff.1 h1).1];exact h1,h2⟩
theorem lx.more {st:aF} {aM more:List bD} {x:Nat} {v:AB} {o:Option Nat} (h:lx st aM x v o):lx st (aM++more) x v o:=by
 cases o with
 |none=>exact h
 |some j=>obtain ⟨q,h1,h2⟩:=h;exact ⟨q,by rw [lh (List.getElem?_eq_some_iff.1 h1).1];exact h1,h2⟩
structure oS (st:aF) (aM:List bD) (j:Nat) (r:bD):Prop where
 pre:r.pre=ed j
 s:∀ x∈r.s,lu st aM x.1 x.2 (jH aM (ed j) x.1)
 h:∀ x∈r.h,lx st aM x.1 x.2 (jm aM (ed j) x.1)
theorem oS.more {st:aF} {aM more:List bD} {j:Nat} {r:bD} (h:oS st aM j r) (hj:j<=aM.length):oS st (aM++more) j r:=
 ⟨h.pre,fun x hx=>by rw [sF hj];exact (h.s x hx).more,fun x hx=>by rw [sG hj];exact (h.h x hx).more⟩
theorem th {acc:List bD}:∀ {i:Nat},acc.length=i->∀ (t:Nat),jH acc.reverse (ed i) t=(findD acc i t).map (·.1):=by
 induction acc with
 |nil=>intro i hl t;subst hl;rfl
 |cons r l ih=>
  intro i hl t
  obtain ⟨k,rfl⟩:∃ k,i=k+1:=⟨i - 1,by simp at hl;omega⟩
  have hl:l.length=k:=by simpa using hl
  have hlast:(r::l).reverse[k]?=some r:=by rw [List.reverse_cons,List.getElem?_append_right (by simp [hl])];simp [hl]
  have rest:jH (r::l).reverse (ed k) t=(findD l k t).map (·.1):=by rw [List.reverse_cons,sF (by simp [hl])];exact ih hl t
  show (k::ed k).find? _=_
  rw [List.find?_cons]
  unfold pv
  rw [hlast]
  dsimp only
  unfold findD
  split<;>rename_i h1<;>split at h1
  ·rename_i d hd;rw [hd];dsimp only;rw [h1];rfl
  ·cases h1
  ·rename_i d hd;rw [hd];dsimp only;rw [h1];exact rest
  ·rename_i hd;rw [hd];exact rest
theorem sT {k:Nat}:∀ {l:List (Nat×AB)},dC k (keys l)=(look l k).isSome
 |[]=>rfl
 |(j,b)::l=>by
  show (Nat.beq j k||dC k (keys l))=_
  rw [bR]
  by_cases h:j=k
  ·subst h;rw [Nat.beq_refl,if_pos rfl];rfl
  ·rw [if_neg h,sT,Bool.eq_false_iff.2 fun e=>h (Nat.eq_of_beq_eq_true e),Bool.false_or]
theorem tj {acc:List bD}:∀ {i:Nat},acc.length=i->∀ (t:Nat),jm acc.reverse (ed i) t=(nt acc i t).map (·.1):=by
 induction acc with
 |nil=>intro i hl t;subst hl;rfl
 |cons r l ih=>
  intro i hl t
  obtain ⟨k,rfl⟩:∃ k,i=k+1:=⟨i - 1,by simp at hl;omega⟩
  have hl:l.length=k:=by simpa using hl
  have hlast:(r::l).reverse[k]?=some r:=by rw [List.reverse_cons,List.getElem?_append_right (by simp [hl])];simp [hl]
  have rest:jm (r::l).reverse (ed k) t=(nt l k t).map (·.1):=by rw [List.reverse_cons,sG (by simp [hl])];exact ih hl t
  show (k::ed k).find? _=_
  rw [List.find?_cons]
  unfold De
  rw [hlast]
  dsimp only
  rw [sT]
  unfold nt
  cases hk:look r.nb t with
  |some b=>rfl
  |none=>exact rest
theorem ly {st:aF} {racc:List bD} {i:Nat} (hl:racc.length=i):∀ {ts:List Nat} {sv:List (Nat×AV)} {pre:List Nat},gr st.s racc i ts=(sv,pre)->∀ x∈sv,lu st racc.reverse x.1 x.2 (jH racc.reverse (ed i) x.1)
 |[],sv,pre,h,x,hx=>by cases h;cases hx
 |t::ts,sv,pre,h,x,hx=>by
  unfold gr at h
  cases hv:gr st.s racc i ts with
  |mk sv0 pre0=>
   rw [hv] at h
   have ih:=ly hl hv
   dsimp only at h
   split at h
   ·rename_i j v hf
    injection h with h1 h2;subst h1 h2
    rcases List.mem_cons.1 hx with rfl|hx
    ·obtain ⟨q,h1,h2,h3⟩:=qk hl hf
     dsimp only
     rw [th hl,hf]
     exact ⟨q,h1,h2,h3⟩
    ·exact ih x hx
   ·rename_i hf
    split at h
    ·rename_i v hs
     injection h with h1 h2;subst h1 h2
     rcases List.mem_cons.1 hx with rfl|hx
     ·dsimp only
      rw [th hl,hf]
      exact hs
     ·exact ih x hx
    ·injection h with h1 h2;subst h1 h2;exact ih x hx
theorem ke {st:aF} {racc:List bD} {i:Nat} (hl:racc.length=i):∀ {ts:List Nat} {sv:List (Nat×AB)} {pre:List Nat},fU st.h racc i ts=(sv,pre)->∀ x∈sv,lx st racc.reverse x.1 x.2 (jm racc.reverse (ed i) x.1)
 |[],sv,pre,h,x,hx=>by cases h;cases hx
 |t::ts,sv,pre,h,x,hx=>by
  unfold fU at h
  cases hv:fU st.h racc i ts with
  |mk sv0 pre0=>
   rw [hv] at h
   have ih:=ke hl hv
   dsimp only at h
   split at h
   ·rename_i j v hf
    injection h with h1 h2;subst h1 h2
    rcases List.mem_cons.1 hx with rfl|hx
    ·obtain ⟨q,h1,h2⟩:=ql hl hf
     dsimp only
     rw [tj hl,hf]
     exact ⟨q,h1,h2⟩
    ·exact ih x hx
   ·rename_i hf
    split at h
    ·rename_i v hs
     injection h with h1 h2;subst h1 h2
     rcases List.mem_cons.1 hx with rfl|hx
     ·dsimp only
      rw [tj hl,hf]
      exact hs
     ·exact ih x hx
    ·injection h with h1 h2;subst h1 h2;exact ih x hx
def PW (P:Program) (ops:Array Oper) (st:aF) (K:List bD->Prop) (i:Nat) (racc:List bD) (n:Nat) (l:List Oper):Prop:=
 racc.length=i->(∀ j r,racc.reverse[j]?=some r->oS st racc.reverse j r)->∃ rows,iT P ops rows l/\(∀ j r,(racc.reverse++rows)[j]?=some r->oS st (racc.reverse++rows) j r)/\K (racc.reverse++rows)
section
variable {P:Program} {ops:Array Oper} {st:aF} {K:List bD->Prop} {i n:Nat} {racc:List bD} {l:List Oper}
theorem zR {o:Oper} {r:bD} {n':Nat} (hr:lT P ops r o) (hs:racc.length=i->oS st racc.reverse i r) (h:PW P ops st K (i+1) (r::racc) n' l):PW P ops st K i racc n (o::l):=fun hl hsee=>by
 obtain ⟨rows,h1,h2,h3⟩:=h (by rw [List.length_cons,hl]) (fun j q hq=>by
  rw [List.reverse_cons] at hq ⊢
  by_cases hj:j < racc.reverse.length
  ·rw [lh hj] at hq;exact (hsee j q hq).more (Nat.le_of_lt hj)
  ·rw [List.getElem?_append_right (by omega)] at hq
   have h0:j - racc.reverse.length=0:=by
    have:=(List.getElem?_eq_some_iff.1 hq).1
    simpa using this
   rw [h0] at hq
   injection hq with hq;subst hq
   have:j=i:=by rw [List.length_reverse,hl] at *;omega
   subst this
   exact (hs hl).more (by rw [List.length_reverse,hl];exact Nat.le_refl _))
 rw [List.reverse_cons,List.append_assoc] at h2 h3
 exact ⟨r::rows,⟨hr,h1⟩,h2,h3⟩
theorem bT {o:Oper} {v:AV} {nb:List (Nat×AB)} {E pre pre':List Nat} {sv:List (Nat×AV)} {hv:List (Nat×AB)} {n':Nat} (ts ks:List Nat) (hs:gr st.s racc i ts=(sv,pre)) (hh:fU st.h racc i ks=(hv,pre'))
  (hr:lT P ops ⟨o.dst,v,nb,E,ed i,sv,hv⟩ o) (hn:ic nb n=n') (h:PW P ops st K (i+1) (⟨o.dst,v,nb,E,ed i,sv,hv⟩::racc) n' l):PW P ops st K i racc n (o::l):=
 zR hr (fun hl=>⟨rfl,ly hl hs,ke hl hh⟩) h
end
def zM (s:List (Nat×AV)):Op->List Nat
 |.store _ x _=>match iJ s x with
  |some (.v (.c (.p k _ _ _)))=>[k]
  |_=>[]
 |op=>rC s op
def Fl (ops:Array Oper) (o:Oper):List Nat:=
 match o.op with
 |.store _ x y=>(match o.guard with
  |none=>jf x (jf y [])
  |some (j,_)=>match (ops[j]?).bind (·.dst) with
   |some t=>t::jf x (jf y [])
   |none=>jf x (jf y []))
 |_=>CX ops o
def ue (T:List (Nat×TI)) (s:List (Nat×AV)) (h:List (Nat×AB)) (t:TypeId) (x y:Operand):Option (Nat×AB):=
 match look T t with
 |none=>none
 |some ti=>match iJ s x with
  |some (.v (.c (.p k r K j)))=>bif Nat.beq r 0 && Nat.beq K 0 then (match iJ s y with
   |some (.v gv)=>bif (ek gv).all CV.known && Nat.beq (ek gv).length ti.size then (match look h k with
    |some (.box bt cs)=>(match jK cs j (ek gv) with
     |some cs'=>some (k,.box bt cs')
     |none=>none)
    |_=>none) else none
   |_=>none) else none
  |_=>none
theorem yw {P:Program} {T:List (Nat×TI)} (hT:ga P T) {o:Oper} {s:List (Nat×AV)} {h:List (Nat×AB)} {n:Nat} {t:TypeId} {x y:Operand} {k:Nat} {b:AB} (ho:o.op=.store t x y) (hr:ue T s h t x y=some (k,b)):aH P o ⟨s,h,n⟩ (.v (.c .any)) [(k,b)] [k]:=by
 unfold ue at hr
 split at hr
 ·cases hr
 rename_i ti ht
 split at hr
 ·rename_i kk r K j hx
  cases hc:(Nat.beq r 0 && Nat.beq K 0) with
  |false=>rw [hc] at hr;cases hr
  |true=>
   rw [hc] at hr
   simp only [cond_true] at hr
   simp only [Bool.and_eq_true] at hc
   have c1:=Nat.eq_of_beq_eq_true hc.1
   have c2:=Nat.eq_of_beq_eq_true hc.2
   subst c1 c2
   split at hr
   ·rename_i gv hy
    cases hk:((ek gv).all CV.known && Nat.beq (ek gv).length ti.size) with
    |false=>rw [hk] at hr;cases hr
    |true=>
     rw [hk] at hr
     simp only [cond_true] at hr
     rw [Bool.and_eq_true] at hk
     split at hr
     ·rename_i bt cs hb
      split at hr
      ·rename_i cs' hcs
       injection hr with hr;injection hr with e1 e2
       subst e1 e2
       obtain ⟨p1,p2⟩:=jJ hcs
       have hl:=Nat.eq_of_beq_eq_true hk.2
       exact uU ho (ej hx) (ej hy) hb hk.1 (hT.get ht).size hl (by rw [<-hl];exact p1) (by rw [<-hl];exact p2)
      ·cases hr
     ·cases hr
   ·cases hr
 ·cases hr
def Aj (ops:Array Oper) (T:List (Nat×TI)) (st:aF) (kn:List (Nat×Bool)) (i:Nat) (racc:List bD) (n:Nat) (o:Oper):Option (bD×Nat×List (Bool×Bool)):=
 match gr st.s racc i (Fl ops o) with
 |(sv,_)=>match oE ops sv o with
  |none=>none
  |some false=>some (⟨o.dst,.t [],[],[],ed i,sv,[]⟩,n,[])
  |some true=>match o.op with
   |.store t x y=>(match o.dst with
    |some _=>none
    |none=>match fU st.h racc i (zM sv o.op) with
     |(hv,_)=>match ue T sv hv t x y with
      |some (k,b)=>some (⟨none,.v (.c .any),[(k,b)],[k],ed i,sv,hv⟩,n,[])
      |none=>none)
   |.alloc t=>(match o.dst with
    |none=>none
    |some d=>match look T t with
     |none=>none
     |some ti=>bif ti.zero.isEmpty then none else (match mN ti.zero with
      |some cs=>some (⟨some d,.v (.c (.p n 0 0 0)),[(n,.box t cs)],[],ed i,sv,[]⟩,n+1,[])
      |none=>none))
   |.box t x=>(match o.dst with
    |none=>none
    |some d=>match iJ sv x with
     |some (.v (.c c))=>bif c.known then some (⟨some d,.v (.c (.p n 0 0 0)),[(n,.box t [c])],[],ed i,sv,[]⟩,n+1,[]) else none
     |some (.v (.g cs))=>some (⟨some d,.v (.c (.p n 0 0 0)),[(n,.box t cs)],[],ed i,sv,[]⟩,n+1,[])
     |_=>none)
   |op=>match o.dst with
    |none=>none
    |some d=>match fU st.h racc i (rC sv op) with
     |(hv,_)=>match zr T sv hv op with
      |none=>none
      |some v=>match nw kn d v with
       |(v',ob)=>some (⟨some d,v',[],[],ed i,sv,hv⟩,n,ob)
def Af (ops:Array Oper) (T:List (Nat×TI)) (st:aF) (kn:List (Nat×Bool)):Nat->Nat->List bD->Nat->List Oper->Option (Nat×List bD×Nat×List Oper×List (Bool×Bool))
 |0,i,racc,n,l=>some (i,racc,n,l,[])
 |_+1,i,racc,n,[]=>some (i,racc,n,[],[])
 |k+1,i,racc,n,o::l=>match Aj ops T st kn i racc n o with
  |none=>none
  |some (r,n',ob)=>match Af ops T st kn k (i+1) (r::racc) n' l with
   |none=>none
   |some (i2,racc2,n2,l2,ob2)=>match ob with
    |[]=>some (i2,racc2,n2,l2,ob2)
    |x::_=>some (i2,racc2,n2,l2,x::ob2)
section
variable {P:Program} {ops:Array Oper} {st:aF} {K:List bD->Prop} {T:List (Nat×TI)} {kn:List (Nat×Bool)}
theorem Cc (hT:ga P T) {i n n':Nat} {racc:List bD} {o:Oper} {r:bD} {ob:List (Bool×Bool)} (h:Aj ops T st kn i racc n o=some (r,n',ob)):ob.length<=1/\((∀ x∈ob,x.1=x.2)->lT P ops r o/\(racc.length=i->oS st racc.reverse i r)):=by
 unfold Aj at h
 cases hv:gr st.s racc i (Fl ops o) with
 |mk sv pre=>
  rw [hv] at h
  dsimp only at h
  have hsee:racc.length=i->∀ x∈sv,lu st racc.reverse x.1 x.2 (jH racc.reverse (ed i) x.1):=fun hl=>ly hl hv
  have none_:∀ x∈([]:List (Nat×AB)),lx st racc.reverse x.1 x.2 (jm racc.reverse (ed i) x.1):=fun x hx=>by cases hx
  split at h
  ·cases h
  ·rename_i hg
   simp only [Option.some.injEq,Prod.mk.injEq] at h
   obtain ⟨rfl,_,rfl⟩:=h
   exact ⟨Nat.zero_le _,fun _=>⟨.inr ⟨(hY (s:=sv) (h:=[]) (n:=0) hg).2 rfl,rfl,rfl,rfl⟩,fun hl=>⟨rfl,hsee hl,none_⟩⟩⟩
  ·rename_i hg
   have hw:∀ hh,ah ops o ⟨sv,hh,0⟩:=fun hh=>(hY hg).1 rfl
   split at h
   ·rename_i t x y ho
    split at h
    ·cases h
    rename_i hd
    cases hvh:fU st.h racc i (zM sv o.op) with
    |mk hv pre'=>
     rw [hvh] at h
     dsimp only at h
     split at h
     ·rename_i k b hs
      simp only [Option.some.injEq,Prod.mk.injEq] at h
      obtain ⟨rfl,_,rfl⟩:=h
      exact ⟨Nat.zero_le _,fun _=>⟨.inl ⟨hw _,yw hT ho hs⟩,fun hl=>⟨rfl,hsee hl,ke hl hvh⟩⟩⟩
     ·cases h
   ·rename_i t ho
    split at h
    ·cases h
    split at h
    ·cases h
    rename_i ti ht
    cases hz:ti.zero.isEmpty with
    |true=>rw [hz] at h;cases h
    |false=>
     rw [hz] at h
     simp only [cond_false] at h
     split at h
     ·rename_i cs hcs
      simp only [Option.some.injEq,Prod.mk.injEq] at h
      obtain ⟨rfl,_,rfl⟩:=h
      have h2:ti.zero≠[]:=fun e=>by rw [e] at hz;simp at hz
      have h4:=(hT.get ht).zero.resolve_left h2
      cases hz2:(P.info? t).bind (·.zero) with
      |none=>rw [hz2] at h4;exact absurd h4.1 (by simp)
      |some z=>
       rw [hz2] at h4
       exact ⟨Nat.zero_le _,fun _=>⟨.inl ⟨hw _,sa n ho hz2 (Option.some.inj h4.1) h4.2 (kX hcs)⟩,fun hl=>⟨rfl,hsee hl,none_⟩⟩⟩
     ·cases h
   ·rename_i t x ho
    split at h
    ·cases h
    split at h
    ·rename_i c hx
     cases hk:c.known with
     |false=>rw [hk] at h;cases h
     |true=>
      rw [hk] at h
      simp only [cond_true,Option.some.injEq,Prod.mk.injEq] at h
      obtain ⟨rfl,_,rfl⟩:=h
      exact ⟨Nat.zero_le _,fun _=>⟨.inl ⟨hw _,uZ n ho (ej hx) hk⟩,fun hl=>⟨rfl,hsee hl,none_⟩⟩⟩
    ·rename_i cs hx
     simp only [Option.some.injEq,Prod.mk.injEq] at h
     obtain ⟨rfl,_,rfl⟩:=h
     exact ⟨Nat.zero_le _,fun _=>⟨.inl ⟨hw _,uY n ho (ej hx)⟩,fun hl=>⟨rfl,hsee hl,none_⟩⟩⟩
    ·cases h
   ·split at h
    ·cases h
    rename_i d hd
    cases hvh:fU st.h racc i (rC sv o.op) with
    |mk hv pre'=>
     rw [hvh] at h
     dsimp only at h
     split at h
     ·cases h
     rename_i v he
     cases hdv:nw kn d v with
     |mk v' ob'=>
      rw [hdv] at h
      simp only [Option.some.injEq,Prod.mk.injEq] at h
      obtain ⟨rfl,_,rfl⟩:=h
      refine ⟨vh hdv,fun hob=>?_⟩
      have:=wR hdv hob
      subst this
      exact ⟨.inl ⟨hw _,vd hT he⟩,fun hl=>⟨rfl,hsee hl,ke hl hvh⟩⟩
theorem bQ (hT:ga P T):∀ (k:Nat) {i i' n n':Nat} {racc racc':List bD} {l l':List Oper} {ob:List (Bool×Bool)},Af ops T st kn k i racc n l=some (i',racc',n',l',ob)->df (fun x=>x.1=x.2) ob->PW P ops st K i' racc' n' l'->PW P ops st K i racc n l
 |0,i,i',n,n',racc,racc',l,l',ob,h,_,k=>by
  have:some (i,racc,n,l,([]:List (Bool×Bool)))=some (i',racc',n',l',ob):=by rw [<-h];cases l<;>rfl
  simp only [Option.some.injEq,Prod.mk.injEq] at this
  obtain ⟨rfl,rfl,rfl,rfl,_⟩:=this
  exact k
 |_+1,i,i',n,n',racc,racc',[],l',ob,h,_,k=>by
  have:some (i,racc,n,([]:List Oper),([]:List (Bool×Bool)))=some (i',racc',n',l',ob):=by rw [<-h];rfl
  simp only [Option.some.injEq,Prod.mk.injEq] at this
  obtain ⟨rfl,rfl,rfl,rfl,_⟩:=this
  exact k
 |f+1,i,i',n,n',racc,racc',o::l,l',ob,h,hob,k=>by
  unfold Af at h
  split at h
  ·cases h
  rename_i r n1 ob1 hr
  split at h
  ·cases h
  rename_i i2 racc2 n2 l2 ob2 h2
  obtain ⟨hone,hok⟩:=Cc hT hr
  have key:i2=i'/\racc2=racc'/\n2=n'/\l2=l'/\(∀ x∈ob1,x∈ob)/\∀ x∈ob2,x∈ob:=by
   split at h
   ·simp only [Option.some.injEq,Prod.mk.injEq] at h
    obtain ⟨h1,h2,h3,h4,rfl⟩:=h
    exact ⟨h1,h2,h3,h4,(fun x hx=>by cases hx),fun x hx=>hx⟩
   ·rename_i y ys
    simp only [Option.some.injEq,Prod.mk.injEq] at h
    obtain ⟨h1,h2,h3,h4,rfl⟩:=h
    have hys:ys=[]:=by simpa using hone
    subst hys
    exact ⟨h1,h2,h3,h4,fun x hx=>by rw [List.mem_singleton.1 hx];exact List.mem_cons_self,fun x hx=>List.mem_cons_of_mem _ hx⟩
  obtain ⟨rfl,rfl,rfl,rfl,k1,k2⟩:=key
  have hob:=hob.mem
  obtain ⟨h3,h4⟩:=hok fun x hx=>hob x (k1 x hx)
  exact zR h3 h4 (bQ hT f h2 (eT fun x hx=>hob x (k2 x hx)) k)
end
theorem Ad {st:aF} {aM:List bD} (h:∀ j r,aM[j]?=some r->oS st aM j r):nF st aM aM:=by
 have gen:∀ rs:List bD,(∀ r∈rs,r∈aM)->nF st aM rs:=by
  intro rs
  induction rs with
  |nil=>intro _;trivial
  |cons r rs ih=>
   intro hm
   obtain ⟨j,hj⟩:=List.getElem?_of_mem (hm r List.mem_cons_self)
   have g:=h j r hj
   exact ⟨⟨eT fun x hx=>by rw [g.pre];exact g.s x hx,eT fun x hx=>by rw [g.pre];exact g.h x hx⟩,ih fun q hq=>hm q (List.mem_cons_of_mem _ hq)⟩
 exact gen aM fun r hr=>hr
section
variable {P:Program} {W0:World} {F:Nat->Prop} {N:NT} {T0:Nat->Prop} {pin:List (Nat×bM)} {Q:Exit->aF->Prop}
def yg (Q:Exit->aF->Prop) (N:NT) (l:List Oper) (st:aF) (aM:List bD):Prop:=
 ∃ fin,rm l.toArray aM N.1 st fin (ed aM.length)=true/\(df (fun x=>lu st aM x.1 x.2 (jH aM (ed aM.length) x.1)) fin.s/\df (fun x=>lx st aM x.1 x.2 (jm aM (ed aM.length) x.1)) fin.h)/\Q .normal fin
theorem cX {id:Nat} {l:List Oper} {s s0:List (Nat×AV)} {h h0:List (Nat×AB)} {n:Nat} (lv hv:List Nat) (hm:P.follows .mixedOrders=true) (h1:jZ s lv=some s0) (h2:jZ h hv=some h0)
  (k:PW P l.toArray ⟨s0,h0,n⟩ (yg Q N l ⟨s0,h0,n⟩) 0 [] n l):AC P W0 F N T0 pin Q (.region id l.toArray true) ⟨s,h,n⟩:=by
 refine gP (st':=⟨s0,h0,n⟩) (aD.sub (fun i v hi=>kl h1 hi) (fun i v hi=>kl h2 hi) rfl) ?_
 obtain ⟨rows,h3,h4,fin,h5,h6,h7⟩:=k rfl (fun j r hr=>by simp at hr)
 exact BB rows fin (ed rows.length) hm h5 h3 (Ad h4) h6 h7
theorem dK {l:List Oper} {st:aF} {fs:List (Nat×AV)} {fh:List (Nat×AB)} {i n:Nat} {racc:List bD} {pre pre':List Nat} (lv hv:List Nat) (hs:gr st.s racc i lv=(fs,pre)) (hh:fU st.h racc i hv=(fh,pre'))
  (hB:rm l.toArray racc.reverse N.1 st ⟨fs,fh,n⟩ (ed i)=true) (k:Q .normal ⟨fs,fh,n⟩):PW P l.toArray st (yg Q N l st) i racc n []:=fun hl hsee=>by
 refine ⟨[],trivial,by rw [List.append_nil];exact hsee,?_⟩
 rw [List.append_nil]
 unfold yg
 rw [List.length_reverse,hl]
 exact ⟨⟨fs,fh,n⟩,hB,⟨eT (ly hl hs),eT (ke hl hh)⟩,k⟩
end
end
end Go.Proofs.Ytegepioggeggaaa.Dev
