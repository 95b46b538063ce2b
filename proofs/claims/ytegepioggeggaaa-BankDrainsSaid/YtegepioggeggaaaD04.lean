/- A part of the proof: Sh28, PlDel, PlPace, PlCard, PlPost, Sh29, Sh30, Sh31, Sh32. No condition. -/
import Derived.Test.YtegepioggeggaaaD03
set_option linter.unusedVariables false
set_option linter.unusedSimpArgs false
namespace Go.Proofs.Ytegepioggeggaaa.Dev
open Go.RowKit
section
def nm (a:Answer):Value:=.agg #[.int .i64 a.err,.int .i64 a.ba]
def tV (ps:List (Int×Answer)):List (Int×Value):=ps.map fun p=>(p.1,nm p.2)
def fB:List (Int×Answer)->Int->Option Answer
 |[],_=>none
 |(k,v)::l,a=>if k=a then some v else fB l a
def lG:List (Int×Answer)->Int->Answer->List (Int×Answer)
 |[],a,v=>[(a,v)]
 |(k,u)::l,a,v=>if k=a then (a,v)::l else (k,u)::lG l a v
theorem pY {a:Int}:∀ {ps:List (Int×Answer)} {ms:List MapEntry} (i:Nat),ms.map (fun e=>(e.key,e.val))=(tV ps).map (fun e=>(Value.int .i64 e.1,e.2))->
  (∃ j v,Instr.findNow (.int .i64) (.int .i64 a) ms i=some (some (i+j,nm v))/\fB ps a=some v/\(∃ e,ms[j]?=some e/\e.key=.int .i64 a)/\∀ u,tV (lG ps a u)=(tV ps).set j (a,nm u))\/
  (Instr.findNow (.int .i64) (.int .i64 a) ms i=some none/\fB ps a=none/\∀ u,lG ps a u=ps++[(a,u)])
 |[],[],i,_=>.inr ⟨rfl,rfl,fun _=>rfl⟩
 |[],_::_,_,h=>by cases h
 |_::_,[],_,h=>by cases h
 |(k,v)::ps,e::ms,i,h=>by
  obtain ⟨h1,h2⟩:=List.cons.inj h
  injection h1 with h3 h4
  unfold Instr.findNow fB lG
  rw [h3,h4]
  by_cases hk:k=a
  ·subst hk
   exact .inl ⟨0,v,by simp [Instr.sameNow],by simp,⟨e,rfl,h3⟩,fun u=>by simp [tV]⟩
  ·have hk':(a==k)=false:=beq_eq_false_iff_ne.2 fun e=>hk e.symm
   rcases pY (ps:=ps) (ms:=ms) (a:=a) (i+1) h2 with ⟨j,w,h5,h6,⟨e',h7,h8⟩,h9⟩|⟨h5,h6,h7⟩
   ·refine .inl ⟨j+1,w,?_,by simp [hk,h6],⟨e',by simpa using h7,h8⟩,fun u=>?_⟩
    ·simp only [Instr.sameNow,hk',h5]
     simp [show i+1+j=i+(j+1) by omega]
    ·rw [if_neg hk]
     have:=h9 u
     simp only [tV] at this ⊢
     simp [this]
   ·exact .inr ⟨by simp [Instr.sameNow,hk',h5],by simp [hk,h6],fun u=>by rw [if_neg hk,h7];rfl⟩
section
variable {P:Program} {st:aL} {o:Oper}
theorem Cy {t kt et:TypeId} {m x:Operand} {k cl:Nat} {a:Int} {ps:List (Int×Answer)} (hu:P.underlying t=some (.map kt et)) (hkt:P.underlying kt=some (.int .i64)) (hz:(P.info? et).bind (fun i=>i.zero)=some (.agg #[.int .i64 0,.int .i64 0])) (ho:o.op=.lookup t m x true)
  (hm:ev st m (.v (.c (.m k)))) (hx:ev st x (.v (.c (.d (.v (.int .i64 a)))))) (hb:look st.h k=some (.map (tV ps) cl)):
  aM P o st (.t [.g [cI ((fB ps a).getD ⟨0,0⟩).err,cI ((fB ps a).getD ⟨0,0⟩).ba],.c (cB (fB ps a).isSome)]) [] []:=
 aM.val fun σ T ac w C=>by
  obtain ⟨g,h1,h2⟩:=bN C hm
  have h3:=bw.inv (bN C hx)
  obtain ⟨g',ms,e1,e2,e3,e4⟩:=C.heap k _ hb
  rw [h1] at e1;injection e1 with e1;subst e1
  refine ⟨.tuple #[nm ((fB ps a).getD ⟨0,0⟩),.bool (fB ps a).isSome],?_,⟨_,rfl,⟨_,rfl,bw.v _ rfl,bw.v _ rfl,trivial⟩,bw.v _ rfl,trivial⟩⟩
  cases hq:P.info? et with
  |none=>simp [hq] at hz
  |some i=>
   have hzz:i.zero=some (.agg #[.int .i64 0,.int .i64 0]):=by simpa [hq] using hz
   unfold execOp
   rcases pY (a:=a) 0 e4 with ⟨j,v,hf,hg,_⟩|⟨hf,hg,_⟩
   ·simp [ho,h2,h3,hg,Instr.lookup,run_underlying hu,MapKept.run_getObj_map e3,MapKept.run_checkKey hkt (show MapKept.IsKey (.int .i64) (.int .i64 a) from rfl),MapKept.run_findKey hkt hf,Result.andThen]
   ·simp [ho,h2,h3,hg,Instr.lookup,run_underlying hu,MapKept.run_getObj_map e3,MapKept.run_checkKey hkt (show MapKept.IsKey (.int .i64) (.int .i64 a) from rfl),MapKept.run_findKey hkt hf,Result.andThen,zeroValue,typeInfo,hq,hzz,nm]
theorem Cw {t kt et:TypeId} {m x y:Operand} {k cl:Nat} {a e u:Int} {ps:List (Int×Answer)} (hu:P.underlying t=some (.map kt et)) (hkt:P.underlying kt=some (.int .i64)) (ho:o.op=.mapUpdate t m x y)
  (hm:ev st m (.v (.c (.m k)))) (hx:ev st x (.v (.c (.d (.v (.int .i64 a)))))) (hy:ev st y (.v (.g [cI e,cI u]))) (hb:look st.h k=some (.map (tV ps) cl)):
  aM P o st (.v (.c .any)) [(k,.map (tV (lG ps a ⟨e,u⟩)) (if (fB ps a).isSome then cl else cl+1))] [k]:=by
 intro σ T ac w C _
 obtain ⟨g,h1,h2⟩:=bN C hm
 have h3:=bw.inv (bN C hx)
 obtain ⟨vs,h4,h5⟩:=bN C hy
 have h4:ac.eval y=nm ⟨e,u⟩:=by
  match vs,h5 with
  |[v1,v2],h5=>rw [h4,bw.inv h5.1,bw.inv h5.2.1];rfl
 obtain ⟨g',ms,e1,e2,e3,e4⟩:=C.heap k _ hb
 rw [h1] at e1;injection e1 with e1;subst e1
 have hlt:=(Array.getElem?_eq_some_iff.1 e3).1
 rcases pY (a:=a) 0 e4 with ⟨j,v,hf,hg,⟨e0,hj,hk⟩,hp⟩|⟨hf,hg,hp⟩
 ·rw [Nat.zero_add] at hf
  have hj':ms[j]?=some e0:=by simpa using hj
  refine kE (w':={w with heap:=w.heap.setIfInBounds g.g (.map (ms.modify j fun e'=>{e' with key:=.int .i64 a,val:=nm ⟨e,u⟩}) cl)}) ?_ ⟨undef,σ,T,rfl,Ext.write C hb h1 rfl rfl rfl (by simp) (fun i hi=>(MapKept.heap_set e3).2 i hi) fun G=>?_,trivial⟩
  ·unfold execOp
   simp [ho,h2,h3,h4,Instr.mapUpdate,Sem.run_bind,run_underlying hu,Result.andThen_ok,MapKept.run_getObj_map e3,MapKept.run_checkKey hkt (show MapKept.IsKey (.int .i64) (.int .i64 a) from rfl),MapKept.run_findKey hkt hf,hj',hk,MapKept.run_keyThatStays (show MapKept.IsKey (.int .i64) (.int .i64 a) from rfl),MapKept.run_setObj_map _ e3]
  ·refine ⟨g,(ms.modify j fun e'=>{e' with key:=.int .i64 a,val:=nm ⟨e,u⟩}),rfl,e2,?_,?_⟩
   ·rw [hg];exact (MapKept.heap_set e3).1
   ·rw [hp,List.map_set,<-e4]
    refine List.ext_getElem? fun q=>?_
    rw [List.getElem?_map,Array.getElem?_toList,Array.getElem?_modify,List.getElem?_set,List.getElem?_map,Array.getElem?_toList]
    by_cases hq:j=q
    ·subst hq
     have hjl:=(Array.getElem?_eq_some_iff.1 hj').1
     simp [hj',hjl]
    ·simp [hq]
 ·refine kE (w':={w with heap:=w.heap.setIfInBounds g.g (.map (ms.push {key:=.int .i64 a,val:=nm ⟨e,u⟩,born:=cl}) (cl+1))}) ?_ ⟨undef,σ,T,rfl,Ext.write C hb h1 rfl rfl rfl (by simp) (fun i hi=>(MapKept.heap_set e3).2 i hi) fun G=>?_,trivial⟩
  ·unfold execOp
   simp only [ho,h2,h3,h4,Instr.mapUpdate,Sem.run_bind,run_underlying hu,Result.andThen_ok,MapKept.run_getObj_map e3,MapKept.run_checkKey hkt (show MapKept.IsKey (.int .i64) (.int .i64 a) from rfl),MapKept.run_findKey hkt hf,MapKept.run_setObj_map _ e3]
   rfl
  ·refine ⟨g,(ms.push {key:=.int .i64 a,val:=nm ⟨e,u⟩,born:=cl}),rfl,e2,?_,?_⟩
   ·rw [hg];exact (MapKept.heap_set e3).1
   ·rw [hp,Array.toList_push,List.map_append,e4]
    simp [tV]
theorem An {t:TypeId} (k:Nat) (ho:o.op=.makeMap t none):aM P o st (.v (.c (.m k))) [(k,.map (tV []) 0)] []:=vi k ho
end
end
section
def dj {α:Type} (p:α->Bool) (l:List α):List α:=l.filter fun x=>!p x
def iq {α:Type} (p:α->Bool) (l:List α):Int:=
 match l.findIdx? p with
 |some i=>i
 |none=>-1
variable {α:Type} {p:α->Bool} {l c:List α} {i j q:Nat} {x:α}
theorem oD (h:l[j]?=some x):dj p (l.take (j+1))=dj p (l.take j)++if p x then [] else [x]:=by
 rw [ie h,dj,dj,List.filter_append]
 cases hp:p x<;>simp [hp]
theorem pR (p:α->Bool) (l:List α):(dj p l).length<=l.length:=List.length_filter_le _ _
theorem ve (h:(l.take q).all (fun y=>!p y)=true) (hx:l[q]?=some x) (hp:p x=true):iq p l=q:=by
 unfold iq
 have hq:=(List.getElem?_eq_some_iff.1 hx).1
 have:l.findIdx? p=some q:=by
  rw [List.findIdx?_eq_some_iff_getElem]
  refine ⟨hq,?_,fun r hr=>?_⟩
  ·have:=(List.getElem?_eq_some_iff.1 hx).2;rw [this];exact hp
  ·rw [List.all_eq_true] at h
   have hm:l[r]'(by omega)∈l.take q:=by
    rw [List.mem_iff_getElem]
    exact ⟨r,by rw [List.length_take];omega,by simp⟩
   have:=h _ hm
   simpa using this
 rw [this]
theorem wV (h:l.all (fun y=>!p y)=true):iq p l=-1:=by
 unfold iq
 have:l.findIdx? p=none:=by
  rw [List.findIdx?_eq_none_iff]
  intro y hy
  have:=List.all_eq_true.1 h y hy
  simpa using this
 rw [this]
theorem xM (h:(l.take q).all (fun y=>!p y)=true) (hx:l[q]?=some x) (hp:p x=false):(l.take (q+1)).all (fun y=>!p y)=true:=zq h hx (by simp [hp])
theorem vf (p:α->Bool) (l:List α):(iq p l=-1/\dj p l=l)\/∃ i:Nat,iq p l=i/\i < l.length/\∃ x,l[i]?=some x/\p x=true/\dj p (l.take i)=l.take i:=by
 unfold iq
 cases h:l.findIdx? p with
 |none=>
  refine .inl ⟨rfl,?_⟩
  rw [List.findIdx?_eq_none_iff] at h
  exact List.filter_eq_self.2 fun y hy=>by simp [h y hy]
 |some i=>
  rw [List.findIdx?_eq_some_iff_getElem] at h
  obtain ⟨h1,h2,h3⟩:=h
  refine .inr ⟨i,rfl,h1,l[i],List.getElem?_eq_getElem h1,h2,?_⟩
  refine List.filter_eq_self.2 fun y hy=>?_
  obtain ⟨r,hr,rfl⟩:=List.mem_iff_getElem.1 hy
  rw [List.length_take] at hr
  have:=h3 r (by omega)
  simp [this]
structure lR (p:α->Bool) (l c:List α) (i j:Nat):Prop where
 len:c.length=l.length
 ij:i < j
 jl:j<=l.length
 pre:c.take i=dj p (l.take j)
 post:c.drop j=l.drop j
theorem lR.get (h:lR p l c i j) (hx:c[j]?=some x):l[j]?=some x:=by
 have h1:(c.drop j)[0]?=(l.drop j)[0]?:=by rw [h.post]
 simpa [hx] using h1.symm
theorem lR.skip (h:lR p l c i j) (hx:c[j]?=some x) (hp:p x=true):lR p l c i (j+1):=by
 have hl:=h.get hx
 have hj:=(List.getElem?_eq_some_iff.1 hl).1
 refine ⟨h.len,Nat.lt_succ_of_lt h.ij,hj,?_,?_⟩
 ·rw [oD hl,hp,h.pre];simp
 ·rw [<-List.drop_drop,<-List.drop_drop,h.post]
theorem lR.cS (h:lR p l c i j) (hx:c[j]?=some x) (hp:p x=false):lR p l (c.set i x) (i+1) (j+1):=by
 have hl:=h.get hx
 have hj:=(List.getElem?_eq_some_iff.1 hl).1
 have hi:i < c.length:=by have:=h.ij;rw [h.len];omega
 refine ⟨by rw [List.length_set];exact h.len,Nat.succ_lt_succ h.ij,hj,?_,?_⟩
 ·rw [oD hl,hp,<-h.pre]
  rw [List.take_succ_eq_append_getElem (by rw [List.length_set];exact hi)]
  simp [List.take_set_of_le]
 ·rw [List.drop_set_of_lt (by have:=h.ij;omega),<-List.drop_drop,<-List.drop_drop,h.post]
theorem lR.start {i:Nat} (hx:l[i]?=some x) (hp:p x=true) (hk:dj p (l.take i)=l.take i):lR p l l i (i+1):=by
 have hi:=(List.getElem?_eq_some_iff.1 hx).1
 refine ⟨rfl,Nat.lt_succ_self i,hi,?_,rfl⟩
 rw [oD hx,hp,hk];simp
theorem lR.done (h:lR p l c i j) (hj:l.length<=j):c.take i=dj p l:=by
 rw [h.pre,List.take_of_length_le hj]
end
section
section
variable {α:Type} [DecidableEq α] {a b:List α}
end
end
section
def jP (a b c:Int):Int:=if a < 1\/a > 1000000\/b < 0\/b > 30\/c < 0\/c > 1000000000000 then 3 else 0
def scan (e:Nat->Int) (q:Nat):Nat->Int×Int
 |0=>(0,0)
 |k+1=>if e q≠0 then (e q,(q:Int)) else scan e (q+1) k
theorem nF {e:Nat->Int} {q n:Nat} (hq:q < n) (h:e q=0):scan e q (n - q)=scan e (q+1) (n - (q+1)):=by
 rw [show n - q=(n - (q+1))+1 by omega,scan,if_neg (by simp [h])]
theorem iI {e:Nat->Int} {q n:Nat} (hq:q < n) {c:Int} (h:e q=c) (hc:c≠0):scan e q (n - q)=(c,(q:Int)):=by
 rw [show n - q=(n - (q+1))+1 by omega,scan,if_pos (by rw [h];exact hc),h]
theorem ot {e:Nat->Int} {q n:Nat} (hq:¬q < n):scan e q (n - q)=(0,0):=by rw [show n - q=0 by omega];rfl
theorem ou {e:Nat->Int}:∀ (n q:Nat),(scan e q n).1=0↔∀ i,q<=i->i < q+n->e i=0
 |0,q=>by simp [scan];intro i h1 h2;omega
 |n+1,q=>by
  rw [scan]
  split
  ·rename_i h;exact ⟨fun h'=>absurd h' h,fun h'=>absurd (h' q (Nat.le_refl _) (by omega)) h⟩
  ·rename_i h
   rw [ou n (q+1)]
   constructor
   ·intro h' i h1 h2
    by_cases hi:i=q
    ·subst hi;omega
    ·exact h' i (by omega) (by omega)
   ·exact fun h' i h1 h2=>h' i (by omega) (by omega)
def kF (l:List di) (q:Nat):Int:=
 match l[q]? with
 |some u=>if u.time < 0\/u.time > 1000000\/u.sum < 0\/u.sum > 1000000 then 3 else if 0 < q/\(l.getD (q - 1) ⟨0,0⟩).time > u.time then 2 else 0
 |none=>0
def de (l:List di):Int×Int:=if l.length > 30 then (5,0) else scan (kF l) 0 l.length
def fI (p:eP):Int:=jP p.cM p.count p.sum
def fo (l:List di):cV:=⟨(de l).1,(de l).2⟩
def cj (p:eP) (t:Int) (u:di):Bool:=decide (u.time<=t - p.cM)
def dY (p:eP) (l:List di) (t:Int):List di:=dj (cj p t) l
def ix:List di->Int
 |[]=>0
 |u::l=>u.sum+ix l
def im (l:List di) (t:Int):Bool:=match l.getLast? with
 |some u=>decide (u.time > t)
 |none=>false
def ez (p:eP) (l:List di) (x:di):List di×Int:=
 if fI p≠0 then ([],fI p)
 else if (fo l).err≠0 then ([],(fo l).err)
 else if (fo [x]).err≠0 then ([],(fo [x]).err)
 else if im l x.time=true then ([],2)
 else if p.count < ((dY p l x.time).length:Int)+1\/p.sum < ix (dY p l x.time)+x.sum then ([],11)
 else (dY p l x.time++[x],0)
theorem pF {p:eP} (h:fI p=0):1<=p.cM/\p.cM<=1000000/\0<=p.count/\p.count<=30/\0<=p.sum/\p.sum<=1000000000000:=by
 unfold fI jP at h
 split at h
 ·cases h
 ·omega
theorem nZ {l:List di}:(fo l).err=0↔l.length<=30/\∀ i,i < l.length->kF l i=0:=by
 unfold fo de
 dsimp only
 split
 ·constructor
  ·intro h;cases h
  ·intro h;omega
 ·rw [ou]
  constructor
  ·exact fun h=>⟨by omega,fun i hi=>h i (Nat.zero_le _) (by omega)⟩
  ·exact fun h i _ hi=>h.2 i (by omega)
theorem oa {l:List di} {q:Nat} {u:di} (h:l[q]?=some u):kF l q=0↔(0<=u.time/\u.time<=1000000/\0<=u.sum/\u.sum<=1000000)/\∀ v,0 < q->l[q - 1]?=some v->v.time<=u.time:=by
 unfold kF
 rw [h]
 dsimp only
 have hq:=(List.getElem?_eq_some_iff.1 h).1
 split
 ·constructor
  ·intro h;cases h
  ·intro h;omega
 ·split
  ·rename_i h1 h2
   constructor
   ·intro h;cases h
   ·intro h3
    have hv:l[q - 1]?=some l[q - 1]:=List.getElem?_eq_getElem (by omega)
    have:=h3.2 _ h2.1 hv
    rw [List.getD_eq_getElem?_getD,hv] at h2
    simp only [Option.getD_some] at h2
    omega
  ·rename_i h1 h2
   refine ⟨fun _=>⟨by omega,fun v h3 h4=>?_⟩,fun _=>rfl⟩
   rw [List.getD_eq_getElem?_getD,h4] at h2
   simp only [Option.getD_some] at h2
   omega
theorem kf {l:List di} (h:(fo l).err=0):l.length<=30/\∀ u∈l,0<=u.time/\u.time<=1000000/\0<=u.sum/\u.sum<=1000000:=by
 obtain ⟨h1,h2⟩:=nZ.1 h
 refine ⟨h1,fun u hu=>?_⟩
 obtain ⟨i,hi⟩:=List.getElem?_of_mem hu
 exact ((oa hi).1 (h2 i (List.getElem?_eq_some_iff.1 hi).1)).1
theorem ll (l:List di) (u:di):ix (l++[u])=ix l+u.sum:=by
 induction l with
 |nil=>simp [ix]
 |cons x l ih=>simp only [List.cons_append,ix,ih];omega
theorem zF {l:List di} (h:∀ u∈l,0<=u.time/\u.time<=1000000/\0<=u.sum/\u.sum<=1000000):0<=ix l/\ix l<=1000000 * l.length:=by
 induction l with
 |nil=>simp [ix]
 |cons x l ih=>
  have h1:=ih fun u hu=>h u (List.mem_cons_of_mem _ hu)
  have h2:=h x List.mem_cons_self
  simp only [ix,List.length_cons]
  omega
theorem kM {α:Type} {p:α->Bool} {l:List α} {x:α} (h:x∈dj p l):x∈l:=(List.mem_filter.1 h).1
theorem qN {p:eP} {l:List di} {t:Int} {k:Nat} (h:(fo l).err=0):0<=ix ((dY p l t).take k)/\ix ((dY p l t).take k)<=30000000:=by
 obtain ⟨h1,h2⟩:=kf h
 have h3:=zF (l:=(dY p l t).take k) fun u hu=>h2 u (kM (List.mem_of_mem_take hu))
 have h4:=pR (cj p t) l
 have h5:((dY p l t).take k).length<=(dY p l t).length:=by rw [List.length_take];exact Nat.min_le_right _ _
 have h6:(dY p l t).length<=30:=Nat.le_trans h4 h1
 omega
theorem GY {α:Type} {a b x:α} {q:Nat} (h:[a,b][q]?=some x):(q=0/\x=a)\/(q=1/\x=b):=by
 match q with
 |0=>left;simp_all
 |1=>right;simp_all
 |q+2=>simp at h
theorem nJ {l:List di} {t:Int} {u:di} (h:l[l.length - 1]?=some u):im l t=decide (u.time > t):=by
 unfold im
 rw [List.getLast?_eq_getElem?,h]
end
section
end
section
theorem Df {p:eP} {l r:List di} {x:di} (h:ez p l x=(r,0)):fI p=0/\(fo l).err=0/\(fo [x]).err=0/\im l x.time=false/\((dY p l x.time).length:Int)+1<=p.count/\ix (dY p l x.time)+x.sum<=p.sum/\r=dY p l x.time++[x]:=by
 unfold ez at h
 split at h
 ·rename_i h1;simp only [Prod.mk.injEq] at h;exact absurd h.2 h1
 split at h
 ·rename_i h1;simp only [Prod.mk.injEq] at h;exact absurd h.2 h1
 split at h
 ·rename_i h1;simp only [Prod.mk.injEq] at h;exact absurd h.2 h1
 split at h
 ·simp at h
 split at h
 ·simp at h
 ·rename_i h1 h2 h3 h4 h5
  simp only [Prod.mk.injEq] at h
  exact ⟨by omega,by omega,by omega,by simpa using h4,by omega,by omega,h.1.symm⟩
structure Kept (p:eP) (all kept:List di):Prop where
 times:∀ u∈all,∀ v,all.getLast?=some v->u.time<=v.time
 last:kept.getLast?=all.getLast?
 Jt:∀ t,(∀ v,all.getLast?=some v->v.time<=t)->dY p kept t=dY p all t
 eD:∀ i u,all[i]?=some u->((dY p (all.take (i+1)) u.time).length:Int)<=p.count/\ix (dY p (all.take (i+1)) u.time)<=p.sum
 bound:∀ u∈all,0<=u.time/\u.time<=1000000/\0<=u.sum/\u.sum<=1000000
theorem Kept.nil (p:eP):Kept p [] []:=⟨fun u h=>by simp at h,rfl,fun _ _=>rfl,fun i u h=>by simp at h,fun u h=>by simp at h⟩
theorem pQ (p:di->Bool) (l:List di) (x:di):dj p (l++[x])=dj p l++if p x then [] else [x]:=by
 rw [dj,dj,List.filter_append]
 cases hp:p x<;>simp [hp]
theorem Kept.add {p:eP} {all kept r:List di} {x:di} (h:Kept p all kept) (ha:ez p kept x=(r,0)):Kept p (all++[x]) r:=by
 obtain ⟨h1,h2,h3,h4,h5,h6,rfl⟩:=Df ha
 have hp:=pF h1
 have hl:∀ v,all.getLast?=some v->v.time<=x.time:=fun v hv=>by
  unfold im at h4
  rw [h.last,hv] at h4
  simpa using h4
 have hx:=(kf h3).2 x (by simp)
 have hrec:dY p kept x.time=dY p all x.time:=h.Jt _ hl
 have hold:∀ t,cj p t x=false\/t - p.cM>=x.time:=fun t=>by unfold cj;by_cases h:x.time<=t - p.cM<;>simp [h]
 have hx0:cj p x.time x=false:=by unfold cj;simp;omega
 refine ⟨fun u hu v hv=>?_,by simp,fun t ht=>?_,fun i u hi=>?_,fun u hu=>?_⟩
 ·have hv':v=x:=by simpa using hv.symm
  subst hv'
  rcases List.mem_append.1 hu with hu|hu
  ·cases hg:all.getLast? with
   |none=>rw [List.getLast?_eq_none_iff] at hg;subst hg;simp at hu
   |some w=>have:=h.times u hu w hg;have:=hl w hg;omega
  ·have:u=v:=by simpa using hu
   subst this;omega
 ·have htx:x.time<=t:=ht x (by simp)
  unfold dY
  rw [pQ,pQ]
  congr 1
  show dj (cj p t) (dY p kept x.time)=dj (cj p t) all
  rw [hrec]
  unfold dY dj
  rw [List.filter_filter]
  apply List.filter_congr
  intro u _
  unfold cj
  by_cases h1:u.time<=t - p.cM
  ·simp [h1]
  ·have:¬u.time<=x.time - p.cM:=by omega
   simp [h1,this]
 ·by_cases hi':i < all.length
  ·rw [List.getElem?_append_left hi'] at hi
   rw [List.take_append_of_le_length (by omega)]
   exact h.eD i u hi
  ·have hlt:=(List.getElem?_eq_some_iff.1 hi).1
   simp at hlt
   obtain rfl:i=all.length:=by omega
   have hux:u=x:=by simpa using hi.symm
   subst hux
   rw [List.take_of_length_le (by simp)]
   unfold dY at *
   rw [pQ,hx0,<-hrec]
   simp only [Bool.false_eq_true,if_false,List.length_append,List.length_singleton,ll]
   omega
 ·rcases List.mem_append.1 hu with hu|hu
  ·exact h.bound u hu
  ·have:u=x:=by simpa using hu
   subst this;exact hx
end
section
def cH (c:bD):Int:=
 if c.bB < -1000000000000\/c.bB > 1000000000000\/c.held < 0\/c.held > 1000000000000 then 3 else if fI c.cv≠0 then fI c.cv else (fo c.de).err
def pc:bD:=⟨0,0,⟨0,0,0⟩,[]⟩
def dE (c:bD) (n time:Int):bD×Int:=
 if cH c≠0 then (pc,cH c)
 else if n < 1\/n > 1000000\/time < 0\/time > 1000000 then (pc,3)
 else if c.held+n > c.bB then (pc,10)
 else if (ez c.cv c.de ⟨time,n⟩).2≠0 then (pc,(ez c.cv c.de ⟨time,n⟩).2)
 else (⟨c.bB,c.held+n,c.cv,(ez c.cv c.de ⟨time,n⟩).1⟩,0)
def eW (c:bD) (n:Int):bD×Int:=
 if cH c≠0 then (pc,cH c)
 else if n < 1\/n > 1000000\/c.held+n > 1000000000000 then (pc,3)
 else (⟨c.bB,c.held+n,c.cv,c.de⟩,0)
def eo (c:bD) (held bB:Int):bD×Int:=
 if cH c≠0 then (pc,cH c)
 else if held < -1000000000000\/held > 1000000000000\/bB < -1000000000000\/bB > 1000000000000 then (pc,3)
 else if cH ⟨c.bB+bB,c.held+held,c.cv,c.de⟩≠0 then (pc,10)
 else (⟨c.bB+bB,c.held+held,c.cv,c.de⟩,0)
theorem iy {c:bD} (h:cH c=0):-1000000000000<=c.bB/\c.bB<=1000000000000/\0<=c.held/\c.held<=1000000000000/\fI c.cv=0/\(fo c.de).err=0:=by
 unfold cH at h
 split at h
 ·cases h
 ·split at h
  ·omega
  ·omega
theorem nH {c:bD} (h:-1000000000000<=c.bB/\c.bB<=1000000000000/\0<=c.held/\c.held<=1000000000000) (h1:fI c.cv=0) (h2:(fo c.de).err=0):cH c=0:=by
 unfold cH
 rw [if_neg (by omega),if_neg (by omega),h2]
theorem ow {c:bD} (h:cH c=0):c.de.length<=30:=(kf (iy h).2.2.2.2.2).1
theorem rJ {c x:bD} {a m e:Int} (h:eo c a m=(x,e)):(e≠0/\x=pc/\(e=3->cH c=0->(a < -1000000000000\/a > 1000000000000\/m < -1000000000000\/m > 1000000000000)))\/(e=0/\cH c=0/\-1000000000000<=a/\a<=1000000000000/\-1000000000000<=m/\m<=1000000000000/\x=⟨c.bB+m,c.held+a,c.cv,c.de⟩/\cH x=0):=by
 unfold eo at h
 split at h
 ·rename_i h1;simp only [Prod.mk.injEq] at h;exact .inl ⟨h.2▸h1,h.1.symm,fun _ h3=>absurd h3 h1⟩
 split at h
 ·rename_i h1;simp only [Prod.mk.injEq] at h;exact .inl ⟨by omega,h.1.symm,fun _ _=>h1⟩
 split at h
 ·simp only [Prod.mk.injEq] at h;exact .inl ⟨by omega,h.1.symm,fun h3=>by omega⟩
 ·rename_i h1 h2 h3
  simp only [Prod.mk.injEq] at h
  obtain ⟨rfl,rfl⟩:=h
  exact .inr ⟨rfl,by omega,by omega,by omega,by omega,by omega,rfl,by omega⟩
theorem oU {c x:bD} {n t e:Int} (h:dE c n t=(x,e)):(e≠0/\x=pc/\(e=10->cH c=0->c.held+n > c.bB\/(ez c.cv c.de ⟨t,n⟩).2=10))\/(e=0/\cH c=0/\1<=n/\n<=1000000/\0<=t/\t<=1000000/\c.held+n<=c.bB/\∃ l,ez c.cv c.de ⟨t,n⟩=(l,0)/\x=⟨c.bB,c.held+n,c.cv,l⟩):=by
 unfold dE at h
 split at h
 ·rename_i h1;simp only [Prod.mk.injEq] at h;exact .inl ⟨h.2▸h1,h.1.symm,fun _ h3=>absurd h3 h1⟩
 split at h
 ·simp only [Prod.mk.injEq] at h;exact .inl ⟨by omega,h.1.symm,fun h3=>by omega⟩
 split at h
 ·rename_i h1;simp only [Prod.mk.injEq] at h;exact .inl ⟨by omega,h.1.symm,fun _ _=>.inl h1⟩
 split at h
 ·rename_i h1;simp only [Prod.mk.injEq] at h;exact .inl ⟨h.2▸h1,h.1.symm,fun h3 _=>.inr (h.2.trans h3)⟩
 ·rename_i h1 h2 h3 h4
  simp only [Prod.mk.injEq] at h
  refine .inr ⟨h.2.symm,by omega,by omega,by omega,by omega,by omega,by omega,_,Prod.ext rfl (by simpa using h4),h.1.symm⟩
theorem EZ {p:eP} {l:List di} {x:di} (hp:fI p=0) (hl:(fo l).err=0) (hx:(fo [x]).err=0):(ez p l x).2=0\/(ez p l x).2=2\/(ez p l x).2=11:=by
 unfold ez
 rw [if_neg (by omega),if_neg (by omega),if_neg (by omega)]
 split
 ·exact .inr (.inl rfl)
 ·split
  ·exact .inr (.inr rfl)
  ·exact .inl rfl
theorem Bg {t n:Int} (h:0<=t/\t<=1000000/\0<=n/\n<=1000000):(fo [⟨t,n⟩]).err=0:=by
 refine nZ.2 ⟨by simp,fun i hi=>?_⟩
 have hi:i=0:=by simpa using hi
 subst hi
 exact (oa (u:=⟨t,n⟩) rfl).2 ⟨h,fun v h0=>by omega⟩
end
section
end
section
theorem tM {l:List di}:(fo l).err=0↔l.length<=30/\(∀ u∈l,0<=u.time/\u.time<=1000000/\0<=u.sum/\u.sum<=1000000)/\l.Pairwise fun a b=>a.time<=b.time:=by
 constructor
 ·intro h
  obtain ⟨h1,h2⟩:=nZ.1 h
  refine ⟨h1,(kf h).2,?_⟩
  rw [List.pairwise_iff_getElem]
  have step:∀ i (hi:i+1 < l.length),l[i].time<=l[i+1].time:=fun i hi=>by
   have h3:=((oa (List.getElem?_eq_getElem hi)).1 (h2 (i+1) hi)).2 l[i] (by omega) (List.getElem?_eq_getElem (by omega))
   exact h3
  intro i j hi hj hij
  obtain ⟨k,rfl⟩:∃ k,j=i+1+k:=⟨j - i - 1,by omega⟩
  clear hij
  induction k with
  |zero=>exact step i hj
  |succ k ih=>
   have h4:=ih (by omega)
   have h5:=step (i+1+k) hj
   exact Int.le_trans h4 h5
 ·rintro ⟨h1,h2,h3⟩
  refine nZ.2 ⟨h1,fun i hi=>?_⟩
  refine (oa (List.getElem?_eq_getElem hi)).2 ⟨h2 _ (List.getElem_mem hi),fun v h0 hv=>?_⟩
  rw [List.pairwise_iff_getElem] at h3
  obtain ⟨h5,rfl⟩:=List.getElem?_eq_some_iff.1 hv
  exact h3 (i - 1) i h5 hi (by omega)
theorem vA {p:eP} {l r:List di} {x:di} (h:ez p l x=(r,0)):(fo r).err=0:=by
 obtain ⟨h1,h2,h3,h4,h5,h6,rfl⟩:=Df h
 have hp:=pF h1
 obtain ⟨h7,h8,h9⟩:=tM.1 h2
 have hx:=(kf h3).2 x (by simp)
 refine tM.2 ⟨by rw [List.length_append,List.length_singleton];omega,fun u hu=>?_,?_⟩
 ·rcases List.mem_append.1 hu with hu|hu
  ·exact h8 u (kM hu)
  ·have:u=x:=by simpa using hu
   subst this;exact hx
 ·rw [List.pairwise_append]
  refine ⟨List.Pairwise.filter _ h9,by simp,fun u hu v hv=>?_⟩
  have:v=x:=by simpa using hv
  subst this
  have hu':=kM hu
  have hne:l≠[]:=by intro e;subst e;simp at hu'
  have hlast:(l.getLast hne).time<=v.time:=by
   unfold im at h4
   rw [List.getLast?_eq_some_getLast hne] at h4
   simpa using h4
  refine Int.le_trans ?_ hlast
  obtain ⟨i,hi,rfl⟩:=List.mem_iff_getElem.1 hu'
  rw [List.getLast_eq_getElem]
  by_cases e:i=l.length - 1
  ·subst e;exact Int.le_refl _
  ·rw [List.pairwise_iff_getElem] at h9
   exact h9 i (l.length - 1) hi (by omega) (by omega)
theorem Bf (l:List di):(fo l).err≠10:=by
 have hs:∀ (e:Nat->Int),(∀ q,e q≠10)->∀ n q,(scan e q n).1≠10:=by
  intro e he n
  induction n with
  |zero=>intro q;simp [scan]
  |succ n ih=>intro q;rw [scan];split;exact he q;exact ih (q+1)
 unfold fo de
 dsimp only
 split
 ·decide
 ·refine hs _ (fun q=>?_) _ _
  unfold kF
  split
  ·split
   ·decide
   ·split<;>decide
  ·decide
theorem xS (c:bD):cH c≠10:=by
 unfold cH
 split
 ·decide
 ·split
  ·unfold fI jP;split<;>decide
  ·exact Bf _
theorem rq {c x:bD} {n t e:Int} (h:dE c n t=(x,e)):(e=0->cH c=0/\cH x=0/\x.bB=c.bB/\x.held=c.held+n/\1<=n/\n<=1000000/\c.held+n<=c.bB)/\(e=10->cH c=0/\c.held+n > c.bB)/\(e≠0->x=pc):=by
 have hw:=xS c
 rcases oU h with ⟨h1,h2,h3⟩|⟨h1,h2,h3,h4,h5,h6,h7,l,h8,rfl⟩
 ·refine ⟨fun h0=>absurd h0 h1,fun h0=>?_,fun _=>h2⟩
  have hc:cH c=0:=by
   unfold dE at h
   split at h
   ·simp only [Prod.mk.injEq] at h;omega
   ·omega
  refine ⟨hc,?_⟩
  rcases h3 h0 hc with h4|h4
  ·exact h4
  ·unfold dE at h
   split at h
   ·simp only [Prod.mk.injEq] at h;omega
   split at h
   ·simp only [Prod.mk.injEq] at h;omega
   split at h
   ·omega
   ·have hr:=iy hc
    rcases EZ (x:=⟨t,n⟩) hr.2.2.2.2.1 hr.2.2.2.2.2 (Bg (by omega)) with h5|h5|h5<;>omega
 ·have hr:=iy h2
  exact ⟨fun _=>⟨h2,nH (by dsimp only;omega) hr.2.2.2.2.1 (vA h8),rfl,rfl,h3,h4,h7⟩,fun h0=>by omega,fun h0=>absurd h1 h0⟩
end
section

end
section
def nn (s:bO) (q:Nat):Int:=
 match s.kept[q]? with
 |some t=>if t.kind < 1\/t.kind > 3 then 1 else if t.ba < 0\/t.ba > 29\/t.sum < 1\/t.sum > 1000000 then 3 else if t.number≠s.bG - s.kept.length+1+q then 2 else 0
 |none=>0
def jX (s:bO):Int×Int:=
 if s.kept.length > 40 then (5,0) else if s.bG < s.kept.length\/s.bG > 1000000 then (3,0) else scan (nn s) 0 s.kept.length
def cF (s:bO):cV:=⟨(jX s).1,(jX s).2⟩
def yQ:bO:=⟨0,[]⟩
def gO (s:bO) (t:aS):bO:=⟨s.bG+1,s.kept++[⟨s.bG+1,t.kind,t.ba,t.sum⟩]⟩
def gX (s:bO) (t:aS):bO×Int:=
 if (cF s).err≠0 then (yQ,(cF s).err)
 else if (cF (gO s t)).err≠0 then (yQ,(cF (gO s t)).err) else (gO s t,0)
def came (seen:Int) (t:aS):Bool:=decide (t.number<=seen)
def eg (s:bO) (seen:Int):bO×Int:=
 if (cF s).err≠0 then (yQ,(cF s).err)
 else if seen < 0\/seen > s.bG then (yQ,3) else (⟨s.bG,dj (came seen) s.kept⟩,0)
def fg (seen:Int) (t:aS):Int×Bool:=
 if seen < 0\/seen>=1000000\/t.number≠seen+1 then (seen,false) else (seen+1,true)
theorem lS {s:bO}:(cF s).err=0↔s.kept.length<=40/\(s.kept.length:Int)<=s.bG/\s.bG<=1000000/\∀ i,i < s.kept.length->nn s i=0:=by
 unfold cF jX
 dsimp only
 split
 ·constructor
  ·intro h;cases h
  ·intro h;omega
 ·split
  ·constructor
   ·intro h;cases h
   ·intro h;omega
  ·rw [ou]
   constructor
   ·exact fun h=>⟨by omega,by omega,by omega,fun i hi=>h i (Nat.zero_le _) (by omega)⟩
   ·exact fun h i _ hi=>h.2.2.2 i (by omega)
theorem vZ {s:bO} {q:Nat} {t:aS} (h:s.kept[q]?=some t):nn s q=0↔1<=t.kind/\t.kind<=3/\0<=t.ba/\t.ba<=29/\1<=t.sum/\t.sum<=1000000/\t.number=s.bG - s.kept.length+1+q:=by
 unfold nn
 rw [h]
 dsimp only
 split
 ·constructor
  ·intro h;cases h
  ·intro h;omega
 ·split
  ·constructor
   ·intro h;cases h
   ·intro h;omega
  ·split
   ·constructor
    ·intro h;cases h
    ·intro h;omega
   ·constructor
    ·intro _;omega
    ·intro _;rfl
theorem ia {s:bO} (h:(cF s).err=0):s.kept.length<=40/\(s.kept.length:Int)<=s.bG/\s.bG<=1000000/\∀ (i:Nat) (t:aS),s.kept[i]?=some t->1<=t.kind/\t.kind<=3/\0<=t.ba/\t.ba<=29/\1<=t.sum/\t.sum<=1000000/\t.number=s.bG - s.kept.length+1+i:=by
 obtain ⟨h1,h2,h3,h4⟩:=lS.1 h
 exact ⟨h1,h2,h3,fun i t ht=>(vZ ht).1 (h4 i (List.getElem?_eq_some_iff.1 ht).1)⟩
theorem FG {s:bO} (h1:s.kept.length<=40) (h2:(s.kept.length:Int)<=s.bG) (h3:s.bG<=1000000) (h4:∀ (i:Nat) (t:aS),s.kept[i]?=some t->1<=t.kind/\t.kind<=3/\0<=t.ba/\t.ba<=29/\1<=t.sum/\t.sum<=1000000/\t.number=s.bG - s.kept.length+1+i):(cF s).err=0:=
 lS.2 ⟨h1,h2,h3,fun i hi=>by
  have ht:s.kept[i]?=some s.kept[i]:=List.getElem?_eq_getElem hi
  exact (vZ ht).2 (h4 i _ ht)⟩
theorem uY {s:bO} (h:(cF s).err=0) (seen:Int):dj (came seen) s.kept=s.kept.drop (seen - (s.bG - s.kept.length)).toNat:=by
 obtain ⟨h1,h2,h3,h4⟩:=ia h
 have gen:∀ (l:List aS) (a:Int),(∀ (i:Nat) (t:aS),l[i]?=some t->t.number=a+1+i)->dj (came seen) l=l.drop (seen - a).toNat:=by
  intro l
  induction l with
  |nil=>intro a _;simp [dj]
  |cons t l ih=>
   intro a ha
   have ht:=ha 0 t rfl
   have ih:=ih (a+1) fun i u hu=>by have:=ha (i+1) u (by simpa using hu);omega
   unfold dj at ih ⊢
   rw [List.filter_cons]
   by_cases hs:t.number<=seen
   ·have h0:came seen t=true:=by simp [came,hs]
    rw [h0,if_neg (by simp),ih]
    have:(seen - a).toNat=(seen - (a+1)).toNat+1:=by omega
    rw [this,List.drop_succ_cons]
   ·have h0:came seen t=false:=by simp [came,hs]
    rw [h0,if_pos (by simp),ih]
    have h1:(seen - (a+1)).toNat=0:=by omega
    have h2:(seen - a).toNat=0:=by omega
    rw [h1,h2];rfl
 exact gen s.kept _ fun i t ht=>(h4 i t ht).2.2.2.2.2.2
end
section
theorem qG {s x:bO} {seen e:Int} (h:eg s seen=(x,e)):(e≠0/\x=yQ)\/(e=0/\(cF s).err=0/\0<=seen/\seen<=s.bG/\x=⟨s.bG,dj (came seen) s.kept⟩):=by
 unfold eg at h
 split at h
 ·rename_i h1;simp only [Prod.mk.injEq] at h;exact .inl ⟨h.2▸h1,h.1.symm⟩
 split at h
 ·simp only [Prod.mk.injEq] at h;exact .inl ⟨by omega,h.1.symm⟩
 ·simp only [Prod.mk.injEq] at h;exact .inr ⟨h.2.symm,by omega,by omega,by omega,h.1.symm⟩
theorem AQ {s:bO} {seen:Int} (h:(cF s).err=0) (h0:0<=seen) (h1:seen<=s.bG):(cF ⟨s.bG,dj (came seen) s.kept⟩).err=0:=by
 obtain ⟨h2,h3,h4,h5⟩:=ia h
 rw [uY h]
 generalize hd:(seen - (s.bG - s.kept.length)).toNat=d
 refine FG (by simp;omega) (by simp;omega) h4 fun i t ht=>?_
 rw [List.getElem?_drop] at ht
 have h6:=h5 (d+i) t ht
 have hlt:=(List.getElem?_eq_some_iff.1 ht).1
 simp only [List.length_drop]
 omega
end
theorem aM.Ju {P:Program} {o:Oper} {st:aL} {nb:List (Nat×AB)} {E:List Nat} {cs cs':List CV} (i K:Nat) (g:aM P o st (.v (.g cs)) nb E) (hc:cs[i]?=some cN) (he:cs.set i (cR K [])=cs'):aM P o st (.v (.g cs')) nb E:=by
 subst he
 refine fun σ T a w C hn=>iJ (g σ T a w C hn) ?_
 rintro a w ⟨u,σ',T',h1,h2,vs,hv,hall⟩
 refine ⟨u,σ',T',h1,h2,vs,hv,?_⟩
 obtain ⟨v,hv',hr⟩:=hall.get hc
 have hnil:v=.slice none 0 0:=bw.inv hr
 have hs:=hall.set (x:=cR K []) (y:=v) (by rw [hnil];exact bw.nil K none 0) i
 have e:vs.set i v=vs:=by
  apply List.ext_getElem?
  intro m
  rw [List.getElem?_set]
  split
  ·rename_i e;subst e
   split
   ·exact hv'.symm
   ·rename_i hlt;exact absurd (List.getElem?_eq_some_iff.1 hv').1 hlt
  ·rfl
 rwa [e] at hs
section

structure TI where
 fs:List (Nat×Nat)
 agg:Bool
 size:Nat
 zero:List Value
structure Fa (P:Program) (t:TypeId) (i:TI):Prop where
 Jf:∃ d,P.underlying t=some d/\lO d=i.agg
 Hi:i.fs=[]\/((Program.fieldsOf P t).bind fun fs=>fs.toList.mapM fun f=>(P.info? f.type).map fun i=>(f.offset,i.size))=some i.fs
 size:(P.info? t).map (·.size)=some i.size
 zero:i.zero=[]\/(((P.info? t).bind (·.zero)).map (fun v=>v.cells.toList)=some i.zero/\i.zero.all (·.oneCell')=true)
def gQ (P:Program):List (Nat×TI)->Prop
 |[]=>True
 |x::l=>Fa P x.1 x.2/\gQ P l
theorem gQ.get {P:Program}:∀ {T:List (Nat×TI)},gQ P T->∀ {t:Nat} {i:TI},look T t=some i->Fa P t i
 |x::l,h,t,i,hl=>by
  obtain ⟨k,j⟩:=x
  rw [bZ] at hl
  split at hl
  ·rename_i e;injection hl with hl;subst e hl;exact h.1
  ·exact gQ.get h.2 hl
def vL:Nat->List CV->Option (List CV)
 |0,_=>some []
 |_+1,[]=>none
 |n+1,c::l=>match vL n l with
  |some r=>some (c::r)
  |none=>none
theorem vY:∀ {n:Nat} {l r:List CV},vL n l=some r->l.take n=r/\r.length=n
 |0,l,r,h=>by cases h;simp
 |n+1,[],r,h=>by cases h
 |n+1,c::l,r,h=>by
  unfold vL at h
  split at h
  ·rename_i r' h';injection h with h;subst h
   obtain ⟨h1,h2⟩:=vY h'
   simp [h1,h2]
  ·cases h
def yN:List CV->List CV->Option (List CV)
 |cs,[]=>some cs
 |[],_::_=>none
 |_::cs,x::xs=>match yN cs xs with
  |some r=>some (x::r)
  |none=>none
theorem BJ:∀ {cs xs r:List CV},yN cs xs=some r->xs.length<=cs.length/\r=xs++cs.drop xs.length
 |cs,[],r,h=>by unfold yN at h;injection h with h;subst h;simp
 |[],_::_,r,h=>by cases h
 |c::cs,x::xs,r,h=>by
  unfold yN at h
  split at h
  ·rename_i r' h';injection h with h;subst h
   obtain ⟨h1,h2⟩:=BJ h'
   simp [h2];omega
  ·cases h
def kJ:List CV->Nat->List CV->Option (List CV)
 |cs,0,xs=>yN cs xs
 |[],_+1,_=>none
 |c::cs,n+1,xs=>match kJ cs n xs with
  |some r=>some (c::r)
  |none=>none
theorem kI:∀ {cs:List CV} {n:Nat} {xs r:List CV},kJ cs n xs=some r->n+xs.length<=cs.length/\cs.take n++xs++cs.drop (n+xs.length)=r
 |cs,0,xs,r,h=>by
  have h:yN cs xs=some r:=by cases cs<;>exact h
  obtain ⟨h1,h2⟩:=BJ h
  simp [h2];omega
 |[],n+1,xs,r,h=>by cases h
 |c::cs,n+1,xs,r,h=>by
  unfold kJ at h
  split at h
  ·rename_i r' h';injection h with h;subst h
   obtain ⟨h1,h2⟩:=kI h'
   refine ⟨by simp;omega,?_⟩
   rw [show n+1+xs.length=n+xs.length+1 by omega]
   simp [<-h2]
  ·cases h
def mo:List (Nat×AB)->Nat->AB->Option (List (Nat×AB))
 |[],_,_=>none
 |(j,x)::l,k,b=>bif Nat.beq j k then some ((j,b)::l) else match mo l k b with
  |some r=>some ((j,x)::r)
  |none=>none
theorem nE:∀ {l:List (Nat×AB)} {k:Nat} {b:AB} {r:List (Nat×AB)},mo l k b=some r->lk l k b=r
 |(j,x)::l,k,b,r,h=>by
  unfold mo at h
  unfold lk
  cases hjk:Nat.beq j k with
  |true=>rw [hjk] at h;simpa using h
  |false=>
   rw [hjk] at h
   simp only [cond_false] at h ⊢
   split at h
   ·rename_i r' h';injection h with h;subst h;rw [nE h']
   ·cases h
def nX:List Value->Option (List CV)
 |[]=>some []
 |v::l=>match nX l with
  |some r=>some (.d (.v v)::r)
  |none=>none
theorem mn:∀ {l:List Value} {r:List CV},nX l=some r->(l.map fun x=>CV.d (.v x))=r
 |[],r,h=>by cases h;rfl
 |v::l,r,h=>by
  unfold nX at h
  split at h
  ·rename_i r' h';injection h with h;subst h;rw [<-mn h'];rfl
  ·cases h
def zO:List D->Option (List CV)
 |[]=>some []
 |v::l=>match zO l with
  |some r=>some (.d v::r)
  |none=>none
theorem yC:∀ {l:List D} {r:List CV},zO l=some r->l.map CV.d=r
 |[],r,h=>by cases h;rfl
 |v::l,r,h=>by
  unfold zO at h
  split at h
  ·rename_i r' h';injection h with h;subst h;rw [<-yC h'];rfl
  ·cases h
def sY (s:List (Nat×AV)):List (Nat×Operand)->Option (List (Nat×GV))
 |[]=>some []
 |(i,x)::l=>match jv s x with
  |some (.v g)=>match sY s l with
   |some r=>some ((i,g)::r)
   |none=>none
  |_=>none
theorem uN {s:List (Nat×AV)} {h:List (Nat×AB)} {n:Nat}:∀ {l:List (Nat×Operand)} {r:List (Nat×GV)},sY s l=some r->Dj ⟨s,h,n⟩ l r
 |[],r,hr=>by cases hr;trivial
 |(i,x)::l,r,hr=>by
  unfold sY at hr
  split at hr
  ·rename_i g hg
   split at hr
   ·rename_i r' h';injection hr with hr;subst hr;exact ⟨⟨rfl,eR hg⟩,uN h'⟩
   ·cases hr
  ·cases hr
def tp (places:List (Nat×Nat)):List CV->List (Nat×GV)->Option (List CV)
 |cells,[]=>some cells
 |cells,(i,g)::rest=>match places[i]? with
  |none=>none
  |some (off,size)=>bif Nat.beq (eS g).length size then (match kJ cells off (eS g) with
   |some c=>tp places c rest
   |none=>none) else none
theorem xh {places:List (Nat×Nat)}:∀ {l:List (Nat×GV)} {cells r:List CV},tp places cells l=some r->lZ (fun i=>places[i]?) cells (l.map fun y=>(y.1,eS y.2))=some r
 |[],cells,r,h=>by unfold tp at h;exact h
 |(i,g)::rest,cells,r,h=>by
  unfold tp at h
  split at h
  ·cases h
  rename_i off size hp
  cases hs:Nat.beq (eS g).length size with
  |false=>rw [hs] at h;cases h
  |true=>
   rw [hs] at h
   simp only [cond_true] at h
   split at h
   ·rename_i c hc
    obtain ⟨h1,h2⟩:=kI hc
    show lZ _ cells ((i,eS g)::rest.map _)=_
    unfold lZ
    rw [hp]
    dsimp only
    rw [if_pos ⟨Nat.eq_of_beq_eq_true hs,h1⟩,h2]
    exact xh h
   ·cases h
def Hm:IntKind->IntKind->Bool
 |.i64,.i64=>true
 |.u8,.u8=>true
 |_,_=>false
theorem Hl {a b:IntKind} (h:Hm a b=true):a=b:=by cases a<;>cases b<;>first|rfl|cases h
def CD (T:List (Nat×TI)) (s:List (Nat×AV)) (h:List (Nat×AB)):Op->Option AV
 |.move x=>jv s x
 |.assign x=>jv s x
 |.pick c x y=>match jv s c with
  |some (.v (.c (.d (.v (.bool b)))))=>jv s (bif b then x else y)
  |_=>none
 |.nilCheck x=>match jv s x with
  |some v=>bif wF v then some v else none
  |none=>none
 |.fieldAddr t x i=>match look T t with
  |none=>none
  |some ti=>match ti.fs[i]? with
   |none=>none
   |some (off,sz)=>bif Nat.beq sz 0 then none else (match jv s x with
    |some (.v (.c (.p k r K o)))=>some (.v (.c (.p k r K (o+off))))
    |some (.v (.c (.q row o)))=>some (.v (.c (.q row (o+off))))
    |_=>none)
 |.load t x=>match look T t with
  |none=>none
  |some ti=>match jv s x with
   |some (.v (.c (.q row j)))=>bif ti.agg then (bif Nat.beq j 0 && Nat.beq row.length ti.size then (match zO row with
     |some xs=>some (.v (.g xs))
     |none=>none) else none) else (match row[j]? with
    |some d=>some (.v (.c (.d d)))
    |none=>none)
   |some (.v (.c (.p k r K j)))=>bif Nat.beq r 0 && Nat.beq K 0 then (match look h k with
    |some (.box _ cs)=>bif ti.agg then (match vL ti.size (cs.drop j) with
      |some xs=>some (.v (.g xs))
      |none=>none) else (match cs[j]? with
     |some c=>some (.v (.c c))
     |none=>none)
    |_=>none) else none
   |_=>none
 |.binOp op _ x y _=>match jv s x with
  |some (.v (.c (.d (.v (.int k a)))))=>(match jv s y with
   |some (.v (.c (.d (.v (.int k' b)))))=>bif Hm k k' then (match AM op k a b with
    |some c=>some (.v (.c (.d (.v c))))
    |none=>none) else none
   |_=>none)
  |_=>none
 |.unOp .not _ x=>match jv s x with
  |some (.v (.c (.d (.v (.bool b)))))=>some (.v (.c (.d (.v (.bool !b)))))
  |_=>none
 |.extract x i=>match jv s x with
  |some (.t gs)=>(match gs[i]? with
   |some g=>some (.v g)
   |none=>none)
  |_=>none
 |.build t parts=>match look T t with
  |none=>none
  |some ti=>bif ti.fs.isEmpty||ti.zero.isEmpty then none else (match sY s parts.toList with
   |none=>none
   |some ps=>bif ps.all (fun y=>y.2.known) then (match nX ti.zero with
    |none=>none
    |some z=>match tp ti.fs z ps with
     |some cs=>some (.v (.g cs))
     |none=>none) else none)
 |_=>none
theorem yf {P:Program} {t:TypeId} {ti:TI} (hT:Fa P t ti) {i off sz:Nat} (hf:ti.fs[i]?=some (off,sz)):∃ fs f,P.underlying t=some (.struct fs)/\fs[i]?=some f/\f.offset=off/\(P.info? f.type).map (·.size)=some sz:=by
 rcases hT.Hi with h|h
 ·rw [h] at hf;cases hf
 ·cases hfs:Program.fieldsOf P t with
  |none=>rw [hfs] at h;cases h
  |some fs=>
   rw [hfs] at h
   simp only [Option.bind_some] at h
   have hu:P.underlying t=some (.struct fs):=by
    unfold Program.fieldsOf at hfs
    split at hfs
    ·rename_i e;injection hfs with hfs;subst hfs;exact e
    ·cases hfs
   have gen:∀ (l:List Field) (r:List (Nat×Nat)) (i:Nat),(l.mapM fun f=>(P.info? f.type).map fun i=>(f.offset,i.size))=some r->r[i]?=some (off,sz)->∃ f,l[i]?=some f/\f.offset=off/\(P.info? f.type).map (·.size)=some sz:=by
    intro l
    induction l with
    |nil=>intro r i h1 h2;simp at h1;subst h1;simp at h2
    |cons f l ih=>
     intro r i h1 h2
     simp only [List.mapM_cons] at h1
     cases hi:P.info? f.type with
     |none=>rw [hi] at h1;simp at h1
     |some inf=>
      rw [hi] at h1
      cases hr:(l.mapM fun f=>(P.info? f.type).map fun i=>(f.offset,i.size)) with
      |none=>rw [hr] at h1;simp at h1
      |some r'=>
       rw [hr] at h1
       simp at h1
       subst h1
       cases i with
       |zero=>simp at h2;exact ⟨f,rfl,h2.1,by rw [hi];simp [h2.2]⟩
       |succ i=>simp at h2;obtain ⟨g,h3,h4,h5⟩:=ih r' i hr h2;exact ⟨g,by simpa using h3,h4,h5⟩
   obtain ⟨f,h1,h2,h3⟩:=gen fs.toList ti.fs i h hf
   exact ⟨fs,f,hu,by simpa using h1,h2,h3⟩
theorem xi {P:Program} {T:List (Nat×TI)} (hT:gQ P T) {o:Oper} {s:List (Nat×AV)} {h:List (Nat×AB)} {n:Nat} {v:AV} (he:CD T s h o.op=some v):aM P o ⟨s,h,n⟩ v [] []:=by
 unfold CD at he
 split at he
 ·rename_i x ho;exact Hc ho (eR he)
 ·rename_i x ho;exact Ep ho (eR he)
 ·rename_i c x y ho
  split at he
  ·rename_i b hb;exact Ha ho (eR hb) (by cases b<;>exact eR he)
  ·cases he
 ·rename_i x ho
  split at he
  ·rename_i v' hv
   cases hn:wF v' with
   |true=>rw [hn] at he;injection he with he;subst he;exact Am ho (eR hv) hn
   |false=>rw [hn] at he;cases he
  ·cases he
 ·rename_i t x i ho
  split at he
  ·cases he
  rename_i ti ht
  split at he
  ·cases he
  rename_i off sz hf
  cases hz:Nat.beq sz 0 with
  |true=>rw [hz] at he;cases he
  |false=>
   rw [hz] at he
   simp only [cond_false] at he
   obtain ⟨fs,f,h1,h2,h3,h4⟩:=yf (hT.get ht) hf
   have hne:sz≠0:=fun e=>by subst e;cases hz
   split at he
   ·rename_i k r K o' hx;injection he with he;subst he h3;exact Em ho (eR hx) h1 h2 h4 hne
   ·rename_i row o' hx;injection he with he;subst he h3;exact El ho (eR hx) h1 h2 h4 hne
   ·cases he
 ·rename_i t x ho
  split at he
  ·cases he
  rename_i ti ht
  obtain ⟨d,hu,hd⟩:=(hT.get ht).Jf
  split at he
  ·rename_i row j hx
   cases ha:ti.agg with
   |true=>
    rw [ha] at he
    simp only [cond_true] at he
    cases hc:(Nat.beq j 0 && Nat.beq row.length ti.size) with
    |false=>rw [hc] at he;cases he
    |true=>
     rw [hc] at he
     simp only [cond_true] at he
     rw [Bool.and_eq_true] at hc
     have hj:=Nat.eq_of_beq_eq_true hc.1
     subst hj
     split at he
     ·rename_i xs hxs;injection he with he;subst he
      exact Ei ho (eR hx) hu (hd.trans ha) (hT.get ht).size (Nat.eq_of_beq_eq_true hc.2) (yC hxs)
     ·cases he
   |false=>
    rw [ha] at he
    simp only [cond_false] at he
    split at he
    ·rename_i c hc;injection he with he;subst he;exact FZ ho (eR hx) hu (hd.trans ha) hc
    ·cases he
  ·rename_i k r K j hx
   cases hc:(Nat.beq r 0 && Nat.beq K 0) with
   |false=>rw [hc] at he;cases he
   |true=>
    rw [hc] at he
    simp only [cond_true] at he
    rw [Bool.and_eq_true] at hc
    have hr:=Nat.eq_of_beq_eq_true hc.1
    have hK:=Nat.eq_of_beq_eq_true hc.2
    subst hr hK
    split at he
    ·rename_i bt cs hb
     cases ha:ti.agg with
     |true=>
      rw [ha] at he
      simp only [cond_true] at he
      split at he
      ·rename_i xs hxs;injection he with he;subst he
       obtain ⟨h1,h2⟩:=vY hxs
       exact Ej ho (eR hx) hb hu (hd.trans ha) (hT.get ht).size h1 h2
      ·cases he
     |false=>
      rw [ha] at he
      simp only [cond_false] at he
      split at he
      ·rename_i c hc';injection he with he;subst he;exact Ga ho (eR hx) hb hu (hd.trans ha) hc'
      ·cases he
    ·cases he
  ·cases he
 ·rename_i op xt x y yt ho
  split at he
  ·rename_i k a hx
   split at he
   ·rename_i k' b hy
    cases hk:Hm k k' with
    |false=>rw [hk] at he;cases he
    |true=>
     rw [hk] at he
     have:=Hl hk
     subst this
     simp only [cond_true] at he
     split at he
     ·rename_i c hc;injection he with he;subst he;exact aN ho (eR hx) (eR hy) hc
     ·cases he
   ·cases he
  ·cases he
 ·rename_i t x ho
  split at he
  ·rename_i b hb;injection he with he;subst he;exact Hb ho (eR hb)
  ·cases he
 ·rename_i x i ho
  split at he
  ·rename_i gs hx
   split at he
   ·rename_i g hg;injection he with he;subst he;exact CB ho (eR hx) hg
   ·cases he
  ·cases he
 ·rename_i t parts ho
  split at he
  ·cases he
  rename_i ti ht
  cases hc:(ti.fs.isEmpty||ti.zero.isEmpty) with
  |true=>rw [hc] at he;cases he
  |false=>
   rw [hc] at he
   simp only [cond_false] at he
   rw [Bool.or_eq_false_iff] at hc
   split at he
   ·cases he
   rename_i ps hps
   cases hk:ps.all (fun y=>y.2.known) with
   |false=>rw [hk] at he;cases he
   |true=>
    rw [hk] at he
    simp only [cond_true] at he
    split at he
    ·cases he
    rename_i z hz
    split at he
    ·rename_i cs hcs;injection he with he;subst he
     have h1:ti.fs≠[]:=fun e=>by rw [e] at hc;simp at hc
     have h2:ti.zero≠[]:=fun e=>by rw [e] at hc;simp at hc
     have h3:=(hT.get ht).Hi.resolve_left h1
     have h4:=(hT.get ht).zero.resolve_left h2
     exact ze ho ⟨h4.1,h3⟩ h4.2 (uN hps) hk (by rw [mn hz];exact xh hcs)
    ·cases he
 ·cases he
def GF (T:List (Nat×TI)) (N:Nat) (o:Oper) (s:List (Nat×AV)) (h:List (Nat×AB)) (n:Nat):Option (List (Nat×AV)×List (Nat×AB)×Nat):=
 match o.op with
 |.alloc t=>match look T t with
  |none=>none
  |some ti=>match o.dst with
   |none=>none
   |some d=>bif ti.zero.isEmpty||!Nat.blt d N then none else (match nX ti.zero with
    |some cs=>some ((d,.v (.c (.p n 0 0 0)))::s,(n,.box t cs)::h,n+1)
    |none=>none)
 |.box t x=>match o.dst with
  |none=>none
  |some d=>bif Nat.blt d N then (match jv s x with
   |some (.v (.c c))=>bif c.known then some ((d,.v (.c (.p n 0 0 0)))::s,(n,.box t [c])::h,n+1) else none
   |some (.v (.g cs))=>some ((d,.v (.c (.p n 0 0 0)))::s,(n,.box t cs)::h,n+1)
   |_=>none) else none
 |.store t x y=>match look T t with
  |none=>none
  |some ti=>match o.dst with
   |some _=>none
   |none=>match jv s x with
    |some (.v (.c (.p k r K j)))=>bif Nat.beq r 0 && Nat.beq K 0 && Nat.blt k n then (match jv s y with
     |some (.v gv)=>bif (eS gv).all CV.known && Nat.beq (eS gv).length ti.size then (match look h k with
      |some (.box bt cs)=>(match kJ cs j (eS gv) with
       |some cs'=>(match mo h k (.box bt cs') with
        |some h'=>some (s,h',n)
        |none=>none)
       |none=>none)
      |_=>none) else none
     |_=>none) else none
    |_=>none
 |op=>match CD T s h op with
  |none=>none
  |some v=>match o.dst with
   |none=>none
   |some d=>bif Nat.blt d N then some ((d,v)::s,h,n) else none
def wq (ops:Array Oper) (T:List (Nat×TI)) (N:Nat) (o:Oper) (s:List (Nat×AV)) (h:List (Nat×AB)) (n:Nat):Option (List (Nat×AV)×List (Nat×AB)×Nat):=
 match pW ops s o with
 |some false=>(match o.dst with
  |some d=>bif Nat.blt d N then some ((d,.t [])::s,h,n) else none
  |none=>none)
 |some true=>GF T N o s h n
 |none=>none
def wo (ops:Array Oper) (T:List (Nat×TI)) (N:Nat):Nat->List Oper->List (Nat×AV)->List (Nat×AB)->Nat->Option (List Oper×List (Nat×AV)×List (Nat×AB)×Nat)
 |0,l,s,h,n=>some (l,s,h,n)
 |_+1,[],s,h,n=>some ([],s,h,n)
 |k+1,o::l,s,h,n=>match wq ops T N o s h n with
  |some (s',h',n')=>wo ops T N k l s' h' n'
  |none=>none
section
variable {P:Program} {W0:World} {F:Nat->Prop} {N:NT} {T0:Nat->Prop} {pin:List (Nat×bT)} {ops:Array Oper} {Q:Exit->aL->Prop}
theorem Gs {T:List (Nat×TI)} (hT:gQ P T) {o:Oper} {l:List Oper} {s s':List (Nat×AV)} {h h':List (Nat×AB)} {n n':Nat} (hr:Dev.wq ops T N.1 o s h n=some (s',h',n')) (k:AL P W0 F N T0 pin ops Q l ⟨s',h',n'⟩):AL P W0 F N T0 pin ops Q (o::l) ⟨s,h,n⟩:=by
 unfold Dev.wq at hr
 split at hr
 ·rename_i hg
  split at hr
  ·rename_i d hd
   cases hN:Nat.blt d N.1 with
   |false=>rw [hN] at hr;cases hr
   |true=>
    rw [hN] at hr
    simp only [cond_true] at hr
    injection hr with hr;injection hr with h1 h2;injection h2 with h2 h3
    subst h1 h2 h3
    exact Jd ((iS hg).2 rfl) hd hN k
  ·cases hr
 ·rename_i hg
  have hw:aq ops o ⟨s,h,n⟩:=(iS hg).1 rfl
  unfold GF at hr
  split at hr
  ·rename_i t ho
   split at hr
   ·cases hr
   rename_i ti ht
   split at hr
   ·cases hr
   rename_i d hd
   cases hc:(ti.zero.isEmpty||!Nat.blt d N.1) with
   |true=>rw [hc] at hr;cases hr
   |false=>
    rw [hc] at hr
    simp only [cond_false] at hr
    rw [Bool.or_eq_false_iff] at hc
    split at hr
    ·rename_i cs hcs
     injection hr with hr;injection hr with h1 h2;injection h2 with h2 h3
     subst h1 h2 h3
     have h2:ti.zero≠[]:=fun e=>by rw [e] at hc;simp at hc
     have h4:=(hT.get ht).zero.resolve_left h2
     cases hz:(P.info? t).bind (·.zero) with
     |none=>rw [hz] at h4;exact absurd h4.1 (by simp)
     |some z=>
      rw [hz] at h4
      refine xQ hw (ue n ho hz (Option.some.inj h4.1) h4.2 (mn hcs)) hd (by simpa using hc.2) rfl k
    ·cases hr
  ·rename_i t x ho
   split at hr
   ·cases hr
   rename_i d hd
   cases hN:Nat.blt d N.1 with
   |false=>rw [hN] at hr;cases hr
   |true=>
    rw [hN] at hr
    simp only [cond_true] at hr
    split at hr
    ·rename_i c hx
     cases hk:c.known with
     |false=>rw [hk] at hr;cases hr
     |true=>
      rw [hk] at hr
      simp only [cond_true] at hr
      injection hr with hr;injection hr with h1 h2;injection h2 with h2 h3
      subst h1 h2 h3
      exact xQ hw (xe n ho (eR hx) hk) hd hN rfl k
    ·rename_i cs hx
     injection hr with hr;injection hr with h1 h2;injection h2 with h2 h3
     subst h1 h2 h3
     exact xQ hw (xd n ho (eR hx)) hd hN rfl k
    ·cases hr
  ·rename_i t x y ho
   split at hr
   ·cases hr
   rename_i ti ht
   split at hr
   ·cases hr
   rename_i hd
   split at hr
   ·rename_i kk r K j hx
    cases hc:(Nat.beq r 0 && Nat.beq K 0 && Nat.blt kk n) with
    |false=>rw [hc] at hr;cases hr
    |true=>
     rw [hc] at hr
     simp only [cond_true] at hr
     simp only [Bool.and_eq_true] at hc
     obtain ⟨⟨c1,c2⟩,c3⟩:=hc
     have c1:=Nat.eq_of_beq_eq_true c1
     have c2:=Nat.eq_of_beq_eq_true c2
     subst c1 c2
     split at hr
     ·rename_i gv hy
      cases hk:((eS gv).all CV.known && Nat.beq (eS gv).length ti.size) with
      |false=>rw [hk] at hr;cases hr
      |true=>
       rw [hk] at hr
       simp only [cond_true] at hr
       rw [Bool.and_eq_true] at hk
       split at hr
       ·rename_i bt cs hb
        split at hr
        ·rename_i cs' hcs
         split at hr
         ·rename_i h2 hh
          injection hr with hr;injection hr with e1 e2;injection e2 with e2 e3
          subst e1 e2 e3
          obtain ⟨p1,p2⟩:=kI hcs
          have hl:=Nat.eq_of_beq_eq_true hk.2
          exact Dl hw (xa ho (eR hx) (eR hy) hb hk.1 (hT.get ht).size hl (by rw [<-hl];exact p1) (by rw [<-hl];exact p2)) hd hb c3 (nE hh) k
         ·cases hr
        ·cases hr
       ·cases hr
     ·cases hr
   ·cases hr
  ·split at hr
   ·cases hr
   rename_i v hv
   split at hr
   ·cases hr
   rename_i d hd
   cases hN:Nat.blt d N.1 with
   |false=>rw [hN] at hr;cases hr
   |true=>
    rw [hN] at hr
    simp only [cond_true] at hr
    injection hr with hr;injection hr with h1 h2;injection h2 with h2 h3
    subst h1 h2 h3
    exact dG hw (xi hT hv) hd hN k
 ·cases hr
theorem ad {T:List (Nat×TI)} (hT:gQ P T):∀ (k:Nat) {l l':List Oper} {s s':List (Nat×AV)} {h h':List (Nat×AB)} {n n':Nat},wo ops T N.1 k l s h n=some (l',s',h',n')->AL P W0 F N T0 pin ops Q l' ⟨s',h',n'⟩->AL P W0 F N T0 pin ops Q l ⟨s,h,n⟩
 |0,l,l',s,s',h,h',n,n',hr,k=>by
  have:(l,s,h,n)=(l',s',h',n'):=by cases l<;>exact Option.some.inj hr
  injection this with e1 e2;injection e2 with e2 e3;injection e3 with e3 e4
  subst e1 e2 e3 e4;exact k
 |_+1,[],l',s,s',h,h',n,n',hr,k=>by
  have:(([]:List Oper),s,h,n)=(l',s',h',n'):=Option.some.inj hr
  injection this with e1 e2;injection e2 with e2 e3;injection e3 with e3 e4
  subst e1 e2 e3 e4;exact k
 |f+1,o::l,l',s,s',h,h',n,n',hr,k=>by
  unfold wo at hr
  split at hr
  ·rename_i s1 h1 n1 h1'
   exact Gs hT h1' (ad hT f hr k)
  ·cases hr
theorem aH {T:List (Nat×TI)} (hT:gQ P T) {id:Nat} {l:List Oper} {y:Code} (k:Nat) {l':List Oper} {s s':List (Nat×AV)} {h h':List (Nat×AB)} {n n':Nat} (hr:wo l.toArray T N.1 k l s h n=some (l',s',h',n'))
  (g:AL P W0 F N T0 pin l.toArray (jj (AC P W0 F N T0 pin Q y) Q) l' ⟨s',h',n'⟩):AC P W0 F N T0 pin Q (.seq (.region id l.toArray false) y) ⟨s,h,n⟩:=
 ah (ay (ad hT k hr g))
theorem ae {T:List (Nat×TI)} (hT:gQ P T) {id:Nat} {l:List Oper} {y:Code} (k:Nat) {s s':List (Nat×AV)} {h h':List (Nat×AB)} {n n':Nat} (hr:wo l.toArray T N.1 k l s h n=some ([],s',h',n'))
  (g:AC P W0 F N T0 pin Q y ⟨s',h',n'⟩):AC P W0 F N T0 pin Q (.seq (.region id l.toArray false) y) ⟨s,h,n⟩:=
 aH hT k hr (cf g)
end
end
section

def lb {α:Type} (s:List (Nat×α)):List Nat->Option (List (Nat×α))
 |[]=>some []
 |t::ts=>match look s t with
  |none=>none
  |some v=>match lb s ts with
   |some r=>some ((t,v)::r)
   |none=>none
theorem lV {α:Type} {s:List (Nat×α)}:∀ {ts:List Nat} {r:List (Nat×α)},lb s ts=some r->∀ x∈r,look s x.1=some x.2
 |[],r,h,x,hx=>by cases h;cases hx
 |t::ts,r,h,x,hx=>by
  unfold lb at h
  split at h
  ·cases h
  rename_i v hv
  split at h
  ·rename_i r' hr;injection h with h;subst h
   rcases List.mem_cons.1 hx with rfl|hx
   ·exact hv
   ·exact lV hr x hx
  ·cases h
theorem lx {α:Type} {s:List (Nat×α)} {ts:List Nat} {r:List (Nat×α)} (h:lb s ts=some r) {i:Nat} {v:α} (hi:look r i=some v):look s i=some v:=lV h _ (bP hi)
def findD:List bJ->Nat->Nat->Option (Nat×AV)
 |[],_,_=>none
 |_,0,_=>none
 |r::l,i+1,t=>match r.dst with
  |some d=>bif Nat.beq d t then some (i,r.v) else findD l i t
  |none=>findD l i t
def oI:List bJ->Nat->Nat->Option (Nat×AB)
 |[],_,_=>none
 |_,0,_=>none
 |r::l,i+1,k=>match look r.nb k with
  |some b=>some (i,b)
  |none=>oI l i k
theorem sc:∀ {l:List bJ} {i t:Nat} {j:Nat} {v:AV},l.length=i->findD l i t=some (j,v)->∃ q,l.reverse[j]?=some q/\q.dst=some t/\q.v=v
 |[],i,t,j,v,hl,h=>by cases h
 |r::l,0,t,j,v,hl,h=>by cases hl
 |r::l,i+1,t,j,v,hl,h=>by
  have hl:l.length=i:=by simpa using hl
  have rest:findD l i t=some (j,v)->∃ q,(r::l).reverse[j]?=some q/\q.dst=some t/\q.v=v:=fun h=>by
   obtain ⟨q,h1,h2⟩:=sc hl h
   exact ⟨q,by rw [List.reverse_cons,List.getElem?_append_left (List.getElem?_eq_some_iff.1 h1).1];exact h1,h2⟩
  unfold findD at h
  split at h
  ·rename_i d hd
   cases hb:Nat.beq d t with
   |true=>
    rw [hb] at h
    simp only [cond_true,Option.some.injEq,Prod.mk.injEq] at h
    obtain ⟨rfl,rfl⟩:=h
    exact ⟨r,by rw [List.reverse_cons,List.getElem?_append_right (by simp [hl])];simp [hl],by rw [hd,Nat.eq_of_beq_eq_true hb],rfl⟩
   |false=>rw [hb] at h;exact rest h
  ·exact rest h
theorem se:∀ {l:List bJ} {i k:Nat} {j:Nat} {b:AB},l.length=i->oI l i k=some (j,b)->∃ q,l.reverse[j]?=some q/\(k,b)∈q.nb
 |[],i,t,j,v,hl,h=>by cases h
 |r::l,0,t,j,v,hl,h=>by cases hl
 |r::l,i+1,k,j,b,hl,h=>by
  have hl:l.length=i:=by simpa using hl
  unfold oI at h
  split at h
  ·rename_i b' hb
   simp only [Option.some.injEq,Prod.mk.injEq] at h
   obtain ⟨rfl,rfl⟩:=h
   exact ⟨r,by rw [List.reverse_cons,List.getElem?_append_right (by simp [hl])];simp [hl],bP hb⟩
  ·obtain ⟨q,h1,h2⟩:=se hl h
   exact ⟨q,by rw [List.reverse_cons,List.getElem?_append_left (List.getElem?_eq_some_iff.1 h1).1];exact h1,h2⟩
def hZ (s:List (Nat×AV)) (racc:List bJ) (i:Nat):List Nat->List (Nat×AV)×List Nat
 |[]=>([],[])
 |t::ts=>match hZ s racc i ts with
  |(sv,pre)=>match findD racc i t with
   |some (j,v)=>((t,v)::sv,j::pre)
   |none=>match look s t with
    |some v=>((t,v)::sv,pre)
    |none=>(sv,pre)
def gM (h:List (Nat×AB)) (racc:List bJ) (i:Nat):List Nat->List (Nat×AB)×List Nat
 |[]=>([],[])
 |k::ks=>match gM h racc i ks with
  |(hv,pre)=>match oI racc i k with
   |some (j,b)=>((k,b)::hv,j::pre)
   |none=>match look h k with
    |some b=>((k,b)::hv,pre)
    |none=>(hv,pre)
def Fb (s:List (Nat×AV)) (aT:List bJ) (pre:List Nat) (x:Nat×AV):Prop:=look s x.1=some x.2\/∃ j,j∈pre/\∃ q,aT[j]?=some q/\q.dst=some x.1/\q.v=x.2
def Fc (h:List (Nat×AB)) (aT:List bJ) (pre:List Nat) (x:Nat×AB):Prop:=look h x.1=some x.2\/∃ j,j∈pre/\∃ q,aT[j]?=some q/\x∈q.nb
theorem rC {s:List (Nat×AV)} {racc:List bJ} {i:Nat} (hl:racc.length=i):∀ {ts:List Nat} {sv:List (Nat×AV)} {pre:List Nat},hZ s racc i ts=(sv,pre)->∀ x∈sv,Fb s racc.reverse pre x
 |[],sv,pre,h,x,hx=>by cases h;cases hx
 |t::ts,sv,pre,h,x,hx=>by
  unfold hZ at h
  cases hv:hZ s racc i ts with
  |mk sv0 pre0=>
   rw [hv] at h
   have ih:=rC hl hv
   dsimp only at h
   split at h
   ·rename_i j v hf
    injection h with h1 h2;subst h1 h2
    rcases List.mem_cons.1 hx with rfl|hx
    ·obtain ⟨q,h1,h2,h3⟩:=sc hl hf
     exact .inr ⟨j,List.mem_cons_self,q,h1,h2,h3⟩
    ·rcases ih x hx with h|⟨j',h1,h2⟩
     ·exact .inl h
     ·exact .inr ⟨j',List.mem_cons_of_mem _ h1,h2⟩
   ·split at h
    ·rename_i v hf
     injection h with h1 h2;subst h1 h2
     rcases List.mem_cons.1 hx with rfl|hx
     ·exact .inl hf
     ·exact ih x hx
    ·injection h with h1 h2;subst h1 h2;exact ih x hx
theorem rD {s:List (Nat×AB)} {racc:List bJ} {i:Nat} (hl:racc.length=i):∀ {ts:List Nat} {sv:List (Nat×AB)} {pre:List Nat},gM s racc i ts=(sv,pre)->∀ x∈sv,Fc s racc.reverse pre x
 |[],sv,pre,h,x,hx=>by cases h;cases hx
 |t::ts,sv,pre,h,x,hx=>by
  unfold gM at h
  cases hv:gM s racc i ts with
  |mk sv0 pre0=>
   rw [hv] at h
   have ih:=rD hl hv
   dsimp only at h
   split at h
   ·rename_i j v hf
    injection h with h1 h2;subst h1 h2
    rcases List.mem_cons.1 hx with rfl|hx
    ·obtain ⟨q,h1,h2⟩:=se hl hf
     exact .inr ⟨j,List.mem_cons_self,q,h1,h2⟩
    ·rcases ih x hx with h|⟨j',h1,h2⟩
     ·exact .inl h
     ·exact .inr ⟨j',List.mem_cons_of_mem _ h1,h2⟩
   ·split at h
    ·rename_i v hf
     injection h with h1 h2;subst h1 h2
     rcases List.mem_cons.1 hx with rfl|hx
     ·exact .inl hf
     ·exact ih x hx
    ·injection h with h1 h2;subst h1 h2;exact ih x hx
def Seen (st:aL) (aT:List bJ) (r:bJ):Prop:=(∀ x∈r.s,Fb st.s aT r.pre x)/\∀ x∈r.h,Fc st.h aT r.pre x
theorem Seen.more {st:aL} {aT more:List bJ} {r:bJ} (h:Seen st aT r):Seen st (aT++more) r:=by
 have g:∀ {j:Nat} {q:bJ},aT[j]?=some q->(aT++more)[j]?=some q:=fun hj=>by rw [List.getElem?_append_left (List.getElem?_eq_some_iff.1 hj).1];exact hj
 refine ⟨fun x hx=>?_,fun x hx=>?_⟩
 ·rcases h.1 x hx with h1|⟨j,h1,q,h2,h3⟩
  ·exact .inl h1
  ·exact .inr ⟨j,h1,q,g h2,h3⟩
 ·rcases h.2 x hx with h1|⟨j,h1,q,h2,h3⟩
  ·exact .inl h1
  ·exact .inr ⟨j,h1,q,g h2,h3⟩
theorem yB {st:aL} {aT:List bJ}:∀ {rs:List bJ},(∀ r∈rs,Seen st aT r)->lD st aT rs
 |[],_=>trivial
 |r::rs,h=>⟨⟨fG (h r List.mem_cons_self).1,fG (h r List.mem_cons_self).2⟩,yB fun q hq=>h q (List.mem_cons_of_mem _ hq)⟩
def PD (P:Program) (ops:Array Oper) (st:aL) (K:List bJ->Prop) (i:Nat) (racc:List bJ) (n:Nat) (l:List Oper):Prop:=
 racc.length=i->(∀ r∈racc,Seen st racc.reverse r)->∃ rows,jJ P ops rows l/\(∀ r∈racc.reverse++rows,Seen st (racc.reverse++rows) r)/\K (racc.reverse++rows)
section
variable {P:Program} {ops:Array Oper} {st:aL} {K:List bJ->Prop} {i n:Nat} {racc:List bJ} {l:List Oper}
theorem Dh {o:Oper} {r:bJ} {n':Nat} (hr:nj P ops r o) (hs:racc.length=i->Seen st racc.reverse r) (h:PD P ops st K (i+1) (r::racc) n' l):PD P ops st K i racc n (o::l):=fun hl hsee=>by
 obtain ⟨rows,h1,h2,h3⟩:=h (by rw [List.length_cons,hl]) (fun q hq=>by
  rw [List.reverse_cons]
  rcases List.mem_cons.1 hq with rfl|hq
  ·exact (hs hl).more
  ·exact (hsee q hq).more)
 rw [List.reverse_cons,List.append_assoc] at h2 h3
 exact ⟨r::rows,⟨hr,h1⟩,h2,h3⟩
theorem aX {o:Oper} {v:AV} {nb:List (Nat×AB)} {E pre pre':List Nat} {sv:List (Nat×AV)} {hv:List (Nat×AB)} {n':Nat} (ts ks:List Nat) (hs:hZ st.s racc i ts=(sv,pre)) (hh:gM st.h racc i ks=(hv,pre'))
  (hr:nj P ops ⟨o.dst,v,nb,E,pre++pre',sv,hv⟩ o) (hn:iY nb n=n') (h:PD P ops st K (i+1) (⟨o.dst,v,nb,E,pre++pre',sv,hv⟩::racc) n' l):PD P ops st K i racc n (o::l):=
 Dh hr (fun hl=>⟨fun x hx=>by
  rcases rC hl hs x hx with h1|⟨j,h1,h2⟩
  ·exact .inl h1
  ·exact .inr ⟨j,List.mem_append_left _ h1,h2⟩,fun x hx=>by
  rcases rD hl hh x hx with h1|⟨j,h1,h2⟩
  ·exact .inl h1
  ·exact .inr ⟨j,List.mem_append_right _ h1,h2⟩⟩) h
end
def jU:Operand->List Nat->List Nat
 |.tmp t,l=>t::l
 |_,l=>l
def Ji:List (Nat×Operand)->List Nat
 |[]=>[]
 |(_,x)::l=>jU x (Ji l)
def DP:Op->List Nat
 |.move x=>jU x []
 |.assign x=>jU x []
 |.pick c x y=>jU c (jU x (jU y []))
 |.nilCheck x=>jU x []
 |.fieldAddr _ x _=>jU x []
 |.load _ x=>jU x []
 |.binOp _ _ x y _=>jU x (jU y [])
 |.unOp _ _ x=>jU x []
 |.extract x _=>jU x []
 |.build _ ps=>Ji ps.toList
 |.box _ x=>jU x []
 |_=>[]
def GG (ops:Array Oper) (o:Oper):List Nat:=
 match o.guard with
 |none=>DP o.op
 |some (j,_)=>match (ops[j]?).bind (·.dst) with
  |some t=>t::DP o.op
  |none=>DP o.op
def tG (s:List (Nat×AV)):Op->List Nat
 |.load _ x=>match jv s x with
  |some (.v (.c (.p k _ _ _)))=>[k]
  |_=>[]
 |_=>[]
def oO (kn:List (Nat×Bool)) (d:Nat) (v:AV):AV×List (Bool×Bool):=
 match look kn d with
 |none=>(v,[])
 |some c=>match v with
  |.v (.c (.d (.v (.bool b))))=>(.v (.c (.d (.v (.bool c)))),[(b,c)])
  |v=>(v,[])
theorem zk {kn:List (Nat×Bool)} {d:Nat} {v v':AV} {ob:List (Bool×Bool)} (h:oO kn d v=(v',ob)) (ho:∀ x∈ob,x.1=x.2):v=v':=by
 unfold oO at h
 split at h
 ·exact (Prod.mk.inj h).1
 ·split at h
  ·rename_i c _ _ b
   obtain ⟨h1,h2⟩:=Prod.mk.inj h
   have:=ho (b,c) (by rw [<-h2];exact List.mem_singleton_self _)
   dsimp only at this
   rw [<-h1,this]
  ·exact (Prod.mk.inj h).1
def wv (ops:Array Oper) (T:List (Nat×TI)) (st:aL) (kn:List (Nat×Bool)) (i:Nat) (racc:List bJ) (n:Nat) (o:Oper):Option (bJ×Nat×List (Bool×Bool)):=
 match o.dst with
 |none=>none
 |some d=>match hZ st.s racc i (GG ops o) with
  |(sv,pre)=>match pW ops sv o with
   |none=>none
   |some false=>some (⟨some d,.t [],[],[],pre,sv,[]⟩,n,[])
   |some true=>match o.op with
    |.alloc t=>(match look T t with
     |none=>none
     |some ti=>bif ti.zero.isEmpty then none else (match nX ti.zero with
      |some cs=>some (⟨some d,.v (.c (.p n 0 0 0)),[(n,.box t cs)],[],pre,sv,[]⟩,n+1,[])
      |none=>none))
    |.box t x=>(match jv sv x with
     |some (.v (.c c))=>bif c.known then some (⟨some d,.v (.c (.p n 0 0 0)),[(n,.box t [c])],[],pre,sv,[]⟩,n+1,[]) else none
     |some (.v (.g cs))=>some (⟨some d,.v (.c (.p n 0 0 0)),[(n,.box t cs)],[],pre,sv,[]⟩,n+1,[])
     |_=>none)
    |op=>match gM st.h racc i (tG sv op) with
     |(hv,pre')=>match CD T sv hv op with
      |none=>none
      |some v=>match oO kn d v with
       |(v',ob)=>some (⟨some d,v',[],[],pre++pre',sv,hv⟩,n,ob)
def DF (ops:Array Oper) (T:List (Nat×TI)) (st:aL) (kn:List (Nat×Bool)):Nat->Nat->List bJ->Nat->List Oper->Option (Nat×List bJ×Nat×List Oper×List (Bool×Bool))
 |0,i,racc,n,l=>some (i,racc,n,l,[])
 |_+1,i,racc,n,[]=>some (i,racc,n,[],[])
 |k+1,i,racc,n,o::l=>match wv ops T st kn i racc n o with
  |none=>none
  |some (r,n',ob)=>match DF ops T st kn k (i+1) (r::racc) n' l with
   |none=>none
   |some (i2,racc2,n2,l2,ob2)=>match ob with
    |[]=>some (i2,racc2,n2,l2,ob2)
    |x::_=>some (i2,racc2,n2,l2,x::ob2)
section
variable {P:Program} {ops:Array Oper} {st:aL} {K:List bJ->Prop} {T:List (Nat×TI)} {kn:List (Nat×Bool)}
theorem FF (hT:gQ P T) {i n n':Nat} {racc:List bJ} {o:Oper} {r:bJ} {ob:List (Bool×Bool)} (h:wv ops T st kn i racc n o=some (r,n',ob)) (hob:∀ x∈ob,x.1=x.2):nj P ops r o/\(racc.length=i->Seen st racc.reverse r):=by
 unfold wv at h
 split at h
 ·cases h
 rename_i d hd
 cases hv:hZ st.s racc i (GG ops o) with
 |mk sv pre=>
  rw [hv] at h
  dsimp only at h
  have hsee:racc.length=i->∀ x∈sv,Fb st.s racc.reverse pre x:=fun hl=>rC hl hv
  have none_:∀ x∈([]:List (Nat×AB)),Fc st.h racc.reverse pre x:=fun x hx=>by cases hx
  split at h
  ·cases h
  ·rename_i hg
   simp only [Option.some.injEq,Prod.mk.injEq] at h
   obtain ⟨rfl,_,_⟩:=h
   exact ⟨.inr ⟨(iS (s:=sv) (h:=[]) (n:=0) hg).2 rfl,rfl,rfl,rfl⟩,fun hl=>⟨hsee hl,none_⟩⟩
  ·rename_i hg
   have hw:∀ hh,aq ops o ⟨sv,hh,0⟩:=fun hh=>(iS hg).1 rfl
   split at h
   ·rename_i t ho
    split at h
    ·cases h
    rename_i ti ht
    cases hz:ti.zero.isEmpty with
    |true=>rw [hz] at h;cases h
    |false=>
     rw [hz] at h
     simp only [cond_false] at h
     split at h
     ·rename_i cs hcs
      simp only [Option.some.injEq,Prod.mk.injEq] at h
      obtain ⟨rfl,_,_⟩:=h
      have h2:ti.zero≠[]:=fun e=>by rw [e] at hz;simp at hz
      have h4:=(hT.get ht).zero.resolve_left h2
      cases hz2:(P.info? t).bind (·.zero) with
      |none=>rw [hz2] at h4;exact absurd h4.1 (by simp)
      |some z=>
       rw [hz2] at h4
       exact ⟨.inl ⟨hw _,ue n ho hz2 (Option.some.inj h4.1) h4.2 (mn hcs)⟩,fun hl=>⟨hsee hl,none_⟩⟩
     ·cases h
   ·rename_i t x ho
    split at h
    ·rename_i c hx
     cases hk:c.known with
     |false=>rw [hk] at h;cases h
     |true=>
      rw [hk] at h
      simp only [cond_true,Option.some.injEq,Prod.mk.injEq] at h
      obtain ⟨rfl,_,_⟩:=h
      exact ⟨.inl ⟨hw _,xe n ho (eR hx) hk⟩,fun hl=>⟨hsee hl,none_⟩⟩
    ·rename_i cs hx
     simp only [Option.some.injEq,Prod.mk.injEq] at h
     obtain ⟨rfl,_,_⟩:=h
     exact ⟨.inl ⟨hw _,xd n ho (eR hx)⟩,fun hl=>⟨hsee hl,none_⟩⟩
    ·cases h
   ·cases hvh:gM st.h racc i (tG sv o.op) with
    |mk hv pre'=>
     rw [hvh] at h
     dsimp only at h
     split at h
     ·cases h
     rename_i v he
     cases hdv:oO kn d v with
     |mk v' ob'=>
      rw [hdv] at h
      simp only [Option.some.injEq,Prod.mk.injEq] at h
      obtain ⟨rfl,_,rfl⟩:=h
      have:=zk hdv hob
      subst this
      refine ⟨.inl ⟨hw _,xi hT he⟩,fun hl=>⟨fun x hx=>?_,fun x hx=>?_⟩⟩
      ·rcases hsee hl x hx with h1|⟨j,h1,h2⟩
       ·exact .inl h1
       ·exact .inr ⟨j,List.mem_append_left _ h1,h2⟩
      ·rcases rD hl hvh x hx with h1|⟨j,h1,h2⟩
       ·exact .inl h1
       ·exact .inr ⟨j,List.mem_append_right _ h1,h2⟩
theorem xo {kn:List (Nat×Bool)} {d:Nat} {v v':AV} {ob:List (Bool×Bool)} (h:oO kn d v=(v',ob)):ob.length<=1:=by
 unfold oO at h
 split at h
 ·rw [<-(Prod.mk.inj h).2];exact Nat.zero_le _
 ·split at h
  ·rw [<-(Prod.mk.inj h).2];exact Nat.le_refl _
  ·rw [<-(Prod.mk.inj h).2];exact Nat.zero_le _
theorem DK {i n n':Nat} {racc:List bJ} {o:Oper} {r:bJ} {ob:List (Bool×Bool)} (h:wv ops T st kn i racc n o=some (r,n',ob)):ob.length<=1:=by
 unfold wv at h
 split at h
 ·cases h
 rename_i d hd
 dsimp only at h
 split at h
 ·cases h
 ·simp only [Option.some.injEq,Prod.mk.injEq] at h;rw [<-h.2.2];exact Nat.zero_le _
 ·split at h
  ·split at h
   ·cases h
   rename_i ti _
   cases hz:ti.zero.isEmpty with
   |true=>rw [hz] at h;cases h
   |false=>
    rw [hz] at h
    simp only [cond_false] at h
    split at h
    ·simp only [Option.some.injEq,Prod.mk.injEq] at h;rw [<-h.2.2];exact Nat.zero_le _
    ·cases h
  ·split at h
   ·rename_i c _
    cases hk:c.known with
    |false=>rw [hk] at h;cases h
    |true=>rw [hk] at h;simp only [cond_true,Option.some.injEq,Prod.mk.injEq] at h;rw [<-h.2.2];exact Nat.zero_le _
   ·simp only [Option.some.injEq,Prod.mk.injEq] at h;rw [<-h.2.2];exact Nat.zero_le _
   ·cases h
  ·split at h
   ·cases h
   ·rename_i v _
    cases hdv:oO kn d v with
    |mk v' ob'=>
     rw [hdv] at h
     simp only [Option.some.injEq,Prod.mk.injEq] at h
     rw [<-h.2.2];exact xo hdv
theorem aF (hT:gQ P T):∀ (k:Nat) {i i' n n':Nat} {racc racc':List bJ} {l l':List Oper} {ob:List (Bool×Bool)},DF ops T st kn k i racc n l=some (i',racc',n',l',ob)->dF (fun x=>x.1=x.2) ob->PD P ops st K i' racc' n' l'->PD P ops st K i racc n l
 |0,i,i',n,n',racc,racc',l,l',ob,h,_,k=>by
  have:some (i,racc,n,l,([]:List (Bool×Bool)))=some (i',racc',n',l',ob):=by rw [<-h];cases l<;>rfl
  simp only [Option.some.injEq,Prod.mk.injEq] at this
  obtain ⟨rfl,rfl,rfl,rfl,_⟩:=this
  exact k
 |_+1,i,i',n,n',racc,racc',[],l',ob,h,_,k=>by
  have:some (i,racc,n,([]:List Oper),([]:List (Bool×Bool)))=some (i',racc',n',l',ob):=by rw [<-h];rfl
  simp only [Option.some.injEq,Prod.mk.injEq] at this
  obtain ⟨rfl,rfl,rfl,rfl,_⟩:=this
  exact k
 |f+1,i,i',n,n',racc,racc',o::l,l',ob,h,hob,k=>by
  unfold DF at h
  split at h
  ·cases h
  rename_i r n1 ob1 hr
  split at h
  ·cases h
  rename_i i2 racc2 n2 l2 ob2 h2
  have hone:=DK hr
  have key:i2=i'/\racc2=racc'/\n2=n'/\l2=l'/\(∀ x∈ob1,x∈ob)/\∀ x∈ob2,x∈ob:=by
   split at h
   ·simp only [Option.some.injEq,Prod.mk.injEq] at h
    obtain ⟨h1,h2,h3,h4,rfl⟩:=h
    exact ⟨h1,h2,h3,h4,(fun x hx=>by cases hx),fun x hx=>hx⟩
   ·rename_i y ys
    simp only [Option.some.injEq,Prod.mk.injEq] at h
    obtain ⟨h1,h2,h3,h4,rfl⟩:=h
    have hys:ys=[]:=by simpa using hone
    subst hys
    exact ⟨h1,h2,h3,h4,fun x hx=>by rw [List.mem_singleton.1 hx];exact List.mem_cons_self,fun x hx=>List.mem_cons_of_mem _ hx⟩
  obtain ⟨rfl,rfl,rfl,rfl,k1,k2⟩:=key
  have hob:=hob.mem
  obtain ⟨h3,h4⟩:=FF hT hr fun x hx=>hob x (k1 x hx)
  exact Dh h3 h4 (aF hT f h2 (fG fun x hx=>hob x (k2 x hx)) k)
end
def Aq:List bJ->List (Nat×AV)->Option (List (Nat×AV))
 |[],s=>some s
 |r::l,s=>match Aq l s with
  |none=>none
  |some s'=>match r.dst with
   |some d=>some ((d,r.v)::s')
   |none=>some s'
def Ar:List bJ->List (Nat×AB)->Option (List (Nat×AB))
 |[],h=>some h
 |r::l,h=>match Ar l h with
  |none=>none
  |some h'=>some (r.nb++h')
theorem xf:∀ {l:List bJ} {s s':List (Nat×AV)},Aq l s=some s'->∀ x∈s',x∈s\/∃ r∈l,r.dst=some x.1/\r.v=x.2
 |[],s,s',h,x,hx=>by cases h;exact .inl hx
 |r::l,s,s',h,x,hx=>by
  unfold Aq at h
  split at h
  ·cases h
  rename_i s1 h1
  have ih:=xf h1
  split at h
  ·rename_i d hd
   injection h with h;subst h
   rcases List.mem_cons.1 hx with rfl|hx
   ·exact .inr ⟨r,List.mem_cons_self,hd,rfl⟩
   ·rcases ih x hx with h2|⟨q,h2,h3⟩
    ·exact .inl h2
    ·exact .inr ⟨q,List.mem_cons_of_mem _ h2,h3⟩
  ·injection h with h;subst h
   rcases ih x hx with h2|⟨q,h2,h3⟩
   ·exact .inl h2
   ·exact .inr ⟨q,List.mem_cons_of_mem _ h2,h3⟩
theorem xg:∀ {l:List bJ} {s s':List (Nat×AB)},Ar l s=some s'->∀ x∈s',x∈s\/∃ r∈l,x∈r.nb
 |[],s,s',h,x,hx=>by cases h;exact .inl hx
 |r::l,s,s',h,x,hx=>by
  unfold Ar at h
  split at h
  ·cases h
  rename_i s1 h1
  have ih:=xg h1
  injection h with h;subst h
  rcases List.mem_append.1 hx with hx|hx
  ·exact .inr ⟨r,List.mem_cons_self,hx⟩
  ·rcases ih x hx with h2|⟨q,h2,h3⟩
   ·exact .inl h2
   ·exact .inr ⟨q,List.mem_cons_of_mem _ h2,h3⟩
section
variable {P:Program} {W0:World} {F:Nat->Prop} {N:NT} {T0:Nat->Prop} {pin:List (Nat×bT)} {Q:Exit->aL->Prop}
def FA (P:Program) (W0:World) (F:Nat->Prop) (N:NT) (T0:Nat->Prop) (pin:List (Nat×bT)) (Q:Exit->aL->Prop) (l:List Oper) (st:aL) (aT:List bJ):Prop:=
 (∀ x∈st.s,look st.s x.1=some x.2)->(∀ x∈st.h,look st.h x.1=some x.2)->∃ fin,qE l.toArray aT N.1 st fin=true/\vS st aT fin/\AL P W0 F N T0 pin l.toArray Q (l.drop aT.length) fin
theorem uT {α:Type}:∀ {l:List (Nat×α)} {x:Nat×α},x∈l->∃ v,look l x.1=some v
 |y::l,x,h=>by
  obtain ⟨k,v⟩:=y
  rw [bZ]
  split
  ·exact ⟨v,rfl⟩
  ·rename_i hne
   rcases List.mem_cons.1 h with rfl|h
   ·exact absurd rfl hne
   ·exact uT h
theorem uM {α:Type} {s:List (Nat×α)} {ts:List Nat} {r:List (Nat×α)} (h:lb s ts=some r):∀ x∈r,look r x.1=some x.2:=fun x hx=>by
 obtain ⟨v,hv⟩:=uT hx
 have h1:=lx h hv
 rw [lV h x hx] at h1
 rw [hv,h1]
theorem bd {id:Nat} {l:List Oper} {s s0:List (Nat×AV)} {h h0:List (Nat×AB)} {n:Nat} (lv hv:List Nat) (hm:P.follows .mixedOrders=true) (h1:lb s lv=some s0) (h2:lb h hv=some h0)
  (k:PD P l.toArray ⟨s0,h0,n⟩ (FA P W0 F N T0 pin Q l ⟨s0,h0,n⟩) 0 [] n l):AC P W0 F N T0 pin Q (.region id l.toArray true) ⟨s,h,n⟩:=by
 refine iE (st':=⟨s0,h0,n⟩) (aJ.sub (fun i v hi=>lx h1 hi) (fun i v hi=>lx h2 hi) rfl) ?_
 obtain ⟨rows,h3,h4,h5'⟩:=k rfl (fun r hr=>by cases hr)
 obtain ⟨fin,h5,h6,h7⟩:=h5' (uM h1) (uM h2)
 exact Gt rows fin hm h5 h3 (yB h4) h6 h7
theorem bF {l l':List Oper} {s0 fs:List (Nat×AV)} {h0 h1 fh:List (Nat×AB)} {n0 i n:Nat} {racc:List bJ} (ev:List Nat) (hs:Aq racc s0=some fs) (hh:Ar racc h0=some h1) (he:lb h1 ev=some fh) (hd:l.drop i=l')
  (hB:qE l.toArray racc.reverse N.1 ⟨s0,h0,n0⟩ ⟨fs,fh,n⟩=true) (k:AL P W0 F N T0 pin l.toArray Q l' ⟨fs,fh,n⟩):
  PD P l.toArray ⟨s0,h0,n0⟩ (FA P W0 F N T0 pin Q l ⟨s0,h0,n0⟩) i racc n l':=fun hl hsee=>by
 refine ⟨[],trivial,by rw [List.append_nil];exact fun r hr=>hsee r (List.mem_reverse.1 hr),?_⟩
 rw [List.append_nil]
 have at_:∀ r∈racc,∃ j,racc.reverse[j]?=some r:=fun r hr=>List.getElem?_of_mem (List.mem_reverse.2 hr)
 refine fun hs0 hh0=>⟨⟨fs,fh,n⟩,hB,⟨fG fun x hx=>?_,fG fun x hx=>?_⟩,?_⟩
 ·rcases xf hs x hx with h1|⟨r,h1,h2,h3⟩
  ·exact .inl (hs0 x h1)
  ·obtain ⟨j,hj⟩:=at_ r h1
   exact .inr ⟨j,r,hj,h2,h3⟩
 ·rcases xg hh x (bP (lV he x hx)) with h1|⟨r,h1,h2⟩
  ·exact .inl (hh0 x h1)
  ·obtain ⟨j,hj⟩:=at_ r h1
   exact .inr ⟨j,r,hj,h2⟩
 ·rw [List.length_reverse,hl,hd];exact k
end
end
section

def eN:Nat->List Nat
 |0=>[]
 |n+1=>n::eN n
theorem sj:∀ {n q:Nat},q∈eN n->q < n
 |n+1,q,h=>by
  rcases List.mem_cons.1 h with rfl|h
  ·exact Nat.lt_succ_self _
  ·exact Nat.lt_succ_of_lt (sj h)
theorem pX {p q:Nat->Bool}:∀ {l:List Nat},(∀ x∈l,p x=q x)->l.find? p=l.find? q
 |[],_=>rfl
 |x::l,h=>by rw [List.find?_cons,List.find?_cons,h x List.mem_cons_self,pX fun y hy=>h y (List.mem_cons_of_mem _ hy)]
theorem mA {aT more:List bJ} {q:Nat} (h:q < aT.length):(aT++more)[q]?=aT[q]?:=List.getElem?_append_left h
theorem uF {aT more:List bJ} {j x:Nat} (hj:j<=aT.length):kG (aT++more) (eN j) x=kG aT (eN j) x:=
 pX fun q hq=>by unfold qM;rw [mA (Nat.lt_of_lt_of_le (sj hq) hj)]
theorem uG {aT more:List bJ} {j x:Nat} (hj:j<=aT.length):kc (aT++more) (eN j) x=kc aT (eN j) x:=
 pX fun q hq=>by unfold GN;rw [mA (Nat.lt_of_lt_of_le (sj hq) hj)]
theorem mH.more {st:aL} {aT more:List bJ} {x:Nat} {v:AV} {o:Option Nat} (h:mH st aT x v o):mH st (aT++more) x v o:=by
 cases o with
 |none=>exact h
 |some j=>obtain ⟨q,h1,h2⟩:=h;exact ⟨q,by rw [mA (List.getElem?_eq_some_iff.1 h1).1];exact h1,h2⟩
theorem mI.more {st:aL} {aT more:List bJ} {x:Nat} {v:AB} {o:Option Nat} (h:mI st aT x v o):mI st (aT++more) x v o:=by
 cases o with
 |none=>exact h
 |some j=>obtain ⟨q,h1,h2⟩:=h;exact ⟨q,by rw [mA (List.getElem?_eq_some_iff.1 h1).1];exact h1,h2⟩
structure qm (st:aL) (aT:List bJ) (j:Nat) (r:bJ):Prop where
 pre:r.pre=eN j
 s:∀ x∈r.s,mH st aT x.1 x.2 (kG aT (eN j) x.1)
 h:∀ x∈r.h,mI st aT x.1 x.2 (kc aT (eN j) x.1)
theorem qm.more {st:aL} {aT more:List bJ} {j:Nat} {r:bJ} (h:qm st aT j r) (hj:j<=aT.length):qm st (aT++more) j r:=
 ⟨h.pre,fun x hx=>by rw [uF hj];exact (h.s x hx).more,fun x hx=>by rw [uG hj];exact (h.h x hx).more⟩
theorem vm {acc:List bJ}:∀ {i:Nat},acc.length=i->∀ (t:Nat),kG acc.reverse (eN i) t=(findD acc i t).map (·.1):=by
 induction acc with
 |nil=>intro i hl t;subst hl;rfl
 |cons r l ih=>
  intro i hl t
  obtain ⟨k,rfl⟩:∃ k,i=k+1:=⟨i - 1,by simp at hl;omega⟩
  have hl:l.length=k:=by simpa using hl
  have hlast:(r::l).reverse[k]?=some r:=by rw [List.reverse_cons,List.getElem?_append_right (by simp [hl])];simp [hl]
  have rest:kG (r::l).reverse (eN k) t=(findD l k t).map (·.1):=by rw [List.reverse_cons,uF (by simp [hl])];exact ih hl t
  show (k::eN k).find? _=_
  rw [List.find?_cons]
  unfold qM
  rw [hlast]
  dsimp only
  unfold findD
  split<;>rename_i h1<;>split at h1
  ·rename_i d hd;rw [hd];dsimp only;rw [h1];rfl
  ·cases h1
  ·rename_i d hd;rw [hd];dsimp only;rw [h1];exact rest
  ·rename_i hd;rw [hd];exact rest
theorem uS {k:Nat}:∀ {l:List (Nat×AB)},eb k (keys l)=(look l k).isSome
 |[]=>rfl
 |(j,b)::l=>by
  show (Nat.beq j k||eb k (keys l))=_
  rw [bZ]
  by_cases h:j=k
  ·subst h;rw [Nat.beq_refl,if_pos rfl];rfl
  ·rw [if_neg h,uS,Bool.eq_false_iff.2 fun e=>h (Nat.eq_of_beq_eq_true e),Bool.false_or]
theorem vn {acc:List bJ}:∀ {i:Nat},acc.length=i->∀ (t:Nat),kc acc.reverse (eN i) t=(oI acc i t).map (·.1):=by
 induction acc with
 |nil=>intro i hl t;subst hl;rfl
 |cons r l ih=>
  intro i hl t
  obtain ⟨k,rfl⟩:∃ k,i=k+1:=⟨i - 1,by simp at hl;omega⟩
  have hl:l.length=k:=by simpa using hl
  have hlast:(r::l).reverse[k]?=some r:=by rw [List.reverse_cons,List.getElem?_append_right (by simp [hl])];simp [hl]
  have rest:kc (r::l).reverse (eN k) t=(oI l k t).map (·.1):=by rw [List.reverse_cons,uG (by simp [hl])];exact ih hl t
  show (k::eN k).find? _=_
  rw [List.find?_cons]
  unfold GN
  rw [hlast]
  dsimp only
  rw [uS]
  unfold oI
  cases hk:look r.nb t with
  |some b=>rfl
  |none=>exact rest
theorem mK {st:aL} {racc:List bJ} {i:Nat} (hl:racc.length=i):∀ {ts:List Nat} {sv:List (Nat×AV)} {pre:List Nat},hZ st.s racc i ts=(sv,pre)->∀ x∈sv,mH st racc.reverse x.1 x.2 (kG racc.reverse (eN i) x.1)
 |[],sv,pre,h,x,hx=>by cases h;cases hx
 |t::ts,sv,pre,h,x,hx=>by
  unfold hZ at h
  cases hv:hZ st.s racc i ts with
  |mk sv0 pre0=>
   rw [hv] at h
   have ih:=mK hl hv
   dsimp only at h
   split at h
   ·rename_i j v hf
    injection h with h1 h2;subst h1 h2
    rcases List.mem_cons.1 hx with rfl|hx
    ·obtain ⟨q,h1,h2,h3⟩:=sc hl hf
     dsimp only
     rw [vm hl,hf]
     exact ⟨q,h1,h2,h3⟩
    ·exact ih x hx
   ·rename_i hf
    split at h
    ·rename_i v hs
     injection h with h1 h2;subst h1 h2
     rcases List.mem_cons.1 hx with rfl|hx
     ·dsimp only
      rw [vm hl,hf]
      exact hs
     ·exact ih x hx
    ·injection h with h1 h2;subst h1 h2;exact ih x hx
theorem lj {st:aL} {racc:List bJ} {i:Nat} (hl:racc.length=i):∀ {ts:List Nat} {sv:List (Nat×AB)} {pre:List Nat},gM st.h racc i ts=(sv,pre)->∀ x∈sv,mI st racc.reverse x.1 x.2 (kc racc.reverse (eN i) x.1)
 |[],sv,pre,h,x,hx=>by cases h;cases hx
 |t::ts,sv,pre,h,x,hx=>by
  unfold gM at h
  cases hv:gM st.h racc i ts with
  |mk sv0 pre0=>
   rw [hv] at h
   have ih:=lj hl hv
   dsimp only at h
   split at h
   ·rename_i j v hf
    injection h with h1 h2;subst h1 h2
    rcases List.mem_cons.1 hx with rfl|hx
    ·obtain ⟨q,h1,h2⟩:=se hl hf
     dsimp only
     rw [vn hl,hf]
     exact ⟨q,h1,h2⟩
    ·exact ih x hx
   ·rename_i hf
    split at h
    ·rename_i v hs
     injection h with h1 h2;subst h1 h2
     rcases List.mem_cons.1 hx with rfl|hx
     ·dsimp only
      rw [vn hl,hf]
      exact hs
     ·exact ih x hx
    ·injection h with h1 h2;subst h1 h2;exact ih x hx
def PW (P:Program) (ops:Array Oper) (st:aL) (K:List bJ->Prop) (i:Nat) (racc:List bJ) (n:Nat) (l:List Oper):Prop:=
 racc.length=i->(∀ j r,racc.reverse[j]?=some r->qm st racc.reverse j r)->∃ rows,jJ P ops rows l/\(∀ j r,(racc.reverse++rows)[j]?=some r->qm st (racc.reverse++rows) j r)/\K (racc.reverse++rows)
section
variable {P:Program} {ops:Array Oper} {st:aL} {K:List bJ->Prop} {i n:Nat} {racc:List bJ} {l:List Oper}
theorem Dg {o:Oper} {r:bJ} {n':Nat} (hr:nj P ops r o) (hs:racc.length=i->qm st racc.reverse i r) (h:PW P ops st K (i+1) (r::racc) n' l):PW P ops st K i racc n (o::l):=fun hl hsee=>by
 obtain ⟨rows,h1,h2,h3⟩:=h (by rw [List.length_cons,hl]) (fun j q hq=>by
  rw [List.reverse_cons] at hq ⊢
  by_cases hj:j < racc.reverse.length
  ·rw [mA hj] at hq;exact (hsee j q hq).more (Nat.le_of_lt hj)
  ·rw [List.getElem?_append_right (by omega)] at hq
   have h0:j - racc.reverse.length=0:=by
    have:=(List.getElem?_eq_some_iff.1 hq).1
    simpa using this
   rw [h0] at hq
   injection hq with hq;subst hq
   have:j=i:=by rw [List.length_reverse,hl] at *;omega
   subst this
   exact (hs hl).more (by rw [List.length_reverse,hl];exact Nat.le_refl _))
 rw [List.reverse_cons,List.append_assoc] at h2 h3
 exact ⟨r::rows,⟨hr,h1⟩,h2,h3⟩
theorem ca {o:Oper} {v:AV} {nb:List (Nat×AB)} {E pre pre':List Nat} {sv:List (Nat×AV)} {hv:List (Nat×AB)} {n':Nat} (ts ks:List Nat) (hs:hZ st.s racc i ts=(sv,pre)) (hh:gM st.h racc i ks=(hv,pre'))
  (hr:nj P ops ⟨o.dst,v,nb,E,eN i,sv,hv⟩ o) (hn:iY nb n=n') (h:PW P ops st K (i+1) (⟨o.dst,v,nb,E,eN i,sv,hv⟩::racc) n' l):PW P ops st K i racc n (o::l):=
 Dg hr (fun hl=>⟨rfl,mK hl hs,lj hl hh⟩) h
end
def CW (s:List (Nat×AV)):Op->List Nat
 |.store _ x _=>match jv s x with
  |some (.v (.c (.p k _ _ _)))=>[k]
  |_=>[]
 |op=>tG s op
def Jh (ops:Array Oper) (o:Oper):List Nat:=
 match o.op with
 |.store _ x y=>(match o.guard with
  |none=>jU x (jU y [])
  |some (j,_)=>match (ops[j]?).bind (·.dst) with
   |some t=>t::jU x (jU y [])
   |none=>jU x (jU y []))
 |_=>GG ops o
def wc (T:List (Nat×TI)) (s:List (Nat×AV)) (h:List (Nat×AB)) (t:TypeId) (x y:Operand):Option (Nat×AB):=
 match look T t with
 |none=>none
 |some ti=>match jv s x with
  |some (.v (.c (.p k r K j)))=>bif Nat.beq r 0 && Nat.beq K 0 then (match jv s y with
   |some (.v gv)=>bif (eS gv).all CV.known && Nat.beq (eS gv).length ti.size then (match look h k with
    |some (.box bt cs)=>(match kJ cs j (eS gv) with
     |some cs'=>some (k,.box bt cs')
     |none=>none)
    |_=>none) else none
   |_=>none) else none
  |_=>none
theorem Bs {P:Program} {T:List (Nat×TI)} (hT:gQ P T) {o:Oper} {s:List (Nat×AV)} {h:List (Nat×AB)} {n:Nat} {t:TypeId} {x y:Operand} {k:Nat} {b:AB} (ho:o.op=.store t x y) (hr:wc T s h t x y=some (k,b)):aM P o ⟨s,h,n⟩ (.v (.c .any)) [(k,b)] [k]:=by
 unfold wc at hr
 split at hr
 ·cases hr
 rename_i ti ht
 split at hr
 ·rename_i kk r K j hx
  cases hc:(Nat.beq r 0 && Nat.beq K 0) with
  |false=>rw [hc] at hr;cases hr
  |true=>
   rw [hc] at hr
   simp only [cond_true] at hr
   simp only [Bool.and_eq_true] at hc
   have c1:=Nat.eq_of_beq_eq_true hc.1
   have c2:=Nat.eq_of_beq_eq_true hc.2
   subst c1 c2
   split at hr
   ·rename_i gv hy
    cases hk:((eS gv).all CV.known && Nat.beq (eS gv).length ti.size) with
    |false=>rw [hk] at hr;cases hr
    |true=>
     rw [hk] at hr
     simp only [cond_true] at hr
     rw [Bool.and_eq_true] at hk
     split at hr
     ·rename_i bt cs hb
      split at hr
      ·rename_i cs' hcs
       injection hr with hr;injection hr with e1 e2
       subst e1 e2
       obtain ⟨p1,p2⟩:=kI hcs
       have hl:=Nat.eq_of_beq_eq_true hk.2
       exact xa ho (eR hx) (eR hy) hb hk.1 (hT.get ht).size hl (by rw [<-hl];exact p1) (by rw [<-hl];exact p2)
      ·cases hr
     ·cases hr
   ·cases hr
 ·cases hr
def DI (ops:Array Oper) (T:List (Nat×TI)) (st:aL) (kn:List (Nat×Bool)) (i:Nat) (racc:List bJ) (n:Nat) (o:Oper):Option (bJ×Nat×List (Bool×Bool)):=
 match hZ st.s racc i (Jh ops o) with
 |(sv,_)=>match pW ops sv o with
  |none=>none
  |some false=>some (⟨o.dst,.t [],[],[],eN i,sv,[]⟩,n,[])
  |some true=>match o.op with
   |.store t x y=>(match o.dst with
    |some _=>none
    |none=>match gM st.h racc i (CW sv o.op) with
     |(hv,_)=>match wc T sv hv t x y with
      |some (k,b)=>some (⟨none,.v (.c .any),[(k,b)],[k],eN i,sv,hv⟩,n,[])
      |none=>none)
   |.alloc t=>(match o.dst with
    |none=>none
    |some d=>match look T t with
     |none=>none
     |some ti=>bif ti.zero.isEmpty then none else (match nX ti.zero with
      |some cs=>some (⟨some d,.v (.c (.p n 0 0 0)),[(n,.box t cs)],[],eN i,sv,[]⟩,n+1,[])
      |none=>none))
   |.box t x=>(match o.dst with
    |none=>none
    |some d=>match jv sv x with
     |some (.v (.c c))=>bif c.known then some (⟨some d,.v (.c (.p n 0 0 0)),[(n,.box t [c])],[],eN i,sv,[]⟩,n+1,[]) else none
     |some (.v (.g cs))=>some (⟨some d,.v (.c (.p n 0 0 0)),[(n,.box t cs)],[],eN i,sv,[]⟩,n+1,[])
     |_=>none)
   |op=>match o.dst with
    |none=>none
    |some d=>match gM st.h racc i (tG sv op) with
     |(hv,_)=>match CD T sv hv op with
      |none=>none
      |some v=>match oO kn d v with
       |(v',ob)=>some (⟨some d,v',[],[],eN i,sv,hv⟩,n,ob)
def DE (ops:Array Oper) (T:List (Nat×TI)) (st:aL) (kn:List (Nat×Bool)):Nat->Nat->List bJ->Nat->List Oper->Option (Nat×List bJ×Nat×List Oper×List (Bool×Bool))
 |0,i,racc,n,l=>some (i,racc,n,l,[])
 |_+1,i,racc,n,[]=>some (i,racc,n,[],[])
 |k+1,i,racc,n,o::l=>match DI ops T st kn i racc n o with
  |none=>none
  |some (r,n',ob)=>match DE ops T st kn k (i+1) (r::racc) n' l with
   |none=>none
   |some (i2,racc2,n2,l2,ob2)=>match ob with
    |[]=>some (i2,racc2,n2,l2,ob2)
    |x::_=>some (i2,racc2,n2,l2,x::ob2)
section
variable {P:Program} {ops:Array Oper} {st:aL} {K:List bJ->Prop} {T:List (Nat×TI)} {kn:List (Nat×Bool)}
theorem FE (hT:gQ P T) {i n n':Nat} {racc:List bJ} {o:Oper} {r:bJ} {ob:List (Bool×Bool)} (h:DI ops T st kn i racc n o=some (r,n',ob)):ob.length<=1/\((∀ x∈ob,x.1=x.2)->nj P ops r o/\(racc.length=i->qm st racc.reverse i r)):=by
 unfold DI at h
 cases hv:hZ st.s racc i (Jh ops o) with
 |mk sv pre=>
  rw [hv] at h
  dsimp only at h
  have hsee:racc.length=i->∀ x∈sv,mH st racc.reverse x.1 x.2 (kG racc.reverse (eN i) x.1):=fun hl=>mK hl hv
  have none_:∀ x∈([]:List (Nat×AB)),mI st racc.reverse x.1 x.2 (kc racc.reverse (eN i) x.1):=fun x hx=>by cases hx
  split at h
  ·cases h
  ·rename_i hg
   simp only [Option.some.injEq,Prod.mk.injEq] at h
   obtain ⟨rfl,_,rfl⟩:=h
   exact ⟨Nat.zero_le _,fun _=>⟨.inr ⟨(iS (s:=sv) (h:=[]) (n:=0) hg).2 rfl,rfl,rfl,rfl⟩,fun hl=>⟨rfl,hsee hl,none_⟩⟩⟩
  ·rename_i hg
   have hw:∀ hh,aq ops o ⟨sv,hh,0⟩:=fun hh=>(iS hg).1 rfl
   split at h
   ·rename_i t x y ho
    split at h
    ·cases h
    rename_i hd
    cases hvh:gM st.h racc i (CW sv o.op) with
    |mk hv pre'=>
     rw [hvh] at h
     dsimp only at h
     split at h
     ·rename_i k b hs
      simp only [Option.some.injEq,Prod.mk.injEq] at h
      obtain ⟨rfl,_,rfl⟩:=h
      exact ⟨Nat.zero_le _,fun _=>⟨.inl ⟨hw _,Bs hT ho hs⟩,fun hl=>⟨rfl,hsee hl,lj hl hvh⟩⟩⟩
     ·cases h
   ·rename_i t ho
    split at h
    ·cases h
    split at h
    ·cases h
    rename_i ti ht
    cases hz:ti.zero.isEmpty with
    |true=>rw [hz] at h;cases h
    |false=>
     rw [hz] at h
     simp only [cond_false] at h
     split at h
     ·rename_i cs hcs
      simp only [Option.some.injEq,Prod.mk.injEq] at h
      obtain ⟨rfl,_,rfl⟩:=h
      have h2:ti.zero≠[]:=fun e=>by rw [e] at hz;simp at hz
      have h4:=(hT.get ht).zero.resolve_left h2
      cases hz2:(P.info? t).bind (·.zero) with
      |none=>rw [hz2] at h4;exact absurd h4.1 (by simp)
      |some z=>
       rw [hz2] at h4
       exact ⟨Nat.zero_le _,fun _=>⟨.inl ⟨hw _,ue n ho hz2 (Option.some.inj h4.1) h4.2 (mn hcs)⟩,fun hl=>⟨rfl,hsee hl,none_⟩⟩⟩
     ·cases h
   ·rename_i t x ho
    split at h
    ·cases h
    split at h
    ·rename_i c hx
     cases hk:c.known with
     |false=>rw [hk] at h;cases h
     |true=>
      rw [hk] at h
      simp only [cond_true,Option.some.injEq,Prod.mk.injEq] at h
      obtain ⟨rfl,_,rfl⟩:=h
      exact ⟨Nat.zero_le _,fun _=>⟨.inl ⟨hw _,xe n ho (eR hx) hk⟩,fun hl=>⟨rfl,hsee hl,none_⟩⟩⟩
    ·rename_i cs hx
     simp only [Option.some.injEq,Prod.mk.injEq] at h
     obtain ⟨rfl,_,rfl⟩:=h
     exact ⟨Nat.zero_le _,fun _=>⟨.inl ⟨hw _,xd n ho (eR hx)⟩,fun hl=>⟨rfl,hsee hl,none_⟩⟩⟩
    ·cases h
   ·split at h
    ·cases h
    rename_i d hd
    cases hvh:gM st.h racc i (tG sv o.op) with
    |mk hv pre'=>
     rw [hvh] at h
     dsimp only at h
     split at h
     ·cases h
     rename_i v he
     cases hdv:oO kn d v with
     |mk v' ob'=>
      rw [hdv] at h
      simp only [Option.some.injEq,Prod.mk.injEq] at h
      obtain ⟨rfl,_,rfl⟩:=h
      refine ⟨xo hdv,fun hob=>?_⟩
      have:=zk hdv hob
      subst this
      exact ⟨.inl ⟨hw _,xi hT he⟩,fun hl=>⟨rfl,hsee hl,lj hl hvh⟩⟩
theorem bU (hT:gQ P T):∀ (k:Nat) {i i' n n':Nat} {racc racc':List bJ} {l l':List Oper} {ob:List (Bool×Bool)},DE ops T st kn k i racc n l=some (i',racc',n',l',ob)->dF (fun x=>x.1=x.2) ob->PW P ops st K i' racc' n' l'->PW P ops st K i racc n l
 |0,i,i',n,n',racc,racc',l,l',ob,h,_,k=>by
  have:some (i,racc,n,l,([]:List (Bool×Bool)))=some (i',racc',n',l',ob):=by rw [<-h];cases l<;>rfl
  simp only [Option.some.injEq,Prod.mk.injEq] at this
  obtain ⟨rfl,rfl,rfl,rfl,_⟩:=this
  exact k
 |_+1,i,i',n,n',racc,racc',[],l',ob,h,_,k=>by
  have:some (i,racc,n,([]:List Oper),([]:List (Bool×Bool)))=some (i',racc',n',l',ob):=by rw [<-h];rfl
  simp only [Option.some.injEq,Prod.mk.injEq] at this
  obtain ⟨rfl,rfl,rfl,rfl,_⟩:=this
  exact k
 |f+1,i,i',n,n',racc,racc',o::l,l',ob,h,hob,k=>by
  unfold DE at h
  split at h
  ·cases h
  rename_i r n1 ob1 hr
  split at h
  ·cases h
  rename_i i2 racc2 n2 l2 ob2 h2
  obtain ⟨hone,hok⟩:=FE hT hr
  have key:i2=i'/\racc2=racc'/\n2=n'/\l2=l'/\(∀ x∈ob1,x∈ob)/\∀ x∈ob2,x∈ob:=by
   split at h
   ·simp only [Option.some.injEq,Prod.mk.injEq] at h
    obtain ⟨h1,h2,h3,h4,rfl⟩:=h
    exact ⟨h1,h2,h3,h4,(fun x hx=>by cases hx),fun x hx=>hx⟩
   ·rename_i y ys
    simp only [Option.some.injEq,Prod.mk.injEq] at h
    obtain ⟨h1,h2,h3,h4,rfl⟩:=h
    have hys:ys=[]:=by simpa using hone
    subst hys
    exact ⟨h1,h2,h3,h4,fun x hx=>by rw [List.mem_singleton.1 hx];exact List.mem_cons_self,fun x hx=>List.mem_cons_of_mem _ hx⟩
  obtain ⟨rfl,rfl,rfl,rfl,k1,k2⟩:=key
  have hob:=hob.mem
  obtain ⟨h3,h4⟩:=hok fun x hx=>hob x (k1 x hx)
  exact Dg h3 h4 (bU hT f h2 (fG fun x hx=>hob x (k2 x hx)) k)
end
theorem DB {st:aL} {aT:List bJ} (h:∀ j r,aT[j]?=some r->qm st aT j r):oW st aT aT:=by
 have gen:∀ rs:List bJ,(∀ r∈rs,r∈aT)->oW st aT rs:=by
  intro rs
  induction rs with
  |nil=>intro _;trivial
  |cons r rs ih=>
   intro hm
   obtain ⟨j,hj⟩:=List.getElem?_of_mem (hm r List.mem_cons_self)
   have g:=h j r hj
   exact ⟨⟨fG fun x hx=>by rw [g.pre];exact g.s x hx,fG fun x hx=>by rw [g.pre];exact g.h x hx⟩,ih fun q hq=>hm q (List.mem_cons_of_mem _ hq)⟩
 exact gen aT fun r hr=>hr
section
variable {P:Program} {W0:World} {F:Nat->Prop} {N:NT} {T0:Nat->Prop} {pin:List (Nat×bT)} {Q:Exit->aL->Prop}
def AZ (Q:Exit->aL->Prop) (N:NT) (l:List Oper) (st:aL) (aT:List bJ):Prop:=
 ∃ fin,tq l.toArray aT N.1 st fin (eN aT.length)=true/\(dF (fun x=>mH st aT x.1 x.2 (kG aT (eN aT.length) x.1)) fin.s/\dF (fun x=>mI st aT x.1 x.2 (kc aT (eN aT.length) x.1)) fin.h)/\Q .normal fin
theorem dr {id:Nat} {l:List Oper} {s s0:List (Nat×AV)} {h h0:List (Nat×AB)} {n:Nat} (lv hv:List Nat) (hm:P.follows .mixedOrders=true) (h1:lb s lv=some s0) (h2:lb h hv=some h0)
  (k:PW P l.toArray ⟨s0,h0,n⟩ (AZ Q N l ⟨s0,h0,n⟩) 0 [] n l):AC P W0 F N T0 pin Q (.region id l.toArray true) ⟨s,h,n⟩:=by
 refine iE (st':=⟨s0,h0,n⟩) (aJ.sub (fun i v hi=>lx h1 hi) (fun i v hi=>lx h2 hi) rfl) ?_
 obtain ⟨rows,h3,h4,fin,h5,h6,h7⟩:=k rfl (fun j r hr=>by simp at hr)
 exact Fg rows fin (eN rows.length) hm h5 h3 (DB h4) h6 h7
theorem ef {l:List Oper} {st:aL} {fs:List (Nat×AV)} {fh:List (Nat×AB)} {i n:Nat} {racc:List bJ} {pre pre':List Nat} (lv hv:List Nat) (hs:hZ st.s racc i lv=(fs,pre)) (hh:gM st.h racc i hv=(fh,pre'))
  (hB:tq l.toArray racc.reverse N.1 st ⟨fs,fh,n⟩ (eN i)=true) (k:Q .normal ⟨fs,fh,n⟩):PW P l.toArray st (AZ Q N l st) i racc n []:=fun hl hsee=>by
 refine ⟨[],trivial,by rw [List.append_nil];exact hsee,?_⟩
 rw [List.append_nil]
 unfold AZ
 rw [List.length_reverse,hl]
 exact ⟨⟨fs,fh,n⟩,hB,⟨fG (mK hl hs),fG (lj hl hh)⟩,k⟩
end
end
end Go.Proofs.Ytegepioggeggaaa.Dev
