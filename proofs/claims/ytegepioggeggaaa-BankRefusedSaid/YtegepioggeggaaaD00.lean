/- A part of the proof: Sh1, Sh2, Sh3, Sh4, Sh5, Sh6. No condition. -/
import Derived.WalkSpells
import Derived.WalkLawsBesides
import Derived.Deep.LoopGhost
import Derived.Deep.OwnRows
set_option linter.unusedVariables false
set_option linter.unusedSimpArgs false
namespace Go.Proofs.Ytegepioggeggaaa.Dev
open Go.RowKit
section

inductive D where
 |v (x:Value)
 |r (K:Nat) (rows:List (List D))
 |f (fn:FuncId) (bd:List (List D))
structure bM where
 g:Nat
 c:Nat
inductive bm (T:Nat->Prop) (w:World):D->Value->Prop
 |v (x:Value) (hx:x.oneCell'=true):bm T w (.v x) x
 |nil (K:Nat) (A:Option Addr) (c:Nat):bm T w (.r K []) (.slice A 0 c)
 |r (K:Nat) (rows:List (List D)) (b off c:Nat) (cs:Nat->Nat->Value) (hb:b < w.heap.size) (hT:¬T b) (hc:rows.length<=c) (hm:c<=9223372036854775807)
   (hK:∀ (i:Nat) (row:List D),rows[i]?=some row->row.length=K)
   (dY:∀ (i:Nat) (row:List D) (j:Nat) (d:D),rows[i]?=some row->row[j]?=some d->w.cell? ⟨b,off+(i * K+j),none⟩=some (cs i j))
   (hd:∀ (i:Nat) (row:List D) (j:Nat) (d:D),rows[i]?=some row->row[j]?=some d->bm T w d (cs i j)):bm T w (.r K rows) (.slice (some ⟨b,off,none⟩) rows.length c)
 |f (fn:FuncId) (bd:List (List D)) (bs iC:Nat->Nat) (cs:Nat->Nat->Value) (hb:∀ (i:Nat),i < bd.length->bs i < w.heap.size/\¬T (bs i))
   (dY:∀ (i:Nat) (row:List D) (j:Nat) (d:D),bd[i]?=some row->row[j]?=some d->w.cell? ⟨bs i,iC i+j,none⟩=some (cs i j))
   (hd:∀ (i:Nat) (row:List D) (j:Nat) (d:D),bd[i]?=some row->row[j]?=some d->bm T w d (cs i j)):
   bm T w (.f fn bd) (.func (.func fn) #[] ((List.range bd.length).map fun i=>Value.pointer (some ⟨bs i,iC i,none⟩)).toArray)
inductive CV where
 |any
 |d (x:D)
 |p (k i K o:Nat)
 |q (row:List D) (o:Nat)
 |s (k i K n:Nat)
 |sx (k i K n c:Nat) (e:Bool)
 |m (k:Nat)
 |fn (f:FuncId) (bd:List Nat)
inductive GV where
 |c (x:CV)
 |g (xs:List CV)
inductive AV where
 |v (x:GV)
 |t (xs:List GV)
def cc {α β:Type} (R:α->β->Prop):List α->List β->Prop
 |[],[]=>True
 |x::xs,y::ys=>R x y/\cc R xs ys
 |_,_=>False
theorem cc.mono {α β:Type} {R S:α->β->Prop} (h:∀ x y,R x y->S x y):∀ {xs:List α} {ys:List β},cc R xs ys->cc S xs ys
 |[],[],_=>trivial
 |_::_,_::_,hh=>⟨h _ _ hh.1,cc.mono h hh.2⟩
 |[],_::_,hh=>hh.elim
 |_::_,[],hh=>hh.elim
theorem cc.length {α β:Type} {R:α->β->Prop}:∀ {xs:List α} {ys:List β},cc R xs ys->xs.length=ys.length
 |[],[],_=>rfl
 |_::_,_::_,hh=>by rw [List.length_cons,List.length_cons,cc.length hh.2]
 |[],_::_,hh=>hh.elim
 |_::_,[],hh=>hh.elim
theorem cc.get {α β:Type} {R:α->β->Prop}:∀ {xs:List α} {ys:List β},cc R xs ys->∀ {i:Nat} {x:α},xs[i]?=some x->∃ y,ys[i]?=some y/\R x y
 |_::_,_::_,hh,0,_,h=>by simp at h;subst h;exact ⟨_,rfl,hh.1⟩
 |_::xs,_::ys,hh,i+1,_,h=>cc.get (xs:=xs) (ys:=ys) hh.2 (i:=i) (by simpa using h)
 |[],[],_,_,_,h=>by simp at h
 |[],_::_,hh,_,_,_=>hh.elim
 |_::_,[],hh,_,_,_=>hh.elim
theorem cc.set {α β:Type} {R:α->β->Prop} {x:α} {y:β} (h:R x y):∀ {xs:List α} {ys:List β},cc R xs ys->∀ (i:Nat),cc R (xs.set i x) (ys.set i y)
 |[],[],_,_=>trivial
 |_::_,_::_,hh,0=>⟨h,hh.2⟩
 |_::_,_::_,hh,i+1=>⟨hh.1,cc.set h hh.2 i⟩
 |[],_::_,hh,_=>hh.elim
 |_::_,[],hh,_=>hh.elim
theorem cc.append {α β:Type} {R:α->β->Prop}:∀ {xs:List α} {ys:List β} {xs':List α} {ys':List β},cc R xs ys->cc R xs' ys'->cc R (xs++xs') (ys++ys')
 |[],[],_,_,_,h=>h
 |_::_,_::_,_,_,hh,h=>⟨hh.1,cc.append hh.2 h⟩
 |[],_::_,_,_,hh,_=>hh.elim
 |_::_,[],_,_,hh,_=>hh.elim
theorem cc.take {α β:Type} {R:α->β->Prop}:∀ {xs:List α} {ys:List β},cc R xs ys->∀ n,cc R (xs.take n) (ys.take n)
 |[],[],_,n=>by simp [cc]
 |_::_,_::_,hh,0=>by simp [cc]
 |_::_,_::_,hh,n+1=>⟨hh.1,cc.take hh.2 n⟩
 |[],_::_,hh,_=>hh.elim
 |_::_,[],hh,_=>hh.elim
theorem cc.drop {α β:Type} {R:α->β->Prop}:∀ {xs:List α} {ys:List β},cc R xs ys->∀ n,cc R (xs.drop n) (ys.drop n)
 |[],[],_,n=>by simp [cc]
 |_::_,_::_,hh,0=>hh
 |_::_,_::_,hh,n+1=>cc.drop hh.2 n
 |[],_::_,hh,_=>hh.elim
 |_::_,[],hh,_=>hh.elim

def tN (T:Nat->Prop) (w:World) (b off:Nat) (row:List D):Prop:=
 b < w.heap.size/\¬T b/\∀ (j:Nat) (d:D),row[j]?=some d->∃ u,w.cell? ⟨b,off+j,none⟩=some u/\bm T w d u
def cQ (σ:Nat->Option bM) (T:Nat->Prop) (w:World):CV->Value->Prop
 |.any,_=>True
 |.d x,v=>bm T w x v
 |.p k i K o,v=>∃ g,σ k=some g/\v=.pointer (some ⟨g.g,i * K+o,none⟩)
 |.q row o,v=>∃ b off,v=.pointer (some ⟨b,off+o,none⟩)/\tN T w b off row
 |.s k i K n,v=>(n=0/\v=.slice none 0 0)\/∃ g,σ k=some g/\v=.slice (some ⟨g.g,i * K,none⟩) n (g.c - i)/\i+n<=g.c/\g.c<=9223372036854775807
 |.sx k i K n c e,v=>∃ g off,σ k=some g/\v=.slice (some ⟨g.g,off,none⟩) n c/\(off=i * K\/c=0)/\n<=c/\i+c<=g.c/\(e=true->i+c=g.c)/\g.c<=9223372036854775807
 |.m k,v=>∃ g,σ k=some g/\v=.map (some g.g)
 |.fn f bd,v=>∃ gs:List bM,bd.map σ=gs.map some/\v=.func (.func f) #[] (gs.map fun g=>Value.pointer (some ⟨g.g,0,none⟩)).toArray
def dh (σ:Nat->Option bM) (T:Nat->Prop) (w:World):GV->Value->Prop
 |.c x,v=>cQ σ T w x v
 |.g xs,v=>∃ vs:List Value,v=.agg vs.toArray/\cc (cQ σ T w) xs vs
def eB (σ:Nat->Option bM) (T:Nat->Prop) (w:World):AV->Value->Prop
 |.v x,v=>dh σ T w x v
 |.t xs,v=>∃ vs:List Value,v=.tuple vs.toArray/\cc (dh σ T w) xs vs
inductive AB where
 |box (t:TypeId) (cs:List CV)
 |arr (t:TypeId) (K:Nat) (rows:List (List D))
 |map (es:List (Int×Value)) (clock:Nat)
def Rows (T:Nat->Prop) (w:World) (K:Nat) (rows:List (List D)) (vs:List Value):Prop:=
 rows.length * K<=vs.length/\∀ (i:Nat) (row:List D),rows[i]?=some row->row.length=K/\∀ (j:Nat) (d:D),row[j]?=some d->∃ u,vs[i * K+j]?=some u/\bm T w d u
def dg (σ:Nat->Option bM) (T:Nat->Prop) (w:World) (og:Option bM):AB->Prop
 |.box t cs=>∃ g vs,og=some g/\T g.g/\w.heap[g.g]?=some (.cells vs.toArray t (0,0))/\cc (cQ σ T w) cs vs
 |.arr t K rows=>0 < K/\((rows=[]/\og=none)\/∃ g vs,og=some g/\T g.g/\w.heap[g.g]?=some (.cells vs.toArray t (0,0))/\vs.length=g.c * K/\g.c<=9223372036854775807/\Rows T w K rows vs)
 |.map es clock=>∃ g ms,og=some g/\T g.g/\w.heap[g.g]?=some (.map ms clock)/\ms.toList.map (fun e=>(e.key,e.val))=es.map fun e=>(Value.int .i64 e.1,e.2)

def look {α:Type}:List (Nat×α)->Nat->Option α
 |[],_=>none
 |(k,x)::l,i=>bif Nat.beq k i then some x else look l i
theorem bT {α:Type} (k:Nat) (x:α) (l:List (Nat×α)) (i:Nat):look ((k,x)::l) i=if k=i then some x else look l i:=by
 show (bif Nat.beq k i then some x else look l i)=_
 by_cases h:k=i
 ·subst h;rw [if_pos rfl,Nat.beq_refl];rfl
 ·rw [if_neg h,Bool.eq_false_iff.2 fun e=>h (Nat.eq_of_beq_eq_true e)];rfl
theorem bL {α:Type} {l:List (Nat×α)} {i:Nat} {x:α} (h:look l i=some x):(i,x)∈l:=by
 induction l with
 |nil=>cases h
 |cons y l ih=>
  obtain ⟨k,z⟩:=y
  rw [bT] at h
  split at h
  ·rename_i hk;subst hk;injection h with h;subst h;exact List.mem_cons_self
  ·exact List.mem_cons_of_mem _ (ih h)
theorem gJ {α:Type} (l l':List (Nat×α)) (i:Nat):look (l++l') i=(look l i).or (look l' i):=by
 induction l with
 |nil=>simp [look]
 |cons y l ih=>
  obtain ⟨k,z⟩:=y
  rw [List.cons_append,bT,bT,ih]
  split<;>simp
structure aJ where
 s:List (Nat×AV)
 h:List (Nat×AB)
 n:Nat

structure Grow (σ σ':Nat->Option bM) (T T':Nat->Prop) (w w':World) (C:Nat->Prop):Prop where
 size:w.heap.size<=w'.heap.size
 cF:∀ b,b < w.heap.size->¬C b->w'.heap[b]?=w.heap[b]?
 CT:∀ b,C b->T b
 kP:∀ b,b < w.heap.size->T' b->T b
 σle:∀ k g,σ k=some g->σ' k=some g
theorem cell_of_heap {w w':World} {b:Nat} (h:w'.heap[b]?=w.heap[b]?) (o:Nat):w'.cell? ⟨b,o,none⟩=w.cell? ⟨b,o,none⟩:=by
 unfold World.cell?
 rw [h]
section
variable {σ σ':Nat->Option bM} {T T':Nat->Prop} {w w':World} {C:Nat->Prop}
theorem Grow.free (G:Grow σ σ' T T' w w' C) {b:Nat} (hb:b < w.heap.size) (hT:¬T b):w'.heap[b]?=w.heap[b]?:=G.cF b hb fun h=>hT (G.CT b h)
theorem bm.grow {d:D} {v:Value} (h:bm T w d v) (G:Grow σ σ' T T' w w' C):bm T' w' d v:=by
 induction h with
 |v x hx=>exact .v x hx
 |nil K A c=>exact .nil K A c
 |r K rows b off c cs hb hT hc hm hK dY hd ih=>
  exact .r K rows b off c cs (Nat.lt_of_lt_of_le hb G.size) (fun h=>hT (G.kP b hb h)) hc hm hK
   (fun i row j d h1 h2=>(cell_of_heap (G.free hb hT) _).trans (dY i row j d h1 h2)) (fun i row j d h1 h2=>ih i row j d h1 h2)
 |f fn bd bs iC cs hb dY hd ih=>
  refine .f fn bd bs iC cs (fun i hi=>⟨Nat.lt_of_lt_of_le (hb i hi).1 G.size,fun h=>(hb i hi).2 (G.kP _ (hb i hi).1 h)⟩) (fun i row j d h1 h2=>?_) (fun i row j d h1 h2=>ih i row j d h1 h2)
  have hi:=(List.getElem?_eq_some_iff.1 h1).1
  exact (cell_of_heap (G.free (hb i hi).1 (hb i hi).2) _).trans (dY i row j d h1 h2)
theorem tN.grow {b off:Nat} {row:List D} (h:tN T w b off row) (G:Grow σ σ' T T' w w' C):tN T' w' b off row:=
 ⟨Nat.lt_of_lt_of_le h.1 G.size,fun hh=>h.2.1 (G.kP b h.1 hh),fun j d hj=>by
  obtain ⟨u,h1,h2⟩:=h.2.2 j d hj
  exact ⟨u,(cell_of_heap (G.free h.1 h.2.1) _).trans h1,h2.grow G⟩⟩
theorem cQ.grow {x:CV} {v:Value} (h:cQ σ T w x v) (G:Grow σ σ' T T' w w' C):cQ σ' T' w' x v:=by
 cases x with
 |any=>trivial
 |d x=>exact bm.grow h G
 |p k i K o=>obtain ⟨g,h1,h2⟩:=h;exact ⟨g,G.σle _ _ h1,h2⟩
 |q row o=>obtain ⟨b,off,h1,h2⟩:=h;exact ⟨b,off,h1,h2.grow G⟩
 |s k i K n=>
  rcases h with h|⟨g,h1,h2⟩
  ·exact .inl h
  ·exact .inr ⟨g,G.σle _ _ h1,h2⟩
 |sx k i K n c e=>obtain ⟨g,off,h1,h2⟩:=h;exact ⟨g,off,G.σle _ _ h1,h2⟩
 |m k=>obtain ⟨g,h1,h2⟩:=h;exact ⟨g,G.σle _ _ h1,h2⟩
 |fn f bd=>
  obtain ⟨gs,h1,h2⟩:=h
  refine ⟨gs,?_,h2⟩
  clear h2
  induction bd generalizing gs with
  |nil=>exact h1
  |cons k l ih=>
   cases gs with
   |nil=>cases h1
   |cons g gs=>
    rw [List.map_cons,List.map_cons,List.cons.injEq] at h1
    rw [List.map_cons,List.map_cons,ih gs h1.2,G.σle _ _ h1.1]
theorem dh.grow {x:GV} {v:Value} (h:dh σ T w x v) (G:Grow σ σ' T T' w w' C):dh σ' T' w' x v:=by
 cases x with
 |c x=>exact cQ.grow (x:=x) h G
 |g xs=>obtain ⟨vs,h1,h2⟩:=h;exact ⟨vs,h1,h2.mono fun _ _ h=>h.grow G⟩
theorem eB.grow {x:AV} {v:Value} (h:eB σ T w x v) (G:Grow σ σ' T T' w w' C):eB σ' T' w' x v:=by
 cases x with
 |v x=>exact dh.grow (x:=x) h G
 |t xs=>obtain ⟨vs,h1,h2⟩:=h;exact ⟨vs,h1,h2.mono fun _ _ h=>h.grow G⟩
theorem Rows.grow {K:Nat} {rows:List (List D)} {vs:List Value} (h:Rows T w K rows vs) (G:Grow σ σ' T T' w w' C):Rows T' w' K rows vs:=
 ⟨h.1,fun i row hi=>⟨(h.2 i row hi).1,fun j d hj=>by
  obtain ⟨u,h1,h2⟩:=(h.2 i row hi).2 j d hj
  exact ⟨u,h1,h2.grow G⟩⟩⟩
theorem oM {w:World} {g:Nat} {o:Obj} (h:w.heap[g]?=some o):g < w.heap.size:=(Array.getElem?_eq_some_iff.1 h).1
theorem dg.grow {k:Nat} {b:AB} (h:dg σ T w (σ k) b) (G:Grow σ σ' T T' w w' C) (hk:∀ g,σ k=some g->¬C g.g/\(T g.g->T' g.g)) (hn:σ k=none->σ' k=none):dg σ' T' w' (σ' k) b:=by
 cases b with
 |box t cs=>
  obtain ⟨g,vs,h1,h2,h3,h4⟩:=h
  exact ⟨g,vs,G.σle _ _ h1,(hk g h1).2 h2,(G.cF g.g (oM h3) (hk g h1).1).trans h3,h4.mono fun _ _ h=>h.grow G⟩
 |arr t K rows=>
  refine ⟨h.1,?_⟩
  rcases h.2 with ⟨h1,h2⟩|⟨g,vs,h1,h2,h3,h5,h6,h4⟩
  ·exact .inl ⟨h1,hn h2⟩
  ·exact .inr ⟨g,vs,G.σle _ _ h1,(hk g h1).2 h2,(G.cF g.g (oM h3) (hk g h1).1).trans h3,h5,h6,h4.grow G⟩
 |map es clock=>
  obtain ⟨g,ms,h1,h2,h3,h4⟩:=h
  exact ⟨g,ms,G.σle _ _ h1,(hk g h1).2 h2,(G.cF g.g (oM h3) (hk g h1).1).trans h3,h4⟩
end
end
section

structure Core (σ:Nat->Option bM) (T:Nat->Prop) (st:aJ) (a:Act) (w:World):Prop where
 fm:∀ i v,look st.s i=some v->eB σ T w v (a.tmps.getD i undef)
 heap:∀ k b,look st.h k=some b->dg σ T w (σ k) b
 inj:∀ k k' b b' g g',look st.h k=some b->look st.h k'=some b'->σ k=some g->σ k'=some g'->g.g=g'.g->k=k'
 er:∀ b,T b->b < w.heap.size
abbrev NT:=Nat×List Deferred
structure rn (W0:World) (F:Nat->Prop) (N:NT) (σ:Nat->Option bM) (T:Nat->Prop) (st:aJ) (a:Act) (w:World):Prop where
 core:Core σ T st a w
 os:w.os=W0.os
 tape:w.tape=W0.tape
 output:w.output=W0.output
 size:W0.heap.size<=w.heap.size
 cF:∀ b,b < W0.heap.size->¬F b->w.heap[b]?=W0.heap[b]?
 own:∀ k b g,look st.h k=some b->σ k=some g->W0.heap.size<=g.g\/F g.g
 next:∀ k,st.n<=k->σ k=none
 hn:∀ k b,look st.h k=some b->k < st.n
 jt:a.tmps.size=N.1
 iX:a.defers=N.2
def Inv (W0:World) (F:Nat->Prop) (N:NT) (T0:Nat->Prop) (pin:List (Nat×bM)) (st:aJ) (a:Act) (w:World):Prop:=∃ σ T,(∀ b,b < W0.heap.size->(T b->T0 b)/\(T0 b->T b))/\rn W0 F N σ T st a w/\∀ k g,look pin k=some g->σ k=some g

theorem bm.inv {T:Nat->Prop} {w:World} {x v:Value} (h:bm T w (.v x) v):v=x:=by cases h;rfl
theorem bm.one {T:Nat->Prop} {w:World} {x v:Value} (h:bm T w (.v x) v):x.oneCell'=true:=by cases h;assumption
def Cg:Value->AV
 |.agg _=>.v (.c .any)
 |.tuple _=>.v (.c .any)
 |x=>.v (.c (.d (.v x)))
def ev (st:aJ):Operand->AV->Prop
 |.tmp t,v=>look st.s t=some v
 |.const c,v=>v=Cg c
 |.func f,v=>v=.v (.c (.fn f []))
 |.global _,_=>False
theorem CI {σ:Nat->Option bM} {T:Nat->Prop} {w:World} (x:Value):eB σ T w (Cg x) x:=by
 cases x<;>first|exact bm.v _ rfl|trivial
theorem bD {σ:Nat->Option bM} {T:Nat->Prop} {st:aJ} {a:Act} {w:World} (C:Core σ T st a w) {x:Operand} {v:AV} (h:ev st x v):eB σ T w v (a.eval x):=by
 cases x with
 |tmp t=>exact C.fm t v h
 |const c=>have h:v=Cg c:=h;subst h;exact CI c
 |func f=>have h:v=_:=h;subst h;exact ⟨[],rfl,rfl⟩
 |global g=>exact h.elim

structure Ext (σ:Nat->Option bM) (T:Nat->Prop) (w:World) (σ':Nat->Option bM) (T':Nat->Prop) (w':World) (nb:List (Nat×AB)) (E:List Nat):Prop where
 os:w'.os=w.os
 tape:w'.tape=w.tape
 output:w'.output=w.output
 grow:Grow σ σ' T T' w w' fun b=>∃ k∈E,∃ g,σ k=some g/\g.g=b
 lS:∀ b,T b->T' b
 er:∀ b,T' b->b < w'.heap.size
 wV:∀ k,(∀ b,(k,b) ∉ nb)->σ' k=σ k
 rel:∀ k b,(k,b)∈nb->dg σ' T' w' (σ' k) b
 fresh:∀ k b g,(k,b)∈nb->σ' k=some g->w.heap.size<=g.g\/∃ e∈E,∃ g',σ e=some g'/\g'.g=g.g
 inj:∀ k k' b b' g g',(k,b)∈nb->(k',b')∈nb->σ' k=some g->σ' k'=some g'->g.g=g'.g->k=k'
def wH:Exit->Act->World->Prop:=fun _ _ _=>False
def aE (P:Program) (o:Oper) (st:aJ) (av:AV) (nb:List (Nat×AB)) (E:List Nat):Prop:=
 ∀ σ T a w,Core σ T st a w->(∀ k b,(k,b)∈nb->k ∉ E->σ k=none)->
  o.wp P a w (fun a' w'=>∃ u σ' T',a'=a.put o.dst u/\Ext σ T w σ' T' w' nb E/\eB σ' T' w' av u) wH
theorem xl {P:Program} {o:Oper} {a:Act} {K:Act->World->Prop} {Q:Exit->Act->World->Prop} {r:Result Next} (h:o.upon P a K wH r):o.upon P a K Q r:=by
 cases r with
 |ok n w'=>
  cases n<;>simp only [Oper.upon] at h ⊢<;>try exact h
  refine h.mono fun e w'' he=>?_
  cases e with
  |returned v=>exact he
  |panicked c=>exact he.elim
  |outgrown=>obtain ⟨_,_,h⟩:=he;exact h.elim
 |halt x w'=>cases x<;>simp only [Oper.upon] at h ⊢<;>exact h.elim
theorem ib {P:Program} {o:Oper} {a:Act} {w:World} {Q:Exit->Act->World->Prop} {K K':Act->World->Prop} (hh:o.wp P a w K Q) (h:∀ a w,K a w->K' a w):o.wp P a w K' Q:=Oper.wp_mono h hh
theorem mF {P:Program} {o:Oper} {a:Act} {w:World} {K:Act->World->Prop} {Q:Exit->Act->World->Prop} (h:o.wp P a w K wH):o.wp P a w K Q:=xl h

def aJ.put (st:aJ) (dst:Option Tmp) (av:AV):aJ:=
 match dst with
 |some d=>{st with s:=(d,av)::st.s}
 |none=>st
def del (E:List Nat) (h:List (Nat×AB)):List (Nat×AB):=h.filter fun x=>!E.contains x.1
theorem uF {E:List Nat} {h:List (Nat×AB)} {k:Nat} {b:AB} (hl:look (del E h) k=some b):look h k=some b/\k ∉ E:=by
 induction h with
 |nil=>cases hl
 |cons y l ih=>
  obtain ⟨j,z⟩:=y
  unfold del at hl
  rw [List.filter_cons] at hl
  rw [bT]
  split at hl
  ·rename_i hc
   rw [bT] at hl
   split at hl
   ·rename_i hj;subst hj;rw [if_pos rfl];exact ⟨hl,by simpa using hc⟩
   ·rename_i hj;rw [if_neg hj];exact ih hl
  ·rename_i hc
   have:=ih hl
   by_cases hj:j=k
   ·subst hj;simp at hc;exact absurd hc this.2
   ·rw [if_neg hj];exact this
def iw:List (Nat×AB)->Nat->Nat
 |[],n=>n
 |(k,_)::l,n=>iw l (Nat.max n (k+1))
theorem AK (l:List (Nat×AB)):∀ n,n<=iw l n/\∀ k b,(k,b)∈l->k < iw l n:=by
 induction l with
 |nil=>intro n;exact ⟨Nat.le_refl _,fun _ _ h=>by cases h⟩
 |cons y l ih=>
  intro n
  obtain ⟨j,z⟩:=y
  have:=ih (Nat.max n (j+1))
  refine ⟨Nat.le_trans (Nat.le_max_left _ _) this.1,fun k b h=>?_⟩
  rcases List.mem_cons.1 h with h|h
  ·injection h with h1 h2;subst h1;exact Nat.lt_of_lt_of_le (Nat.lt_of_lt_of_le (Nat.lt_succ_self _) (Nat.le_max_right _ _)) this.1
  ·exact this.2 k b h
def aJ.add (st:aJ) (nb:List (Nat×AB)) (E:List Nat):aJ:={st with h:=nb++del E st.h,n:=iw nb st.n}

theorem oZ {α:Type} {l l':List (Nat×α)} {i:Nat} {x:α} (h:look (l++l') i=some x):look l i=some x\/look l' i=some x:=by
 rw [gJ] at h
 cases hl:look l i with
 |none=>rw [hl] at h;exact .inr h
 |some y=>rw [hl] at h;exact .inl h
theorem AX {a:Act} {dst:Option Tmp} {u:Value} (i:Nat) (h:dst≠some i):(a.put dst u).tmps.getD i undef=a.tmps.getD i undef:=by
 cases dst with
 |none=>rfl
 |some d=>
  simp only [Act.put,Array.getD_eq_getD_getElem?,Array.getElem?_setIfInBounds]
  rw [if_neg (fun e=>h (by rw [e]))]
theorem size_put (a:Act) (dst:Option Tmp) (u:Value):(a.put dst u).tmps.size=a.tmps.size:=by cases dst<;>simp [Act.put]
theorem yc (a:Act) (dst:Option Tmp) (u:Value):(a.put dst u).defers=a.defers:=by cases dst<;>rfl
theorem tv {a:Act} {d:Tmp} {u:Value} (h:d < a.tmps.size):(a.put (some d) u).tmps.getD d undef=u:=by
 simp [Act.put,Array.getD_eq_getD_getElem?,h]

theorem jF {α:Type} {l:List (Nat×α)} {k:Nat} {b:α} (h:(k,b)∈l):look l k≠none:=by
 induction l with
 |nil=>cases h
 |cons z l ih=>
  obtain ⟨j,zz⟩:=z
  rw [bT]
  split
  ·simp
  ·rename_i hj
   rcases List.mem_cons.1 h with h3|h3
   ·injection h3 with e1 e2;exact absurd e1.symm hj
   ·exact ih h3
theorem dg.nz {σ:Nat->Option bM} {T:Nat->Prop} {w:World} {og:Option bM} {b:AB} {g:bM} (h:dg σ T w og b) (hg:og=some g):T g.g:=by
 subst hg
 cases b with
 |box t cs=>obtain ⟨g1,vs,h1,h2,_⟩:=h;injection h1 with h1;subst h1;exact h2
 |arr t K rows=>
  rcases h.2 with ⟨_,h1⟩|⟨g1,vs,h1,h2,_⟩
  ·cases h1
  ·injection h1 with h1;subst h1;exact h2
 |map es cl=>obtain ⟨g1,vs,h1,h2,_⟩:=h;injection h1 with h1;subst h1;exact h2

theorem Core.step {σ : Nat → Option bM} {T : Nat → Prop} {st : aJ} {a : Act} {w : World} (C : Core σ T st a w) {σ' : Nat → Option bM} {T' : Nat → Prop} {w' : World} {nb : List (Nat × AB)} {E : List Nat} {dst : Option Tmp} {av : AV} {u : Value}
    (hE : ∀ e ∈ E, ∃ b, look st.h e = some b) (hd : ∀ d, dst = some d → d < a.tmps.size) (X : Ext σ T w σ' T' w' nb E) (hv : eB σ' T' w' av u) :
    Core σ' T' ((st.add nb E).put dst av) (a.put dst u) w' ∧ ∀ k b g, look ((st.add nb E).put dst av).h k = some b → σ' k = some g → ((k, b) ∈ nb) ∨ (look st.h k = some b ∧ k ∉ E ∧ σ k = some g) := by
  have hs : ∀ i v, look st.s i = some v → dst ≠ some i → eB σ' T' w' v ((a.put dst u).tmps.getD i undef) := fun i v hi hne => by
    rw [AX i hne]; exact (C.fm i v hi).grow X.grow
  have hheap : ((st.add nb E).put dst av).h = nb ++ del E st.h := by cases dst <;> rfl
  have hh : ∀ k b, look (nb ++ del E st.h) k = some b → (k, b) ∈ nb ∨ (look st.h k = some b ∧ k ∉ E ∧ σ' k = σ k) := by
    intro k b hk
    rw [gJ] at hk
    cases hl : look nb k with
    | some y => rw [hl] at hk; have hk' : y = b := by simpa using hk
                subst hk'; exact .inl (bL hl)
    | none =>
      rw [hl] at hk
      have := uF (show look (del E st.h) k = some b from hk)
      exact .inr ⟨this.1, this.2, X.wV k fun b' hb' => jF hb' hl⟩
  have key : ∀ k b g, look (nb ++ del E st.h) k = some b → σ' k = some g → ((k, b) ∈ nb) ∨ (look st.h k = some b ∧ k ∉ E ∧ σ k = some g) := by
    intro k b g hk hg
    rcases hh k b hk with h | ⟨h, hkE, hd'⟩
    · exact .inl h
    · exact .inr ⟨h, hkE, hd' ▸ hg⟩
  have hslot : ∀ i v, look ((st.add nb E).put dst av).s i = some v → eB σ' T' w' v ((a.put dst u).tmps.getD i undef) := by
    intro i v hi
    cases dst with
    | none => exact hs i v hi (by simp)
    | some d =>
      have hi' : look ((d, av) :: st.s) i = some v := hi
      rw [bT] at hi'
      split at hi'
      · rename_i hdi; subst hdi; injection hi' with hi'; subst hi'
        rw [tv (hd _ rfl)]; exact hv
      · rename_i hdi; exact hs i v hi' (by simpa using hdi)
  refine ⟨⟨hslot, ?_, ?_, X.er⟩, fun k b g hk hg => key k b g (hheap ▸ hk) hg⟩
  · intro k b hk
    rw [hheap] at hk
    rcases hh k b hk with h | ⟨h, hkE, hd'⟩
    · exact X.rel k b h
    · refine (C.heap k b h).grow X.grow ?_ (fun hn => by rw [hd']; exact hn)
      intro g hg
      refine ⟨?_, X.lS g.g⟩
      rintro ⟨e, he, g', hge, hgg⟩
      obtain ⟨b', hb'⟩ := hE e he
      exact hkE (C.inj k e b b' g g' h hb' hg hge hgg.symm ▸ he)
  · intro k k' b b' g g' hk hk' hg hg' hgg
    rw [hheap] at hk hk'
    have cross : ∀ k b k' b' g g', (k, b) ∈ nb → σ' k = some g → look st.h k' = some b' → k' ∉ E → σ k' = some g' → g.g = g'.g → False := by
      intro k b k' b' g g' hk hg hk' hkE hg' hgg
      rcases X.fresh k b g hk hg with h | ⟨e, he, g2, hge, hg2⟩
      · have := C.er g'.g ((C.heap k' b' hk').nz hg')
        omega
      · obtain ⟨b2, hb2⟩ := hE e he
        exact hkE (C.inj k' e b' b2 g' g2 hk' hb2 hg' hge (hgg.symm.trans hg2.symm) ▸ he)
    rcases key k b g hk hg with h | ⟨h, hkE, hg1⟩
    · rcases key k' b' g' hk' hg' with h' | ⟨h', hkE', hg1'⟩
      · exact X.inj k k' b b' g g' h h' hg hg' hgg
      · exact (cross k b k' b' g g' h hg h' hkE' hg1' hgg).elim
    · rcases key k' b' g' hk' hg' with h' | ⟨h', hkE', hg1'⟩
      · exact (cross k' b' k b g' g h' hg' h hkE hg1 hgg.symm).elim
      · exact C.inj k k' b b' g g' h h' hg1 hg1' hgg
theorem rn.step {W0:World} {F:Nat->Prop} {N:NT} {σ:Nat->Option bM} {T:Nat->Prop} {st:aJ} {a:Act} {w:World} (S:rn W0 F N σ T st a w) {σ':Nat->Option bM} {T':Nat->Prop} {w':World} {nb:List (Nat×AB)} {E:List Nat} {dst:Option Tmp} {av:AV} {u:Value}
  (hE:∀ e∈E,∃ b,look st.h e=some b) (hd:∀ d,dst=some d->d < N.1) (X:Ext σ T w σ' T' w' nb E) (hv:eB σ' T' w' av u):
  rn W0 F N σ' T' ((st.add nb E).put dst av) (a.put dst u) w':=by
 obtain ⟨C',key⟩:=S.core.step hE (fun d h=>by rw [S.jt];exact hd d h) X hv
 have hn:((st.add nb E).put dst av).n=iw nb st.n:=by cases dst<;>rfl
 have hm:=AK nb st.n
 have own:∀ b,(∃ e∈E,∃ g,σ e=some g/\g.g=b)->W0.heap.size<=b\/F b:=by
  rintro b ⟨e,he,g,hg,rfl⟩
  obtain ⟨b,hb⟩:=hE e he
  exact S.own e b g hb hg
 refine ⟨C',X.os.trans S.os,X.tape.trans S.tape,X.output.trans S.output,Nat.le_trans S.size X.grow.size,?_,?_,?_,?_,by rw [size_put];exact S.jt,by rw [yc];exact S.iX⟩
 ·intro b hb hF
  refine (X.grow.cF b (Nat.lt_of_lt_of_le hb S.size) ?_).trans (S.cF b hb hF)
  intro h
  rcases own b h with h|h
  ·omega
  ·exact hF h
 ·intro k b g hk hg
  rcases key k b g hk hg with h|⟨h,_,hg1⟩
  ·rcases X.fresh k b g h hg with h1|h1
   ·exact .inl (Nat.le_trans S.size h1)
   ·exact own g.g h1
  ·exact S.own k b g h hg1
 ·intro k hk
  rw [hn] at hk
  rw [X.wV k fun b hb=>by have:=hm.2 k b hb;omega]
  exact S.next k (by omega)
 ·intro k b hk
  rw [hn]
  have hheap:((st.add nb E).put dst av).h=nb++del E st.h:=by cases dst<;>rfl
  rw [hheap] at hk
  rcases oZ hk with h|h
  ·exact hm.2 k b (bL h)
  ·exact Nat.lt_of_lt_of_le (S.hn k b (uF h).1) hm.1

def QX (W0:World) (F:Nat->Prop) (N:NT) (T0:Nat->Prop) (pin:List (Nat×bM)) (Q:Exit->aJ->Prop):Exit->Act->World->Prop:=fun e a w=>∃ st,Q e st/\Inv W0 F N T0 pin st a w
section
variable {P:Program} {W0:World} {F:Nat->Prop} {N:NT} {T0:Nat->Prop} {pin:List (Nat×bM)} {ops:Array Oper} {Q:Exit->aJ->Prop}
def AL (P:Program) (W0:World) (F:Nat->Prop) (N:NT) (T0:Nat->Prop) (pin:List (Nat×bM)) (ops:Array Oper) (Q:Exit->aJ->Prop) (l:List Oper) (st:aJ):Prop:=
 ∀ a w,Inv W0 F N T0 pin st a w->wpList P ops (QX W0 F N T0 pin Q) l a w
theorem cf {st:aJ} (h:Q .normal st):AL P W0 F N T0 pin ops Q [] st:=fun _ _ hI=>⟨st,h,hI⟩
def ah (ops:Array Oper) (o:Oper) (st:aJ):Prop:=∀ σ T a w,Core σ T st a w->Region.wanted o (yielded ops a.tmps)=true
def gN (ops:Array Oper) (o:Oper) (st:aJ):Prop:=∀ σ T a w,Core σ T st a w->Region.wanted o (yielded ops a.tmps)=false
theorem ah.plain {o:Oper} {st:aJ} (hg:o.guard=none):ah ops o st:=fun _ _ _ _ _=>by simp [Region.wanted,hg]
theorem qp {st:aJ} {σ:Nat->Option bM} {T:Nat->Prop} {a:Act} {w:World} (C:Core σ T st a w) {oj:Oper} {j:Nat} {t:Tmp} {b:Bool} (hj:ops[j]?=some oj) (hd:oj.dst=some t) (hs:look st.s t=some (.v (.c (.d (.v (.bool b)))))):yielded ops a.tmps j=some b:=by
 have h:a.tmps.getD t undef=.bool b:=bm.inv (C.fm _ _ hs)
 rw [Array.getD_eq_getD_getElem?] at h
 cases ht:a.tmps[t]? with
 |none=>rw [ht] at h;cases h
 |some v=>rw [ht] at h;have h:v=.bool b:=h;subst h;simp [yielded,hj,hd,ht]
theorem ah.yes {o:Oper} {st:aJ} {j:Nat} {t:Tmp} {b:Bool} (hg:o.guard=some (j,b)) (hd:(ops[j]?).bind (·.dst)=some t) (hs:look st.s t=some (.v (.c (.d (.v (.bool b)))))):ah ops o st:=fun σ T a w C=>by
 cases hj:ops[j]? with
 |none=>simp [hj] at hd
 |some oj=>simp [Region.wanted,hg,qp C hj (by simpa [hj] using hd) hs]
theorem gN.no {o:Oper} {st:aJ} {j:Nat} {t:Tmp} {b:Bool} (hg:o.guard=some (j,b)) (hd:(ops[j]?).bind (·.dst)=some t) (hs:look st.s t=some (.v (.c (.d (.v (.bool (!b))))))):gN ops o st:=fun σ T a w C=>by
 cases hj:ops[j]? with
 |none=>simp [hj] at hd
 |some oj=>simp [Region.wanted,hg,qp C hj (by simpa [hj] using hd) hs]
theorem gN.un {o:Oper} {st:aJ} {j:Nat} {t:Tmp} {b:Bool} (hg:o.guard=some (j,b)) (hd:(ops[j]?).bind (·.dst)=some t) (hs:look st.s t=some (.t [])):gN ops o st:=fun σ T a w C=>by
 cases hj:ops[j]? with
 |none=>simp [hj] at hd
 |some oj=>
  obtain ⟨vs,h1,h2⟩:=C.fm _ _ hs
  have hvs:vs=[]:=by cases vs with|nil=>rfl|cons=>exact h2.elim
  subst hvs
  have hdst:oj.dst=some t:=by simpa [hj] using hd
  rw [Array.getD_eq_getD_getElem?] at h1
  cases ht:a.tmps[t]? with
  |none=>simp [Region.wanted,hg,yielded,hj,hdst,ht]
  |some v=>rw [ht] at h1;have h1:v=.tuple #[]:=h1;subst h1;simp [Region.wanted,hg,yielded,hj,hdst,ht]
theorem rp {o:Oper} {rest:List Oper} {st:aJ} {av:AV} {nb:List (Nat×AB)} {E:List Nat} (hw:ah ops o st) (g:aE P o st av nb E) (hd:∀ d,o.dst=some d->d < N.1) (hE:∀ e∈E,∃ b,look st.h e=some b) (hnb:∀ k b,(k,b)∈nb->k ∉ E->st.n<=k)
  (h:AL P W0 F N T0 pin ops Q rest ((st.add nb E).put o.dst av)):AL P W0 F N T0 pin ops Q (o::rest) st:=by
 rintro a w ⟨σ,T,hT,S,hp⟩
 refine wpList_step fun K hK=>?_
 rw [if_pos (hw σ T a w S.core)]
 refine mF (ib (g σ T a w S.core fun k b hk hE=>S.next k (hnb k b hk hE)) ?_)
 rintro a' w' ⟨u,σ',T',rfl,X,hv⟩
 exact hK _ _ (h _ _ ⟨σ',T',fun b hb=>⟨fun hb'=>(hT b hb).1 (X.grow.kP b (Nat.lt_of_lt_of_le hb S.size) hb'),fun h0=>X.lS b ((hT b hb).2 h0)⟩,S.step hE hd X hv,fun k g hk=>X.grow.σle _ _ (hp k g hk)⟩)
theorem Ext.same {σ:Nat->Option bM} {T:Nat->Prop} {w:World} (hT:∀ b,T b->b < w.heap.size):Ext σ T w σ T w [] []:=
 ⟨rfl,rfl,rfl,⟨Nat.le_refl _,fun _ _ _=>rfl,(fun b h=>by obtain ⟨k,hk,_⟩:=h;cases hk),fun _ _ h=>h,fun _ _ h=>h⟩,fun _ h=>h,hT,fun _ _=>rfl,(fun _ _ h=>by cases h),(fun _ _ _ h=>by cases h),(fun _ _ _ _ _ _ h=>by cases h)⟩
theorem CP {o:Oper} {rest:List Oper} {st:aJ} (hw:gN ops o st) (hd:∀ d,o.dst=some d->d < N.1) (h:AL P W0 F N T0 pin ops Q rest (st.put o.dst (.t []))):AL P W0 F N T0 pin ops Q (o::rest) st:=by
 rintro a w ⟨σ,T,hT,S,hp⟩
 refine wpList_step fun K hK=>?_
 rw [if_neg (by rw [hw σ T a w S.core];simp)]
 refine hK _ _ (h _ _ ⟨σ,T,hT,?_,hp⟩)
 have:=S.step (nb:=[]) (E:=[]) (dst:=o.dst) (av:=.t []) (u:=undef) (fun _ h=>by cases h) hd (Ext.same S.core.er) ⟨[],rfl,trivial⟩
 have e:st.add [] []=st:=by
  have:del [] st.h=st.h:=List.filter_eq_self.2 fun _ _=>rfl
  simp [aJ.add,this,iw]
 rwa [e] at this
end
end
section

def dn {α:Type} (p:α->Prop):List α->Prop
 |[]=>True
 |x::l=>p x/\dn p l
theorem dn.mem {α:Type} {p:α->Prop}:∀ {l:List α},dn p l->∀ x∈l,p x
 |_::_,h,x,hx=>by
  rcases List.mem_cons.1 hx with rfl|hx
  ·exact h.1
  ·exact dn.mem h.2 x hx

section
variable {P:Program} {W0:World} {F:Nat->Prop} {N:NT} {T0:Nat->Prop} {pin:List (Nat×bM)} {Q:Exit->aJ->Prop} {st:aJ}
def AC (P:Program) (W0:World) (F:Nat->Prop) (N:NT) (T0:Nat->Prop) (pin:List (Nat×bM)) (Q:Exit->aJ->Prop) (c:Code) (st:aJ):Prop:=
 ∀ a w,Inv W0 F N T0 pin st a w->c.wp P (QX W0 F N T0 pin Q) a w
def iF (next:aJ->Prop) (Q:Exit->aJ->Prop):Exit->aJ->Prop
 |.normal,st=>next st
 |e,st=>Q e st
def ik (id:Nat) (Q:Exit->aJ->Prop):Exit->aJ->Prop
 |.exit id',st=>if id'=id then Q .normal st else Q (.exit id') st
 |e,st=>Q e st
theorem ag {x y:Code} (h:AC P W0 F N T0 pin (iF (AC P W0 F N T0 pin Q y) Q) x st):AC P W0 F N T0 pin Q (.seq x y) st:=fun a w hI=>
 wp_seq (Code.wp_mono (fun e a w q=>by
  obtain ⟨st',hq,hi⟩:=q
  cases e<;>first|exact hq a w hi|exact ⟨st',hq,hi⟩) (h a w hI))
theorem aU {id:Nat} {c:Code} (h:AC P W0 F N T0 pin (ik id Q) c st):AC P W0 F N T0 pin Q (.block id c) st:=fun a w hI=>
 wp_block (Code.wp_mono (fun e a w q=>by
  obtain ⟨st',hq,hi⟩:=q
  cases e<;>try exact ⟨st',hq,hi⟩
  rename_i id'
  simp only [Exit.inBlock]
  by_cases hid:id'=id
  ·rw [if_pos hid];subst hid;exact ⟨st',by simpa [ik] using hq,hi⟩
  ·rw [if_neg hid];exact ⟨st',by simpa [ik,hid] using hq,hi⟩) (h a w hI))
theorem cG (h:Q .normal st):AC P W0 F N T0 pin Q .skip st:=fun _ _ hI=>wp_skip ⟨st,h,hI⟩
theorem ay (h:Q .ret st):AC P W0 F N T0 pin Q .ret st:=fun _ _ hI=>wp_ret ⟨st,h,hI⟩
theorem bZ {id:Nat} (h:Q (.exit id) st):AC P W0 F N T0 pin Q (.exit id) st:=fun _ _ hI=>wp_exit ⟨st,h,hI⟩
theorem aj {c:Operand} {x y:Code} {b:Bool} (hc:ev st c (.v (.c (.d (.v (.bool b)))))) (ht:b=true->AC P W0 F N T0 pin Q x st) (hf:b=false->AC P W0 F N T0 pin Q y st):AC P W0 F N T0 pin Q (.cond c x y) st:=fun a w hI=>by
 obtain ⟨σ,T,hT,S,hp⟩:=hI
 exact wp_cond_split (bm.inv (bD S.core hc)) (fun h=>ht h a w ⟨σ,T,hT,S,hp⟩) (fun h=>hf h a w ⟨σ,T,hT,S,hp⟩)
theorem aw {id:Nat} {l:List Oper} (h:AL P W0 F N T0 pin l.toArray Q l st):AC P W0 F N T0 pin Q (.region id l.toArray false) st:=fun a w hI=>wp_region_lit (h a w hI)

def aH (pin:List (Nat×bM)) (st st':aJ):Prop:=∀ W0 F N T0 a w,Inv W0 F N T0 pin st a w->Inv W0 F N T0 pin st' a w
theorem aH.refl {pin:List (Nat×bM)} (st:aJ):aH pin st st:=fun _ _ _ _ _ _ h=>h
theorem aH.trans {pin:List (Nat×bM)} {a b c:aJ} (h:aH pin a b) (h':aH pin b c):aH pin a c:=fun W0 F N T0 x w hi=>h' W0 F N T0 x w (h W0 F N T0 x w hi)
theorem gY {st':aJ} {c:Code} (hw:aH pin st st') (h:AC P W0 F N T0 pin Q c st'):AC P W0 F N T0 pin Q c st:=fun a w hI=>h a w (hw _ _ _ _ a w hI)
theorem ld {st':aJ} {ops:Array Oper} {l:List Oper} (hw:aH pin st st') (h:AL P W0 F N T0 pin ops Q l st'):AL P W0 F N T0 pin ops Q l st:=fun a w hI=>h a w (hw _ _ _ _ a w hI)
theorem cj {β:Type} {c:Code} (I:β->aJ) (Pr:β->Prop) (μ:β->Nat) (x0:β) (h0:Pr x0) (hw:aH pin st (I x0))
  (round:∀ x,Pr x->AC P W0 F N T0 pin (iF (fun st'=>∃ y,Pr y/\μ y < μ x/\aH pin st' (I y)) Q) c (I x)):AC P W0 F N T0 pin Q (.loop c) st:=fun a w hI=>
 wp_loop_ghost (fun n a w=>∃ x,Pr x/\μ x=n/\Inv W0 F N T0 pin (I x) a w) (μ x0) ⟨x0,h0,rfl,hw _ _ _ _ _ _ hI⟩ fun n a w ⟨x,hx,hn,hi⟩=>
  Code.wp_mono (fun e a w q=>by
   obtain ⟨st',hq,hi⟩:=q
   cases e<;>try exact ⟨st',hq,hi⟩
   obtain ⟨y,h1,h2,h3⟩:=hq
   exact ⟨μ y,hn▸h2,y,h1,rfl,h3 _ _ _ _ _ _ hi⟩) (round x hx a w hi)
end

def CV.map (ρ:Nat->Nat):CV->CV
 |.p k i K o=>.p (ρ k) i K o
 |.s k i K n=>.s (ρ k) i K n
 |.sx k i K n c e=>.sx (ρ k) i K n c e
 |.m k=>.m (ρ k)
 |.fn f bd=>.fn f (bd.map ρ)
 |x=>x
def GV.map (ρ:Nat->Nat):GV->GV
 |.c x=>.c (x.map ρ)
 |.g xs=>.g (xs.map (CV.map ρ))
def AV.map (ρ:Nat->Nat):AV->AV
 |.v x=>.v (x.map ρ)
 |.t xs=>.t (xs.map (GV.map ρ))
def AB.map' (ρ:Nat->Nat):AB->AB
 |.box t cs=>.box t (cs.map (CV.map ρ))
 |x=>x
def CV.ok (p:Nat->Bool):CV->Bool
 |.p k _ _ _=>p k
 |.s k _ _ _=>p k
 |.sx k _ _ _ _ _=>p k
 |.m k=>p k
 |.fn _ bd=>bd.all p
 |_=>true
def GV.ok (p:Nat->Bool):GV->Bool
 |.c x=>x.ok p
 |.g xs=>xs.all (CV.ok p)
def AV.ok (p:Nat->Bool):AV->Bool
 |.v x=>x.ok p
 |.t xs=>xs.all (GV.ok p)
def AB.ok (p:Nat->Bool):AB->Bool
 |.box _ cs=>cs.all (CV.ok p)
 |_=>true
section
variable {σ σ':Nat->Option bM} {T:Nat->Prop} {w:World} {ρ:Nat->Nat} {p:Nat->Bool}
theorem cQ.bS (hσ:∀ k,p k=true->σ' k=σ (ρ k)) {x:CV} {v:Value} (h:cQ σ T w (x.map ρ) v) (hp:x.ok p=true):cQ σ' T w x v:=by
 cases x with
 |any=>trivial
 |d x=>exact h
 |p k i K o=>obtain ⟨g,h1,h2⟩:=h;exact ⟨g,(hσ k hp).trans h1,h2⟩
 |q row o=>exact h
 |s k i K n=>
  rcases h with h|⟨g,h1,h2⟩
  ·exact .inl h
  ·exact .inr ⟨g,(hσ k hp).trans h1,h2⟩
 |sx k i K n c e=>obtain ⟨g,off,h1,h2⟩:=h;exact ⟨g,off,(hσ k hp).trans h1,h2⟩
 |m k=>obtain ⟨g,h1,h2⟩:=h;exact ⟨g,(hσ k hp).trans h1,h2⟩
 |fn f bd=>
  obtain ⟨gs,h1,h2⟩:=h
  refine ⟨gs,?_,h2⟩
  rw [<-h1,List.map_map]
  refine List.map_congr_left fun k hk=>hσ k ?_
  have:bd.all p=true:=hp
  rw [List.all_eq_true] at this
  exact this k hk
theorem qn (hσ:∀ k,p k=true->σ' k=σ (ρ k)):∀ {xs:List CV} {vs:List Value},cc (cQ σ T w) (xs.map (CV.map ρ)) vs->xs.all (CV.ok p)=true->cc (cQ σ' T w) xs vs
 |[],[],_,_=>trivial
 |x::xs,v::vs,h,hp=>by
  simp only [List.all_cons,Bool.and_eq_true] at hp
  exact ⟨h.1.bS hσ hp.1,qn hσ h.2 hp.2⟩
 |[],_::_,h,_=>h.elim
 |_::_,[],h,_=>h.elim
theorem dh.bS (hσ:∀ k,p k=true->σ' k=σ (ρ k)) {x:GV} {v:Value} (h:dh σ T w (x.map ρ) v) (hp:x.ok p=true):dh σ' T w x v:=by
 cases x with
 |c x=>exact cQ.bS hσ (x:=x) h hp
 |g xs=>obtain ⟨vs,h1,h2⟩:=h;exact ⟨vs,h1,qn hσ h2 hp⟩
theorem tj (hσ:∀ k,p k=true->σ' k=σ (ρ k)):∀ {xs:List GV} {vs:List Value},cc (dh σ T w) (xs.map (GV.map ρ)) vs->xs.all (GV.ok p)=true->cc (dh σ' T w) xs vs
 |[],[],_,_=>trivial
 |x::xs,v::vs,h,hp=>by
  simp only [List.all_cons,Bool.and_eq_true] at hp
  exact ⟨h.1.bS hσ hp.1,tj hσ h.2 hp.2⟩
 |[],_::_,h,_=>h.elim
 |_::_,[],h,_=>h.elim
theorem eB.bS (hσ:∀ k,p k=true->σ' k=σ (ρ k)) {x:AV} {v:Value} (h:eB σ T w (x.map ρ) v) (hp:x.ok p=true):eB σ' T w x v:=by
 cases x with
 |v x=>exact dh.bS hσ (x:=x) h hp
 |t xs=>obtain ⟨vs,h1,h2⟩:=h;exact ⟨vs,h1,tj hσ h2 hp⟩
theorem dg.bS (hσ:∀ k,p k=true->σ' k=σ (ρ k)) {og:Option bM} {b:AB} (h:dg σ T w og (b.map' ρ)) (hp:b.ok p=true):dg σ' T w og b:=by
 cases b with
 |box t cs=>obtain ⟨g,vs,h1,h2,h3,h4⟩:=h;exact ⟨g,vs,h1,h2,h3,qn hσ h4 hp⟩
 |arr t K rows=>exact h
 |map es cl=>exact h
end
def bp (h:List (Nat×AB)) (k:Nat):Bool:=(look h k).isSome
def ef:List Nat->Bool
 |[]=>true
 |k::l=>!l.any (Nat.beq k) && ef l
def aJ.yV (st:aJ) (ρ:Nat->Nat) (pin:List (Nat×bM)):Bool:=
 pin.all (fun x=>bp st.h x.1 && Nat.beq (ρ x.1) x.1) &&
 st.s.all (fun x=>x.2.ok (bp st.h)) && st.h.all (fun x=>x.2.ok (bp st.h)) && st.h.all (fun x=>Nat.blt x.1 st.n) && ef (st.h.map fun x=>ρ x.1)
theorem yZ {l:List (Nat×AB)} {ρ:Nat->Nat} (h:ef (l.map fun x=>ρ x.1)=true):∀ k b k' b',(k,b)∈l->(k',b')∈l->ρ k=ρ k'->k=k':=by
 induction l with
 |nil=>intro _ _ _ _ h;cases h
 |cons y l ih=>
  obtain ⟨j,z⟩:=y
  simp only [List.map_cons,ef,Bool.and_eq_true,Bool.not_eq_true',List.any_eq_false] at h
  have far:∀ k b,(k,b)∈l->ρ j≠ρ k:=fun k b hm e=>h.1 (ρ k) (List.mem_map.2 ⟨(k,b),hm,rfl⟩) (by rw [e];exact Nat.beq_refl _)
  intro k b k' b' hk hk' he
  rcases List.mem_cons.1 hk with h1|h1
  ·injection h1 with e1 e2
   subst e1
   rcases List.mem_cons.1 hk' with h2|h2
   ·injection h2 with e3 e4;exact e3.symm
   ·exact absurd he (far _ _ h2)
  ·rcases List.mem_cons.1 hk' with h2|h2
   ·injection h2 with e3 e4;subst e3;exact absurd he.symm (far _ _ h1)
   ·exact ih h.2 k b k' b' h1 h2 he
theorem ze {α:Type} {l:List (Nat×α)} {i:Nat} {x:α} (h:look l i=some x):(i,x)∈l:=bL h
theorem aH.bS {pin:List (Nat×bM)} {st st':aJ} (ρ:Nat->Nat) (hs:dn (fun x=>look st.s x.1=some (x.2.map ρ)) st'.s) (hh:dn (fun x=>look st.h (ρ x.1)=some (x.2.map' ρ)) st'.h) (hok:st'.yV ρ pin=true):aH pin st st':=by
 rintro W0 F N T0 a w ⟨σ,T,hT,S,hp⟩
 simp only [aJ.yV,Bool.and_eq_true,List.all_eq_true] at hok
 obtain ⟨⟨⟨⟨ho0,ho1⟩,ho2⟩,ho3⟩,ho4⟩:=hok
 let σ':Nat->Option bM:=fun k=>if bp st'.h k=true then σ (ρ k) else none
 have hσ:∀ k,bp st'.h k=true->σ' k=σ (ρ k):=fun k hk=>if_pos hk
 have kin:∀ k b,look st'.h k=some b->bp st'.h k=true:=fun k b h=>by simp [bp,h]
 have hl:∀ k b,look st'.h k=some b->look st.h (ρ k)=some (b.map' ρ)/\σ' k=σ (ρ k):=fun k b h=>⟨hh.mem _ (bL h),hσ k (kin k b h)⟩
 refine ⟨σ',T,hT,⟨⟨?_,?_,?_,S.core.er⟩,S.os,S.tape,S.output,S.size,S.cF,?_,?_,?_,S.jt,S.iX⟩,fun k g hk=>?_⟩
 rotate_right
 ·have h1:=ho0 _ (ze hk)
  rw [hσ k h1.1,Nat.eq_of_beq_eq_true h1.2]
  exact hp k g hk
 ·intro i v hi
  have hm:=bL hi
  exact (S.core.fm i _ (hs.mem _ hm)).bS hσ (ho1 _ hm)
 ·intro k b hk
  rw [(hl k b hk).2]
  exact (S.core.heap _ _ (hl k b hk).1).bS hσ (ho2 _ (bL hk))
 ·intro k k' b b' g g' hk hk' hg hg' hgg
  rw [(hl k b hk).2] at hg
  rw [(hl k' b' hk').2] at hg'
  exact yZ ho4 k b k' b' (bL hk) (bL hk') (S.core.inj _ _ _ _ g g' (hl k b hk).1 (hl k' b' hk').1 hg hg' hgg)
 ·intro k b g hk hg
  rw [(hl k b hk).2] at hg
  exact S.own _ _ g (hl k b hk).1 hg
 ·intro k hk
  refine if_neg fun h=>?_
  cases hlk:look st'.h k with
  |none=>simp [bp,hlk] at h
  |some b=>
   have h3:=ho3 _ (bL hlk)
   rw [Nat.blt_eq] at h3
   have h3:k < st'.n:=h3
   omega
 ·intro k b hk
  have h3:=ho3 _ (bL hk)
  rw [Nat.blt_eq] at h3
  exact h3
theorem aH.nil {pin:List (Nat×bM)} {st:aJ} (i:Nat) (t K:Nat) (hK:0 < K) (hs:look st.s i=some (.v (.c (.d (.v (.slice none 0 0)))))):aH pin st {s:=(i,.v (.c (.s st.n 0 K 0)))::st.s,h:=(st.n,.arr t K [])::st.h,n:=st.n+1}:=by
 rintro W0 F N T0 a w ⟨σ,T,hT,S,hp⟩
 have hn:=S.next st.n (Nat.le_refl _)
 refine ⟨σ,T,hT,⟨⟨?_,?_,?_,S.core.er⟩,S.os,S.tape,S.output,S.size,S.cF,?_,fun k hk=>S.next k (by have:st.n+1<=k:=hk;omega),?_,S.jt,S.iX⟩,hp⟩
 ·intro j v hj
  have hj':look ((i,AV.v (.c (.s st.n 0 K 0)))::st.s) j=some v:=hj
  rw [bT] at hj'
  split at hj'
  ·rename_i e;subst e;injection hj' with hj';subst hj'
   exact .inl ⟨rfl,bm.inv (S.core.fm _ _ hs)⟩
  ·exact S.core.fm j v hj'
 ·intro k b hk
  have hk':look ((st.n,AB.arr t K [])::st.h) k=some b:=hk
  rw [bT] at hk'
  split at hk'
  ·rename_i e;subst e;injection hk' with hk';subst hk'
   exact ⟨hK,.inl ⟨rfl,hn⟩⟩
  ·exact S.core.heap k b hk'
 ·intro k k' b b' g g' hk hk' hg hg' hgg
  have hk1:look ((st.n,AB.arr t K [])::st.h) k=some b:=hk
  have hk2:look ((st.n,AB.arr t K [])::st.h) k'=some b':=hk'
  rw [bT] at hk1 hk2
  split at hk1
  ·rename_i e;subst e;rw [hn] at hg;cases hg
  ·split at hk2
   ·rename_i e;subst e;rw [hn] at hg';cases hg'
   ·exact S.core.inj k k' b b' g g' hk1 hk2 hg hg' hgg
 ·intro k b g hk hg
  have hk1:look ((st.n,AB.arr t K [])::st.h) k=some b:=hk
  rw [bT] at hk1
  split at hk1
  ·rename_i e;subst e;rw [hn] at hg;cases hg
  ·exact S.own k b g hk1 hg
 ·intro k b hk
  have hk1:look ((st.n,AB.arr t K [])::st.h) k=some b:=hk
  show k < st.n+1
  rw [bT] at hk1
  split at hk1
  ·omega
  ·have:=S.hn k b hk1;omega

structure Aa (base:Nat) (T:Nat->Prop) (w':World) (σ:Nat->Option bM) (T':Nat->Prop) (av:AV) (nb:List (Nat×AB)) (v:Value):Prop where
 rel:eB σ T' w' av v
 kP:∀ b,b < base->T' b->T b
 lS:∀ b,T b->T' b
 er:∀ b,T' b->b < w'.heap.size
 heap:∀ k b,(k,b)∈nb->dg σ T' w' (σ k) b
 fresh:∀ k b g,(k,b)∈nb->σ k=some g->base<=g.g
 inj:∀ k k' b b' g g',(k,b)∈nb->(k',b')∈nb->σ k=some g->σ k'=some g'->g.g=g'.g->k=k'
def Fn (P:Program) (f:FuncId) (ins:List GV) (av:AV) (nb:List (Nat×AB)):Prop:=
 ∀ (T:Nat->Prop) (w:World) (args:Array Value),(∀ b,T b->b < w.heap.size)->cc (dh (fun _=>none) T w) ins args.toList->
  Calls P f args w fun e w'=>∃ v σ T',e=.returned v/\Below w.heap.size w w'/\Aa w.heap.size T w' σ T' av nb v
def slotsOf:Nat->List GV->List (Nat×AV)
 |_,[]=>[]
 |i,x::l=>(i,.v x)::slotsOf (i+1) l
theorem lk {l:List GV}:∀ {i j:Nat} {v:AV},look (slotsOf i l) j=some v->∃ g,v=.v g/\i<=j/\l[j - i]?=some g:=by
 induction l with
 |nil=>intro i j v h;cases h
 |cons x l ih=>
  intro i j v h
  have h':look ((i,.v x)::slotsOf (i+1) l) j=some v:=h
  rw [bT] at h'
  split at h'
  ·rename_i e;subst e;injection h' with h';exact ⟨x,h'.symm,Nat.le_refl _,by simp⟩
  ·rename_i e
   obtain ⟨g,h1,h2,h3⟩:=ih h'
   refine ⟨g,h1,by omega,?_⟩
   rw [show j - i=(j - (i+1))+1 by omega]
   simpa using h3
inductive RV (P:Program) (st:aJ):ResultVar->GV->Prop
 |tmp {t:Tmp} {g:GV} (h:look st.s t=some (.v g)):RV P st (.tmp t) g
 |agg {a:Tmp} {ty k t:Nat} {cs:List CV} (h:look st.s a=some (.v (.c (.p k 0 0 0)))) (hb:look st.h k=some (.box t cs)) (ha:∀ w,(isAgg ty).run P w=.ok true w) (hz:(P.info? ty).map (·.size)=some cs.length):RV P st (.cell a ty) (.g cs)
 |one {a:Tmp} {ty k t:Nat} {c:CV} (h:look st.s a=some (.v (.c (.p k 0 0 0)))) (hb:look st.h k=some (.box t [c])) (ha:∀ w,(isAgg ty).run P w=.ok false w):RV P st (.cell a ty) (.c c)
def tl (P:Program) (st:aJ):List ResultVar->List GV->Prop
 |[],[]=>True
 |r::rs,g::gs=>RV P st r g/\tl P st rs gs
 |_,_=>False
def fL:List GV->AV
 |[g]=>.v g
 |gs=>.t gs
def jV (P:Program) (fn:Func) (pin:List (Nat×bM)) (av:AV) (nb:List (Nat×AB)):Exit->aJ->Prop:=fun e st=>
 (e=.ret\/e=.normal)/\∃ st' gs,aH pin st st'/\tl P st' fn.results.toList gs/\fL gs=av/\dn (fun x=>look st'.h x.1=some x.2) nb
theorem qD {P:Program} {w:World} {ty g t o:Nat} {vs:List Value} {ws:List Value} (hg:w.heap[g]?=some (.cells vs.toArray t (0,0))) (ha:(isAgg ty).run P w=.ok true w) (hz:(P.info? ty).map (·.size)=some ws.length)
  (hw:∀ j v,ws[j]?=some v->vs[o+j]?=some v):(loadVar ty ⟨g,o,none⟩).run P w=.ok (.agg ws.toArray) w:=by
 have hl:(loadCells ⟨g,o,none⟩ ws.length).run P w=.ok ws.toArray w:=
  run_loadCells_list (P:=P) w ⟨g,o,none⟩ ws (fun j v hv=>by
   rw [Addr.add_lit,cell_of_row w g (o+j) vs.toArray t (0,0) hg]
   simpa using hw j v hv)
 cases hq:P.info? ty with
 |none=>simp [hq] at hz
 |some i=>
  have hs:i.size=ws.length:=by simpa [hq] using hz
  simp [loadVar,ha,sizeOf,typeInfo,hq,hs,hl]
theorem lH {P:Program} {w:World} {ty:Nat} {a:Addr} {v:Value} (ha:(isAgg ty).run P w=.ok false w) (hc:w.cell? a=some v):(loadVar ty a).run P w=.ok v w:=by
 simp [loadVar,ha,run_load,hc]
def qA (a:Act):ResultVar->Sem Value
 |.tmp t=>pure (a.tmps.getD t undef)
 |.cell x t=>do loadVar t (<-asAddr (a.tmps.getD x undef))
theorem RV.run {P:Program} {σ:Nat->Option bM} {T:Nat->Prop} {st:aJ} {a:Act} {w:World} (C:Core σ T st a w) {r:ResultVar} {g:GV} (h:RV P st r g):
  ∃ v,(qA a r).run P w=.ok v w/\dh σ T w g v:=by
 cases h with
 |tmp h=>exact ⟨_,rfl,C.fm _ _ h⟩
 |agg h hb ha hz=>
  obtain ⟨gg,h1,h2⟩:=C.fm _ _ h
  obtain ⟨g2,vs,h3,_,h4,h5⟩:=C.heap _ _ hb
  rw [h1] at h3;injection h3 with h3;subst h3
  refine ⟨_,?_,vs,rfl,h5⟩
  simp only [qA,h2,asAddr,Sem.run_bind,Sem.run_pure,Result.andThen_ok]
  exact qD (vs:=vs) h4 (ha w) (by rw [<-h5.length];exact hz) fun j v hv=>by rw [Nat.zero_mul];simpa using hv
 |one h hb ha=>
  obtain ⟨gg,h1,h2⟩:=C.fm _ _ h
  obtain ⟨g2,vs,h3,_,h4,h5⟩:=C.heap _ _ hb
  rw [h1] at h3;injection h3 with h3;subst h3
  obtain ⟨v,hv,hr⟩:=h5.get (i:=0) rfl
  refine ⟨v,?_,hr⟩
  simp only [qA,h2,asAddr,Sem.run_bind,Sem.run_pure,Result.andThen_ok]
  exact lH (ha w) (by rw [Nat.zero_mul,Nat.zero_add,cell_of_row w gg.g 0 vs.toArray _ (0,0) h4];simpa using hv)
theorem tl.run {P:Program} {σ:Nat->Option bM} {T:Nat->Prop} {st:aJ} {a:Act} {w:World} (C:Core σ T st a w):∀ {rs:List ResultVar} {gs:List GV},tl P st rs gs->
  ∃ vs,(rs.mapM (qA a)).run P w=.ok vs w/\cc (dh σ T w) gs vs
 |[],[],_=>⟨[],by simp,trivial⟩
 |r::rs,g::gs,h=>by
  obtain ⟨v,hv,hr⟩:=RV.run C h.1
  obtain ⟨vs,hvs,hrs⟩:=tl.run C h.2
  refine ⟨v::vs,?_,hr,hrs⟩
  rw [List.mapM_cons]
  simp only [Sem.run_bind,hv,hvs,Result.andThen_ok,Sem.run_pure]
 |[],_::_,h=>h.elim
 |_::_,[],h=>h.elim
theorem lY {P:Program} {fn:Func} {σ:Nat->Option bM} {T:Nat->Prop} {st:aJ} {a:Act} {w:World} (C:Core σ T st a w) {gs:List GV} (h:tl P st fn.results.toList gs):∃ v,(results fn a.tmps).run P w=.ok v w/\eB σ T w (fL gs) v:=by
 obtain ⟨vs,hvs,hr⟩:=tl.run C h
 have hl:=hr.length
 refine ⟨if h:vs.length=1 then vs[0] else .tuple vs.toArray,?_,?_⟩
 ·have he:results fn a.tmps=(do
    let vs <-Functor.map List.toArray (fn.results.toList.mapM (qA a))
    pure (if h:vs.size=1 then vs[0] else .tuple vs)):=by
   unfold results
   rw [Array.mapM_eq_mapM_toList]
   congr 2
  rw [he]
  simp [hvs]
 ·match gs,vs,hr,hl with
  |[],[],_,_=>exact ⟨[],rfl,trivial⟩
  |[g],[v],hr,_=>exact hr.1
  |g::g'::gs,v::v'::vs,hr,_=>
   rw [dif_neg (by simp)]
   exact ⟨_,rfl,hr⟩
theorem Fn.mk {P:Program} {f:FuncId} {fn:Func} {c:Code} {ins:List GV} {av:AV} {nb:List (Nat×AB)} (hf:P.funcs[f]?=some fn) (hb:fn.body=some c) (hN:ins.length<=fn.ntmps)
  (h:∀ (W0:World) (T:Nat->Prop),AC P W0 (fun _=>False) (fn.ntmps,[]) T [] (jV P fn [] av nb) c {s:=slotsOf 0 ins,h:=[],n:=0}):Fn P f ins av nb:=by
 intro T w args hT bO
 have hlen:=bO.length
 have hlen:ins.length=args.size:=by simpa using hlen
 refine calls_of_wp hf hb (Code.wp_mono ?_ (h w T _ w ⟨fun _=>none,T,fun _ _=>⟨fun h=>h,fun h=>h⟩,⟨⟨?_,?_,?_,hT⟩,rfl,rfl,rfl,Nat.le_refl _,fun _ _ _=>rfl,?_,fun _ _=>rfl,?_,?_,rfl⟩,fun _ _ h=>by cases h⟩))
 ·rintro e a' w' ⟨st,⟨he,st',gs,hw,hr,rfl,hnb⟩,hI⟩
  obtain ⟨σ,T',hT',S,_⟩:=hw _ _ _ _ _ _ hI
  obtain ⟨v,hv,hrel⟩:=lY S.core hr
  have hpost:a'.defers=[]/\∃ v,(results fn a'.tmps).run P w'=.ok v w'/\∃ v' σ T',Ending.returned v=.returned v'/\Below w.heap.size w w'/\Aa w.heap.size T w' σ T' (fL gs) nb v':=by
   refine ⟨S.iX,v,hv,v,σ,T',rfl,⟨S.os,S.tape,S.output,S.size,fun b hb=>S.cF b hb (fun h=>h)⟩,?_⟩
   exact ⟨hrel,fun b hb=>(hT' b hb).1,fun b hb=>(hT' b (hT b hb)).2 hb,S.core.er,fun k b hk=>S.core.heap k b (hnb.mem _ hk),fun k b g hk hg=>(S.own k b g (hnb.mem _ hk) hg).resolve_right (fun h=>h),
    fun k k' b b' g g' hk hk' hg hg' hgg=>S.core.inj k k' b b' g g' (hnb.mem _ hk) (hnb.mem _ hk') hg hg' hgg⟩
  rcases he with rfl|rfl<;>exact hpost
 ·intro i v hi
  obtain ⟨g,rfl,_,hg⟩:=lk hi
  obtain ⟨x,hx,hrel⟩:=bO.get hg
  have hx':(args++Array.replicate (fn.ntmps - args.size) undef).getD i undef=x:=by
   rw [Nat.sub_zero] at hx
   have hlt:=(List.getElem?_eq_some_iff.1 hx).1
   rw [Array.getD_eq_getD_getElem?,Array.getElem?_append_left (by simpa using hlt),<-Array.getElem?_toList,hx]
   rfl
  show dh _ T w g _
  rw [hx']
  exact hrel
 ·intro k b hk;cases hk
 ·intro k k' b b' g g' hk;cases hk
 ·intro k b g hk;cases hk
 ·intro k b hk;cases hk
 ·simp;omega
end
section

section
variable {P:Program} {st:aJ} {o:Oper}
theorem Grow.same (σ:Nat->Option bM) (T:Nat->Prop) (w:World) (C:Nat->Prop) (hC:∀ b,C b->T b):Grow σ σ T T w w C:=⟨Nat.le_refl _,fun _ _ _=>rfl,hC,fun _ _ h=>h,fun _ _ h=>h⟩
theorem gG {a:Act} {w w':World} {K:Act->World->Prop} {Q:Exit->Act->World->Prop} {v:Value} (h:(execOp a.eval o).run P w=.ok (.value v) w') (hK:K (a.put o.dst v) w'):o.wp P a w K Q:=by
 unfold Oper.wp;rw [h];exact hK
theorem mE {a:Act} {w w':World} {K:Act->World->Prop} {Q:Exit->Act->World->Prop} (h:(execOp a.eval o).run P w=.ok .skip w') (hK:K (a.put o.dst undef) w'):o.wp P a w K Q:=by
 unfold Oper.wp;rw [h];exact hK
theorem aE.val {av:AV} (h:∀ σ T a w,Core σ T st a w->∃ u,(execOp a.eval o).run P w=.ok (.value u) w/\eB σ T w av u):aE P o st av [] []:=
 fun σ T a w C _=>by
  obtain ⟨u,hu,hr⟩:=h σ T a w C
  exact gG hu ⟨u,σ,T,rfl,Ext.same C.er,hr⟩

theorem DG {x:Operand} {v:AV} (ho:o.op=.move x) (hx:ev st x v):aE P o st v [] []:=
 aE.val fun σ T a w C=>⟨a.eval x,by unfold execOp;simp [ho],bD C hx⟩
theorem Bf {x:Operand} {v:AV} (ho:o.op=.assign x) (hx:ev st x v):aE P o st v [] []:=
 aE.val fun σ T a w C=>⟨a.eval x,by unfold execOp;simp [ho],bD C hx⟩

def yk (op:BinOp) (k:IntKind) (a b:Int):Option Value:=
 match op with
 |.add=>some (.int k (k.wrap (a+b)))
 |.sub=>some (.int k (k.wrap (a - b)))
 |.mul=>some (.int k (k.wrap (a * b)))
 |.eql=>some (.bool (decide (a=b)))
 |.neq=>some (.bool (decide (¬a=b)))
 |.lss=>some (.bool (decide (a < b)))
 |.leq=>some (.bool (decide (a<=b)))
 |.gtr=>some (.bool (decide (a > b)))
 |.geq=>some (.bool (decide (a>=b)))
 |_=>none
theorem aK {op:BinOp} {xt yt:TypeId} {x y:Operand} {k:IntKind} {a b:Int} {r:Value} (ho:o.op=.binOp op xt x y yt)
  (hx:ev st x (.v (.c (.d (.v (.int k a)))))) (hy:ev st y (.v (.c (.d (.v (.int k b)))))) (hr:yk op k a b=some r):aE P o st (.v (.c (.d (.v r)))) [] []:=
 aE.val fun σ T ac w C=>by
  have h1:=bm.inv (bD C hx)
  have h2:=bm.inv (bD C hy)
  have h1r:r.oneCell'=true:=by cases op<;>simp only [yk] at hr<;>cases hr<;>rfl
  refine ⟨r,?_,bm.v r h1r⟩
  unfold execOp
  simp only [ho,h1,h2]
  clear h1r
  cases op<;>simp only [yk] at hr<;>cases hr
  all_goals simp [eqGuard,binOp,Op.intArith,Op.intCmp]
  all_goals (first|done|(by_cases hab:a=b<;>simp [hab]))
theorem aL {a:Int} (h:-9223372036854775808<=a/\a<=9223372036854775807):some (Value.int .i64 (IntKind.i64.wrap a))=some (.int .i64 a):=by
 rw [IntWalk.i64_in _ (by omega)]
theorem DE {t:TypeId} {x:Operand} {b:Bool} (ho:o.op=.unOp .not t x) (hx:ev st x (.v (.c (.d (.v (.bool b)))))):aE P o st (.v (.c (.d (.v (.bool !b))))) [] []:=
 aE.val fun σ T ac w C=>by
  have h1:=bm.inv (bD C hx)
  exact ⟨_,by unfold execOp;simp [ho,h1,Op.unary],bm.v _ rfl⟩
theorem qS {t:TypeId} {x:Operand} {a:Int} {r:Value} (ho:o.op=.unOp .neg t x) (hx:ev st x (.v (.c (.d (.v (.int .i64 a)))))) (hr:some (Value.int .i64 (IntKind.i64.wrap (0 - a)))=some r):aE P o st (.v (.c (.d (.v r)))) [] []:=
 aE.val fun σ T ac w C=>by
  have h1:=bm.inv (bD C hx)
  injection hr with hr;subst hr
  exact ⟨_,by unfold execOp;simp [ho,h1,Op.unary,Op.intArith],bm.v _ rfl⟩
theorem fl {s d:TypeId} {x:Operand} {k k':IntKind} {a:Int} {r:Value} (ho:o.op=.convert s d x) (hx:ev st x (.v (.c (.d (.v (.int k a))))))
  (hs:(P.underlying s).isSome=true) (hd:P.underlying d=some (.int k')) (hr:Value.int k' (k'.wrap a)=r):aE P o st (.v (.c (.d (.v r)))) [] []:=
 aE.val fun σ T ac w C=>by
  have h1:=bm.inv (bD C hx)
  subst hr
  obtain ⟨sd,hs⟩:=Option.isSome_iff_exists.1 hs
  refine ⟨_,?_,bm.v _ rfl⟩
  unfold execOp
  simp [ho,h1,convert,run_underlying hs,run_underlying hd,Conv.intToInt]
theorem zD {x:Operand} {i:Nat} {gs:List GV} {g:GV} (ho:o.op=.extract x i) (hx:ev st x (.t gs)) (hi:gs[i]?=some g):aE P o st (.v g) [] []:=
 aE.val fun σ T ac w C=>by
  obtain ⟨vs,h1,h2⟩:=bD C hx
  obtain ⟨v,hv,hr⟩:=h2.get hi
  refine ⟨v,?_,hr⟩
  unfold execOp
  simp only [ho,h1,Instr.extract]
  have:vs.toArray[i]?=some v:=by simpa using hv
  simp [this]

def jj:TypeDesc->Bool
 |.struct _=>true
 |.array _ _=>true
 |_=>false
theorem gZ {w:World} {t:TypeId} {d:TypeDesc} (h:P.underlying t=some d):(isAgg t).run P w=.ok (jj d) w:=by
 cases d<;>simp [isAgg,run_underlying h,jj]
def uz:AV->Bool
 |.v (.c (.p _ _ _ _))=>true
 |.v (.c (.q _ _))=>true
 |.v (.c (.fn _ _))=>true
 |_=>false
theorem xR {x:Operand} {v:AV} (ho:o.op=.nilCheck x) (hx:ev st x v) (hp:uz v=true):aE P o st v [] []:=
 aE.val fun σ T ac w C=>by
  have h:=bD C hx
  refine ⟨ac.eval x,?_,h⟩
  match v,hp,h with
  |.v (.c (.p k i K o')),_,h=>obtain ⟨g,_,h⟩:=h;unfold execOp;simp [ho,h]
  |.v (.c (.q row o')),_,h=>obtain ⟨b,off,h,_⟩:=h;unfold execOp;simp [ho,h]
  |.v (.c (.fn f bd)),_,h=>obtain ⟨gs,_,h⟩:=h;unfold execOp;simp [ho,h]
theorem pj {w:World} {t:TypeId} {fs:Array Field} {f:Field} {i n:Nat} {b off:Nat} (hu:P.underlying t=some (.struct fs)) (hf:fs[i]?=some f) (hz:(P.info? f.type).map (·.size)=some n) (hn:n≠0):
  (Instr.fieldAt t (.pointer (some ⟨b,off,none⟩)) i).run P w=.ok (.pointer (some ⟨b,off+f.offset,none⟩)) w:=by
 cases hq:P.info? f.type with
 |none=>simp [hq] at hz
 |some j=>
  have hs:j.size=n:=by simpa [hq] using hz
  simp [Instr.fieldAt,run_underlying hu,hf,Instr.sureAddr,fieldPlace,sizeOf,typeInfo,hq,hs,hn,Addr.add_lit]
theorem Bc {t:TypeId} {x:Operand} {i k r K o' n:Nat} {fs:Array Field} {f:Field} (ho:o.op=.fieldAddr t x i) (hx:ev st x (.v (.c (.p k r K o')))) (hu:P.underlying t=some (.struct fs)) (hf:fs[i]?=some f) (hz:(P.info? f.type).map (·.size)=some n) (hn:n≠0):
  aE P o st (.v (.c (.p k r K (o'+f.offset)))) [] []:=
 aE.val fun σ T ac w C=>by
  obtain ⟨g,h1,h2⟩:=bD C hx
  exact ⟨.pointer (some ⟨g.g,r * K+o'+f.offset,none⟩),by unfold execOp;simp [ho,h2,pj hu hf hz hn],g,h1,by rw [Nat.add_assoc]⟩
theorem Bb {t:TypeId} {x:Operand} {i o' n:Nat} {row:List D} {fs:Array Field} {f:Field} (ho:o.op=.fieldAddr t x i) (hx:ev st x (.v (.c (.q row o')))) (hu:P.underlying t=some (.struct fs)) (hf:fs[i]?=some f) (hz:(P.info? f.type).map (·.size)=some n) (hn:n≠0):
  aE P o st (.v (.c (.q row (o'+f.offset)))) [] []:=
 aE.val fun σ T ac w C=>by
  obtain ⟨b,off,h1,h2⟩:=bD C hx
  exact ⟨.pointer (some ⟨b,off+o'+f.offset,none⟩),by unfold execOp;simp [ho,h1,pj hu hf hz hn],b,off,by rw [Nat.add_assoc],h2⟩
theorem ca {t e:TypeId} {x y:Operand} {K:Nat} {i:Nat} {j:Int} {rows:List (List D)} {row:List D} (ho:o.op=.indexAddr t x y) (hx:ev st x (.v (.c (.d (.r K rows))))) (hy:ev st y (.v (.c (.d (.v (.int .i64 j))))))
  (hu:P.underlying t=some (.slice e)) (hz:(P.info? e).map (·.size)=some K) (hj:j=(i:Int)) (hr:rows[i]?=some row):aE P o st (.v (.c (.q row 0))) [] []:=
 aE.val fun σ T ac w C=>by
  have h1:=bD C hx
  have h2:=bm.inv (bD C hy)
  subst hj
  have hlt:=(List.getElem?_eq_some_iff.1 hr).1
  generalize hv:ac.eval x=v at h1
  cases h1 with
  |nil=>simp at hlt
  |r K rows b off c cs hb hT hc hm hK dY hd=>
   refine ⟨.pointer (some ⟨b,off+i * K,none⟩),?_,b,off+i * K,by rw [Nat.add_zero],hb,hT,fun j' d hd'=>⟨cs i j',by rw [Nat.add_assoc];exact dY i row j' d hr hd',hd i row j' d hr hd'⟩⟩
   cases hq:P.info? e with
   |none=>simp [hq] at hz
   |some ii=>
    have hs:ii.size=K:=by simpa [hq] using hz
    unfold execOp
    simp [ho,hv,h2,Instr.indexAt,asIntOf,run_underlying hu,sizeOf,typeInfo,hq,hs,hlt,Addr.add_lit]
theorem Ba {t e:TypeId} {x y:Operand} {k r K n:Nat} {i:Nat} {j:Int} (ho:o.op=.indexAddr t x y) (hx:ev st x (.v (.c (.s k r K n)))) (hy:ev st y (.v (.c (.d (.v (.int .i64 j))))))
  (hu:P.underlying t=some (.slice e)) (hz:(P.info? e).map (·.size)=some K) (hj:j=(i:Int)) (hi:i < n):aE P o st (.v (.c (.p k (r+i) K 0))) [] []:=
 aE.val fun σ T ac w C=>by
  have h1:=bD C hx
  have h2:=bm.inv (bD C hy)
  subst hj
  rcases h1 with ⟨h0,_⟩|⟨g,hg',hv,hc,hm⟩
  ·omega
  ·refine ⟨.pointer (some ⟨g.g,r * K+i * K,none⟩),?_,g,hg',by rw [Nat.add_zero,Nat.add_mul]⟩
   cases hq:P.info? e with
   |none=>simp [hq] at hz
   |some ii=>
    have hs:ii.size=K:=by simpa [hq] using hz
    unfold execOp
    simp [ho,hv,h2,Instr.indexAt,asIntOf,run_underlying hu,sizeOf,typeInfo,hq,hs,hi,Addr.add_lit]
theorem dg.Bt {σ:Nat->Option bM} {T:Nat->Prop} {w:World} {g:bM} {t:Nat} {cs:List CV} (h:dg σ T w (some g) (.box t cs)) {j:Nat} {c:CV} (hc:cs[j]?=some c):∃ v,w.cell? ⟨g.g,j,none⟩=some v/\cQ σ T w c v:=by
 obtain ⟨g',vs,h1,_,h3,h4⟩:=h
 injection h1 with h1;subst h1
 obtain ⟨v,hv,hr⟩:=h4.get hc
 exact ⟨v,by rw [cell_of_row w g.g j vs.toArray t (0,0) h3];simpa using hv,hr⟩
theorem dg.vh {σ:Nat->Option bM} {T:Nat->Prop} {w:World} {g:bM} {t K:Nat} {rows:List (List D)} (h:dg σ T w (some g) (.arr t K rows)) {i j:Nat} {row:List D} {d:D} (hr:rows[i]?=some row) (hd:row[j]?=some d):∃ v,w.cell? ⟨g.g,i * K+j,none⟩=some v/\bm T w d v:=by
 rcases h.2 with ⟨_,h⟩|⟨g',vs,h1,_,h3,_,_,h4⟩
 ·cases h
 ·injection h1 with h1;subst h1
  obtain ⟨v,hv,hrel⟩:=(h4.2 i row hr).2 j d hd
  exact ⟨v,by rw [cell_of_row w g.g _ vs.toArray t (0,0) h3];simpa using hv,hrel⟩
theorem nL {w:World} {t:TypeId} {d:TypeDesc} {a:Addr} {v:Value} (hu:P.underlying t=some d) (hd:jj d=false) (hc:w.cell? a=some v):(Instr.loadAt t (.pointer (some a))).run P w=.ok v w:=by
 simp [Instr.loadAt,Instr.sureAddr,lH (by rw [gZ hu,hd]) hc]
theorem CD {t bt:TypeId} {d:TypeDesc} {x:Operand} {k j:Nat} {cs:List CV} {c:CV} (ho:o.op=.load t x) (hx:ev st x (.v (.c (.p k 0 0 j)))) (hb:look st.h k=some (.box bt cs)) (hu:P.underlying t=some d) (hd:jj d=false) (hc:cs[j]?=some c):aE P o st (.v (.c c)) [] []:=
 aE.val fun σ T ac w C=>by
  obtain ⟨g,h1,h2⟩:=bD C hx
  have hh:=C.heap k _ hb
  rw [h1] at hh
  obtain ⟨v,hv,hr⟩:=hh.Bt hc
  refine ⟨v,?_,hr⟩
  unfold execOp
  simp [ho,h2,nL hu hd hv]
theorem eH {t bt:TypeId} {d:TypeDesc} {x:Operand} {k i K j:Nat} {rows:List (List D)} {row:List D} {c:D} (ho:o.op=.load t x) (hx:ev st x (.v (.c (.p k i K j)))) (hb:look st.h k=some (.arr bt K rows)) (hu:P.underlying t=some d) (hd:jj d=false) (hr:rows[i]?=some row) (hc:row[j]?=some c):aE P o st (.v (.c (.d c))) [] []:=
 aE.val fun σ T ac w C=>by
  obtain ⟨g,h1,h2⟩:=bD C hx
  have hh:=C.heap k _ hb
  rw [h1] at hh
  obtain ⟨v,hv,hrel⟩:=hh.vh hr hc
  refine ⟨v,?_,hrel⟩
  unfold execOp
  simp [ho,h2,nL hu hd hv]
theorem CC {t:TypeId} {d:TypeDesc} {x:Operand} {j:Nat} {row:List D} {c:D} (ho:o.op=.load t x) (hx:ev st x (.v (.c (.q row j)))) (hu:P.underlying t=some d) (hd:jj d=false) (hc:row[j]?=some c):aE P o st (.v (.c (.d c))) [] []:=
 aE.val fun σ T ac w C=>by
  obtain ⟨b,off,h1,h2⟩:=bD C hx
  obtain ⟨v,hv,hrel⟩:=h2.2.2 j c hc
  refine ⟨v,?_,hrel⟩
  unfold execOp
  simp [ho,h1,nL hu hd hv]
theorem lZ {w:World} {t:TypeId} {d:TypeDesc} {b off:Nat} {ws:List Value} (hu:P.underlying t=some d) (hd:jj d=true) (hz:(P.info? t).map (·.size)=some ws.length) (hw:∀ j v,ws[j]?=some v->w.cell? ⟨b,off+j,none⟩=some v):(Instr.loadAt t (.pointer (some ⟨b,off,none⟩))).run P w=.ok (.agg ws.toArray) w:=by
 have hl:(loadCells ⟨b,off,none⟩ ws.length).run P w=.ok ws.toArray w:=run_loadCells_list (P:=P) w ⟨b,off,none⟩ ws (fun j v hv=>by rw [Addr.add_lit];exact hw j v hv)
 cases hq:P.info? t with
 |none=>simp [hq] at hz
 |some i=>
  have hs:i.size=ws.length:=by simpa [hq] using hz
  simp [Instr.loadAt,Instr.sureAddr,loadVar,gZ hu,hd,sizeOf,typeInfo,hq,hs,hl]
theorem jn {α:Type} {l:List α} {o n j:Nat} {x:α} (h:((l.drop o).take n)[j]?=some x):l[o+j]?=some x:=by
 rw [List.getElem?_take] at h
 split at h
 ·simpa using h
 ·cases h
theorem qa {t bt:TypeId} {d:TypeDesc} {x:Operand} {k j n:Nat} {cs xs:List CV} (ho:o.op=.load t x) (hx:ev st x (.v (.c (.p k 0 0 j)))) (hb:look st.h k=some (.box bt cs)) (hu:P.underlying t=some d) (hd:jj d=true) (hz:(P.info? t).map (·.size)=some n) (hxs:(cs.drop j).take n=xs) (hn:xs.length=n):aE P o st (.v (.g xs)) [] []:=
 aE.val fun σ T ac w C=>by
  obtain ⟨g,h1,h2⟩:=bD C hx
  obtain ⟨g',vs,h3,_,h4,h5⟩:=C.heap k _ hb
  rw [h1] at h3;injection h3 with h3;subst h3
  subst hxs
  have hr:=(h5.drop j).take n
  refine ⟨.agg ((vs.drop j).take n).toArray,?_,_,rfl,hr⟩
  unfold execOp
  simp only [ho,h2]
  rw [show 0 * 0+j=j by omega]
  simp [lZ (ws:=(vs.drop j).take n) hu hd (by rw [<-hr.length,hn];exact hz) (fun j' v hv=>by rw [cell_of_row w g.g _ vs.toArray bt (0,0) h4];simpa using jn hv)]
theorem qm {σ:Nat->Option bM} {T:Nat->Prop} {w:World}:∀ {row:List D} {vs:List Value},cc (bm T w) row vs->cc (cQ σ T w) (row.map .d) vs
 |[],[],_=>trivial
 |_::_,_::_,h=>⟨h.1,qm h.2⟩
 |[],_::_,h=>h.elim
 |_::_,[],h=>h.elim
theorem pE {α β:Type} {R:α->β->Prop}:∀ {xs:List α} {ys:List β},xs.length=ys.length->(∀ (i:Nat) (x:α),xs[i]?=some x->∃ y,ys[i]?=some y/\R x y)->cc R xs ys
 |[],[],_,_=>trivial
 |x::xs,y::ys,hl,h=>⟨by obtain ⟨y',h1,h2⟩:=h 0 x rfl;simp at h1;subst h1;exact h2,pE (by simpa using hl) fun i x hx=>by simpa using h (i+1) x (by simpa using hx)⟩
 |[],_::_,hl,_=>by simp at hl
 |_::_,[],hl,_=>by simp at hl
theorem uj {T:Nat->Prop} {w:World} {b off:Nat}:∀ {row:List D},(∀ (j:Nat) (d:D),row[j]?=some d->∃ u,w.cell? ⟨b,off+j,none⟩=some u/\bm T w d u)->∃ vs,cc (bm T w) row vs/\∀ j v,vs[j]?=some v->w.cell? ⟨b,off+j,none⟩=some v:=by
 intro row
 induction row generalizing off with
 |nil=>exact fun _=>⟨[],trivial,fun j v h=>by simp at h⟩
 |cons d row ih=>
  intro h
  obtain ⟨u,hu,hr⟩:=h 0 d rfl
  obtain ⟨vs,h1,h2⟩:=ih (off:=off+1) fun j d hd=>by have:=h (j+1) d (by simpa using hd);rwa [show off+1+j=off+(j+1) by omega]
  refine ⟨u::vs,⟨hr,h1⟩,fun j v hv=>?_⟩
  rcases j with _|j
  ·simp at hv;subst hv;exact hu
  ·have:=h2 j v (by simpa using hv);rwa [show off+1+j=off+(j+1) by omega] at this
theorem AZ {t:TypeId} {d:TypeDesc} {x:Operand} {row:List D} {n:Nat} {xs:List CV} (ho:o.op=.load t x) (hx:ev st x (.v (.c (.q row 0)))) (hu:P.underlying t=some d) (hd:jj d=true) (hz:(P.info? t).map (·.size)=some n) (hn:row.length=n) (hxs:row.map CV.d=xs):aE P o st (.v (.g xs)) [] []:=
 aE.val fun σ T ac w C=>by
  obtain ⟨b,off,h1,h2⟩:=bD C hx
  obtain ⟨vs,h3,h4⟩:=uj h2.2.2
  subst hxs
  refine ⟨.agg vs.toArray,?_,vs,rfl,qm h3⟩
  unfold execOp
  simp only [ho,h1,Nat.add_zero]
  simp [lZ (ws:=vs) hu hd (by rw [<-h3.length,hn];exact hz) h4]
theorem di {t bt:TypeId} {d:TypeDesc} {x:Operand} {k i K:Nat} {rows:List (List D)} {row:List D} {xs:List CV} (ho:o.op=.load t x) (hx:ev st x (.v (.c (.p k i K 0)))) (hb:look st.h k=some (.arr bt K rows)) (hu:P.underlying t=some d) (hd:jj d=true) (hz:(P.info? t).map (·.size)=some K) (hr:rows[i]?=some row) (hxs:row.map CV.d=xs):aE P o st (.v (.g xs)) [] []:=
 aE.val fun σ T ac w C=>by
  obtain ⟨g,h1,h2⟩:=bD C hx
  have hh:=C.heap k _ hb
  rw [h1] at hh
  have hK:row.length=K:=by
   rcases hh.2 with ⟨h,_⟩|⟨g',vs,_,_,_,_,_,h4⟩
   ·subst h;simp at hr
   ·exact (h4.2 i row hr).1
  obtain ⟨vs,h3,h4⟩:=uj (T:=T) (w:=w) (b:=g.g) (off:=i * K) (row:=row) fun j d hd=>hh.vh hr hd
  subst hxs
  refine ⟨.agg vs.toArray,?_,vs,rfl,qm h3⟩
  unfold execOp
  simp only [ho,h2,Nat.add_zero]
  simp [lZ (ws:=vs) hu hd (by rw [<-h3.length,hK];exact hz) h4]
theorem DJ {x:Operand} {c:Call} {t:TypeId} {e:TypeId} {K:Nat} {rows:List (List D)} (ho:o.op=.call c) (hc:c.callee=.builtin .len) (ha:c.args=#[x]) (hat:c.argTypes=#[t]) (hx:ev st x (.v (.c (.d (.r K rows))))) (hu:P.underlying t=some (.slice e)):aE P o st (.v (.c (.d (.v (.int .i64 rows.length))))) [] []:=
 aE.val fun σ T ac w C=>by
  have h1:=bD C hx
  refine ⟨_,?_,bm.v _ rfl⟩
  generalize hv:ac.eval x=v at h1
  unfold execOp
  cases h1<;>simp [ho,resolve,hc,ha,hat,invoke,builtin,hv,Builtin.len_,run_underlying hu,goInt]
theorem du {x:Operand} {c:Call} {t:TypeId} {e:TypeId} {k i K n:Nat} (ho:o.op=.call c) (hc:c.callee=.builtin .len) (ha:c.args=#[x]) (hat:c.argTypes=#[t]) (hx:ev st x (.v (.c (.s k i K n)))) (hu:P.underlying t=some (.slice e)):aE P o st (.v (.c (.d (.v (.int .i64 n))))) [] []:=
 aE.val fun σ T ac w C=>by
  have h1:=bD C hx
  refine ⟨_,?_,bm.v _ rfl⟩
  unfold execOp
  rcases h1 with ⟨h0,hv⟩|⟨g,_,hv,_⟩
  ·subst h0;simp [ho,resolve,hc,ha,hat,invoke,builtin,hv,Builtin.len_,run_underlying hu,goInt]
  ·simp [ho,resolve,hc,ha,hat,invoke,builtin,hv,Builtin.len_,run_underlying hu,goInt]
end
end
section

section
variable {P:Program} {st:aJ} {o:Oper}
def nG (σ:Nat->Option bM) (k:Nat) (g:bM):Nat->Option bM:=fun j=>if j=k then some g else σ j
theorem fQ (σ:Nat->Option bM) (k:Nat) (g:bM):nG σ k g k=some g:=if_pos rfl
theorem qu (σ:Nat->Option bM) (k:Nat) (g:bM) {j:Nat} (h:j≠k):nG σ k g j=σ j:=if_neg h
def kg (T:Nat->Prop) (g:Nat):Nat->Prop:=fun b=>T b\/b=g
theorem Grow.alloc {σ:Nat->Option bM} {T:Nat->Prop} {w:World} {k c:Nat} (hk:σ k=none) (ob:Obj) (C:Nat->Prop) (hC:∀ b,C b->T b):Grow σ (nG σ k ⟨w.heap.size,c⟩) T (kg T w.heap.size) w (w.alloc ob) C:=
 ⟨by rw [World.size_alloc];omega,fun b hb _=>Below.heap_alloc w ob b hb,hC,fun b hb h=>h.resolve_right (by omega),fun j g hj=>by
  rw [qu _ _ _ (fun e=>by subst e;rw [hk] at hj;cases hj)];exact hj⟩
theorem Ext.alloc {σ:Nat->Option bM} {T:Nat->Prop} {w:World} (hT:∀ b,T b->b < w.heap.size) {k c:Nat} {b:AB} (ob:Obj) (hk:σ k=none)
  (hr:dg (nG σ k ⟨w.heap.size,c⟩) (kg T w.heap.size) (w.alloc ob) (some ⟨w.heap.size,c⟩) b):Ext σ T w (nG σ k ⟨w.heap.size,c⟩) (kg T w.heap.size) (w.alloc ob) [(k,b)] []:=
 ⟨rfl,rfl,rfl,Grow.alloc hk ob _ (fun b h=>by obtain ⟨k,hk,_⟩:=h;cases hk),fun _ h=>.inl h,
  fun b h=>by rw [World.size_alloc];rcases h with h|h;(have:=hT b h;omega);omega,
  fun j hj=>qu _ _ _ (fun e=>hj b (by rw [e];exact List.mem_singleton.2 rfl)),
  fun j b' h=>by obtain ⟨rfl,rfl⟩:=Prod.mk.inj (List.mem_singleton.1 h);rw [fQ];exact hr,
  fun j b' g h hg=>by obtain ⟨rfl,rfl⟩:=Prod.mk.inj (List.mem_singleton.1 h);rw [fQ] at hg;injection hg with hg;subst hg;exact .inl (Nat.le_refl _),
  fun j j' b1 b2 g g' h h' _ _ _=>by obtain ⟨rfl,_⟩:=Prod.mk.inj (List.mem_singleton.1 h);obtain ⟨rfl,_⟩:=Prod.mk.inj (List.mem_singleton.1 h');rfl⟩
theorem aE.new {k:Nat} {b:AB} {av:AV}
  (h:∀ σ T a w,Core σ T st a w->σ k=none->∃ u ob c,(execOp a.eval o).run P w=.ok (.value u) (w.alloc ob)/\dg (nG σ k ⟨w.heap.size,c⟩) (kg T w.heap.size) (w.alloc ob) (some ⟨w.heap.size,c⟩) b/\eB (nG σ k ⟨w.heap.size,c⟩) (kg T w.heap.size) (w.alloc ob) av u):
  aE P o st av [(k,b)] []:=
 fun σ T a w C hk=>by
  have hk:=hk k b (List.mem_singleton.2 rfl) (by simp)
  obtain ⟨u,ob,c,hu,hr,hv⟩:=h σ T a w C hk
  exact gG hu ⟨u,_,_,rfl,Ext.alloc C.er ob hk hr,hv⟩
theorem dg.uD {σ:Nat->Option bM} {T:Nat->Prop} {w:World} {t:TypeId} {cs:List CV} {vs:List Value} {c:Nat} (h:cc (cQ σ T w) cs vs) {σ':Nat->Option bM} (G:Grow σ σ' T (kg T w.heap.size) w (w.alloc (.cells vs.toArray t)) fun _=>False):dg σ' (kg T w.heap.size) (w.alloc (.cells vs.toArray t)) (some ⟨w.heap.size,c⟩) (.box t cs):=
 ⟨⟨w.heap.size,c⟩,vs,rfl,.inr rfl,heap_alloc_new w _,h.mono fun _ _ h=>h.grow G⟩
def CV.one:CV->Bool
 |.any=>false
 |.d (.v x)=>x.oneCell'
 |_=>true
theorem vS {σ:Nat->Option bM} {T:Nat->Prop} {w:World} {c:CV} {v:Value} (h:cQ σ T w c v) (h1:(match c with|.any=>false|_=>true)=true):v.oneCell'=true:=by
 cases c with
 |any=>cases h1
 |d x=>cases h with
  |v x hx=>exact hx
  |nil=>rfl
  |r=>rfl
  |f=>rfl
 |p k i K o=>obtain ⟨g,_,rfl⟩:=h;rfl
 |q row o=>obtain ⟨b,off,rfl,_⟩:=h;rfl
 |s k i K n=>rcases h with ⟨_,rfl⟩|⟨g,_,rfl,_⟩<;>rfl
 |sx k i K n c e=>obtain ⟨g,off,_,rfl,_⟩:=h;rfl
 |m k=>obtain ⟨g,_,rfl⟩:=h;rfl
 |fn f bd=>obtain ⟨gs,_,rfl⟩:=h;rfl
def CV.known:CV->Bool
 |.any=>false
 |_=>true
theorem nn {σ:Nat->Option bM} {T:Nat->Prop} {w:World} {c:CV} {v:Value} (h:cQ σ T w c v) (h1:c.known=true):v.oneCell'=true:=vS h (by cases c<;>first|rfl|exact h1)
theorem tc {v:Value} (h:v.oneCell'=true):v.cells=#[v]:=by cases v<;>first|rfl|cases h
theorem uX {t:TypeId} {x:Operand} {c:CV} (k:Nat) (ho:o.op=.box t x) (hx:ev st x (.v (.c c))) (hc:c.known=true):aE P o st (.v (.c (.p k 0 0 0))) [(k,.box t [c])] []:=
 aE.new fun σ T ac w C hk=>by
  have h1:cQ σ T w c _:=bD C hx
  have hv:=tc (nn h1 hc)
  refine ⟨.pointer (some ⟨w.heap.size,0,none⟩),.cells #[ac.eval x] t,0,?_,dg.uD (cs:=[c]) (vs:=[ac.eval x]) ⟨h1,trivial⟩ (Grow.alloc hk _ _ fun _ h=>h.elim),⟨_,fQ _ _ _,rfl⟩⟩
  unfold execOp
  simp [ho,Instr.box,newVar,newRow,hv]
theorem uW {t:TypeId} {x:Operand} {cs:List CV} (k:Nat) (ho:o.op=.box t x) (hx:ev st x (.v (.g cs))):aE P o st (.v (.c (.p k 0 0 0))) [(k,.box t cs)] []:=
 aE.new fun σ T ac w C hk=>by
  obtain ⟨vs,h1,h2⟩:=bD C hx
  refine ⟨.pointer (some ⟨w.heap.size,0,none⟩),.cells vs.toArray t,0,?_,dg.uD (vs:=vs) h2 (Grow.alloc hk _ _ fun _ h=>h.elim),⟨_,fQ _ _ _,rfl⟩⟩
  unfold execOp
  simp [ho,h1,Instr.box,newVar,newRow,Value.cells]
theorem rT {σ:Nat->Option bM} {T:Nat->Prop} {w:World}:∀ l:List Value,l.all (·.oneCell')=true->cc (cQ σ T w) (l.map fun x=>.d (.v x)) l
 |[],_=>trivial
 |x::l,h=>by simp only [List.all_cons,Bool.and_eq_true] at h;exact ⟨bm.v x h.1,rT l h.2⟩
theorem rK {t:TypeId} {z:Value} {zs:List Value} {cs:List CV} (k:Nat) (ho:o.op=.alloc t) (hz:(P.info? t).bind (·.zero)=some z) (hzs:z.cells.toList=zs) (h1:zs.all (·.oneCell')=true) (hcs:(zs.map fun x=>CV.d (.v x))=cs):
  aE P o st (.v (.c (.p k 0 0 0))) [(k,.box t cs)] []:=
 aE.new fun σ T ac w C hk=>by
  subst hcs
  cases hq:P.info? t with
  |none=>simp [hq] at hz
  |some i=>
   have hzz:i.zero=some z:=by simpa [hq] using hz
   have hza:z.cells=zs.toArray:=by rw [<-hzs]
   refine ⟨.pointer (some ⟨w.heap.size,0,none⟩),.cells zs.toArray t,0,?_,dg.uD (vs:=zs) (rT zs h1) (Grow.alloc hk _ _ fun _ h=>h.elim),⟨_,fQ _ _ _,rfl⟩⟩
   unfold execOp
   simp [ho,Instr.alloc,newVar,newRow,zeroValue,typeInfo,hq,hzz,hza]

def kX (place:Nat->Option (Nat×Nat)) (cells:List CV):List (Nat×List CV)->Option (List CV)
 |[]=>some cells
 |(i,xs)::rest=>
  match place i with
  |none=>none
  |some (off,size)=>if xs.length=size/\off+xs.length<=cells.length then kX place (cells.take off++xs++cells.drop (off+xs.length)) rest else none
def ep:GV->List CV
 |.c x=>[x]
 |.g xs=>xs
theorem nA (cs:Array Value) (off:Nat):∀ (l:List Value) (k:Nat) (cs:Array Value),off+k+l.length<=cs.size->
  (l.zipIdx k).foldl (fun cs (x:Value×Nat)=>cs.setIfInBounds (off+x.2) x.1) cs=(cs.toList.take (off+k)++l++cs.toList.drop (off+k+l.length)).toArray
 |[],k,cs,h=>by simp
 |x::l,k,cs,h=>by
  rw [List.zipIdx_cons,List.foldl_cons,nA cs off l (k+1) _ (by simp at h ⊢;omega)]
  apply Array.toList_inj.1
  simp only [Array.toList_setIfInBounds]
  apply List.ext_getElem?
  intro n
  simp only [List.length_cons] at h
  have hs:off+k < cs.toList.length:=by simp;omega
  rcases Nat.lt_trichotomy n (off+k) with hn|hn|hn
  ·rw [List.getElem?_append_left (by simp;omega),List.getElem?_append_left (by simp;omega),List.getElem?_append_left (by simp;omega),List.getElem?_append_left (by simp;omega)]
   simp [hn,show n < off+(k+1) by omega,show ¬off+k=n by omega]
  ·subst hn
   rw [List.getElem?_append_left (by simp;omega),List.getElem?_append_left (by simp;omega),List.getElem?_append_left (by simp;omega),List.getElem?_append_right (by simp;omega)]
   simp [List.getElem?_set]
   rw [if_pos (by simpa using hs),show off+k - min (off+k) cs.size=0 by simp at hs;omega]
   rfl
  ·by_cases hl:n < off+k+1+l.length
   ·rw [List.getElem?_append_left (by simp;omega),List.getElem?_append_right (by simp;omega),List.getElem?_append_left (by simp;omega),List.getElem?_append_right (by simp;omega)]
    simp
    rw [show n - min (off+(k+1)) cs.size=n - (off+k) - 1 by simp at hs;omega,show n - min (off+k) cs.size=(n - (off+k) - 1)+1 by simp at hs;omega,List.getElem?_cons_succ]
   ·rw [List.getElem?_append_right (by simp;omega),List.getElem?_append_right (by simp;omega)]
    simp
    rw [show off+(k+1)+l.length+(n - (min (off+(k+1)) cs.size+l.length))=n by simp at hs;omega,show off+k+(l.length+1)+(n - (min (off+k) cs.size+(l.length+1)))=n by simp at hs;omega]
    rw [List.getElem?_set_ne (by omega)]
    simp
def EI (σ:Nat->Option bM) (T:Nat->Prop) (w:World) (p:Nat×List CV) (q:Nat×Value):Prop:=p.1=q.1/\∃ ws:List Value,q.2.cells=ws.toArray/\cc (cQ σ T w) p.2 ws
theorem qe {σ:Nat->Option bM} {T:Nat->Prop} {w:World} (place:Nat->Option (Nat×Nat)):∀ (ps:List (Nat×List CV)) (qs:List (Nat×Value)) (cs:List CV) (vs:List Value) (cs':List CV),cc (EI σ T w) ps qs->cc (cQ σ T w) cs vs->kX place cs ps=some cs'->
  ∃ vs',Instr.fill place vs.toArray qs=some vs'.toArray/\cc (cQ σ T w) cs' vs'
 |[],[],cs,vs,cs',_,h,he=>by
  simp only [kX,Option.some.injEq] at he
  subst he
  exact ⟨vs,rfl,h⟩
 |(i,xs)::ps,(i',v)::qs,cs,vs,cs',hp,h,he=>by
  obtain ⟨⟨hi,ws,hws,hr⟩,hp⟩:=hp
  have hi:i=i':=hi
  have hws:v.cells=ws.toArray:=hws
  have hr:cc _ xs ws:=hr
  subst hi
  simp only [kX] at he
  simp only [Instr.fill]
  cases hpl:place i with
  |none=>rw [hpl] at he;cases he
  |some os=>
   obtain ⟨off,size⟩:=os
   simp only [hpl] at he ⊢
   split at he
   ·rename_i hc
    have hl1:=hr.length
    have hl2:=h.length
    rw [if_neg (by simp [hws];omega),hws]
    have hz:(ws.toArray.zipIdx.foldl (fun cs (x:Value×Nat)=>cs.setIfInBounds (off+x.2) x.1) vs.toArray)=(vs.take off++ws++vs.drop (off+ws.length)).toArray:=by
     have:=nA vs.toArray off ws 0 vs.toArray (by simp;omega)
     rw [<-Array.foldl_toList,Array.toList_zipIdx]
     simpa using this
    rw [hz]
    refine qe place ps qs _ _ cs' hp ?_ he
    rw [<-hl1]
    exact ((h.take off).append hr).append (h.drop _)
   ·cases he
 |[],_::_,_,_,_,h,_,_=>h.elim
 |_::_,[],_,_,_,h,_,_=>h.elim
def Program.fieldsOf (P:Program) (t:TypeId):Option (Array Field):=match P.underlying t with|some (.struct fs)=>some fs|_=>none
structure FO (P:Program) (t:TypeId) (zs:List Value) (places:List (Nat×Nat)):Prop where
 z:((P.info? t).bind (·.zero)).map (fun v=>v.cells.toList)=some zs
 p:((Program.fieldsOf P t).bind fun fs=>fs.toList.mapM fun f=>(P.info? f.type).map fun i=>(f.offset,i.size))=some places
def GV.known:GV->Bool
 |.c x=>x.known
 |.g _=>true
theorem nc {σ:Nat->Option bM} {T:Nat->Prop} {w:World} {g:GV} {v:Value} (h:dh σ T w g v) (hk:g.known=true):∃ ws:List Value,v.cells=ws.toArray/\cc (cQ σ T w) (ep g) ws:=by
 cases g with
 |c x=>exact ⟨[v],tc (nn h hk),h,trivial⟩
 |g xs=>obtain ⟨vs,rfl,h2⟩:=h;exact ⟨vs,rfl,h2⟩
def Ab (st:aJ):List (Nat×Operand)->List (Nat×GV)->Prop
 |[],[]=>True
 |x::xs,y::ys=>(x.1=y.1/\ev st x.2 (.v y.2))/\Ab st xs ys
 |_,_=>False
theorem rO {σ:Nat->Option bM} {T:Nat->Prop} {a:Act} {w:World} (C:Core σ T st a w):∀ {xs:List (Nat×Operand)} {ys:List (Nat×GV)},Ab st xs ys->ys.all (fun y=>y.2.known)=true->
  cc (EI σ T w) (ys.map fun y=>(y.1,ep y.2)) (xs.map fun x=>(x.1,a.eval x.2))
 |[],[],_,_=>trivial
 |x::xs,y::ys,h,hk=>by
  simp only [List.all_cons,Bool.and_eq_true] at hk
  exact ⟨⟨h.1.1.symm,nc (bD C h.1.2) hk.1⟩,rO C h.2 hk.2⟩
 |[],_::_,h,_=>h.elim
 |_::_,[],h,_=>h.elim
theorem wS {t:TypeId} {parts:Array (Nat×Operand)} {ys:List (Nat×GV)} {zs:List Value} {places:List (Nat×Nat)} {cs:List CV} (ho:o.op=.build t parts) (hB:FO P t zs places) (h1:zs.all (·.oneCell')=true)
  (hy:Ab st parts.toList ys) (hk:ys.all (fun y=>y.2.known)=true) (hf:kX (fun i=>places[i]?) (zs.map fun x=>CV.d (.v x)) (ys.map fun y=>(y.1,ep y.2))=some cs):aE P o st (.v (.g cs)) [] []:=
 aE.val fun σ T ac w C=>by
  obtain ⟨vs',h2,h3⟩:=qe _ _ _ _ zs _ (rO C hy hk) (rT (σ:=σ) (T:=T) (w:=w) zs h1) hf
  refine ⟨.agg vs'.toArray,?_,vs',rfl,h3⟩
  have hb:P.built t ((parts.map fun (x:Nat×Operand)=>(x.1,ac.eval x.2)).toList)=some vs'.toArray:=by
   unfold Program.built
   have hz:=hB.z
   have hp:=hB.p
   unfold Program.fieldsOf at hp
   cases hi:P.info? t with
   |none=>simp [hi] at hz
   |some it=>
    cases hzz:it.zero with
    |none=>simp [hi,hzz] at hz
    |some z=>
     simp only [hi,hzz,Option.bind_some,Option.map_some,Option.some.injEq] at hz
     cases hu:P.underlying t with
     |none=>rw [hu] at hp;simp at hp
     |some d=>
      cases d<;>try (rw [hu] at hp;simp at hp;done)
      rename_i fs
      rw [hu] at hp
      simp only [Option.bind_some] at hp
      simp only [hzz,hp]
      have:z.cells=zs.toArray:=by rw [<-hz]
      rw [this]
      simpa using h2
  unfold execOp
  simp only [ho,Sem.run_bind,run_build w t _ _ hb,Result.andThen_ok]
  rfl
end
end
section

section
variable {P:Program} {st:aJ} {o:Oper}
theorem DC {c x y:Operand} {b:Bool} {v:AV} (ho:o.op=.pick c x y) (hc:ev st c (.v (.c (.d (.v (.bool b)))))) (hv:ev st (if b then x else y) v):aE P o st v [] []:=
 aE.val fun σ T ac w C=>by
  have h1:=bm.inv (bD C hc)
  refine ⟨ac.eval (if b then x else y),?_,bD C hv⟩
  unfold execOp
  cases b<;>simp [ho,h1,asBool]
theorem Ext.write {σ:Nat->Option bM} {T:Nat->Prop} {a:Act} {w w':World} (C:Core σ T st a w) {k:Nat} {g:bM} {b b0:AB} (hb0:look st.h k=some b0) (hg:σ k=some g) (hos:w'.os=w.os) (hta:w'.tape=w.tape) (hou:w'.output=w.output) (hsz:w'.heap.size=w.heap.size)
  (hold:∀ j,j≠g.g->w'.heap[j]?=w.heap[j]?) (hr:Grow σ σ T T w w' (fun b=>b=g.g)->dg σ T w' (some g) b):Ext σ T w σ T w' [(k,b)] [k]:=by
 have hT:T g.g:=(C.heap k b0 hb0).nz hg
 refine ⟨hos,hta,hou,⟨Nat.le_of_eq hsz.symm,?_,?_,fun _ _ h=>h,fun _ _ h=>h⟩,fun _ h=>h,fun b hb=>by rw [hsz];exact C.er b hb,fun _ _=>rfl,?_,?_,?_⟩
 ·intro b' _ hb'
  exact hold b' fun e=>hb' ⟨k,List.mem_singleton.2 rfl,g,hg,e.symm⟩
 ·rintro b' ⟨k',hk',g',hg',rfl⟩
  rw [List.mem_singleton.1 hk',hg] at hg';injection hg' with hg';subst hg';exact hT
 ·intro j b' h
  obtain ⟨rfl,rfl⟩:=Prod.mk.inj (List.mem_singleton.1 h)
  rw [hg]
  exact hr ⟨Nat.le_of_eq hsz.symm,fun b' _ hb'=>hold b' hb',fun b' hb'=>hb'▸hT,fun _ _ h=>h,fun _ _ h=>h⟩
 ·intro j b' g' h hg'
  obtain ⟨rfl,rfl⟩:=Prod.mk.inj (List.mem_singleton.1 h)
  exact .inr ⟨j,List.mem_singleton.2 rfl,g',hg',rfl⟩
 ·intro j j' b1 b2 g1 g2 h h' _ _ _
  obtain ⟨rfl,_⟩:=Prod.mk.inj (List.mem_singleton.1 h)
  obtain ⟨rfl,_⟩:=Prod.mk.inj (List.mem_singleton.1 h')
  rfl
theorem ph {w:World} {t bt:TypeId} {g off:Nat} {vs ws:List Value} {v:Value} (hh:w.heap[g]?=some (.cells vs.toArray bt (0,0))) (hv:v.cells=ws.toArray) (hz:(P.info? t).map (·.size)=some ws.length) (hl:off+ws.length<=vs.length) (h1:∀ u∈ws,u.oneCell'=true):
  (Instr.storeAt t (.pointer (some ⟨g,off,none⟩)) v).run P w=.ok () (w.setRow g (vs.take off++ws++vs.drop (off+ws.length)).toArray):=by
 cases hq:P.info? t with
 |none=>simp [hq] at hz
 |some i=>
  have hs:i.size=ws.length:=by simpa [hq] using hz
  have:=run_storeCells_at (P:=P) g off bt ws 0 vs.toArray w hh (by simpa using hl) h1
  simp only [Nat.add_zero] at this
  simp [Instr.storeAt,Instr.sureAddr,storeVar,sizeOf,typeInfo,hq,hs,hv,this]
theorem ns {σ:Nat->Option bM} {T:Nat->Prop} {w:World}:∀ {xs:List CV} {ws:List Value},cc (cQ σ T w) xs ws->xs.all CV.known=true->∀ u∈ws,u.oneCell'=true
 |[],[],_,_,u,hu=>by cases hu
 |x::xs,v::vs,h,hk,u,hu=>by
  simp only [List.all_cons,Bool.and_eq_true] at hk
  rcases List.mem_cons.1 hu with rfl|hu
  ·exact nn h.1 hk.1
  ·exact ns h.2 hk.2 u hu
 |[],_::_,h,_,_,_=>h.elim
 |_::_,[],h,_,_,_=>h.elim
theorem zw {g : GV} (h : (ep g).all CV.known = true) : g.known = true := by
  cases g with
  | c x => have h : x.known = true := by simpa [ep] using h
           exact h
  | g xs => rfl
theorem uS {t bt:TypeId} {x y:Operand} {k j n:Nat} {gv:GV} {cs cs':List CV} (ho:o.op=.store t x y) (hx:ev st x (.v (.c (.p k 0 0 j)))) (hy:ev st y (.v gv)) (hb:look st.h k=some (.box bt cs)) (hk:(ep gv).all CV.known=true)
  (hz:(P.info? t).map (·.size)=some n) (hn:(ep gv).length=n) (hl:j+n<=cs.length) (hcs:cs.take j++ep gv++cs.drop (j+n)=cs'):aE P o st (.v (.c .any)) [(k,.box bt cs')] [k]:=by
 intro σ T a w C _
 obtain ⟨g,h1,h2⟩:=bD C hx
 obtain ⟨g',vs,h3,h4,h5,h6⟩:=C.heap k _ hb
 rw [h1] at h3;injection h3 with h3;subst h3
 obtain ⟨ws,hws,hr⟩:=nc (bD C hy) (zw hk)
 have hlw:=hr.length
 have hlv:=h6.length
 have hrun:=ph (P:=P) (t:=t) (off:=j) (ws:=ws) h5 hws (by rw [<-hlw,hn];exact hz) (by rw [<-hlw,<-hlv,hn];exact hl) (ns hr hk)
 refine mE (w':=w.setRow g.g (vs.take j++ws++vs.drop (j+ws.length)).toArray) ?_ ⟨undef,σ,T,rfl,Ext.write C hb h1 rfl rfl rfl (setRow_size w _ _) (fun i hi=>setRow_other w g.g i _ hi) fun G=>?_,trivial⟩
 ·unfold execOp
  simp only [ho,h2,Nat.zero_mul,Nat.zero_add,Sem.run_bind,hrun,Result.andThen_ok]
  rfl
 ·refine ⟨g,_,rfl,h4,setRow_heap w g.g _ _ bt (0,0) h5,?_⟩
  subst hcs
  rw [<-hn,hlw]
  exact (((h6.take j).mono fun _ _ h=>h.grow G).append (hr.mono fun _ _ h=>h.grow G)).append ((h6.drop _).mono fun _ _ h=>h.grow G)
theorem As {T:Nat->Prop} {w:World} {K i:Nat} {rows:List (List D)} {row':List D} {vs ws:List Value} {j:Nat} {row:List D} {ds:List D} (h:Rows T w K rows vs) (hi:rows[i]?=some row) (hr:cc (bm T w) ds ws) (hj:j+ds.length<=K) (he:row'=row.take j++ds++row.drop (j+ds.length)):
  Rows T w K (rows.set i row') (vs.take (i * K+j)++ws++vs.drop (i * K+j+ws.length)):=by
 have hil:=(List.getElem?_eq_some_iff.1 hi).1
 have hrl:=(h.2 i row hi).1
 have hlw:=hr.length
 have hub:i * K+K<=vs.length:=Nat.le_trans (by rw [<-Nat.succ_mul];exact Nat.mul_le_mul_right _ hil) h.1
 have hlen:(vs.take (i * K+j)++ws++vs.drop (i * K+j+ws.length)).length=vs.length:=by simp;omega
 have get:∀ n,(n < i * K+j\/i * K+j+ws.length<=n)->(vs.take (i * K+j)++ws++vs.drop (i * K+j+ws.length))[n]?=vs[n]?:=by
  intro n hn
  rcases hn with hn|hn
  ·rw [List.append_assoc,List.getElem?_append_left (by simp;omega),List.getElem?_take,if_pos hn]
  ·rw [List.getElem?_append_right (by simp;omega),List.getElem?_drop]
   congr 1
   simp;omega
 have getw:∀ n,n < ws.length->(vs.take (i * K+j)++ws++vs.drop (i * K+j+ws.length))[i * K+j+n]?=ws[n]?:=by
  intro n hn
  rw [List.append_assoc,List.getElem?_append_right (by simp;omega),List.getElem?_append_left (by simp;omega)]
  congr 1
  simp;omega
 refine ⟨by rw [List.length_set,hlen];exact h.1,fun i' r' hi'=>?_⟩
 rw [List.getElem?_set] at hi'
 by_cases e:i=i'
 ·subst e
  rw [if_pos rfl,if_pos hil] at hi'
  injection hi' with hi'
  subst hi'
  subst he
  refine ⟨by simp;omega,fun j' d hd=>?_⟩
  by_cases h1:j' < j
  ·rw [List.append_assoc,List.getElem?_append_left (by simp;omega),List.getElem?_take,if_pos h1] at hd
   obtain ⟨u,hu,hrel⟩:=(h.2 i row hi).2 j' d hd
   exact ⟨u,(get _ (.inl (by omega))).trans hu,hrel⟩
  ·by_cases h2:j' < j+ds.length
   ·rw [List.append_assoc,List.getElem?_append_right (by simp;omega),List.getElem?_append_left (by simp;omega)] at hd
    have hmin:(row.take j).length=j:=by simp;omega
    rw [hmin] at hd
    obtain ⟨u,hu,hrel⟩:=hr.get hd
    refine ⟨u,?_,hrel⟩
    have:=getw (j' - j) (by omega)
    rwa [show i * K+j+(j' - j)=i * K+j' by omega,hu] at this
   ·rw [List.getElem?_append_right (by simp;omega),List.getElem?_drop] at hd
    have hmin:(row.take j++ds).length=j+ds.length:=by simp;omega
    rw [hmin,show j+ds.length+(j' - (j+ds.length))=j' by omega] at hd
    obtain ⟨u,hu,hrel⟩:=(h.2 i row hi).2 j' d hd
    exact ⟨u,(get _ (.inr (by omega))).trans hu,hrel⟩
 ·rw [if_neg e] at hi'
  refine ⟨(h.2 i' r' hi').1,fun j' d hd=>?_⟩
  obtain ⟨u,hu,hrel⟩:=(h.2 i' r' hi').2 j' d hd
  refine ⟨u,(get _ ?_).trans hu,hrel⟩
  have hj':j' < K:=by rw [<-(h.2 i' r' hi').1];exact (List.getElem?_eq_some_iff.1 hd).1
  rcases Nat.lt_or_gt_of_ne e with h1|h1
  ·have:=Nat.mul_le_mul_right K (show i+1<=i' from h1)
   rw [Nat.succ_mul] at this
   exact .inr (by omega)
  ·have:=Nat.mul_le_mul_right K (show i'+1<=i from h1)
   rw [Nat.succ_mul] at this
   exact .inl (by omega)
theorem rU {σ:Nat->Option bM} {T:Nat->Prop} {w:World}:∀ {ds:List D} {ws:List Value},cc (cQ σ T w) (ds.map .d) ws->cc (bm T w) ds ws
 |[],[],_=>trivial
 |_::_,_::_,h=>⟨h.1,rU h.2⟩
 |[],_::_,h=>h.elim
 |_::_,[],h=>h.elim
theorem dM {t bt:TypeId} {x y:Operand} {k i K j n:Nat} {gv:GV} {ds:List D} {rows rows':List (List D)} {row row':List D} (ho:o.op=.store t x y) (hx:ev st x (.v (.c (.p k i K j)))) (hy:ev st y (.v gv)) (hb:look st.h k=some (.arr bt K rows)) (hds:ep gv=ds.map .d)
  (hz:(P.info? t).map (·.size)=some n) (hn:ds.length=n) (hl:j+n<=K) (hr:rows[i]?=some row) (he:row'=row.take j++ds++row.drop (j+n)) (hrows:rows.set i row'=rows'):aE P o st (.v (.c .any)) [(k,.arr bt K rows')] [k]:=by
 intro σ T a w C _
 obtain ⟨g,h1,h2⟩:=bD C hx
 obtain ⟨hK,hh⟩:=C.heap k _ hb
 rcases hh with ⟨h0,_⟩|⟨g',vs,h3,h4,h5,h6,h7,h8⟩
 ·subst h0;simp at hr
 rw [h1] at h3;injection h3 with h3;subst h3
 have hkn:(ep gv).all CV.known=true:=by rw [hds,List.all_map];simp [Function.comp_def,CV.known]
 obtain ⟨ws,hws,hrel⟩:=nc (bD C hy) (zw hkn)
 have h1c:=ns hrel hkn
 rw [hds] at hrel
 have hrel:=rU hrel
 have hlw:=hrel.length
 have hil:=(List.getElem?_eq_some_iff.1 hr).1
 have hub:i * K+K<=vs.length:=Nat.le_trans (by rw [<-Nat.succ_mul];exact Nat.mul_le_mul_right _ hil) h8.1
 have hrun:=ph (P:=P) (t:=t) (off:=i * K+j) (ws:=ws) h5 hws (by rw [<-hlw,hn];exact hz) (by rw [<-hlw,hn];omega) h1c
 refine mE (w':=w.setRow g.g (vs.take (i * K+j)++ws++vs.drop (i * K+j+ws.length)).toArray) ?_ ⟨undef,σ,T,rfl,Ext.write C hb h1 rfl rfl rfl (setRow_size w _ _) (fun i hi=>setRow_other w g.g i _ hi) fun G=>?_,trivial⟩
 ·unfold execOp
  simp only [ho,h2,Sem.run_bind,hrun,Result.andThen_ok]
  rfl
 ·subst hrows
  refine ⟨hK,.inr ⟨g,_,rfl,h4,setRow_heap w g.g _ _ bt (0,0) h5,?_,h7,?_⟩⟩
  ·rw [<-h6];simp;omega
  ·subst hn
   exact (As h8 hr hrel hl he).grow G
theorem dg.zc {σ:Nat->Option bM} {T:Nat->Prop} {w:World} {t K n:Nat} {rows:List (List D)} {vs:List Value} (hK:0 < K) (hl:vs.length=n * K) (hn:n<=9223372036854775807) (h:Rows T w K rows vs) {σ':Nat->Option bM} (G:Grow σ σ' T (kg T w.heap.size) w (w.alloc (.cells vs.toArray t)) fun _=>False):
  dg σ' (kg T w.heap.size) (w.alloc (.cells vs.toArray t)) (some ⟨w.heap.size,n⟩) (.arr t K rows):=
 ⟨hK,.inr ⟨⟨w.heap.size,n⟩,vs,rfl,.inr rfl,heap_alloc_new w _,hl,hn,h.grow G⟩⟩
theorem At {T:Nat->Prop} {w:World} {ds:List D} {ws:List Value} (h:cc (bm T w) ds ws):Rows T w ds.length [ds] ws:=by
 refine ⟨by rw [h.length];simp,fun i row hi=>?_⟩
 rcases i with _|i
 ·simp at hi;subst hi
  exact ⟨rfl,fun j d hd=>by rw [Nat.zero_mul,Nat.zero_add];exact h.get hd⟩
 ·simp at hi
theorem iU {T:Nat->Prop} {w:World} {K:Nat} {rows rows':List (List D)} {vs vs':List Value} (h:Rows T w K rows vs) (hl:vs.length=rows.length * K) (h':Rows T w K rows' vs'):Rows T w K (rows++rows') (vs++vs'):=by
 have e1:=h'.1
 refine ⟨by rw [List.length_append,List.length_append,Nat.add_mul];omega,fun i row hi=>?_⟩
 by_cases hlt:i < rows.length
 ·rw [List.getElem?_append_left hlt] at hi
  refine ⟨(h.2 i row hi).1,fun j d hd=>?_⟩
  obtain ⟨u,hu,hr⟩:=(h.2 i row hi).2 j d hd
  exact ⟨u,by rw [List.getElem?_append_left (List.getElem?_eq_some_iff.1 hu).1];exact hu,hr⟩
 ·rw [List.getElem?_append_right (by omega)] at hi
  refine ⟨(h'.2 _ row hi).1,fun j d hd=>?_⟩
  obtain ⟨u,hu,hr⟩:=(h'.2 _ row hi).2 j d hd
  refine ⟨u,?_,hr⟩
  have:i * K+j=vs.length+((i - rows.length) * K+j):=by
   rw [hl,<-Nat.add_assoc,<-Nat.add_mul];congr 2;omega
  rw [this,List.getElem?_append_right (by omega),Nat.add_sub_cancel_left]
  exact hu
theorem su {T:Nat->Prop} {w:World} {K:Nat} {rows:List (List D)} {vs:List Value} (h:Rows T w K rows vs) {m:Nat} (hm:rows.length * K<=m):Rows T w K rows (vs.take m):=by
 refine ⟨by rw [List.length_take];have:=h.1;omega,fun i row hi=>⟨(h.2 i row hi).1,fun j d hd=>?_⟩⟩
 obtain ⟨u,hu,hr⟩:=(h.2 i row hi).2 j d hd
 refine ⟨u,?_,hr⟩
 have hj:j < K:=by rw [<-(h.2 i row hi).1];exact (List.getElem?_eq_some_iff.1 hd).1
 have:=Nat.mul_le_mul_right K (show i+1<=rows.length from (List.getElem?_eq_some_iff.1 hi).1)
 rw [Nat.succ_mul] at this
 rw [List.getElem?_take,if_pos (by omega)]
 exact hu
structure Flat (T:Nat->Prop) (w:World) (K:Nat) (rows:List (List D)) (a:Addr) (vs:List Value):Prop where
 len:vs.length=rows.length * K
 mO:Rows T w K rows vs
 cell:∀ j u,vs[j]?=some u->w.cell? (a.add j)=some u
 one:∀ u∈vs,u.oneCell'=true
theorem Bq {T:Nat->Prop} {w:World} {d:D} {v:Value} (h:bm T w d v):v.oneCell'=true:=by
 cases h with
 |v x hx=>exact hx
 |nil=>rfl
 |r=>rfl
 |f=>rfl
theorem rN {T:Nat->Prop} {w:World} {K:Nat} (hK:0 < K) {rows:List (List D)} {b off:Nat} (f:Nat->Nat->Value) (hlen:∀ (i:Nat) (row:List D),rows[i]?=some row->row.length=K)
  (hc:∀ (i:Nat) (row:List D) (j:Nat) (d:D),rows[i]?=some row->row[j]?=some d->w.cell? ⟨b,off+(i * K+j),none⟩=some (f i j)/\bm T w d (f i j)):∃ vs,Flat T w K rows ⟨b,off,none⟩ vs:=by
 let vs:=(List.range (rows.length * K)).map fun p=>f (p / K) (p % K)
 have hg:∀ p,p < rows.length * K->vs[p]?=some (f (p / K) (p % K)):=fun p hp=>by simp [vs,hp]
 have hrow:∀ p,p < rows.length * K->∃ row d,rows[p / K]?=some row/\row[p % K]?=some d:=by
  intro p hp
  have h1:p / K < rows.length:=by rw [Nat.div_lt_iff_lt_mul hK];exact hp
  have h2:p % K < K:=Nat.mod_lt _ hK
  have h3:=List.getElem?_eq_getElem h1
  have h4:=hlen _ _ h3
  exact ⟨_,_,h3,List.getElem?_eq_getElem (by omega)⟩
 refine ⟨vs,by simp [vs],⟨by simp [vs],fun i row hi=>⟨hlen i row hi,fun j d hd=>?_⟩⟩,fun p u hu=>?_,fun u hu=>?_⟩
 ·have hj:j < K:=by rw [<-hlen i row hi];exact (List.getElem?_eq_some_iff.1 hd).1
  have hi1:=(List.getElem?_eq_some_iff.1 hi).1
  have hp:i * K+j < rows.length * K:=by
   have:=Nat.mul_le_mul_right K (show i+1<=rows.length from hi1)
   rw [Nat.succ_mul] at this;omega
  refine ⟨_,hg _ hp,?_⟩
  have e1:(i * K+j) / K=i:=by rw [Nat.mul_comm,Nat.mul_add_div hK,Nat.div_eq_of_lt hj,Nat.add_zero]
  have e2:(i * K+j) % K=j:=by rw [Nat.mul_comm,Nat.mul_add_mod,Nat.mod_eq_of_lt hj]
  rw [e1,e2]
  exact (hc i row j d hi hd).2
 ·have hp:p < rows.length * K:=by have:=(List.getElem?_eq_some_iff.1 hu).1;simpa [vs] using this
  rw [hg p hp] at hu
  injection hu with hu
  subst hu
  obtain ⟨row,d,h1,h2⟩:=hrow p hp
  have:=(hc _ row _ d h1 h2).1
  rw [Addr.add_lit,show off+p=off+(p / K * K+p % K) by rw [Nat.mul_comm,Nat.div_add_mod]]
  exact this
 ·obtain ⟨p,hp,rfl⟩:=List.mem_map.1 hu
  obtain ⟨row,d,h1,h2⟩:=hrow p (by simpa using hp)
  exact Bq (hc _ row _ d h1 h2).2
inductive Src (st:aJ):AV->Nat->List (List D)->Prop
 |d (K:Nat) (rows:List (List D)):Src st (.v (.c (.d (.r K rows)))) K rows
 |s {k t K:Nat} {rows:List (List D)} (h:look st.h k=some (.arr t K rows)) {n:Nat} (hn:rows.length=n):Src st (.v (.c (.s k 0 K n))) K rows
 |sub {k i n t K:Nat} {rows ys:List (List D)} (h:look st.h k=some (.arr t K rows)) (hi:i+n<=rows.length) (he:(rows.drop i).take n=ys):Src st (.v (.c (.s k i K n))) K ys
 |nil (K:Nat):Src st (.v (.c (.d (.v (.slice none 0 0))))) K []
theorem jf {σ:Nat->Option bM} {T:Nat->Prop} {w:World} {g:bM} {t K i n:Nat} {rows:List (List D)} (h:dg σ T w (some g) (.arr t K rows)) (hi:i+n<=rows.length):∃ vs,Flat T w K ((rows.drop i).take n) ⟨g.g,i * K,none⟩ vs:=by
 rcases h.2 with ⟨_,h⟩|⟨g',vs,h1,_,h3,h4,h5,h6⟩
 ·cases h
 injection h1 with h1;subst h1
 refine rN h.1 (fun i' j=>(vs[(i+i') * K+j]?).getD undef) (fun i' row hr=>?_) fun i' row j d hr hd=>?_
 ·exact (h6.2 _ row (jn hr)).1
 ·obtain ⟨u,hu,hrel⟩:=(h6.2 _ row (jn hr)).2 j d hd
  rw [hu]
  refine ⟨?_,hrel⟩
  rw [cell_of_row w g.g _ vs.toArray t (0,0) h3,show i * K+(i' * K+j)=(i+i') * K+j by rw [Nat.add_mul];omega]
  simpa using hu
theorem Src.read {σ:Nat->Option bM} {T:Nat->Prop} {a:Act} {w:World} (C:Core σ T st a w) {v:AV} {K:Nat} {rows:List (List D)} (h:Src st v K rows) (hK:0 < K) {x:Value} (hx:eB σ T w v x):
  (rows=[]/\∃ A c,x=.slice A 0 c)\/∃ b off c vs,x=.slice (some ⟨b,off,none⟩) rows.length c/\rows.length<=c/\c<=9223372036854775807/\Flat T w K rows ⟨b,off,none⟩ vs:=by
 cases h with
 |d=>
  have hx:bm T w (.r K rows) x:=hx
  cases hx with
  |nil=>exact .inl ⟨rfl,_,_,rfl⟩
  |r K rows b off c cs hb hT hc hm hlen dY hd=>
   obtain ⟨vs,hf⟩:=rN hK cs hlen fun i row j d h1 h2=>⟨dY i row j d h1 h2,hd i row j d h1 h2⟩
   exact .inr ⟨b,off,c,vs,rfl,hc,hm,hf⟩
 |s h hn=>
  subst hn
  rcases hx with ⟨h0,hx⟩|⟨g,h1,h2,h3,h4⟩
  ·exact .inl ⟨List.eq_nil_of_length_eq_zero h0,_,_,hx⟩
  ·have hh:=C.heap _ _ h
   rw [h1] at hh
   obtain ⟨vs,hf⟩:=jf (i:=0) (n:=rows.length) hh (by omega)
   rw [List.drop_zero,List.take_of_length_le (Nat.le_refl _)] at hf
   exact .inr ⟨g.g,0 * K,g.c - 0,vs,h2,by omega,by omega,hf⟩
 |sub h hi he=>
  rename_i k i n t rows0
  subst he
  have hl:((rows0.drop i).take n).length=n:=by simp;omega
  rcases hx with ⟨h0,hx⟩|⟨g,h1,h2,h3,h4⟩
  ·subst h0;exact .inl ⟨by simp,_,_,hx⟩
  ·have hh:=C.heap _ _ h
   rw [h1] at hh
   obtain ⟨vs,hf⟩:=jf hh hi
   exact .inr ⟨g.g,i * K,g.c - i,vs,by rw [hl];exact h2,by rw [hl];omega,by omega,hf⟩
 |nil=>exact .inl ⟨rfl,_,_,bm.inv hx⟩
structure hJ (P:Program) (t e K bytes:Nat):Prop where
 u:P.underlying t=some (.slice e)
 i:∃ i z,P.info? e=some i/\i.zero=some z/\i.size=K/\i.bytes=bytes/\z.cells.size=K
 K0:0 < K
end
end
end Go.Proofs.Ytegepioggeggaaa.Dev
