/- A part of the proof: Sh39, PlLaw1, PlLaw2, PlRef, PlAgain, PlFiles, Chunk1, Parse1, Sh40. No condition. -/
import Derived.Test.YtegepioggeggaaaD14
import Derived.RangeFuncNested
import Derived.RangeFuncBound
import Derived.Shelf.RegionOpen
import Derived.OwnWalkIn
import Derived.LoopNIn
import Derived.LoopIn
set_option linter.unusedVariables false
set_option linter.unusedSimpArgs false
set_option maxHeartbeats 4000000
set_option maxRecDepth 100000
namespace Go.Proofs.Ytegepioggeggaaa.Dev
open Go.RowKit
open Go Go.RowKit Go.Shelf
section
def bV (ps:List Int):List (Int×Value):=ps.map fun k=>(k,.bool true)
def ko (ps:List Int) (a:Int):List Int:=if a∈ps then ps else ps++[a]
theorem oZ {a:Int}:∀ {ps:List Int} {ms:List MapEntry} (i:Nat),ms.map (fun e=>(e.key,e.val))=(bV ps).map (fun e=>(Value.int .i64 e.1,e.2))->
  (∃ j,Instr.findNow (.int .i64) (.int .i64 a) ms i=some (some (i+j,.bool true))/\a∈ps/\∃ e,ms[j]?=some e/\e.key=.int .i64 a/\e.val=.bool true)\/
  (Instr.findNow (.int .i64) (.int .i64 a) ms i=some none/\a ∉ ps)
 |[],[],i,_=>.inr ⟨rfl,by simp⟩
 |[],_::_,_,h=>by cases h
 |_::_,[],_,h=>by cases h
 |k::ps,e::ms,i,h=>by
  obtain ⟨h1,h2⟩:=List.cons.inj h
  injection h1 with h3 h4
  unfold Instr.findNow
  rw [h3,h4]
  by_cases hk:k=a
  ·subst hk
   exact .inl ⟨0,by simp [Instr.sameNow],by simp,e,rfl,h3,h4⟩
  ·have hk':(a==k)=false:=beq_eq_false_iff_ne.2 fun e=>hk e.symm
   rcases oZ (ps:=ps) (ms:=ms) (a:=a) (i+1) h2 with ⟨j,h5,h6,e',h7,h8,h9⟩|⟨h5,h6⟩
   ·refine .inl ⟨j+1,?_,by simp [h6],e',by simpa using h7,h8,h9⟩
    simp only [Instr.sameNow,hk',h5]
    simp [show i+1+j=i+(j+1) by omega]
   ·exact .inr ⟨by simp [Instr.sameNow,hk',h5],by simp [h6];exact fun e=>hk e.symm⟩
section
variable {P:Program} {st:aJ} {o:Oper}
theorem AW {t kt et:TypeId} {m x:Operand} {k cl:Nat} {a:Int} {ps:List Int} (hu:P.underlying t=some (.map kt et)) (hkt:P.underlying kt=some (.int .i64)) (hz:(P.info? et).bind (fun i=>i.zero)=some (.bool false)) (ho:o.op=.lookup t m x false)
  (hm:ev st m (.v (.c (.m k)))) (hx:ev st x (.v (.c (.d (.v (.int .i64 a)))))) (hb:look st.h k=some (.map (bV ps) cl)):
  aK P o st (.v (.c (cB (decide (a∈ps))))) [] []:=
 aK.val fun σ T ac w C=>by
  obtain ⟨g,h1,h2⟩:=bH C hm
  have h3:=bj.inv (bH C hx)
  obtain ⟨g',ms,e1,e2,e3,e4⟩:=C.heap k _ hb
  rw [h1] at e1;injection e1 with e1;subst e1
  refine ⟨.bool (decide (a∈ps)),?_,bj.v _ rfl⟩
  cases hq:P.info? et with
  |none=>simp [hq] at hz
  |some i=>
   have hzz:i.zero=some (.bool false):=by simpa [hq] using hz
   unfold execOp
   rcases oZ (a:=a) 0 e4 with ⟨j,hf,hg,_⟩|⟨hf,hg⟩
   ·simp [ho,h2,h3,hg,Instr.lookup,run_underlying hu,MapKept.run_getObj_map e3,MapKept.run_checkKey hkt (show MapKept.IsKey (.int .i64) (.int .i64 a) from rfl),MapKept.run_findKey hkt hf,Result.andThen]
   ·simp [ho,h2,h3,hg,Instr.lookup,run_underlying hu,MapKept.run_getObj_map e3,MapKept.run_checkKey hkt (show MapKept.IsKey (.int .i64) (.int .i64 a) from rfl),MapKept.run_findKey hkt hf,Result.andThen,zeroValue,typeInfo,hq,hzz]
theorem AS {t kt et:TypeId} {m x y:Operand} {k cl:Nat} {a:Int} {ps:List Int} (hu:P.underlying t=some (.map kt et)) (hkt:P.underlying kt=some (.int .i64)) (ho:o.op=.mapUpdate t m x y)
  (hm:ev st m (.v (.c (.m k)))) (hx:ev st x (.v (.c (.d (.v (.int .i64 a)))))) (hy:ev st y (.v (.c (.d (.v (.bool true)))))) (hb:look st.h k=some (.map (bV ps) cl)):
  aK P o st (.v (.c .any)) [(k,.map (bV (ko ps a)) (if a∈ps then cl else cl+1))] [k]:=by
 intro σ T ac w C _
 obtain ⟨g,h1,h2⟩:=bH C hm
 have h3:=bj.inv (bH C hx)
 have h4:=bj.inv (bH C hy)
 obtain ⟨g',ms,e1,e2,e3,e4⟩:=C.heap k _ hb
 rw [h1] at e1;injection e1 with e1;subst e1
 have hlt:=(Array.getElem?_eq_some_iff.1 e3).1
 rcases oZ (a:=a) 0 e4 with ⟨j,hf,hg,e0,hj,hk,hv⟩|⟨hf,hg⟩
 ·rw [Nat.zero_add] at hf
  have hj':ms[j]?=some e0:=by simpa using hj
  refine ku (w':={w with heap:=w.heap.setIfInBounds g.g (.map (ms.modify j fun e'=>{e' with key:=.int .i64 a,val:=.bool true}) cl)}) ?_ ⟨undef,σ,T,rfl,Ext.write C hb h1 rfl rfl rfl (by simp) (fun i hi=>(MapKept.heap_set e3).2 i hi) fun G=>?_,trivial⟩
  ·unfold execOp
   simp [ho,h2,h3,h4,Instr.mapUpdate,Sem.run_bind,run_underlying hu,Result.andThen_ok,MapKept.run_getObj_map e3,MapKept.run_checkKey hkt (show MapKept.IsKey (.int .i64) (.int .i64 a) from rfl),MapKept.run_findKey hkt hf,hj',hk,MapKept.run_keyThatStays (show MapKept.IsKey (.int .i64) (.int .i64 a) from rfl),MapKept.run_setObj_map _ e3]
  ·refine ⟨g,(ms.modify j fun e'=>{e' with key:=.int .i64 a,val:=.bool true}),rfl,e2,?_,?_⟩
   ·rw [if_pos hg];exact (MapKept.heap_set e3).1
   ·unfold ko
    rw [if_pos hg,<-e4]
    refine List.ext_getElem? fun q=>?_
    rw [List.getElem?_map,Array.getElem?_toList,Array.getElem?_modify,List.getElem?_map,Array.getElem?_toList]
    by_cases hq:j=q
    ·subst hq
     simp [hj',hk,hv]
    ·simp [hq]
 ·refine ku (w':={w with heap:=w.heap.setIfInBounds g.g (.map (ms.push {key:=.int .i64 a,val:=.bool true,born:=cl}) (cl+1))}) ?_ ⟨undef,σ,T,rfl,Ext.write C hb h1 rfl rfl rfl (by simp) (fun i hi=>(MapKept.heap_set e3).2 i hi) fun G=>?_,trivial⟩
  ·unfold execOp
   simp only [ho,h2,h3,h4,Instr.mapUpdate,Sem.run_bind,run_underlying hu,Result.andThen_ok,MapKept.run_getObj_map e3,MapKept.run_checkKey hkt (show MapKept.IsKey (.int .i64) (.int .i64 a) from rfl),MapKept.run_findKey hkt hf,MapKept.run_setObj_map _ e3]
   rfl
  ·refine ⟨g,(ms.push {key:=.int .i64 a,val:=.bool true,born:=cl}),rfl,e2,?_,?_⟩
   ·rw [if_neg hg];exact (MapKept.heap_set e3).1
   ·unfold ko
    rw [if_neg hg,Array.toList_push,List.map_append,e4]
    simp [bV]
theorem zd {t:TypeId} (k:Nat) (ho:o.op=.makeMap t none):aK P o st (.v (.c (.m k))) [(k,.map (bV []) 0)] []:=uk k ho
end
end
def kU (l:List bI):Prop:=∀ c∈l,0<=c.bN - c.held
theorem pY {l:List bI} {e k h m:Int} (hl:kU l) (hc:∀ c,l[k.toNat]?=some c->h - m<=c.bN - c.held):kU (cH l e k h m).1:=by
 unfold cH
 split
 ·exact hl
 ·rename_i c hk
  split
  ·rename_i h0
   intro z hz
   rcases gC hz with hz|rfl
   ·exact hl z hz
   ·have he:=(gb h0).2
    rcases qM (show en c h m=((en c h m).1,(en c h m).2) from rfl) with ⟨h1,_⟩|h1
    ·exact absurd he h1
    ·have h2:=h1.2.2.2.2.2.2.1
     have h3:=hc c hk
     rw [h2];dsimp only;omega
  ·exact hl
theorem jt {l:List bI} {e k h m:Int} (hl:kU l) (hm:h<=m):kU (cH l e k h m).1:=pY hl fun c hc=>by have:=hl c (List.mem_of_getElem? hc);omega
theorem AJ {a:bC} {t:Int} (h:bL a=0):bQ (eh a t) - bQ a<=0:=by
 have:=eZ h
 unfold bQ eh
 cases hs:a.shut<;>cases ht:decide (a.dc<=t)<;>simp<;>omega
theorem rZ {time:Int}:∀ (l:List bC) (i:Nat) (ay:List bI) (au:List bC) (e:Int),(∀ a∈l,bL a=0)->kU ay->kU (fG time l i ay au e).1
 |[],_,_,_,_,_,h=>h
 |a::l,i,ay,au,e,hw,h=>rZ l (i+1) _ _ _ (fun x hx=>hw x (List.mem_cons_of_mem _ hx)) (jt h (AJ (hw a List.mem_cons_self)))
theorem sa {time:Int} {n:Int}:∀ (l:List bC) (i:Nat) (ay:List bI) (au:List bC) (e:Int),(∀ a∈l,a.bq=n)->(∀ a∈au,a.bq=n)->∀ a∈(fG time l i ay au e).2.1,a.bq=n
 |[],_,_,_,_,_,h=>h
 |a::l,i,ay,au,e,hl,h=>sa l (i+1) _ _ _ (fun x hx=>hl x (List.mem_cons_of_mem _ hx)) fun x hx=>by
  rcases gC hx with hx|rfl
  ·exact h x hx
  ·exact hl a List.mem_cons_self
structure fg (b:Bk):Prop where
 ok:cu b
 up:b.down=false
 iN:∀ a∈b.au,a.bq=0
 free:kU b.ay
 k0:∀ t∈b.s0.kept,0<=t.sum
 k1:∀ t∈b.s1.kept,0<=t.sum
 p0:∀ p∈b.w0,0<=p.cA.sum
 p1:∀ p∈b.w1,0<=p.cA.sum
theorem fg.dd {b c:Bk} {e:Int} (h:fg b) (hc:e=0->fg c):fg (dd b c e).1:=by
 unfold Dev.dd;split
 ·exact hc (by assumption)
 ·exact h
theorem fg.late {b:Bk} (h:fg b):fg (gD b):=by
 have hok:=h.ok.late
 unfold gD at hok ⊢
 split
 ·rename_i h0
  rw [if_pos h0] at hok
  exact ⟨hok,h.up,sa _ _ _ _ _ h.iN h.iN,rZ _ _ _ _ _ (fun a ha=>(h.ok.perm a ha).1) h.free,h.k0,h.k1,h.p0,h.p1⟩
 ·exact h
theorem fg.start {s:Setup} (h:(er s).err=0):fg (dJ s):=
 ⟨cu.start h,rfl,fun a ha=>(by cases ha),fun c hc=>(by
  obtain ⟨p,_,rfl⟩:=List.mem_map.1 (show c∈s.cZ.map pO from hc)
  exact Int.le_refl _),fun a ha=>(by cases ha),fun a ha=>(by cases ha),fun a ha=>(by cases ha),fun a ha=>(by cases ha)⟩
theorem zB {c:bI} {n t:Int} (h:(dZ c n t).2=0):0<=(dZ c n t).1.bN - (dZ c n t).1.held:=by
 rcases rn (show dZ c n t=((dZ c n t).1,(dZ c n t).2) from rfl) with ⟨h5,_⟩|⟨h5,h6,h7,h8,h9,h10,h11,l,h12,h13⟩
 ·exact absurd h h5
 ·rw [h13];dsimp only;omega
theorem fg.asks {b:Bk} (h:fg b) (d:bx):fg (dy b d).1:=by
 have hok:=h.ok.asks d
 unfold dy at hok ⊢
 rw [h.up] at hok ⊢
 simp only [Bool.false_eq_true,if_false] at hok ⊢
 split
 ·exact h
 rename_i c1
 rw [if_neg c1] at hok
 split
 ·exact h
 rename_i c2
 rw [if_neg c2] at hok
 split
 ·exact h
 rename_i c3
 rw [if_neg c3] at hok
 obtain ⟨_,w2,_⟩:=oL (show (dr d.n d.aE d.sum b.time).2=0 by omega)
 split
 ·exact h
 rename_i c hc
 rw [hc] at hok
 dsimp only at hok
 split
 ·exact h
 rename_i c4
 rw [if_neg c4] at hok
 refine ⟨hok,rfl,fun a ha=>?_,fun z hz=>?_,h.k0,h.k1,h.p0,h.p1⟩
 ·rcases List.mem_append.1 ha with ha|ha
  ·exact h.iN a ha
  ·obtain rfl:=List.mem_singleton.1 ha;rw [w2]
 ·rcases gC hz with hz|rfl
  ·exact h.free z hz
  ·exact zB (by omega)
theorem yT {a b:bC} {k n:Int} (hw:bL a=0) (h1:1<=n) (hm:kq a k n b):(k=1->bQ b - bQ a=n)/\(k=2\/k=3->bQ b - bQ a<=0 - n)/\(k=4->bQ b - bQ a<=0)/\(k=6\/b.bq<=a.bq):=by
 have hr:=eZ hw
 cases hm with
 |more h hs hn=>subst h;unfold bQ;rw [hs];simp;omega
 |take h hs hn=>
  unfold bQ;rw [hs];dsimp only
  refine ⟨fun h=>by omega,fun _=>?_,fun h=>by omega,.inr (Int.le_refl _)⟩
  split<;>simp at *<;>omega
 |less h hs hn=>
  subst h;unfold bQ;rw [hs];dsimp only
  refine ⟨fun h=>by omega,fun h=>by omega,fun _=>?_,.inr (Int.le_refl _)⟩
  split<;>simp at *<;>omega
 |vB h hn=>subst h;exact ⟨fun h=>by omega,fun h=>by omega,fun h=>by omega,.inr (Int.le_refl _)⟩
 |tg h hn=>subst h;exact ⟨fun h=>by omega,fun h=>by omega,fun h=>by omega,.inl rfl⟩
 |td h hn=>subst h;exact ⟨fun h=>by omega,fun h=>by omega,fun h=>by omega,.inr (by dsimp only;omega)⟩
 |tc h hn=>subst h;exact ⟨fun h=>by omega,fun h=>by omega,fun h=>by omega,.inr (by dsimp only;omega)⟩
theorem yS {a b:bC} {k n:Int} (hm:kq a k n b) (h1:1<=n) (hk:k=7\/k=8):1<=a.bq:=by
 cases hm<;>omega
theorem oy {s:bY} {e:Int} {t:bo} (h:∀ t∈s.kept,0<=t.sum) (ht:0<=t.sum):∀ u∈(eQ s e t).1.kept,0<=u.sum:=by
 unfold eQ
 split
 ·rename_i h0
  have he:=(gb h0).2
  unfold gP at he
  split at he
  ·rename_i h1;exact absurd he h1
  split at he
  ·rename_i h1;exact absurd he h1
  ·rename_i h1 h2
   have hp:(gP s t).1=lV s t:=by unfold gP;rw [if_neg h1,if_neg h2]
   dsimp only
   rw [hp]
   intro u hu
   rcases List.mem_append.1 hu with hu|hu
   ·exact h u hu
   ·obtain rfl:=List.mem_singleton.1 hu;exact ht
 ·exact h
theorem fg.mb {b:Bk} (h:fg b) (d:bx) (hd:¬d.move=6):fg (dh b d).1:=by
 have hok:=h.ok.mb d
 unfold dh at hok ⊢
 rw [h.up] at hok ⊢
 simp only [Bool.false_eq_true,if_false] at hok ⊢
 split
 ·exact h
 rename_i c1
 rw [if_neg c1] at hok
 split
 ·exact h
 rename_i cz ho
 rw [ho] at hok
 dsimp only at hok
 split
 ·exact h
 rename_i c2
 rw [if_neg c2] at hok
 split
 ·exact h
 rename_i c3
 rw [if_neg c3] at hok
 have hmv:ck cz d.move d.sum=((ck cz d.move d.sum).1,0):=Prod.ext rfl (by dsimp only;omega)
 generalize (ck cz d.move d.sum).1=a at *
 rcases qS hmv with ⟨h4,_⟩|⟨_,hw,hn1,hn2,hm⟩
 ·exact absurd rfl h4
 have hold:=h.iN cz (List.mem_of_getElem? ho)
 have hr:=eZ hw
 obtain ⟨m1,m2,m3,m4⟩:=yT hw hn1 hm
 have hcard:a.aO=cz.aO:=(qf hmv).2.1
 have hra:=eZ (qf hmv).1
 unfold nK at hok ⊢
 have hcards:kU (ec b a cz d).1:=by
  unfold ec
  split
  ·rename_i hk
   rcases hk with hk|hk
   ·refine pY h.free fun c hc=>?_
    have hf:¬d.sum > lj b.ay a.aO:=fun hf=>c3 ⟨hk,hf⟩
    unfold lj at hf;rw [hc] at hf;dsimp only at hf
    have:=m1 hk;omega
   ·exact jt h.free (m3 hk)
  split
  ·rename_i hk;exact jt h.free (m2 hk)
  split
  ·exact h.free
  split
  ·exact h.free
  split
  ·rename_i hk;have:=yS hm hn1 (.inr hk);omega
  ·exact h.free
 unfold Dev.dd at hok ⊢
 split
 ·rename_i h0
  rw [if_pos h0] at hok
  have hks:(∀ t∈(ec b a cz d).2.2.2.1.kept,0<=t.sum)/\∀ t∈(ec b a cz d).2.2.2.2.1.kept,0<=t.sum:=by
   unfold ec
   split
   ·exact ⟨h.k0,h.k1⟩
   split
   ·exact ⟨oy h.k0 (by dsimp only;omega),h.k1⟩
   split
   ·exact ⟨h.k0,oy h.k1 (by dsimp only;omega)⟩
   split
   ·exact ⟨oy h.k0 (by dsimp only;omega),h.k1⟩
   split
   ·exact ⟨h.k0,h.k1⟩
   ·exact ⟨h.k0,h.k1⟩
  refine ⟨hok,h.up,fun x hx=>?_,hcards,hks.1,hks.2,h.p0,h.p1⟩
  rcases gC hx with hx|rfl
  ·exact h.iN x hx
  ·rcases m4 with h6|h6
   ·exact absurd h6 hd
   ·omega
 ·exact h
theorem rG {au:List bC} {due:List Int} {ay:List bI} {book:List Entry} {e:Int} {t:bo} (h:kU ay) (ht:0<=t.sum):kU (eO au due ay book e t).2.1:=by
 unfold eO
 split
 ·exact h
 split
 ·exact h
 split
 ·exact jt h ht
 split
 ·exact h
 ·exact h
theorem fg.load {b:Bk} (h:fg b) (d:bx):fg (fc b d).1:=by
 have hok:=h.ok.load d
 unfold fc at hok ⊢
 split
 ·exact h
 rename_i c1
 rw [if_neg c1] at hok
 split
 ·exact h
 rename_i c2
 rw [if_neg c2] at hok
 unfold Dev.dd at hok ⊢
 split
 ·rename_i h0;rw [if_pos h0] at hok;exact ⟨hok,h.up,h.iN,jt h.free (by omega),h.k0,h.k1,h.p0,h.p1⟩
 ·exact h
theorem fg.vG {b:Bk} (h:fg b) (d:bx):fg (fT b d).1:=by
 have hok:=h.ok.vG d
 unfold fT at hok ⊢
 split
 ·exact h
 rename_i c1
 rw [if_neg c1] at hok
 split
 ·exact h
 rename_i c2
 rw [if_neg c2] at hok
 unfold Dev.dd at hok ⊢
 split
 ·rename_i h0;rw [if_pos h0] at hok;exact ⟨hok,h.up,h.iN,h.free,h.k0,h.k1,h.p0,h.p1⟩
 ·exact h
theorem fg.cQ {b:Bk} (h:fg b) (d:bx):fg (eF b d).1:=by
 unfold eF
 split
 ·exact h
 ·rw [h.up]
  simp only [Bool.false_eq_true,if_false]
  have h1:fg {b with time:=b.time+d.sum}:=⟨h.ok.tick (by have:=h.ok.time;omega) (by have:=h.ok.time;omega),h.up,h.iN,h.free,h.k0,h.k1,h.p0,h.p1⟩
  have h2:=h1.late
  rwa [show ({b with time:=b.time+d.sum}:Bk)={b with time:=b.time+d.sum,down:=false} by rw [<-h.up]] at h2
theorem tN {w:List cp} {ks:List bo} {n:Int} (h:∀ p∈w,0<=p.cA.sum) (hk:∀ t∈ks,0<=t.sum):∀ p∈(jz w ks n).1,0<=p.cA.sum:=by
 unfold jz
 split
 ·exact h
 ·intro p hp
  rcases tT hp with hp|⟨t,ht,rfl⟩|rfl
  ·exact h p hp
  ·exact hk t ht
  ·exact Int.le_refl _
theorem fg.send {b:Bk} (h:fg b) (d:bx):fg {b with w0:=(ei b.s0 b.s1 b.n0 b.n1 b.w0 b.w1 d).1,w1:=(ei b.s0 b.s1 b.n0 b.n1 b.w0 b.w1 d).2.1}:=by
 refine ⟨h.ok.send d,h.up,h.iN,h.free,h.k0,h.k1,?_,?_⟩
 ·dsimp only;unfold ei
  split
  ·exact h.p0
  split
  ·exact tN h.p0 h.k1
  ·exact h.p0
 ·dsimp only;unfold ei
  split
  ·exact tN h.p1 h.k0
  split
  ·exact h.p1
  ·exact h.p1
theorem uB {s:bY} {n:Int} (h:∀ t∈s.kept,0<=t.sum) (hb:(ej s n).2=0):∀ t∈(ej s n).1.kept,0<=t.sum:=by
 rcases pP (show ej s n=((ej s n).1,(ej s n).2) from rfl) with ⟨h1,_⟩|⟨_,_,_,_,h2⟩
 ·exact absurd hb h1
 ·rw [h2];exact fun t ht=>h t (uc ht)
theorem fg.me {b:Bk} (h:fg b) (d:bx):fg (cj b d).1:=by
 have hok:=h.ok.me d
 unfold cj at hok ⊢
 split
 ·rename_i c0
  rw [if_pos c0] at hok
  unfold fL at hok ⊢
  split
  ·exact h
  rename_i p hp
  rw [hp] at hok
  dsimp only at hok
  have hps:=h.p0 p (List.mem_of_getElem? hp)
  have hd:∀ p∈b.w0.drop 1,0<=p.cA.sum:=fun p hp=>h.p0 p (List.mem_of_mem_drop hp)
  split
  ·rename_i c1;rw [if_pos c1] at hok;exact ⟨hok,h.up,h.iN,h.free,h.k0,h.k1,hd,h.p1⟩
  rename_i c1
  rw [if_neg c1] at hok
  split
  ·rename_i c2
   rw [if_pos c2] at hok
   split
   ·rename_i c3;rw [if_pos c3] at hok;exact ⟨hok,h.up,h.iN,h.free,uB h.k0 c3,h.k1,hd,h.p1⟩
   ·exact h
  rename_i c2
  rw [if_neg c2] at hok
  split
  ·rename_i c3
   rw [if_pos c3] at hok
   unfold Dev.dd at hok ⊢
   split
   ·rename_i c4;rw [if_pos c4] at hok;exact ⟨hok,h.up,h.iN,rG h.free hps,h.k0,h.k1,hd,h.p1⟩
   ·exact h
  ·rename_i c3;rw [if_neg c3] at hok;exact ⟨hok,h.up,h.iN,h.free,h.k0,h.k1,hd,h.p1⟩
 rename_i c0
 rw [if_neg c0] at hok
 split
 ·rename_i c01
  rw [if_pos c01] at hok
  unfold fK at hok ⊢
  split
  ·exact h
  rename_i p hp
  rw [hp] at hok
  dsimp only at hok
  have hps:=h.p1 p (List.mem_of_getElem? hp)
  have hd:∀ p∈b.w1.drop 1,0<=p.cA.sum:=fun p hp=>h.p1 p (List.mem_of_mem_drop hp)
  split
  ·rename_i c1;rw [if_pos c1] at hok;exact ⟨hok,h.up,h.iN,h.free,h.k0,h.k1,h.p0,hd⟩
  rename_i c1
  rw [if_neg c1] at hok
  split
  ·rename_i c2
   rw [if_pos c2] at hok
   split
   ·rename_i c3;rw [if_pos c3] at hok;exact ⟨hok,h.up,h.iN,h.free,h.k0,uB h.k1 c3,h.p0,hd⟩
   ·exact h
  rename_i c2
  rw [if_neg c2] at hok
  split
  ·rename_i c3
   rw [if_pos c3] at hok
   unfold Dev.dd at hok ⊢
   split
   ·rename_i c4;rw [if_pos c4] at hok;exact ⟨hok,h.up,h.iN,rG h.free hps,h.k0,h.k1,h.p0,hd⟩
   ·exact h
  ·rename_i c3;rw [if_neg c3] at hok;exact ⟨hok,h.up,h.iN,h.free,h.k0,h.k1,h.p0,hd⟩
 ·exact h
theorem fg.CU {b:Bk} (h:fg b) (y:List (List Int)) (d:bx) (h8:¬d.kind=8) (h6:¬(d.kind=3/\d.move=6)):fg (dk b y d).1:=by
 unfold dk
 split
 ·exact h.load d
 split
 ·exact h.asks d
 split
 ·rename_i h3;exact h.mb d fun e=>h6 ⟨h3,e⟩
 split
 ·exact h.cQ d
 split
 ·exact h.send d
 split
 ·exact h.me d
 split
 ·have:(ir b).1=b:=by unfold ir;rw [if_pos h.up]
  rw [this];exact h
 split
 ·exact ⟨h.ok.qN (mu (y:=y) h.ok.aP).1,h.up,h.iN,h.free,h.k0,h.k1,h.p0,h.p1⟩
 split
 ·exact h.vG d
 ·exact h
section
def eB (k:Int):List bC->Int
 |[]=>0
 |a::l=>(if a.aO=k then bQ a else 0)+eB k l
theorem sc (k:Int) (u v:List bC):eB k (u++v)=eB k u+eB k v:=by
 induction u with
 |nil=>simp [eB]
 |cons a u ih=>simp only [List.cons_append,eB,ih];omega
theorem nC (k:Int) (b:bC):∀ {l:List bC} {i:Nat} {a:bC},l[i]?=some a->eB k (l.set i b)=eB k l - (if a.aO=k then bQ a else 0)+(if b.aO=k then bQ b else 0)
 |x::l,0,a,h=>by
  have:x=a:=by simpa using h
  subst this
  simp only [List.set_cons_zero,eB];omega
 |x::l,i+1,a,h=>by
  have h:l[i]?=some a:=by simpa using h
  simp only [List.set_cons_succ,eB,nC k b h];omega
def hZ (ay:List bI) (au:List bC):Prop:=∀ (k:Nat) (c:bI),ay[k]?=some c->c.held=eB k au
theorem pX {l:List bI} {e k h m:Int} (hz:(cH l e k h m).2=0):e=0/\((l[k.toNat]?=none/\(cH l e k h m).1=l)\/∃ c,l[k.toNat]?=some c/\(cH l e k h m).1=l.set k.toNat ⟨c.bN+m,c.held+h,c.cq,c.cY⟩):=by
 unfold cH at hz ⊢
 cases hc:l[k.toNat]? with
 |none=>rw [hc] at hz;exact ⟨hz,.inl ⟨rfl,rfl⟩⟩
 |some c=>
  rw [hc] at hz
  dsimp only at hz ⊢
  split at hz
  ·rename_i h0
   obtain ⟨h1,h2⟩:=gb h0
   rcases qM (show en c h m=((en c h m).1,(en c h m).2) from rfl) with ⟨h3,_⟩|h3
   ·exact absurd h2 h3
   ·rw [if_pos h0]
    exact ⟨h1,.inr ⟨c,rfl,by dsimp only;rw [h3.2.2.2.2.2.2.1]⟩⟩
  ·rename_i h0;exact absurd hz h0
theorem hZ.shift {ay:List bI} {au auths':List bC} {e k h m:Int} (hh:hZ ay au) (hz:(cH ay e k h m).2=0) (ha:∀ j:Nat,eB j auths'=eB j au+if j=k.toNat then h else 0):hZ (cH ay e k h m).1 auths':=by
 obtain ⟨_,hz⟩:=pX hz
 intro j c hc
 rcases hz with ⟨h1,h2⟩|⟨c0,h1,h2⟩
 ·rw [h2] at hc
  have:j≠k.toNat:=fun e=>by subst e;rw [h1] at hc;cases hc
  rw [hh j c hc,ha j,if_neg this];omega
 ·rw [h2,List.getElem?_set] at hc
  split at hc
  ·rename_i e
   split at hc
   ·injection hc with hc;subst hc
    have:=hh _ c0 h1
    rw [ha j,if_pos e.symm,<-e];dsimp only;omega
   ·cases hc
  ·rename_i e
   rw [hh j c hc,ha j,if_neg (Ne.symm e)];omega
theorem hZ.same {ay:List bI} {au:List bC} {e k m:Int} (hh:hZ ay au) (hz:(cH ay e k 0 m).2=0):hZ (cH ay e k 0 m).1 au:=hh.shift hz fun j=>by split<;>omega
theorem nn {s:bY} {e:Int} {t:bo} (h:(eQ s e t).2=0):e=0/\(gP s t).2=0/\(eQ s e t).1=(gP s t).1:=by
 unfold eQ at h ⊢
 split at h
 ·rename_i h0;obtain ⟨h1,h2⟩:=gb h0;rw [if_pos h0];exact ⟨h1,h2,rfl⟩
 ·rename_i h0;exact absurd h h0
theorem vD {s:bY} {t:bo} (h:(gP s t).2=0):(cP s).err=0/\(cP (lV s t)).err=0/\(gP s t).1=lV s t:=by
 unfold gP at h ⊢
 split at h
 ·rename_i h1;exact absurd h h1
 split at h
 ·rename_i h1;exact absurd h h1
 ·rename_i h1 h2;rw [if_neg h1,if_neg h2];exact ⟨by omega,by omega,rfl⟩
theorem yl {s:bY} {n:Int} (h:(ej s n).2=0):(cP s).err=0/\0<=n/\n<=s.bX/\(ej s n).1=⟨s.bX,dP (came n) s.kept⟩/\(cP (ej s n).1).err=0:=by
 rcases pP (show ej s n=((ej s n).1,(ej s n).2) from rfl) with ⟨h1,_⟩|⟨_,h1,h2,h3,h4⟩
 ·exact absurd h h1
 ·exact ⟨h1,h2,h3,h4,by rw [h4];exact zx h1 h2 h3⟩
structure ek (b:Bk):Prop where
 ok:cu b
 held:hZ b.ay b.au
 s0:(cP b.s0).err=0
 s1:(cP b.s1).err=0
 st:bU b.bG=0
 used:b.bG.used.length=b.ay.length
 aP:∀ x∈b.aP,qi x
theorem rX {time:Int}:∀ (l:List bC) (i:Nat) (ay:List bI) (au:List bC) (e:Int),(fG time l i ay au e).2.2=0->e=0
 |[],_,_,_,_,h=>h
 |a::l,i,ay,au,e,h=>(pX (rX l _ _ _ _ h)).1
theorem rY {time:Int}:∀ (l:List bC) (i:Nat) (ay:List bI) (au:List bC) (e:Int),(fG time l i ay au e).2.2=0->au.drop i=l->(∀ a∈l,0<=a.aO)->hZ ay au->hZ (fG time l i ay au e).1 (fG time l i ay au e).2.1
 |[],_,_,_,_,_,_,_,h=>h
 |a::l,i,ay,au,e,hz,hd,hp,h=>by
  have hat:au[i]?=some a:=by
   have:(au.drop i)[0]?=some a:=by rw [hd];rfl
   rwa [List.getElem?_drop,Nat.add_zero] at this
  have hilt:=(List.getElem?_eq_some_iff.1 hat).1
  refine rY l (i+1) _ _ _ hz ?_ (fun x hx=>hp x (List.mem_cons_of_mem _ hx)) (h.shift (rX l _ _ _ _ hz) fun j=>?_)
  ·rw [List.drop_set_of_lt (by omega)]
   have:au.drop (i+1)=(au.drop i).drop 1:=by rw [List.drop_drop]
   rw [this,hd];rfl
  ·have hc:=hp a List.mem_cons_self
   rw [nC _ _ hat]
   have:(eh a time).aO=a.aO:=rfl
   rw [this]
   by_cases e:a.aO=(j:Int)
   ·rw [if_pos e,if_pos e,if_pos (by omega)];omega
   ·rw [if_neg e,if_neg e,if_neg (by omega)];omega
theorem Az {time:Int} (l:List bC) (i:Nat) (ay:List bI) (au:List bC) (e:Int):(fG time l i ay au e).1.length=ay.length:=by
 induction l generalizing i ay au e with
 |nil=>rfl
 |cons a l ih=>exact (ih (i+1) _ _ _).trans (fv _ _ _ _ _)
theorem ek.late {b:Bk} (h:ek b):ek (gD b):=by
 have hok:=h.ok.late
 unfold gD at hok ⊢
 split
 ·rename_i h0
  rw [if_pos h0] at hok
  exact ⟨hok,rY _ _ _ _ _ h0 rfl (fun a ha=>(h.ok.perm a ha).2.1) h.held,h.s0,h.s1,h.st,by dsimp only;rw [Az];exact h.used,h.aP⟩
 ·exact h
theorem ek.start {s:Setup} (h:(er s).err=0):ek (dJ s):=by
 obtain ⟨h1,h2,h3,h4,h5,h6⟩:=ll h
 have hn:dL s.cap s.cZ.length=({cap:=s.cap,used:=List.replicate s.cZ.length 0,bd:=[]},0):=qk h1 ⟨h4,h5⟩
 refine ⟨cu.start h,fun k c hc=>?_,rfl,rfl,?_,?_,fun x hx=>by cases hx⟩
 ·have hc:(s.cZ.map pO)[k]?=some c:=hc
  rw [List.getElem?_map] at hc
  cases hp:s.cZ[k]? with
  |none=>rw [hp] at hc;cases hc
  |some p=>rw [hp] at hc;injection hc with hc;subst hc;rfl
 ·show bU (dL s.cap s.cZ.length).1=0
  rw [hn];exact tY _ _ h1 h4 h5
 ·show (dL s.cap s.cZ.length).1.used.length=(s.cZ.map pO).length
  rw [hn];simp
theorem ek.load {b:Bk} (h:ek b) (d:bx):ek (fc b d).1:=by
 have hok:=h.ok.load d
 unfold fc at hok ⊢
 split
 ·exact h
 rename_i c1
 rw [if_neg c1] at hok
 split
 ·exact h
 rename_i c2
 rw [if_neg c2] at hok
 unfold Dev.dd at hok ⊢
 split
 ·rename_i h0
  rw [if_pos h0] at hok
  exact ⟨hok,h.held.same (kd h0).1,h.s0,h.s1,h.st,by dsimp only;rw [fv];exact h.used,h.aP⟩
 ·exact h
theorem ek.vG {b:Bk} (h:ek b) (d:bx):ek (fT b d).1:=by
 have hok:=h.ok.vG d
 unfold fT at hok ⊢
 split
 ·exact h
 rename_i c1
 rw [if_neg c1] at hok
 split
 ·exact h
 rename_i c2
 rw [if_neg c2] at hok
 unfold Dev.dd at hok ⊢
 split
 ·rename_i h0;rw [if_pos h0] at hok;exact ⟨hok,h.held,h.s0,h.s1,h.st,h.used,h.aP⟩
 ·exact h
theorem ek.cQ {b:Bk} (h:ek b) (d:bx):ek (eF b d).1:=by
 unfold eF
 split
 ·exact h
 ·have h1:ek {b with time:=b.time+d.sum}:=⟨h.ok.tick (by have:=h.ok.time;omega) (by have:=h.ok.time;omega),h.held,h.s0,h.s1,h.st,h.used,h.aP⟩
  dsimp only
  split
  ·exact h1
  ·exact h1.late
theorem ek.send {b:Bk} (h:ek b) (d:bx):ek {b with w0:=(ei b.s0 b.s1 b.n0 b.n1 b.w0 b.w1 d).1,w1:=(ei b.s0 b.s1 b.n0 b.n1 b.w0 b.w1 d).2.1}:=
 ⟨h.ok.send d,h.held,h.s0,h.s1,h.st,h.used,h.aP⟩
theorem rF {au:List bC} {due:List Int} {ay:List bI} {book:List Entry} {e:Int} {t:bo} (h:hZ ay au) (hz:(eO au due ay book e t).2.2.2=0):hZ (eO au due ay book e t).2.1 au/\(eO au due ay book e t).2.1.length=ay.length:=by
 unfold eO at hz ⊢
 split
 ·exact ⟨h,rfl⟩
 rename_i a ha
 rw [ha] at hz
 dsimp only at hz
 split
 ·exact ⟨h,rfl⟩
 rename_i c1
 rw [if_neg c1] at hz
 split
 ·rename_i c2;rw [if_pos c2] at hz;exact ⟨h.same (kd hz).1,fv _ _ _ _ _⟩
 split
 ·exact ⟨h,rfl⟩
 ·exact ⟨h,rfl⟩
theorem ek.me {b:Bk} (h:ek b) (d:bx):ek (cj b d).1:=by
 have hok:=h.ok.me d
 unfold cj at hok ⊢
 split
 ·rename_i c0
  rw [if_pos c0] at hok
  unfold fL at hok ⊢
  split
  ·exact h
  rename_i p hp
  rw [hp] at hok
  dsimp only at hok
  split
  ·rename_i c1;rw [if_pos c1] at hok;exact ⟨hok,h.held,h.s0,h.s1,h.st,h.used,h.aP⟩
  rename_i c1
  rw [if_neg c1] at hok
  split
  ·rename_i c2
   rw [if_pos c2] at hok
   split
   ·rename_i c3;rw [if_pos c3] at hok;exact ⟨hok,h.held,(yl c3).2.2.2.2,h.s1,h.st,h.used,h.aP⟩
   ·exact h
  rename_i c2
  rw [if_neg c2] at hok
  split
  ·rename_i c3
   rw [if_pos c3] at hok
   unfold Dev.dd at hok ⊢
   split
   ·rename_i c4;rw [if_pos c4] at hok;obtain ⟨r1,r2⟩:=rF h.held c4;exact ⟨hok,r1,h.s0,h.s1,h.st,h.used.trans r2.symm,h.aP⟩
   ·exact h
  ·rename_i c3;rw [if_neg c3] at hok;exact ⟨hok,h.held,h.s0,h.s1,h.st,h.used,h.aP⟩
 rename_i c0
 rw [if_neg c0] at hok
 split
 ·rename_i c01
  rw [if_pos c01] at hok
  unfold fK at hok ⊢
  split
  ·exact h
  rename_i p hp
  rw [hp] at hok
  dsimp only at hok
  split
  ·rename_i c1;rw [if_pos c1] at hok;exact ⟨hok,h.held,h.s0,h.s1,h.st,h.used,h.aP⟩
  rename_i c1
  rw [if_neg c1] at hok
  split
  ·rename_i c2
   rw [if_pos c2] at hok
   split
   ·rename_i c3;rw [if_pos c3] at hok;exact ⟨hok,h.held,h.s0,(yl c3).2.2.2.2,h.st,h.used,h.aP⟩
   ·exact h
  rename_i c2
  rw [if_neg c2] at hok
  split
  ·rename_i c3
   rw [if_pos c3] at hok
   unfold Dev.dd at hok ⊢
   split
   ·rename_i c4;rw [if_pos c4] at hok;obtain ⟨r1,r2⟩:=rF h.held c4;exact ⟨hok,r1,h.s0,h.s1,h.st,h.used.trans r2.symm,h.aP⟩
   ·exact h
  ·rename_i c3;rw [if_neg c3] at hok;exact ⟨hok,h.held,h.s0,h.s1,h.st,h.used,h.aP⟩
 ·exact h
theorem AP {s:cC} {a:ch} (h:(ct s a).2=0):(ct s a).1.used.length=s.used.length:=by
 unfold ct at h ⊢
 split at h
 ·rename_i h1;exact absurd h h1
 split at h
 ·cases h
 split at h
 ·cases h
 split at h
 ·cases h
 ·rename_i h1 h2 h3 h4;rw [if_neg h1,if_neg h2,if_neg h3,if_neg h4];exact List.length_set ..
theorem hZ.new {ay:List bI} {au:List bC} {k:Int} {c c':bI} {a:bC} (hh:hZ ay au) (hk:0<=k) (hc:ay[k.toNat]?=some c) (ha:a.aO=k) (h':c'.held=c.held+bQ a):hZ (ay.set k.toNat c') (au++[a]):=by
 intro j z hz
 rw [sc]
 have h1:eB j [a]=if a.aO=j then bQ a else 0:=by simp [eB]
 rw [h1]
 rw [List.getElem?_set] at hz
 split at hz
 ·rename_i e
  split at hz
  ·injection hz with hz;subst hz
   have:=hh _ c hc
   rw [if_pos (by omega),<-e];omega
  ·cases hz
 ·rename_i e
  rw [hh j z hz,if_neg (by omega)];omega
theorem ek.asks {b:Bk} (h:ek b) (d:bx):ek (dy b d).1:=by
 have hok:=h.ok.asks d
 unfold dy at hok ⊢
 split
 ·exact h
 rename_i c0
 rw [if_neg c0] at hok
 split
 ·rename_i cd
  rw [if_pos cd] at hok
  split
  ·exact h
  rename_i c1
  rw [if_neg c1] at hok
  split
  ·exact h
  rename_i c2
  rw [if_neg c2] at hok
  have he:=sl (show hP (ct b.bG ⟨d.n,d.aE,d.sum,b.time⟩).2=0 by omega)
  exact ⟨hok,h.held,h.s0,h.s1,(yZ h.st he).1,(AP he).trans h.used,h.aP⟩
 rename_i cd
 rw [if_neg cd] at hok
 split
 ·exact h
 rename_i c2
 rw [if_neg c2] at hok
 split
 ·exact h
 rename_i c3
 rw [if_neg c3] at hok
 obtain ⟨_,w2,_⟩:=oL (show (dr d.n d.aE d.sum b.time).2=0 by omega)
 split
 ·exact h
 rename_i c hc
 rw [hc] at hok
 dsimp only at hok
 split
 ·exact h
 rename_i c4
 rw [if_neg c4] at hok
 refine ⟨hok,h.held.new (by omega) hc (by rw [w2]) ?_,h.s0,h.s1,h.st,by dsimp only;rw [List.length_set];exact h.used,h.aP⟩
 rcases rn (show dZ c d.sum b.time=((dZ c d.sum b.time).1,(dZ c d.sum b.time).2) from rfl) with ⟨h5,_⟩|⟨h5,h6,h7,h8,h9,h10,h11,l,h12,h13⟩
 ·omega
 ·rw [h13,w2];simp [bQ]
theorem vb:∀ (l:List ch) (cs:List bI) (xs:List bC),(fX l cs xs).2.2=0->hZ cs xs->(∀ a∈l,0<=a.aO/\a.aO < cs.length)->hZ (fX l cs xs).1 (fX l cs xs).2.1/\(fX l cs xs).1.length=cs.length
 |[],cs,xs,_,h,_=>⟨h,rfl⟩
 |x::l,cs,xs,hz,h,hl=>by
  unfold fX at hz ⊢
  split at hz
  ·rename_i h1;exact absurd hz h1
  rename_i h1
  rw [if_neg h1]
  have hx:=hl x List.mem_cons_self
  cases hc:cs[x.aO.toNat]? with
  |none=>have:=List.getElem?_eq_none_iff.1 hc;omega
  |some c=>
   rw [hc] at hz
   dsimp only at hz ⊢
   split at hz
   ·rename_i h2;exact absurd hz h2
   rename_i h2
   rw [if_neg h2]
   obtain ⟨_,w2,_⟩:=oL (show (dr x.aO x.aE x.sum x.time).2=0 by omega)
   obtain ⟨_,f2,_⟩:=oW (show (fa c x.sum).2=0 by omega)
   have:=vb l _ _ hz (h.new hx.1 hc (by rw [w2]) (by rw [f2,w2];simp [bQ])) (fun a ha=>by rw [List.length_set];exact hl a (List.mem_cons_of_mem _ ha))
   rw [List.length_set] at this
   exact this
theorem ek.EG {b:Bk} (h:ek b):ek (ir b).1:=by
 unfold ir
 split
 ·exact h
 split
 ·exact h
 split
 ·exact h
 rename_i c1 c2 c3
 have h0:(cU b.bG).2.2=0:=by omega
 obtain ⟨r1,r2,r3⟩:=rk h0
 have hu:=h.ok.BI h0
 have hz:(fX (cU b.bG).2.1 b.ay b.au).2.2=0:=by omega
 obtain ⟨u1,u2⟩:=vb _ _ _ hz h.held (fun a ha=>by rw [r3] at ha;have:=h.ok.jR a ha;omega)
 have hp:=ib h.st
 refine ek.late ⟨hu,u1,h.s0,h.s1,?_,?_,h.aP⟩
 ·dsimp only;rw [r2]
  have hc:0<=b.bG.cap/\b.bG.cap<=1000000:=by simpa [gS] using hp.2.2.1
  exact tY _ _ hp.1 hc.1 hc.2
 ·dsimp only;rw [r2,u2];simp [h.used]
theorem ek.mb {b:Bk} (h:ek b) (d:bx):ek (dh b d).1:=by
 have hok:=h.ok.mb d
 unfold dh at hok ⊢
 split
 ·exact h
 rename_i cd
 rw [if_neg cd] at hok
 split
 ·exact h
 rename_i c1
 rw [if_neg c1] at hok
 split
 ·exact h
 rename_i cz ho
 rw [ho] at hok
 dsimp only at hok
 split
 ·exact h
 rename_i c2
 rw [if_neg c2] at hok
 split
 ·exact h
 rename_i c3
 rw [if_neg c3] at hok
 have hmv:ck cz d.move d.sum=((ck cz d.move d.sum).1,0):=Prod.ext rfl (by dsimp only;omega)
 generalize (ck cz d.move d.sum).1=a at *
 obtain ⟨_,hwa,hcard,hshop,hk1,hk2,hn1,hn2⟩:=kQ hmv
 rcases qS hmv with ⟨h4,_⟩|⟨_,hw,_,_,hm⟩
 ·exact absurd rfl h4
 have hp:=h.ok.perm cz (List.mem_of_getElem? ho)
 have hra:=eZ hwa
 have hset:∀ j:Nat,eB j (b.au.set d.n.toNat a)=eB j b.au+if j=a.aO.toNat then bQ a - bQ cz else 0:=fun j=>by
  rw [nC _ _ ho,hcard]
  by_cases e:cz.aO=(j:Int)
  ·rw [if_pos e,if_pos e,if_pos (by omega)];omega
  ·rw [if_neg e,if_neg e,if_neg (by omega)];omega
 have hsame:bQ a=bQ cz->∀ j:Nat,eB j (b.au.set d.n.toNat a)=eB j b.au:=fun e j=>by rw [hset j];split<;>omega
 have hh:d.move=5\/d.move=6\/d.move=7\/d.move=8->bQ a=bQ cz:=fun e=>by
  cases hm with
  |vB _ _=>rfl
  |tg _ _=>rfl
  |td _ _=>rfl
  |tc _ _=>rfl
  |more h _ _=>omega
  |take h _ _=>omega
  |less h _ _=>omega
 unfold nK Dev.dd at hok ⊢
 split
 rotate_left
 ·exact h
 rename_i h0
 rw [if_pos h0] at hok
 obtain ⟨e0,hl0,hnote⟩:=rW h0
 have key:hZ (ec b a cz d).1 (b.au.set d.n.toNat a)/\(cP (ec b a cz d).2.2.2.1).err=0/\(cP (ec b a cz d).2.2.2.2.1).err=0/\(ec b a cz d).1.length=b.ay.length:=by
  unfold ec at e0 ⊢
  split at e0
  ·rename_i hk;rw [if_pos hk];exact ⟨h.held.shift e0 hset,h.s0,h.s1,fv _ _ _ _ _⟩
  rename_i k1
  rw [if_neg k1]
  split at e0
  ·rename_i hk;rw [if_pos hk]
   obtain ⟨e1,e2,e3⟩:=nn e0
   obtain ⟨_,p2,p3⟩:=vD e2
   exact ⟨h.held.shift (kd e1).1 hset,by dsimp only;rw [e3,p3];exact p2,h.s1,fv _ _ _ _ _⟩
  rename_i k2
  rw [if_neg k2]
  split at e0
  ·rename_i hk;rw [if_pos hk]
   obtain ⟨e1,e2,e3⟩:=nn e0
   obtain ⟨_,p2,p3⟩:=vD e2
   exact ⟨fun j c hc=>by rw [hsame (hh (.inl hk)) j];exact h.held j c hc,h.s0,by dsimp only;rw [e3,p3];exact p2,rfl⟩
  rename_i k3
  rw [if_neg k3]
  split at e0
  ·rename_i hk;rw [if_pos hk]
   exact ⟨h.held.shift (kd e0).1 fun j=>by rw [hsame (hh (.inr (.inl hk))) j];split<;>omega,h.s0,h.s1,fv _ _ _ _ _⟩
  rename_i k4
  rw [if_neg k4]
  split at e0
  ·rename_i hk;rw [if_pos hk]
   obtain ⟨e1,e2,e3⟩:=nn e0
   obtain ⟨_,p2,p3⟩:=vD e2
   exact ⟨fun j c hc=>by rw [hsame (hh (.inr (.inr (.inl hk)))) j];exact h.held j c hc,by dsimp only;rw [e3,p3];exact p2,h.s1,rfl⟩
  rename_i k5
  rw [if_neg k5]
  split at e0
  ·rename_i hk;rw [if_pos hk]
   exact ⟨h.held.shift (kd e0).1 fun j=>by rw [hsame (hh (.inr (.inr (.inr hk)))) j];split<;>omega,h.s0,h.s1,fv _ _ _ _ _⟩
  ·omega
 refine ⟨hok,key.1,key.2.1,key.2.2.1,h.st,h.used.trans key.2.2.2.symm,fun x hx=>?_⟩
 dsimp only at hx
 rw [hnote] at hx
 rcases List.mem_append.1 hx with hx|hx
 ·exact h.aP x hx
 ·obtain rfl:=List.mem_singleton.1 hx
  have hlen:=h.ok.au
  constructor
  ·unfold mM;dsimp only;omega
  ·unfold nO;dsimp only;omega
theorem ek.CU {b:Bk} (h:ek b) (y:List (List Int)) (d:bx):ek (dk b y d).1:=by
 unfold dk
 split
 ·exact h.load d
 split
 ·exact h.asks d
 split
 ·exact h.mb d
 split
 ·exact h.cQ d
 split
 ·exact h.send d
 split
 ·exact h.me d
 split
 ·split
  ·exact h
  ·exact ⟨⟨h.ok.time,h.ok.ay,h.ok.due,h.ok.au,h.ok.aP,h.ok.w0,h.ok.w1,h.ok.perm,h.ok.jR,h.ok.k0,h.ok.k1,h.ok.right,h.ok.l0,h.ok.l1,h.ok.p0,h.ok.p1,h.ok.n0,h.ok.n1,fun h=>by cases h⟩,h.held,h.s0,h.s1,h.st,h.used,h.aP⟩
 split
 ·exact h.EG
 split
 ·refine ⟨h.ok.qN (mu (y:=y) h.ok.aP).1,h.held,h.s0,h.s1,h.st,h.used,?_⟩
  unfold fZ
  split
  ·exact h.aP
  ·exact fun x hx=>by cases hx
 split
 ·exact h.vG d
 ·exact h
end
section
structure HL (n:Nat) (au:List bC) (hl:List Int):Prop where
 len:hl.length=n
 at_:∀ k:Nat,k < n->hl[k]?=some (eB k au)
theorem HL.start (n:Nat):HL n [] (List.replicate n 0):=⟨List.length_replicate,fun k hk=>by rw [List.getElem?_replicate,if_pos hk];rfl⟩
theorem HL.step {n:Nat} {u:List bC} {hl:List Int} {a:bC} {x v:Int} (h:HL n u hl) (ha:0<=a.aO/\a.aO < n) (hx:hl[a.aO.toNat]?=some x) (hv:v=x+bQ a):HL n (u++[a]) (hl.set a.aO.toNat v):=by
 refine ⟨(List.length_set ..).trans h.len,fun k hk=>?_⟩
 rw [sc]
 have h1:eB k [a]=if a.aO=k then bQ a else 0:=by simp [eB]
 rw [h1,List.getElem?_set]
 have h2:=h.at_ k hk
 split
 ·rename_i e
  rw [e] at hx
  rw [hx] at h2
  injection h2 with h2
  rw [if_pos (by rw [h.len];omega),if_pos (by omega),hv,h2]
 ·rename_i e
  rw [if_neg (by omega),h2];simp
theorem vW (k:Int):∀ {l:List bC},(∀ a∈l,bL a=0)->0<=eB k l/\eB k l<=1000000 * l.length
 |[],_=>by simp [eB]
 |a::l,h=>by
  have:=vW k (l:=l) fun x hx=>h x (List.mem_cons_of_mem _ hx)
  have h2:=oT (h a List.mem_cons_self)
  simp only [eB,List.length_cons]
  split<;>omega
theorem HL.b {n:Nat} {u:List bC} {hl:List Int} {k:Nat} {x:Int} (h:HL n u hl) (hx:hl[k]?=some x) (hu:∀ a∈u,bL a=0) (hl':u.length<=30):0<=x/\x<=30000000:=by
 have hk:=(List.getElem?_eq_some_iff.1 hx).1
 have h2:=h.at_ k (by rw [<-h.len];exact hk)
 rw [hx] at h2;injection h2 with h2
 have:=vW k hu
 omega
end
theorem nH {b c:Bk} {e:Int} (h:(dd b c e).2.err≠0):(dd b c e).1=b:=by
 unfold dd at *
 split
 ·rename_i he;rw [if_pos he] at h;exact absurd rfl h
 ·rfl
theorem Co {b:Bk} {d:bx} (h:(fc b d).2.err≠0):(fc b d).1=b:=by
 unfold fc at *
 split
 ·rfl
 ·rename_i h1;rw [if_neg h1] at h
  split
  ·rfl
  ·rename_i h2;rw [if_neg h2] at h;exact nH h
theorem Ee {b:Bk} {d:bx} (h:(fT b d).2.err≠0):(fT b d).1=b:=by
 unfold fT at *
 split
 ·rfl
 ·rename_i h1;rw [if_neg h1] at h
  split
  ·rfl
  ·rename_i h2;rw [if_neg h2] at h;exact nH h
theorem BM {b:Bk} {d:bx} (h:(eF b d).2.err≠0):(eF b d).1=b:=by
 unfold eF at *
 split
 ·rfl
 ·rename_i h1;rw [if_neg h1] at h;exact absurd rfl h
theorem EB {b:Bk} {d:bx} (h:(dy b d).2.err≠0):(dy b d).1=b:=by
 revert h
 unfold dy
 (repeat' split)<;>intro h<;>first|rfl|exact absurd rfl h
theorem zw {b:Bk} {d:bx} (h:(dh b d).2.err≠0):(dh b d).1=b:=by
 revert h
 unfold dh
 (repeat' split)<;>intro h<;>first|rfl|exact nH h
theorem EH {b:Bk} (h:(ir b).2.err≠0):(ir b).1=b:=by
 revert h
 unfold ir
 (repeat' split)<;>intro h<;>first|rfl|exact absurd rfl h
theorem zy {b:Bk} {d:bx} (h:(cj b d).2.err≠0):(cj b d).1=b:=by
 revert h
 unfold cj fL fK
 (repeat' split)<;>intro h<;>first|rfl|exact absurd rfl h|exact nH h
theorem BP {b:Bk} {d:bx} (h:(ei b.s0 b.s1 b.n0 b.n1 b.w0 b.w1 d).2.2.err≠0):(ei b.s0 b.s1 b.n0 b.n1 b.w0 b.w1 d).1=b.w0/\(ei b.s0 b.s1 b.n0 b.n1 b.w0 b.w1 d).2.1=b.w1:=by
 revert h
 unfold ei jz
 (repeat' split)<;>intro h<;>first|exact ⟨rfl,rfl⟩|exact absurd rfl h
theorem Ch {t:List ah} {y:List (List Int)} (h:(fZ t y).2.2.err≠0):(fZ t y).1=t/\(fZ t y).2.1=y:=by
 revert h
 unfold fZ
 split<;>intro h
 ·exact ⟨rfl,rfl⟩
 ·exact absurd rfl h
theorem Bc {b:Bk} {y:List (List Int)} {d:bx} (h:(dk b y d).2.2.err≠0):(dk b y d).1=b/\(dk b y d).2.1=y:=by
 revert h
 unfold dk
 split
 ·exact fun h=>⟨Co h,rfl⟩
 split
 ·exact fun h=>⟨EB h,rfl⟩
 split
 ·exact fun h=>⟨zw h,rfl⟩
 split
 ·exact fun h=>⟨BM h,rfl⟩
 split
 ·intro h
  obtain ⟨h1,h2⟩:=BP h
  refine ⟨?_,rfl⟩
  dsimp only
  rw [h1,h2]
 split
 ·exact fun h=>⟨zy h,rfl⟩
 split
 ·split
  ·exact fun _=>⟨rfl,rfl⟩
  ·exact fun h=>absurd rfl h
 split
 ·exact fun h=>⟨EH h,rfl⟩
 split
 ·intro h
  obtain ⟨h1,h2⟩:=Ch h
  refine ⟨?_,h2⟩
  dsimp only
  rw [h1]
 split
 ·exact fun h=>⟨Ee h,rfl⟩
 ·exact fun _=>⟨rfl,rfl⟩
theorem oG:∀ (l:List bx) (b:Bk) (y:List (List Int)) (told:List (Int×Answer)) (cl:Nat) (out:List Answer),(jB l b y told cl out).2.2.length=out.length+l.length
 |[],_,_,_,_,_=>rfl
 |d::l,b,y,told,cl,out=>by
  unfold jB
  rw [oG l];simp;omega
def du:List bx->Bk->List (List Int)->List (Int×Answer)->Nat->List Answer->Bk×List (List Int)×List (Int×Answer)×Nat×List Answer
 |[],b,y,told,cl,out=>(b,y,told,cl,out)
 |d::l,b,y,told,cl,out=>du l (dG b y told cl d).1 (dG b y told cl d).2.1 (dG b y told cl d).2.2.1 (dG b y told cl d).2.2.2.1 (out++[(dG b y told cl d).2.2.2.2])
theorem pG:∀ (l:List bx) (b:Bk) (y:List (List Int)) (told:List (Int×Answer)) (cl:Nat) (out:List Answer),jB l b y told cl out=((du l b y told cl out).1,(du l b y told cl out).2.1,(du l b y told cl out).2.2.2.2)
 |[],_,_,_,_,_=>rfl
 |d::l,b,y,told,cl,out=>by
  unfold jB du
  exact pG l _ _ _ _ _
theorem oF:∀ (l m:List bx) (b:Bk) (y:List (List Int)) (told:List (Int×Answer)) (cl:Nat) (out:List Answer),du (l++m) b y told cl out=du m (du l b y told cl out).1 (du l b y told cl out).2.1 (du l b y told cl out).2.2.1 (du l b y told cl out).2.2.2.1 (du l b y told cl out).2.2.2.2
 |[],_,_,_,_,_,_=>rfl
 |d::l,m,b,y,told,cl,out=>by
  simp only [List.cons_append,du]
  exact oF l m _ _ _ _ _
theorem vF {s:Setup} {l:List bx} {b:Bk} {y:List (List Int)} {o:List Answer} {f:cW} (hr:hO s l=(b,y,o,f)) (hf:f.err=0):o.length=l.length/\l.length<=150:=by
 unfold hO at hr
 by_cases hw:(er s).err≠0
 ·rw [if_pos hw] at hr
  simp only [Prod.mk.injEq] at hr
  rw [<-hr.2.2.2] at hf;exact absurd hf hw
 ·rw [if_neg hw] at hr
  by_cases hl:l.length > 150
  ·rw [if_pos hl] at hr
   simp only [Prod.mk.injEq] at hr
   rw [<-hr.2.2.2] at hf;cases hf
  ·rw [if_neg hl] at hr
   simp only [Prod.mk.injEq] at hr
   exact ⟨by rw [<-hr.2.2.1,oG];simp,by omega⟩
theorem qK (l:List (Int×Answer)) (a b:Int) (v:Answer):ft (lq l a v) b=if a=b then some v else ft l b:=by
 induction l with
 |nil=>simp [lq,ft]
 |cons x l ih=>
  obtain ⟨k,u⟩:=x
  unfold lq
  by_cases hk:k=a
  ·rw [if_pos hk];unfold ft;subst hk
   split<;>rfl
  ·rw [if_neg hk]
   unfold ft
   rw [ih]
   by_cases hb:k=b
   ·rw [if_pos hb,if_pos hb,if_neg (fun e=>hk (hb.trans e.symm))]
   ·rw [if_neg hb,if_neg hb]
theorem Ai {b:Bk} {y:List (List Int)} {told:List (Int×Answer)} {cl:Nat} {d:bx} (hd:d.id≠0):ft (dG b y told cl d).2.2.1 d.id=some (dG b y told cl d).2.2.2.2/\∀ j,j≠d.id->ft (dG b y told cl d).2.2.1 j=ft told j:=by
 unfold dG
 split
 ·rename_i h
  refine ⟨?_,fun j _=>rfl⟩
  dsimp only
  cases hg:ft told d.id with
  |none=>rw [hg] at h;cases h.1
  |some v=>rfl
 ·exact ⟨by dsimp only;rw [qK,if_pos rfl],fun j hj=>by dsimp only;rw [qK,if_neg fun e=>hj e.symm]⟩
theorem yO {b:Bk} {y:List (List Int)} {told:List (Int×Answer)} {cl:Nat} {d:bx} {v:Answer} (hd:d.id≠0) (h:ft told d.id=some v):dG b y told cl d=(b,y,told,cl,v):=by
 unfold dG
 rw [if_pos ⟨by rw [h];rfl,hd⟩,h];rfl
structure Gv (m:List bx) (s:Bk×List (List Int)×List (Int×Answer)×Nat×List Answer) (all:List bx) (r:Bk×List (List Int)×List (Int×Answer)×Nat×List Answer) (n:Nat):Prop where
 b:r.1=s.1
 y:r.2.1=s.2.1
 t:r.2.2.1=s.2.2.1
 c:r.2.2.2.1=s.2.2.2.1
 ls:s.2.2.2.2.length=n
 lr:r.2.2.2.2.length=all.length
 told:∀ (k:Nat) (v:Answer),s.2.2.2.2[k]?=some v->ft s.2.2.1 ((k:Int)+1)=some v
 same:∀ (i:Nat) (d:bx),all[i]?=some d->∃ k:Nat,d.id=(k:Int)+1/\k < n/\r.2.2.2.2[i]?=s.2.2.2.2[k]?
theorem Gv.new {m:List bx} {s r:Bk×List (List Int)×List (Int×Answer)×Nat×List Answer} {all:List bx} {n:Nat} (H:Gv m s all r n) {d:bx} (hd:d.id=(n:Int)+1):
  Gv m (du [d] s.1 s.2.1 s.2.2.1 s.2.2.2.1 s.2.2.2.2) (all++[d]) (du [d] r.1 r.2.1 r.2.2.1 r.2.2.2.1 r.2.2.2.2) (n+1):=by
 rw [H.b,H.y,H.t,H.c]
 obtain ⟨ht,hj⟩:=Ai (b:=s.1) (y:=s.2.1) (told:=s.2.2.1) (cl:=s.2.2.2.1) (d:=d) (by omega)
 unfold du du
 refine ⟨rfl,rfl,rfl,rfl,by simp [H.ls],by simp [H.lr],fun k v hv=>?_,fun i e he=>?_⟩
 ·dsimp only at hv ⊢
  rcases Nat.lt_or_ge k n with h|h
  ·rw [List.getElem?_append_left (by rw [H.ls];exact h)] at hv
   rw [hj _ (by rw [hd];omega)]
   exact H.told k v hv
  ·have hk:k=n:=by have:=(List.getElem?_eq_some_iff.1 hv).1;simp [H.ls] at this;omega
   subst hk
   rw [<-hd,ht]
   rw [List.getElem?_append_right (by rw [H.ls];exact Nat.le_refl _),H.ls] at hv
   simpa using hv
 ·dsimp only
  rcases Nat.lt_or_ge i all.length with h|h
  ·rw [List.getElem?_append_left h] at he
   obtain ⟨k,h1,h2,h3⟩:=H.same i e he
   refine ⟨k,h1,by omega,?_⟩
   rw [List.getElem?_append_left (by rw [H.lr];exact h),h3,List.getElem?_append_left (by rw [H.ls];exact h2)]
  ·have hi:i=all.length:=by have:=(List.getElem?_eq_some_iff.1 he).1;simp at this;omega
   subst hi
   simp at he;subst he
   refine ⟨n,hd,by omega,?_⟩
   rw [List.getElem?_append_right (by rw [H.lr];exact Nat.le_refl _),H.lr,List.getElem?_append_right (by rw [H.ls];exact Nat.le_refl _),H.ls];simp
def dx (u v:List bC):Prop:=∀ (n:Nat) (a:bC),u[n]?=some a->∃ a',v[n]?=some a'/\a'.aE=a.aE
theorem dx.refl (u:List bC):dx u u:=fun _ a h=>⟨a,h,rfl⟩
theorem dx.trans {u v w:List bC} (h:dx u v) (h':dx v w):dx u w:=fun n a ha=>by
 obtain ⟨a1,h1,h2⟩:=h n a ha
 obtain ⟨a2,h3,h4⟩:=h' n a1 h1
 exact ⟨a2,h3,h4.trans h2⟩
theorem dx.app (u v:List bC):dx u (u++v):=fun n a h=>⟨a,by rw [List.getElem?_append_left (List.getElem?_eq_some_iff.1 h).1];exact h,rfl⟩
theorem dx.set {u:List bC} {k:Nat} {a b:bC} (ha:u[k]?=some a) (hs:b.aE=a.aE):dx u (u.set k b):=fun n x hx=>by
 rw [List.getElem?_set]
 by_cases e:k=n
 ·subst e
  rw [ha] at hx;injection hx with hx
  rw [if_pos rfl,if_pos (List.getElem?_eq_some_iff.1 ha).1]
  exact ⟨b,rfl,by rw [hs,hx]⟩
 ·rw [if_neg e];exact ⟨x,hx,rfl⟩
theorem qm {time:Int}:∀ (l:List bC) (i:Nat) (ay:List bI) (au:List bC) (e:Int),au.drop i=l->dx au (fG time l i ay au e).2.1
 |[],_,_,au,_,_=>dx.refl au
 |a::l,i,ay,au,e,hd=>by
  unfold fG
  have hat:au[i]?=some a:=by
   have:(au.drop i)[0]?=some a:=by rw [hd];rfl
   rwa [List.getElem?_drop,Nat.add_zero] at this
  have hilt:=(List.getElem?_eq_some_iff.1 hat).1
  refine (dx.set (b:=eh a time) hat rfl).trans (qm l (i+1) _ _ _ ?_)
  rw [List.drop_set_of_lt (by omega)]
  have:au.drop (i+1)=(au.drop i).drop 1:=by rw [List.drop_drop]
  rw [this,hd];rfl
theorem qn (b:Bk):(gD b).aP=b.aP/\dx b.au (gD b).au:=by
 unfold gD
 split
 ·exact ⟨rfl,qm _ _ _ _ _ rfl⟩
 ·exact ⟨rfl,dx.refl _⟩
theorem tE:∀ (l:List ch) (cs:List bI) (xs:List bC),dx xs (fX l cs xs).2.1
 |[],_,xs=>dx.refl xs
 |x::l,cs,xs=>by
  unfold fX
  split
  ·exact dx.refl _
  split
  ·exact dx.refl _
  split
  ·exact dx.refl _
  ·exact (dx.app _ _).trans (tE l _ _)
theorem zh (b c:Bk) (e:Int):(dd b c e).1=b\/(dd b c e).1=c:=by
 unfold dd;split
 ·exact .inr rfl
 ·exact .inl rfl
def Still (b c:Bk):Prop:=c.aP=b.aP/\dx b.au c.au
theorem Still.refl (b:Bk):Still b b:=⟨rfl,dx.refl _⟩
theorem Still.of {b c:Bk} (h1:c.aP=b.aP) (h2:c.au=b.au):Still b c:=⟨h1,h2▸dx.refl _⟩
theorem Still.dd {b c:Bk} {e:Int} (h1:c.aP=b.aP) (h2:c.au=b.au):Still b (dd b c e).1:=by
 rcases zh b c e with h|h
 ·rw [h];exact Still.refl b
 ·rw [h];exact Still.of h1 h2
theorem yB (b:Bk) (d:bx):Still b (fc b d).1:=by
 unfold fc;(repeat' split)<;>first|exact Still.refl b|exact Still.dd rfl rfl
theorem zS (b:Bk) (d:bx):Still b (fT b d).1:=by
 unfold fT;(repeat' split)<;>first|exact Still.refl b|exact Still.dd rfl rfl
theorem yA (b:Bk) (d:bx):Still b (eF b d).1:=by
 unfold eF
 split
 ·exact Still.refl b
 dsimp only
 split
 ·exact Still.of rfl rfl
 ·exact qn {b with time:=b.time+d.sum}
theorem BN (b:Bk):Still b (ir b).1:=by
 unfold ir
 split
 ·exact Still.refl b
 split
 ·exact Still.refl b
 split
 ·exact Still.refl b
 ·obtain ⟨h1,h2⟩:=qn {b with ay:=(fX (cU b.bG).2.1 b.ay b.au).1,au:=(fX (cU b.bG).2.1 b.ay b.au).2.1,bG:=(cU b.bG).1,down:=false}
  exact ⟨h1,(tE _ _ _).trans h2⟩
theorem vj (b:Bk) (d:bx):Still b (cj b d).1:=by
 unfold cj fL fK;(repeat' split)<;>first|exact Still.refl b|exact Still.of rfl rfl|exact Still.dd rfl rfl
theorem zT (b:Bk) (d:bx):Still b (dy b d).1:=by
 unfold dy;(repeat' split)<;>first|exact Still.refl b|exact Still.of rfl rfl|exact ⟨rfl,dx.app _ _⟩
theorem wO {b:Bk} {d:bx} (h:(dh b d).2.err=0):dx b.au (dh b d).1.au/\∃ a,0<=d.n/\b.au[d.n.toNat]?=some a/\(dh b d).1.aP=b.aP++[⟨a.aE,d.n,d.move,d.sum⟩]:=by
 unfold dh at h ⊢
 split at h
 ·cases h
 rename_i cd
 rw [if_neg cd]
 split at h
 ·cases h
 rename_i c1
 rw [if_neg c1]
 cases ho:b.au[d.n.toNat]? with
 |none=>have:=List.getElem?_eq_none_iff.1 ho;omega
 |some cz=>
  rw [ho] at h
  dsimp only at h ⊢
  split at h
  ·rename_i c2;exact absurd h c2
  rename_i c2
  rw [if_neg c2]
  split at h
  ·cases h
  rename_i c3
  rw [if_neg c3]
  have hmv:ck cz d.move d.sum=((ck cz d.move d.sum).1,0):=Prod.ext rfl (by dsimp only;omega)
  generalize (ck cz d.move d.sum).1=a at *
  obtain ⟨_,hwa,hcard,hshop,_⟩:=kQ hmv
  unfold nK Dev.dd at h ⊢
  split at h
  rotate_left
  ·rename_i h0;exact absurd h h0
  rename_i h0
  rw [if_pos h0]
  obtain ⟨e0,hl0,hnote⟩:=rW h0
  exact ⟨dx.set ho hshop,cz,by omega,rfl,by dsimp only;rw [hnote,hshop]⟩
theorem wx (b:Bk) (y:List (List Int)) (d:bx) (hz:(dk b y d).2.2.err=0):dx b.au (dk b y d).1.au/\
  ((d.kind=3/\(dk b y d).2.1=y/\∃ a,0<=d.n/\b.au[d.n.toNat]?=some a/\(dk b y d).1.aP=b.aP++[⟨a.aE,d.n,d.move,d.sum⟩])\/
   (d.kind=10/\(fu b.aP).2.err=0/\(dk b y d).2.1=y++[(fu b.aP).1]/\(dk b y d).1.aP=[])\/
   (¬d.kind=3/\¬d.kind=10/\(dk b y d).2.1=y/\(dk b y d).1.aP=b.aP)):=by
 by_cases k1:d.kind=1
 ·have e:dk b y d=((fc b d).1,y,(fc b d).2):=by unfold dk;rw [if_pos k1]
  rw [e];have h:=yB b d;exact ⟨h.2,.inr (.inr ⟨by omega,by omega,rfl,h.1⟩)⟩
 by_cases k2:d.kind=2
 ·have e:dk b y d=((dy b d).1,y,(dy b d).2):=by unfold dk;rw [if_neg k1,if_pos k2]
  rw [e];have h:=zT b d;exact ⟨h.2,.inr (.inr ⟨by omega,by omega,rfl,h.1⟩)⟩
 by_cases k3:d.kind=3
 ·have e:dk b y d=((dh b d).1,y,(dh b d).2):=by unfold dk;rw [if_neg k1,if_neg k2,if_pos k3]
  rw [e] at hz ⊢;obtain ⟨h1,h2⟩:=wO (b:=b) (d:=d) hz;exact ⟨h1,.inl ⟨k3,rfl,h2⟩⟩
 by_cases k4:d.kind=4
 ·have e:dk b y d=((eF b d).1,y,(eF b d).2):=by unfold dk;rw [if_neg k1,if_neg k2,if_neg k3,if_pos k4]
  rw [e];have h:=yA b d;exact ⟨h.2,.inr (.inr ⟨by omega,by omega,rfl,h.1⟩)⟩
 by_cases k5:d.kind=5
 ·have e:dk b y d=({b with w0:=(ei b.s0 b.s1 b.n0 b.n1 b.w0 b.w1 d).1,w1:=(ei b.s0 b.s1 b.n0 b.n1 b.w0 b.w1 d).2.1},y,(ei b.s0 b.s1 b.n0 b.n1 b.w0 b.w1 d).2.2):=by unfold dk;rw [if_neg k1,if_neg k2,if_neg k3,if_neg k4,if_pos k5]
  rw [e];exact ⟨dx.refl _,.inr (.inr ⟨by omega,by omega,rfl,rfl⟩)⟩
 by_cases k6:d.kind=6\/d.kind=7
 ·have e:dk b y d=((cj b d).1,y,(cj b d).2):=by unfold dk;rw [if_neg k1,if_neg k2,if_neg k3,if_neg k4,if_neg k5,if_pos k6]
  rw [e];have h:=vj b d;exact ⟨h.2,.inr (.inr ⟨by omega,by omega,rfl,h.1⟩)⟩
 by_cases k8:d.kind=8
 ·have e:dk b y d=if b.down=true then (b,y,⟨8,0⟩) else ({b with down:=true},y,⟨0,0⟩):=by unfold dk;rw [if_neg k1,if_neg k2,if_neg k3,if_neg k4,if_neg k5,if_neg k6,if_pos k8]
  rw [e];split<;>exact ⟨dx.refl _,.inr (.inr ⟨by omega,by omega,rfl,rfl⟩)⟩
 by_cases k9:d.kind=9
 ·have e:dk b y d=((ir b).1,y,(ir b).2):=by unfold dk;rw [if_neg k1,if_neg k2,if_neg k3,if_neg k4,if_neg k5,if_neg k6,if_neg k8,if_pos k9]
  rw [e];have h:=BN b;exact ⟨h.2,.inr (.inr ⟨by omega,by omega,rfl,h.1⟩)⟩
 by_cases k10:d.kind=10
 ·have e:dk b y d=({b with aP:=(fZ b.aP y).1},(fZ b.aP y).2.1,(fZ b.aP y).2.2):=by unfold dk;rw [if_neg k1,if_neg k2,if_neg k3,if_neg k4,if_neg k5,if_neg k6,if_neg k8,if_neg k9,if_pos k10]
  rw [e] at hz ⊢
  refine ⟨dx.refl _,.inr (.inl ⟨k10,?_⟩)⟩
  dsimp only at hz ⊢
  unfold fZ at hz ⊢
  split at hz
  ·rename_i h0;exact absurd hz h0
  ·rename_i h0;rw [if_neg h0];exact ⟨by omega,rfl,rfl⟩
 by_cases oP:d.kind=11
 ·have e:dk b y d=((fT b d).1,y,(fT b d).2):=by unfold dk;rw [if_neg k1,if_neg k2,if_neg k3,if_neg k4,if_neg k5,if_neg k6,if_neg k8,if_neg k9,if_neg k10,if_pos oP]
  rw [e];have h:=zS b d;exact ⟨h.2,.inr (.inr ⟨by omega,by omega,rfl,h.1⟩)⟩
 ·have e:dk b y d=(b,y,⟨1,0⟩):=by unfold dk;rw [if_neg k1,if_neg k2,if_neg k3,if_neg k4,if_neg k5,if_neg k6,if_neg k8,if_neg k9,if_neg k10,if_neg oP]
  rw [e] at hz;cases hz
theorem yg (b:Bk) (y:List (List Int)) (d:bx):dx b.au (dk b y d).1.au/\∃ z,(dk b y d).2.1=y++z:=by
 by_cases hz:(dk b y d).2.2.err=0
 ·obtain ⟨h1,h2⟩:=wx b y d hz
  refine ⟨h1,?_⟩
  rcases h2 with ⟨_,h,_⟩|⟨_,_,h,_⟩|⟨_,_,h,_⟩
  ·exact ⟨[],by rw [h,List.append_nil]⟩
  ·exact ⟨_,h⟩
  ·exact ⟨[],by rw [h,List.append_nil]⟩
 ·obtain ⟨h1,h2⟩:=Bc hz
  rw [h1,h2];exact ⟨dx.refl _,[],by rw [List.append_nil]⟩
theorem Aj (b:Bk) (y:List (List Int)) (told:List (Int×Answer)) (cl:Nat) (d:bx):dx b.au (dG b y told cl d).1.au/\∃ z,(dG b y told cl d).2.1=y++z:=by
 unfold dG
 split
 ·exact ⟨dx.refl _,[],by rw [List.append_nil]⟩
 ·exact yg b y d
theorem rT:∀ (l:List bx) (b:Bk) (y:List (List Int)) (told:List (Int×Answer)) (cl:Nat) (out:List Answer),dx b.au (du l b y told cl out).1.au/\(∃ z,(du l b y told cl out).2.1=y++z)/\∃ z,(du l b y told cl out).2.2.2.2=out++z
 |[],_,y,_,_,out=>⟨dx.refl _,⟨[],(List.append_nil y).symm⟩,[],(List.append_nil out).symm⟩
 |d::l,b,y,told,cl,out=>by
  unfold du
  obtain ⟨h1,z1,h2⟩:=Aj b y told cl d
  obtain ⟨h3,⟨z2,h4⟩,z3,h5⟩:=rT l (dG b y told cl d).1 (dG b y told cl d).2.1 (dG b y told cl d).2.2.1 (dG b y told cl d).2.2.2.1 (out++[(dG b y told cl d).2.2.2.2])
  exact ⟨h1.trans h3,⟨z1++z2,by rw [h4,h2,List.append_assoc]⟩,[(dG b y told cl d).2.2.2.2]++z3,by rw [h5,List.append_assoc]⟩
structure FJ (s:Setup) (l:List bx) (i:Nat) (t:List ah) (k:Int) (hl:List Int):Prop where
 aP:t=(du (l.take i) (dJ s) [] [] 0 []).1.aP
 kn:k=((du (l.take i) (dJ s) [] [] 0 []).2.1.length:Int)
 IE:∀ z,z≠0->(z∈hl↔(ft (du (l.take i) (dJ s) [] [] 0 []).2.2.1 z).isSome=true)
 len:t.length<=i/\k<=i
theorem Cm {hl:List Int} {a z:Int}:z∈ko hl a↔z∈hl\/z=a:=by
 unfold ko
 split
 ·rename_i h;exact ⟨.inl,fun h'=>h'.elim id fun e=>by rw [e];exact h⟩
 ·simp
theorem FJ.start (s:Setup) (l:List bx):FJ s l 0 [] 0 []:=⟨rfl,rfl,fun z _=>⟨fun h=>(by cases h),fun h=>(by cases h)⟩,by simp⟩
theorem tq {n:Int}:∀ k,∀ c∈iu n k,0<=c/\c<=255
 |0,c,h=>by cases h
 |k+1,c,h=>by
  unfold iu at h
  rcases List.mem_cons.1 h with rfl|h
  ·omega
  ·exact tq k c h
theorem Ba {l:List ah} (h:(fu l).2.err=0):∀ c∈(fu l).1,0<=c/\c<=255:=fun c hc=>by
 rw [(mA h).2] at hc
 rcases List.mem_append.1 hc with hc|hc
 ·unfold gV at hc
  rcases List.mem_cons.1 hc with rfl|hc
  ·omega
  ·obtain ⟨y,_,hy⟩:=List.mem_flatMap.1 hc
   unfold jr at hy
   rcases List.mem_append.1 hy with h|h
   ·simp only [List.mem_cons,List.not_mem_nil,or_false] at h
    rcases h with rfl|rfl|rfl<;>omega
   ·exact tq _ c h
 ·exact tq _ c hc
theorem CI {l:List ah} (h:(fu l).2.err=0):(fu l).1.length<=9223372036854775807:=by
 have:=(kV.1 (mA h).1).1
 rw [(mA h).2,List.length_append,jQ,lO,la];omega
theorem fV {s:Setup} {l:List bx} {b:Bk} {y:List (List Int)} {o:List Answer} {f:cW} (hr:hO s l=(b,y,o,f)) (hf:f.err=0) {i:Nat} {d:bx} {x:Answer} (hd:l[i]?=some d) (hx:o[i]?=some x) {t:List ah} {k:Int} {hl:List Int} (J:FJ s l i t k hl):
  (¬d.id=0->d.id∈hl->FJ s l (i+1) t k hl)/\
  (¬(¬d.id=0/\d.id∈hl)->(¬x.err=0->FJ s l (i+1) t k (ko hl d.id))/\
   (x.err=0->(d.kind=3->0<=d.n/\∃ a,b.au[d.n.toNat]?=some a/\FJ s l (i+1) (t++[⟨a.aE,d.n,d.move,d.sum⟩]) k (ko hl d.id))/\
    (d.kind=10->k < (y.length:Int)/\(∃ z,y[k.toNat]?=some z/\gr z=(dF t,0)/\(∀ c∈z,0<=c/\c<=255)/\z.length<=9223372036854775807)/\FJ s l (i+1) [] (k+1) (ko hl d.id))/\
    (¬d.kind=3->¬d.kind=10->FJ s l (i+1) t k (ko hl d.id)))):=by
 have hp:hO s l=((du l (dJ s) [] [] 0 []).1,(du l (dJ s) [] [] 0 []).2.1,(du l (dJ s) [] [] 0 []).2.2.2.2,⟨0,0⟩):=by
  unfold hO at hr ⊢
  by_cases hw:(er s).err≠0
  ·rw [if_pos hw] at hr;simp only [Prod.mk.injEq] at hr;rw [<-hr.2.2.2] at hf;exact absurd hf hw
  ·rw [if_neg hw] at hr ⊢
   by_cases hl:l.length > 150
   ·rw [if_pos hl] at hr;simp only [Prod.mk.injEq] at hr;rw [<-hr.2.2.2] at hf;cases hf
   ·rw [if_neg hl,pG]
 rw [hp] at hr
 simp only [Prod.mk.injEq] at hr
 obtain ⟨rb,ry,ro,_⟩:=hr
 have hsp:l=l.take (i+1)++l.drop (i+1):=(List.take_append_drop _ _).symm
 have hS1:du (l.take (i+1)) (dJ s) [] [] 0 []=du [d] (du (l.take i) (dJ s) [] [] 0 []).1 (du (l.take i) (dJ s) [] [] 0 []).2.1 (du (l.take i) (dJ s) [] [] 0 []).2.2.1 (du (l.take i) (dJ s) [] [] 0 []).2.2.2.1 (du (l.take i) (dJ s) [] [] 0 []).2.2.2.2:=by
  rw [gN hd,oF]
 have hfin:=oF (l.take (i+1)) (l.drop (i+1)) (dJ s) [] [] 0 []
 rw [<-hsp] at hfin
 have hg:=rT (l.drop (i+1)) (du (l.take (i+1)) (dJ s) [] [] 0 []).1 (du (l.take (i+1)) (dJ s) [] [] 0 []).2.1 (du (l.take (i+1)) (dJ s) [] [] 0 []).2.2.1 (du (l.take (i+1)) (dJ s) [] [] 0 []).2.2.2.1 (du (l.take (i+1)) (dJ s) [] [] 0 []).2.2.2.2
 rw [<-hfin,rb,ry,ro] at hg
 obtain ⟨g1,⟨z1,g2⟩,z2,g3⟩:=hg
 have hlen:(du (l.take i) (dJ s) [] [] 0 []).2.2.2.2.length=i:=by
  have:=oG (l.take i) (dJ s) [] [] 0 []
  rw [pG] at this
  have hi:=(List.getElem?_eq_some_iff.1 hd).1
  rw [this,List.length_take];simp;omega
 have J1:=J.aP;have J2:=J.kn;have J3:=J.IE;have J4:=J.len
 have mk:∀ t' k' hl',t'=(du (l.take (i+1)) (dJ s) [] [] 0 []).1.aP->k'=((du (l.take (i+1)) (dJ s) [] [] 0 []).2.1.length:Int)->(∀ z,z≠0->(z∈hl'↔(ft (du (l.take (i+1)) (dJ s) [] [] 0 []).2.2.1 z).isSome=true))->t'.length<=i+1/\k'<=((i+1:Nat):Int)->FJ s l (i+1) t' k' hl':=fun _ _ _ a b c e=>⟨a,b,c,e⟩
 rw [hS1] at mk g1 g2 g3
 clear hS1 hfin hsp hp
 generalize du (l.take i) (dJ s) [] [] 0 []=S at *
 obtain ⟨B,Y,T,C,O⟩:=S
 unfold du du at mk g1 g2 g3
 dsimp only at *
 have hxa:x=(dG B Y T C d).2.2.2.2:=by
  rw [g3,List.append_assoc,List.getElem?_append_right (by omega),hlen,Nat.sub_self] at hx
  simpa using hx.symm
 refine ⟨fun h1 h2=>?_,fun h1=>?_⟩
 ·have h3:=(J3 d.id h1).1 h2
  obtain ⟨v,hv⟩:=Option.isSome_iff_exists.1 h3
  rw [yO h1 hv] at mk
  exact mk t k hl J1 J2 J3 (by omega)
 ·have hno:¬((ft T d.id).isSome=true/\d.id≠0):=fun h=>h1 ⟨h.2,(J3 d.id h.2).2 h.1⟩
  have ho:dG B Y T C d=((dk B Y d).1,(dk B Y d).2.1,lq T d.id (dk B Y d).2.2,if (ft T d.id).isSome then C else C+1,(dk B Y d).2.2):=by
   unfold dG;rw [if_neg hno]
  rw [ho] at mk g1 g2 hxa
  dsimp only at mk g1 g2 hxa
  have hhad:∀ z,z≠0->(z∈ko hl d.id↔(ft (lq T d.id (dk B Y d).2.2) z).isSome=true):=fun z hz=>by
   rw [Cm,qK]
   by_cases e:d.id=z
   ·rw [if_pos e];simp [e]
   ·rw [if_neg e,J3 z hz]
    exact ⟨fun h=>h.elim id fun h=>absurd h.symm e,.inl⟩
  refine ⟨fun hne=>?_,fun he=>?_⟩
  ·obtain ⟨r1,r2⟩:=Bc (b:=B) (y:=Y) (d:=d) (by rw [<-hxa];exact hne)
   rw [r1,r2] at mk
   exact mk t k _ J1 J2 hhad (by omega)
  ·have hz:(dk B Y d).2.2.err=0:=by rw [<-hxa];exact he
   obtain ⟨_,hc⟩:=wx B Y d hz
   refine ⟨fun k3=>?_,fun k10=>?_,fun k3 k10=>?_⟩
   ·rcases hc with ⟨_,h2,a,h3,h4,h5⟩|⟨h,_⟩|⟨h,_⟩
    ·obtain ⟨a0,q0,q3⟩:=(yg B Y d).1 d.n.toNat a h4
     obtain ⟨a1,q1,q2⟩:=g1 d.n.toNat a0 q0
     refine ⟨h3,a1,q1,?_⟩
     rw [h2,h5] at mk
     refine mk _ k _ (by rw [J1,q2,q3]) J2 hhad (by simp;omega)
    ·omega
    ·omega
   ·rcases hc with ⟨h,_⟩|⟨_,h2,h3,h4⟩|⟨_,h,_⟩
    ·omega
    ·rw [h3,h4] at mk
     rw [h3] at g2
     have hk:k.toNat=Y.length:=by omega
     refine ⟨?_,⟨(fu B.aP).1,?_,by rw [xc h2,J1],?_,?_⟩,mk [] (k+1) _ rfl (by rw [J2];simp) hhad (by simp;omega)⟩
     ·rw [g2];simp;omega
     ·rw [g2,hk,List.append_assoc,List.getElem?_append_right (Nat.le_refl _),Nat.sub_self];rfl
     ·exact Ba h2
     ·exact CI h2
    ·omega
   ·rcases hc with ⟨h,_⟩|⟨h,_⟩|⟨_,_,h2,h3⟩
    ·omega
    ·omega
    ·rw [h2,h3] at mk
     exact mk t k _ J1 J2 hhad (by omega)
theorem ki {s:Setup} {l:List bx} {b:Bk} {y:List (List Int)} {o:List Answer} {f:cW} (hr:hO s l=(b,y,o,f)) (hf:f.err=0) {i:Nat} {d:bx} (hd:l[i]?=some d) {t:List ah} {k:Int} {hl:List Int} (J:FJ s l i t k hl) (h1:¬d.id=0) (h2:d.id∈hl):FJ s l (i+1) t k hl:=by
 have hlt:=(List.getElem?_eq_some_iff.1 hd).1
 have hlen:=(vF hr hf).1
 exact (fV hr hf hd (List.getElem?_eq_getElem (show i < o.length by omega)) J).1 h1 h2
theorem qa (l:List ah):fD l l=true:=by unfold fD;simp
theorem AZ {s:Setup} {l:List bx} {b:Bk} {y:List (List Int)} {o:List Answer} {f:cW} (hr:hO s l=(b,y,o,f)) (hf:f.err=0) {t:List ah} {k:Int} {hl:List Int} (J:FJ s l l.length t k hl):k=(y.length:Int)/\t=b.aP:=by
 unfold hO at hr
 by_cases hw:(er s).err≠0
 ·rw [if_pos hw] at hr;simp only [Prod.mk.injEq] at hr;rw [<-hr.2.2.2] at hf;exact absurd hf hw
 ·rw [if_neg hw] at hr
  by_cases hl:l.length > 150
  ·rw [if_pos hl] at hr;simp only [Prod.mk.injEq] at hr;rw [<-hr.2.2.2] at hf;cases hf
  ·rw [if_neg hl,pG] at hr
   simp only [Prod.mk.injEq] at hr
   have h1:=J.aP;have h2:=J.kn
   rw [List.take_of_length_le (Nat.le_refl _)] at h1 h2
   exact ⟨by rw [h2,hr.2.1],by rw [h1,hr.1]⟩
attribute [local go_sem] Oper.semAt_some
def Ht (A1 A2:Nat) (W W':World):Prop:=(∀ v,W.cell? ⟨A1,0,none⟩=some v->W'.cell? ⟨A1,0,none⟩=some v)/\∀ v,W.cell? ⟨A2,0,none⟩=some v->W'.cell? ⟨A2,0,none⟩=some v
theorem Try.Fe:Try.prog.follows .mixedOrders=true:=by kernel_rfl
theorem Bf (n l A1 A2 b off k cap : Nat) (A : Option Addr) (hA : 0 < k → A = some ⟨b, off, none⟩) (hk : k ≤ 255) (hcap : 6 * k ≤ cap) (J Jx : List (Fin k) → World → Prop) (W : World) (hJ : AbidesFrom W.heap.size J)
    (hY : ∀ pre (x : Fin k) W, J pre W → pre.length < k → YieldAt Fence.wide (n - 1) Try.prog l #[.slice (some ⟨b, off + 6 * x.val, none⟩) 6 6] W fun e W' =>
      (e = .returned (.bool true) ∧ J (pre ++ [x]) W' ∧ Ht A1 A2 W W') ∨ (e = .returned (.bool false) ∧ Jx (pre ++ [x]) W'))
    (h1 : W.cell? ⟨A1, 0, none⟩ = some (.slice A (6 * k) cap)) (h2 : W.cell? ⟨A2, 0, none⟩ = some (.int .i64 6)) (h0 : J [] W) :
    CallsIn Fence.wide n Try.prog 58 #[.func (.yield l) #[] #[], .pointer (some ⟨A1, 0, none⟩), .pointer (some ⟨A2, 0, none⟩)] W fun e W' => (∃ v, e = .returned v) ∧
      ((∃ ys : List (Fin k), ys.map Fin.val = List.range k ∧ J ys W') ∨ (∃ pre, True ∧ Jx pre W')) := by
  refine callsIn_of_wp Try.func58 rfl trivial ?_ rfl
  simp only [Try.ntmps58, List.size_toArray, List.length_cons, List.length_nil, Nat.reduceAdd, Nat.reduceSub, Array.replicate_succ, Array.replicate_zero, List.push_toArray, List.append_toArray, List.nil_append, List.cons_append]
  gi_wp2
  gi_loopw [4] (fun i wr => ∃ (j : Nat) (ys : List (Fin k)), j ≤ k ∧ i = .int .i64 (6 * j : Nat) ∧ ys.map Fin.val = List.range j ∧ J ys wr ∧ wr.cell? ⟨A1, 0, none⟩ = some (.slice A (6 * k) cap) ∧ wr.cell? ⟨A2, 0, none⟩ = some (.int .i64 6))
    (fun i _ => 6 * k - (intOf i).toNat)
  case atStart => exact ⟨0, [], Nat.zero_le _, rfl, rfl, h0, h1, h2⟩
  case round =>
    obtain ⟨j, ys, hjk, rfl, hys, hJs, hc1, hc2⟩ := hrel
    by_cases hlt : j < k
    · obtain rfl := hA (by omega)
      have hlen : (ys.length) = j := by have := congrArg List.length hys; simpa using this
      obtain ⟨fn, tmps, assign, body, hy, hR⟩ := hY ys ⟨j, hlt⟩ wr.drew (hJ _ _ _ none hJs ⟨rfl, rfl, rfl, Nat.le_refl _, fun _ _ _ => rfl⟩ (fun r e => by cases e)) (by omega)
      dsimp only at hy
      have hmm := Try.Fe
      gi_wp2
      refine wpIn_wide.2 ?_
      refine wp_region_still_lit hmm (by kernel_rfl) ?_
      repeat still_step
      refine wpStill_step (fun K hK => ?_)
      go_simp
      have e0 : (0 : Int) ≤ 6 * (j : Int) := by omega
      have e1 : (6 * (j : Int)).toNat = 6 * j := by omega
      have e2 : ¬ cap = 6 * j := by omega
      rw [if_pos e0]
      simp only [e1, if_neg e2]
      refine ⟨trivial, hK _ ?_⟩
      clear hK K
      repeat still_step
      have e3 : ¬ (((6 * k - 6 * j : Nat) : Int) < 6) := by omega
      simp only [if_neg e3]
      refine wpStill_nil ?_
      simp only [Exit.then]
      go_at_K
      gi_wp2
      refine ⟨fun h => (by cases h), hR.mono ?_⟩
      rintro e W3 (⟨rfl, hJ3, hk3⟩ | ⟨rfl, hf⟩)
      · have hd1 : W3.cell? ⟨A1, 0, none⟩ = some (.slice (some ⟨b, off, none⟩) (6 * k) cap) := hk3.1 _ hc1
        have hd2 : W3.cell? ⟨A2, 0, none⟩ = some (.int .i64 6) := hk3.2 _ hc2
        gi_wp2
        go_roundw
        case rel => exact ⟨j + 1, ys ++ [⟨j, hlt⟩], by omega, by simp; omega, by rw [List.map_append, hys, List.range_succ]; rfl, hJ3, hd1, hd2⟩
        case measure => simp [intOf]; omega
      · gi_wp2
        refine bodyPost_ret (results_none rfl _ _ _) rfl ?_
        exact ⟨⟨_, rfl⟩, .inr ⟨_, trivial, hf⟩⟩
    · obtain rfl : j = k := by omega
      gi_wp2
      go_end0
      exact ⟨⟨_, rfl⟩, .inl ⟨ys, hys, hJs⟩⟩
theorem xk (n A1 A2 b off k cap:Nat) (A:Option Addr) (hA:0 < k->A=some ⟨b,off,none⟩) (hk:k<=255) (hcap:6 * k<=cap) (w:World) (hA1:A1 < w.heap.size) (hA2:A2 < w.heap.size)
    (h1:w.cell? ⟨A1,0,none⟩=some (.slice A (6 * k) cap)) (h2:w.cell? ⟨A2,0,none⟩=some (.int .i64 6)):
    SeqStopsK Fence.wide n Try.prog 58 #[.pointer (some ⟨A1,0,none⟩),.pointer (some ⟨A2,0,none⟩)] (fun i:Fin k=>#[.slice (some ⟨b,off+6 * i.val,none⟩) 6 6]) (Ht A1 A2) (fun ys=>ys.map Fin.val=List.range k) (fun _=>True) k w:=
  fun l J Jx W hW hJ hJx hY h0=>by
    refine (Bf n l A1 A2 b off k cap A hA hk hcap J Jx W hJ hY ((hW.cell (p:=⟨A1,0,none⟩) hA1).trans h1) ((hW.cell (p:=⟨A2,0,none⟩) hA2).trans h2) h0).mono ?_
    exact fun e W' h=>h
def recC:List Int->ah
  |[s,a,k,x,y,z]=>⟨s,a,k,65536 * x+256 * y+z⟩
  |_=>⟨0,0,0,0⟩
def eM (L:List Int) (i:Nat):List Int:=(L.drop (6 * i)).take 6
theorem mL {L:List Int} {i:Nat} (h:6 * (i+1)<=L.length):(eM L i).length=6:=by
  unfold eM;rw [List.length_take,List.length_drop];omega
theorem qd {L:List Int}:∀ (k:Nat),6 * k<=L.length->fQ (L.take (6 * k))=(List.range k).map fun i=>recC (eM L i)
  |0,_=>rfl
  |k+1,h=>by
    rw [List.range_succ,List.map_append,<-qd k (by omega),show 6 * (k+1)=6 * k+6 by omega,List.take_add,tR k _ _ (by rw [List.length_take];omega)]
    congr 1
    have hl:=mL (L:=L) (i:=k) (by omega)
    unfold eM at hl
    show _=[recC ((L.drop (6 * k)).take 6)]
    generalize (L.drop (6 * k)).take 6=e at hl
    match e,hl with
    |[s,a,k',x,y,z],_=>rfl
def iS (m:List ah) (all:Int):List (Nat×AB):=[(2,.arr 83 4 (m.map fJ)),(1,.box 3 [cI all]),(0,.box 42 [.s 2 0 4 m.length])]
theorem CR {T:Nat->Prop} {w:World} {L:List Int} {b off c s:Nat} (h:bj T w (.r 1 (L.map fE)) (.slice (some ⟨b,off,none⟩) L.length c)) (hs:6 * (s+1)<=L.length):bj T w (.r 1 ((eM L s).map fE)) (.slice (some ⟨b,off+6 * s,none⟩) 6 6):=by
  have hl:=mL hs
  have hlen:((eM L s).map fE).length=6:=by rw [List.length_map,hl]
  have get:∀ i row,((eM L s).map fE)[i]?=some row->(L.map fE)[6 * s+i]?=some row:=fun i row hr=>by
    unfold eM at hr
    rw [List.map_take,List.map_drop,List.getElem?_take] at hr
    split at hr
    ·rwa [List.getElem?_drop] at hr
    ·cases hr
  generalize hR:L.map fE=R at h get
  generalize hn:L.length=n at h
  cases h with
  |nil=>
    have:=congrArg List.length hR
    rw [List.length_map] at this
    simp at this
    omega
  |r _ _ _ _ _ cs hb hT hc hm hK eb hd=>
    have:=bj.r (T:=T) (w:=w) 1 ((eM L s).map fE) b (off+6 * s) 6 (fun i j=>cs (6 * s+i) j) hb hT (by omega) (by omega) (fun i row hr=>hK _ row (get i row hr)) (fun i row j d hr hj=>by
      have:=eb _ row j d (get i row hr) hj
      rwa [show off+((6 * s+i) * 1+j)=off+6 * s+(i * 1+j) by omega] at this) (fun i row j d hr hj=>hd _ row j d (get i row hr) hj)
    rwa [hlen] at this
theorem Inv.GD {W0:World} {F:Nat->Prop} {N:NT} {T0:Nat->Prop} {pin:List (Nat×bM)} {st:aJ} {a:Go.Act} {W:World} (h:Inv W0 F N T0 pin st a W):Inv W0 F N T0 [] st a W:=by
  obtain ⟨σ,T,hT,S,_⟩:=h
  exact ⟨σ,T,hT,S,fun k g h=>by cases h⟩
theorem yL {assign body rest : Code} {id : Nat} (b L : List Int) (k : Nat) (v6 : Int) (hk : k ≤ 255) (hLk : L.length = 6 * k) (hb : ∀ x ∈ L, 0 ≤ x ∧ x ≤ 255) {W0 : World} {T0 : Nat → Prop} (hT0 : ∀ b, T0 b → b < W0.heap.size) {av : AV} {nb : List (Nat × AB)} {a : Go.Act} {w : World}
    (hI : Inv W0 (fun _ => False) (75, []) T0 [] ⟨[(0, aC (cR 1 (b.map fE))), (4, aC (.p 0 0 0 0)), (5, aC (.p 1 0 0 0)), (6, aI v6), (30, aC (.fn 58 [2, 3]))], [(3, .box 3 [cI 6]), (2, .box 86 [cR 1 (L.map fE)]), (1, .box 3 [cI 0]), (0, .box 42 [cN])], 4⟩ a w)
    (hassign : ∀ (l n : Nat) (a : Go.Act) (w : World) (K : Go.Act → World → Prop), K (a.put (some 7) (a.eval (.tmp 31))) w → assign.wpIn (Fence.wide.inRound l) n Try.prog (Exit.then K (fun _ _ _ => False)) a w)
    (hbody : ∀ (l n : Nat) (W : World) (F T : Nat → Prop) (g0 g1 : bM) (m : List ah) (all : Int) (c : List Int), c.length = 6 → (∀ x ∈ c, 0 ≤ x ∧ x ≤ 255) → m.length ≤ 254 → (0 ≤ all ∧ all ≤ 16777215 * (m.length : Int)) →
      iJ Try.prog l n W F (75, []) T [(0, g0), (1, g1)] (fun e st => e = .normal ∧ aH [(0, g0), (1, g1)] st ⟨[], iS (m ++ [recC c]) (all + (recC c).sum), 3⟩) body ⟨[(7, aC (cR 1 (c.map fE))), (4, aC (.p 0 0 0 0)), (5, aC (.p 1 0 0 0))], iS m all, 3⟩)
    (hrest : ∀ (W : World) (F : Nat → Prop) (ds : List Deferred) (T : Nat → Prop), AC Try.prog W F (75, ds) T [] (iX Try.prog Try.f35 [] av nb) rest ⟨[(0, aC (cR 1 (b.map fE))), (4, aC (.p 0 0 0 0)), (5, aC (.p 1 0 0 0)), (6, aI v6)], iS (fQ L) (eG (fQ L)), 3⟩) :
    (Code.block id (Code.rangeFunc (.tmp 30) #[31] assign body)).wp Try.prog (Exit.then (rest.wp Try.prog (bodyPostM Fence.wide 0 Try.prog Try.f35 (rS W0 T0 av nb))) (bodyPostM Fence.wide 0 Try.prog Try.f35 (rS W0 T0 av nb))) a w := by
  obtain ⟨σ, T, hT, S, _⟩ := hI
  obtain ⟨gl, vl, e0, tl, hl0, cl0⟩ := S.core.heap 0 _ rfl
  obtain ⟨ga, va, e1, ta, ha0, ca0⟩ := S.core.heap 1 _ rfl
  obtain ⟨g1, v1, e2, t1, h10, c1⟩ := S.core.heap 2 _ rfl
  obtain ⟨g2, v2, e3, t2, h20, c2⟩ := S.core.heap 3 _ rfl
  have hne : ∀ k k' x y gx gy, look (⟨[(0, aC (cR 1 (b.map fE))), (4, aC (.p 0 0 0 0)), (5, aC (.p 1 0 0 0)), (6, aI v6), (30, aC (.fn 58 [2, 3]))], [(3, .box 3 [cI 6]), (2, .box 86 [cR 1 (L.map fE)]), (1, .box 3 [cI 0]), (0, .box 42 [cN])], 4⟩ : aJ).h k = some x → look (⟨[(0, aC (cR 1 (b.map fE))), (4, aC (.p 0 0 0 0)), (5, aC (.p 1 0 0 0)), (6, aI v6), (30, aC (.fn 58 [2, 3]))], [(3, .box 3 [cI 6]), (2, .box 86 [cR 1 (L.map fE)]), (1, .box 3 [cI 0]), (0, .box 42 [cN])], 4⟩ : aJ).h k' = some y → σ k = some gx → σ k' = some gy → k ≠ k' → gx.g ≠ gy.g :=
    fun k k' x y gx gy h1 h2 h3 h4 hne e => hne (S.core.inj k k' x y gx gy h1 h2 h3 h4 e)
  have n01 := hne 0 1 _ _ _ _ rfl rfl e0 e1 (by decide)
  have n02 := hne 0 2 _ _ _ _ rfl rfl e0 e2 (by decide)
  have n03 := hne 0 3 _ _ _ _ rfl rfl e0 e3 (by decide)
  have n12 := hne 1 2 _ _ _ _ rfl rfl e1 e2 (by decide)
  have n13 := hne 1 3 _ _ _ _ rfl rfl e1 e3 (by decide)
  obtain ⟨x1, rfl, hx1⟩ : ∃ x, v1 = [x] ∧ bj T w (.r 1 (L.map fE)) x := by
    match v1, c1 with
    | [x], c => exact ⟨x, rfl, c.1⟩
  obtain ⟨x2, rfl, hx2⟩ : ∃ x, v2 = [x] ∧ x = .int .i64 6 := by
    match v2, c2 with
    | [x], c => exact ⟨x, rfl, bj.inv c.1⟩
  subst hx2
  obtain ⟨xl, rfl, hxl⟩ : ∃ x, vl = [x] ∧ x = .slice none 0 0 := by
    match vl, cl0 with
    | [x], c => exact ⟨x, rfl, bj.inv c.1⟩
  subst hxl
  have cell1 : w.cell? ⟨g1.g, 0, none⟩ = some x1 := by rw [cell_of_row w g1.g 0 _ _ (0, 0) h10]; rfl
  have cell2 : w.cell? ⟨g2.g, 0, none⟩ = some (.int .i64 6) := by rw [cell_of_row w g2.g 0 _ _ (0, 0) h20]; rfl
  have lt1 : g1.g < w.heap.size := S.core.dX _ t1
  have lt2 : g2.g < w.heap.size := S.core.dX _ t2
  have ltl : gl.g < w.heap.size := S.core.dX _ tl
  have lta : ga.g < w.heap.size := S.core.dX _ ta
  obtain ⟨A, blk, off, cap, hA, hcap, hx1v⟩ : ∃ (A : Option Addr) (blk off cap : Nat), (0 < k → A = some ⟨blk, off, none⟩) ∧ 6 * k ≤ cap ∧ x1 = .slice A (6 * k) cap := by
    generalize hR : L.map fE = R at hx1
    have hRl : R.length = 6 * k := by rw [← hR, List.length_map, hLk]
    cases hx1 with
    | nil _ A c =>
      have : k = 0 := by simp at hRl; omega
      subst this
      exact ⟨A, 0, 0, c, fun h => by omega, by omega, rfl⟩
    | r _ _ bb oo cc cs _ _ hc _ _ _ _ => exact ⟨_, bb, oo, cc, fun _ => rfl, by omega, by rw [hRl]⟩
  subst hx1v
  have s0 : bj T w (.r 1 (b.map fE)) (a.tmps.getD 0 undef) := S.core.eP 0 _ rfl
  have s4 : a.tmps.getD 4 undef = .pointer (some ⟨gl.g, 0, none⟩) := by obtain ⟨g, h1, h2⟩ := S.core.eP 4 _ rfl; rw [e0] at h1; injection h1 with h1; subst h1; exact h2
  have s5 : a.tmps.getD 5 undef = .pointer (some ⟨ga.g, 0, none⟩) := by obtain ⟨g, h1, h2⟩ := S.core.eP 5 _ rfl; rw [e1] at h1; injection h1 with h1; subst h1; exact h2
  have s6 : bj T w (.v (.int .i64 v6)) (a.tmps.getD 6 undef) := S.core.eP 6 _ rfl
  have s30 : a.tmps.getD 30 undef = .func (.func 58) #[] #[.pointer (some ⟨g1.g, 0, none⟩), .pointer (some ⟨g2.g, 0, none⟩)] := by
    obtain ⟨gs, h1, h2⟩ := S.core.eP 30 _ rfl
    have h1 : [σ 2, σ 3] = gs.map some := h1
    rw [e2, e3] at h1
    match gs, h1 with
    | [x, y], h1 => simp at h1; obtain ⟨rfl, rfl⟩ := h1; exact h2
  have sz : a.tmps.size = 75 := S.iU
  have gW : a.defers = [] := S.gW
  obtain ⟨F', hF'⟩ : ∃ F' : Nat → Prop, F' = fun b => b = gl.g ∨ b = ga.g := ⟨_, rfl⟩
  have hFT : ∀ b, F' b → T b := fun x hx => by rw [hF'] at hx; rcases hx with rfl | rfl; exact tl; exact ta
  let pins : List (Nat × bM) := [(0, gl), (1, ga)]
  have fix4 : pw T w pins a (4, aC (.p 0 0 0 0)) := .inr ⟨0, gl, rfl, rfl, s4⟩
  have fix5 : pw T w pins a (5, aC (.p 1 0 0 0)) := .inr ⟨1, ga, rfl, rfl, s5⟩
  have fix0 : pw T w pins a (0, aC (cR 1 (b.map fE))) := .inl ⟨_, rfl, s0⟩
  have fix6 : pw T w pins a (6, aI v6) := .inl ⟨_, rfl, s6⟩
  have start : Inv w F' (75, []) T pins ⟨[], iS [] 0, 3⟩ a w := by
    refine ⟨fun k => if k = 0 then some gl else if k = 1 then some ga else none, T, fun _ _ => ⟨fun h => h, fun h => h⟩, ⟨⟨(fun i v h => by cases h), (fun k x h => ?_), (fun k k' x y gx gy h1 h2 h3 h4 e => ?_), S.core.dX⟩, rfl, rfl, rfl, Nat.le_refl _, fun _ _ _ => rfl, fun k x g hk hg => ?_, fun k hk => ?_, fun k x hk => ?_, sz, gW⟩, fun k g hk => ?_⟩
    · unfold iS at h
      rw [bO] at h
      split at h
      · rename_i e; subst e; injection h with h; subst h; exact ⟨by decide, .inl ⟨rfl, rfl⟩⟩
      · rw [bO] at h
        split at h
        · rename_i e; subst e; injection h with h; subst h; exact ⟨ga, va, rfl, ta, ha0, by
            match va, ca0 with
            | [x], c => exact ⟨c.1, trivial⟩⟩
        · rw [bO] at h
          split at h
          · rename_i e; subst e; injection h with h; subst h; exact ⟨gl, _, rfl, tl, hl0, .inl ⟨rfl, rfl⟩, trivial⟩
          · cases h
    · have h3 : (if k = 0 then some gl else if k = 1 then some ga else none) = some gx := h3
      have h4 : (if k' = 0 then some gl else if k' = 1 then some ga else none) = some gy := h4
      by_cases k0 : k = 0
      · subst k0
        by_cases k0' : k' = 0
        · exact k0'.symm
        · by_cases k1' : k' = 1
          · subst k1'; simp at h3 h4; subst h3 h4; exact absurd e n01
          · simp [k0', k1'] at h4
      · by_cases k1 : k = 1
        · subst k1
          by_cases k0' : k' = 0
          · subst k0'; simp at h3 h4; subst h3 h4; exact absurd e.symm n01
          · by_cases k1' : k' = 1
            · exact k1'.symm
            · simp [k0', k1'] at h4
        · simp [k0, k1] at h3
    · right
      have hg : (if k = 0 then some gl else if k = 1 then some ga else none) = some g := hg
      rw [hF']
      by_cases k0 : k = 0
      · simp [k0] at hg; exact .inl (by rw [hg])
      · by_cases k1 : k = 1
        · simp [k1] at hg; exact .inr (by rw [hg])
        · simp [k0, k1] at hg
    · have : 3 ≤ k := hk
      show (if k = 0 then some gl else if k = 1 then some ga else none) = none
      rw [if_neg (by omega), if_neg (by omega)]
    · show k < 3
      unfold iS at hk
      simp only [bO] at hk
      split at hk
      · omega
      · split at hk
        · omega
        · split at hk
          · omega
          · cases hk
    · simp only [pins, bO] at hk
      split at hk
      · rename_i e; subst e; simpa using hk
      · split at hk
        · rename_i e; subst e; simpa using hk
        · cases hk
  have back : ∀ {N' : NT} {pin' : List (Nat × bM)} {st' : aJ} {a' : Go.Act} {W' : World}, Inv w F' N' T pin' st' a' W' → Inv W0 (fun _ => False) N' T0 pin' st' a' W' := by
    rintro N' pin' st' a' W' ⟨σ', T', hT', S', hp'⟩
    have hFw : ∀ b, F' b → W0.heap.size ≤ b := fun x hx => by
      rw [hF'] at hx
      rcases hx with rfl | rfl
      · exact (S.own 0 _ gl rfl e0).resolve_right fun h => h
      · exact (S.own 1 _ ga rfl e1).resolve_right fun h => h
    refine ⟨σ', T', fun x hx => ?_, ⟨S'.core, S'.os.trans S.os, S'.tape.trans S.tape, S'.output.trans S.output, Nat.le_trans S.size S'.size, fun x hx hF => ?_, fun k x g hk hg => ?_, S'.next, S'.hn, S'.iU, S'.gW⟩, hp'⟩
    · have h1 := hT' x (Nat.lt_of_lt_of_le hx S.size)
      have h2 := hT x hx
      exact ⟨fun h => h2.1 (h1.1 h), fun h => h1.2 (h2.2 h)⟩
    · rw [S'.cz x (Nat.lt_of_lt_of_le hx S.size) fun h => by have := hFw x h; omega, S.cz x hx hF]
    · rcases S'.own k x g hk hg with h | h
      · exact .inl (Nat.le_trans S.size h)
      · exact .inl (hFw _ h)
  have hTlt := S.core.dX
  have hsz0 := S.size
  let rc : Fin k → ah := fun i => recC (eM L i.val)
  let I : List (Fin k) → World → Prop := fun pre W => Inv w F' (75, []) T pins ⟨[], iS (pre.map rc) (eG (pre.map rc)), 3⟩ a W
  have hchunk : ∀ i : Fin k, (eM L i.val).length = 6 ∧ ∀ x ∈ eM L i.val, 0 ≤ x ∧ x ≤ 255 := fun i => ⟨mL (by have := i.isLt; omega), fun x hx => hb x (List.mem_of_mem_drop (List.mem_of_mem_take hx))⟩
  have hsumc : ∀ i : Fin k, 0 ≤ (rc i).sum ∧ (rc i).sum ≤ 16777215 := fun i => by
    obtain ⟨h1, h2⟩ := hchunk i
    show 0 ≤ (recC (eM L i.val)).sum ∧ (recC (eM L i.val)).sum ≤ 16777215
    generalize eM L i.val = e at h1 h2
    match e, h1 with
    | [s, a, k', x, y, z], _ =>
      have hx := h2 x (by simp); have hy := h2 y (by simp); have hz := h2 z (by simp)
      show 0 ≤ 65536 * x + 256 * y + z ∧ 65536 * x + 256 * y + z ≤ 16777215
      omega
  have hsum : ∀ pre : List (Fin k), 0 ≤ eG (pre.map rc) ∧ eG (pre.map rc) ≤ 16777215 * ((pre.map rc).length : Int) := fun pre => by
    induction pre with
    | nil => simp [eG]
    | cons i pre ih => have := hsumc i; simp only [List.map_cons, eG, List.length_cons]; omega
  have hnm : ∀ m all, oJ ⟨[], iS m all, 3⟩ = true := fun m all => rfl
  have hIown : OwnFrom w.heap.size I := fun pre A B row hs hg hr => Inv.own (hnm _ _) hs hg hr
  have eg : ∀ args w, (callFunc 58 args).run Try.prog w = .ok (.enter 58 args) w := Ii
  refine wpIn_wide.1 (wpIn_block (n := 3) ?_)
  refine wpIn_rangeFunc_ownF (α := Fin k) rfl (by decide) (gf := 58) (lb := #[.pointer (some ⟨g1.g, 0, none⟩), .pointer (some ⟨g2.g, 0, none⟩)]) s30 trivial eg
    (xk 2 g1.g g2.g blk off k cap A hA hk hcap w lt1 lt2 cell1 cell2) ?_ ?_ (Below.refl _ w) (fun _ => rfl) I (fun _ _ _ => False) hIown (fun _ _ _ _ _ hs _ _ => hs) start
    (fun x => ({ tmps := a.tmps.setIfInBounds 31 (.slice (some ⟨blk, off + 6 * x.val, none⟩) 6 6), defers := [] } : Go.Act).put (some 7) (.slice (some ⟨blk, off + 6 * x.val, none⟩) 6 6)) ?assign ?body ?done ?stop
  · exact fun h1 h2 => ⟨fun v h => h2.1 v (h1.1 v h), fun v h => h2.2 v (h1.2 v h)⟩
  · intro W l o o' hl ho hc _
    have cG : ∀ g : Nat, g < w.heap.size → ∀ v, W.cell? ⟨g, 0, none⟩ = some v → (W.putObj l o').cell? ⟨g, 0, none⟩ = some v := fun g hg v h => by
      rw [cell_of_heap (w := W) (World.putObj_heap_other (by omega)) 0]; exact h
    exact ⟨cG _ lt1, cG _ lt2⟩
  case assign =>
    intro l x W K hK
    refine hassign l _ _ _ _ ?_
    have e : ({ tmps := (#[31].zip #[Value.slice (some ⟨blk, off + 6 * x.val, none⟩) 6 6]).foldl (fun t (p, v) => t.setIfInBounds p v) a.tmps, defers := [] } : Go.Act) = { tmps := a.tmps.setIfInBounds 31 (.slice (some ⟨blk, off + 6 * x.val, none⟩) 6 6), defers := [] } := by simp
    rw [e]
    have ev_ : Go.Act.eval { tmps := a.tmps.setIfInBounds 31 (.slice (some ⟨blk, off + 6 * x.val, none⟩) 6 6), defers := [] } (.tmp 31) = .slice (some ⟨blk, off + 6 * x.val, none⟩) 6 6 := by
      show (a.tmps.setIfInBounds 31 _).getD 31 undef = _
      rw [Array.getD_eq_getD_getElem?, Array.getElem?_setIfInBounds_self_of_lt (by omega)]; rfl
    rw [ev_]; exact hK
  case body =>
    intro l pre x W hIp hlen
    obtain ⟨hc1, hc2⟩ := hchunk x
    have hpos : 0 < k := Nat.lt_of_le_of_lt (Nat.zero_le _) x.isLt
    have hAv := hA hpos
    subst hAv
    have hdx : bj T w (.r 1 ((eM L x.val).map fE)) (.slice (some ⟨blk, off + 6 * x.val, none⟩) 6 6) := CR (c := cap) (by rw [hLk]; exact hx1) (by have := x.isLt; omega)
    let a1 : Go.Act := ({ tmps := a.tmps.setIfInBounds 31 (.slice (some ⟨blk, off + 6 * x.val, none⟩) 6 6), defers := [] } : Go.Act).put (some 7) (.slice (some ⟨blk, off + 6 * x.val, none⟩) 6 6)
    have t7 : a1.tmps.getD 7 undef = .slice (some ⟨blk, off + 6 * x.val, none⟩) 6 6 := by
      show ((a.tmps.setIfInBounds 31 _).setIfInBounds 7 _).getD 7 undef = _
      rw [Array.getD_eq_getD_getElem?, Array.getElem?_setIfInBounds_self_of_lt (by rw [Array.size_setIfInBounds]; omega)]; rfl
    have tj : ∀ j, j ≠ 7 → j ≠ 31 → a1.tmps.getD j undef = a.tmps.getD j undef := fun j h7 h31 => by
      show ((a.tmps.setIfInBounds 31 _).setIfInBounds 7 _).getD j undef = _
      rw [Array.getD_eq_getD_getElem?, Array.getElem?_setIfInBounds_ne (by omega), Array.getElem?_setIfInBounds_ne (by omega), Array.getD_eq_getD_getElem?]
    have hI1 : Inv w F' (75, []) T pins ⟨[(7, aC (cR 1 ((eM L x.val).map fE))), (4, aC (.p 0 0 0 0)), (5, aC (.p 1 0 0 0))], iS (pre.map rc) (eG (pre.map rc)), 3⟩ a1 W := by
      refine Inv.fix hFT ⟨.inl ⟨_, rfl, by rw [t7]; exact hdx⟩, .inr ⟨0, gl, rfl, rfl, by rw [tj 4 (by decide) (by decide)]; exact s4⟩, .inr ⟨1, ga, rfl, rfl, by rw [tj 5 (by decide) (by decide)]; exact s5⟩, trivial⟩ hIp ?_ rfl
      show ((a.tmps.setIfInBounds 31 _).setIfInBounds 7 _).size = 75
      rw [Array.size_setIfInBounds, Array.size_setIfInBounds]; exact sz
    obtain ⟨F2, T2, hI2, f1, f2, f3, bk⟩ := Inv.Ae rfl hI1
    have hml : (pre.map rc).length ≤ 254 := by rw [List.length_map]; omega
    have hB := hbody l (3 - 1 - 1) W F2 T2 gl ga (pre.map rc) (eG (pre.map rc)) (eM L x.val) hc1 hc2 hml (hsum pre) (fun _ h => by cases h.1) a1 W hI2
    refine Code.wpIn_mono (fun e a' W' q => ?_) hB
    obtain ⟨st', ⟨rfl, hw⟩, hI3⟩ := q
    have hI4 := hw _ _ _ _ _ _ hI3
    have hI4' := hI4
    obtain ⟨σ4, T4, hT4, S4, hp4⟩ := hI4'
    have hnotF : ∀ g : Nat, g < w.heap.size → g ≠ gl.g → g ≠ ga.g → ¬ F2 g := fun g hg h1 h2 hf => by
      rcases f2 g hf with h | h
      · omega
      · rw [hF'] at h; rcases h with h | h; exact h1 h; exact h2 h
    have hWsz : w.heap.size ≤ W.heap.size := by obtain ⟨_, _, _, S5, _⟩ := hIp; exact S5.size
    have kc : ∀ g : Nat, g < w.heap.size → g ≠ gl.g → g ≠ ga.g → ∀ v, W.cell? ⟨g, 0, none⟩ = some v → W'.cell? ⟨g, 0, none⟩ = some v := fun g hg h1 h2 v h => by
      rw [cell_of_heap (S4.cz g (by omega) (hnotF g hg h1 h2)) 0]; exact h
    refine ⟨⟨S4.size, fun g o ho hc => ?_⟩, ⟨kc _ lt1 (Ne.symm n02) (Ne.symm n12), kc _ lt2 (Ne.symm n03) (Ne.symm n13)⟩, ?_⟩
    · have hlt := (Array.getElem?_eq_some_iff.1 ho).1
      refine (S4.cz g hlt fun hf => ?_).trans ho
      obtain ⟨_, o', ho', hc'⟩ := f1 g hf
      rw [ho] at ho'; injection ho' with ho'; subst ho'; rw [hc] at hc'; cases hc'
    · have h5 := bk hI4
      have h6 : Inv w F' (75, []) T pins ⟨[], iS ((pre ++ [x]).map rc) (eG ((pre ++ [x]).map rc)), 3⟩ a W' := by
        have e1 : (pre ++ [x]).map rc = pre.map rc ++ [recC (eM L x.val)] := by simp [rc]
        have e2 : eG ((pre ++ [x]).map rc) = eG (pre.map rc) + (recC (eM L x.val)).sum := by rw [e1, vh]; simp [eG]
        rw [e2, e1]
        exact Inv.fix hFT trivial h5 sz gW
      exact h6
  case done =>
    intro D xs W hD hS hIx hobj
    have hm : xs.map rc = fQ L := by
      have h1 : xs.map rc = (xs.map Fin.val).map fun i => recC (eM L i) := by rw [List.map_map]; rfl
      rw [h1, hS, ← qd k (by omega), List.take_of_length_le (by omega)]
    have hIx : Inv w F' (75, []) T pins ⟨[], iS (xs.map rc) (eG (xs.map rc)), 3⟩ a W := hIx
    rw [hm] at hIx
    let ar : Go.Act := { a with defers := { target := .collected D, args := #[] } :: a.defers }
    have hI1 : Inv w F' (75, [{ target := .collected D, args := #[] }]) T pins ⟨[(0, aC (cR 1 (b.map fE))), (4, aC (.p 0 0 0 0)), (5, aC (.p 1 0 0 0)), (6, aI v6)], iS (fQ L) (eG (fQ L)), 3⟩ ar W :=
      Inv.fix hFT ⟨fix0, fix4, fix5, fix6, trivial⟩ hIx sz (by show _ :: a.defers = _; rw [gW])
    obtain ⟨F2, T2, hI2, f1, f2, f3, bk⟩ := Inv.Ae rfl hI1
    have hR := hrest W F2 _ T2 ar W hI2.GD
    show rest.wp Try.prog _ ar W
    refine Code.wp_mono (fun e a' W' q => ?_) hR
    obtain ⟨st', hq, hI3⟩ := q
    have hobj' : W'.heap[D]? = some (.deferred (some [])) := by
      obtain ⟨_, _, _, S4, _⟩ := hI3
      refine (S4.cz D (Array.getElem?_eq_some_iff.1 hobj).1 fun hf => ?_).trans hobj
      obtain ⟨_, o', ho', hc'⟩ := f1 D hf
      rw [hobj] at ho'; injection ho' with ho'; subst ho'; cases hc'
    exact oC hT0 hq (back (bk hI3)) (.inr ⟨D, rfl, by omega, hobj'⟩)
  case stop =>
    intro D c pre W _ _ h _
    exact h.elim
section
variable {P:Program} {W0:World} {F:Nat->Prop} {N:NT} {T0:Nat->Prop} {pin:List (Nat×bM)} {Q:Exit->aJ->Prop}
theorem BE {r m id:Nat} {l:List Oper} {s s0:List (Nat×AV)} {h h0:List (Nat×AB)} {n:Nat} (lv hv:List Nat) (hm:P.follows .mixedOrders=true) (h1:jC s lv=some s0) (h2:jC h hv=some h0)
  (k:PD P l.toArray ⟨s0,h0,n⟩ (zF P W0 F N T0 pin Q l ⟨s0,h0,n⟩) 0 [] n l) (hd:(l.all fun o=>!jP o.op)=true:=by rfl):iJ P r m W0 F N T0 pin Q (.region id l.toArray true) ⟨s,h,n⟩:=by
 refine Ds (st':=⟨s0,h0,n⟩) (aH.sub (fun i v hi=>jb h1 hi) (fun i v hi=>jb h2 hi) rfl) ?_
 obtain ⟨rows,h3,h4,h5'⟩:=k rfl (fun r hr=>by cases hr)
 obtain ⟨fin,h5,h6,h7⟩:=h5' (mq h1) (mq h2)
 exact Dt hd rows fin hm h5 h3 (sO h4) h6 h7
end
end Go.Proofs.Ytegepioggeggaaa.Dev
