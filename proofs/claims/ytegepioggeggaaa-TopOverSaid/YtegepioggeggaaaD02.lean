/- A part of the proof: Sh13, Sh14, Sh15, Dat, PlAuth, PlStand, Dat2, Abb, Ty, Sh16, Sh17, Sh18, Sh21, Sh22. No condition. -/
import Derived.Test.YtegepioggeggaaaD01
import Derived.Test.YtegepioggeggaaaProg
import Derived.MapKept
import Derived.Lib.AppendZerosOnto
import Derived.Lib.Overlaps
import Derived.Laws.Shifts
import Derived.Laws.BytesString
set_option linter.unusedVariables false
set_option linter.unusedSimpArgs false
namespace Go.Proofs.Ytegepioggeggaaa.Dev
open Go.RowKit

theorem DRel.len {T:Nat->Prop} {w:World} {K:Nat} {rows:List (List D)} {v:Value} (h:DRel T w (.r K rows) v):rows.length<=9223372036854775807:=by
 cases h with
 |nil=>simp
 |r=>omega
section
variable {P:Program} {W0:World} {F:Nat->Prop} {N:NT} {T0:Nat->Prop} {pin:List (Nat×Adr)} {Q:Exit->AState->Prop} {s:List (Nat×AV)} {h:List (Nat×AB)} {n:Nat}
theorem AC.len1 {c:Code} {α:Type} {f:α->List D} {xs:List α} {K:Nat} (i:Nat) (hs:look s i=some (.v (.c (.d (.r K (xs.map f)))))) (k:xs.length<=9223372036854775807->AC P W0 F N T0 pin Q c ⟨s,h,n⟩):AC P W0 F N T0 pin Q c ⟨s,h,n⟩:=fun a w hI=>by
 obtain ⟨σ,T,hT,S,hp⟩:=hI
 have h1:=DRel.len (show DRel T w (.r K (xs.map f)) _ from S.core.slots i _ hs)
 rw [List.length_map] at h1
 exact k h1 a w ⟨σ,T,hT,S,hp⟩
theorem AC.lenS {c:Code} {k r K m:Nat} (i:Nat) (hs:look s i=some (.v (.c (.s k r K m)))) (hk:m<=9223372036854775807->AC P W0 F N T0 pin Q c ⟨s,h,n⟩):AC P W0 F N T0 pin Q c ⟨s,h,n⟩:=fun a w hI=>by
 obtain ⟨σ,T,hT,S,hp⟩:=hI
 have h1:CRel σ T w (.s k r K m) _:=S.core.slots i _ hs
 refine hk ?_ a w ⟨σ,T,hT,S,hp⟩
 rcases h1 with ⟨h0,_⟩|⟨g,_,_,h2,h3⟩<;>omega
theorem AC.lenG {c:Code} {α:Type} {f:α->List D} {xs:List α} {K:Nat} {cs:List CV} (i j:Nat) (hs:look s i=some (.v (.g cs))) (hj:cs[j]?=some (.d (.r K (xs.map f)))) (k:xs.length<=9223372036854775807->AC P W0 F N T0 pin Q c ⟨s,h,n⟩):AC P W0 F N T0 pin Q c ⟨s,h,n⟩:=fun a w hI=>by
 obtain ⟨σ,T,hT,S,hp⟩:=hI
 obtain ⟨vs,h1,h2⟩:=S.core.slots i _ hs
 obtain ⟨y,hy,hr⟩:=h2.get hj
 have h1:=DRel.len (show DRel T w (.r K (xs.map f)) _ from hr)
 rw [List.length_map] at h1
 exact k h1 a w ⟨σ,T,hT,S,hp⟩
end
theorem HRel.cut {σ:Nat->Option Adr} {T:Nat->Prop} {w:World} {og:Option Adr} {t K:Nat} {rows:List (List D)} (m:Nat) (h:HRel σ T w og (.arr t K rows)):HRel σ T w og (.arr t K (rows.take m)):=by
 obtain ⟨hK,h1⟩:=h
 refine ⟨hK,?_⟩
 rcases h1 with ⟨h1,h2⟩|⟨g,vs,h1,h2,h3,h4,h5,h6⟩
 ·exact .inl ⟨by rw [h1];simp,h2⟩
 ·refine .inr ⟨g,vs,h1,h2,h3,h4,h5,?_,fun i row hi=>?_⟩
  ·refine Nat.le_trans (Nat.mul_le_mul_right K ?_) h6.1
   rw [List.length_take];omega
  ·rw [List.getElem?_take] at hi
   split at hi
   ·exact h6.2 i row hi
   ·cases hi
theorem Ext.stay {σ:Nat->Option Adr} {T:Nat->Prop} {st:AState} {a:Act} {w:World} (C:Core σ T st a w) {k:Nat} {b b0:AB} (hb0:look st.h k=some b0) (hr:HRel σ T w (σ k) b):Ext σ T w σ T w [(k,b)] [k]:=by
 refine ⟨rfl,rfl,rfl,⟨Nat.le_refl _,fun _ _ _=>rfl,?_,fun _ _ h=>h,fun _ _ h=>h⟩,fun _ h=>h,C.Tlt,fun _ _=>rfl,?_,?_,?_⟩
 ·rintro b' ⟨k',hk',g',hg',rfl⟩
  rw [List.mem_singleton.1 hk'] at hg'
  exact (C.heap k b0 hb0).inT hg'
 ·intro j b' h
  obtain ⟨rfl,rfl⟩:=Prod.mk.inj (List.mem_singleton.1 h)
  exact hr
 ·intro j b' g' h hg'
  obtain ⟨rfl,rfl⟩:=Prod.mk.inj (List.mem_singleton.1 h)
  exact .inr ⟨j,List.mem_singleton.2 rfl,g',hg',rfl⟩
 ·intro j j' b1 b2 g1 g2 h h' _ _ _
  obtain ⟨rfl,_⟩:=Prod.mk.inj (List.mem_singleton.1 h)
  obtain ⟨rfl,_⟩:=Prod.mk.inj (List.mem_singleton.1 h')
  rfl
theorem g_clear {P:Program} {st:AState} {o:Oper} {x:Operand} {c:Call} {t e bt K bytes k i n:Nat} {z:Value} {zs:List Value} {rows rows':List (List D)} (hT:SlT P t e K bytes) (hz:(P.info? e).bind (fun i=>i.zero)=some z) (hzs:z.cells.toList=zs) (h1:zs.all (·.oneCell')=true)
  (ho:o.op=.call c) (hc:c.callee=.builtin .clear) (ha:c.args=#[x]) (hat:c.argTypes=#[t]) (hd:o.dst=none) (hx:ev st x (.v (.c (.s k i K n)))) (hb:look st.h k=some (.arr bt K rows)) (hr:rows.take i=rows'):GOp P o st (.v (.c .any)) [(k,.arr bt K rows')] [k]:=by
 subst hr
 intro σ T a w C _
 have hxv:=ev_rel C hx
 have hh:=C.heap k _ hb
 have quiet:∀ A c',a.eval x=.slice A 0 c'->o.wp P a w (fun a' w'=>∃ u σ' T',a'=a.put o.dst u/\Ext σ T w σ' T' w' [(k,.arr bt K (rows.take i))] [k]/\ARel σ' T' w' (.v (.c .any)) u) noQ:=fun A c' hv=>by
  refine wp_value (v:=.tuple #[]) ?_ ⟨_,σ,T,rfl,Ext.stay C hb (hh.cut i),trivial⟩
  unfold execOp
  cases A<;>simp [ho,resolve,hc,ha,hat,invoke,builtin,hv,Builtin.clear_,run_underlying hT.u]
 rcases hxv with ⟨h0,hv⟩|⟨g,hg,hv,hin,h63⟩
 ·exact quiet none 0 hv
 ·by_cases hn:n=0
  ·subst hn;exact quiet _ _ hv
  ·obtain ⟨hK,hh'⟩:=hh
   rcases hh' with ⟨_,h⟩|⟨g',vs,e1,e2,e3,e4,e5,e6⟩
   ·rw [hg] at h;cases h
   rw [hg] at e1;injection e1 with e1;subst e1
   obtain ⟨ii,z',hii,hzz,hs,hby,hzc⟩:=hT.i
   have hz':z'=z:=by simpa [hii,hzz] using hz
   subst hz'
   have hlen:(Builtin.zeroCells z'.cells n).toList.length=n * K:=by simp [Builtin.zeroCells,hzc]
   have hone:∀ u∈(Builtin.zeroCells z'.cells n).toList,u.oneCell'=true:=by
    intro u hu
    simp only [Builtin.zeroCells,Array.toList_map,List.mem_map] at hu
    obtain ⟨q,_,rfl⟩:=hu
    have hlt:q % z'.cells.size < z'.cells.size:=Nat.mod_lt _ (by rw [hzc];exact hK)
    rw [getElem!_pos z'.cells (q % z'.cells.size) hlt]
    subst hzs
    exact List.all_eq_true.1 h1 _ (by simp)
   have hfit:i * K+n * K<=vs.length:=by rw [e4,<-Nat.add_mul];exact Nat.mul_le_mul_right _ hin
   have hst:=run_storeCells_at (P:=P) g.g (i * K) bt (Builtin.zeroCells z'.cells n).toList 0 vs.toArray w e3 (by rw [hlen];simpa using hfit) hone
   obtain ⟨m,rfl⟩:∃ m,n=m+1:=⟨n - 1,by omega⟩
   have hzv:(zeroValue e).run P w=.ok z' w:=by simp [zeroValue,typeInfo,hii,hzz]
   refine wp_value (v:=.tuple #[]) (w':=w.setRow g.g (vs.take (i * K)++(Builtin.zeroCells z'.cells (m+1)).toList++vs.drop (i * K+(Builtin.zeroCells z'.cells (m+1)).toList.length)).toArray) ?_ ⟨_,σ,T,rfl,Ext.write C hb hg rfl rfl rfl (setRow_size w _ _) (fun j hj=>setRow_other w g.g j _ hj) fun G=>?_,trivial⟩
   ·unfold execOp
    simp only [Nat.add_zero] at hst
    simp [ho,resolve,hc,ha,hat,invoke,builtin,hv,Builtin.clear_,run_underlying hT.u,hzv,hst]
   ·refine ⟨hK,.inr ⟨g,_,rfl,e2,setRow_heap w g.g _ _ bt (0,0) e3,?_,e5,?_⟩⟩
    ·rw [<-e4];simp only [List.length_append,List.length_take,List.length_drop,hlen];omega
    ·have e7:=e6.grow G
     refine ⟨?_,fun r row hrow=>?_⟩
     ·simp only [List.length_append,List.length_take,List.length_drop,hlen]
      refine Nat.le_trans (Nat.mul_le_mul_right K (Nat.min_le_left i rows.length)) ?_
      omega
     ·rw [List.getElem?_take] at hrow
      split at hrow
      ·rename_i hri
       obtain ⟨q1,q2⟩:=e7.2 r row hrow
       refine ⟨q1,fun j d hj=>?_⟩
       obtain ⟨u,hu,hd'⟩:=q2 j d hj
       have hjK:j < K:=by rw [<-q1];exact (List.getElem?_eq_some_iff.1 hj).1
       have hlt:r * K+j < i * K:=by
        have:(r+1) * K<=i * K:=Nat.mul_le_mul_right _ hri
        rw [Nat.succ_mul] at this
        omega
       refine ⟨u,?_,hd'⟩
       rw [List.append_assoc,List.getElem?_append_left (by rw [List.length_take];omega),List.getElem?_take,if_pos hlt]
       exact hu
      ·cases hrow
theorem Weak.nilR {pin:List (Nat×Adr)} {s:List (Nat×AV)} {h h':List (Nat×AB)} {n:Nat} (k j K bt:Nat) {cs:List CV} (hb:look h k=some (.box bt cs)) (hc:cs[j]?=some cN) (hh:upH h k (.box bt (cs.set j (cR K [])))=h'):Weak pin ⟨s,h,n⟩ ⟨s,h',n⟩:=by
 subst hh
 rintro W0 F N T0 a w ⟨σ,T,hT,S,hp⟩
 have old:∀ i b,look (upH h k (.box bt (cs.set j (cR K [])))) i=some b->∃ b0,look h i=some b0:=fun i b hi=>by
  rcases look_upH hi with ⟨rfl,_⟩|⟨_,h1⟩|⟨_,h1⟩
  ·exact ⟨_,hb⟩
  ·exact ⟨_,h1⟩
  ·exact h1.elim
 refine ⟨σ,T,hT,⟨⟨S.core.slots,?_,?_,S.core.Tlt⟩,S.os,S.tape,S.output,S.size,S.old,?_,S.next,?_,S.tsz,S.dfr⟩,hp⟩
 ·intro i b hi
  rcases look_upH hi with ⟨rfl,rfl⟩|⟨_,h1⟩|⟨_,h1⟩
  ·obtain ⟨g,vs,h1,h2,h3,h4⟩:=S.core.heap _ _ hb
   refine ⟨g,vs,h1,h2,h3,?_⟩
   obtain ⟨y,hy,hr⟩:=h4.get hc
   have hy':y=.slice none 0 0:=DRel.inv hr
   subst hy'
   have:=h4.set (x:=cR K []) (y:=.slice none 0 0) (DRel.nil _ _ _) j
   have e:vs.set j (.slice none 0 0)=vs:=by
    apply List.ext_getElem?
    intro q
    rw [List.getElem?_set]
    split
    ·rename_i hq;subst hq
     split
     ·exact hy.symm
     ·rename_i hlt;rw [List.getElem?_eq_none (by omega)]
    ·rfl
   rw [e] at this
   exact this
  ·exact S.core.heap i b h1
  ·exact h1.elim
 ·intro i i' b b' g g' hi hi' hg hg' hgg
  obtain ⟨b0,h0⟩:=old i b hi
  obtain ⟨b1,h1⟩:=old i' b' hi'
  exact S.core.inj i i' b0 b1 g g' h0 h1 hg hg' hgg
 ·intro i b g hi hg
  obtain ⟨b0,h0⟩:=old i b hi
  exact S.own i b0 g h0 hg
 ·intro i b hi
  obtain ⟨b0,h0⟩:=old i b hi
  exact S.hn i b0 h0
def Frz (st:AState) (k:Nat) (p:Nat->Bool) (y x:AV):Prop:=(y=x/\x.ok p=true)\/∃ c d,y=.v (.c c)/\x=.v (.c d)/\ArgC st [k] c d
theorem Core.freeze {σ:Nat->Option Adr} {T:Nat->Prop} {st st':AState} {a:Act} {w:World} (C:Core σ T st a w) (k:Nat) (hn:∀ i v,look st'.s i=some v->∃ y,look st.s i=some y/\Frz st k (keyIn st'.h) y v)
  (hh:∀ j b,look st'.h j=some b->look st.h j=some b/\j≠k/\b.ok (keyIn st'.h)=true) (hk:∃ b,look st.h k=some b):Core (fun j=>if keyIn st'.h j=true then σ j else none) (lessT σ T [k]) st' a w:=by
 have hlow:∀ b,lessT σ T [k] b->T b:=fun b h=>h.1
 obtain ⟨b0,hb0⟩:=hk
 have hσ:∀ j,keyIn st'.h j=true->(fun j=>if keyIn st'.h j=true then σ j else none) j=σ (id j):=fun j hj=>if_pos hj
 have idA:∀ v:AV,v.map id=v:=fun v=>by
  have hz:∀ c:CV,c.map id=c:=fun c=>by cases c<;>simp [CV.map]
  have hg:∀ g:GV,g.map id=g:=fun g=>by
   cases g with
   |c x=>simp [GV.map,hz]
   |g xs=>simp only [GV.map];congr 1;exact (List.map_congr_left fun c _=>hz c).trans (List.map_id _)
  cases v with
  |v x=>simp [AV.map,hg]
  |t xs=>simp only [AV.map];congr 1;exact (List.map_congr_left fun c _=>hg c).trans (List.map_id _)
 have idB:∀ b:AB,b.map' id=b:=fun b=>by
  have hz:∀ c:CV,c.map id=c:=fun c=>by cases c<;>simp [CV.map]
  cases b with
  |box t cs=>simp only [AB.map'];congr 1;exact (List.map_congr_left (fun c _=>hz c)).trans (List.map_id _)
  |arr=>rfl
  |map=>rfl
 have inT':∀ j b g,look st'.h j=some b->σ j=some g->T g.g->lessT σ T [k] g.g:=fun j b g hj hg hT=>⟨hT,fun e he g' hg' hgg=>by
  rw [List.mem_singleton.1 he] at hg'
  exact (hh j b hj).2.1 (C.inj k j b0 b g' g hb0 (hh j b hj).1 hg' hg hgg).symm⟩
 refine ⟨fun i v hi=>?_,fun j b hj=>?_,fun j j' b b' g g' hj hj' hg hg' hgg=>?_,fun b h=>C.Tlt b h.1⟩
 ·obtain ⟨y,hy,hf⟩:=hn i v hi
  have hr:=C.slots i y hy
  rcases hf with ⟨rfl,hok⟩|⟨c,d,rfl,rfl,harg⟩
  ·have hr:ARel σ T w (y.map id) (a.tmps.getD i undef):=by rw [idA];exact hr
   have h2:=ARel.ren hσ hr hok
   cases y with
   |v x=>exact GRel.anti (x:=x) hlow h2
   |t xs=>obtain ⟨vs,q1,q2⟩:=h2;exact ⟨vs,q1,q2.mono fun _ _ h=>h.anti hlow⟩
  ·exact CRel.up (x:=d) (ArgC.rel C harg hr)
 ·obtain ⟨h1,h2,h3⟩:=hh j b hj
  have hkin:keyIn st'.h j=true:=by simp [keyIn,hj]
  show HRel _ _ _ (if keyIn st'.h j=true then σ j else none) b
  rw [if_pos hkin]
  have h4:HRel σ T w (σ j) (b.map' id):=by rw [idB];exact C.heap j b h1
  exact HRel.anti hlow (fun g hg hT=>inT' j b g hj hg hT) (HRel.ren hσ h4 h3)
 ·obtain ⟨h1,_,_⟩:=hh j b hj
  obtain ⟨h1',_,_⟩:=hh j' b' hj'
  have e1:keyIn st'.h j=true:=by simp [keyIn,hj]
  have e2:keyIn st'.h j'=true:=by simp [keyIn,hj']
  have hg:(if keyIn st'.h j=true then σ j else none)=some g:=hg
  have hg':(if keyIn st'.h j'=true then σ j' else none)=some g':=hg'
  rw [if_pos e1] at hg
  rw [if_pos e2] at hg'
  exact C.inj j j' b b' g g' h1 h1' hg hg' hgg
section
variable {P:Program} {W0:World} {N:NT} {T0:Nat->Prop} {Q:Exit->AState->Prop} {s s':List (Nat×AV)} {h h':List (Nat×AB)} {n:Nat}
theorem inv_freeze {a:Act} {w:World} (k:Nat) (hk:keyIn h k=true) (hs:AllL (fun x=>∃ y,look s x.1=some y/\Frz ⟨s,h,n⟩ k (keyIn h') y x.2) s') (hh:AllL (fun x=>look h x.1=some x.2) h') (hok:h'.all (fun x=>!Nat.beq x.1 k && x.2.ok (keyIn h'))=true)
  (hI:Inv W0 (fun _=>False) N T0 [] ⟨s,h,n⟩ a w):Inv W0 (fun _=>False) N T0 [] ⟨s',h',n⟩ a w:=by
 obtain ⟨σ,T,hT,S,hp⟩:=hI
 obtain ⟨b0,hb0⟩:=keyIn_some hk
 have hh':∀ j b,look h' j=some b->look h j=some b/\j≠k/\b.ok (keyIn h')=true:=fun j b hj=>by
  have h1:=List.all_eq_true.1 hok _ (look_mem hj)
  simp only [Bool.and_eq_true,Bool.not_eq_true'] at h1
  exact ⟨hh.mem _ (look_mem hj),(fun e=>by subst e;rw [Nat.beq_refl] at h1;exact absurd h1.1 (by simp)),h1.2⟩
 have C:=S.core.freeze (st':=⟨s',h',n⟩) k (fun i v hi=>hs.mem _ (look_mem hi)) hh' ⟨b0,hb0⟩
 have q1:∀ b,b < W0.heap.size->(lessT σ T [k] b->T0 b)/\(T0 b->lessT σ T [k] b):=fun b hb=>⟨fun hb'=>(hT b hb).1 hb'.1,fun h0=>⟨(hT b hb).2 h0,fun e he g hg hgb=>by
  rw [List.mem_singleton.1 he] at hg
  rcases S.own k b0 g hb0 hg with h1|h1
  ·omega
  ·exact h1⟩⟩
 have q2:∀ j b g,look h' j=some b->(if keyIn h' j=true then σ j else none)=some g->W0.heap.size<=g.g\/False:=fun j b g hj hg=>by
  split at hg
  ·exact S.own j b g (hh' j b hj).1 hg
  ·cases hg
 have q3:∀ j,n<=j->(if keyIn h' j=true then σ j else none)=none:=fun j hj=>by
  split
  ·exact S.next j hj
  ·rfl
 exact ⟨_,_,q1,⟨C,S.os,S.tape,S.output,S.size,S.old,q2,q3,fun j b hj=>S.hn j b (hh' j b hj).1,S.tsz,S.dfr⟩,fun j g hj=>by cases hj⟩
theorem AL.freeze {ops:Array Oper} {l:List Oper} (k:Nat) (hk:keyIn h k=true) (hs:AllL (fun x=>∃ y,look s x.1=some y/\Frz ⟨s,h,n⟩ k (keyIn h') y x.2) s') (hh:AllL (fun x=>look h x.1=some x.2) h') (hok:h'.all (fun x=>!Nat.beq x.1 k && x.2.ok (keyIn h'))=true)
  (hn:AL P W0 (fun _=>False) N T0 [] ops Q l ⟨s',h',n⟩):AL P W0 (fun _=>False) N T0 [] ops Q l ⟨s,h,n⟩:=fun a w hI=>hn a w (inv_freeze k hk hs hh hok hI)
theorem AC.freeze {c:Code} (k:Nat) (hk:keyIn h k=true) (hs:AllL (fun x=>∃ y,look s x.1=some y/\Frz ⟨s,h,n⟩ k (keyIn h') y x.2) s') (hh:AllL (fun x=>look h x.1=some x.2) h') (hok:h'.all (fun x=>!Nat.beq x.1 k && x.2.ok (keyIn h'))=true)
  (hn:AC P W0 (fun _=>False) N T0 [] Q c ⟨s',h',n⟩):AC P W0 (fun _=>False) N T0 [] Q c ⟨s,h,n⟩:=fun a w hI=>hn a w (inv_freeze k hk hs hh hok hI)
end
end Go.Proofs.Ytegepioggeggaaa.Dev
namespace Go.Proofs.Ytegepioggeggaaa.Dev
open Go.RowKit

section
variable {P:Program} {W0:World} {F:Nat->Prop} {N:NT} {T0:Nat->Prop} {pin:List (Nat×Adr)} {Q:Exit->AState->Prop} {st:AState} {ops:Array Oper}
def AR (P:Program) (W0:World) (F:Nat->Prop) (N:NT) (T0:Nat->Prop) (pin:List (Nat×Adr)) (ops:Array Oper) (Q:Exit->AState->Prop):Nat->Array Bool->AState->Prop
 |0,listed,st=>Region.ready .any ops listed=[]/\Q .normal st
 |f+1,listed,st=>Region.ready .any ops listed≠[]/\∀ i∈Region.ready .any ops listed,∀ a w,Inv W0 F N T0 pin st a w->wpOp P ops (QX W0 F N T0 pin Q) i (fun a' w'=>∃ st',AR P W0 F N T0 pin ops Q f (listed.setIfInBounds i true) st'/\Inv W0 F N T0 pin st' a' w') a w
def nQ (K:AState->Prop):Exit->AState->Prop:=fun e st'=>e=.normal/\K st'
theorem upon_off {o:Oper} {a:Act} {K:Act->World->Prop} {R S:Exit->Act->World->Prop} {r:Result Next} (hR:∀ e a w,e≠.normal->¬R e a w) (h:o.upon P a K R r):o.upon P a K S r:=by
 cases r with
 |ok n w'=>
  cases n<;>simp only [Oper.upon] at h ⊢<;>try exact h
  refine h.mono fun e w'' he=>?_
  cases e with
  |returned v=>exact he
  |panicked c=>exact absurd he (hR _ _ _ (fun e=>by cases e))
  |outgrown=>obtain ⟨_,_,h⟩:=he;exact absurd h (hR _ _ _ (fun e=>by cases e))
 |halt x w'=>cases x<;>simp only [Oper.upon] at h ⊢<;>first|exact h|exact absurd h (hR _ _ _ (fun e=>by cases e))
theorem AR.step {K:AState->Prop} {i:Nat} {o:Oper} (ho:ops[i]?=some o) (hal:AL P W0 F N T0 pin ops (nQ K) [o] st):∀ a w,Inv W0 F N T0 pin st a w->wpOp P ops (QX W0 F N T0 pin Q) i (fun a' w'=>∃ st',K st'/\Inv W0 F N T0 pin st' a' w') a w:=by
 intro a w hI
 have hR:∀ e a w,e≠.normal->¬QX W0 F N T0 pin (nQ K) e a w:=by
  rintro e a w he ⟨st',⟨h1,_⟩,_⟩;exact he h1
 have hN:∀ a w,QX W0 F N T0 pin (nQ K) .normal a w->∃ st',K st'/\Inv W0 F N T0 pin st' a w:=by
  rintro a w ⟨st',⟨_,h1⟩,h2⟩;exact ⟨st',h1,h2⟩
 have h:=hal a w hI
 unfold wpList at h
 unfold wpOp
 rw [ho]
 dsimp only
 split at h
 ·rename_i hw
  rw [if_pos hw]
  rcases h with h|⟨_,a1,w1,h⟩
  ·exact .inl (upon_off hR (operMono h fun a w h=>hN a w h))
  ·exact absurd h (hR _ _ _ (fun e=>by cases e))
 ·rename_i hw
  rw [if_neg hw]
  exact hN _ _ h
theorem AR.more {f:Nat} {listed:Array Bool} {is:List Nat} (hr:Region.ready .any ops listed=is) (hne:is.isEmpty=false) (h:AllL (fun i=>∀ a w,Inv W0 F N T0 pin st a w->wpOp P ops (QX W0 F N T0 pin Q) i (fun a' w'=>∃ st',AR P W0 F N T0 pin ops Q f (listed.setIfInBounds i true) st'/\Inv W0 F N T0 pin st' a' w') a w) is):AR P W0 F N T0 pin ops Q (f+1) listed st:=by
 refine ⟨fun e=>?_,fun i hi=>h.mem i (hr▸hi)⟩
 rw [hr] at e;subst e;cases hne
end
end Go.Proofs.Ytegepioggeggaaa.Dev
namespace Go.Proofs.Ytegepioggeggaaa.Dev
open Go.RowKit

def wrS (tbl:List ORow) (x:Nat) (q:Nat):Bool:=match tbl[q]? with
 |some r=>(match r.dst with
  |some d=>Nat.beq d x
  |none=>false)
 |none=>false
def wrH (tbl:List ORow) (k:Nat) (q:Nat):Bool:=match tbl[q]? with
 |some r=>memB k r.E||memB k (keys r.nb)
 |none=>false
def nbH (tbl:List ORow) (k:Nat) (q:Nat):Bool:=match tbl[q]? with
 |some r=>memB k (keys r.nb)
 |none=>false
def okSrc (ops:Array Oper) (n:Nat) (wr:Nat->Bool) (i:Nat):Option Nat->Bool
 |none=>(List.range n).all fun q=>Nat.beq q i||!wr q||waitsB ops q i
 |some j=>Nat.blt j n && waitsB ops i j && (List.range n).all fun q=>Nat.beq q i||Nat.beq q j||!wr q||waitsB ops q i||waitsB ops j q
def okFin (ops:Array Oper) (n:Nat) (wr:Nat->Bool):Option Nat->Bool
 |none=>(List.range n).all fun q=>!wr q
 |some j=>Nat.blt j n && (List.range n).all fun q=>Nat.beq q j||!wr q||waitsB ops j q
def srcS (tbl:List ORow) (pre:List Nat) (x:Nat):Option Nat:=pre.find? (wrS tbl x)
def srcH (tbl:List ORow) (pre:List Nat) (k:Nat):Option Nat:=pre.find? (nbH tbl k)
def rowWB (ops:Array Oper) (tbl:List ORow) (N:Nat) (st fin:AState) (i:Nat) (r:ORow):Bool:=
 (match ops[i]? with
  |some o=>(match o.dst,r.dst with
   |some d,some d'=>Nat.beq d d' && Nat.blt d N
   |none,none=>true
   |_,_=>false) && o.after.all (fun e=>!Region.binds .any e||Nat.blt e.on i)
  |none=>false) &&
 r.E.all (fun k=>memB k (keys r.h)) && nodupB (keys r.nb) &&
 r.nb.all (fun x=>Nat.blt x.1 fin.n && (memB x.1 r.E||(Nat.ble st.n x.1 && (List.range tbl.length).all fun q=>Nat.beq q i||!wrH tbl x.1 q||waitsB ops q i))) &&
 r.s.all (fun x=>okSrc ops tbl.length (wrS tbl x.1) i (srcS tbl r.pre x.1)) && r.h.all (fun x=>okSrc ops tbl.length (wrH tbl x.1) i (srcH tbl r.pre x.1))
def allWB (ops:Array Oper) (tbl:List ORow) (N:Nat) (st fin:AState):Nat->List ORow->Bool
 |_,[]=>true
 |i,r::rs=>rowWB ops tbl N st fin i r && allWB ops tbl N st fin (i+1) rs
def drawWB (ops:Array Oper) (tbl:List ORow) (N:Nat) (st fin:AState) (fp:List Nat):Bool:=
 allWB ops tbl N st fin 0 tbl && Nat.beq tbl.length ops.size && Nat.ble st.n fin.n &&
 fin.s.all (fun x=>okFin ops tbl.length (wrS tbl x.1) (srcS tbl fp x.1)) && fin.h.all (fun x=>Nat.blt x.1 fin.n && okFin ops tbl.length (wrH tbl x.1) (srcH tbl fp x.1))
theorem allWB_get {ops:Array Oper} {tbl:List ORow} {N:Nat} {st fin:AState}:∀ {rs:List ORow} {i:Nat},allWB ops tbl N st fin i rs=true->∀ {j:Nat} {r:ORow},rs[j]?=some r->rowWB ops tbl N st fin (i+j) r=true
 |r::rs,i,h,0,r',hr=>by simp at hr;subst hr;simp only [allWB,Bool.and_eq_true] at h;exact h.1
 |r::rs,i,h,j+1,r',hr=>by
  simp only [allWB,Bool.and_eq_true] at h
  have:=allWB_get (rs:=rs) (i:=i+1) h.2 (j:=j) (by simpa using hr)
  rwa [show i+1+j=i+(j+1) by omega] at this
 |[],_,_,_,_,hr=>by simp at hr
def SrcS (st:AState) (tbl:List ORow) (x:Nat) (v:AV):Option Nat->Prop
 |none=>look st.s x=some v
 |some j=>∃ q,tbl[j]?=some q/\q.dst=some x/\q.v=v
def SrcH (st:AState) (tbl:List ORow) (k:Nat) (b:AB):Option Nat->Prop
 |none=>look st.h k=some b
 |some j=>∃ q,tbl[j]?=some q/\(k,b)∈q.nb
def SeesW (st:AState) (tbl:List ORow):List ORow->Prop
 |[]=>True
 |r::rs=>(AllL (fun x=>SrcS st tbl x.1 x.2 (srcS tbl r.pre x.1)) r.s/\AllL (fun x=>SrcH st tbl x.1 x.2 (srcH tbl r.pre x.1)) r.h)/\SeesW st tbl rs
theorem SeesW.get {st:AState} {tbl:List ORow}:∀ {rs:List ORow},SeesW st tbl rs->∀ {r:ORow},r∈rs->AllL (fun x=>SrcS st tbl x.1 x.2 (srcS tbl r.pre x.1)) r.s/\AllL (fun x=>SrcH st tbl x.1 x.2 (srcH tbl r.pre x.1)) r.h
 |r::rs,h,r',hr=>by
  rcases List.mem_cons.1 hr with rfl|hr
  ·exact h.1
  ·exact SeesW.get (rs:=rs) h.2 hr
def OrdD (ops:Array Oper) (n:Nat):List Nat->Prop
 |[]=>True
 |j::ys=>(∀ q,q < n->waitsB ops j q=true->q∈ys)/\j ∉ ys/\OrdD ops n ys
theorem OrdD.wait {ops:Array Oper} {n:Nat}:∀ {d:List Nat},OrdD ops n d->∀ {q i:Nat},q∈d->i < n->waitsB ops q i=true->i∈d
 |j::ys,h,q,i,hq,hi,hw=>by
  rcases List.mem_cons.1 hq with rfl|hq
  ·exact List.mem_cons_of_mem _ (h.1 i hi hw)
  ·exact List.mem_cons_of_mem _ (h.2.2.wait hq hi hw)
theorem OrdD.split {ops:Array Oper} {n:Nat} {wr:Nat->Bool} {j:Nat}:∀ {d:List Nat},OrdD ops n d->j∈d->(∀ q∈d,q < n)->(∀ q∈d,q≠j->wr q=true->waitsB ops j q=true)->∃ xs ys,d=xs++j::ys/\∀ q∈xs,wr q=false
 |k::ys,h,hj,hn,hc=>by
  by_cases e:k=j
  ·subst e;exact ⟨[],ys,rfl,fun q hq=>by cases hq⟩
  ·have hj':j∈ys:=(List.mem_cons.1 hj).resolve_left (Ne.symm e)
   obtain ⟨xs,zs,h1,h2⟩:=h.2.2.split hj' (fun q hq=>hn q (List.mem_cons_of_mem _ hq)) (fun q hq=>hc q (List.mem_cons_of_mem _ hq))
   refine ⟨k::xs,zs,by rw [h1];rfl,fun q hq=>?_⟩
   rcases List.mem_cons.1 hq with rfl|hq
   ·cases hw:wr q with
    |false=>rfl
    |true=>exact absurd (h.2.2.wait hj' (hn q List.mem_cons_self) (hc q List.mem_cons_self e hw)) h.2.1
   ·exact h2 q hq
section
variable {st:AState} {tbl:List ORow}
theorem wrS_of {x q:Nat} {r:ORow} (hr:tbl[q]?=some r) (h:wrS tbl x q=false):r.dst≠some x:=fun e=>by
 unfold wrS at h;rw [hr] at h;simp only [e] at h;rw [Nat.beq_refl] at h;cases h
theorem wrH_of {k q:Nat} {r:ORow} (hr:tbl[q]?=some r) (h:wrH tbl k q=false):k ∉ keys r.nb/\k ∉ r.E:=by
 unfold wrH at h;rw [hr] at h
 simp only [Bool.or_eq_false_iff] at h
 exact ⟨fun hk=>(Bool.eq_false_iff.1 h.2) (memB_iff.2 hk),fun hk=>(Bool.eq_false_iff.1 h.1) (memB_iff.2 hk)⟩
theorem seqW_s {xs ys:List Nat} {j x:Nat} {r:ORow} (hx:∀ q∈xs,wrS tbl x q=false) (hr:tbl[j]?=some r) (hd:r.dst=some x):look (seqS st tbl (xs++j::ys)).s x=some r.v:=by
 induction xs with
 |nil=>
  rw [List.nil_append,seq_some hr,hd]
  show look ((x,r.v)::(seqS st tbl ys).s) x=_
  rw [look_cons,if_pos rfl]
 |cons q xs ih=>
  have ih:=ih fun p hp=>hx p (List.mem_cons_of_mem _ hp)
  rw [List.cons_append]
  cases hq:tbl[q]? with
  |none=>rw [seq_none hq];exact ih
  |some r'=>
   rw [seq_some hq]
   have hne:=wrS_of hq (hx q List.mem_cons_self)
   cases hd':r'.dst with
   |none=>exact ih
   |some d=>
    show look ((d,r'.v)::(seqS st tbl (xs++j::ys)).s) x=_
    rw [look_cons,if_neg (fun e=>hne (by rw [hd',e]))]
    exact ih
theorem look_none_keys {l:List (Nat×AB)} {k:Nat} (h:k ∉ keys l):look l k=none:=by
 cases hl:look l k with
 |none=>rfl
 |some b=>exact absurd (List.mem_map.2 ⟨(k,b),look_mem hl,rfl⟩) h
theorem seqW_h {xs ys:List Nat} {j k:Nat} {b:AB} {r:ORow} (hx:∀ q∈xs,wrH tbl k q=false) (hr:tbl[j]?=some r) (hn:(keys r.nb).Nodup) (hb:(k,b)∈r.nb):look (seqS st tbl (xs++j::ys)).h k=some b:=by
 induction xs with
 |nil=>
  rw [List.nil_append,seq_some hr,put_h]
  show look (r.nb++del r.E (seqS st tbl ys).h) k=_
  rw [look_append,look_of_mem hn hb,Option.some_or]
 |cons q xs ih=>
  have ih:=ih fun p hp=>hx p (List.mem_cons_of_mem _ hp)
  rw [List.cons_append]
  cases hq:tbl[q]? with
  |none=>rw [seq_none hq];exact ih
  |some r'=>
   rw [seq_some hq,put_h]
   obtain ⟨h1,h2⟩:=wrH_of hq (hx q List.mem_cons_self)
   show look (r'.nb++del r'.E (seqS st tbl (xs++j::ys)).h) k=_
   rw [look_append,look_none_keys h1,Option.none_or,look_del_ne h2]
   exact ih
end
theorem range_all {n:Nat} {p:Nat->Bool} (h:(List.range n).all p=true) {q:Nat} (hq:q < n):p q=true:=List.all_eq_true.1 h q (List.mem_range.2 hq)
section
variable {P:Program} {W0:World} {F:Nat->Prop} {N:NT} {T0:Nat->Prop} {pin:List (Nat×Adr)} {Q:Exit->AState->Prop} {st:AState}
theorem AC.drawW {id:Nat} {l:List Oper} (tbl:List ORow) (fin:AState) (fp:List Nat) (hm:P.follows .mixedOrders=true) (hB:drawWB l.toArray tbl N.1 st fin fp=true) (hrows:RowsOK P l.toArray tbl l) (hsee:SeesW st tbl tbl)
  (hfin:AllL (fun x=>SrcS st tbl x.1 x.2 (srcS tbl fp x.1)) fin.s/\AllL (fun x=>SrcH st tbl x.1 x.2 (srcH tbl fp x.1)) fin.h) (hk:Q .normal fin):AC P W0 F N T0 pin Q (.region id l.toArray true) st:=by
 rintro a w ⟨σ0,T1,hT1,S0,hp0⟩
 unfold drawWB at hB
 simp only [Bool.and_eq_true] at hB
 obtain ⟨⟨⟨⟨hall,hlen⟩,hfn⟩,hfs⟩,hfh⟩:=hB
 have hlen:=Nat.eq_of_beq_eq_true hlen
 have tab:∀ i r,tbl[i]?=some r->rowWB l.toArray tbl N.1 st fin i r=true:=fun i r hr=>by have:=allWB_get hall hr;rwa [Nat.zero_add] at this
 have nbnd:∀ (i:Nat) (r:ORow),tbl[i]?=some r->(keys r.nb).Nodup:=fun i r hr=>by
  have:=tab i r hr
  simp only [rowWB,Bool.and_eq_true] at this
  exact nodupB_iff this.1.1.1.2
 have nbk:∀ (i:Nat) (r:ORow) k,tbl[i]?=some r->k∈keys r.nb->k < fin.n/\(k∈r.E\/(st.n<=k/\∀ q,q < tbl.length->q≠i->wrH tbl k q=true->waitsB l.toArray q i=true)):=fun i r k hr hk=>by
  have:=tab i r hr
  simp only [rowWB,Bool.and_eq_true] at this
  obtain ⟨x,hx,rfl⟩:=List.mem_map.1 hk
  have h1:=List.all_eq_true.1 this.1.1.2 x hx
  simp only [Bool.and_eq_true,Bool.or_eq_true,Nat.blt_eq] at h1
  refine ⟨h1.1,?_⟩
  rcases h1.2 with h2|⟨h2,h3⟩
  ·exact .inl (memB_iff.1 h2)
  ·refine .inr ⟨Nat.le_of_ble_eq_true h2,fun q hq hne hw=>?_⟩
   have h4:=range_all h3 hq
   simp only [Bool.or_eq_true,Bool.not_eq_true'] at h4
   rcases h4 with (h4|h4)|h4
   ·exact absurd (Nat.eq_of_beq_eq_true h4) hne
   ·rw [hw] at h4;cases h4
   ·exact h4
 have srcOK:∀ (wr:Nat->Bool) (i:Nat) (src:Option Nat),okSrc l.toArray tbl.length wr i src=true->∀ (done:List Nat),OrdD l.toArray tbl.length done->(∀ q∈done,q < tbl.length)->i ∉ done->i < tbl.length->(∀ j,j < tbl.length->waitsB l.toArray i j=true->j∈done)->
   (src=none/\∀ q∈done,wr q=false)\/∃ j xs ys,src=some j/\done=xs++j::ys/\∀ q∈xs,wr q=false:=by
  intro wr i src hok done hord hdn hi hilt hwait
  cases src with
  |none=>
   refine .inl ⟨rfl,fun q hq=>?_⟩
   cases hw:wr q with
   |false=>rfl
   |true=>
    have h:=range_all hok (hdn q hq)
    simp only [Bool.or_eq_true,Bool.not_eq_true'] at h
    rcases h with (h|h)|h
    ·exact absurd (Nat.eq_of_beq_eq_true h▸hq) hi
    ·rw [hw] at h;cases h
    ·exact absurd (hord.wait hq hilt h) hi
  |some j=>
   simp only [okSrc,Bool.and_eq_true,Nat.blt_eq] at hok
   obtain ⟨⟨h1,h2⟩,h3⟩:=hok
   have hj:=hwait j h1 h2
   obtain ⟨xs,ys,h4,h5⟩:=hord.split (wr:=wr) hj hdn (fun q hq hne hw=>by
    have h:=range_all h3 (hdn q hq)
    simp only [Bool.or_eq_true,Bool.not_eq_true'] at h
    rcases h with (((h|h)|h)|h)|h
    ·exact absurd (Nat.eq_of_beq_eq_true h▸hq) hi
    ·exact absurd (Nat.eq_of_beq_eq_true h) hne
    ·rw [hw] at h;cases h
    ·exact absurd (hord.wait hq hilt h) hi
    ·exact h)
   exact .inr ⟨j,xs,ys,rfl,h4,h5⟩
 have finOK:∀ (wr:Nat->Bool) (src:Option Nat),okFin l.toArray tbl.length wr src=true->∀ (done:List Nat),OrdD l.toArray tbl.length done->(∀ q∈done,q < tbl.length)->(∀ q,q < tbl.length->q∈done)->
   (src=none/\∀ q∈done,wr q=false)\/∃ j xs ys,src=some j/\done=xs++j::ys/\∀ q∈xs,wr q=false:=by
  intro wr src hok done hord hdn hall'
  cases src with
  |none=>
   refine .inl ⟨rfl,fun q hq=>?_⟩
   have h:=range_all hok (hdn q hq)
   simpa using h
  |some j=>
   simp only [okFin,Bool.and_eq_true,Nat.blt_eq] at hok
   obtain ⟨h1,h3⟩:=hok
   obtain ⟨xs,ys,h4,h5⟩:=hord.split (wr:=wr) (hall' j h1) hdn (fun q hq hne hw=>by
    have h:=range_all h3 (hdn q hq)
    simp only [Bool.or_eq_true,Bool.not_eq_true'] at h
    rcases h with (h|h)|h
    ·exact absurd (Nat.eq_of_beq_eq_true h) hne
    ·rw [hw] at h;cases h
    ·exact h)
   exact .inr ⟨j,xs,ys,rfl,h4,h5⟩
 have viewS:∀ (done:List Nat) x v src,SrcS st tbl x v src->((src=none/\∀ q∈done,wrS tbl x q=false)\/∃ j xs ys,src=some j/\done=xs++j::ys/\∀ q∈xs,wrS tbl x q=false)->look (seqS st tbl done).s x=some v:=by
  intro done x v src hs hc
  rcases hc with ⟨rfl,hc⟩|⟨j,xs,ys,rfl,rfl,hc⟩
  ·rw [seq_base fun i hi r hr=>wrS_of hr (hc i hi)];exact hs
  ·obtain ⟨q,h1,h2,rfl⟩:=hs
   exact seqW_s hc h1 h2
 have viewH:∀ (done:List Nat) k b src,SrcH st tbl k b src->((src=none/\∀ q∈done,wrH tbl k q=false)\/∃ j xs ys,src=some j/\done=xs++j::ys/\∀ q∈xs,wrH tbl k q=false)->look (seqS st tbl done).h k=some b:=by
  intro done k b src hs hc
  rcases hc with ⟨rfl,hc⟩|⟨j,xs,ys,rfl,rfl,hc⟩
  ·rw [seq_heap_base fun i hi r hr=>wrH_of hr (hc i hi)];exact hs
  ·obtain ⟨q,h1,h2⟩:=hs
   exact seqW_h hc h1 (nbnd j q h1) h2
 let InvD:Array Bool->Act->World->Prop:=fun listed a w=>HeadInv .any l.toArray tbl.length listed/\∃ done:List Nat,(∀ i,i∈done↔i < tbl.length/\listed.getD i false=true)/\OrdD l.toArray tbl.length done/\∃ σ T,(∀ b,b < W0.heap.size->(T b->T0 b)/\(T0 b->T b))/\Sim W0 F N σ T (seqS st tbl done) a w/\(∀ k g,look pin k=some g->σ k=some g)/\
  ∀ k,st.n<=k->(∀ i∈done,∀ r,tbl[i]?=some r->k ∉ keys r.nb)->σ k=none
 have step:∀ listed a w i o,InvD listed a w->l.toArray[i]?=some o->i < tbl.length->i∈Region.ready .any l.toArray listed->wpOp P l.toArray (QX W0 F N T0 pin Q) i (InvD (listed.setIfInBounds i true)) a w:=by
  rintro listed a w i o ⟨H,done,hdone,hord,σ,T,hT,S,hp,hfresh⟩ ho hi hr
  obtain ⟨r,hri⟩:∃ r,tbl[i]?=some r:=⟨_,List.getElem?_eq_getElem hi⟩
  have t:=tab i r hri
  simp only [rowWB,Bool.and_eq_true] at t
  obtain ⟨⟨⟨⟨⟨t1,t2⟩,_⟩,_⟩,t5⟩,t6⟩:=t
  obtain ⟨hun,o',ho',hallr⟩:=mem_ready.1 hr
  have hoo:o'=o:=Option.some.inj (ho'.symm.trans ho)
  subst hoo
  rw [ho] at t1
  simp only [Bool.and_eq_true] at t1
  have hnot:i ∉ done:=fun hm=>by have:=((hdone i).1 hm).2;rw [getD_both hun] at this;cases this
  have hdst:o'.dst=r.dst/\∀ d,o'.dst=some d->d < N.1:=by
   cases h1:o'.dst with
   |none=>cases h2:r.dst with
    |none=>exact ⟨rfl,fun d h=>by cases h⟩
    |some d=>rw [h1,h2] at t1;cases t1.1
   |some d=>cases h2:r.dst with
    |none=>rw [h1,h2] at t1;cases t1.1
    |some d'=>
     rw [h1,h2] at t1
     simp only [Bool.and_eq_true,Nat.blt_eq] at t1
     obtain rfl:=Nat.eq_of_beq_eq_true t1.1.1
     exact ⟨rfl,fun d'' h=>by injection h with h;subst h;exact t1.1.2⟩
  have hdn:∀ q∈done,q < tbl.length:=fun q hq=>((hdone q).1 hq).1
  have hwait:∀ j,j < tbl.length->waitsB l.toArray i j=true->j∈done:=fun j hj hw=>(hdone j).2 ⟨hj,waitsB_listed H ho hallr hw⟩
  obtain ⟨hsS,hsH⟩:=hsee.get (List.mem_of_getElem? hri)
  have hs:∀ t x,look r.st.s t=some x->look (seqS st tbl done).s t=some x:=fun t x hx=>
   viewS done t x _ (hsS.mem (t,x) (look_mem hx)) (srcOK _ i _ (List.all_eq_true.1 t5 (t,x) (look_mem hx)) done hord hdn hnot hi hwait)
  have hh:∀ k b,look r.st.h k=some b->look (seqS st tbl done).h k=some b:=fun k b hb=>
   viewH done k b _ (hsH.mem (k,b) (look_mem hb)) (srcOK _ i _ (List.all_eq_true.1 t6 (k,b) (look_mem hb)) done hord hdn hnot hi hwait)
  have Cr:Core σ T r.st a w:=S.core.sub hs hh
  have fin':∀ σ' T' w' u,Ext σ T w σ' T' w' r.nb r.E->ARel σ' T' w' r.v u->InvD (listed.setIfInBounds i true) (a.put o'.dst u) w':=by
   intro σ' T' w' u X hv
   refine ⟨H.set hr hi,i::done,fun j=>?_,⟨hwait,hnot,hord⟩,σ',T',fun b hb=>⟨fun hb'=>(hT b hb).1 (X.grow.Tle b (Nat.lt_of_lt_of_le hb S.size) hb'),fun h0=>X.Tge b ((hT b hb).2 h0)⟩,?_,fun k g hk=>X.grow.σle _ _ (hp k g hk),fun k hk hkn=>?_⟩
   ·rw [List.mem_cons]
    by_cases e:j=i
    ·subst e
     have hsz:j < listed.size:=by rw [H.size];omega
     simp [hi,hsz]
    ·rw [getD_set_ne false (Ne.symm e)]
     simp [e,hdone]
   ·rw [seq_some hri,hdst.1]
    refine S.step (fun e he=>?_) (fun d hd=>hdst.2 d (hdst.1▸hd)) X hv
    obtain ⟨⟨e',b⟩,hm,rfl⟩:=List.mem_map.1 (memB_iff.1 (List.all_eq_true.1 t2 e he))
    cases hl:look r.h e' with
    |none=>exact absurd hl (look_ne_none hm)
    |some b'=>exact ⟨b',hh e' b' hl⟩
   ·rw [X.dom k fun b hb=>hkn i List.mem_cons_self r hri (List.mem_map.2 ⟨(k,b),hb,rfl⟩)]
    exact hfresh k hk fun j hj=>hkn j (List.mem_cons_of_mem _ hj)
  obtain ⟨o2,ho2,hro⟩:=hrows.get hri
  have:o2=o':=by
   have h1:l.toArray[i]?=some o2:=by simpa using ho2
   exact Option.some.inj (h1.symm.trans ho)
  subst this
  rcases hro with ⟨hw,hg⟩|⟨hw,hv,hnb,hE⟩
  ·refine wpOp_of_wp ho (hw σ T a w Cr) (wp_monoQ (operMono (hg σ T a w Cr fun k b hk hkE=>?_) ?_))
   ·obtain ⟨_,h1|⟨h1,h2⟩⟩:=nbk i r k hri (List.mem_map.2 ⟨(k,b),hk,rfl⟩)
    ·exact absurd h1 hkE
    ·refine hfresh k h1 fun j hj q hq hkq=>?_
     have hne:j≠i:=fun e=>hnot (e▸hj)
     have hwq:wrH tbl k j=true:=by
      unfold wrH;rw [hq];simp only [Bool.or_eq_true];exact .inr (memB_iff.2 hkq)
     exact hnot (hord.wait hj hi (h2 j (hdn j hj) hne hwq))
   ·rintro a' w' ⟨u,σ',T',rfl,X,hv⟩
    exact fin' σ' T' w' u X hv
  ·refine wpOp_of_skip ho (hw σ T a w Cr) (fin' σ T w undef ?_ ?_)
   ·rw [hnb,hE];exact Ext.same S.core.Tlt
   ·rw [hv];exact ⟨[],rfl,trivial⟩
 have atEnd:∀ listed a w,InvD listed a w->(∀ i,i < tbl.length->listed.getD i false=true)->Inv W0 F N T0 pin fin a w:=by
  rintro listed a w ⟨H,done,hdone,hord,σ,T,hT,S,hp,hfresh⟩ hl
  have hdn:∀ q∈done,q < tbl.length:=fun q hq=>((hdone q).1 hq).1
  have hin:∀ q,q < tbl.length->q∈done:=fun q hq=>(hdone q).2 ⟨hq,hl q hq⟩
  have hs:∀ t x,look fin.s t=some x->look (seqS st tbl done).s t=some x:=fun t x hx=>
   viewS done t x _ (hfin.1.mem (t,x) (look_mem hx)) (finOK _ _ (List.all_eq_true.1 hfs (t,x) (look_mem hx)) done hord hdn hin)
  have hfhx:∀ k b,look fin.h k=some b->k < fin.n/\okFin l.toArray tbl.length (wrH tbl k) (srcH tbl fp k)=true:=fun k b hb=>by
   have:=List.all_eq_true.1 hfh _ (look_mem hb)
   simpa only [Bool.and_eq_true,Nat.blt_eq] using this
  have hh:∀ k b,look fin.h k=some b->look (seqS st tbl done).h k=some b:=fun k b hb=>
   viewH done k b _ (hfin.2.mem (k,b) (look_mem hb)) (finOK _ _ (hfhx k b hb).2 done hord hdn hin)
  refine ⟨σ,T,hT,⟨S.core.sub hs hh,S.os,S.tape,S.output,S.size,S.old,fun k b g hk=>S.own k b g (hh k b hk),fun k hk=>?_,fun k b hk=>(hfhx k b hk).1,S.tsz,S.dfr⟩,hp⟩
  have hk1:=Nat.le_of_ble_eq_true hfn
  exact hfresh k (by omega) fun i _ r hr hkr=>by have:=(nbk i r k hr hkr).1;omega
 have main:∀ k listed a1 w1,InvD listed a1 w1->unlisted tbl.length listed=k->wpAny P .any l.toArray (QX W0 F N T0 pin Q) k listed a1 w1:=by
  intro k
  induction k with
  |zero=>
   intro listed a1 w1 I hk'
   have hl:∀ i,i < tbl.length->listed.getD i false=true:=fun i hi=>by
    have h:=List.eq_nil_of_length_eq_zero hk'
    have h2:=List.filter_eq_nil_iff.1 h i (List.mem_range.2 hi)
    simpa using h2
   have hIf:=atEnd listed a1 w1 I hl
   refine ⟨List.eq_nil_iff_forall_not_mem.2 fun i hi=>?_,fin,hk,hIf⟩
   obtain ⟨h1,o,ho,_⟩:=mem_ready.1 hi
   have hi':i < l.toArray.size:=(Array.getElem?_eq_some_iff.1 ho).1
   have:=hl i (by omega)
   rw [getD_both h1] at this;cases this
  |succ k ih=>
   intro listed a1 w1 I hk'
   have hex:∃ i,i < tbl.length/\listed.getD i false=false/\∀ j,j < i->listed.getD j false=true:=by
    have h1:∃ i,i < tbl.length/\listed.getD i false=false:=by
     have hne:((List.range tbl.length).filter fun i=>!listed.getD i false)≠[]:=fun e=>by unfold unlisted at hk';rw [e] at hk';cases hk'
     obtain ⟨x,hx⟩:=List.exists_mem_of_ne_nil _ hne
     obtain ⟨hx1,hx2⟩:=List.mem_filter.1 hx
     exact ⟨x,List.mem_range.1 hx1,by simpa using hx2⟩
    obtain ⟨i,hi,hmin⟩:=exists_least h1
    refine ⟨i,hi.1,hi.2,fun j hj=>?_⟩
    cases hjl:listed.getD j false with
    |true=>rfl
    |false=>exact absurd (hmin j ⟨by omega,hjl⟩) (by omega)
   obtain ⟨i0,hi0,hun0,hlow⟩:=hex
   have hopi:∀ i,i < tbl.length->∃ o,l.toArray[i]?=some o:=fun i hi=>⟨_,Array.getElem?_eq_getElem (by omega)⟩
   have hin:∀ i,i < tbl.length->listed.getD i false=false->listed.getD i true=false:=fun i hi h=>getD_in (by rw [I.1.size];omega) h
   have hready:i0∈Region.ready .any l.toArray listed:=by
    obtain ⟨o,ho⟩:=hopi i0 hi0
    obtain ⟨r,hr⟩:∃ r,tbl[i0]?=some r:=⟨_,List.getElem?_eq_getElem hi0⟩
    have t:=tab i0 r hr
    simp only [rowWB,Bool.and_eq_true] at t
    have t1:=t.1.1.1.1.1
    rw [ho] at t1
    simp only [Bool.and_eq_true] at t1
    refine mem_ready.2 ⟨hin i0 hi0 hun0,o,ho,fun e he hb=>hlow _ ?_⟩
    have h3:=Array.all_eq_true'.1 t1.2 e he
    simp only [Bool.or_eq_true,Bool.not_eq_true',Nat.blt_eq] at h3
    exact h3.resolve_left (by rw [hb];simp)
   refine ⟨fun h=>(by rw [h] at hready;cases hready),fun i hi=>?_⟩
   have hilt:i < tbl.length:=by
    obtain ⟨_,o,ho,_⟩:=mem_ready.1 hi
    have hi':i < l.toArray.size:=(Array.getElem?_eq_some_iff.1 ho).1
    omega
   obtain ⟨o,ho⟩:=hopi i hilt
   refine wpOp_mono (fun a' w' I'=>ih _ a' w' I' ?_) (step listed a1 w1 i o I ho hilt hi)
   have hunl:=getD_both (mem_ready.1 hi).1
   have hset:(listed.setIfInBounds i true).getD i false=true:=by
    have:i < listed.size:=by rw [I.1.size];omega
    simp [this]
   have:=count_set (p:=fun j=>!listed.getD j false) (q:=fun j=>!(listed.setIfInBounds i true).getD j false) (i:=i) (by simp only [hunl];rfl) (by simp only [hset];rfl)
    (fun j hj=>by simp only [getD_set_ne false (Ne.symm hj)]) (List.range tbl.length) List.nodup_range (List.mem_range.2 hilt)
   unfold unlisted at hk' ⊢
   omega
 refine wp_region_any hm ?_
 have inv0:HeadInv .any l.toArray tbl.length (Array.replicate l.toArray.size false):=
  ⟨by simp,fun j oj _ hl=>(by rw [getD_replicate_false] at hl;cases hl),fun t _ ht=>getD_in (by simpa using ht) (getD_replicate_false _ _)⟩
 have hw0:Sim W0 F N σ0 T1 st a {w with drawn:=w.drawn+1}:=
  ⟨S0.core.drew,S0.os,S0.tape,S0.output,S0.size,S0.old,S0.own,S0.next,S0.hn,S0.tsz,S0.dfr⟩
 have I0:InvD (Array.replicate l.toArray.size false) a {w with drawn:=w.drawn+1}:=
  ⟨inv0,[],fun i=>by rw [getD_replicate_false];simp,trivial,σ0,T1,hT1,hw0,hp0,fun k hk _=>S0.next k hk⟩
 have:=main tbl.length _ a _ I0 (by
  unfold unlisted
  rw [List.filter_eq_self.2 (fun i _=>by rw [getD_replicate_false];rfl),List.length_range])
 rw [hlen] at this
 exact this
end
end Go.Proofs.Ytegepioggeggaaa.Dev
namespace Go.Proofs.Ytegepioggeggaaa.Dev
open Go.RowKit

structure Advice where (card shop sum time:Int)
 deriving DecidableEq
structure Use where (time sum:Int)
 deriving DecidableEq
structure Transfer where (number kind auth sum:Int)
 deriving DecidableEq
structure Entry where (account sum:Int)
 deriving DecidableEq
structure Record where (shop auth kind sum:Int)
 deriving DecidableEq
structure Pace where (ticks count sum:Int)
 deriving DecidableEq
structure Fault where (err at_:Int)
 deriving DecidableEq
structure Card where (money held:Int) (pace:Pace) (uses:List Use)
 deriving DecidableEq
structure Sender where (sent:Int) (kept:List Transfer)
 deriving DecidableEq
def rI (n:Int):List D:=[dI n]
def rU8 (n:Int):List D:=[.v (.int .u8 n)]
def rAdvice (x:Advice):List D:=[dI x.card,dI x.shop,dI x.sum,dI x.time]
def rUse (x:Use):List D:=[dI x.time,dI x.sum]
def rTransfer (x:Transfer):List D:=[dI x.number,dI x.kind,dI x.auth,dI x.sum]
def rEntry (x:Entry):List D:=[dI x.account,dI x.sum]
def rRecord (x:Record):List D:=[dI x.shop,dI x.auth,dI x.kind,dI x.sum]
def rLUse (l:List Use):List D:=[.r 2 (l.map rUse)]
theorem isv_rI (l:List Int):∀ row∈l.map rI,∀ d∈row,d.isV=true:=by
 intro row hr d hd
 obtain ⟨x,_,rfl⟩:=List.mem_map.1 hr
 simp [rI] at hd
 subst hd;rfl
theorem isv_rU8 (l:List Int):∀ row∈l.map rU8,∀ d∈row,d.isV=true:=by
 intro row hr d hd
 obtain ⟨x,_,rfl⟩:=List.mem_map.1 hr
 simp [rU8] at hd
 subst hd;rfl
theorem isv_rUse (l:List Use):∀ row∈l.map rUse,∀ d∈row,d.isV=true:=by
 intro row hr d hd
 obtain ⟨x,_,rfl⟩:=List.mem_map.1 hr
 simp [rUse] at hd
 rcases hd with rfl|rfl<;>rfl
theorem isv_rTransfer (l:List Transfer):∀ row∈l.map rTransfer,∀ d∈row,d.isV=true:=by
 intro row hr d hd
 obtain ⟨x,_,rfl⟩:=List.mem_map.1 hr
 simp [rTransfer] at hd
 rcases hd with rfl|rfl|rfl|rfl<;>rfl
theorem isv_rEntry (l:List Entry):∀ row∈l.map rEntry,∀ d∈row,d.isV=true:=by
 intro row hr d hd
 obtain ⟨x,_,rfl⟩:=List.mem_map.1 hr
 simp [rEntry] at hd
 rcases hd with rfl|rfl<;>rfl
theorem isv_rRecord (l:List Record):∀ row∈l.map rRecord,∀ d∈row,d.isV=true:=by
 intro row hr d hd
 obtain ⟨x,_,rfl⟩:=List.mem_map.1 hr
 simp [rRecord] at hd
 rcases hd with rfl|rfl|rfl|rfl<;>rfl
end Go.Proofs.Ytegepioggeggaaa.Dev
namespace Go.Proofs.Ytegepioggeggaaa.Dev
def sumB (n:Int):Bool:=decide (n>=0) && decide (n<=1000000)
structure Auth where (card shop sum captured refunded disputed till:Int) (shut:Bool)
 deriving DecidableEq
def noAuth:Auth:=⟨0,0,0,0,0,0,0,false⟩
def wrongAuth (a:Auth):Int:=
 if a.sum < 0\/a.sum > 1000000\/a.captured < 0\/a.captured > 1000000\/a.refunded < 0\/a.refunded > 1000000\/a.disputed < 0\/a.disputed > 1000000\/a.card < 0\/a.card > 7\/a.shop < 0\/a.shop > 7\/a.till < 0\/a.till > 1000100 then 3
 else if a.sum < a.captured\/a.captured < a.refunded+a.disputed then 8 else 0
def newAuth (card shop n time:Int):Auth×Int:=
 if n < 1\/n > 1000000\/time < 0\/time > 1000000\/card < 0\/card > 7\/shop < 0\/shop > 7 then (noAuth,3) else (⟨card,shop,n,0,0,0,time+100,false⟩,0)
def holdAuth (a:Auth):Int:=if a.shut=true then 0 else a.sum - a.captured
def lateAuth (a:Auth) (t:Int):Auth:=⟨a.card,a.shop,a.sum,a.captured,a.refunded,a.disputed,a.till,a.shut||decide (a.till<=t)⟩
def openAuth (a:Auth) (kind n:Int):Auth×Int:=
 if a.shut=true then (a,9)
 else if kind=1 then (if n > 1000000 - a.sum then (a,4) else (⟨a.card,a.shop,a.sum+n,a.captured,a.refunded,a.disputed,a.till,false⟩,0))
 else if n > a.sum - a.captured then (a,10)
 else if kind=4 then (⟨a.card,a.shop,a.sum - n,a.captured,a.refunded,a.disputed,a.till,decide (a.sum - n=a.captured)⟩,0)
 else (⟨a.card,a.shop,a.sum,a.captured+n,a.refunded,a.disputed,a.till,decide (kind=3)||decide (a.captured+n=a.sum)⟩,0)
def moveAuth (a:Auth) (kind n:Int):Auth×Int:=
 if wrongAuth a≠0 then (noAuth,wrongAuth a)
 else if kind < 1\/kind > 8 then (noAuth,1)
 else if n < 1\/n > 1000000 then (noAuth,3)
 else if kind=5 then (if n > a.captured - a.refunded - a.disputed then (noAuth,10) else (⟨a.card,a.shop,a.sum,a.captured,a.refunded+n,a.disputed,a.till,a.shut⟩,0))
 else if kind=6 then (if n > a.captured - a.refunded - a.disputed then (noAuth,10) else (⟨a.card,a.shop,a.sum,a.captured,a.refunded,a.disputed+n,a.till,a.shut⟩,0))
 else if kind=7 then (if n > a.disputed then (noAuth,10) else (⟨a.card,a.shop,a.sum,a.captured,a.refunded+n,a.disputed - n,a.till,a.shut⟩,0))
 else if kind=8 then (if n > a.disputed then (noAuth,10) else (⟨a.card,a.shop,a.sum,a.captured,a.refunded,a.disputed - n,a.till,a.shut⟩,0))
 else if (openAuth a kind n).2≠0 then (noAuth,(openAuth a kind n).2) else openAuth a kind n
theorem rightAuth {a:Auth} (h:wrongAuth a=0):0<=a.sum/\a.sum<=1000000/\0<=a.captured/\a.captured<=a.sum/\0<=a.refunded/\0<=a.disputed/\a.refunded+a.disputed<=a.captured/\0<=a.card/\a.card<=7/\0<=a.shop/\a.shop<=7/\0<=a.till/\a.till<=1000100:=by
 unfold wrongAuth at h
 split at h
 ·cases h
 ·split at h
  ·cases h
  ·omega
theorem rightAuth' {a:Auth} (h:0<=a.sum/\a.sum<=1000000/\0<=a.captured/\a.captured<=a.sum/\0<=a.refunded/\0<=a.disputed/\a.refunded+a.disputed<=a.captured/\0<=a.card/\a.card<=7/\0<=a.shop/\a.shop<=7/\0<=a.till/\a.till<=1000100):wrongAuth a=0:=by
 unfold wrongAuth
 rw [if_neg (by omega),if_neg (by omega)]
inductive Moved (a:Auth) (kind n:Int):Auth->Prop
 |more (h:kind=1) (hs:a.shut=false) (hn:n<=1000000 - a.sum):Moved a kind n ⟨a.card,a.shop,a.sum+n,a.captured,a.refunded,a.disputed,a.till,false⟩
 |take (h:kind=2\/kind=3) (hs:a.shut=false) (hn:n<=a.sum - a.captured):Moved a kind n ⟨a.card,a.shop,a.sum,a.captured+n,a.refunded,a.disputed,a.till,decide (kind=3)||decide (a.captured+n=a.sum)⟩
 |less (h:kind=4) (hs:a.shut=false) (hn:n<=a.sum - a.captured):Moved a kind n ⟨a.card,a.shop,a.sum - n,a.captured,a.refunded,a.disputed,a.till,decide (a.sum - n=a.captured)⟩
 |refund (h:kind=5) (hn:n<=a.captured - a.refunded - a.disputed):Moved a kind n ⟨a.card,a.shop,a.sum,a.captured,a.refunded+n,a.disputed,a.till,a.shut⟩
 |dispute (h:kind=6) (hn:n<=a.captured - a.refunded - a.disputed):Moved a kind n ⟨a.card,a.shop,a.sum,a.captured,a.refunded,a.disputed+n,a.till,a.shut⟩
 |forCard (h:kind=7) (hn:n<=a.disputed):Moved a kind n ⟨a.card,a.shop,a.sum,a.captured,a.refunded+n,a.disputed - n,a.till,a.shut⟩
 |forShop (h:kind=8) (hn:n<=a.disputed):Moved a kind n ⟨a.card,a.shop,a.sum,a.captured,a.refunded,a.disputed - n,a.till,a.shut⟩
theorem moved_of {a:Auth} {kind n:Int} {b:Auth} {e:Int} (h:moveAuth a kind n=(b,e)):(e≠0/\b=noAuth)\/(e=0/\wrongAuth a=0/\1<=n/\n<=1000000/\Moved a kind n b):=by
 unfold moveAuth at h
 split at h
 ·rename_i h1;injection h with h2 h3;exact .inl ⟨h3▸h1,h2.symm⟩
 rename_i h1
 have h1:wrongAuth a=0:=by omega
 split at h
 ·injection h with h2 h3;exact .inl ⟨by omega,h2.symm⟩
 split at h
 ·injection h with h2 h3;exact .inl ⟨by omega,h2.symm⟩
 split at h
 ·split at h
  ·injection h with h2 h3;exact .inl ⟨by omega,h2.symm⟩
  ·injection h with h2 h3;subst h2;exact .inr ⟨h3.symm,h1,by omega,by omega,.refund (by omega) (by omega)⟩
 split at h
 ·split at h
  ·injection h with h2 h3;exact .inl ⟨by omega,h2.symm⟩
  ·injection h with h2 h3;subst h2;exact .inr ⟨h3.symm,h1,by omega,by omega,.dispute (by omega) (by omega)⟩
 split at h
 ·split at h
  ·injection h with h2 h3;exact .inl ⟨by omega,h2.symm⟩
  ·injection h with h2 h3;subst h2;exact .inr ⟨h3.symm,h1,by omega,by omega,.forCard (by omega) (by omega)⟩
 split at h
 ·split at h
  ·injection h with h2 h3;exact .inl ⟨by omega,h2.symm⟩
  ·injection h with h2 h3;subst h2;exact .inr ⟨h3.symm,h1,by omega,by omega,.forShop (by omega) (by omega)⟩
 split at h
 ·rename_i h4;injection h with h2 h3;exact .inl ⟨h3▸h4,h2.symm⟩
 ·rename_i h4
  unfold openAuth at h h4
  split at h
  ·rename_i h5;rw [if_pos h5] at h4;simp at h4
  rename_i h5
  rw [if_neg h5] at h4
  have h5:a.shut=false:=by simpa using h5
  split at h
  ·rename_i h6;rw [if_pos h6] at h4
   split at h
   ·rename_i h7;rw [if_pos h7] at h4;simp at h4
   ·injection h with h2 h3;subst h2;exact .inr ⟨h3.symm,h1,by omega,by omega,.more (by omega) h5 (by omega)⟩
  rename_i h6;rw [if_neg h6] at h4
  split at h
  ·rename_i h7;rw [if_pos h7] at h4;simp at h4
  split at h
  ·injection h with h2 h3;subst h2;exact .inr ⟨h3.symm,h1,by omega,by omega,.less (by omega) h5 (by omega)⟩
  ·injection h with h2 h3;subst h2;exact .inr ⟨h3.symm,h1,by omega,by omega,.take (by omega) h5 (by omega)⟩
theorem moved_right {a b:Auth} {kind n:Int} (h:wrongAuth a=0) (h1:1<=n) (h2:n<=1000000) (hm:Moved a kind n b):wrongAuth b=0:=by
 have hr:=rightAuth h
 cases hm<;>exact rightAuth' (by dsimp only;omega)
theorem auth_ext {a b:Auth} (h1:a.card=b.card) (h2:a.shop=b.shop) (h3:a.sum=b.sum) (h4:a.captured=b.captured) (h5:a.refunded=b.refunded) (h6:a.disputed=b.disputed) (h7:a.till=b.till) (h8:a.shut=b.shut):a=b:=by
 cases a;cases b;simp_all
theorem plain_right {a b:Auth} {kind n:Int} (h:moveAuth a kind n=(b,0)):wrongAuth b=0/\b.card=a.card/\b.shop=a.shop/\b.till=a.till/\(a.shut=true->b.shut=true)/\0<=b.sum - b.captured/\b.refunded+b.disputed<=b.captured/\a.captured<=b.captured/\a.refunded<=b.refunded:=by
 rcases moved_of h with ⟨h1,_⟩|⟨_,hw,h1,h2,hm⟩
 ·exact absurd rfl h1
 have hb:=moved_right hw h1 h2 hm
 have hr:=rightAuth hw
 have hrb:=rightAuth hb
 cases hm<;>refine ⟨hb,rfl,rfl,rfl,?_⟩<;>simp_all<;>omega
end Go.Proofs.Ytegepioggeggaaa.Dev
namespace Go.Proofs.Ytegepioggeggaaa.Dev
theorem drop_get {α:Type} {l:List α} {q:Nat} {x:α} (h:l[q]?=some x):l.drop q=x::l.drop (q+1):=by
 obtain ⟨hq,rfl⟩:=List.getElem?_eq_some_iff.1 h
 exact List.drop_eq_getElem_cons hq
theorem take_get {α:Type} {l:List α} {q:Nat} {x:α} (h:l[q]?=some x):l.take (q+1)=l.take q++[x]:=by
 obtain ⟨hq,rfl⟩:=List.getElem?_eq_some_iff.1 h
 exact List.take_succ_eq_append_getElem hq
structure Stand where (cap:Int) (used:List Int) (advices:List Advice)
 deriving DecidableEq

def capB (n:Int):Bool:=decide (0<=n/\n<=1000000)
def okAdv (cards:Nat) (a:Advice):Bool:=
 decide (0<=a.card/\a.card < cards/\0<=a.shop/\a.shop<=7/\1<=a.sum/\a.sum<=1000000/\0<=a.time/\a.time<=1000000)
def given (k:Int):List Advice->Int
 |[]=>0
 |a::l=>(if a.card=k then a.sum else 0)+given k l
def fitUsed (cap:Int) (advs:List Advice):Int->List Int->Int
 |_,[]=>0
 |k,n::l=>if n=given k advs/\n<=cap then fitUsed cap advs (k+1) l else 8
def wrongStand (s:Stand):Int:=
 if 8 < s.used.length\/20 < s.advices.length then 5
 else if ¬capB s.cap then 3
 else if ¬s.advices.all (okAdv s.used.length) then 3
 else fitUsed s.cap s.advices 0 s.used
def noStand:Stand:={cap:=0,used:=[],advices:=[]}
def newStand (limit cards:Int):Stand×Int:=
 if cards < 0\/8 < cards then (noStand,5) else if ¬capB limit then (noStand,3) else ({cap:=limit,used:=List.replicate cards.toNat 0,advices:=[]},0)
def giveStand (s:Stand) (a:Advice):Stand×Int:=
 if wrongStand s≠0 then (noStand,wrongStand s)
 else if 20<=s.advices.length then (noStand,5)
 else if ¬okAdv s.used.length a then (noStand,3)
 else if s.cap < s.used.getD a.card.toNat 0+a.sum then (noStand,10)
 else ({cap:=s.cap,used:=s.used.set a.card.toNat (s.used.getD a.card.toNat 0+a.sum),advices:=s.advices++[a]},0)
def clearStand (s:Stand):Stand×List Advice×Int:=
 if wrongStand s≠0 then (noStand,[],wrongStand s) else ({cap:=s.cap,used:=List.replicate s.used.length 0,advices:=[]},s.advices,0)

theorem given_snoc (k:Int) (l:List Advice) (a:Advice):given k (l++[a])=given k l+if a.card=k then a.sum else 0:=by
 induction l with
 |nil=>simp [given]
 |cons x l ih=>simp only [List.cons_append,given,ih];omega
theorem given_bound (c:Nat) (k:Int) (l:List Advice) (h:l.all (okAdv c)=true):0<=given k l/\given k l<=1000000 * l.length:=by
 induction l with
 |nil=>simp [given]
 |cons x l ih=>
  simp only [List.all_cons,Bool.and_eq_true,okAdv,decide_eq_true_eq] at h
  have:=ih h.2
  simp only [given,List.length_cons]
  split<;>omega
theorem all_no {α:Type} {p:α->Bool} {l:List α} {q:Nat} {x:α} (h:l[q]?=some x) (hx:p x=false):l.all p=false:=by
 rw [List.all_eq_false]
 exact ⟨x,List.mem_of_getElem? h,by simp [hx]⟩
theorem all_yes {α:Type} {p:α->Bool} {l:List α} {q:Nat} {x:α} (ht:(l.take q).all p=true) (h:l[q]?=some x) (hx:p x=true):(l.take (q+1)).all p=true:=by
 rw [take_get h,List.all_append,ht];simp [hx]
theorem wrongStand_5 {s:Stand} (h:8 < s.used.length\/20 < s.advices.length):wrongStand s=5:=by unfold wrongStand;rw [if_pos h]
theorem wrongStand_cap {s:Stand} (h:¬(8 < s.used.length\/20 < s.advices.length)) (hc:capB s.cap=false):wrongStand s=3:=by unfold wrongStand;rw [if_neg h,hc];rfl
theorem wrongStand_adv {s:Stand} (h:¬(8 < s.used.length\/20 < s.advices.length)) (hc:capB s.cap=true) (ha:s.advices.all (okAdv s.used.length)=false):wrongStand s=3:=by
 unfold wrongStand;rw [if_neg h,hc,ha];rfl
theorem wrongStand_fit {s:Stand} (h:¬(8 < s.used.length\/20 < s.advices.length)) (hc:capB s.cap=true) (ha:s.advices.all (okAdv s.used.length)=true):wrongStand s=fitUsed s.cap s.advices 0 s.used:=by
 unfold wrongStand;rw [if_neg h,hc,ha];rfl


theorem fitUsed_iff (cap:Int) (advs:List Advice):∀ (l:List Int) (k:Int),fitUsed cap advs k l=0↔∀ (i:Nat) (x:Int),l[i]?=some x->x=given (k+i) advs/\x<=cap
 |[],k=>by simp [fitUsed]
 |n::l,k=>by
  rw [fitUsed]
  constructor
  ·intro h i x hx
   split at h
   ·rename_i hc
    rcases i with _|i
    ·simp at hx;subst hx;simpa using hc
    ·have:=(fitUsed_iff cap advs l (k+1)).1 h i x (by simpa using hx)
     rw [show k+((i+1:Nat):Int)=k+1+i by omega];exact this
   ·cases h
  ·intro h
   rw [if_pos (by simpa using h 0 n rfl)]
   exact (fitUsed_iff cap advs l (k+1)).2 fun i x hx=>by
    have:=h (i+1) x (by simpa using hx)
    rwa [show k+((i+1:Nat):Int)=k+1+i by omega] at this
theorem fitUsed_two (cap:Int) (advs:List Advice):∀ (l:List Int) (k:Int),fitUsed cap advs k l=0\/fitUsed cap advs k l=8
 |[],_=>.inl rfl
 |n::l,k=>by
  rw [fitUsed]
  split
  ·exact fitUsed_two cap advs l (k+1)
  ·exact .inr rfl
theorem right_parts {s:Stand} (h:wrongStand s=0):s.used.length<=8/\s.advices.length<=20/\capB s.cap=true/\s.advices.all (okAdv s.used.length)=true/\fitUsed s.cap s.advices 0 s.used=0:=by
 by_cases h1:8 < s.used.length\/20 < s.advices.length
 ·rw [wrongStand_5 h1] at h;omega
 ·cases hc:capB s.cap with
  |false=>rw [wrongStand_cap h1 hc] at h;omega
  |true=>
   cases ha:s.advices.all (okAdv s.used.length) with
   |false=>rw [wrongStand_adv h1 hc ha] at h;omega
   |true=>rw [wrongStand_fit h1 hc ha] at h;exact ⟨by omega,by omega,rfl,rfl,h⟩
theorem give_bad {s:Stand} {a:Advice} (h:wrongStand s=0) (hm:s.advices.length < 20) (ha:okAdv s.used.length a=false) (u:List Int) (hu:u.length=s.used.length):wrongStand {cap:=s.cap,used:=u,advices:=s.advices++[a]}=3:=by
 obtain ⟨h1,h2,h3,h4,h5⟩:=right_parts h
 exact wrongStand_adv (by simp only [List.length_append,List.length_singleton];omega) h3 (by simp [hu,ha])
theorem give_fit {s:Stand} {a:Advice} (h:wrongStand s=0) (hm:s.advices.length < 20) (ha:okAdv s.used.length a=true):
  wrongStand {cap:=s.cap,used:=s.used.set a.card.toNat (s.used.getD a.card.toNat 0+a.sum),advices:=s.advices++[a]}=if s.cap < s.used.getD a.card.toNat 0+a.sum then 8 else 0:=by
 obtain ⟨h1,h2,h3,h4,h5⟩:=right_parts h
 have hok:=ha
 simp only [okAdv,decide_eq_true_eq] at hok
 have hlt:a.card.toNat < s.used.length:=by omega
 have hgx:s.used[a.card.toNat]?=some s.used[a.card.toNat]:=List.getElem?_eq_getElem hlt
 have hgd:s.used.getD a.card.toNat 0=s.used[a.card.toNat]:=by simp [hlt]
 have hu:(s.used.set a.card.toNat (s.used.getD a.card.toNat 0+a.sum)).length=s.used.length:=List.length_set
 have h6:wrongStand {cap:=s.cap,used:=s.used.set a.card.toNat (s.used.getD a.card.toNat 0+a.sum),advices:=s.advices++[a]}=fitUsed s.cap (s.advices++[a]) 0 (s.used.set a.card.toNat (s.used.getD a.card.toNat 0+a.sum)):=by
  refine wrongStand_fit ?_ h3 ?_
  ·simp only [List.length_append,List.length_singleton,hu];omega
  ·simp only [hu,List.all_append,h4,List.all_cons,ha,List.all_nil];rfl
 rw [h6]
 have key:=(fitUsed_iff s.cap s.advices s.used 0).1 h5
 by_cases hc:s.cap < s.used.getD a.card.toNat 0+a.sum
 ·rw [if_pos hc]
  rcases fitUsed_two s.cap (s.advices++[a]) (s.used.set a.card.toNat (s.used.getD a.card.toNat 0+a.sum)) 0 with h0|h0
  ·have:=(fitUsed_iff _ _ _ _).1 h0 a.card.toNat (s.used.getD a.card.toNat 0+a.sum) (by simp [hlt])
   omega
  ·exact h0
 ·rw [if_neg hc]
  refine (fitUsed_iff _ _ _ _).2 fun i x hx=>?_
  rw [List.getElem?_set] at hx
  rw [given_snoc]
  by_cases e:a.card.toNat=i
  ·rw [if_pos e,if_pos (by omega)] at hx
   injection hx with hx
   have:=key i s.used[a.card.toNat] (by rw [<-e];exact hgx)
   rw [if_pos (by omega)]
   omega
  ·rw [if_neg e] at hx
   have:=key i x hx
   rw [if_neg (by omega)]
   omega

theorem give_cases {s:Stand} {a:Advice} (h:wrongStand s=0) (hm:s.advices.length < 20):
  (wrongStand {cap:=s.cap,used:=s.used.set a.card.toNat (s.used.getD a.card.toNat 0+a.sum),advices:=s.advices++[a]}=3/\giveStand s a=(noStand,3))\/
  (wrongStand {cap:=s.cap,used:=s.used.set a.card.toNat (s.used.getD a.card.toNat 0+a.sum),advices:=s.advices++[a]}=8/\giveStand s a=(noStand,10))\/
  (wrongStand {cap:=s.cap,used:=s.used.set a.card.toNat (s.used.getD a.card.toNat 0+a.sum),advices:=s.advices++[a]}=0/\
   giveStand s a=({cap:=s.cap,used:=s.used.set a.card.toNat (s.used.getD a.card.toNat 0+a.sum),advices:=s.advices++[a]},0)):=by
 cases ha:okAdv s.used.length a with
 |false=>exact .inl ⟨give_bad h hm ha _ List.length_set,by unfold giveStand;rw [if_neg (by simp [h]),if_neg (by omega),ha];rfl⟩
 |true=>
  rw [give_fit h hm ha]
  by_cases hc:s.cap < s.used.getD a.card.toNat 0+a.sum
  ·exact .inr (.inl ⟨if_pos hc,by unfold giveStand;rw [if_neg (by simp [h]),if_neg (by omega),if_neg (by simp [ha]),if_pos hc]⟩)
  ·exact .inr (.inr ⟨if_neg hc,by unfold giveStand;rw [if_neg (by simp [h]),if_neg (by omega),if_neg (by simp [ha]),if_neg hc]⟩)
theorem give_off {s:Stand} {a:Advice} (h:wrongStand s=0) (hm:s.advices.length < 20) (ha:¬(0<=a.card/\a.card < s.used.length/\1<=a.sum/\a.sum<=1000000)):
  wrongStand {cap:=s.cap,used:=s.used,advices:=s.advices++[a]}=3/\giveStand s a=(noStand,3):=by
 have ha:okAdv s.used.length a=false:=by simp only [okAdv,decide_eq_false_iff_not];omega
 exact ⟨give_bad h hm ha _ rfl,by unfold giveStand;rw [if_neg (by simp [h]),if_neg (by omega),ha];rfl⟩
theorem give_wrong {s:Stand} {a:Advice} (h:wrongStand s≠0):giveStand s a=(noStand,wrongStand s):=by unfold giveStand;rw [if_pos h]
theorem give_many {s:Stand} {a:Advice} (h:wrongStand s=0) (hm:s.advices.length=20):giveStand s a=(noStand,5):=by unfold giveStand;rw [if_neg (by simp [h]),if_pos (by omega)]
theorem used_bound {s:Stand} (h:wrongStand s=0) {i:Nat} {x:Int} (hx:s.used[i]?=some x):0<=x/\x<=1000000:=by
 obtain ⟨h1,h2,h3,h4,h5⟩:=right_parts h
 have:=(fitUsed_iff s.cap s.advices s.used 0).1 h5 i x hx
 have hg:=given_bound s.used.length (0+i) s.advices h4
 simp only [capB,decide_eq_true_eq] at h3
 omega

theorem newStand_many {l c:Int} (h:c < 0\/8 < c):newStand l c=(noStand,5):=by unfold newStand;rw [if_pos h]
theorem newStand_range {l c:Int} (h:¬(c < 0\/8 < c)) (h':¬(0<=l/\l<=1000000)):newStand l c=(noStand,3):=by unfold newStand;rw [if_neg h,if_pos (by simpa [capB] using h')]
theorem newStand_ok {l:Int} {c:Nat} (h:c<=8) (h':0<=l/\l<=1000000):newStand l c=({cap:=l,used:=List.replicate c 0,advices:=[]},0):=by
 unfold newStand;rw [if_neg (by omega),if_neg (by simpa [capB] using h')];simp

theorem give_keeps {s:Stand} {a:Advice} (h:wrongStand s=0) (hg:(giveStand s a).2=0):
  wrongStand (giveStand s a).1=0/\(giveStand s a).1.cap=s.cap/\(giveStand s a).1.used.length=s.used.length/\(giveStand s a).1.advices=s.advices++[a]/\s.advices.length < 20:=by
 have hp:=right_parts h
 by_cases hm:s.advices.length=20
 ·rw [give_many h hm] at hg;cases hg
 ·have hm:s.advices.length < 20:=by omega
  rcases give_cases (a:=a) h hm with ⟨_,h2⟩|⟨_,h2⟩|⟨h1,h2⟩
  ·rw [h2] at hg;cases hg
  ·rw [h2] at hg;cases hg
  ·rw [h2];exact ⟨h1,rfl,List.length_set,rfl,hm⟩
theorem new_right (l:Int) (n:Nat) (hn:n<=8) (h0:0<=l) (h1:l<=1000000):wrongStand {cap:=l,used:=List.replicate n 0,advices:=[]}=0:=by
 rw [wrongStand_fit (by simp;omega) (by simp [capB];omega) (by simp)]
 refine (fitUsed_iff _ _ _ _).2 fun i x hx=>?_
 obtain ⟨_,rfl⟩:=List.getElem?_eq_some_iff.1 hx
 simp [given];omega


def sumsL (n:Nat) (l:List Advice):List Int:=(List.range n).map fun (k:Nat)=>given (k:Int) l
theorem sumsL_length (n:Nat) (l:List Advice):(sumsL n l).length=n:=by simp [sumsL]
theorem sumsL_nil (n:Nat):List.replicate n 0=sumsL n []:=by simp [sumsL,given,List.map_const']
theorem sumsL_get {n:Nat} {l:List Advice} {i:Nat} {x:Int} (h:(sumsL n l)[i]?=some x):x=given (i:Int) l:=by
 simp only [sumsL,List.getElem?_map,Option.map_eq_some_iff] at h
 obtain ⟨k,hk,rfl⟩:=h
 obtain ⟨h1,rfl⟩:=List.getElem?_eq_some_iff.1 hk
 simp
theorem sumsL_set {n:Nat} {l:List Advice} {a:Advice} {i:Nat} {v:Int} (h0:a.card=(i:Int)) (h1:i < n) (hv:v=given a.card l+a.sum):(sumsL n l).set i v=sumsL n (l++[a]):=by
 apply List.ext_getElem?
 intro j
 rw [List.getElem?_set]
 simp only [sumsL,List.length_map,List.length_range,List.getElem?_map,given_snoc]
 by_cases hj:j < n
 ·rw [List.getElem?_range hj,Option.map_some,Option.map_some]
  by_cases e:i=j
  ·rw [if_pos e,if_pos h1,if_pos (by omega),hv,h0,e]
  ·rw [if_neg e,if_neg (by omega),Int.add_zero]
 ·rw [if_neg (by omega),List.getElem?_eq_none (by simpa using hj)]
  rfl
end Go.Proofs.Ytegepioggeggaaa.Dev
namespace Go.Proofs.Ytegepioggeggaaa.Dev
open Go.RowKit
structure Deed where (id kind n shop move sum:Int)
 deriving DecidableEq
structure Answer where (err auth:Int)
 deriving DecidableEq
structure Packet where (transfer:Transfer) (seen:Int)
 deriving DecidableEq
def rCard (x:Card):List D:=[dI x.money,dI x.held,dI x.pace.ticks,dI x.pace.count,dI x.pace.sum,.r 2 (x.uses.map rUse)]
def rAuth (x:Auth):List D:=[dI x.card,dI x.shop,dI x.sum,dI x.captured,dI x.refunded,dI x.disputed,dI x.till,dB x.shut]
def rPacket (x:Packet):List D:=[dI x.transfer.number,dI x.transfer.kind,dI x.transfer.auth,dI x.transfer.sum,dI x.seen]
def rAnswer (x:Answer):List D:=[dI x.err,dI x.auth]
def rDeed (x:Deed):List D:=[dI x.id,dI x.kind,dI x.n,dI x.shop,dI x.move,dI x.sum]
def rPace (x:Pace):List D:=[dI x.ticks,dI x.count,dI x.sum]
def rDay (x:List Int):List D:=[.r 1 (x.map rU8)]
theorem isv_rAuth (l:List Auth):∀ row∈l.map rAuth,∀ d∈row,d.isV=true:=by
 intro row hr d hd
 obtain ⟨x,_,rfl⟩:=List.mem_map.1 hr
 simp only [rAuth,List.mem_cons,List.not_mem_nil,or_false] at hd
 rcases hd with rfl|rfl|rfl|rfl|rfl|rfl|rfl|rfl<;>rfl
end Go.Proofs.Ytegepioggeggaaa.Dev
namespace Go.Proofs.Ytegepioggeggaaa.Dev
open Go.RowKit

def vlI (l:List Int):CV:=cR 1 (l.map rI)
def alI (l:List Int):AB:=.arr 3 1 (l.map rI)
def vlU (l:List Use):CV:=cR 2 (l.map rUse)
def dlU (l:List Use):D:=.r 2 (l.map rUse)
def alU (l:List Use):AB:=.arr 125 2 (l.map rUse)
def vlA (l:List Advice):CV:=cR 4 (l.map rAdvice)
def alA (l:List Advice):AB:=.arr 107 4 (l.map rAdvice)
def vlT (l:List Transfer):CV:=cR 4 (l.map rTransfer)
def alT (l:List Transfer):AB:=.arr 80 4 (l.map rTransfer)
def vlE (l:List Entry):CV:=cR 2 (l.map rEntry)
def alE (l:List Entry):AB:=.arr 115 2 (l.map rEntry)
def vlR (l:List Record):CV:=cR 4 (l.map rRecord)
def alR (l:List Record):AB:=.arr 83 4 (l.map rRecord)
def vlC (l:List Card):CV:=cR 6 (l.map rCard)
def alC (l:List Card):AB:=.arr 61 6 (l.map rCard)
def vlP (l:List Auth):CV:=cR 8 (l.map rAuth)
def alP (l:List Auth):AB:=.arr 67 8 (l.map rAuth)
def vlK (l:List Packet):CV:=cR 5 (l.map rPacket)
def alK (l:List Packet):AB:=.arr 113 5 (l.map rPacket)
def vlN (l:List Answer):CV:=cR 2 (l.map rAnswer)
def alN (l:List Answer):AB:=.arr 65 2 (l.map rAnswer)
def vlD (l:List Deed):CV:=cR 6 (l.map rDeed)
def alD (l:List Deed):AB:=.arr 27 6 (l.map rDeed)
def vlB (l:List Int):CV:=cR 1 (l.map rU8)
def alB (l:List Int):AB:=.arr 5 1 (l.map rU8)
def vlY (l:List (List Int)):CV:=cR 1 (l.map rDay)
def alY (l:List (List Int)):AB:=.arr 86 1 (l.map rDay)
end Go.Proofs.Ytegepioggeggaaa.Dev
namespace Go.Proofs.Ytegepioggeggaaa.Dev
open Go.RowKit

theorem sz3:(Try.prog.info? 3).map (fun i=>i.size)=some 1:=by kernel_rfl
theorem sz27:(Try.prog.info? 27).map (fun i=>i.size)=some 6:=by kernel_rfl
theorem sz34:(Try.prog.info? 34).map (fun i=>i.size)=some 2:=by kernel_rfl
theorem sz37:(Try.prog.info? 37).map (fun i=>i.size)=some 1:=by kernel_rfl
theorem sz58:(Try.prog.info? 58).map (fun i=>i.size)=some 3:=by kernel_rfl
theorem sz59:(Try.prog.info? 59).map (fun i=>i.size)=some 1:=by kernel_rfl
theorem sz61:(Try.prog.info? 61).map (fun i=>i.size)=some 6:=by kernel_rfl
theorem sz65:(Try.prog.info? 65).map (fun i=>i.size)=some 2:=by kernel_rfl
theorem sz67:(Try.prog.info? 67).map (fun i=>i.size)=some 8:=by kernel_rfl
theorem sz80:(Try.prog.info? 80).map (fun i=>i.size)=some 4:=by kernel_rfl
theorem sz83:(Try.prog.info? 83).map (fun i=>i.size)=some 4:=by kernel_rfl
theorem sz107:(Try.prog.info? 107).map (fun i=>i.size)=some 4:=by kernel_rfl
theorem sz113:(Try.prog.info? 113).map (fun i=>i.size)=some 5:=by kernel_rfl
theorem sz115:(Try.prog.info? 115).map (fun i=>i.size)=some 2:=by kernel_rfl
theorem sz125:(Try.prog.info? 125).map (fun i=>i.size)=some 2:=by kernel_rfl
theorem zv3:(Try.prog.info? 3).bind (fun i=>i.zero)=some (.int .i64 0):=by kernel_rfl
theorem bld61:Bld Try.prog 61 [.int .i64 0,.int .i64 0,.int .i64 0,.int .i64 0,.int .i64 0,.slice none 0 0] [(0,1),(1,1),(2,3),(5,1)]:=⟨by kernel_rfl,by kernel_rfl⟩
theorem zv65:(Try.prog.info? 65).bind (fun i=>i.zero)=some (.agg #[.int .i64 0,.int .i64 0]):=by kernel_rfl
theorem zv80:(Try.prog.info? 80).bind (fun i=>i.zero)=some (.agg #[.int .i64 0,.int .i64 0,.int .i64 0,.int .i64 0]):=by kernel_rfl
theorem zv115:(Try.prog.info? 115).bind (fun i=>i.zero)=some (.agg #[.int .i64 0,.int .i64 0]):=by kernel_rfl
theorem zv125:(Try.prog.info? 125).bind (fun i=>i.zero)=some (.agg #[.int .i64 0,.int .i64 0]):=by kernel_rfl
theorem inf27:(Try.prog.info? 27).map (fun i=>(i.zero,i.size,i.bytes))=some (some (.agg #[.int .i64 0,.int .i64 0,.int .i64 0,.int .i64 0,.int .i64 0,.int .i64 0]),6,48):=by kernel_rfl
theorem sl24:SlT Try.prog 24 27 6 48:=slT_mk Try.underlying24 inf27 rfl (by decide)
theorem inf61:(Try.prog.info? 61).map (fun i=>(i.zero,i.size,i.bytes))=some (some (.agg #[.int .i64 0,.int .i64 0,.int .i64 0,.int .i64 0,.int .i64 0,.slice none 0 0]),6,64):=by kernel_rfl
theorem sl29:SlT Try.prog 29 61 6 64:=slT_mk Try.underlying29 inf61 rfl (by decide)
theorem inf3:(Try.prog.info? 3).map (fun i=>(i.zero,i.size,i.bytes))=some (some (.int .i64 0),1,8):=by kernel_rfl
theorem sl30:SlT Try.prog 30 3 1 8:=slT_mk Try.underlying30 inf3 rfl (by decide)
theorem inf67:(Try.prog.info? 67).map (fun i=>(i.zero,i.size,i.bytes))=some (some (.agg #[.int .i64 0,.int .i64 0,.int .i64 0,.int .i64 0,.int .i64 0,.int .i64 0,.int .i64 0,.bool false]),8,64):=by kernel_rfl
theorem sl31:SlT Try.prog 31 67 8 64:=slT_mk Try.underlying31 inf67 rfl (by decide)
theorem inf80:(Try.prog.info? 80).map (fun i=>(i.zero,i.size,i.bytes))=some (some (.agg #[.int .i64 0,.int .i64 0,.int .i64 0,.int .i64 0]),4,32):=by kernel_rfl
theorem sl32:SlT Try.prog 32 80 4 32:=slT_mk Try.underlying32 inf80 rfl (by decide)
theorem inf113:(Try.prog.info? 113).map (fun i=>(i.zero,i.size,i.bytes))=some (some (.agg #[.int .i64 0,.int .i64 0,.int .i64 0,.int .i64 0,.int .i64 0]),5,40):=by kernel_rfl
theorem sl37:SlT Try.prog 37 113 5 40:=slT_mk Try.underlying37 inf113 rfl (by decide)
theorem inf107:(Try.prog.info? 107).map (fun i=>(i.zero,i.size,i.bytes))=some (some (.agg #[.int .i64 0,.int .i64 0,.int .i64 0,.int .i64 0]),4,32):=by kernel_rfl
theorem sl39:SlT Try.prog 39 107 4 32:=slT_mk Try.underlying39 inf107 rfl (by decide)
theorem inf83:(Try.prog.info? 83).map (fun i=>(i.zero,i.size,i.bytes))=some (some (.agg #[.int .i64 0,.int .i64 0,.int .i64 0,.int .i64 0]),4,32):=by kernel_rfl
theorem sl42:SlT Try.prog 42 83 4 32:=slT_mk Try.underlying42 inf83 rfl (by decide)
theorem inf86:(Try.prog.info? 86).map (fun i=>(i.zero,i.size,i.bytes))=some (some (.slice none 0 0),1,24):=by kernel_rfl
theorem sl43:SlT Try.prog 43 86 1 24:=slT_mk Try.underlying43 inf86 rfl (by decide)
theorem inf115:(Try.prog.info? 115).map (fun i=>(i.zero,i.size,i.bytes))=some (some (.agg #[.int .i64 0,.int .i64 0]),2,16):=by kernel_rfl
theorem sl44:SlT Try.prog 44 115 2 16:=slT_mk Try.underlying44 inf115 rfl (by decide)
theorem inf65:(Try.prog.info? 65).map (fun i=>(i.zero,i.size,i.bytes))=some (some (.agg #[.int .i64 0,.int .i64 0]),2,16):=by kernel_rfl
theorem sl47:SlT Try.prog 47 65 2 16:=slT_mk Try.underlying47 inf65 rfl (by decide)
theorem inf58:(Try.prog.info? 58).map (fun i=>(i.zero,i.size,i.bytes))=some (some (.agg #[.int .i64 0,.int .i64 0,.int .i64 0]),3,24):=by kernel_rfl
theorem sl53:SlT Try.prog 53 58 3 24:=slT_mk Try.underlying53 inf58 rfl (by decide)
theorem inf125:(Try.prog.info? 125).map (fun i=>(i.zero,i.size,i.bytes))=some (some (.agg #[.int .i64 0,.int .i64 0]),2,16):=by kernel_rfl
theorem sl59:SlT Try.prog 59 125 2 16:=slT_mk Try.underlying59 inf125 rfl (by decide)
theorem inf5:(Try.prog.info? 5).map (fun i=>(i.zero,i.size,i.bytes))=some (some (.int .u8 0),1,1):=by kernel_rfl
theorem sl86:SlT Try.prog 86 5 1 1:=slT_mk Try.underlying86 inf5 rfl (by decide)
theorem inf59:(Try.prog.info? 59).map (fun i=>(i.zero,i.size,i.bytes))=some (some (.slice none 0 0),1,24):=by kernel_rfl
theorem sl181:SlT Try.prog 181 59 1 24:=slT_mk Try.underlying181 inf59 rfl (by decide)
theorem en17:Enters Try.prog 17:=fun args w=>run_enter Try.func17 (by kernel_rfl) rfl args w
theorem en18:Enters Try.prog 18:=fun args w=>run_enter Try.func18 (by kernel_rfl) rfl args w
theorem en19:Enters Try.prog 19:=fun args w=>run_enter Try.func19 (by kernel_rfl) rfl args w
theorem en20:Enters Try.prog 20:=fun args w=>run_enter Try.func20 (by kernel_rfl) rfl args w
theorem en21:Enters Try.prog 21:=fun args w=>run_enter Try.func21 (by kernel_rfl) rfl args w
theorem en22:Enters Try.prog 22:=fun args w=>run_enter Try.func22 (by kernel_rfl) rfl args w
theorem en23:Enters Try.prog 23:=fun args w=>run_enter Try.func23 (by kernel_rfl) rfl args w
theorem en24:Enters Try.prog 24:=fun args w=>run_enter Try.func24 (by kernel_rfl) rfl args w
theorem en26:Enters Try.prog 26:=fun args w=>run_enter Try.func26 (by kernel_rfl) rfl args w
theorem en27:Enters Try.prog 27:=fun args w=>run_enter Try.func27 (by kernel_rfl) rfl args w
theorem en28:Enters Try.prog 28:=fun args w=>run_enter Try.func28 (by kernel_rfl) rfl args w
theorem en29:Enters Try.prog 29:=fun args w=>run_enter Try.func29 (by kernel_rfl) rfl args w
theorem en30:Enters Try.prog 30:=fun args w=>run_enter Try.func30 (by kernel_rfl) rfl args w
theorem en31:Enters Try.prog 31:=fun args w=>run_enter Try.func31 (by kernel_rfl) rfl args w
theorem en33:Enters Try.prog 33:=fun args w=>run_enter Try.func33 (by kernel_rfl) rfl args w
theorem en37:Enters Try.prog 37:=fun args w=>run_enter Try.func37 (by kernel_rfl) rfl args w
theorem en40:Enters Try.prog 40:=fun args w=>run_enter Try.func40 (by kernel_rfl) rfl args w
theorem en41:Enters Try.prog 41:=fun args w=>run_enter Try.func41 (by kernel_rfl) rfl args w
theorem en42:Enters Try.prog 42:=fun args w=>run_enter Try.func42 (by kernel_rfl) rfl args w
theorem en44:Enters Try.prog 44:=fun args w=>run_enter Try.func44 (by kernel_rfl) rfl args w
theorem en45:Enters Try.prog 45:=fun args w=>run_enter Try.func45 (by kernel_rfl) rfl args w
theorem en53:Enters Try.prog 53:=fun args w=>run_enter Try.func53 (by kernel_rfl) rfl args w
theorem en54:Enters Try.prog 54:=fun args w=>run_enter Try.func54 (by kernel_rfl) rfl args w
theorem en55:Enters Try.prog 55:=fun args w=>run_enter Try.func55 (by kernel_rfl) rfl args w
theorem en56:Enters Try.prog 56:=fun args w=>run_enter Try.func56 (by kernel_rfl) rfl args w
theorem en59:Enters Try.prog 59:=fun args w=>run_enter Try.func59 (by kernel_rfl) rfl args w
theorem en60:Enters Try.prog 60:=fun args w=>run_enter Try.func60 (by kernel_rfl) rfl args w
theorem en61:Enters Try.prog 61:=fun args w=>run_enter Try.func61 (by kernel_rfl) rfl args w
theorem en62:Enters Try.prog 62:=fun args w=>run_enter Try.func62 (by kernel_rfl) rfl args w
theorem en63:Enters Try.prog 63:=fun args w=>run_enter Try.func63 (by kernel_rfl) rfl args w
theorem en64:Enters Try.prog 64:=fun args w=>run_enter Try.func64 (by kernel_rfl) rfl args w
theorem en65:Enters Try.prog 65:=fun args w=>run_enter Try.func65 (by kernel_rfl) rfl args w
theorem en66:Enters Try.prog 66:=fun args w=>run_enter Try.func66 (by kernel_rfl) rfl args w
theorem en67:Enters Try.prog 67:=fun args w=>run_enter Try.func67 (by kernel_rfl) rfl args w
theorem en68:Enters Try.prog 68:=fun args w=>run_enter Try.func68 (by kernel_rfl) rfl args w
theorem en69:Enters Try.prog 69:=fun args w=>run_enter Try.func69 (by kernel_rfl) rfl args w
theorem en70:Enters Try.prog 70:=fun args w=>run_enter Try.func70 (by kernel_rfl) rfl args w
theorem en71:Enters Try.prog 71:=fun args w=>run_enter Try.func71 (by kernel_rfl) rfl args w
theorem en72:Enters Try.prog 72:=fun args w=>run_enter Try.func72 (by kernel_rfl) rfl args w
theorem en73:Enters Try.prog 73:=fun args w=>run_enter Try.func73 (by kernel_rfl) rfl args w
theorem en74:Enters Try.prog 74:=fun args w=>run_enter Try.func74 (by kernel_rfl) rfl args w
theorem en75:Enters Try.prog 75:=fun args w=>run_enter Try.func75 (by kernel_rfl) rfl args w
theorem en76:Enters Try.prog 76:=fun args w=>run_enter Try.func76 (by kernel_rfl) rfl args w
theorem en77:Enters Try.prog 77:=fun args w=>run_enter Try.func77 (by kernel_rfl) rfl args w
theorem en78:Enters Try.prog 78:=fun args w=>run_enter Try.func78 (by kernel_rfl) rfl args w
theorem en79:Enters Try.prog 79:=fun args w=>run_enter Try.func79 (by kernel_rfl) rfl args w
theorem en80:Enters Try.prog 80:=fun args w=>run_enter Try.func80 (by kernel_rfl) rfl args w
theorem en81:Enters Try.prog 81:=fun args w=>run_enter Try.func81 (by kernel_rfl) rfl args w
theorem en82:Enters Try.prog 82:=fun args w=>run_enter Try.func82 (by kernel_rfl) rfl args w
theorem en83:Enters Try.prog 83:=fun args w=>run_enter Try.func83 (by kernel_rfl) rfl args w
theorem en84:Enters Try.prog 84:=fun args w=>run_enter Try.func84 (by kernel_rfl) rfl args w
theorem en85:Enters Try.prog 85:=fun args w=>run_enter Try.func85 (by kernel_rfl) rfl args w
theorem en86:Enters Try.prog 86:=fun args w=>run_enter Try.func86 (by kernel_rfl) rfl args w
theorem en87:Enters Try.prog 87:=fun args w=>run_enter Try.func87 (by kernel_rfl) rfl args w
theorem en88:Enters Try.prog 88:=fun args w=>run_enter Try.func88 (by kernel_rfl) rfl args w
theorem en89:Enters Try.prog 89:=fun args w=>run_enter Try.func89 (by kernel_rfl) rfl args w
theorem en90:Enters Try.prog 90:=fun args w=>run_enter Try.func90 (by kernel_rfl) rfl args w
theorem en91:Enters Try.prog 91:=fun args w=>run_enter Try.func91 (by kernel_rfl) rfl args w
theorem en92:Enters Try.prog 92:=fun args w=>run_enter Try.func92 (by kernel_rfl) rfl args w
theorem en93:Enters Try.prog 93:=fun args w=>run_enter Try.func93 (by kernel_rfl) rfl args w
theorem en94:Enters Try.prog 94:=fun args w=>run_enter Try.func94 (by kernel_rfl) rfl args w
theorem en95:Enters Try.prog 95:=fun args w=>run_enter Try.func95 (by kernel_rfl) rfl args w
theorem en96:Enters Try.prog 96:=fun args w=>run_enter Try.func96 (by kernel_rfl) rfl args w
theorem en97:Enters Try.prog 97:=fun args w=>run_enter Try.func97 (by kernel_rfl) rfl args w
theorem en98:Enters Try.prog 98:=fun args w=>run_enter Try.func98 (by kernel_rfl) rfl args w
theorem en99:Enters Try.prog 99:=fun args w=>run_enter Try.func99 (by kernel_rfl) rfl args w
theorem en100:Enters Try.prog 100:=fun args w=>run_enter Try.func100 (by kernel_rfl) rfl args w
theorem en101:Enters Try.prog 101:=fun args w=>run_enter Try.func101 (by kernel_rfl) rfl args w
theorem en102:Enters Try.prog 102:=fun args w=>run_enter Try.func102 (by kernel_rfl) rfl args w
theorem en103:Enters Try.prog 103:=fun args w=>run_enter Try.func103 (by kernel_rfl) rfl args w
theorem en104:Enters Try.prog 104:=fun args w=>run_enter Try.func104 (by kernel_rfl) rfl args w
theorem en105:Enters Try.prog 105:=fun args w=>run_enter Try.func105 (by kernel_rfl) rfl args w
theorem en106:Enters Try.prog 106:=fun args w=>run_enter Try.func106 (by kernel_rfl) rfl args w
theorem en107:Enters Try.prog 107:=fun args w=>run_enter Try.func107 (by kernel_rfl) rfl args w
theorem en108:Enters Try.prog 108:=fun args w=>run_enter Try.func108 (by kernel_rfl) rfl args w
theorem en109:Enters Try.prog 109:=fun args w=>run_enter Try.func109 (by kernel_rfl) rfl args w
theorem en110:Enters Try.prog 110:=fun args w=>run_enter Try.func110 (by kernel_rfl) rfl args w
theorem en111:Enters Try.prog 111:=fun args w=>run_enter Try.func111 (by kernel_rfl) rfl args w
theorem en112:Enters Try.prog 112:=fun args w=>run_enter Try.func112 (by kernel_rfl) rfl args w
theorem en113:Enters Try.prog 113:=fun args w=>run_enter Try.func113 (by kernel_rfl) rfl args w
theorem en114:Enters Try.prog 114:=fun args w=>run_enter Try.func114 (by kernel_rfl) rfl args w
theorem en115:Enters Try.prog 115:=fun args w=>run_enter Try.func115 (by kernel_rfl) rfl args w
theorem en116:Enters Try.prog 116:=fun args w=>run_enter Try.func116 (by kernel_rfl) rfl args w
theorem en117:Enters Try.prog 117:=fun args w=>run_enter Try.func117 (by kernel_rfl) rfl args w
theorem en118:Enters Try.prog 118:=fun args w=>run_enter Try.func118 (by kernel_rfl) rfl args w
theorem en119:Enters Try.prog 119:=fun args w=>run_enter Try.func119 (by kernel_rfl) rfl args w
theorem en120:Enters Try.prog 120:=fun args w=>run_enter Try.func120 (by kernel_rfl) rfl args w
theorem en121:Enters Try.prog 121:=fun args w=>run_enter Try.func121 (by kernel_rfl) rfl args w
theorem en122:Enters Try.prog 122:=fun args w=>run_enter Try.func122 (by kernel_rfl) rfl args w
theorem en123:Enters Try.prog 123:=fun args w=>run_enter Try.func123 (by kernel_rfl) rfl args w
theorem mixed:Try.prog.follows .mixedOrders=true:=by kernel_rfl
theorem g_makeI {P:Program} {st:AState} {o:Oper} {t e bytes n:Nat} {x y:Operand} {i j:Int} (k:Nat) (hT:SlT P t e 1 bytes) (hz:(P.info? e).bind (fun i=>i.zero)=some (.int .i64 0)) (ho:o.op=.makeSlice t x y) (hx:ev st x (.v (.c (.d (.v (.int .i64 i)))))) (hy:ev st y (.v (.c (.d (.v (.int .i64 j))))))
    (hi:i=n) (hj:j=n) (hb:bytes * n<=281474976710656) (h63:n<=9223372036854775807):GOp P o st (.v (.c (.s k 0 1 n))) [(k,.arr e 1 ((List.replicate n 0).map rI))] []:=by
  have h:=g_make k hT hz rfl rfl ho hx hy hi hj hb h63
  have e1:List.replicate n [D.v (.int .i64 0)]=(List.replicate n (0:Int)).map rI:=by rw [List.map_replicate];rfl
  rw [e1] at h
  exact h

end Go.Proofs.Ytegepioggeggaaa.Dev
namespace Go.Proofs.Ytegepioggeggaaa.Dev
open Go.RowKit

def mV (ps:List (Int×Int)):List (Int×Value):=ps.map fun p=>(p.1,.int .i64 p.2)
section
variable {P:Program} {st:AState} {o:Oper}
theorem g_makeMap {t:TypeId} (k:Nat) (ho:o.op=.makeMap t none):GOp P o st (.v (.c (.m k))) [(k,.map (mV []) 0)] []:=
 GOp.new (P:=P) fun σ T ac w C hk=>by
  refine ⟨.map (some w.heap.size),.map #[] 0,0,?_,⟨⟨w.heap.size,0⟩,#[],rfl,.inr rfl,heap_alloc_new w _,rfl⟩,⟨_,upd_self _ _ _,rfl⟩⟩
  unfold execOp
  simp only [ho,Option.map_none,Sem.run_bind,(show ∀ t w,(Instr.makeMap t none).run P w=.ok (.map (some w.heap.size)) (w.alloc (.map #[] 0)) from fun _ _=>rfl),Result.andThen_ok]
  rfl
end
end Go.Proofs.Ytegepioggeggaaa.Dev
namespace Go.Proofs.Ytegepioggeggaaa.Dev
open Go.RowKit

theorem run_sliceX {P:Program} {w:World} {t e K:Nat} {A:Option Addr} {len cap:Nat} (hu:P.underlying t=some (.slice e)) (hz:(P.info? e).map (·.size)=some K) (lo hi mx:Option Value) (l h m:Nat) (hlo:(lo=none/\l=0)\/lo=some (.int .i64 l)) (hhi:(hi=none/\h=len/\mx=none)\/hi=some (.int .i64 h)) (hmx:(mx=none/\m=cap)\/mx=some (.int .i64 m)) (h1:l<=h) (h2:h<=m) (h3:m<=cap):
  (Instr.sliceAt t (.slice A len cap) lo hi mx).run P w=.ok (.slice (if m=l then A else A.map (·.add (l * K))) (h - l) (m - l)) w:=by
 cases hq:P.info? e with
 |none=>simp [hq] at hz
 |some ii=>
  have hs:ii.size=K:=by simpa [hq] using hz
  have h4:¬((m:Int) < (l:Int)):=by omega
  have h5:l<=m:=by omega
  rcases hhi with ⟨rfl,rfl,rfl⟩|rfl
  ·rcases hmx with ⟨_,rfl⟩|hm
   ·rcases hlo with ⟨rfl,rfl⟩|rfl
    all_goals simp [Instr.sliceAt,run_underlying hu,Instr.slice,Instr.sliceBounds,Instr.sliceBound,asIntOf,sizeOf,typeInfo,hq,hs,h1]
    all_goals try omega
   ·cases hm
  ·rcases hlo with ⟨rfl,rfl⟩|rfl<;>rcases hmx with ⟨rfl,rfl⟩|rfl
   all_goals simp [Instr.sliceAt,run_underlying hu,Instr.slice,Instr.sliceBounds,Instr.sliceBound,asIntOf,sizeOf,typeInfo,hq,hs,h1,h2,h3]
   all_goals try omega
section
variable {P:Program} {st:AState} {o:Oper}
theorem g_sliceX {t e K k i n c c':Nat} {E E':Bool} {x:Operand} {lo hi mx:Option Operand} {l h m n':Nat} (ho:o.op=.slice t x lo hi mx) (hu:P.underlying t=some (.slice e)) (hz:(P.info? e).map (·.size)=some K) (hx:ev st x (.v (.c (.sx k i K n c E))))
  (hlo:(lo=none/\l=0)\/∃ x,lo=some x/\ev st x (.v (.c (.d (.v (.int .i64 l)))))) (hhi:(hi=none/\h=n/\mx=none)\/∃ x,hi=some x/\ev st x (.v (.c (.d (.v (.int .i64 h))))))
  (hmx:(mx=none/\m=c)\/∃ x,mx=some x/\ev st x (.v (.c (.d (.v (.int .i64 m)))))) (h1:l<=h) (h2:h<=m) (h3:m<=c) (hn:h - l=n') (hc:m - l=c') (hE:E'=true->E=true/\m=c):GOp P o st (.v (.c (.sx k (i+l) K n' c' E'))) [] []:=
 GOp.val fun σ T ac w C=>by
  obtain ⟨g,off,hg,hv,ho1,h4,h5,h6,h7⟩:=ev_rel C hx
  subst hn hc
  have:=run_sliceX (P:=P) (w:=w) (A:=some ⟨g.g,off,none⟩) (len:=n) (cap:=c) hu hz (lo.map ac.eval) (hi.map ac.eval) (mx.map ac.eval) l h m
   (by rcases hlo with ⟨rfl,rfl⟩|⟨y,rfl,hy⟩;exact .inl ⟨rfl,rfl⟩;exact .inr (by rw [Option.map_some,DRel.inv (ev_rel C hy)]))
   (by rcases hhi with ⟨rfl,rfl,rfl⟩|⟨y,rfl,hy⟩;exact .inl ⟨rfl,rfl,rfl⟩;exact .inr (by rw [Option.map_some,DRel.inv (ev_rel C hy)]))
   (by rcases hmx with ⟨rfl,rfl⟩|⟨y,rfl,hy⟩;exact .inl ⟨rfl,rfl⟩;exact .inr (by rw [Option.map_some,DRel.inv (ev_rel C hy)])) h1 h2 h3
  refine ⟨.slice (if m=l then some ⟨g.g,off,none⟩ else some ⟨g.g,off+l * K,none⟩) (h - l) (m - l),?_,g,if m=l then off else off+l * K,hg,?_,?_,by omega,by omega,fun e=>?_,h7⟩
  ·unfold execOp
   simp only [ho,hv,Sem.run_bind,this,Result.andThen_ok,Option.map_some,Addr.add_lit]
   rfl
  ·split<;>rfl
  ·by_cases hml:m=l
   ·exact .inr (by omega)
   ·rw [if_neg hml]
    rcases ho1 with rfl|h0
    ·exact .inl (by rw [Nat.add_mul])
    ·omega
  ·obtain ⟨h8,h9⟩:=hE e
   have:=h6 h8
   omega
theorem g_capX {x:Operand} {cl:Call} {t e k i K n c:Nat} {E:Bool} (hu:P.underlying t=some (.slice e)) (ho:o.op=.call cl) (hc:cl.callee=.builtin .cap) (ha:cl.args=#[x]) (hat:cl.argTypes=#[t]) (hx:ev st x (.v (.c (.sx k i K n c E)))):GOp P o st (.v (.c (.d (.v (.int .i64 c))))) [] []:=
 GOp.val fun σ T ac w C=>by
  obtain ⟨g,off,hg,hv,_⟩:=ev_rel C hx
  refine ⟨_,?_,DRel.v _ rfl⟩
  unfold execOp
  simp [ho,resolve,hc,ha,hat,invoke,builtin,hv,Builtin.cap_,run_underlying hu,goInt]
theorem g_lenX {x:Operand} {cl:Call} {t e k i K n c:Nat} {E:Bool} (hu:P.underlying t=some (.slice e)) (ho:o.op=.call cl) (hc:cl.callee=.builtin .len) (ha:cl.args=#[x]) (hat:cl.argTypes=#[t]) (hx:ev st x (.v (.c (.sx k i K n c E)))):GOp P o st (.v (.c (.d (.v (.int .i64 n))))) [] []:=
 GOp.val fun σ T ac w C=>by
  obtain ⟨g,off,hg,hv,_⟩:=ev_rel C hx
  refine ⟨_,?_,DRel.v _ rfl⟩
  unfold execOp
  simp [ho,resolve,hc,ha,hat,invoke,builtin,hv,Builtin.len_,run_underlying hu,goInt]
inductive SrcP (st:AState):AV->Nat->Nat->Nat->List (List D)->Prop
 |d {K len m:Nat} {rows ys:List (List D)} (hl:rows.length=len) (hm:m<=len) (he:rows.take m=ys):SrcP st (.v (.c (.d (.r K rows)))) K len m ys
 |s {k i t K len m:Nat} {rows ys:List (List D)} (h:look st.h k=some (.arr t K rows)) (hm:m<=len) (hi:i+m<=rows.length) (he:(rows.drop i).take m=ys):SrcP st (.v (.c (.s k i K len))) K len m ys
 |x {k i t K len m c:Nat} {E:Bool} {rows ys:List (List D)} (h:look st.h k=some (.arr t K rows)) (hm:m<=len) (hi:i+m<=rows.length) (he:(rows.drop i).take m=ys):SrcP st (.v (.c (.sx k i K len c E))) K len m ys
theorem SrcP.read {σ:Nat->Option Adr} {T:Nat->Prop} {a:Act} {w:World} (C:Core σ T st a w) {v:AV} {K len m:Nat} {ys:List (List D)} (h:SrcP st v K len m ys) (hK:0 < K) (hm0:0 < m\/∃ k i c E,v=.v (.c (.sx k i K len c E))) {x:Value} (hx:ARel σ T w v x):
  ys.length=m/\∃ b off c vs,x=.slice (some ⟨b,off,none⟩) len c/\Flat T w K ys ⟨b,off,none⟩ vs:=by
 cases h with
 |@d _ _ _ rows _ hl hm he=>
  subst he
  refine ⟨by rw [List.length_take];omega,?_⟩
  have hx:DRel T w (.r K rows) x:=hx
  obtain hm0:0 < m:=hm0.resolve_right (fun ⟨_,_,_,_,h⟩=>by cases h)
  cases hx with
  |nil=>simp at hl;omega
  |r K rows b off c cs hb hT hc hmx hKr hcell hd=>
   obtain ⟨vs,hf⟩:=flat_of (T:=T) (w:=w) (rows:=rows.take m) hK cs (fun i row hr=>hKr i row (by rw [List.getElem?_take] at hr;split at hr;exact hr;cases hr)) (fun i row j d hr hj=>by
    rw [List.getElem?_take] at hr
    split at hr
    ·exact ⟨hcell i row j d hr hj,hd i row j d hr hj⟩
    ·cases hr)
   exact ⟨b,off,c,vs,by rw [hl],hf⟩
 |@s k i t _ _ _ rows _ hk hm hi he=>
  subst he
  refine ⟨by rw [List.length_take,List.length_drop];omega,?_⟩
  have hx:CRel σ T w (.s k i K len) x:=hx
  obtain hm0:0 < m:=hm0.resolve_right (fun ⟨_,_,_,_,h⟩=>by cases h)
  rcases hx with ⟨h0,_⟩|⟨g,hg,hv,_⟩
  ·omega
  ·have hh:=C.heap k _ hk
   rw [hg] at hh
   obtain ⟨vs,hf⟩:=sub_flat hh hi
   exact ⟨g.g,i * K,_,vs,hv,hf⟩
 |@x k i t _ _ _ c E rows _ hk hm hi he=>
  subst he
  refine ⟨by rw [List.length_take,List.length_drop];omega,?_⟩
  have hx:CRel σ T w (.sx k i K len c E) x:=hx
  obtain ⟨g,off,hg,hv,ho1,h2,_⟩:=hx
  have hh:=C.heap k _ hk
  rw [hg] at hh
  obtain ⟨vs,hf⟩:=sub_flat hh hi
  rcases ho1 with rfl|h0
  ·exact ⟨g.g,i * K,_,vs,hv,hf⟩
  ·obtain rfl:m=0:=by omega
   exact ⟨g.g,off,_,[],hv,by simp,⟨by simp,fun i row h=>by simp at h⟩,fun j u h=>by simp at h,fun u h=>by simp at h⟩
theorem rows_drop {T:Nat->Prop} {w:World} {K:Nat} {rows:List (List D)} {vs:List Value} (h:Rows T w K rows vs) (j:Nat):Rows T w K (rows.drop j) (vs.drop (j * K)):=by
 refine ⟨?_,fun i row hi=>?_⟩
 ·rw [List.length_drop,List.length_drop,Nat.sub_mul];have:=h.1;omega
 ·rw [List.getElem?_drop] at hi
  obtain ⟨h1,h2⟩:=h.2 _ row hi
  refine ⟨h1,fun q d hq=>?_⟩
  obtain ⟨u,hu,hr⟩:=h2 q d hq
  refine ⟨u,?_,hr⟩
  rw [List.getElem?_drop,<-hu,Nat.add_mul,Nat.add_assoc]
theorem rows_front {T:Nat->Prop} {w:World} {K:Nat} {rows:List (List D)} {vs:List Value} (h:Rows T w K rows vs) {i:Nat} (hi:i<=rows.length):Rows T w K (rows.take i) (vs.take (i * K))/\(vs.take (i * K)).length=(rows.take i).length * K:=by
 have h1:i * K<=vs.length:=Nat.le_trans (Nat.mul_le_mul_right K hi) h.1
 refine ⟨rows_take (⟨?_,fun j row hj=>?_⟩:Rows T w K (rows.take i) vs) ?_,?_⟩
 ·exact Nat.le_trans (Nat.mul_le_mul_right K (by rw [List.length_take];omega)) h.1
 ·rw [List.getElem?_take] at hj
  split at hj
  ·exact h.2 j row hj
  ·cases hj
 ·rw [List.length_take,Nat.min_eq_left hi];exact Nat.le_refl _
 ·rw [List.length_take,List.length_take,Nat.min_eq_left hi,Nat.min_eq_left h1]
theorem rows_splice {T:Nat->Prop} {w:World} {K:Nat} {rows ys:List (List D)} {vs ws:List Value} (h:Rows T w K rows vs) (h':Rows T w K ys ws) (hw:ws.length=ys.length * K) {i:Nat} (hi:i<=rows.length):
  Rows T w K (rows.take i++ys++rows.drop (i+ys.length)) (vs.take (i * K)++ws++vs.drop (i * K+ws.length)):=by
 obtain ⟨h1,h2⟩:=rows_front h hi
 refine rows_append (rows_append h1 h2 h') ?_ ?_
 ·rw [List.length_append,List.length_append,h2,hw,Nat.add_mul]
 ·have:=rows_drop h (i+ys.length)
  rwa [Nat.add_mul,<-hw] at this
theorem run_load_flat {T:Nat->Prop} {w:World} {K:Nat} {ys:List (List D)} {b off:Nat} {vs:List Value} (hf:Flat T w K ys ⟨b,off,none⟩ vs):(loadCells ⟨b,off,none⟩ (ys.length * K)).run P w=.ok vs.toArray w:=by
 rw [<-hf.len]
 exact run_loadCells_list (P:=P) w ⟨b,off,none⟩ vs hf.cell
theorem copy_core {σ:Nat->Option Adr} {T:Nat->Prop} {a:Act} {w:World} (C:Core σ T st a w) {e bt K k i:Nat} {rows ys:List (List D)} {g:Adr} {b off:Nat} {vs:List Value} (hK:0 < K) (hg:σ k=some g) (hb:look st.h k=some (.arr bt K rows)) (hi:i<=rows.length) (hin:i+ys.length<=g.c) (hf:Flat T w K ys ⟨b,off,none⟩ vs):
  ∃ w',(storeCells ⟨g.g,i * K,none⟩ vs).run P w=.ok () w'/\Ext σ T w σ T w' [(k,.arr bt K (rows.take i++ys++rows.drop (i+ys.length)))] [k]:=by
 have hh:=C.heap k _ hb
 obtain ⟨_,hh'⟩:=hh
 rcases hh' with ⟨_,h⟩|⟨g',cs,e1,e2,e3,e4,e5,e6⟩
 ·rw [hg] at h;cases h
 rw [hg] at e1;injection e1 with e1;subst e1
 have hfit:i * K+vs.length<=cs.length:=by rw [hf.len,e4,<-Nat.add_mul];exact Nat.mul_le_mul_right _ hin
 have hst:=run_storeCells_at (P:=P) g.g (i * K) bt vs 0 cs.toArray w e3 (by simpa using hfit) hf.one
 refine ⟨w.setRow g.g (cs.take (i * K)++vs++cs.drop (i * K+vs.length)).toArray,by simpa using hst,Ext.write C hb hg rfl rfl rfl (setRow_size w _ _) (fun j hj=>setRow_other w g.g j _ hj) fun G=>?_⟩
 refine ⟨hK,.inr ⟨g,_,rfl,e2,setRow_heap w g.g _ _ bt (0,0) e3,?_,e5,rows_splice (e6.grow G) (hf.rows_.grow G) hf.len hi⟩⟩
 rw [<-e4];simp only [List.length_append,List.length_take,List.length_drop];omega
theorem g_copyX {x y:Operand} {cl:Call} {v:AV} {t e bt K bytes k i n c len m:Nat} {E:Bool} {rows ys rows':List (List D)} (hT:SlT P t e K bytes) (ho:o.op=.call cl) (hc:cl.callee=.builtin .copy) (ha:cl.args=#[x,y]) (hat:cl.argTypes=#[t,t])
  (hx:ev st x (.v (.c (.sx k i K n c E)))) (hb:look st.h k=some (.arr bt K rows)) (hy:ev st y v) (hs:SrcP st v K len m ys) (hm:0 < m) (hmin:m=len/\len<=n\/m=n/\n<=len) (hi:i<=rows.length) (hr:rows.take i++ys++rows.drop (i+m)=rows'):
  GOp P o st (.v (.c (.d (.v (.int .i64 m))))) [(k,.arr bt K rows')] [k]:=by
 intro σ T a w C _
 obtain ⟨g,off,hg,hv,ho1,h2,h3,_,h5⟩:=ev_rel C hx
 obtain ⟨hyl,b,off2,c2,vs,hyv,hf⟩:=hs.read C hT.K0 (.inl hm) (ev_rel C hy)
 obtain ⟨ii,z,hii,_,hsz,_⟩:=hT.i
 obtain rfl:off=i * K:=ho1.resolve_right (by omega)
 have hml:Nat.min len n=m:=by show min len n=m;omega
 obtain ⟨w',hst,hext⟩:=copy_core (P:=P) (e:=e) C hT.K0 hg hb hi (by omega) hf
 rw [hyl,hr] at hext
 refine wp_value (v:=.int .i64 m) (w':=w') ?_ ⟨_,σ,T,rfl,hext,DRel.v _ rfl⟩
 have hld:=run_load_flat (P:=P) hf
 rw [hyl] at hld
 unfold execOp
 simp [ho,resolve,hc,ha,hat,invoke,builtin,hv,hyv,Builtin.copy_,run_underlying hT.u,Builtin.lenOf,Builtin.firstCells,sizeOf,typeInfo,hii,hsz,hml,hld,hst,goInt]
theorem g_appIn {x y:Operand} {cl:Call} {v:AV} {t e bt K bytes k i n c m N:Nat} {E:Bool} {rows ys rows':List (List D)} (hT:SlT P t e K bytes) (ho:o.op=.call cl) (hc:cl.callee=.builtin .append) (ha:cl.args=#[x,y]) (hat:cl.argTypes=#[t,t])
  (hx:ev st x (.v (.c (.sx k i K n c E)))) (hb:look st.h k=some (.arr bt K rows)) (hy:ev st y v) (hs:SrcP st v K m m ys) (hm:0 < m\/∃ k i c E,v=.v (.c (.sx k i K m c E))) (hc0:0 < c) (hN:n+m=N) (hroom:N<=c) (hi:i+n<=rows.length) (hr:rows.take (i+n)++ys++rows.drop (i+n+m)=rows'):
  GOp P o st (.v (.c (.sx k i K N c E))) [(k,.arr bt K rows')] [k]:=by
 intro σ T a w C _
 subst hN
 obtain ⟨g,off,hg,hv,ho1,h2,h3,h4,h5⟩:=ev_rel C hx
 obtain ⟨hyl,b,off2,c2,vs,hyv,hf⟩:=hs.read C hT.K0 hm (ev_rel C hy)
 obtain ⟨ii,z,hii,_,hsz,_⟩:=hT.i
 obtain rfl:off=i * K:=ho1.resolve_right (by omega)
 obtain ⟨w',hst,hext⟩:=copy_core (P:=P) (e:=e) C hT.K0 hg hb hi (by omega) hf
 rw [hyl,hr] at hext
 refine wp_value (v:=.slice (some ⟨g.g,i * K,none⟩) (n+m) c) (w':=w') ?_ ⟨_,σ,T,rfl,hext,⟨g,i * K,hg,rfl,.inl rfl,hroom,h3,h4,h5⟩⟩
 have hld:=run_load_flat (P:=P) hf
 rw [hyl] at hld
 rw [Nat.add_mul] at hst
 unfold execOp
 simp [ho,resolve,hc,ha,hat,invoke,builtin,hv,hyv,Builtin.append_,run_underlying hT.u,Builtin.lenOf,Builtin.firstCells,sizeOf,typeInfo,hii,hsz,hld,hroom,Addr.add_lit,hst]
end
end Go.Proofs.Ytegepioggeggaaa.Dev
namespace Go.Proofs.Ytegepioggeggaaa.Dev
open Go.RowKit

section
variable {P:Program} {W0:World} {F:Nat->Prop} {N:NT} {T0:Nat->Prop} {pin:List (Nat×Adr)} {Q:Exit->AState->Prop} {s:List (Nat×AV)} {h:List (Nat×AB)} {n:Nat}
theorem Inv.slot {a:Act} {w:World} {i:Nat} {v:AV} (hI:Inv W0 F N T0 pin ⟨s,h,n⟩ a w) (hv:∀ σ T,Core σ T ⟨s,h,n⟩ a w->ARel σ T w v (a.tmps.getD i undef)):Inv W0 F N T0 pin ⟨(i,v)::s,h,n⟩ a w:=by
 obtain ⟨σ,T,hT,S,hp⟩:=hI
 refine ⟨σ,T,hT,⟨⟨fun j x hj=>?_,S.core.heap,S.core.inj,S.core.Tlt⟩,S.os,S.tape,S.output,S.size,S.old,S.own,S.next,S.hn,S.tsz,S.dfr⟩,hp⟩
 have hj':look ((i,v)::s) j=some x:=hj
 rw [look_cons] at hj'
 split at hj'
 ·rename_i e;subst e;injection hj' with hj';subst hj'
  exact hv σ T S.core
 ·exact S.core.slots j x hj'
theorem AC.capS {cd:Code} {k r K m:Nat} (i:Nat) (hs:look s i=some (.v (.c (.s k r K m)))) (hm:0 < m) (hk:∀ c,m<=c->c<=9223372036854775807->AC P W0 F N T0 pin Q cd ⟨(i,.v (.c (.sx k r K m c true)))::s,h,n⟩):AC P W0 F N T0 pin Q cd ⟨s,h,n⟩:=fun a w hI=>by
 obtain ⟨σ,T,hT,S,hp⟩:=hI
 have h1:CRel σ T w (.s k r K m) (a.tmps.getD i undef):=S.core.slots i _ hs
 rcases h1 with ⟨h0,_⟩|⟨g,hg,hv,h2,h3⟩
 ·omega
 ·refine hk (g.c - r) (by omega) (by omega) a w ?_
  refine ⟨σ,T,hT,⟨⟨fun j x hj=>?_,S.core.heap,S.core.inj,S.core.Tlt⟩,S.os,S.tape,S.output,S.size,S.old,S.own,S.next,S.hn,S.tsz,S.dfr⟩,hp⟩
  have hj':look ((i,AV.v (.c (.sx k r K m (g.c - r) true)))::s) j=some x:=hj
  rw [look_cons] at hj'
  split at hj'
  ·rename_i e;subst e;injection hj' with hj';subst hj'
   exact ⟨g,r * K,hg,hv,.inl rfl,by omega,by omega,fun _=>by omega,h3⟩
  ·exact S.core.slots j x hj'
theorem Weak.x2s {k r K m c:Nat} (i:Nat) (hs:look s i=some (.v (.c (.sx k r K m c true)))) (hc:0 < c):Weak pin ⟨s,h,n⟩ ⟨(i,.v (.c (.s k r K m)))::s,h,n⟩:=fun W0 F N T0 a w hI=>
 hI.slot fun σ T C=>by
  obtain ⟨g,off,hg,hv,ho,h1,h2,h3,h4⟩:=C.slots i _ hs
  obtain rfl:off=r * K:=ho.resolve_right (by omega)
  have:=h3 rfl
  exact .inr ⟨g,hg,by rw [hv];congr 1;omega,by omega,h4⟩
end
section
variable {P:Program} {st:AState} {o:Oper}
theorem Grow.undrew {σ σ':Nat->Option Adr} {T T':Nat->Prop} {w w':World} {C:Nat->Prop} (G:Grow σ σ' T T' w.drew w' C):Grow σ σ' T T' w w' C:=⟨G.size,G.old,G.CT,G.Tle,G.σle⟩
theorem Ext.undrew {σ σ':Nat->Option Adr} {T T':Nat->Prop} {w w':World} {nb:List (Nat×AB)} {E:List Nat} (X:Ext σ T w.drew σ' T' w' nb E):Ext σ T w σ' T' w' nb E:=⟨X.os,X.tape,X.output,X.grow.undrew,X.Tge,X.Tlt,X.dom,X.rel,X.fresh,X.inj⟩
theorem GOp.newD {k:Nat} {b:AB} {av:AV}
  (h:∀ σ T a w,Core σ T st a w->σ k=none->∃ u ob c,(execOp a.eval o).run P w=.ok (.value u) (w.drew.alloc ob)/\HRel (upd σ k ⟨w.heap.size,c⟩) (addT T w.heap.size) (w.drew.alloc ob) (some ⟨w.heap.size,c⟩) b/\ARel (upd σ k ⟨w.heap.size,c⟩) (addT T w.heap.size) (w.drew.alloc ob) av u):
  GOp P o st av [(k,b)] []:=
 fun σ T a w C hk=>by
  have hk:=hk k b (List.mem_singleton.2 rfl) (by simp)
  obtain ⟨u,ob,c,hu,hr,hv⟩:=h σ T a w C hk
  exact wp_value hu ⟨u,_,_,rfl,Ext.undrew (Ext.alloc (w:=w.drew) C.Tlt ob hk hr),hv⟩
theorem rows_zero {T:Nat->Prop} {w:World} {z:Value} {K m:Nat} {zs:List Value} (hzs:z.cells.toList=zs) (hK:zs.length=K) (h1:zs.all (·.oneCell')=true):Rows T w K (List.replicate m (zs.map D.v)) (Builtin.zeroCells z.cells m).toList/\(Builtin.zeroCells z.cells m).toList.length=m * K:=by
 have hzc:z.cells.size=K:=by rw [<-hK,<-hzs];simp
 have hlen:(Builtin.zeroCells z.cells m).toList.length=m * K:=by simp [Builtin.zeroCells,hzc]
 refine ⟨⟨by rw [List.length_replicate,hlen];exact Nat.le_refl _,fun i row hi=>?_⟩,hlen⟩
 obtain ⟨hi1,rfl⟩:=List.getElem?_eq_some_iff.1 hi
 rw [List.length_replicate] at hi1
 rw [List.getElem_replicate]
 refine ⟨by rw [List.length_map,hK],fun j d hj=>?_⟩
 rw [List.getElem?_map,Option.map_eq_some_iff] at hj
 obtain ⟨u,hu,rfl⟩:=hj
 have hjK:j < K:=by rw [<-hK];exact (List.getElem?_eq_some_iff.1 hu).1
 have hlt:i * K+j < m * K:=by
  have:(i+1) * K<=m * K:=Nat.mul_le_mul_right _ hi1
  rw [Nat.add_mul] at this
  omega
 refine ⟨u,?_,.v u (List.all_eq_true.1 h1 u (List.mem_of_getElem? hu))⟩
 have hmod:(i * K+j) % K=j:=by rw [Nat.mul_comm,Nat.mul_add_mod,Nat.mod_eq_of_lt hjK]
 rw [List.getElem?_eq_getElem (by rw [hlen];exact hlt)]
 simp only [Builtin.zeroCells,Array.getElem_toList,Array.getElem_map,Array.getElem_range,hzc,hmod]
 congr 1
 rw [getElem!_pos z.cells j (by rw [hzc];exact hjK)]
 subst hzs
 rw [Array.getElem?_toList,Array.getElem?_eq_getElem (by rw [hzc];exact hjK)] at hu
 exact Option.some.inj hu
theorem g_app0 {x y:Operand} {cl:Call} {t tn e bt K bytes k n c m N:Nat} {E:Bool} {kn:IntKind} {z:Value} {zs:List Value} {rows rows':List (List D)} (k2:Nat) (hT:SlT P t e K bytes) (hz:(P.info? e).bind (fun i=>i.zero)=some z) (hzs:z.cells.toList=zs) (h1:zs.all (·.oneCell')=true) (htn:P.underlying tn=some (.int kn))
  (ho:o.op=.call cl) (hc:cl.callee=.builtin .append) (ha:cl.args=#[x,y]) (hat:cl.argTypes=#[t,tn]) (hx:ev st x (.v (.c (.sx k 0 K n c E)))) (hb:look st.h k=some (.arr bt K rows)) (hy:ev st y (.v (.c (.d (.v (.int .i64 m)))))) (hm:0 < m) (hN:n+m=N) (hroom:c < N) (hn:n<=rows.length) (h63:N<=9223372036854775807) (hby:N * bytes<=140737488355328)
  (hr:rows.take n++List.replicate m (zs.map D.v)=rows'):GOp P o st (.v (.c (.s k2 0 K N))) [(k2,.arr e K rows')] []:=
 GOp.newD fun σ T ac w C hk=>by
  subst hN hr
  obtain ⟨g,off,hg,hv,ho1,h2,h3,h4,h5⟩:=ev_rel C hx
  have hyv:=DRel.inv (ev_rel C hy)
  obtain ⟨ii,z',hii,hzz,hsz,hbb,hzc⟩:=hT.i
  have hz':z'=z:=by simpa [hii,hzz] using hz
  subst hz'
  have hzl:zs.length=K:=by rw [<-hzs];simpa using hzc
  have hh:=C.heap k _ hb
  rw [hg] at hh
  obtain ⟨vs,hf⟩:∃ vs,Flat T w K (rows.take n) ⟨g.g,off,none⟩ vs:=by
   by_cases h0:n=0
   ·subst h0
    exact ⟨[],by simp,⟨by simp,fun i row h=>by simp at h⟩,fun j u h=>by simp at h,fun u h=>by simp at h⟩
   ·obtain rfl:off=0 * K:=ho1.resolve_right (by omega)
    have:=sub_flat (i:=0) (n:=n) hh (by omega)
    rwa [List.drop_zero] at this
  have hlen:(rows.take n).length=n:=by rw [List.length_take];omega
  have hfc:∀ j u,vs[j]?=some u->w.drew.cell? ((⟨g.g,off,none⟩:Addr).add j)=some u:=hf.cell
  have hvl:vs.length=n * ii.size:=by rw [hf.len,hlen,hsz]
  have hold:(Builtin.firstCells ii.size n (.slice (some ⟨g.g,off,none⟩) n c)).run P w.drew=.ok vs.toArray w.drew:=by
   have:=run_loadCells_list (P:=P) w.drew ⟨g.g,off,none⟩ vs hfc
   rw [hvl] at this
   exact this
  have hrun:=Lib.run_append_grow_zeros (P:=P) w t tn o.type e ii z' .i64 kn hT.u htn hii hzz (some ⟨g.g,off,none⟩) n c vs hold m hm (by rw [hsz];exact hT.K0) hroom (by omega) (by rw [hbb];have:m * bytes<=(n+m) * bytes:=Nat.mul_le_mul_right _ (by omega);omega) (growslice_fits hroom (by rw [hbb];exact hby))
  have hge:=grownCap_ge w (n+m) c e
  have hle:=grownCap_le_maxLen w (n+m) c e (by simp only [maxLen];omega)
  simp only [maxLen] at hle
  obtain ⟨hzr,hzl2⟩:=rows_zero (T:=T) (w:=w) (m:=m) hzs hzl h1
  obtain ⟨hzr3,hzl3⟩:=rows_zero (T:=T) (w:=w) (m:=grownCap w (n+m) c e - (n+m)) hzs hzl h1
  refine ⟨.slice (some ⟨w.heap.size,0,none⟩) (n+m) (grownCap w (n+m) c e),.cells (vs++(Builtin.zeroCells z'.cells m).toList++(Builtin.zeroCells z'.cells (grownCap w (n+m) c e - (n+m))).toList).toArray e,grownCap w (n+m) c e,?_,?_,.inr ⟨_,upd_self _ _ _,?_,?_,?_⟩⟩
  ·unfold execOp
   have e1:(vs.toArray++Builtin.zeroCells z'.cells m++Builtin.zeroCells z'.cells (grownCap w (n+m) c e - (n+m)))=(vs++(Builtin.zeroCells z'.cells m).toList++(Builtin.zeroCells z'.cells (grownCap w (n+m) c e - (n+m))).toList).toArray:=by simp
   rw [e1] at hrun
   simp [ho,resolve,hc,ha,hat,invoke,builtin,hv,hyv,hrun]
  ·refine ⟨hT.K0,.inr ⟨_,_,rfl,.inr rfl,heap_alloc_new w _,?_,by show grownCap w (n+m) c e<=_;omega,?_⟩⟩
   ·rw [List.length_append,List.length_append,hzl2,hzl3,hf.len,hlen,<-Nat.add_mul,<-Nat.add_mul]
    show (n+m+(grownCap w (n+m) c e - (n+m))) * K=grownCap w (n+m) c e * K
    congr 1;omega
   ·have G:=Grow.undrew (w:=w) (Grow.alloc (w:=w.drew) (T:=T) (k:=k2) (c:=grownCap w (n+m) c e) hk (.cells (vs++(Builtin.zeroCells z'.cells m).toList++(Builtin.zeroCells z'.cells (grownCap w (n+m) c e - (n+m))).toList).toArray e) (fun _=>False) fun _ h=>h.elim)
    have h6:=rows_append hf.rows_ hf.len hzr
    refine rows_of_take (m:=n * K+m * K) ?_
    have hl:(vs++(Builtin.zeroCells z'.cells m).toList).length=n * K+m * K:=by rw [List.length_append,hzl2,hf.len,hlen]
    rw [List.take_append_of_le_length (Nat.le_of_eq hl.symm),List.take_of_length_le (Nat.le_of_eq hl)]
    exact h6.grow G
  ·rw [Nat.zero_mul,Nat.sub_zero]
  ·show 0+(n+m)<=grownCap w (n+m) c e;omega
  ·show grownCap w (n+m) c e<=_;omega
theorem g_sliceA {t e K k i n:Nat} {x:Operand} {lo hi mx:Option Operand} {l h:Nat} (ho:o.op=.slice t x lo hi mx) (hu:P.underlying t=some (.slice e)) (hz:(P.info? e).map (·.size)=some K) (hx:ev st x (.v (.c (.s k i K n))))
  (hlo:(lo=none/\l=0)\/∃ x,lo=some x/\ev st x (.v (.c (.d (.v (.int .i64 l)))))) (hhi:(hi=none/\h=n/\mx=none)\/∃ x,hi=some x/\ev st x (.v (.c (.d (.v (.int .i64 h))))))
  (hmx:mx=none\/∃ x m,mx=some x/\ev st x (.v (.c (.d (.v (.int .i64 (m:Nat))))))/\h<=m/\m<=n) (h1:l<=h) (h2:h<=n):GOp P o st (.v (.c .any)) [] []:=
 GOp.val fun σ T ac w C=>by
  have key:∀ A c,n<=c->ac.eval x=.slice A n c->∃ u,(execOp ac.eval o).run P w=.ok (.value u) w:=by
   intro A c hc hA
   obtain ⟨m,hm,hm1,hm2⟩:∃ m:Nat,((mx.map ac.eval=none/\m=c)\/mx.map ac.eval=some (.int .i64 m))/\h<=m/\m<=c:=by
    rcases hmx with rfl|⟨y,m,rfl,hy,h3,h4⟩
    ·exact ⟨c,.inl ⟨rfl,rfl⟩,by omega,Nat.le_refl _⟩
    ·exact ⟨m,.inr (by rw [Option.map_some,DRel.inv (ev_rel C hy)]),h3,by omega⟩
   have:=run_sliceX (P:=P) (w:=w) (A:=A) (len:=n) (cap:=c) hu hz (lo.map ac.eval) (hi.map ac.eval) (mx.map ac.eval) l h m
    (by rcases hlo with ⟨rfl,rfl⟩|⟨y,rfl,hy⟩;exact .inl ⟨rfl,rfl⟩;exact .inr (by rw [Option.map_some,DRel.inv (ev_rel C hy)]))
    (by rcases hhi with ⟨rfl,rfl,rfl⟩|⟨y,rfl,hy⟩;exact .inl ⟨rfl,rfl,rfl⟩;exact .inr (by rw [Option.map_some,DRel.inv (ev_rel C hy)])) hm h1 hm1 hm2
   refine ⟨.slice (if m=l then A else A.map (·.add (l * K))) (h - l) (m - l),?_⟩
   unfold execOp
   simp only [ho,hA,Sem.run_bind,this,Result.andThen_ok]
   rfl
  have hv:CRel σ T w (.s k i K n) _:=ev_rel C hx
  rcases hv with ⟨h0,hv⟩|⟨g,hg,hv,hle,hmx⟩
  ·obtain ⟨u,hu⟩:=key none 0 (by omega) (by rw [hv,h0]);exact ⟨u,hu,trivial⟩
  ·obtain ⟨u,hu⟩:=key _ _ (by omega) hv;exact ⟨u,hu,trivial⟩
theorem g_overlaps {x y:Operand} {cl:Call} {f t tr e tA tB K bytes k1 k2 m i n c:Nat} {E:Bool} {fn:Func} {r1 r2:List (List D)} (hT:SlT P t e K bytes) (hf:P.funcs[f]?=some fn) (hname:(fn.name== "runtime.NumGoroutine")=false) (hbn:fn.body.isNone=true) (hn:Extern.findNext fn=none) (he:Extern.find fn=some (Extern.SlicesOverlaps.overlaps #[t,t] #[tr]))
  (ho:o.op=.call cl) (hc:cl.callee=.value (.func f)) (ha:cl.args=#[x,y]) (hx:ev st x (.v (.c (.s k1 0 K m)))) (hm:0 < m) (hy:ev st y (.v (.c (.sx k2 i K n c E)))) (hc0:0 < c) (hb1:look st.h k1=some (.arr tA K r1)) (hb2:look st.h k2=some (.arr tB K r2)) (hk:k1≠k2):GOp P o st (.v (.c (.d (.v (.bool false))))) [] []:=
 GOp.val fun σ T ac w C=>by
  obtain ⟨g,off,hg,hv,ho1,h2,h3,h4,h5⟩:=ev_rel C hy
  have hxv:CRel σ T w (.s k1 0 K m) _:=ev_rel C hx
  rcases hxv with ⟨h0,_⟩|⟨g1,hg1,hv1,h6,h7⟩
  ·omega
  obtain ⟨ii,z',hii,hzz,hsz,hbb,hzc⟩:=hT.i
  have hh1:=C.heap k1 _ hb1
  have hh2:=C.heap k2 _ hb2
  rw [hg1] at hh1;rw [hg] at hh2
  rcases hh1.2 with ⟨_,h⟩|⟨g',vs1,e1,_,e3,e4,_⟩
  ·cases h
  injection e1 with e1;subst e1
  rcases hh2.2 with ⟨_,h⟩|⟨g',vs2,e1,_,e3',e4',_⟩
  ·cases h
  injection e1 with e1;subst e1
  have hne:g1.g≠g.g:=fun e=>hk (C.inj k1 k2 _ _ g1 g hb1 hb2 hg1 hg e)
  have hK:=hT.K0
  have hpos:0 < vs2.length:=by rw [e4'];exact Nat.mul_pos (by omega) hK
  have hrun:=Lib.run_overlaps_apart (P:=P) w t tr e hT.u K (fun w=>by simp [sizeOf,typeInfo,hii,hsz]) ⟨g1.g,0 * K,none⟩ ⟨g.g,off,none⟩ m (g1.c - 0) n c hne tA tB vs1.length vs2.length (by simp [World.shape?,e3]) (by simp [World.shape?,e3']) (by omega) (by simp [World.frozen?,e3]) (by simp [World.frozen?,e3])
  refine ⟨.bool false,?_,DRel.v _ rfl⟩
  have hcall:=run_callFunc_extern hf hname hbn hn he #[ac.eval x,ac.eval y] w
  rw [hv,hv1,hrun] at hcall
  have hargs:cl.args.map ac.eval=#[.slice (some ⟨g1.g,0 * K,none⟩) m (g1.c - 0),.slice (some ⟨g.g,off,none⟩) n c]:=by rw [ha];simp [hv,hv1]
  have hfe:ac.eval (.func f)=Value.func (.func f) #[] #[]:=rfl
  unfold execOp
  simp [ho,resolve,hc,hfe,Deferred.ofValue,invoke,hargs] at hcall ⊢
  simp [hcall]
end
end Go.Proofs.Ytegepioggeggaaa.Dev
namespace Go.Proofs.Ytegepioggeggaaa.Dev
open Go.RowKit
section
variable {P:Program} {st:AState} {o:Oper}
inductive Empty0:AV->Prop
 |n:Empty0 (.v (.c (.d (.v (.slice none 0 0)))))
 |d (K:Nat) (rows:List (List D)) (h:rows.length=0):Empty0 (.v (.c (.d (.r K rows))))
 |s (k i K n:Nat) (h:n=0):Empty0 (.v (.c (.s k i K n)))
 |x (k i K n c:Nat) (E:Bool) (h:n=0):Empty0 (.v (.c (.sx k i K n c E)))
theorem Empty0.read {σ:Nat->Option Adr} {T:Nat->Prop} {w:World} {v:AV} (h:Empty0 v) {x:Value} (hx:ARel σ T w v x):∃ A c,x=.slice A 0 c:=by
 cases h with
 |n=>exact ⟨_,_,DRel.inv hx⟩
 |d K rows h=>
  have hx:DRel T w (.r K rows) x:=hx
  cases hx with
  |nil A c=>exact ⟨_,_,rfl⟩
  |r=>exact ⟨_,_,by rw [h]⟩
 |s k i K n h=>
  subst h
  rcases hx with ⟨_,h⟩|⟨g,_,h,_⟩
  ·exact ⟨_,_,h⟩
  ·exact ⟨_,_,h⟩
 |x k i K n c E h=>
  subst h
  obtain ⟨g,off,_,h,_⟩:=hx
  exact ⟨_,_,h⟩
end
theorem look_s {l:List (Nat×AV)} {x k i K n n':Nat} (h:look l x=some (.v (.c (.s k i K n)))) (hn:n=n'):look l x=some (.v (.c (.s k i K n'))):=by rw [h,hn]
end Go.Proofs.Ytegepioggeggaaa.Dev
namespace Go.Proofs.Ytegepioggeggaaa.Dev
open Go.RowKit
theorem conv_m8 {a:Int}:Value.int .u8 (IntKind.u8.wrap a)=.int .u8 (a % 256):=by
 have:IntKind.u8.wrap a=a % 256:=by simp [IntKind.wrap,IntKind.bits,IntKind.signed]
 rw [this]
section
variable {P:Program} {st:AState} {o:Oper}
theorem g_shrV {xt yt:TypeId} {x y:Operand} {k:IntKind} {a b r:Int} (ho:o.op=.binOp .shr xt x y yt) (hx:ev st x (.v (.c (.d (.v (.int k a)))))) (hy:ev st y (.v (.c (.d (.v (.int .i64 b))))))
  (h0:0<=b/\b<=64) (hk:k=.i64) (hr:a / 2 ^ b.toNat=r):GOp P o st (.v (.c (.d (.v (.int k r))))) [] []:=
 GOp.val fun σ T ac w C=>by
  have h1:=DRel.inv (ev_rel C hx)
  have h2:=DRel.inv (ev_rel C hy)
  subst hr hk
  refine ⟨_,?_,DRel.v _ rfl⟩
  unfold execOp
  have h3:=shift_shr .i64 .i64 a b h0.1 (by simpa [IntKind.bits] using h0.2)
  simp [ho,h1,h2,binOp,eqGuard,h3]
end
end Go.Proofs.Ytegepioggeggaaa.Dev
