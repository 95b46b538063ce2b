/- A part of the proof: Sh18, Sh21, Sh22, Sh23, Sh24, Sh25, Sh26, Sh27, Sh28, PlDel, PlPace, PlCard, PlPost, Sh29. No condition. -/
import Derived.Test.YtegepioggeggaaaD02
import Derived.Laws.Shifts
import Derived.Laws.BytesString
import Derived.OrdersIn
import Derived.TacticsIn
import Derived.RangeFuncFrom
import Derived.RangeFuncLeaves
import Derived.ChangeMaps4
set_option linter.unusedVariables false
set_option linter.unusedSimpArgs false
namespace Go.Proofs.Ytegepioggeggaaa.Dev
open Go.RowKit

section
variable {P:Program} {W0:World} {F:Nat->Prop} {N:NT} {T0:Nat->Prop} {pin:List (Nat×Adr)} {Q:Exit->AState->Prop} {s:List (Nat×AV)} {h:List (Nat×AB)} {n:Nat}
theorem Inv.slot {a:Act} {w:World} {i:Nat} {v:AV} (hI:Inv W0 F N T0 pin ⟨s,h,n⟩ a w) (hv:∀ σ T,Core σ T ⟨s,h,n⟩ a w->ARel σ T w v (a.tmps.getD i undef)):Inv W0 F N T0 pin ⟨(i,v)::s,h,n⟩ a w:=by
 obtain ⟨σ,T,hT,S,hp⟩:=hI
 refine ⟨σ,T,hT,⟨⟨fun j x hj=>?_,S.core.heap,S.core.inj,S.core.Tlt⟩,S.os,S.tape,S.output,S.size,S.old,S.own,S.next,S.hn,S.tsz,S.dfr⟩,hp⟩
 have hj':look ((i,v)::s) j=some x:=hj
 rw [look_cons] at hj'
 split at hj'
 ·rename_i e;subst e;injection hj' with hj';subst hj'
  exact hv σ T S.core
 ·exact S.core.slots j x hj'
theorem AC.capS {cd:Code} {k r K m:Nat} (i:Nat) (hs:look s i=some (.v (.c (.s k r K m)))) (hm:0 < m) (hk:∀ c,m<=c->c<=9223372036854775807->AC P W0 F N T0 pin Q cd ⟨(i,.v (.c (.sx k r K m c true)))::s,h,n⟩):AC P W0 F N T0 pin Q cd ⟨s,h,n⟩:=fun a w hI=>by
 obtain ⟨σ,T,hT,S,hp⟩:=hI
 have h1:CRel σ T w (.s k r K m) (a.tmps.getD i undef):=S.core.slots i _ hs
 rcases h1 with ⟨h0,_⟩|⟨g,hg,hv,h2,h3⟩
 ·omega
 ·refine hk (g.c - r) (by omega) (by omega) a w ?_
  refine ⟨σ,T,hT,⟨⟨fun j x hj=>?_,S.core.heap,S.core.inj,S.core.Tlt⟩,S.os,S.tape,S.output,S.size,S.old,S.own,S.next,S.hn,S.tsz,S.dfr⟩,hp⟩
  have hj':look ((i,AV.v (.c (.sx k r K m (g.c - r) true)))::s) j=some x:=hj
  rw [look_cons] at hj'
  split at hj'
  ·rename_i e;subst e;injection hj' with hj';subst hj'
   exact ⟨g,r * K,hg,hv,.inl rfl,by omega,by omega,fun _=>by omega,h3⟩
  ·exact S.core.slots j x hj'
theorem Weak.x2s {k r K m c:Nat} (i:Nat) (hs:look s i=some (.v (.c (.sx k r K m c true)))) (hc:0 < c):Weak pin ⟨s,h,n⟩ ⟨(i,.v (.c (.s k r K m)))::s,h,n⟩:=fun W0 F N T0 a w hI=>
 hI.slot fun σ T C=>by
  obtain ⟨g,off,hg,hv,ho,h1,h2,h3,h4⟩:=C.slots i _ hs
  obtain rfl:off=r * K:=ho.resolve_right (by omega)
  have:=h3 rfl
  exact .inr ⟨g,hg,by rw [hv];congr 1;omega,by omega,h4⟩
end
section
variable {P:Program} {st:AState} {o:Oper}
theorem Grow.undrew {σ σ':Nat->Option Adr} {T T':Nat->Prop} {w w':World} {C:Nat->Prop} (G:Grow σ σ' T T' w.drew w' C):Grow σ σ' T T' w w' C:=⟨G.size,G.old,G.CT,G.Tle,G.σle⟩
theorem Ext.undrew {σ σ':Nat->Option Adr} {T T':Nat->Prop} {w w':World} {nb:List (Nat×AB)} {E:List Nat} (X:Ext σ T w.drew σ' T' w' nb E):Ext σ T w σ' T' w' nb E:=⟨X.os,X.tape,X.output,X.grow.undrew,X.Tge,X.Tlt,X.dom,X.rel,X.fresh,X.inj⟩
theorem GOp.newD {k:Nat} {b:AB} {av:AV}
  (h:∀ σ T a w,Core σ T st a w->σ k=none->∃ u ob c,(execOp a.eval o).run P w=.ok (.value u) (w.drew.alloc ob)/\HRel (upd σ k ⟨w.heap.size,c⟩) (addT T w.heap.size) (w.drew.alloc ob) (some ⟨w.heap.size,c⟩) b/\ARel (upd σ k ⟨w.heap.size,c⟩) (addT T w.heap.size) (w.drew.alloc ob) av u):
  GOp P o st av [(k,b)] []:=
 fun σ T a w C hk=>by
  have hk:=hk k b (List.mem_singleton.2 rfl) (by simp)
  obtain ⟨u,ob,c,hu,hr,hv⟩:=h σ T a w C hk
  exact wp_value hu ⟨u,_,_,rfl,Ext.undrew (Ext.alloc (w:=w.drew) C.Tlt ob hk hr),hv⟩
theorem rows_zero {T:Nat->Prop} {w:World} {z:Value} {K m:Nat} {zs:List Value} (hzs:z.cells.toList=zs) (hK:zs.length=K) (h1:zs.all (·.oneCell')=true):Rows T w K (List.replicate m (zs.map D.v)) (Builtin.zeroCells z.cells m).toList/\(Builtin.zeroCells z.cells m).toList.length=m * K:=by
 have hzc:z.cells.size=K:=by rw [<-hK,<-hzs];simp
 have hlen:(Builtin.zeroCells z.cells m).toList.length=m * K:=by simp [Builtin.zeroCells,hzc]
 refine ⟨⟨by rw [List.length_replicate,hlen];exact Nat.le_refl _,fun i row hi=>?_⟩,hlen⟩
 obtain ⟨hi1,rfl⟩:=List.getElem?_eq_some_iff.1 hi
 rw [List.length_replicate] at hi1
 rw [List.getElem_replicate]
 refine ⟨by rw [List.length_map,hK],fun j d hj=>?_⟩
 rw [List.getElem?_map,Option.map_eq_some_iff] at hj
 obtain ⟨u,hu,rfl⟩:=hj
 have hjK:j < K:=by rw [<-hK];exact (List.getElem?_eq_some_iff.1 hu).1
 have hlt:i * K+j < m * K:=by
  have:(i+1) * K<=m * K:=Nat.mul_le_mul_right _ hi1
  rw [Nat.add_mul] at this
  omega
 refine ⟨u,?_,.v u (List.all_eq_true.1 h1 u (List.mem_of_getElem? hu))⟩
 have hmod:(i * K+j) % K=j:=by rw [Nat.mul_comm,Nat.mul_add_mod,Nat.mod_eq_of_lt hjK]
 rw [List.getElem?_eq_getElem (by rw [hlen];exact hlt)]
 simp only [Builtin.zeroCells,Array.getElem_toList,Array.getElem_map,Array.getElem_range,hzc,hmod]
 congr 1
 rw [getElem!_pos z.cells j (by rw [hzc];exact hjK)]
 subst hzs
 rw [Array.getElem?_toList,Array.getElem?_eq_getElem (by rw [hzc];exact hjK)] at hu
 exact Option.some.inj hu
theorem g_app0 {x y:Operand} {cl:Call} {t tn e bt K bytes k n c m N:Nat} {E:Bool} {kn:IntKind} {z:Value} {zs:List Value} {rows rows':List (List D)} (k2:Nat) (hT:SlT P t e K bytes) (hz:(P.info? e).bind (fun i=>i.zero)=some z) (hzs:z.cells.toList=zs) (h1:zs.all (·.oneCell')=true) (htn:P.underlying tn=some (.int kn))
  (ho:o.op=.call cl) (hc:cl.callee=.builtin .append) (ha:cl.args=#[x,y]) (hat:cl.argTypes=#[t,tn]) (hx:ev st x (.v (.c (.sx k 0 K n c E)))) (hb:look st.h k=some (.arr bt K rows)) (hy:ev st y (.v (.c (.d (.v (.int .i64 m)))))) (hm:0 < m) (hN:n+m=N) (hroom:c < N) (hn:n<=rows.length) (h63:N<=9223372036854775807) (hby:N * bytes<=140737488355328)
  (hr:rows.take n++List.replicate m (zs.map D.v)=rows'):GOp P o st (.v (.c (.s k2 0 K N))) [(k2,.arr e K rows')] []:=
 GOp.newD fun σ T ac w C hk=>by
  subst hN hr
  obtain ⟨g,off,hg,hv,ho1,h2,h3,h4,h5⟩:=ev_rel C hx
  have hyv:=DRel.inv (ev_rel C hy)
  obtain ⟨ii,z',hii,hzz,hsz,hbb,hzc⟩:=hT.i
  have hz':z'=z:=by simpa [hii,hzz] using hz
  subst hz'
  have hzl:zs.length=K:=by rw [<-hzs];simpa using hzc
  have hh:=C.heap k _ hb
  rw [hg] at hh
  obtain ⟨vs,hf⟩:∃ vs,Flat T w K (rows.take n) ⟨g.g,off,none⟩ vs:=by
   by_cases h0:n=0
   ·subst h0
    exact ⟨[],by simp,⟨by simp,fun i row h=>by simp at h⟩,fun j u h=>by simp at h,fun u h=>by simp at h⟩
   ·obtain rfl:off=0 * K:=ho1.resolve_right (by omega)
    have:=sub_flat (i:=0) (n:=n) hh (by omega)
    rwa [List.drop_zero] at this
  have hlen:(rows.take n).length=n:=by rw [List.length_take];omega
  have hfc:∀ j u,vs[j]?=some u->w.drew.cell? ((⟨g.g,off,none⟩:Addr).add j)=some u:=hf.cell
  have hvl:vs.length=n * ii.size:=by rw [hf.len,hlen,hsz]
  have hold:(Builtin.firstCells ii.size n (.slice (some ⟨g.g,off,none⟩) n c)).run P w.drew=.ok vs.toArray w.drew:=by
   have:=run_loadCells_list (P:=P) w.drew ⟨g.g,off,none⟩ vs hfc
   rw [hvl] at this
   exact this
  have hrun:=Lib.run_append_grow_zeros (P:=P) w t tn o.type e ii z' .i64 kn hT.u htn hii hzz (some ⟨g.g,off,none⟩) n c vs hold m hm (by rw [hsz];exact hT.K0) hroom (by omega) (by rw [hbb];have:m * bytes<=(n+m) * bytes:=Nat.mul_le_mul_right _ (by omega);omega) (growslice_fits hroom (by rw [hbb];exact hby))
  have hge:=grownCap_ge w (n+m) c e
  have hle:=grownCap_le_maxLen w (n+m) c e (by simp only [maxLen];omega)
  simp only [maxLen] at hle
  obtain ⟨hzr,hzl2⟩:=rows_zero (T:=T) (w:=w) (m:=m) hzs hzl h1
  obtain ⟨hzr3,hzl3⟩:=rows_zero (T:=T) (w:=w) (m:=grownCap w (n+m) c e - (n+m)) hzs hzl h1
  refine ⟨.slice (some ⟨w.heap.size,0,none⟩) (n+m) (grownCap w (n+m) c e),.cells (vs++(Builtin.zeroCells z'.cells m).toList++(Builtin.zeroCells z'.cells (grownCap w (n+m) c e - (n+m))).toList).toArray e,grownCap w (n+m) c e,?_,?_,.inr ⟨_,upd_self _ _ _,?_,?_,?_⟩⟩
  ·unfold execOp
   have e1:(vs.toArray++Builtin.zeroCells z'.cells m++Builtin.zeroCells z'.cells (grownCap w (n+m) c e - (n+m)))=(vs++(Builtin.zeroCells z'.cells m).toList++(Builtin.zeroCells z'.cells (grownCap w (n+m) c e - (n+m))).toList).toArray:=by simp
   rw [e1] at hrun
   simp [ho,resolve,hc,ha,hat,invoke,builtin,hv,hyv,hrun]
  ·refine ⟨hT.K0,.inr ⟨_,_,rfl,.inr rfl,heap_alloc_new w _,?_,by show grownCap w (n+m) c e<=_;omega,?_⟩⟩
   ·rw [List.length_append,List.length_append,hzl2,hzl3,hf.len,hlen,<-Nat.add_mul,<-Nat.add_mul]
    show (n+m+(grownCap w (n+m) c e - (n+m))) * K=grownCap w (n+m) c e * K
    congr 1;omega
   ·have G:=Grow.undrew (w:=w) (Grow.alloc (w:=w.drew) (T:=T) (k:=k2) (c:=grownCap w (n+m) c e) hk (.cells (vs++(Builtin.zeroCells z'.cells m).toList++(Builtin.zeroCells z'.cells (grownCap w (n+m) c e - (n+m))).toList).toArray e) (fun _=>False) fun _ h=>h.elim)
    have h6:=rows_append hf.rows_ hf.len hzr
    refine rows_of_take (m:=n * K+m * K) ?_
    have hl:(vs++(Builtin.zeroCells z'.cells m).toList).length=n * K+m * K:=by rw [List.length_append,hzl2,hf.len,hlen]
    rw [List.take_append_of_le_length (Nat.le_of_eq hl.symm),List.take_of_length_le (Nat.le_of_eq hl)]
    exact h6.grow G
  ·rw [Nat.zero_mul,Nat.sub_zero]
  ·show 0+(n+m)<=grownCap w (n+m) c e;omega
  ·show grownCap w (n+m) c e<=_;omega
theorem g_sliceA {t e K k i n:Nat} {x:Operand} {lo hi mx:Option Operand} {l h:Nat} (ho:o.op=.slice t x lo hi mx) (hu:P.underlying t=some (.slice e)) (hz:(P.info? e).map (·.size)=some K) (hx:ev st x (.v (.c (.s k i K n))))
  (hlo:(lo=none/\l=0)\/∃ x,lo=some x/\ev st x (.v (.c (.d (.v (.int .i64 l)))))) (hhi:(hi=none/\h=n/\mx=none)\/∃ x,hi=some x/\ev st x (.v (.c (.d (.v (.int .i64 h))))))
  (hmx:mx=none\/∃ x m,mx=some x/\ev st x (.v (.c (.d (.v (.int .i64 (m:Nat))))))/\h<=m/\m<=n) (h1:l<=h) (h2:h<=n):GOp P o st (.v (.c .any)) [] []:=
 GOp.val fun σ T ac w C=>by
  have key:∀ A c,n<=c->ac.eval x=.slice A n c->∃ u,(execOp ac.eval o).run P w=.ok (.value u) w:=by
   intro A c hc hA
   obtain ⟨m,hm,hm1,hm2⟩:∃ m:Nat,((mx.map ac.eval=none/\m=c)\/mx.map ac.eval=some (.int .i64 m))/\h<=m/\m<=c:=by
    rcases hmx with rfl|⟨y,m,rfl,hy,h3,h4⟩
    ·exact ⟨c,.inl ⟨rfl,rfl⟩,by omega,Nat.le_refl _⟩
    ·exact ⟨m,.inr (by rw [Option.map_some,DRel.inv (ev_rel C hy)]),h3,by omega⟩
   have:=run_sliceX (P:=P) (w:=w) (A:=A) (len:=n) (cap:=c) hu hz (lo.map ac.eval) (hi.map ac.eval) (mx.map ac.eval) l h m
    (by rcases hlo with ⟨rfl,rfl⟩|⟨y,rfl,hy⟩;exact .inl ⟨rfl,rfl⟩;exact .inr (by rw [Option.map_some,DRel.inv (ev_rel C hy)]))
    (by rcases hhi with ⟨rfl,rfl,rfl⟩|⟨y,rfl,hy⟩;exact .inl ⟨rfl,rfl,rfl⟩;exact .inr (by rw [Option.map_some,DRel.inv (ev_rel C hy)])) hm h1 hm1 hm2
   refine ⟨.slice (if m=l then A else A.map (·.add (l * K))) (h - l) (m - l),?_⟩
   unfold execOp
   simp only [ho,hA,Sem.run_bind,this,Result.andThen_ok]
   rfl
  have hv:CRel σ T w (.s k i K n) _:=ev_rel C hx
  rcases hv with ⟨h0,hv⟩|⟨g,hg,hv,hle,hmx⟩
  ·obtain ⟨u,hu⟩:=key none 0 (by omega) (by rw [hv,h0]);exact ⟨u,hu,trivial⟩
  ·obtain ⟨u,hu⟩:=key _ _ (by omega) hv;exact ⟨u,hu,trivial⟩
theorem g_overlaps {x y:Operand} {cl:Call} {f t tr e tA tB K bytes k1 k2 m i n c:Nat} {E:Bool} {fn:Func} {r1 r2:List (List D)} (hT:SlT P t e K bytes) (hf:P.funcs[f]?=some fn) (hname:(fn.name== "runtime.NumGoroutine")=false) (hbn:fn.body.isNone=true) (hn:Extern.findNext fn=none) (he:Extern.find fn=some (Extern.SlicesOverlaps.overlaps #[t,t] #[tr]))
  (ho:o.op=.call cl) (hc:cl.callee=.value (.func f)) (ha:cl.args=#[x,y]) (hx:ev st x (.v (.c (.s k1 0 K m)))) (hm:0 < m) (hy:ev st y (.v (.c (.sx k2 i K n c E)))) (hc0:0 < c) (hb1:look st.h k1=some (.arr tA K r1)) (hb2:look st.h k2=some (.arr tB K r2)) (hk:k1≠k2):GOp P o st (.v (.c (.d (.v (.bool false))))) [] []:=
 GOp.val fun σ T ac w C=>by
  obtain ⟨g,off,hg,hv,ho1,h2,h3,h4,h5⟩:=ev_rel C hy
  have hxv:CRel σ T w (.s k1 0 K m) _:=ev_rel C hx
  rcases hxv with ⟨h0,_⟩|⟨g1,hg1,hv1,h6,h7⟩
  ·omega
  obtain ⟨ii,z',hii,hzz,hsz,hbb,hzc⟩:=hT.i
  have hh1:=C.heap k1 _ hb1
  have hh2:=C.heap k2 _ hb2
  rw [hg1] at hh1;rw [hg] at hh2
  rcases hh1.2 with ⟨_,h⟩|⟨g',vs1,e1,_,e3,e4,_⟩
  ·cases h
  injection e1 with e1;subst e1
  rcases hh2.2 with ⟨_,h⟩|⟨g',vs2,e1,_,e3',e4',_⟩
  ·cases h
  injection e1 with e1;subst e1
  have hne:g1.g≠g.g:=fun e=>hk (C.inj k1 k2 _ _ g1 g hb1 hb2 hg1 hg e)
  have hK:=hT.K0
  have hpos:0 < vs2.length:=by rw [e4'];exact Nat.mul_pos (by omega) hK
  have hrun:=Lib.run_overlaps_apart (P:=P) w t tr e hT.u K (fun w=>by simp [sizeOf,typeInfo,hii,hsz]) ⟨g1.g,0 * K,none⟩ ⟨g.g,off,none⟩ m (g1.c - 0) n c hne tA tB vs1.length vs2.length (by simp [World.shape?,e3]) (by simp [World.shape?,e3']) (by omega) (by simp [World.frozen?,e3]) (by simp [World.frozen?,e3])
  refine ⟨.bool false,?_,DRel.v _ rfl⟩
  have hcall:=run_callFunc_extern hf hname hbn hn he #[ac.eval x,ac.eval y] w
  rw [hv,hv1,hrun] at hcall
  have hargs:cl.args.map ac.eval=#[.slice (some ⟨g1.g,0 * K,none⟩) m (g1.c - 0),.slice (some ⟨g.g,off,none⟩) n c]:=by rw [ha];simp [hv,hv1]
  have hfe:ac.eval (.func f)=Value.func (.func f) #[] #[]:=rfl
  unfold execOp
  simp [ho,resolve,hc,hfe,Deferred.ofValue,invoke,hargs] at hcall ⊢
  simp [hcall]
end
end Go.Proofs.Ytegepioggeggaaa.Dev
namespace Go.Proofs.Ytegepioggeggaaa.Dev
open Go.RowKit
section
variable {P:Program} {st:AState} {o:Oper}
inductive Empty0:AV->Prop
 |n:Empty0 (.v (.c (.d (.v (.slice none 0 0)))))
 |d (K:Nat) (rows:List (List D)) (h:rows.length=0):Empty0 (.v (.c (.d (.r K rows))))
 |s (k i K n:Nat) (h:n=0):Empty0 (.v (.c (.s k i K n)))
 |x (k i K n c:Nat) (E:Bool) (h:n=0):Empty0 (.v (.c (.sx k i K n c E)))
theorem Empty0.read {σ:Nat->Option Adr} {T:Nat->Prop} {w:World} {v:AV} (h:Empty0 v) {x:Value} (hx:ARel σ T w v x):∃ A c,x=.slice A 0 c:=by
 cases h with
 |n=>exact ⟨_,_,DRel.inv hx⟩
 |d K rows h=>
  have hx:DRel T w (.r K rows) x:=hx
  cases hx with
  |nil A c=>exact ⟨_,_,rfl⟩
  |r=>exact ⟨_,_,by rw [h]⟩
 |s k i K n h=>
  subst h
  rcases hx with ⟨_,h⟩|⟨g,_,h,_⟩
  ·exact ⟨_,_,h⟩
  ·exact ⟨_,_,h⟩
 |x k i K n c E h=>
  subst h
  obtain ⟨g,off,_,h,_⟩:=hx
  exact ⟨_,_,h⟩
end
theorem look_s {l:List (Nat×AV)} {x k i K n n':Nat} (h:look l x=some (.v (.c (.s k i K n)))) (hn:n=n'):look l x=some (.v (.c (.s k i K n'))):=by rw [h,hn]
end Go.Proofs.Ytegepioggeggaaa.Dev
namespace Go.Proofs.Ytegepioggeggaaa.Dev
open Go.RowKit
theorem conv_m8 {a:Int}:Value.int .u8 (IntKind.u8.wrap a)=.int .u8 (a % 256):=by
 have:IntKind.u8.wrap a=a % 256:=by simp [IntKind.wrap,IntKind.bits,IntKind.signed]
 rw [this]
section
variable {P:Program} {st:AState} {o:Oper}
theorem g_shrV {xt yt:TypeId} {x y:Operand} {k:IntKind} {a b r:Int} (ho:o.op=.binOp .shr xt x y yt) (hx:ev st x (.v (.c (.d (.v (.int k a)))))) (hy:ev st y (.v (.c (.d (.v (.int .i64 b))))))
  (h0:0<=b/\b<=64) (hk:k=.i64) (hr:a / 2 ^ b.toNat=r):GOp P o st (.v (.c (.d (.v (.int k r))))) [] []:=
 GOp.val fun σ T ac w C=>by
  have h1:=DRel.inv (ev_rel C hx)
  have h2:=DRel.inv (ev_rel C hy)
  subst hr hk
  refine ⟨_,?_,DRel.v _ rfl⟩
  unfold execOp
  have h3:=shift_shr .i64 .i64 a b h0.1 (by simpa [IntKind.bits] using h0.2)
  simp [ho,h1,h2,binOp,eqGuard,h3]
end
end Go.Proofs.Ytegepioggeggaaa.Dev
namespace Go.Proofs.Ytegepioggeggaaa.Dev
open Go.RowKit
def isDefer:Op->Bool
 |.defer _=>true
 |_=>false
theorem rowsIn_wide {n l:Nat} {P:Program} {row:String} {args:Array Value} {w:World} {R:Value->World->Prop} (h:Go.Rows P row args w R):RowsIn (Fence.wide.inRound l) n P row args w R:=fun c cs _=>by
 obtain ⟨v,w',h1,h2⟩:=h c cs
 exact ⟨v,w',h1,stepsIn_wide.2 h2⟩
section
variable {P:Program} {l n:Nat}
theorem opIn {o:Oper} {a:Go.Act} {w:World} {K:Go.Act->World->Prop} {Q:Exit->Go.Act->World->Prop} (hd:isDefer o.op=false) (hQ:¬LetsOut Q) (h:o.wp P a w K Q\/(o.asks P a w/\LetsOut Q)):o.wpIn (Fence.wide.inRound l) n P a w K Q:=by
 have h:=h.resolve_right fun h=>hQ h.2
 have hd':∀ c,o.op≠.defer c:=fun c hc=>by rw [hc] at hd;cases hd
 refine ⟨fun f _=>trivial,?_⟩
 rw [Fence.inRound_round,Oper.semAt_some l _ o hd']
 unfold Oper.wp at h
 generalize (execOp a.eval o).run P w=r at h
 cases r with
 |ok x w'=>
  cases x<;>simp only [Oper.upon,Oper.uponIn] at h ⊢<;>
   first
    |exact h
    |exact h.elim
    |exact ⟨fun h=>(by cases h),callsIn_wide.2 h⟩
    |exact ⟨fun h=>(by cases h),rowsIn_wide h⟩
 |halt x w'=>cases x<;>simp only [Oper.upon,Oper.uponIn] at h ⊢<;>exact h
theorem wpList_in {ops:Array Oper} {Q:Exit->Go.Act->World->Prop} (hQ:¬LetsOut Q):∀ (k:List Oper) (a:Go.Act) (w:World),(k.all fun o=>!isDefer o.op)=true->wpList P ops Q k a w->wpListIn (Fence.wide.inRound l) n P ops Q k a w
 |[],a,w,_,h=>h
 |o::k,a,w,hd,h=>by
  simp only [List.all_cons,Bool.and_eq_true,Bool.not_eq_true'] at hd
  have ih:=wpList_in (ops:=ops) hQ k
  unfold wpList at h
  unfold wpListIn
  split at h
  ·rename_i hw
   rw [if_pos hw]
   exact opIn hd.1 hQ (h.imp (fun h=>operMono h fun a w hk=>ih a w hd.2 hk) id)
  ·rename_i hw
   rw [if_neg hw]
   exact ⟨fun _ _=>trivial,ih _ _ hd.2 h⟩
theorem wpOp_in {ops:Array Oper} {Q:Exit->Go.Act->World->Prop} (hQ:¬LetsOut Q) (hd:(ops.toList.all fun o=>!isDefer o.op)=true) {i:Nat} {K K':Go.Act->World->Prop} {a:Go.Act} {w:World} (hK:∀ a w,K a w->K' a w) (h:wpOp P ops Q i K a w):wpOpIn (Fence.wide.inRound l) n P ops Q i K' a w:=by
 unfold wpOp at h
 unfold wpOpIn
 cases ho:ops[i]? with
 |none=>simp only [ho] at h ⊢;exact hK _ _ h
 |some o=>
  simp only [ho] at h ⊢
  have hdo:isDefer o.op=false:=by
   have:=List.all_eq_true.1 hd o (Array.mem_toList_iff.2 (Array.mem_of_getElem? ho))
   simpa using this
  split
  ·rename_i hw
   simp only [hw,if_true] at h
   exact opIn hdo hQ (h.imp (fun h=>operMono h hK) id)
  ·rename_i hw
   simp only [hw] at h
   exact ⟨fun _ _=>trivial,hK _ _ h⟩
theorem wpAny_in {md:Region.Mode} {ops:Array Oper} {Q:Exit->Go.Act->World->Prop} (hQ:¬LetsOut Q) (hd:(ops.toList.all fun o=>!isDefer o.op)=true):∀ (fuel:Nat) (listed:Array Bool) (a:Go.Act) (w:World),wpAny P md ops Q fuel listed a w->wpAnyIn (Fence.wide.inRound l) n P md ops Q fuel listed a w
 |0,_,_,_,h=>h
 |fuel+1,listed,a,w,h=>by
  unfold wpAny at h
  unfold wpAnyIn
  exact ⟨h.1,fun i hi=>wpOp_in hQ hd (fun a w hk=>wpAny_in hQ hd fuel _ a w hk) (h.2 i hi)⟩
end
section
variable {P:Program} {l n:Nat} {W0:World} {F:Nat->Prop} {N:NT} {T0:Nat->Prop} {pin:List (Nat×Adr)} {Q:Exit->AState->Prop} {st:AState}
def ACR (P:Program) (l n:Nat) (W0:World) (F:Nat->Prop) (N:NT) (T0:Nat->Prop) (pin:List (Nat×Adr)) (Q:Exit->AState->Prop) (c:Code) (st:AState):Prop:=
 (∀ st,¬Q .outgrown st)->∀ a w,Inv W0 F N T0 pin st a w->c.wpIn (Fence.wide.inRound l) n P (QX W0 F N T0 pin Q) a w
theorem no_out (hq:∀ st,¬Q .outgrown st):¬LetsOut (QX W0 F N T0 pin Q):=fun ⟨_,_,st,h,_⟩=>hq st h
theorem ACR.seq {x y:Code} (h:ACR P l n W0 F N T0 pin (thenQ (ACR P l n W0 F N T0 pin Q y) Q) x st):ACR P l n W0 F N T0 pin Q (.seq x y) st:=fun hq a w hI=>
 wpIn_seq (Code.wpIn_mono (fun e a w q=>by
  obtain ⟨st',hq',hi⟩:=q
  cases e<;>first|exact hq' hq a w hi|exact ⟨st',hq',hi⟩) (h hq a w hI))
theorem ACR.block {id:Nat} {c:Code} (h:ACR P l n W0 F N T0 pin (blockQ id Q) c st):ACR P l n W0 F N T0 pin Q (.block id c) st:=fun hq a w hI=>
 wpIn_block (Code.wpIn_mono (fun e a w q=>by
  obtain ⟨st',hq,hi⟩:=q
  cases e<;>try exact ⟨st',hq,hi⟩
  rename_i id'
  simp only [Exit.inBlock]
  by_cases hid:id'=id
  ·rw [if_pos hid];subst hid;exact ⟨st',by simpa [blockQ] using hq,hi⟩
  ·rw [if_neg hid];exact ⟨st',by simpa [blockQ,hid] using hq,hi⟩) (h hq a w hI))
theorem ACR.region {id:Nat} {k:List Oper} (hd:(k.all fun o=>!isDefer o.op)=true) (h:AL P W0 F N T0 pin k.toArray Q k st):ACR P l n W0 F N T0 pin Q (.region id k.toArray false) st:=fun hq a w hI=>
 wpIn_region_lit (wpList_in (no_out hq) k a w hd (h a w hI))
theorem ACR.weak {st':AState} {c:Code} (hw:Weak pin st st') (h:ACR P l n W0 F N T0 pin Q c st'):ACR P l n W0 F N T0 pin Q c st:=fun hq a w hI=>h hq a w (hw _ _ _ _ a w hI)
theorem ACR.draw {id:Nat} {k:List Oper} (hd:(k.all fun o=>!isDefer o.op)=true) (tbl:List ORow) (fin:AState) (hm:P.follows .mixedOrders=true) (hB:drawB k.toArray tbl N.1 st fin=true) (hrows:RowsOK P k.toArray tbl k) (hsee:SeesOK st tbl tbl) (hfin:FinOK st tbl fin)
  (h:AL P W0 F N T0 pin k.toArray Q (k.drop tbl.length) fin):ACR P l n W0 F N T0 pin Q (.region id k.toArray true) st:=fun hq a w hI=>
 wpIn_region_any hm (wpAny_in (no_out hq) (by simpa using hd) _ _ _ _ (AC.draw_any tbl fin hm hB hrows hsee hfin h a w hI))
end
end Go.Proofs.Ytegepioggeggaaa.Dev
namespace Go.Proofs.Ytegepioggeggaaa.Dev
open Go.RowKit
structure Keeps (m:Bool) (W W':World):Prop where
 size:W.heap.size<=W'.heap.size
 cells:∀ (b:Nat) (o:Obj),W.heap[b]?=some o->o.isCells=true->W'.heap[b]?=some o
 maps:m=true->∀ (b:Nat) ms c,W.heap[b]?=some (.map ms c)->W'.heap[b]?=some (.map ms c)
theorem Keeps.cell {m:Bool} {W W':World} (K:Keeps m W W') {a:Addr} {v:Value} (h:W.cell? a=some v):W'.cell? a=some v:=by
 obtain ⟨o,ho,hc⟩:=cells_of_cell h
 exact (World.cell?_of_block ((K.cells _ _ ho hc).trans ho.symm)).trans h
theorem DRel.keep {m:Bool} {T:Nat->Prop} {W W':World} (K:Keeps m W W') {d:D} {v:Value} (h:DRel T W d v):DRel T W' d v:=by
 induction h with
 |v x hx=>exact .v x hx
 |nil k A c=>exact .nil k A c
 |r k rows b off c cs hb hT hc hm hK hcell hd ih=>exact .r k rows b off c cs (Nat.lt_of_lt_of_le hb K.size) hT hc hm hK (fun i row j d h1 h2=>K.cell (hcell i row j d h1 h2)) ih
 |f fn caps bs offs cs hb hcell hd ih=>exact .f fn caps bs offs cs (fun i hi=>⟨Nat.lt_of_lt_of_le (hb i hi).1 K.size,(hb i hi).2⟩) (fun i row j d h1 h2=>K.cell (hcell i row j d h1 h2)) ih
theorem CRel.keep {m:Bool} {σ:Nat->Option Adr} {T:Nat->Prop} {W W':World} (K:Keeps m W W') {c:CV} {v:Value} (h:CRel σ T W c v):CRel σ T W' c v:=by
 cases c with
 |any=>trivial
 |d x=>exact DRel.keep K h
 |p=>exact h
 |q row o=>
  obtain ⟨b,off,h1,h2,h3,h4⟩:=h
  exact ⟨b,off,h1,Nat.lt_of_lt_of_le h2 K.size,h3,fun j d hj=>by obtain ⟨u,hu,hr⟩:=h4 j d hj;exact ⟨u,K.cell hu,hr.keep K⟩⟩
 |s=>exact h
 |sx=>exact h
 |m=>exact h
 |fn=>exact h
theorem GRel.keep {m:Bool} {σ:Nat->Option Adr} {T:Nat->Prop} {W W':World} (K:Keeps m W W') {g:GV} {v:Value} (h:GRel σ T W g v):GRel σ T W' g v:=by
 cases g with
 |c x=>exact CRel.keep K h
 |g xs=>obtain ⟨vs,h1,h2⟩:=h;exact ⟨vs,h1,h2.mono fun _ _ hh=>CRel.keep K hh⟩
theorem ARel.keep {m:Bool} {σ:Nat->Option Adr} {T:Nat->Prop} {W W':World} (K:Keeps m W W') {x:AV} {v:Value} (h:ARel σ T W x v):ARel σ T W' x v:=by
 cases x with
 |v x=>exact GRel.keep K h
 |t xs=>obtain ⟨vs,h1,h2⟩:=h;exact ⟨vs,h1,h2.mono fun _ _ hh=>GRel.keep K hh⟩
def isMapB:AB->Bool
 |.map _ _=>true
 |_=>false
theorem HRel.keep {m:Bool} {σ:Nat->Option Adr} {T:Nat->Prop} {W W':World} (K:Keeps m W W') {og:Option Adr} {b:AB} (hb:m=true\/isMapB b=false) (h:HRel σ T W og b):HRel σ T W' og b:=by
 cases b with
 |box t cs=>obtain ⟨g,vs,h1,h2,h3,h4⟩:=h;exact ⟨g,vs,h1,h2,K.cells _ _ h3 rfl,h4.mono fun _ _ hh=>CRel.keep K hh⟩
 |arr t k rows=>
  obtain ⟨h0,h|⟨g,vs,h1,h2,h3,h4,h5,h6⟩⟩:=h
  ·exact ⟨h0,.inl h⟩
  ·exact ⟨h0,.inr ⟨g,vs,h1,h2,K.cells _ _ h3 rfl,h4,h5,h6.1,fun i row hr=>⟨(h6.2 i row hr).1,fun j d hj=>by obtain ⟨u,hu,hd⟩:=(h6.2 i row hr).2 j d hj;exact ⟨u,hu,hd.keep K⟩⟩⟩⟩
 |map es c=>
  obtain ⟨g,ms,h1,h2,h3,h4⟩:=h
  have hm:m=true:=hb.resolve_right (by simp [isMapB])
  exact ⟨g,ms,h1,h2,K.maps hm _ _ _ h3,h4⟩
def noMaps (st:AState):Bool:=st.h.all fun x=>!isMapB x.2
theorem noMaps_look {st:AState} (h:noMaps st=true) {k:Nat} {b:AB} (hk:look st.h k=some b):isMapB b=false:=by
 have:=List.all_eq_true.1 h _ (look_mem hk)
 simpa using this
section
variable {W0:World} {F:Nat->Prop} {N:NT} {T0:Nat->Prop} {pin:List (Nat×Adr)} {st:AState} {a:Go.Act} {W:World}
theorem Inv.keep {m:Bool} {W':World} (hI:Inv W0 F N T0 pin st a W) (K:Keeps m W W') (hm:m=true\/noMaps st=true) (hos:W'.os=W.os) (htp:W'.tape=W.tape) (hout:W'.output=W.output) (hold:∀ b,b < W0.heap.size->W'.heap[b]?=W.heap[b]?):Inv W0 F N T0 pin st a W':=by
 obtain ⟨σ,T,hT,S,hp⟩:=hI
 refine ⟨σ,T,hT,⟨⟨fun i v h=>(S.core.slots i v h).keep K,fun k b h=>HRel.keep K (hm.imp id fun h'=>noMaps_look h' h) (S.core.heap k b h),S.core.inj,fun b h=>Nat.lt_of_lt_of_le (S.core.Tlt b h) K.size⟩,hos.trans S.os,htp.trans S.tape,hout.trans S.output,Nat.le_trans S.size K.size,fun b hb hF=>(hold b hb).trans (S.old b hb hF),S.own,S.next,S.hn,S.tsz,S.dfr⟩,hp⟩
theorem keeps_of_grown {W':World} {row:Option Nat} (hg:W.grownBy W' row) (hr:∀ r,row=some r->∃ o:Obj,W.heap[r]?=some o/\o.isCells=false):Keeps false W W':=
 ⟨hg.size,fun b o ho hc=>(grownBy_keeps_cells hg hr ho hc).trans ho,fun h=>by cases h⟩
theorem Inv.own (hm:noMaps st=true) {W':World} {row:Option Nat} (hI:Inv W0 F N T0 pin st a W) (hg:W.grownBy W' row) (hr:∀ r,row=some r->W0.heap.size<=r/\∃ o:Obj,W.heap[r]?=some o/\o.isCells=false):Inv W0 F N T0 pin st a W':=by
 have hsz:W0.heap.size<=W.heap.size:=by obtain ⟨_,_,_,S,_⟩:=hI;exact S.size
 refine hI.keep (keeps_of_grown hg fun r e=>(hr r e).2) (.inr hm) hg.os hg.tape hg.output fun b hb=>hg.block b (by omega) ?_
 intro e
 have:=(hr b e.symm).1
 omega
theorem DRel.old {σ:Nat->Option Adr} {T:Nat->Prop} (hF:∀ b,F b->T0 b) (hT:∀ b,b < W0.heap.size->(T b->T0 b)/\(T0 b->T b)) (S:Sim W0 F N σ T st a W) {d:D} {v:Value} (h:DRel T0 W0 d v):DRel T W d v:=by
 have cell:∀ b o u,b < W0.heap.size->¬T0 b->W0.cell? ⟨b,o,none⟩=some u->W.cell? ⟨b,o,none⟩=some u:=fun b o u hb hn hc=>
  (cell_of_heap (S.old b hb fun h=>hn (hF b h)) o).trans hc
 induction h with
 |v x hx=>exact .v x hx
 |nil k A c=>exact .nil k A c
 |r k rows b off c cs hb hn hc hm hK hcell hd ih=>exact .r k rows b off c cs (Nat.lt_of_lt_of_le hb S.size) (fun h=>hn ((hT b hb).1 h)) hc hm hK (fun i row j d h1 h2=>cell _ _ _ hb hn (hcell i row j d h1 h2)) ih
 |f fn caps bs offs cs hb hcell hd ih=>exact .f fn caps bs offs cs (fun i hi=>⟨Nat.lt_of_lt_of_le (hb i hi).1 S.size,fun h=>(hb i hi).2 ((hT _ (hb i hi).1).1 h)⟩) (fun i row j d h1 h2=>by
   have hi:=(List.getElem?_eq_some_iff.1 h1).1
   exact cell _ _ _ (hb i hi).1 (hb i hi).2 (hcell i row j d h1 h2)) ih
def ACX (P:Program) (W0:World) (F:Nat->Prop) (N:NT) (T0:Nat->Prop) (pin:List (Nat×Adr)) (Qf:Exit->Go.Act->World->Prop) (c:Code) (st:AState):Prop:=∀ a w,Inv W0 F N T0 pin st a w->c.wp P Qf a w
def XQ (W0:World) (F:Nat->Prop) (N:NT) (T0:Nat->Prop) (pin:List (Nat×Adr)) (Qf:Exit->Go.Act->World->Prop):Exit->AState->Prop:=fun e st=>∀ a w,Inv W0 F N T0 pin st a w->Qf e a w
theorem ACX.seq {P:Program} {Qf:Exit->Go.Act->World->Prop} {x y:Code} (h:AC P W0 F N T0 pin (thenQ (ACX P W0 F N T0 pin Qf y) (XQ W0 F N T0 pin Qf)) x st):ACX P W0 F N T0 pin Qf (.seq x y) st:=fun a w hI=>
 wp_seq (Code.wp_mono (fun e a w q=>by
  obtain ⟨st',hq,hi⟩:=q
  cases e<;>exact hq a w hi) (h a w hI))
end
end Go.Proofs.Ytegepioggeggaaa.Dev
namespace Go.Proofs.Ytegepioggeggaaa.Dev
open Go.RowKit
def FrzC (nb:List (Nat×AB)) (c d:CV):Prop:=(∃ x,c=.d x/\d=.d x)\/∃ k t K n rows,c=.s k 0 K n/\d=.d (.r K rows)/\look nb k=some (.arr t K rows)/\rows.length=n
def FrzG (nb:List (Nat×AB)):GV->GV->Prop
 |.c c,.c d=>FrzC nb c d
 |.g cs,.g ds=>All2 (FrzC nb) cs ds
 |_,_=>False
def FrzA (nb:List (Nat×AB)):AV->AV->Prop
 |.v c,.v d=>FrzG nb c d
 |.t cs,.t ds=>All2 (FrzG nb) cs ds
 |_,_=>False
theorem All2.comp {α β γ:Type} {R:α->β->Prop} {S:α->γ->Prop} {U:β->γ->Prop} (h:∀ x y z,R x y->S x z->U y z):∀ {xs:List α} {ys:List β} {zs:List γ},All2 R xs ys->All2 S xs zs->All2 U ys zs
 |[],[],[],_,_=>trivial
 |_::_,_::_,_::_,h1,h2=>⟨h _ _ _ h1.1 h2.1,All2.comp h h1.2 h2.2⟩
 |[],[],_::_,_,h2=>h2.elim
 |[],_::_,_,h1,_=>h1.elim
 |_::_,[],_,h1,_=>h1.elim
 |_::_,_::_,[],_,h2=>h2.elim
theorem Fn.frozen {P:Program} {f:FuncId} {ins:List GV} {av av':AV} {nb:List (Nat×AB)} (h:Fn P f ins av nb) (hf:FrzA nb av av'):Fn P f ins av' []:=by
 intro T w args hT hin
 refine (h T w args hT hin).mono ?_
 rintro e w' ⟨v,σ,T',he,hB,R⟩
 have hlow:∀ b,(T' b/\b < w.heap.size)->T' b:=fun b h=>h.1
 have hc:∀ c d u,FrzC nb c d->CRel σ T' w' c u->CRel (fun _=>none) (fun b=>T' b/\b < w.heap.size) w' d u:=by
  rintro c d u (⟨x,rfl,rfl⟩|⟨k,t,K,n,rows,rfl,rfl,hk,hn⟩) hu
  ·exact DRel.anti hlow hu
  ·have hh:=R.heap k _ (look_mem hk)
   obtain ⟨hK,hh⟩:=hh
   rcases hu with ⟨h0,rfl⟩|⟨g,hg,rfl,hcap,hmax⟩
   ·subst h0
    have:rows=[]:=List.eq_nil_of_length_eq_zero hn
    subst this
    exact DRel.nil _ _ _
   ·rcases hh with ⟨h1,h2⟩|⟨g',vs,h1,h2,h3,h4,h5,h6⟩
    ·rw [hg] at h2;cases h2
    ·rw [hg] at h1;injection h1 with h1;subst h1
     have hfr:=R.fresh k _ g (look_mem hk) hg
     have:=DRel.r (T:=fun b=>T' b/\b < w.heap.size) (w:=w') K rows g.g (0 * K) (g.c - 0) (fun i j=>(vs[i * K+j]?).getD undef) (R.Tlt _ h2) (fun hb=>by have:=hb.2;omega) (by omega) (by omega) (fun i row hr=>(h6.2 i row hr).1) (fun i row j d hr hd=>?_) (fun i row j d hr hd=>?_)
     ·rw [hn] at this;exact this
     ·obtain ⟨u,hu,_⟩:=(h6.2 i row hr).2 j d hd
      rw [Nat.zero_mul,Nat.zero_add,cell_of_row w' g.g (i * K+j) _ _ (0,0) h3]
      simp only [List.getElem?_toArray,hu,Option.getD_some]
     ·obtain ⟨u,hu,hr'⟩:=(h6.2 i row hr).2 j d hd
      simp only [hu,Option.getD_some]
      exact hr'.anti hlow
 have hgv:∀ c d u,FrzG nb c d->GRel σ T' w' c u->GRel (fun _=>none) (fun b=>T' b/\b < w.heap.size) w' d u:=by
  intro c d u hcd hu
  match c,d,hcd with
  |.c c,.c d,hcd=>exact hc c d u hcd hu
  |.g cs,.g ds,hcd=>obtain ⟨vs,h1,h2⟩:=hu;exact ⟨vs,h1,All2.comp (fun x y z h1 h2=>hc x y z h1 h2) hcd h2⟩
 refine ⟨v,fun _=>none,fun b=>T' b/\b < w.heap.size,he,hB,?_,fun b hb h=>R.Tle b hb h.1,fun b h=>⟨R.Tge b h,hT b h⟩,fun b h=>R.Tlt b h.1,(fun _ _ h=>by cases h),(fun _ _ _ h=>by cases h),(fun _ _ _ _ _ _ h=>by cases h)⟩
 have hr:=R.rel
 match av,av',hf with
 |.v c,.v d,hf=>exact hgv c d v hf hr
 |.t cs,.t ds,hf=>obtain ⟨vs,h1,h2⟩:=hr;exact ⟨vs,h1,All2.comp (fun x y z h1 h2=>hgv x y z h1 h2) hf h2⟩
def rawC (x:Nat->Value):Nat->List (Option CV)->List CV
 |_,[]=>[]
 |i,some c::l=>c::rawC x (i+1) l
 |i,none::l=>.d (.v (x i))::rawC x (i+1) l
def plugC:List CV->List (Option CV)->List CV
 |_::cs,some d::l=>d::plugC cs l
 |c::cs,none::l=>c::plugC cs l
 |_,_=>[]
def anyB:CV->Bool
 |.any=>true
 |_=>false
section
variable {P:Program} {st:AState} {o:Oper}
theorem g_callM_at {f:FuncId} {c:Call} {ins:List GV} {hin:List (Nat×AB)} {keep:List Nat} {av av':AV} {nb nb':List (Nat×AB)} {EE:List Nat} {p:D->Prop} {σ:Nat->Option Adr} {T:Nat->Prop} {a:Go.Act} {w:World} (C:Core σ T st a w) (ρ μ:Nat->Nat) (E:List Nat) (hF:FnE P f ins hin keep av nb) (hen:Enters P f) (ho:o.op=.call c) (hc:c.callee=.value (.func f))
  (hargs:EvM st E ρ (keyIn hin) c.args.toList ins) (hheap:AllL (fun x=>(∃ b,look st.h (ρ x.1)=some b)/\HRel σ T w (σ (ρ x.1)) (x.2.map' ρ)) hin) (hokin:hin.all (fun x=>x.2.ok (keyIn hin))=true) (hinj:nodupB ((keys hin).map ρ)=true) (hE:hin.all (fun x=>!memB (ρ x.1) E)=true) (hEl:E.all (fun e=>keyIn st.h e)=true)
  (hkeep:∀ k∈keep,KeptM hin k) (hEE:(keys hin).map ρ=EE) (hμ:nodupB ((keys nb).map μ)=true) (hμk:(keys nb).all (fun k=>(memB k keep && Nat.beq (μ k) (ρ k))||(!memB k keep && !memB (μ k) EE))=true)
  (hg:av.good p) (hgb:AllL (fun x=>x.2.good p) nb) (hok:av.ok (keyIn nb)=true) (hokb:nb.all (fun x=>x.2.ok (keyIn nb))=true) (hav:av.map μ=av') (hnb:mapNb μ nb=nb')
  (hD:∀ (σ:Nat->Option Adr) (T Tc T':Nat->Prop) (w':World) d v,(∀ b,T' b->T b\/Tc b)->(∀ b,lessT σ T E b->Tc b)->p d->DRel Tc w' d v->DRel T' w' d v):(∀ k b,(k,b)∈nb'->k ∉ EE->σ k=none)->o.wp P a w (fun a' w'=>∃ u σ' T',a'=a.put o.dst u/\Ext σ T w σ' T' w' nb' EE/\ARel σ' T' w' av' u) noQ:=by
 intro hnew
 subst hav hnb hEE
 have hinj':=nodup_map hinj
 have hin_mem:∀ k,keyIn hin k=true->k∈keys hin:=fun k hk=>by
  obtain ⟨b,hb⟩:=keyIn_mem hk
  exact List.mem_map.2 ⟨(k,b),hb,rfl⟩
 have mem_in:∀ k,k∈keys hin->keyIn hin k=true:=fun k hk=>by
  obtain ⟨x,hx,rfl⟩:=List.mem_map.1 hk
  exact mem_keyIn (b:=x.2) hx
 let σc:Nat->Option Adr:=fun k=>if keyIn hin k=true then σ (ρ k) else none
 have hσc:∀ k,keyIn hin k=true->σc k=σ (ρ k):=fun k hk=>if_pos hk
 let Tc:=lessT σ T E
 have hlow:∀ b,Tc b->T b:=fun b h=>h.1
 have hsep:∀ k b g,(k,b)∈hin->σ (ρ k)=some g->Tc g.g:=by
  intro k b g hk hg
  refine ⟨(hheap.mem _ hk).2.inT hg,fun e he g' hg' hgg=>?_⟩
  obtain ⟨b',hb'⟩:=keyIn_mem (List.all_eq_true.1 hEl e he)
  have hb':∃ b',look st.h e=some b':=by
   have:=List.all_eq_true.1 hEl e he
   cases hl:look st.h e with
   |none=>simp [keyIn,hl] at this
   |some b'=>exact ⟨b',rfl⟩
  obtain ⟨b',hb'⟩:=hb'
  obtain ⟨bk,hbk⟩:=(hheap.mem _ hk).1
  have heq:=C.inj e (ρ k) b' bk g' g hb' hbk hg' hg hgg
  have:=List.all_eq_true.1 hE _ hk
  simp only [Bool.not_eq_true'] at this
  rw [<-heq,memB_iff.2 he] at this
  cases this
 have hh:∀ k b,(k,b)∈hin->HRel σc Tc w (σc k) b:=by
  intro k b hk
  have hkin:=mem_keyIn hk
  rw [hσc k hkin]
  refine HRel.anti hlow (fun g hg _=>hsep k b g hk hg) ?_
  exact HRel.ren (ρ:=ρ) hσc (hheap.mem _ hk).2 (List.all_eq_true.1 hokin _ hk)
 have hij:∀ k k' b b' g g',(k,b)∈hin->(k',b')∈hin->σc k=some g->σc k'=some g'->g.g=g'.g->k=k':=by
  intro k k' b b' g g' hk hk' hg hg' hgg
  rw [hσc k (mem_keyIn hk)] at hg
  rw [hσc k' (mem_keyIn hk')] at hg'
  obtain ⟨b1,hb1⟩:=(hheap.mem _ hk).1
  obtain ⟨b2,hb2⟩:=(hheap.mem _ hk').1
  exact hinj' k k' (hin_mem _ (mem_keyIn hk)) (hin_mem _ (mem_keyIn hk')) (C.inj _ _ _ _ g g' hb1 hb2 hg hg' hgg)
 have hkp:∀ k∈keep,keyIn hin k=true/\∃ g,σ (ρ k)=some g:=by
  intro k hk
  rcases hkeep k hk with this|⟨t,K,rows,hl,hpos⟩
  ·unfold boxIn at this
   cases hl:look hin k with
   |none=>simp [hl] at this
   |some b=>
    cases b with
    |box t cs=>
     refine ⟨by simp [keyIn,hl],?_⟩
     obtain ⟨g,_,h1,_⟩:=(hheap.mem _ (look_mem hl)).2
     exact ⟨g,h1⟩
    |arr=>simp [hl] at this
    |map=>simp [hl] at this
  ·refine ⟨by simp [keyIn,hl],?_⟩
   obtain ⟨_,h1|⟨g,_,h1,_⟩⟩:=(hheap.mem _ (look_mem hl)).2
   ·obtain ⟨h1,_⟩:=h1
    rw [h1] at hpos;cases hpos
   ·exact ⟨g,h1⟩
 have hrel:All2 (GRel σc Tc w) ins (c.args.map a.eval).toList:=by
  rw [Array.toList_map]
  have gen:∀ (xs:List Operand) (ys:List GV),EvM st E ρ (keyIn hin) xs ys->All2 (GRel σc Tc w) ys (xs.map a.eval):=by
   intro xs
   induction xs with
   |nil=>intro ys h;cases ys with
    |nil=>trivial
    |cons=>exact h.elim
   |cons x xs ih=>
    intro ys h
    cases ys with
    |nil=>exact h.elim
    |cons y ys=>
     refine ⟨?_,ih ys h.2⟩
     obtain ⟨g,h1,h2|h2⟩:=h.1
     ·obtain ⟨h2,h3⟩:=h2
      subst h2
      exact GRel.anti hlow (GRel.ren (ρ:=ρ) hσc (x:=y) (ev_rel C h1) h3)
     ·exact GRel.up (h2.rel C (ev_rel C h1))
  exact gen _ _ hargs
 refine wp_call ho hc hen ((hF Tc σc w _ (fun b h=>C.Tlt b h.1) hh hij (fun k hk=>?_) hrel).mono ?_)
 ·obtain ⟨h1,g,h2⟩:=hkp k hk
  exact ⟨g,by rw [hσc k h1,h2]⟩
 rintro e w' ⟨v,σ',T',rfl,R⟩
 let T2:Nat->Prop:=fun b=>T b\/T' b
 let σ2:=pull μ σ' σ (keys nb)
 have hμ':=nodup_map hμ
 have hσ2:∀ k,keyIn nb k=true->σ2 (μ k)=σ' k:=fun k hk=>by
  obtain ⟨b,hb⟩:=keyIn_mem hk
  exact pull_hit hμ' (List.mem_map.2 ⟨(k,b),hb,rfl⟩)
 have hD':∀ d v,p d->DRel T' w' d v->DRel T2 w' d v:=fun d v=>hD σ T T' T2 w' d v (fun b h=>h) R.Tge
 have hmem:∀ k b,(k,b)∈mapNb μ nb->∃ k0 b0,(k0,b0)∈nb/\k=μ k0/\b=b0.map' μ:=by
  intro k b h
  obtain ⟨⟨k0,b0⟩,h1,h2⟩:=List.mem_map.1 h
  injection h2 with h2 h3
  exact ⟨k0,b0,h1,h2.symm,h3.symm⟩
 have hcase:∀ k∈keys nb,(k∈keep/\μ k=ρ k)\/(k ∉ keep/\μ k ∉ (keys hin).map ρ):=by
  intro k hk
  have:=List.all_eq_true.1 hμk k hk
  simp only [Bool.or_eq_true,Bool.and_eq_true,Bool.not_eq_true'] at this
  rcases this with ⟨h1,h2⟩|⟨h1,h2⟩
  ·exact .inl ⟨memB_iff.1 h1,Nat.eq_of_beq_eq_true h2⟩
  ·exact .inr ⟨fun h=>(Bool.eq_false_iff.1 h1) (memB_iff.2 h),fun h=>(Bool.eq_false_iff.1 h2) (memB_iff.2 h)⟩
 have C2:∀ b,(∃ k∈(keys hin).map ρ,∃ g,σ k=some g/\g.g=b)↔∃ k∈keys hin,∃ g,σc k=some g/\g.g=b:=by
  intro b
  constructor
  ·rintro ⟨k,hk,g,hg,hgb⟩
   obtain ⟨k0,hk0,rfl⟩:=List.mem_map.1 hk
   exact ⟨k0,hk0,g,by rw [hσc k0 (mem_in k0 hk0)];exact hg,hgb⟩
  ·rintro ⟨k,hk,g,hg,hgb⟩
   rw [hσc k (mem_in k hk)] at hg
   exact ⟨ρ k,List.mem_map.2 ⟨k,hk,rfl⟩,g,hg,hgb⟩
 refine ⟨v,rfl,v,σ2,T2,rfl,⟨R.os,R.tape,R.output,⟨R.size,fun b hb hno=>R.old b hb fun k hk g hg hgb=>hno ((C2 b).2 ⟨k,hk,g,hg,hgb⟩),fun b hb=>?_,fun b hb h=>?_,fun j g hj=>?_⟩,fun b h=>.inl h,fun b h=>?_,fun j hj=>?_,?_,?_,?_⟩,R.rel.back hD' hσ2 hg hok⟩
 ·obtain ⟨k,hk,g,hg,rfl⟩:=hb
  obtain ⟨k0,hk0,rfl⟩:=List.mem_map.1 hk
  obtain ⟨x,hx,rfl⟩:=List.mem_map.1 hk0
  exact (hheap.mem x hx).2.inT hg
 ·rcases h with h|h
  ·exact h
  ·exact (R.Tle b hb h).1
 ·show pull μ σ' σ (keys nb) j=some g
  by_cases hex:∃ k∈keys nb,μ k=j
  ·obtain ⟨k,hk,rfl⟩:=hex
   rw [pull_hit hμ' hk]
   rcases hcase k hk with ⟨h1,h2⟩|⟨h1,h2⟩
   ·rw [R.kept k h1,hσc k (hkp k h1).1,<-h2];exact hj
   ·obtain ⟨x,hx,rfl⟩:=List.mem_map.1 hk
    have:=hnew (μ x.1) (x.2.map' μ) (List.mem_map.2 ⟨x,hx,rfl⟩) h2
    rw [this] at hj;cases hj
  ·rw [pull_miss fun k hk e=>hex ⟨k,hk,e⟩];exact hj
 ·rcases h with h|h
  ·exact Nat.lt_of_lt_of_le (C.Tlt b h) R.size
  ·exact R.Tlt b h
 ·exact pull_miss fun k hk e=>by
   obtain ⟨x,hx,rfl⟩:=List.mem_map.1 hk
   exact hj (x.2.map' μ) (List.mem_map.2 ⟨x,hx,by rw [e]⟩)
 ·intro k b h
  obtain ⟨k0,b0,h1,rfl,rfl⟩:=hmem k b h
  rw [hσ2 k0 (mem_keyIn h1)]
  exact (R.heap k0 b0 h1).back hD' hσ2 (fun b h=>.inr h) (hgb.mem _ h1) (List.all_eq_true.1 hokb _ h1)
 ·intro k b g h hg
  obtain ⟨k0,b0,h1,rfl,rfl⟩:=hmem k b h
  rw [hσ2 k0 (mem_keyIn h1)] at hg
  rcases R.fresh k0 b0 g h1 hg with h2|⟨e,he,g',hg',hgg⟩
  ·exact .inl h2
  ·exact .inr ((C2 g.g).2 ⟨e,he,g',hg',hgg⟩)
 ·intro k k' b b' g g' h h' hg hg' hgg
  obtain ⟨k0,b0,h1,rfl,rfl⟩:=hmem k b h
  obtain ⟨k1,b1,h2,rfl,rfl⟩:=hmem k' b' h'
  rw [hσ2 k0 (mem_keyIn h1)] at hg
  rw [hσ2 k1 (mem_keyIn h2)] at hg'
  rw [R.inj k0 k1 b0 b1 g g' h1 h2 hg hg' hgg]

theorem CRel.one {σ:Nat->Option Adr} {T:Nat->Prop} {w:World} {c:CV} {v:Value} (h:CRel σ T w c v) (hc:anyB c=false):v.oneCell'=true:=by
 cases c with
 |any=>cases hc
 |d x=>
  have h:DRel T w x v:=h
  cases h with
  |v x hx=>exact hx
  |nil=>rfl
  |r=>rfl
  |f=>rfl
 |p=>obtain ⟨g,_,rfl⟩:=h;rfl
 |q=>obtain ⟨b,off,rfl,_⟩:=h;rfl
 |s=>
  rcases h with ⟨_,rfl⟩|⟨g,_,rfl,_⟩
  ·rfl
  ·rfl
 |sx=>obtain ⟨g,off,_,rfl,_⟩:=h;rfl
 |m=>obtain ⟨g,_,rfl⟩:=h;rfl
 |fn=>obtain ⟨gs,_,rfl⟩:=h;rfl
theorem raw_in {σ:Nat->Option Adr} {T:Nat->Prop} {w:World} {ρ:Nat->Nat} {x:Nat->Value} (hx:∀ i,(x i).oneCell'=true):∀ {cs:List CV} {vs:List Value} {ms:List (Option CV)} {i:Nat},cs.length=ms.length->plugC cs (ms.map (Option.map (CV.map ρ)))=cs->All2 (CRel σ T w) cs vs->(∀ j v,vs[j]?=some v->ms[j]?=some none->x (i+j)=v)->
  All2 (CRel σ T w) ((rawC x i ms).map (CV.map ρ)) vs
 |[],[],[],_,_,_,_,_=>trivial
 |c::cs,v::vs,some d::ms,i,hl,hf,hr,hv=>by
  have hf:d.map ρ::plugC cs (ms.map (Option.map (CV.map ρ)))=c::cs:=hf
  obtain ⟨h1,h2⟩:=List.cons.inj hf
  exact ⟨h1▸hr.1,raw_in hx (i:=i+1) (by simpa using hl) h2 hr.2 fun j v hj hm=>by
   have:=hv (j+1) v (by simpa using hj) (by simpa using hm)
   rwa [show i+(j+1)=i+1+j by omega] at this⟩
 |c::cs,v::vs,none::ms,i,hl,hf,hr,hv=>by
  have hf:c::plugC cs (ms.map (Option.map (CV.map ρ)))=c::cs:=hf
  have h0:x i=v:=by simpa using hv 0 v rfl rfl
  refine ⟨?_,raw_in hx (i:=i+1) (by simpa using hl) (List.cons.inj hf).2 hr.2 fun j v hj hm=>by
   have:=hv (j+1) v (by simpa using hj) (by simpa using hm)
   rwa [show i+(j+1)=i+1+j by omega] at this⟩
  show DRel T w (.v (x i)) v
  rw [h0]
  exact .v _ (h0▸hx i)
 |[],_::_,_,_,_,_,hr,_=>hr.elim
 |_::_,[],_,_,_,_,hr,_=>hr.elim
 |[],[],_::_,_,hl,_,_,_=>by simp at hl
 |_::_,_::_,[],_,hl,_,_,_=>by simp at hl
theorem raw_out {σ:Nat->Option Adr} {T:Nat->Prop} {w:World} {μ:Nat->Nat} {x:Nat->Value}:∀ {cs:List CV} {us:List Value} {ms:List (Option CV)} {i:Nat},cs.length=ms.length->All2 (CRel σ T w) ((rawC x i ms).map (CV.map μ)) us->(∀ j c,cs[j]?=some c->ms[j]?=some none->CRel σ T w c (x (i+j)))->
  All2 (CRel σ T w) (plugC cs (ms.map (Option.map (CV.map μ)))) us
 |[],[],[],_,_,_,_=>trivial
 |c::cs,u::us,some d::ms,i,hl,hr,hv=>by
  have hr:CRel σ T w (d.map μ) u/\All2 (CRel σ T w) ((rawC x (i+1) ms).map (CV.map μ)) us:=hr
  exact ⟨hr.1,raw_out (i:=i+1) (by simpa using hl) hr.2 fun j c hj hm=>by
   have:=hv (j+1) c (by simpa using hj) (by simpa using hm)
   rwa [show i+(j+1)=i+1+j by omega] at this⟩
 |c::cs,u::us,none::ms,i,hl,hr,hv=>by
  have hr:DRel T w (.v (x i)) u/\All2 (CRel σ T w) ((rawC x (i+1) ms).map (CV.map μ)) us:=hr
  refine ⟨?_,raw_out (i:=i+1) (by simpa using hl) hr.2 fun j c hj hm=>by
   have:=hv (j+1) c (by simpa using hj) (by simpa using hm)
   rwa [show i+(j+1)=i+1+j by omega] at this⟩
  rw [DRel.inv hr.1]
  exact hv 0 c rfl rfl
 |[],us,_::_,_,hl,_,_=>by simp at hl
 |_::_,us,[],_,hl,_,_=>by simp at hl
 |[],_::_,[],_,_,hr,_=>by exact (hr:False).elim
 |_::_,[],some _::_,_,_,hr,_=>by exact (hr:False).elim
 |_::_,[],none::_,_,_,hr,_=>by exact (hr:False).elim
theorem Ext.swap {σ:Nat->Option Adr} {T:Nat->Prop} {w:World} {σ':Nat->Option Adr} {T':Nat->Prop} {w':World} {k0:Nat} {b b':AB} {nb:List (Nat×AB)} {E:List Nat} (X:Ext σ T w σ' T' w' ((k0,b)::nb) E) (h:HRel σ' T' w' (σ' k0) b'):Ext σ T w σ' T' w' ((k0,b')::nb) E:=by
 have hin:∀ k c,(k,c)∈(k0,b')::nb->∃ c',(k,c')∈(k0,b)::nb:=fun k c hk=>by
  rcases List.mem_cons.1 hk with h1|h1
  ·injection h1 with h2 h3;subst h2;exact ⟨b,List.mem_cons_self⟩
  ·exact ⟨c,List.mem_cons_of_mem _ h1⟩
 have hout:∀ k c,(k,c)∈(k0,b)::nb->∃ c',(k,c')∈(k0,b')::nb:=fun k c hk=>by
  rcases List.mem_cons.1 hk with h1|h1
  ·injection h1 with h2 h3;subst h2;exact ⟨b',List.mem_cons_self⟩
  ·exact ⟨c,List.mem_cons_of_mem _ h1⟩
 refine ⟨X.os,X.tape,X.output,X.grow,X.Tge,X.Tlt,fun k hk=>X.dom k fun c hc=>?_,fun k c hk=>?_,fun k c g hk hg=>?_,fun k k' c c' g g' hk hk' hg hg' hgg=>?_⟩
 ·obtain ⟨c',hc'⟩:=hout k c hc;exact hk c' hc'
 ·rcases List.mem_cons.1 hk with h1|h1
  ·injection h1 with h2 h3;subst h2 h3;exact h
  ·exact X.rel k c (List.mem_cons_of_mem _ h1)
 ·obtain ⟨d,hd⟩:=hin k c hk;exact X.fresh k d g hd hg
 ·obtain ⟨d,hd⟩:=hin k c hk
  obtain ⟨d',hd'⟩:=hin k' c' hk'
  exact X.inj k k' d d' g g' hd hd' hg hg' hgg
def x0:Nat->Value:=fun _=>.int .i64 0
theorem rawC_ok {p:Nat->Bool} (x y:Nat->Value):∀ (ms:List (Option CV)) (i:Nat),(rawC x i ms).all (CV.ok p)=(rawC y i ms).all (CV.ok p)
 |[],_=>rfl
 |some c::ms,i=>by show (c.ok p && (rawC x (i+1) ms).all (CV.ok p))=(c.ok p && (rawC y (i+1) ms).all (CV.ok p));rw [rawC_ok x y ms]
 |none::ms,i=>by show (true && (rawC x (i+1) ms).all (CV.ok p))=(true && (rawC y (i+1) ms).all (CV.ok p));rw [rawC_ok x y ms]
theorem g_callR {f:FuncId} {c:Call} {ins:List GV} {hin:List (Nat×AB)} {keep:List Nat} {av av':AV} {nb nb':List (Nat×AB)} {EE:List Nat} {p:D->Prop} {ms ms':List (Option CV)} {t:TypeId} {cs cs':List CV} {k0:Nat} (ρ μ:Nat->Nat) (E:List Nat)
  (hF:∀ x:Nat->Value,(∀ i,(x i).oneCell'=true)->FnE P f ins ((0,.box t (rawC x 0 ms))::hin) (0::keep) av ((0,.box t (rawC x 0 ms'))::nb)) (hen:Enters P f) (ho:o.op=.call c) (hc:c.callee=.value (.func f))
  (hargs:EvM st E ρ (keyIn ((0,.box t [])::hin)) c.args.toList ins) (hk0:ρ 0=k0) (hk0':μ 0=k0) (hbox:look st.h k0=some (.box t cs)) (hlen:cs.length=ms.length) (hlen':cs.length=ms'.length) (hfill:plugC cs (ms.map (Option.map (CV.map ρ)))=cs) (hany:cs.all (fun c=>!anyB c)=true)
  (hheap:AllL (fun x=>look st.h (ρ x.1)=some (x.2.map' ρ)) hin) (hokr:(rawC x0 0 ms).all (CV.ok (keyIn ((0,.box t [])::hin)))=true) (hokin:hin.all (fun x=>x.2.ok (keyIn ((0,.box t [])::hin)))=true) (hinj:nodupB ((0::keys hin).map ρ)=true) (hE0:memB k0 E=false) (hE:hin.all (fun x=>!memB (ρ x.1) E)=true) (hEl:E.all (fun e=>keyIn st.h e)=true)
  (hkeep:∀ k∈keep,KeptM hin k/\k≠0) (hEE:(0::keys hin).map ρ=EE) (hμ:nodupB ((0::keys nb).map μ)=true) (hμk:(keys nb).all (fun k=>(memB k (0::keep) && Nat.beq (μ k) (ρ k))||(!memB k (0::keep) && !memB (μ k) EE))=true)
  (hg:av.good p) (hgb:AllL (fun x=>x.2.good p) nb) (hgr:∀ x:Nat->Value,(AB.box t (rawC x 0 ms')).good p) (hok:av.ok (keyIn ((0,.box t [])::nb))=true) (hokr':(rawC x0 0 ms').all (CV.ok (keyIn ((0,.box t [])::nb)))=true) (hokb:nb.all (fun x=>x.2.ok (keyIn ((0,.box t [])::nb)))=true) (hav:av.map μ=av') (hcs:plugC cs (ms'.map (Option.map (CV.map μ)))=cs') (hnb:mapNb μ nb=nb')
  (hD:∀ (σ:Nat->Option Adr) (T Tc T':Nat->Prop) (w':World) d v,(∀ b,T' b->T b\/Tc b)->(∀ b,lessT σ T E b->Tc b)->p d->DRel Tc w' d v->DRel T' w' d v):GOp P o st av' ((k0,.box t cs')::nb') EE:=by
 intro σ T a w C hnew
 subst hk0 hcs hnb
 have keyx:∀ (l:List CV) (hh:List (Nat×AB)),keyIn ((0,.box t l)::hh)=keyIn ((0,AB.box t [])::hh):=fun l hh=>by
  funext k;unfold keyIn;rw [look_cons,look_cons];split<;>rfl
 obtain ⟨g,vs,h1,h2,h3,h4⟩:=C.heap _ _ hbox
 have hvl:cs.length=vs.length:=h4.length
 obtain ⟨x,hx⟩:∃ x:Nat->Value,x=fun i=>if h:(vs.getD i undef).oneCell'=true then vs.getD i undef else .int .i64 0:=⟨_,rfl⟩
 have hx1:∀ i,(x i).oneCell'=true:=fun i=>by
  rw [hx];dsimp only;split
  ·assumption
  ·rfl
 have hany':∀ j c,cs[j]?=some c->anyB c=false:=fun j c hj=>by
  have:=List.all_eq_true.1 hany c (List.mem_of_getElem? hj)
  simpa using this
 have hxv:∀ j v,vs[j]?=some v->x j=v:=fun j v hj=>by
  have hjl:j < cs.length:=by have:=(List.getElem?_eq_some_iff.1 hj).1;omega
  obtain ⟨u,hu,hr⟩:=h4.get (i:=j) (x:=cs[j]) (List.getElem?_eq_getElem hjl)
  rw [hj] at hu;injection hu with hu;subst hu
  have h5:=hr.one (hany' j _ (List.getElem?_eq_getElem hjl))
  have h6:vs.getD j undef=v:=by rw [List.getD_eq_getElem?_getD,hj];rfl
  rw [hx];dsimp only;rw [h6,dif_pos h5]
 have hbx:HRel σ T w (σ (ρ 0)) ((AB.box t (rawC x 0 ms)).map' ρ):=⟨g,vs,h1,h2,h3,raw_in hx1 hlen hfill h4 fun j v hj _=>by rw [Nat.zero_add];exact hxv j v hj⟩
 have hmem:∀ y∈hin,(∃ b,look st.h (ρ y.1)=some b)/\HRel σ T w (σ (ρ y.1)) (y.2.map' ρ):=fun y hy=>⟨⟨_,hheap.mem y hy⟩,C.heap _ _ (hheap.mem y hy)⟩
 have allL:∀ {q:Nat×AB->Prop} {l:List (Nat×AB)},(∀ y∈l,q y)->AllL q l:=fun {q l} h=>by
  induction l with
  |nil=>trivial
  |cons y l ih=>exact ⟨h y List.mem_cons_self,ih fun z hz=>h z (List.mem_cons_of_mem _ hz)⟩
 have key:=g_callM_at (av':=av') (nb':=mapNb μ ((0,.box t (rawC x 0 ms'))::nb)) (EE:=EE) (p:=p) C ρ μ E (hF x hx1) hen ho hc (by rw [keyx];exact hargs) ⟨⟨⟨_,hbox⟩,hbx⟩,allL hmem⟩ (by
   rw [keyx]
   show ((rawC x 0 ms).all _ && hin.all _)=true
   rw [rawC_ok x x0,hokr,hokin];rfl) hinj (by show (!memB (ρ 0) E && _)=true;rw [hE0,hE];rfl) hEl (fun k hk=>by
   rcases List.mem_cons.1 hk with rfl|hk
   ·exact .inl rfl
   ·obtain ⟨h,hne⟩:=hkeep k hk
    have hl:look ((0,AB.box t (rawC x 0 ms))::hin) k=look hin k:=by rw [look_cons,if_neg (Ne.symm hne)]
    unfold KeptM boxIn at h ⊢
    rw [hl];exact h) hEE hμ (by
   have h0:memB 0 (0::keep)=true:=memB_iff.2 List.mem_cons_self
   show (((memB 0 (0::keep) && Nat.beq (μ 0) (ρ 0))||_) && (keys nb).all _)=true
   rw [hk0',Nat.beq_refl,h0]
   exact hμk) hg ⟨hgr x,hgb⟩ (by rw [keyx];exact hok) (by
   rw [keyx]
   show ((rawC x 0 ms').all _ && nb.all _)=true
   rw [rawC_ok x x0,hokr',hokb];rfl) hav rfl hD (fun k b hk hke=>hnew k (if k=ρ 0 then .box t (plugC cs (ms'.map (Option.map (CV.map μ)))) else b) (by
    rcases List.mem_cons.1 hk with h|h
    ·injection h with h5 h6;subst h5;rw [hk0',if_pos rfl];exact List.mem_cons_self
    ·by_cases e:k=ρ 0
     ·rw [if_pos e,e];exact List.mem_cons_self
     ·rw [if_neg e];exact List.mem_cons_of_mem _ h) hke)
 refine operMono key ?_
 rintro a' w' ⟨u,σ',T',rfl,X,hv⟩
 refine ⟨u,σ',T',rfl,?_,hv⟩
 have X:Ext σ T w σ' T' w' ((ρ 0,(AB.box t (rawC x 0 ms')).map' μ)::mapNb μ nb) EE:=by
  have e:mapNb μ ((0,AB.box t (rawC x 0 ms'))::nb)=(ρ 0,(AB.box t (rawC x 0 ms')).map' μ)::mapNb μ nb:=by
   show (μ 0,_)::mapNb μ nb=_
   rw [hk0']
  rw [<-e];exact X
 refine X.swap ?_
 obtain ⟨g',us,q1,q2,q3,q4⟩:=X.rel _ _ List.mem_cons_self
 refine ⟨g',us,q1,q2,q3,raw_out hlen' q4 fun j c hj _=>?_⟩
 rw [Nat.zero_add]
 obtain ⟨v,hvj,hr⟩:=h4.get hj
 rw [hxv j v hvj]
 exact hr.grow X.grow
end
end Go.Proofs.Ytegepioggeggaaa.Dev
namespace Go.Proofs.Ytegepioggeggaaa.Dev
open Go.RowKit
def CV.nq:CV->Bool
 |.q _ _=>false
 |_=>true
def GV.nq:GV->Bool
 |.c x=>x.nq
 |.g xs=>xs.all CV.nq
def AV.nq:AV->Bool
 |.v x=>x.nq
 |.t xs=>xs.all GV.nq
def AB.nq:AB->Bool
 |.box _ cs=>cs.all CV.nq
 |_=>true
theorem CV.nq_good {c:CV} (h:c.nq=true):c.good (fun _=>True):=by cases c<;>first|trivial|cases h
theorem allL_of {α:Type} {p:α->Prop}:∀ {l:List α},(∀ x∈l,p x)->AllL p l
 |[],_=>trivial
 |x::_,h=>⟨h x List.mem_cons_self,allL_of fun y hy=>h y (List.mem_cons_of_mem _ hy)⟩
theorem GV.nq_good {g:GV} (h:g.nq=true):g.good (fun _=>True):=by
 cases g with
 |c x=>exact CV.nq_good h
 |g xs=>exact allL_of fun x hx=>CV.nq_good (List.all_eq_true.1 h x hx)
theorem AV.nq_good {v:AV} (h:v.nq=true):v.good (fun _=>True):=by
 cases v with
 |v x=>exact GV.nq_good h
 |t xs=>exact allL_of fun x hx=>GV.nq_good (List.all_eq_true.1 h x hx)
theorem AB.nq_good {b:AB} (h:b.nq=true):b.good (fun _=>True):=by
 cases b with
 |box t cs=>exact allL_of fun x hx=>CV.nq_good (List.all_eq_true.1 h x hx)
 |arr=>exact fun _ _ _ _=>trivial
 |map=>trivial
def optNq:Option CV->Bool
 |some c=>c.nq
 |none=>true
theorem raw_good (x:Nat->Value):∀ (ms:List (Option CV)) (i:Nat),ms.all optNq=true->AllL (CV.good fun _=>True) (rawC x i ms)
 |[],_,_=>trivial
 |some c::ms,i,h=>by
  simp only [List.all_cons,Bool.and_eq_true] at h
  exact ⟨CV.nq_good h.1,raw_good x ms (i+1) h.2⟩
 |none::ms,i,h=>by
  simp only [List.all_cons,Bool.and_eq_true] at h
  exact ⟨trivial,raw_good x ms (i+1) h.2⟩
section
variable {P:Program} {st:AState} {o:Oper}
theorem g_callR0 {f:FuncId} {c:Call} {ins:List GV} {hin:List (Nat×AB)} {av av':AV} {nb nb':List (Nat×AB)} {EE:List Nat} {ms ms':List (Option CV)} {t:TypeId} {cs cs':List CV} {k0:Nat} (ρ μ:Nat->Nat)
  (hF:∀ x:Nat->Value,(∀ i,(x i).oneCell'=true)->FnE P f ins ((0,.box t (rawC x 0 ms))::hin) [0] av ((0,.box t (rawC x 0 ms'))::nb)) (hen:Enters P f) (ho:o.op=.call c) (hc:c.callee=.value (.func f))
  (hargs:EvM st [] ρ (keyIn ((0,.box t [])::hin)) c.args.toList ins) (hk0:ρ 0=k0) (hk0':μ 0=k0) (hbox:look st.h k0=some (.box t cs)) (hlen:cs.length=ms.length) (hlen':cs.length=ms'.length) (hfill:plugC cs (ms.map (Option.map (CV.map ρ)))=cs) (hany:cs.all (fun c=>!anyB c)=true)
  (hheap:AllL (fun x=>look st.h (ρ x.1)=some (x.2.map' ρ)) hin) (hokr:(rawC x0 0 ms).all (CV.ok (keyIn ((0,.box t [])::hin)))=true) (hokin:hin.all (fun x=>x.2.ok (keyIn ((0,.box t [])::hin)))=true) (hinj:nodupB ((0::keys hin).map ρ)=true)
  (hEE:(0::keys hin).map ρ=EE) (hμ:nodupB ((0::keys nb).map μ)=true) (hμk:(keys nb).all (fun k=>(memB k [0] && Nat.beq (μ k) (ρ k))||(!memB k [0] && !memB (μ k) EE))=true)
  (hq:(av.nq && nb.all (fun x=>x.2.nq) && ms'.all optNq)=true) (hok:av.ok (keyIn ((0,.box t [])::nb))=true) (hokr':(rawC x0 0 ms').all (CV.ok (keyIn ((0,.box t [])::nb)))=true) (hokb:nb.all (fun x=>x.2.ok (keyIn ((0,.box t [])::nb)))=true) (hav:av.map μ=av') (hcs:plugC cs (ms'.map (Option.map (CV.map μ)))=cs') (hnb:mapNb μ nb=nb'):GOp P o st av' ((k0,.box t cs')::nb') EE:=by
 simp only [Bool.and_eq_true] at hq
 obtain ⟨⟨q1,q2⟩,q3⟩:=hq
 exact g_callR (keep:=[]) (p:=fun _=>True) ρ μ [] hF hen ho hc hargs hk0 hk0' hbox hlen hlen' hfill hany hheap hokr hokin hinj rfl (by simp [memB]) rfl (fun k hk=>by cases hk) hEE hμ hμk (AV.nq_good q1) (allL_of fun x hx=>AB.nq_good (List.all_eq_true.1 q2 x hx)) (fun x=>raw_good x ms' 0 q3) hok hokr' hokb hav hcs hnb
  fun σ T Tc T' w' d v h1 h2 _ h=>h.anti fun b hb=>by
   rcases h1 b hb with h|h
   ·exact h2 b ⟨h,fun k hk=>by cases hk⟩
   ·exact h
theorem g_indexB {t n e K:Nat} {x y:Operand} {k r Kk o' i:Nat} {j:Int} (ho:o.op=.indexAddr t x y) (hx:ev st x (.v (.c (.p k r Kk o')))) (hy:ev st y (.v (.c (.d (.v (.int .i64 j))))))
  (hu:P.underlying t=some (.array n e)) (hz:(P.info? e).map (·.size)=some K) (hj:j=(i:Int)) (hi:i < n):GOp P o st (.v (.c (.p k r Kk (o'+i * K)))) [] []:=
 GOp.val fun σ T ac w C=>by
  obtain ⟨g,hg,hv⟩:=ev_rel C hx
  have h2:=DRel.inv (ev_rel C hy)
  subst hj
  refine ⟨.pointer (some ⟨g.g,r * Kk+o'+i * K,none⟩),?_,g,hg,by rw [Nat.add_assoc]⟩
  cases hq:P.info? e with
  |none=>simp [hq] at hz
  |some ii=>
   have hs:ii.size=K:=by simpa [hq] using hz
   unfold execOp
   simp [ho,hv,h2,Instr.indexAt,asIntOf,run_underlying hu,sizeOf,typeInfo,hq,hs,hi,asAddr,Instr.sureAddr,Addr.add_lit]
theorem g_cloneR {f:FuncId} {c:Call} {x:Operand} {k t K n:Nat} {rows:List (List D)} (k2:Nat) (hF:∀ l:List (List D),l.length=n->Fn P f [.c (.d (.r K (l.map id)))] (.v (.c (.s 0 0 K l.length))) [(0,.arr t K (l.map id))]) (hen:Enters P f) (ho:o.op=.call c) (hc:c.callee=.value (.func f)) (ha:c.args=#[x])
  (hx:ev st x (.v (.c (.s k 0 K n)))) (hb:look st.h k=some (.arr t K rows)) (hn:rows.length=n):GOp P o st (.v (.c (.s k2 0 K n))) [(k2,.arr t K rows)] []:=by
 intro σ T a w C hnew
 have hxv:CRel σ T w (.s k 0 K n) (a.eval x):=ev_rel C hx
 obtain ⟨hK,hh⟩:=C.heap k _ hb
 obtain ⟨cs,hcs⟩:∃ cs:Nat->Nat->Value,(∀ (i:Nat) (row:List D) (j:Nat) (d:D),rows[i]?=some row->row[j]?=some d->DRel T w d (cs i j))/\(∀ (i:Nat) (row:List D),rows[i]?=some row->row.length=K)/\
   (∀ g,σ k=some g->T g.g/\∀ (i:Nat) (row:List D) (j:Nat) (d:D),rows[i]?=some row->row[j]?=some d->w.cell? ⟨g.g,i * K+j,none⟩=some (cs i j)):=by
  rcases hh with ⟨h1,h2⟩|⟨g,vs,h1,h2,h3,h4,h5,h6⟩
  ·subst h1
   exact ⟨fun _ _=>undef,(fun i row j d h=>by simp at h),(fun i row h=>by simp at h),fun g hg=>by rw [h2] at hg;cases hg⟩
  ·refine ⟨fun i j=>(vs[i * K+j]?).getD undef,fun i row j d hr hd=>?_,fun i row hr=>(h6.2 i row hr).1,fun g' hg=>?_⟩
   ·obtain ⟨u,hu,hr'⟩:=(h6.2 i row hr).2 j d hd
    simp only [hu,Option.getD_some];exact hr'
   ·rw [h1] at hg;injection hg with hg;subst hg
    refine ⟨h2,fun i row j d hr hd=>?_⟩
    obtain ⟨u,hu,_⟩:=(h6.2 i row hr).2 j d hd
    rw [cell_of_row w g.g (i * K+j) _ _ (0,0) h3]
    simp only [List.getElem?_toArray,hu,Option.getD_some]
 obtain ⟨hc1,hc2,hc3⟩:=hcs
 obtain ⟨l,hl⟩:∃ l:List (List D),l=(List.range n).map fun i=>(List.range K).map fun j=>D.v (cs i j):=⟨_,rfl⟩
 have hll:l.length=n:=by rw [hl];simp
 have hli:∀ i row,l[i]?=some row->i < n/\row=(List.range K).map fun j=>D.v (cs i j):=fun i row h=>by
  rw [hl,List.getElem?_map,Option.map_eq_some_iff] at h
  obtain ⟨i',h1,rfl⟩:=h
  obtain ⟨h2,h3⟩:=List.getElem?_eq_some_iff.1 h1
  simp at h2 h3
  subst h3
  exact ⟨h2,rfl⟩
 have hlj:∀ i row j d,l[i]?=some row->row[j]?=some d->j < K/\d=D.v (cs i j):=fun i row j d h hd=>by
  obtain ⟨_,rfl⟩:=hli i row h
  rw [List.getElem?_map,Option.map_eq_some_iff] at hd
  obtain ⟨j',h1,rfl⟩:=hd
  obtain ⟨h2,h3⟩:=List.getElem?_eq_some_iff.1 h1
  simp at h2 h3
  subst h3
  exact ⟨h2,rfl⟩
 have at_:∀ i j,i < n->j < K->∃ row d,rows[i]?=some row/\row[j]?=some d:=fun i j hi hj=>by
  have h1:i < rows.length:=by omega
  have h2:=hc2 i _ (List.getElem?_eq_getElem h1)
  exact ⟨rows[i],rows[i][j]'(by omega),List.getElem?_eq_getElem h1,List.getElem?_eq_getElem (by omega)⟩
 have hlow:∀ b,(T b/\∀ g,σ k=some g->g.g≠b)->T b:=fun b h=>h.1
 have harg:All2 (GRel (fun _=>none) (fun b=>T b/\∀ g,σ k=some g->g.g≠b) w) [.c (.d (.r K (l.map id)))] (c.args.map a.eval).toList:=by
  have hargs:(c.args.map a.eval).toList=[a.eval x]:=by rw [ha];simp
  rw [hargs,List.map_id]
  refine ⟨?_,trivial⟩
  show DRel _ w (.r K l) (a.eval x)
  rcases hxv with ⟨h0,h1⟩|⟨g,hg,h1,h2,h3⟩
  ·rw [h1]
   have:l=[]:=List.eq_nil_of_length_eq_zero (by omega)
   rw [this];exact DRel.nil _ _ _
  ·rw [h1]
   obtain ⟨q1,q2⟩:=hc3 g hg
   have:=DRel.r (T:=fun b=>T b/\∀ g,σ k=some g->g.g≠b) (w:=w) K l g.g (0 * K) (g.c - 0) cs (C.Tlt _ q1) (fun hb=>hb.2 g hg rfl) (by omega) (by omega) (fun i row hr=>by obtain ⟨_,rfl⟩:=hli i row hr;simp) (fun i row j d hr hd=>?_) (fun i row j d hr hd=>?_)
   ·rw [hll] at this;exact this
   ·obtain ⟨hj,rfl⟩:=hlj i row j d hr hd
    obtain ⟨row',d',r1,r2⟩:=at_ i j (hli i row hr).1 hj
    rw [Nat.zero_mul,Nat.zero_add];exact q2 i row' j d' r1 r2
   ·obtain ⟨hj,rfl⟩:=hlj i row j d hr hd
    obtain ⟨row',d',r1,r2⟩:=at_ i j (hli i row hr).1 hj
    have h5:=hc1 i row' j d' r1 r2
    exact .v _ ((show CRel σ T w (.d d') _ from h5).one rfl)
 refine wp_call ho hc hen ((hF l hll _ w _ (fun b h=>C.Tlt b h.1) harg).mono ?_)
 rintro e w' ⟨v,σ',T',rfl,B,R⟩
 have hk2:σ k2=none:=hnew k2 _ List.mem_cons_self (by simp)
 have hgrow:Grow σ (fun j=>if j=k2 then σ' 0 else σ j) T (fun b=>T b\/T' b) w w' (fun b=>∃ k∈([]:List Nat),∃ g,σ k=some g/\g.g=b):=⟨B.size,fun b hb _=>B.block b hb,(fun b ⟨k,hk,_⟩=>by cases hk),fun b hb h=>h.elim id fun h=>(R.Tle b hb h).1,fun j g hj=>by
  show (if j=k2 then σ' 0 else σ j)=some g
  rw [if_neg (fun e=>by rw [e,hk2] at hj;cases hj)];exact hj⟩
 refine ⟨v,rfl,v,fun j=>if j=k2 then σ' 0 else σ j,fun b=>T b\/T' b,rfl,⟨B.os,B.tape,B.output,hgrow,fun b h=>.inl h,fun b h=>h.elim (fun h=>Nat.lt_of_lt_of_le (C.Tlt b h) B.size) (R.Tlt b),fun j hj=>if_neg fun e=>hj (.arr t K rows) (by subst e;exact List.mem_cons_self),fun j b hj=>?_,fun j b g hj hg=>?_,fun j j' b b' g g' hj hj' _ _ _=>?_⟩,?_⟩
 ·simp only [List.mem_cons,List.not_mem_nil,or_false,Prod.mk.injEq] at hj
  obtain ⟨rfl,rfl⟩:=hj
  have h1:=R.heap 0 _ List.mem_cons_self
  rw [List.map_id] at h1
  show HRel _ _ w' (if j=j then σ' 0 else σ j) (.arr t K rows)
  rw [if_pos rfl]
  refine ⟨hK,?_⟩
  rcases h1.2 with ⟨h2,h3⟩|⟨g,vs,h2,h3,h4,h5,h6,h7⟩
  ·left
   refine ⟨List.eq_nil_of_length_eq_zero ?_,h3⟩
   rw [h2] at hll;simp at hll;omega
  ·refine .inr ⟨g,vs,h2,.inr h3,h4,h5,h6,?_,fun i row hr=>⟨hc2 i row hr,fun j' d hd=>?_⟩⟩
   ·have:=h7.1;rw [hll] at this;rw [hn];exact this
   ·have hi:i < n:=by have:=(List.getElem?_eq_some_iff.1 hr).1;omega
    have hj:j' < K:=by have:=(List.getElem?_eq_some_iff.1 hd).1;have:=hc2 i row hr;omega
    have hr':l[i]?=some ((List.range K).map fun j=>D.v (cs i j)):=by rw [hl,List.getElem?_map,List.getElem?_range hi];rfl
    have hd':((List.range K).map fun j=>D.v (cs i j))[j']?=some (D.v (cs i j')):=by rw [List.getElem?_map,List.getElem?_range hj];rfl
    obtain ⟨u,hu,hr2⟩:=(h7.2 i _ hr').2 j' _ hd'
    refine ⟨u,hu,?_⟩
    rw [DRel.inv hr2]
    exact (hc1 i row j' d hr hd).grow hgrow
 ·simp only [List.mem_cons,List.not_mem_nil,or_false,Prod.mk.injEq] at hj
  obtain ⟨rfl,rfl⟩:=hj
  have hg:(if j=j then σ' 0 else σ j)=some g:=hg
  rw [if_pos rfl] at hg
  exact .inl (R.fresh 0 _ g List.mem_cons_self hg)
 ·simp only [List.mem_cons,List.not_mem_nil,or_false,Prod.mk.injEq] at hj hj'
  rw [hj.1,hj'.1]
 ·have hr:CRel σ' T' w' (.s 0 0 K l.length) v:=R.rel
  rw [hll] at hr
  rcases hr with h|⟨g,h1,h2⟩
  ·exact .inl h
  ·exact .inr ⟨g,by show (if k2=k2 then σ' 0 else σ k2)=some g;rw [if_pos rfl];exact h1,h2⟩
end
end Go.Proofs.Ytegepioggeggaaa.Dev
namespace Go.Proofs.Ytegepioggeggaaa.Dev
open Go.RowKit
section
variable {P:Program}
theorem FnE.mkF {f:FuncId} {fn:Func} {c:Code} {ins:List GV} {hin:List (Nat×AB)} {keep:List Nat} {av:AV} {nb:List (Nat×AB)} (N:Nat) (s:List (Nat×AV)) (n:Nat) (hf:P.funcs[f]?=some fn) (hb:fn.body=some c) (hn:fn.ntmps=N) (hN:Nat.ble ins.length N=true) (hs:slotsOf 0 ins=s)
  (hin0:nodupB (keys hin)=true) (hin1:hin.all (fun x=>Nat.blt x.1 n)=true) (hok:ins.all (GV.ok (keyIn hin))=true) (hokb:hin.all (fun x=>x.2.ok (keyIn hin))=true) (hkeep:keep.all (fun k=>keyIn hin k)=true)
  (h:∀ (W0:World) (F T:Nat->Prop) (pg:Nat->Adr),(∀ b,F b->∃ k∈keys hin,(pg k).g=b)->AC P W0 F (N,[]) T (keep.map fun k=>(k,pg k)) (retQ P fn (keep.map fun k=>(k,pg k)) av nb) c ⟨s,hin,n⟩):FnE P f ins hin keep av nb:=by
 subst hn hs
 intro T σ w args hT hheap hinj hk hargs
 have hlen:=hargs.length
 have hlen:ins.length=args.size:=by simpa using hlen
 have hN:=Nat.le_of_ble_eq_true hN
 let σ0:Nat->Option Adr:=fun k=>if keyIn hin k=true then σ k else none
 have hσ:∀ k,keyIn hin k=true->σ0 k=σ (id k):=fun k hk=>if_pos hk
 have hnd:=nodupB_iff hin0
 let pg:Nat->Adr:=fun k=>(σ k).getD ⟨0,0⟩
 have F:Nat->Prop:=fun b=>True
 clear F
 refine calls_of_wp hf hb (Code.wp_mono ?_ (h w (fun b=>∃ k∈keys hin,∃ g,σ k=some g/\g.g=b) T pg (fun b ⟨k,hk,g,hg,hb⟩=>⟨k,hk,by show ((σ k).getD ⟨0,0⟩).g=b;rw [hg];exact hb⟩) _ w ⟨σ0,T,fun _ _=>⟨fun h=>h,fun h=>h⟩,⟨⟨?_,?_,?_,hT⟩,rfl,rfl,rfl,Nat.le_refl _,fun _ _ _=>rfl,?_,?_,?_,?_,rfl⟩,?_⟩))
 ·rintro e a' w' ⟨st,⟨he,st',gs,hw,hr,rfl,hnb⟩,hI⟩
  obtain ⟨σ',T',hT',S,hp⟩:=hw _ _ _ _ _ _ hI
  obtain ⟨v,hv,hrel⟩:=run_results S.core hr
  have hpost:a'.defers=[]/\∃ v,(results fn a'.tmps).run P w'=.ok v w'/\∃ v' σ' T',Ending.returned v=.returned v'/\OutE σ T w hin keep w' σ' T' (outOf gs) nb v':=by
   refine ⟨S.dfr,v,hv,v,σ',T',rfl,S.os,S.tape,S.output,S.size,fun b hb hno=>S.old b hb ?_,hrel,fun b hb=>(hT' b hb).1,fun b hb=>(hT' b (hT b hb)).2 hb,S.core.Tlt,fun k b hk=>S.core.heap k b (hnb.mem _ hk),fun k b g hk hg=>?_,
    fun k k' b b' g g' hk hk' hg hg' hgg=>S.core.inj k k' b b' g g' (hnb.mem _ hk) (hnb.mem _ hk') hg hg' hgg,fun k hkk=>?_⟩
   ·rintro ⟨k,hk,g,hg,hgb⟩;exact hno k hk g hg hgb
   ·rcases S.own k b g (hnb.mem _ hk) hg with h|⟨e,he,g',hg',hgg⟩
    ·exact .inl h
    ·exact .inr ⟨e,he,g',hg',hgg⟩
   ·obtain ⟨g,hg⟩:=hk k hkk
    have hl:=look_mapk pg hkk
    have hpg:pg k=g:=by show (σ k).getD ⟨0,0⟩=g;rw [hg];rfl
    rw [hg,<-hpg]
    exact hp k _ hl
  rcases he with rfl|rfl<;>exact hpost
 ·intro i v hi
  obtain ⟨g,rfl,_,hg⟩:=slotsOf_look hi
  obtain ⟨x,hx,hrel⟩:=hargs.get hg
  have hx':(args++Array.replicate (fn.ntmps - args.size) undef).getD i undef=x:=by
   rw [Nat.sub_zero] at hx
   have hlt:=(List.getElem?_eq_some_iff.1 hx).1
   rw [Array.getD_eq_getD_getElem?,Array.getElem?_append_left (by simpa using hlt),<-Array.getElem?_toList,hx]
   rfl
  rw [hx']
  have hgo:=List.all_eq_true.1 hok g (List.mem_of_getElem? hg)
  have hid:g.map id=g:=by cases g with
   |c x=>cases x<;>simp [GV.map,CV.map]
   |g xs=>
    have:xs.map (CV.map id)=xs:=by
     induction xs with
     |nil=>rfl
     |cons y l ih=>
      have hy:y.map id=y:=by cases y<;>simp [CV.map]
      simp only [List.map_cons,hy]
      congr 1
      induction l with
      |nil=>rfl
      |cons z l _=>exact (by
        have hz:∀ c:CV,c.map id=c:=fun c=>by cases c<;>simp [CV.map]
        exact List.map_congr_left (fun c _=>hz c)|>.trans (List.map_id _))
    simp [GV.map,this]
  exact GRel.ren (ρ:=id) hσ (x:=g) (by rw [hid];exact hrel) hgo
 ·intro k b hk
  have hm:=look_mem hk
  have hkin:keyIn hin k=true:=mem_keyIn hm
  rw [hσ k hkin]
  have hgo:=List.all_eq_true.1 hokb _ hm
  refine HRel.ren (ρ:=id) hσ ?_ hgo
  have hz:∀ c:CV,c.map id=c:=fun c=>by cases c<;>simp [CV.map]
  have hid:b.map' id=b:=by cases b with
   |box t cs=>simp only [AB.map'];congr 1;exact (List.map_congr_left (fun c _=>hz c)).trans (List.map_id _)
   |arr=>rfl
   |map=>rfl
  rw [hid]
  exact hheap k b hm
 ·intro k k' b b' g g' hk hk' hg hg' hgg
  rw [hσ k (mem_keyIn (look_mem hk))] at hg
  rw [hσ k' (mem_keyIn (look_mem hk'))] at hg'
  exact hinj k k' b b' g g' (look_mem hk) (look_mem hk') hg hg' hgg
 ·intro k b g hk hg
  rw [hσ k (mem_keyIn (look_mem hk))] at hg
  exact .inr ⟨k,List.mem_map.2 ⟨(k,b),look_mem hk,rfl⟩,g,hg,rfl⟩
 ·intro k hk
  refine if_neg fun hkin=>?_
  obtain ⟨b,hb⟩:=keyIn_mem hkin
  have:=List.all_eq_true.1 hin1 _ hb
  rw [Nat.blt_eq] at this
  have:k < n:=this
  have hk:n<=k:=hk
  omega
 ·intro k b hk
  have:=List.all_eq_true.1 hin1 _ (look_mem hk)
  rw [Nat.blt_eq] at this
  exact this
 ·simp;omega
 ·intro k g hl
  obtain ⟨k',hk',he⟩:=List.mem_map.1 (look_mem hl)
  injection he with e1 e2
  subst e1
  have hkin:=List.all_eq_true.1 hkeep k' hk'
  rw [hσ k' hkin]
  obtain ⟨g',hg'⟩:=hk k' hk'
  subst e2
  show σ k'=some ((σ k').getD ⟨0,0⟩)
  rw [hg'];rfl
end
section
variable {P:Program} {W0:World} {N:NT} {T0:Nat->Prop} {Q:Exit->AState->Prop} {s s':List (Nat×AV)} {h h':List (Nat×AB)} {n:Nat}
theorem inv_freezeF {a:Go.Act} {w:World} (k:Nat) (k0:Nat) {g0:Adr} {F:Nat->Prop} (hF:∀ b,F b->g0.g=b) (hk0:keyIn h' k0=true) (hk:keyIn h k=true) (hs:AllL (fun x=>∃ y,look s x.1=some y/\Frz ⟨s,h,n⟩ k (keyIn h') y x.2) s') (hh:AllL (fun x=>look h x.1=some x.2) h') (hok:h'.all (fun x=>!Nat.beq x.1 k && x.2.ok (keyIn h'))=true)
  (hI:Inv W0 F N T0 [(k0,g0)] ⟨s,h,n⟩ a w):Inv W0 F N T0 [(k0,g0)] ⟨s',h',n⟩ a w:=by
 obtain ⟨σ,T,hT,S,hp⟩:=hI
 obtain ⟨b0,hb0⟩:=keyIn_some hk
 have hh':∀ j b,look h' j=some b->look h j=some b/\j≠k/\b.ok (keyIn h')=true:=fun j b hj=>by
  have h1:=List.all_eq_true.1 hok _ (look_mem hj)
  simp only [Bool.and_eq_true,Bool.not_eq_true'] at h1
  exact ⟨hh.mem _ (look_mem hj),(fun e=>by subst e;rw [Nat.beq_refl] at h1;exact absurd h1.1 (by simp)),h1.2⟩
 have C:=S.core.freeze (st':=⟨s',h',n⟩) k (fun i v hi=>hs.mem _ (look_mem hi)) hh' ⟨b0,hb0⟩
 have q1:∀ b,b < W0.heap.size->(lessT σ T [k] b->T0 b)/\(T0 b->lessT σ T [k] b):=fun b hb=>⟨fun hb'=>(hT b hb).1 hb'.1,fun h0=>⟨(hT b hb).2 h0,fun e he g hg hgb=>by
  rw [List.mem_singleton.1 he] at hg
  rcases S.own k b0 g hb0 hg with h1|h1
  ·omega
  ·obtain ⟨b1,hb1⟩:=keyIn_some hk0
   have hb2:=hh' k0 b1 hb1
   exact absurd (S.core.inj k0 k b1 b0 g0 g hb2.1 hb0 (hp k0 g0 (by rw [look_cons,if_pos rfl])) hg (hF _ h1)) hb2.2.1⟩⟩
 have q2:∀ j b g,look h' j=some b->(if keyIn h' j=true then σ j else none)=some g->W0.heap.size<=g.g\/F g.g:=fun j b g hj hg=>by
  split at hg
  ·exact S.own j b g (hh' j b hj).1 hg
  ·cases hg
 have q3:∀ j,n<=j->(if keyIn h' j=true then σ j else none)=none:=fun j hj=>by
  split
  ·exact S.next j hj
  ·rfl
 exact ⟨_,_,q1,⟨C,S.os,S.tape,S.output,S.size,S.old,q2,q3,fun j b hj=>S.hn j b (hh' j b hj).1,S.tsz,S.dfr⟩,fun j g hj=>by
  show (if keyIn h' j=true then σ j else none)=some g
  have h1:=hp j g hj
  rw [look_cons] at hj
  split at hj
  ·rename_i e;subst e;rw [if_pos hk0];exact h1
  ·cases hj⟩

theorem AC.freezeF {c:Code} {F:Nat->Prop} {g0:Adr} (hF:∀ b,F b->g0.g=b) (k:Nat) (hk0:keyIn h' 0=true) (hk:keyIn h k=true) (hs:AllL (fun x=>∃ y,look s x.1=some y/\Frz ⟨s,h,n⟩ k (keyIn h') y x.2) s') (hh:AllL (fun x=>look h x.1=some x.2) h') (hok:h'.all (fun x=>!Nat.beq x.1 k && x.2.ok (keyIn h'))=true)
  (hn:AC P W0 F N T0 [(0,g0)] Q c ⟨s',h',n⟩):AC P W0 F N T0 [(0,g0)] Q c ⟨s,h,n⟩:=fun a w hI=>hn a w (inv_freezeF k 0 hF hk0 hk hs hh hok hI)
end
section
variable {P:Program} {W0:World} {F:Nat->Prop} {N:NT} {T0:Nat->Prop} {pin:List (Nat×Adr)} {ops:Array Oper} {Q:Exit->AState->Prop}
theorem AL.opF {o:Oper} {rest:List Oper} {s:List (Nat×AV)} {h:List (Nat×AB)} {n d:Nat} {av av':AV} {nb:List (Nat×AB)} (hw:Wanted ops o ⟨s,h,n⟩) (g:GOp P o ⟨s,h,n⟩ av nb []) (hf:FrzA nb av av') (hd:o.dst=some d) (hN:Nat.blt d N.1=true) (hnb:nb.all (fun x=>Nat.ble n x.1)=true)
  (hr:AL P W0 F N T0 pin ops Q rest ⟨(d,av')::s,h,n⟩):AL P W0 F N T0 pin ops Q (o::rest) ⟨s,h,n⟩:=by
 rintro a w ⟨σ,T,hT,S,hp⟩
 refine wpList_step fun K hK=>?_
 rw [if_pos (hw σ T a w S.core)]
 refine wp_monoQ (operMono (g σ T a w S.core fun k b hk _=>S.next k (Nat.le_of_ble_eq_true (List.all_eq_true.1 hnb _ hk))) ?_)
 rintro a' w' ⟨u,σ',T',rfl,X,hv⟩
 have hfresh:∀ k b g,(k,b)∈nb->σ' k=some g->w.heap.size<=g.g:=fun k b g hk hg=>(X.fresh k b g hk hg).resolve_right (fun ⟨e,he,_⟩=>by cases he)
 have hlow:∀ b,(T' b/\b < w.heap.size)->T' b:=fun b h=>h.1
 have X2:Ext σ T w σ (fun b=>T' b/\b < w.heap.size) w' [] []:=⟨X.os,X.tape,X.output,⟨X.grow.size,X.grow.old,(fun b ⟨k,hk,_⟩=>by cases hk),fun b hb h=>X.grow.Tle b hb h.1,fun _ _ h=>h⟩,fun b h=>⟨X.Tge b h,S.core.Tlt b h⟩,fun b h=>X.Tlt b h.1,fun _ _=>rfl,(fun _ _ h=>by cases h),(fun _ _ _ h=>by cases h),(fun _ _ _ _ _ _ h=>by cases h)⟩
 have hc:∀ c d u,FrzC nb c d->CRel σ' T' w' c u->CRel σ (fun b=>T' b/\b < w.heap.size) w' d u:=by
  rintro c d u (⟨x,rfl,rfl⟩|⟨k,t,K,n,rows,rfl,rfl,hk,hn⟩) hu
  ·exact DRel.anti hlow hu
  ·have hh:=X.rel k _ (look_mem hk)
   obtain ⟨hK,hh⟩:=hh
   rcases hu with ⟨h0,rfl⟩|⟨g,hg,rfl,hcap,hmax⟩
   ·subst h0
    have:rows=[]:=List.eq_nil_of_length_eq_zero hn
    subst this
    exact DRel.nil _ _ _
   ·rcases hh with ⟨h1,h2⟩|⟨g',vs,h1,h2,h3,h4,h5,h6⟩
    ·rw [hg] at h2;cases h2
    ·rw [hg] at h1;injection h1 with h1;subst h1
     have hfr:=hfresh k _ g (look_mem hk) hg
     have:=DRel.r (T:=fun b=>T' b/\b < w.heap.size) (w:=w') K rows g.g (0 * K) (g.c - 0) (fun i j=>(vs[i * K+j]?).getD undef) (X.Tlt _ h2) (fun hb=>by have:=hb.2;omega) (by omega) (by omega) (fun i row hr=>(h6.2 i row hr).1) (fun i row j d hr hd=>?_) (fun i row j d hr hd=>?_)
     ·rw [hn] at this;exact this
     ·obtain ⟨u,hu,_⟩:=(h6.2 i row hr).2 j d hd
      rw [Nat.zero_mul,Nat.zero_add,cell_of_row w' g.g (i * K+j) _ _ (0,0) h3]
      simp only [List.getElem?_toArray,hu,Option.getD_some]
     ·obtain ⟨u,hu,hr'⟩:=(h6.2 i row hr).2 j d hd
      simp only [hu,Option.getD_some]
      exact hr'.anti hlow
 have hgv:∀ c d u,FrzG nb c d->GRel σ' T' w' c u->GRel σ (fun b=>T' b/\b < w.heap.size) w' d u:=by
  intro c d u hcd hu
  match c,d,hcd with
  |.c c,.c d,hcd=>exact hc c d u hcd hu
  |.g cs,.g ds,hcd=>obtain ⟨vs,h1,h2⟩:=hu;exact ⟨vs,h1,All2.comp (fun x y z h1 h2=>hc x y z h1 h2) hcd h2⟩
 have hv2:ARel σ (fun b=>T' b/\b < w.heap.size) w' av' u:=by
  match av,av',hf with
  |.v c,.v d,hf=>exact hgv c d u hf hv
  |.t cs,.t ds,hf=>obtain ⟨vs,h1,h2⟩:=hv;exact ⟨vs,h1,All2.comp (fun x y z h1 h2=>hgv x y z h1 h2) hf h2⟩
 have hS:=S.step (nb:=[]) (E:=[]) (dst:=o.dst) (fun _ h=>by cases h) (fun d' h'=>by rw [hd] at h';injection h' with h';subst h';rw [Nat.blt_eq] at hN;exact hN) X2 hv2
 rw [add_nil,hd] at hS
 rw [hd]
 exact hK _ _ (hr _ _ ⟨σ,_,fun b hb=>⟨fun hb'=>(hT b hb).1 (X.grow.Tle b (Nat.lt_of_lt_of_le hb S.size) hb'.1),fun h0=>⟨X.Tge b ((hT b hb).2 h0),Nat.lt_of_lt_of_le hb S.size⟩⟩,hS,hp⟩)
end
end Go.Proofs.Ytegepioggeggaaa.Dev
namespace Go.Proofs.Ytegepioggeggaaa.Dev
open Go.RowKit
def vAns (a:Answer):Value:=.agg #[.int .i64 a.err,.int .i64 a.auth]
def tV (ps:List (Int×Answer)):List (Int×Value):=ps.map fun p=>(p.1,vAns p.2)
def tget:List (Int×Answer)->Int->Option Answer
 |[],_=>none
 |(k,v)::l,a=>if k=a then some v else tget l a
def tput:List (Int×Answer)->Int->Answer->List (Int×Answer)
 |[],a,v=>[(a,v)]
 |(k,u)::l,a,v=>if k=a then (a,v)::l else (k,u)::tput l a v
theorem findNow_t {a:Int}:∀ {ps:List (Int×Answer)} {ms:List MapEntry} (i:Nat),ms.map (fun e=>(e.key,e.val))=(tV ps).map (fun e=>(Value.int .i64 e.1,e.2))->
  (∃ j v,Instr.findNow (.int .i64) (.int .i64 a) ms i=some (some (i+j,vAns v))/\tget ps a=some v/\(∃ e,ms[j]?=some e/\e.key=.int .i64 a)/\∀ u,tV (tput ps a u)=(tV ps).set j (a,vAns u))\/
  (Instr.findNow (.int .i64) (.int .i64 a) ms i=some none/\tget ps a=none/\∀ u,tput ps a u=ps++[(a,u)])
 |[],[],i,_=>.inr ⟨rfl,rfl,fun _=>rfl⟩
 |[],_::_,_,h=>by cases h
 |_::_,[],_,h=>by cases h
 |(k,v)::ps,e::ms,i,h=>by
  obtain ⟨h1,h2⟩:=List.cons.inj h
  injection h1 with h3 h4
  unfold Instr.findNow tget tput
  rw [h3,h4]
  by_cases hk:k=a
  ·subst hk
   exact .inl ⟨0,v,by simp [Instr.sameNow],by simp,⟨e,rfl,h3⟩,fun u=>by simp [tV]⟩
  ·have hk':(a==k)=false:=beq_eq_false_iff_ne.2 fun e=>hk e.symm
   rcases findNow_t (ps:=ps) (ms:=ms) (a:=a) (i+1) h2 with ⟨j,w,h5,h6,⟨e',h7,h8⟩,h9⟩|⟨h5,h6,h7⟩
   ·refine .inl ⟨j+1,w,?_,by simp [hk,h6],⟨e',by simpa using h7,h8⟩,fun u=>?_⟩
    ·simp only [Instr.sameNow,hk',h5]
     simp [show i+1+j=i+(j+1) by omega]
    ·rw [if_neg hk]
     have:=h9 u
     simp only [tV] at this ⊢
     simp [this]
   ·exact .inr ⟨by simp [Instr.sameNow,hk',h5],by simp [hk,h6],fun u=>by rw [if_neg hk,h7];rfl⟩
section
variable {P:Program} {st:AState} {o:Oper}
theorem g_lookupT {t kt et:TypeId} {m x:Operand} {k cl:Nat} {a:Int} {ps:List (Int×Answer)} (hu:P.underlying t=some (.map kt et)) (hkt:P.underlying kt=some (.int .i64)) (hz:(P.info? et).bind (fun i=>i.zero)=some (.agg #[.int .i64 0,.int .i64 0])) (ho:o.op=.lookup t m x true)
  (hm:ev st m (.v (.c (.m k)))) (hx:ev st x (.v (.c (.d (.v (.int .i64 a)))))) (hb:look st.h k=some (.map (tV ps) cl)):
  GOp P o st (.t [.g [cI ((tget ps a).getD ⟨0,0⟩).err,cI ((tget ps a).getD ⟨0,0⟩).auth],.c (cB (tget ps a).isSome)]) [] []:=
 GOp.val fun σ T ac w C=>by
  obtain ⟨g,h1,h2⟩:=ev_rel C hm
  have h3:=DRel.inv (ev_rel C hx)
  obtain ⟨g',ms,e1,e2,e3,e4⟩:=C.heap k _ hb
  rw [h1] at e1;injection e1 with e1;subst e1
  refine ⟨.tuple #[vAns ((tget ps a).getD ⟨0,0⟩),.bool (tget ps a).isSome],?_,⟨_,rfl,⟨_,rfl,DRel.v _ rfl,DRel.v _ rfl,trivial⟩,DRel.v _ rfl,trivial⟩⟩
  cases hq:P.info? et with
  |none=>simp [hq] at hz
  |some i=>
   have hzz:i.zero=some (.agg #[.int .i64 0,.int .i64 0]):=by simpa [hq] using hz
   unfold execOp
   rcases findNow_t (a:=a) 0 e4 with ⟨j,v,hf,hg,_⟩|⟨hf,hg,_⟩
   ·simp [ho,h2,h3,hg,Instr.lookup,run_underlying hu,MapKept.run_getObj_map e3,MapKept.run_checkKey hkt (show MapKept.IsKey (.int .i64) (.int .i64 a) from rfl),MapKept.run_findKey hkt hf,Result.andThen]
   ·simp [ho,h2,h3,hg,Instr.lookup,run_underlying hu,MapKept.run_getObj_map e3,MapKept.run_checkKey hkt (show MapKept.IsKey (.int .i64) (.int .i64 a) from rfl),MapKept.run_findKey hkt hf,Result.andThen,zeroValue,typeInfo,hq,hzz,vAns]
theorem g_updateT {t kt et:TypeId} {m x y:Operand} {k cl:Nat} {a e u:Int} {ps:List (Int×Answer)} (hu:P.underlying t=some (.map kt et)) (hkt:P.underlying kt=some (.int .i64)) (ho:o.op=.mapUpdate t m x y)
  (hm:ev st m (.v (.c (.m k)))) (hx:ev st x (.v (.c (.d (.v (.int .i64 a)))))) (hy:ev st y (.v (.g [cI e,cI u]))) (hb:look st.h k=some (.map (tV ps) cl)):
  GOp P o st (.v (.c .any)) [(k,.map (tV (tput ps a ⟨e,u⟩)) (if (tget ps a).isSome then cl else cl+1))] [k]:=by
 intro σ T ac w C _
 obtain ⟨g,h1,h2⟩:=ev_rel C hm
 have h3:=DRel.inv (ev_rel C hx)
 obtain ⟨vs,h4,h5⟩:=ev_rel C hy
 have h4:ac.eval y=vAns ⟨e,u⟩:=by
  match vs,h5 with
  |[v1,v2],h5=>rw [h4,DRel.inv h5.1,DRel.inv h5.2.1];rfl
 obtain ⟨g',ms,e1,e2,e3,e4⟩:=C.heap k _ hb
 rw [h1] at e1;injection e1 with e1;subst e1
 have hlt:=(Array.getElem?_eq_some_iff.1 e3).1
 rcases findNow_t (a:=a) 0 e4 with ⟨j,v,hf,hg,⟨e0,hj,hk⟩,hp⟩|⟨hf,hg,hp⟩
 ·rw [Nat.zero_add] at hf
  have hj':ms[j]?=some e0:=by simpa using hj
  refine wp_skipv (w':={w with heap:=w.heap.setIfInBounds g.g (.map (ms.modify j fun e'=>{e' with key:=.int .i64 a,val:=vAns ⟨e,u⟩}) cl)}) ?_ ⟨undef,σ,T,rfl,Ext.write C hb h1 rfl rfl rfl (by simp) (fun i hi=>(MapKept.heap_set e3).2 i hi) fun G=>?_,trivial⟩
  ·unfold execOp
   simp [ho,h2,h3,h4,Instr.mapUpdate,Sem.run_bind,run_underlying hu,Result.andThen_ok,MapKept.run_getObj_map e3,MapKept.run_checkKey hkt (show MapKept.IsKey (.int .i64) (.int .i64 a) from rfl),MapKept.run_findKey hkt hf,hj',hk,MapKept.run_keyThatStays (show MapKept.IsKey (.int .i64) (.int .i64 a) from rfl),MapKept.run_setObj_map _ e3]
  ·refine ⟨g,(ms.modify j fun e'=>{e' with key:=.int .i64 a,val:=vAns ⟨e,u⟩}),rfl,e2,?_,?_⟩
   ·rw [hg];exact (MapKept.heap_set e3).1
   ·rw [hp,List.map_set,<-e4]
    refine List.ext_getElem? fun q=>?_
    rw [List.getElem?_map,Array.getElem?_toList,Array.getElem?_modify,List.getElem?_set,List.getElem?_map,Array.getElem?_toList]
    by_cases hq:j=q
    ·subst hq
     have hjl:=(Array.getElem?_eq_some_iff.1 hj').1
     simp [hj',hjl]
    ·simp [hq]
 ·refine wp_skipv (w':={w with heap:=w.heap.setIfInBounds g.g (.map (ms.push {key:=.int .i64 a,val:=vAns ⟨e,u⟩,born:=cl}) (cl+1))}) ?_ ⟨undef,σ,T,rfl,Ext.write C hb h1 rfl rfl rfl (by simp) (fun i hi=>(MapKept.heap_set e3).2 i hi) fun G=>?_,trivial⟩
  ·unfold execOp
   simp only [ho,h2,h3,h4,Instr.mapUpdate,Sem.run_bind,run_underlying hu,Result.andThen_ok,MapKept.run_getObj_map e3,MapKept.run_checkKey hkt (show MapKept.IsKey (.int .i64) (.int .i64 a) from rfl),MapKept.run_findKey hkt hf,MapKept.run_setObj_map _ e3]
   rfl
  ·refine ⟨g,(ms.push {key:=.int .i64 a,val:=vAns ⟨e,u⟩,born:=cl}),rfl,e2,?_,?_⟩
   ·rw [hg];exact (MapKept.heap_set e3).1
   ·rw [hp,Array.toList_push,List.map_append,e4]
    simp [tV]
theorem g_makeMapT {t:TypeId} (k:Nat) (ho:o.op=.makeMap t none):GOp P o st (.v (.c (.m k))) [(k,.map (tV []) 0)] []:=g_makeMap k ho
end
end Go.Proofs.Ytegepioggeggaaa.Dev
namespace Go.Proofs.Ytegepioggeggaaa.Dev
def keepL {α:Type} (p:α->Bool) (l:List α):List α:=l.filter fun x=>!p x
def idxF {α:Type} (p:α->Bool) (l:List α):Int:=
 match l.findIdx? p with
 |some i=>i
 |none=>-1
variable {α:Type} {p:α->Bool} {l c:List α} {i j q:Nat} {x:α}
theorem keepL_take (h:l[j]?=some x):keepL p (l.take (j+1))=keepL p (l.take j)++if p x then [] else [x]:=by
 rw [take_get h,keepL,keepL,List.filter_append]
 cases hp:p x<;>simp [hp]
theorem keepL_len (p:α->Bool) (l:List α):(keepL p l).length<=l.length:=List.length_filter_le _ _
theorem idx_found (h:(l.take q).all (fun y=>!p y)=true) (hx:l[q]?=some x) (hp:p x=true):idxF p l=q:=by
 unfold idxF
 have hq:=(List.getElem?_eq_some_iff.1 hx).1
 have:l.findIdx? p=some q:=by
  rw [List.findIdx?_eq_some_iff_getElem]
  refine ⟨hq,?_,fun r hr=>?_⟩
  ·have:=(List.getElem?_eq_some_iff.1 hx).2;rw [this];exact hp
  ·rw [List.all_eq_true] at h
   have hm:l[r]'(by omega)∈l.take q:=by
    rw [List.mem_iff_getElem]
    exact ⟨r,by rw [List.length_take];omega,by simp⟩
   have:=h _ hm
   simpa using this
 rw [this]
theorem idx_none (h:l.all (fun y=>!p y)=true):idxF p l=-1:=by
 unfold idxF
 have:l.findIdx? p=none:=by
  rw [List.findIdx?_eq_none_iff]
  intro y hy
  have:=List.all_eq_true.1 h y hy
  simpa using this
 rw [this]
theorem all_keep (h:(l.take q).all (fun y=>!p y)=true) (hx:l[q]?=some x) (hp:p x=false):(l.take (q+1)).all (fun y=>!p y)=true:=all_yes h hx (by simp [hp])
theorem idx_cases (p:α->Bool) (l:List α):(idxF p l=-1/\keepL p l=l)\/∃ i:Nat,idxF p l=i/\i < l.length/\∃ x,l[i]?=some x/\p x=true/\keepL p (l.take i)=l.take i:=by
 unfold idxF
 cases h:l.findIdx? p with
 |none=>
  refine .inl ⟨rfl,?_⟩
  rw [List.findIdx?_eq_none_iff] at h
  exact List.filter_eq_self.2 fun y hy=>by simp [h y hy]
 |some i=>
  rw [List.findIdx?_eq_some_iff_getElem] at h
  obtain ⟨h1,h2,h3⟩:=h
  refine .inr ⟨i,rfl,h1,l[i],List.getElem?_eq_getElem h1,h2,?_⟩
  refine List.filter_eq_self.2 fun y hy=>?_
  obtain ⟨r,hr,rfl⟩:=List.mem_iff_getElem.1 hy
  rw [List.length_take] at hr
  have:=h3 r (by omega)
  simp [this]
structure Del (p:α->Bool) (l c:List α) (i j:Nat):Prop where
 len:c.length=l.length
 ij:i < j
 jl:j<=l.length
 pre:c.take i=keepL p (l.take j)
 post:c.drop j=l.drop j
theorem Del.get (h:Del p l c i j) (hx:c[j]?=some x):l[j]?=some x:=by
 have h1:(c.drop j)[0]?=(l.drop j)[0]?:=by rw [h.post]
 simpa [hx] using h1.symm
theorem Del.skip (h:Del p l c i j) (hx:c[j]?=some x) (hp:p x=true):Del p l c i (j+1):=by
 have hl:=h.get hx
 have hj:=(List.getElem?_eq_some_iff.1 hl).1
 refine ⟨h.len,Nat.lt_succ_of_lt h.ij,hj,?_,?_⟩
 ·rw [keepL_take hl,hp,h.pre];simp
 ·rw [<-List.drop_drop,<-List.drop_drop,h.post]
theorem Del.keep (h:Del p l c i j) (hx:c[j]?=some x) (hp:p x=false):Del p l (c.set i x) (i+1) (j+1):=by
 have hl:=h.get hx
 have hj:=(List.getElem?_eq_some_iff.1 hl).1
 have hi:i < c.length:=by have:=h.ij;rw [h.len];omega
 refine ⟨by rw [List.length_set];exact h.len,Nat.succ_lt_succ h.ij,hj,?_,?_⟩
 ·rw [keepL_take hl,hp,<-h.pre]
  rw [List.take_succ_eq_append_getElem (by rw [List.length_set];exact hi)]
  simp [List.take_set_of_le]
 ·rw [List.drop_set_of_lt (by have:=h.ij;omega),<-List.drop_drop,<-List.drop_drop,h.post]
theorem Del.start {i:Nat} (hx:l[i]?=some x) (hp:p x=true) (hk:keepL p (l.take i)=l.take i):Del p l l i (i+1):=by
 have hi:=(List.getElem?_eq_some_iff.1 hx).1
 refine ⟨rfl,Nat.lt_succ_self i,hi,?_,rfl⟩
 rw [keepL_take hx,hp,hk];simp
theorem Del.done (h:Del p l c i j) (hj:l.length<=j):c.take i=keepL p l:=by
 rw [h.pre,List.take_of_length_le hj]
end Go.Proofs.Ytegepioggeggaaa.Dev
namespace Go.Proofs.Ytegepioggeggaaa.Dev
section
variable {α:Type} [DecidableEq α] {a b:List α}
end
end Go.Proofs.Ytegepioggeggaaa.Dev
namespace Go.Proofs.Ytegepioggeggaaa.Dev
def wrongPace (a b c:Int):Int:=if a < 1\/a > 1000000\/b < 0\/b > 30\/c < 0\/c > 1000000000000 then 3 else 0
def scan (e:Nat->Int) (q:Nat):Nat->Int×Int
 |0=>(0,0)
 |k+1=>if e q≠0 then (e q,(q:Int)) else scan e (q+1) k
theorem scan_ok {e:Nat->Int} {q n:Nat} (hq:q < n) (h:e q=0):scan e q (n - q)=scan e (q+1) (n - (q+1)):=by
 rw [show n - q=(n - (q+1))+1 by omega,scan,if_neg (by simp [h])]
theorem scan_bad {e:Nat->Int} {q n:Nat} (hq:q < n) {c:Int} (h:e q=c) (hc:c≠0):scan e q (n - q)=(c,(q:Int)):=by
 rw [show n - q=(n - (q+1))+1 by omega,scan,if_pos (by rw [h];exact hc),h]
theorem scan_end {e:Nat->Int} {q n:Nat} (hq:¬q < n):scan e q (n - q)=(0,0):=by rw [show n - q=0 by omega];rfl
theorem scan_all {e:Nat->Int}:∀ (n q:Nat),(scan e q n).1=0↔∀ i,q<=i->i < q+n->e i=0
 |0,q=>by simp [scan];intro i h1 h2;omega
 |n+1,q=>by
  rw [scan]
  split
  ·rename_i h;exact ⟨fun h'=>absurd h' h,fun h'=>absurd (h' q (Nat.le_refl _) (by omega)) h⟩
  ·rename_i h
   rw [scan_all n (q+1)]
   constructor
   ·intro h' i h1 h2
    by_cases hi:i=q
    ·subst hi;omega
    ·exact h' i (by omega) (by omega)
   ·exact fun h' i h1 h2=>h' i (by omega) (by omega)
def uErr (l:List Use) (q:Nat):Int:=
 match l[q]? with
 |some u=>if u.time < 0\/u.time > 1000000\/u.sum < 0\/u.sum > 1000000 then 3 else if 0 < q/\(l.getD (q - 1) ⟨0,0⟩).time > u.time then 2 else 0
 |none=>0
def uses (l:List Use):Int×Int:=if l.length > 30 then (5,0) else scan (uErr l) 0 l.length
def wrongP (p:Pace):Int:=wrongPace p.ticks p.count p.sum
def usesF (l:List Use):Fault:=⟨(uses l).1,(uses l).2⟩
def old (p:Pace) (t:Int) (u:Use):Bool:=decide (u.time<=t - p.ticks)
def recentP (p:Pace) (l:List Use) (t:Int):List Use:=keepL (old p t) l
def sumU:List Use->Int
 |[]=>0
 |u::l=>u.sum+sumU l
def lastLate (l:List Use) (t:Int):Bool:=match l.getLast? with
 |some u=>decide (u.time > t)
 |none=>false
def addUse (p:Pace) (l:List Use) (x:Use):List Use×Int:=
 if wrongP p≠0 then ([],wrongP p)
 else if (usesF l).err≠0 then ([],(usesF l).err)
 else if (usesF [x]).err≠0 then ([],(usesF [x]).err)
 else if lastLate l x.time=true then ([],2)
 else if p.count < ((recentP p l x.time).length:Int)+1\/p.sum < sumU (recentP p l x.time)+x.sum then ([],11)
 else (recentP p l x.time++[x],0)
theorem rightP {p:Pace} (h:wrongP p=0):1<=p.ticks/\p.ticks<=1000000/\0<=p.count/\p.count<=30/\0<=p.sum/\p.sum<=1000000000000:=by
 unfold wrongP wrongPace at h
 split at h
 ·cases h
 ·omega
theorem uses_iff {l:List Use}:(usesF l).err=0↔l.length<=30/\∀ i,i < l.length->uErr l i=0:=by
 unfold usesF uses
 dsimp only
 split
 ·constructor
  ·intro h;cases h
  ·intro h;omega
 ·rw [scan_all]
  constructor
  ·exact fun h=>⟨by omega,fun i hi=>h i (Nat.zero_le _) (by omega)⟩
  ·exact fun h i _ hi=>h.2 i (by omega)
theorem uErr_iff {l:List Use} {q:Nat} {u:Use} (h:l[q]?=some u):uErr l q=0↔(0<=u.time/\u.time<=1000000/\0<=u.sum/\u.sum<=1000000)/\∀ v,0 < q->l[q - 1]?=some v->v.time<=u.time:=by
 unfold uErr
 rw [h]
 dsimp only
 have hq:=(List.getElem?_eq_some_iff.1 h).1
 split
 ·constructor
  ·intro h;cases h
  ·intro h;omega
 ·split
  ·rename_i h1 h2
   constructor
   ·intro h;cases h
   ·intro h3
    have hv:l[q - 1]?=some l[q - 1]:=List.getElem?_eq_getElem (by omega)
    have:=h3.2 _ h2.1 hv
    rw [List.getD_eq_getElem?_getD,hv] at h2
    simp only [Option.getD_some] at h2
    omega
  ·rename_i h1 h2
   refine ⟨fun _=>⟨by omega,fun v h3 h4=>?_⟩,fun _=>rfl⟩
   rw [List.getD_eq_getElem?_getD,h4] at h2
   simp only [Option.getD_some] at h2
   omega
theorem rightU {l:List Use} (h:(usesF l).err=0):l.length<=30/\∀ u∈l,0<=u.time/\u.time<=1000000/\0<=u.sum/\u.sum<=1000000:=by
 obtain ⟨h1,h2⟩:=uses_iff.1 h
 refine ⟨h1,fun u hu=>?_⟩
 obtain ⟨i,hi⟩:=List.getElem?_of_mem hu
 exact ((uErr_iff hi).1 (h2 i (List.getElem?_eq_some_iff.1 hi).1)).1
theorem sumU_snoc (l:List Use) (u:Use):sumU (l++[u])=sumU l+u.sum:=by
 induction l with
 |nil=>simp [sumU]
 |cons x l ih=>simp only [List.cons_append,sumU,ih];omega
theorem sumU_bound {l:List Use} (h:∀ u∈l,0<=u.time/\u.time<=1000000/\0<=u.sum/\u.sum<=1000000):0<=sumU l/\sumU l<=1000000 * l.length:=by
 induction l with
 |nil=>simp [sumU]
 |cons x l ih=>
  have h1:=ih fun u hu=>h u (List.mem_cons_of_mem _ hu)
  have h2:=h x List.mem_cons_self
  simp only [sumU,List.length_cons]
  omega
theorem mem_keep {α:Type} {p:α->Bool} {l:List α} {x:α} (h:x∈keepL p l):x∈l:=(List.mem_filter.1 h).1
theorem sumU_recent {p:Pace} {l:List Use} {t:Int} {k:Nat} (h:(usesF l).err=0):0<=sumU ((recentP p l t).take k)/\sumU ((recentP p l t).take k)<=30000000:=by
 obtain ⟨h1,h2⟩:=rightU h
 have h3:=sumU_bound (l:=(recentP p l t).take k) fun u hu=>h2 u (mem_keep (List.mem_of_mem_take hu))
 have h4:=keepL_len (old p t) l
 have h5:((recentP p l t).take k).length<=(recentP p l t).length:=by rw [List.length_take];exact Nat.min_le_right _ _
 have h6:(recentP p l t).length<=30:=Nat.le_trans h4 h1
 omega
theorem get2 {α:Type} {a b x:α} {q:Nat} (h:[a,b][q]?=some x):(q=0/\x=a)\/(q=1/\x=b):=by
 match q with
 |0=>left;simp_all
 |1=>right;simp_all
 |q+2=>simp at h
theorem late_of {l:List Use} {t:Int} {u:Use} (h:l[l.length - 1]?=some u):lastLate l t=decide (u.time > t):=by
 unfold lastLate
 rw [List.getLast?_eq_getElem?,h]
end Go.Proofs.Ytegepioggeggaaa.Dev
namespace Go.Proofs.Ytegepioggeggaaa.Dev
end Go.Proofs.Ytegepioggeggaaa.Dev
namespace Go.Proofs.Ytegepioggeggaaa.Dev
theorem add_of {p:Pace} {l r:List Use} {x:Use} (h:addUse p l x=(r,0)):wrongP p=0/\(usesF l).err=0/\(usesF [x]).err=0/\lastLate l x.time=false/\((recentP p l x.time).length:Int)+1<=p.count/\sumU (recentP p l x.time)+x.sum<=p.sum/\r=recentP p l x.time++[x]:=by
 unfold addUse at h
 split at h
 ·rename_i h1;simp only [Prod.mk.injEq] at h;exact absurd h.2 h1
 split at h
 ·rename_i h1;simp only [Prod.mk.injEq] at h;exact absurd h.2 h1
 split at h
 ·rename_i h1;simp only [Prod.mk.injEq] at h;exact absurd h.2 h1
 split at h
 ·simp at h
 split at h
 ·simp at h
 ·rename_i h1 h2 h3 h4 h5
  simp only [Prod.mk.injEq] at h
  exact ⟨by omega,by omega,by omega,by simpa using h4,by omega,by omega,h.1.symm⟩
structure Kept (p:Pace) (all kept:List Use):Prop where
 times:∀ u∈all,∀ v,all.getLast?=some v->u.time<=v.time
 last:kept.getLast?=all.getLast?
 recn:∀ t,(∀ v,all.getLast?=some v->v.time<=t)->recentP p kept t=recentP p all t
 good:∀ i u,all[i]?=some u->((recentP p (all.take (i+1)) u.time).length:Int)<=p.count/\sumU (recentP p (all.take (i+1)) u.time)<=p.sum
 bound:∀ u∈all,0<=u.time/\u.time<=1000000/\0<=u.sum/\u.sum<=1000000
theorem Kept.nil (p:Pace):Kept p [] []:=⟨fun u h=>by simp at h,rfl,fun _ _=>rfl,fun i u h=>by simp at h,fun u h=>by simp at h⟩
theorem keep_snoc (p:Use->Bool) (l:List Use) (x:Use):keepL p (l++[x])=keepL p l++if p x then [] else [x]:=by
 rw [keepL,keepL,List.filter_append]
 cases hp:p x<;>simp [hp]
theorem Kept.add {p:Pace} {all kept r:List Use} {x:Use} (h:Kept p all kept) (ha:addUse p kept x=(r,0)):Kept p (all++[x]) r:=by
 obtain ⟨h1,h2,h3,h4,h5,h6,rfl⟩:=add_of ha
 have hp:=rightP h1
 have hl:∀ v,all.getLast?=some v->v.time<=x.time:=fun v hv=>by
  unfold lastLate at h4
  rw [h.last,hv] at h4
  simpa using h4
 have hx:=(rightU h3).2 x (by simp)
 have hrec:recentP p kept x.time=recentP p all x.time:=h.recn _ hl
 have hold:∀ t,old p t x=false\/t - p.ticks>=x.time:=fun t=>by unfold old;by_cases h:x.time<=t - p.ticks<;>simp [h]
 have hx0:old p x.time x=false:=by unfold old;simp;omega
 refine ⟨fun u hu v hv=>?_,by simp,fun t ht=>?_,fun i u hi=>?_,fun u hu=>?_⟩
 ·have hv':v=x:=by simpa using hv.symm
  subst hv'
  rcases List.mem_append.1 hu with hu|hu
  ·cases hg:all.getLast? with
   |none=>rw [List.getLast?_eq_none_iff] at hg;subst hg;simp at hu
   |some w=>have:=h.times u hu w hg;have:=hl w hg;omega
  ·have:u=v:=by simpa using hu
   subst this;omega
 ·have htx:x.time<=t:=ht x (by simp)
  unfold recentP
  rw [keep_snoc,keep_snoc]
  congr 1
  show keepL (old p t) (recentP p kept x.time)=keepL (old p t) all
  rw [hrec]
  unfold recentP keepL
  rw [List.filter_filter]
  apply List.filter_congr
  intro u _
  unfold old
  by_cases h1:u.time<=t - p.ticks
  ·simp [h1]
  ·have:¬u.time<=x.time - p.ticks:=by omega
   simp [h1,this]
 ·by_cases hi':i < all.length
  ·rw [List.getElem?_append_left hi'] at hi
   rw [List.take_append_of_le_length (by omega)]
   exact h.good i u hi
  ·have hlt:=(List.getElem?_eq_some_iff.1 hi).1
   simp at hlt
   obtain rfl:i=all.length:=by omega
   have hux:u=x:=by simpa using hi.symm
   subst hux
   rw [List.take_of_length_le (by simp)]
   unfold recentP at *
   rw [keep_snoc,hx0,<-hrec]
   simp only [Bool.false_eq_true,if_false,List.length_append,List.length_singleton,sumU_snoc]
   omega
 ·rcases List.mem_append.1 hu with hu|hu
  ·exact h.bound u hu
  ·have:u=x:=by simpa using hu
   subst this;exact hx
end Go.Proofs.Ytegepioggeggaaa.Dev
namespace Go.Proofs.Ytegepioggeggaaa.Dev
def wrongC (c:Card):Int:=
 if c.money < -1000000000000\/c.money > 1000000000000\/c.held < 0\/c.held > 1000000000000 then 3 else if wrongP c.pace≠0 then wrongP c.pace else (usesF c.uses).err
def noC:Card:=⟨0,0,⟨0,0,0⟩,[]⟩
def allowC (c:Card) (n time:Int):Card×Int:=
 if wrongC c≠0 then (noC,wrongC c)
 else if n < 1\/n > 1000000\/time < 0\/time > 1000000 then (noC,3)
 else if c.held+n > c.money then (noC,10)
 else if (addUse c.pace c.uses ⟨time,n⟩).2≠0 then (noC,(addUse c.pace c.uses ⟨time,n⟩).2)
 else (⟨c.money,c.held+n,c.pace,(addUse c.pace c.uses ⟨time,n⟩).1⟩,0)
def forceC (c:Card) (n:Int):Card×Int:=
 if wrongC c≠0 then (noC,wrongC c)
 else if n < 1\/n > 1000000\/c.held+n > 1000000000000 then (noC,3)
 else (⟨c.money,c.held+n,c.pace,c.uses⟩,0)
def shiftC (c:Card) (held money:Int):Card×Int:=
 if wrongC c≠0 then (noC,wrongC c)
 else if held < -1000000000000\/held > 1000000000000\/money < -1000000000000\/money > 1000000000000 then (noC,3)
 else if wrongC ⟨c.money+money,c.held+held,c.pace,c.uses⟩≠0 then (noC,10)
 else (⟨c.money+money,c.held+held,c.pace,c.uses⟩,0)
theorem rightC {c:Card} (h:wrongC c=0):-1000000000000<=c.money/\c.money<=1000000000000/\0<=c.held/\c.held<=1000000000000/\wrongP c.pace=0/\(usesF c.uses).err=0:=by
 unfold wrongC at h
 split at h
 ·cases h
 ·split at h
  ·omega
  ·omega
theorem rightC' {c:Card} (h:-1000000000000<=c.money/\c.money<=1000000000000/\0<=c.held/\c.held<=1000000000000) (h1:wrongP c.pace=0) (h2:(usesF c.uses).err=0):wrongC c=0:=by
 unfold wrongC
 rw [if_neg (by omega),if_neg (by omega),h2]
theorem rightC_len {c:Card} (h:wrongC c=0):c.uses.length<=30:=(rightU (rightC h).2.2.2.2.2).1
theorem shift_of {c x:Card} {a m e:Int} (h:shiftC c a m=(x,e)):(e≠0/\x=noC/\(e=3->wrongC c=0->(a < -1000000000000\/a > 1000000000000\/m < -1000000000000\/m > 1000000000000)))\/(e=0/\wrongC c=0/\-1000000000000<=a/\a<=1000000000000/\-1000000000000<=m/\m<=1000000000000/\x=⟨c.money+m,c.held+a,c.pace,c.uses⟩/\wrongC x=0):=by
 unfold shiftC at h
 split at h
 ·rename_i h1;simp only [Prod.mk.injEq] at h;exact .inl ⟨h.2▸h1,h.1.symm,fun _ h3=>absurd h3 h1⟩
 split at h
 ·rename_i h1;simp only [Prod.mk.injEq] at h;exact .inl ⟨by omega,h.1.symm,fun _ _=>h1⟩
 split at h
 ·simp only [Prod.mk.injEq] at h;exact .inl ⟨by omega,h.1.symm,fun h3=>by omega⟩
 ·rename_i h1 h2 h3
  simp only [Prod.mk.injEq] at h
  obtain ⟨rfl,rfl⟩:=h
  exact .inr ⟨rfl,by omega,by omega,by omega,by omega,by omega,rfl,by omega⟩
theorem allow_of {c x:Card} {n t e:Int} (h:allowC c n t=(x,e)):(e≠0/\x=noC/\(e=10->wrongC c=0->c.held+n > c.money\/(addUse c.pace c.uses ⟨t,n⟩).2=10))\/(e=0/\wrongC c=0/\1<=n/\n<=1000000/\0<=t/\t<=1000000/\c.held+n<=c.money/\∃ l,addUse c.pace c.uses ⟨t,n⟩=(l,0)/\x=⟨c.money,c.held+n,c.pace,l⟩):=by
 unfold allowC at h
 split at h
 ·rename_i h1;simp only [Prod.mk.injEq] at h;exact .inl ⟨h.2▸h1,h.1.symm,fun _ h3=>absurd h3 h1⟩
 split at h
 ·simp only [Prod.mk.injEq] at h;exact .inl ⟨by omega,h.1.symm,fun h3=>by omega⟩
 split at h
 ·rename_i h1;simp only [Prod.mk.injEq] at h;exact .inl ⟨by omega,h.1.symm,fun _ _=>.inl h1⟩
 split at h
 ·rename_i h1;simp only [Prod.mk.injEq] at h;exact .inl ⟨h.2▸h1,h.1.symm,fun h3 _=>.inr (h.2.trans h3)⟩
 ·rename_i h1 h2 h3 h4
  simp only [Prod.mk.injEq] at h
  refine .inr ⟨h.2.symm,by omega,by omega,by omega,by omega,by omega,by omega,_,Prod.ext rfl (by simpa using h4),h.1.symm⟩
end Go.Proofs.Ytegepioggeggaaa.Dev
namespace Go.Proofs.Ytegepioggeggaaa.Dev
end Go.Proofs.Ytegepioggeggaaa.Dev
namespace Go.Proofs.Ytegepioggeggaaa.Dev
theorem uses_pw {l:List Use}:(usesF l).err=0↔l.length<=30/\(∀ u∈l,0<=u.time/\u.time<=1000000/\0<=u.sum/\u.sum<=1000000)/\l.Pairwise fun a b=>a.time<=b.time:=by
 constructor
 ·intro h
  obtain ⟨h1,h2⟩:=uses_iff.1 h
  refine ⟨h1,(rightU h).2,?_⟩
  rw [List.pairwise_iff_getElem]
  have step:∀ i (hi:i+1 < l.length),l[i].time<=l[i+1].time:=fun i hi=>by
   have h3:=((uErr_iff (List.getElem?_eq_getElem hi)).1 (h2 (i+1) hi)).2 l[i] (by omega) (List.getElem?_eq_getElem (by omega))
   exact h3
  intro i j hi hj hij
  obtain ⟨k,rfl⟩:∃ k,j=i+1+k:=⟨j - i - 1,by omega⟩
  clear hij
  induction k with
  |zero=>exact step i hj
  |succ k ih=>
   have h4:=ih (by omega)
   have h5:=step (i+1+k) hj
   exact Int.le_trans h4 h5
 ·rintro ⟨h1,h2,h3⟩
  refine uses_iff.2 ⟨h1,fun i hi=>?_⟩
  refine (uErr_iff (List.getElem?_eq_getElem hi)).2 ⟨h2 _ (List.getElem_mem hi),fun v h0 hv=>?_⟩
  rw [List.pairwise_iff_getElem] at h3
  obtain ⟨h5,rfl⟩:=List.getElem?_eq_some_iff.1 hv
  exact h3 (i - 1) i h5 hi (by omega)
theorem add_right {p:Pace} {l r:List Use} {x:Use} (h:addUse p l x=(r,0)):(usesF r).err=0:=by
 obtain ⟨h1,h2,h3,h4,h5,h6,rfl⟩:=add_of h
 have hp:=rightP h1
 obtain ⟨h7,h8,h9⟩:=uses_pw.1 h2
 have hx:=(rightU h3).2 x (by simp)
 refine uses_pw.2 ⟨by rw [List.length_append,List.length_singleton];omega,fun u hu=>?_,?_⟩
 ·rcases List.mem_append.1 hu with hu|hu
  ·exact h8 u (mem_keep hu)
  ·have:u=x:=by simpa using hu
   subst this;exact hx
 ·rw [List.pairwise_append]
  refine ⟨List.Pairwise.filter _ h9,by simp,fun u hu v hv=>?_⟩
  have:v=x:=by simpa using hv
  subst this
  have hu':=mem_keep hu
  have hne:l≠[]:=by intro e;subst e;simp at hu'
  have hlast:(l.getLast hne).time<=v.time:=by
   unfold lastLate at h4
   rw [List.getLast?_eq_some_getLast hne] at h4
   simpa using h4
  refine Int.le_trans ?_ hlast
  obtain ⟨i,hi,rfl⟩:=List.mem_iff_getElem.1 hu'
  rw [List.getLast_eq_getElem]
  by_cases e:i=l.length - 1
  ·subst e;exact Int.le_refl _
  ·rw [List.pairwise_iff_getElem] at h9
   exact h9 i (l.length - 1) hi (by omega) (by omega)
end Go.Proofs.Ytegepioggeggaaa.Dev
namespace Go.Proofs.Ytegepioggeggaaa.Dev
end Go.Proofs.Ytegepioggeggaaa.Dev
namespace Go.Proofs.Ytegepioggeggaaa.Dev
def tErr (s:Sender) (q:Nat):Int:=
 match s.kept[q]? with
 |some t=>if t.kind < 1\/t.kind > 3 then 1 else if t.auth < 0\/t.auth > 29\/t.sum < 1\/t.sum > 1000000 then 3 else if t.number≠s.sent - s.kept.length+1+q then 2 else 0
 |none=>0
def wrongS (s:Sender):Int×Int:=
 if s.kept.length > 40 then (5,0) else if s.sent < s.kept.length\/s.sent > 1000000 then (3,0) else scan (tErr s) 0 s.kept.length
def wrongSF (s:Sender):Fault:=⟨(wrongS s).1,(wrongS s).2⟩
def noS:Sender:=⟨0,[]⟩
def outS (s:Sender) (t:Transfer):Sender:=⟨s.sent+1,s.kept++[⟨s.sent+1,t.kind,t.auth,t.sum⟩]⟩
def putS (s:Sender) (t:Transfer):Sender×Int:=
 if (wrongSF s).err≠0 then (noS,(wrongSF s).err)
 else if (wrongSF (outS s t)).err≠0 then (noS,(wrongSF (outS s t)).err) else (outS s t,0)
def came (seen:Int) (t:Transfer):Bool:=decide (t.number<=seen)
def backS (s:Sender) (seen:Int):Sender×Int:=
 if (wrongSF s).err≠0 then (noS,(wrongSF s).err)
 else if seen < 0\/seen > s.sent then (noS,3) else (⟨s.sent,keepL (came seen) s.kept⟩,0)
def takeS (seen:Int) (t:Transfer):Int×Bool:=
 if seen < 0\/seen>=1000000\/t.number≠seen+1 then (seen,false) else (seen+1,true)
theorem wrongS_iff {s:Sender}:(wrongSF s).err=0↔s.kept.length<=40/\(s.kept.length:Int)<=s.sent/\s.sent<=1000000/\∀ i,i < s.kept.length->tErr s i=0:=by
 unfold wrongSF wrongS
 dsimp only
 split
 ·constructor
  ·intro h;cases h
  ·intro h;omega
 ·split
  ·constructor
   ·intro h;cases h
   ·intro h;omega
  ·rw [scan_all]
   constructor
   ·exact fun h=>⟨by omega,by omega,by omega,fun i hi=>h i (Nat.zero_le _) (by omega)⟩
   ·exact fun h i _ hi=>h.2.2.2 i (by omega)
theorem tErr_iff {s:Sender} {q:Nat} {t:Transfer} (h:s.kept[q]?=some t):tErr s q=0↔1<=t.kind/\t.kind<=3/\0<=t.auth/\t.auth<=29/\1<=t.sum/\t.sum<=1000000/\t.number=s.sent - s.kept.length+1+q:=by
 unfold tErr
 rw [h]
 dsimp only
 split
 ·constructor
  ·intro h;cases h
  ·intro h;omega
 ·split
  ·constructor
   ·intro h;cases h
   ·intro h;omega
  ·split
   ·constructor
    ·intro h;cases h
    ·intro h;omega
   ·constructor
    ·intro _;omega
    ·intro _;rfl
theorem rightS {s:Sender} (h:(wrongSF s).err=0):s.kept.length<=40/\(s.kept.length:Int)<=s.sent/\s.sent<=1000000/\∀ (i:Nat) (t:Transfer),s.kept[i]?=some t->1<=t.kind/\t.kind<=3/\0<=t.auth/\t.auth<=29/\1<=t.sum/\t.sum<=1000000/\t.number=s.sent - s.kept.length+1+i:=by
 obtain ⟨h1,h2,h3,h4⟩:=wrongS_iff.1 h
 exact ⟨h1,h2,h3,fun i t ht=>(tErr_iff ht).1 (h4 i (List.getElem?_eq_some_iff.1 ht).1)⟩
theorem rightS' {s:Sender} (h1:s.kept.length<=40) (h2:(s.kept.length:Int)<=s.sent) (h3:s.sent<=1000000) (h4:∀ (i:Nat) (t:Transfer),s.kept[i]?=some t->1<=t.kind/\t.kind<=3/\0<=t.auth/\t.auth<=29/\1<=t.sum/\t.sum<=1000000/\t.number=s.sent - s.kept.length+1+i):(wrongSF s).err=0:=
 wrongS_iff.2 ⟨h1,h2,h3,fun i hi=>by
  have ht:s.kept[i]?=some s.kept[i]:=List.getElem?_eq_getElem hi
  exact (tErr_iff ht).2 (h4 i _ ht)⟩
theorem keep_came {s:Sender} (h:(wrongSF s).err=0) (seen:Int):keepL (came seen) s.kept=s.kept.drop (seen - (s.sent - s.kept.length)).toNat:=by
 obtain ⟨h1,h2,h3,h4⟩:=rightS h
 have gen:∀ (l:List Transfer) (a:Int),(∀ (i:Nat) (t:Transfer),l[i]?=some t->t.number=a+1+i)->keepL (came seen) l=l.drop (seen - a).toNat:=by
  intro l
  induction l with
  |nil=>intro a _;simp [keepL]
  |cons t l ih=>
   intro a ha
   have ht:=ha 0 t rfl
   have ih:=ih (a+1) fun i u hu=>by have:=ha (i+1) u (by simpa using hu);omega
   unfold keepL at ih ⊢
   rw [List.filter_cons]
   by_cases hs:t.number<=seen
   ·have h0:came seen t=true:=by simp [came,hs]
    rw [h0,if_neg (by simp),ih]
    have:(seen - a).toNat=(seen - (a+1)).toNat+1:=by omega
    rw [this,List.drop_succ_cons]
   ·have h0:came seen t=false:=by simp [came,hs]
    rw [h0,if_pos (by simp),ih]
    have h1:(seen - (a+1)).toNat=0:=by omega
    have h2:(seen - a).toNat=0:=by omega
    rw [h1,h2];rfl
 exact gen s.kept _ fun i t ht=>(h4 i t ht).2.2.2.2.2.2
end Go.Proofs.Ytegepioggeggaaa.Dev
namespace Go.Proofs.Ytegepioggeggaaa.Dev
theorem back_of {s x:Sender} {seen e:Int} (h:backS s seen=(x,e)):(e≠0/\x=noS)\/(e=0/\(wrongSF s).err=0/\0<=seen/\seen<=s.sent/\x=⟨s.sent,keepL (came seen) s.kept⟩):=by
 unfold backS at h
 split at h
 ·rename_i h1;simp only [Prod.mk.injEq] at h;exact .inl ⟨h.2▸h1,h.1.symm⟩
 split at h
 ·simp only [Prod.mk.injEq] at h;exact .inl ⟨by omega,h.1.symm⟩
 ·simp only [Prod.mk.injEq] at h;exact .inr ⟨h.2.symm,by omega,by omega,by omega,h.1.symm⟩
theorem back_right {s:Sender} {seen:Int} (h:(wrongSF s).err=0) (h0:0<=seen) (h1:seen<=s.sent):(wrongSF ⟨s.sent,keepL (came seen) s.kept⟩).err=0:=by
 obtain ⟨h2,h3,h4,h5⟩:=rightS h
 rw [keep_came h]
 generalize hd:(seen - (s.sent - s.kept.length)).toNat=d
 refine rightS' (by simp;omega) (by simp;omega) h4 fun i t ht=>?_
 rw [List.getElem?_drop] at ht
 have h6:=h5 (d+i) t ht
 have hlt:=(List.getElem?_eq_some_iff.1 ht).1
 simp only [List.length_drop]
 omega
end Go.Proofs.Ytegepioggeggaaa.Dev
namespace Go.Proofs.Ytegepioggeggaaa.Dev
open Go.RowKit
theorem GOp.nilG {P:Program} {o:Oper} {st:AState} {nb:List (Nat×AB)} {E:List Nat} {cs cs':List CV} (i K:Nat) (g:GOp P o st (.v (.g cs)) nb E) (hc:cs[i]?=some cN) (he:cs.set i (cR K [])=cs'):GOp P o st (.v (.g cs')) nb E:=by
 subst he
 refine fun σ T a w C hn=>operMono (g σ T a w C hn) ?_
 rintro a w ⟨u,σ',T',h1,h2,vs,hv,hall⟩
 refine ⟨u,σ',T',h1,h2,vs,hv,?_⟩
 obtain ⟨v,hv',hr⟩:=hall.get hc
 have hnil:v=.slice none 0 0:=DRel.inv hr
 have hs:=hall.set (x:=cR K []) (y:=v) (by rw [hnil];exact DRel.nil K none 0) i
 have e:vs.set i v=vs:=by
  apply List.ext_getElem?
  intro m
  rw [List.getElem?_set]
  split
  ·rename_i e;subst e
   split
   ·exact hv'.symm
   ·rename_i hlt;exact absurd (List.getElem?_eq_some_iff.1 hv').1 hlt
  ·rfl
 rwa [e] at hs
end Go.Proofs.Ytegepioggeggaaa.Dev
