/- A part of the proof: Sh17, Sh18, Sh21, Sh22, Sh23, Sh24, Sh25, Sh26, Sh27, Sh28, PlDel. No condition. -/
import Derived.Test.YtegepioggeggaaaD02
import Derived.Lib.AppendZerosOnto
import Derived.Lib.Overlaps
import Derived.OrdersIn
import Derived.RangeFuncFrom
set_option linter.unusedVariables false
set_option linter.unusedSimpArgs false
namespace Go.Proofs.Ytegepioggeggaaa.Dev
open Go.RowKit
section

theorem qV {P:Program} {w:World} {t e K:Nat} {A:Option Addr} {len cap:Nat} (hu:P.underlying t=some (.slice e)) (hz:(P.info? e).map (·.size)=some K) (lo hi mx:Option Value) (l h m:Nat) (hlo:(lo=none/\l=0)\/lo=some (.int .i64 l)) (hhi:(hi=none/\h=len/\mx=none)\/hi=some (.int .i64 h)) (hmx:(mx=none/\m=cap)\/mx=some (.int .i64 m)) (h1:l<=h) (h2:h<=m) (h3:m<=cap):
  (Instr.sliceAt t (.slice A len cap) lo hi mx).run P w=.ok (.slice (if m=l then A else A.map (·.add (l * K))) (h - l) (m - l)) w:=by
 cases hq:P.info? e with
 |none=>simp [hq] at hz
 |some ii=>
  have hs:ii.size=K:=by simpa [hq] using hz
  have h4:¬((m:Int) < (l:Int)):=by omega
  have h5:l<=m:=by omega
  rcases hhi with ⟨rfl,rfl,rfl⟩|rfl
  ·rcases hmx with ⟨_,rfl⟩|hm
   ·rcases hlo with ⟨rfl,rfl⟩|rfl
    all_goals simp [Instr.sliceAt,run_underlying hu,Instr.slice,Instr.sliceBounds,Instr.sliceBound,asIntOf,sizeOf,typeInfo,hq,hs,h1]
    all_goals try omega
   ·cases hm
  ·rcases hlo with ⟨rfl,rfl⟩|rfl<;>rcases hmx with ⟨rfl,rfl⟩|rfl
   all_goals simp [Instr.sliceAt,run_underlying hu,Instr.slice,Instr.sliceBounds,Instr.sliceBound,asIntOf,sizeOf,typeInfo,hq,hs,h1,h2,h3]
   all_goals try omega
section
variable {P:Program} {st:aF} {o:Oper}
theorem fS {t e K k i n c c':Nat} {E E':Bool} {x:Operand} {lo hi mx:Option Operand} {l h m n':Nat} (ho:o.op=.slice t x lo hi mx) (hu:P.underlying t=some (.slice e)) (hz:(P.info? e).map (·.size)=some K) (hx:ev st x (.v (.c (.sx k i K n c E))))
  (hlo:(lo=none/\l=0)\/∃ x,lo=some x/\ev st x (.v (.c (.d (.v (.int .i64 l)))))) (hhi:(hi=none/\h=n/\mx=none)\/∃ x,hi=some x/\ev st x (.v (.c (.d (.v (.int .i64 h))))))
  (hmx:(mx=none/\m=c)\/∃ x,mx=some x/\ev st x (.v (.c (.d (.v (.int .i64 m)))))) (h1:l<=h) (h2:h<=m) (h3:m<=c) (hn:h - l=n') (hc:m - l=c') (hE:E'=true->E=true/\m=c):aK P o st (.v (.c (.sx k (i+l) K n' c' E'))) [] []:=
 aK.val fun σ T ac w C=>by
  obtain ⟨g,off,hg,hv,ho1,h4,h5,h6,h7⟩:=bO C hx
  subst hn hc
  have:=qV (P:=P) (w:=w) (A:=some ⟨g.g,off,none⟩) (len:=n) (cap:=c) hu hz (lo.map ac.eval) (hi.map ac.eval) (mx.map ac.eval) l h m
   (by rcases hlo with ⟨rfl,rfl⟩|⟨y,rfl,hy⟩;exact .inl ⟨rfl,rfl⟩;exact .inr (by rw [Option.map_some,bl.inv (bO C hy)]))
   (by rcases hhi with ⟨rfl,rfl,rfl⟩|⟨y,rfl,hy⟩;exact .inl ⟨rfl,rfl,rfl⟩;exact .inr (by rw [Option.map_some,bl.inv (bO C hy)]))
   (by rcases hmx with ⟨rfl,rfl⟩|⟨y,rfl,hy⟩;exact .inl ⟨rfl,rfl⟩;exact .inr (by rw [Option.map_some,bl.inv (bO C hy)])) h1 h2 h3
  refine ⟨.slice (if m=l then some ⟨g.g,off,none⟩ else some ⟨g.g,off+l * K,none⟩) (h - l) (m - l),?_,g,if m=l then off else off+l * K,hg,?_,?_,by omega,by omega,fun e=>?_,h7⟩
  ·unfold execOp
   simp only [ho,hv,Sem.run_bind,this,Result.andThen_ok,Option.map_some,Addr.add_lit]
   rfl
  ·split<;>rfl
  ·by_cases hml:m=l
   ·exact .inr (by omega)
   ·rw [if_neg hml]
    rcases ho1 with rfl|h0
    ·exact .inl (by rw [Nat.add_mul])
    ·omega
  ·obtain ⟨h8,h9⟩:=hE e
   have:=h6 h8
   omega
theorem Et {x:Operand} {cl:Call} {t e k i K n c:Nat} {E:Bool} (hu:P.underlying t=some (.slice e)) (ho:o.op=.call cl) (hc:cl.callee=.builtin .cap) (ha:cl.args=#[x]) (hat:cl.argTypes=#[t]) (hx:ev st x (.v (.c (.sx k i K n c E)))):aK P o st (.v (.c (.d (.v (.int .i64 c))))) [] []:=
 aK.val fun σ T ac w C=>by
  obtain ⟨g,off,hg,hv,_⟩:=bO C hx
  refine ⟨_,?_,bl.v _ rfl⟩
  unfold execOp
  simp [ho,resolve,hc,ha,hat,invoke,builtin,hv,Builtin.cap_,run_underlying hu,goInt]
theorem Er {x:Operand} {cl:Call} {t e k i K n c:Nat} {E:Bool} (hu:P.underlying t=some (.slice e)) (ho:o.op=.call cl) (hc:cl.callee=.builtin .len) (ha:cl.args=#[x]) (hat:cl.argTypes=#[t]) (hx:ev st x (.v (.c (.sx k i K n c E)))):aK P o st (.v (.c (.d (.v (.int .i64 n))))) [] []:=
 aK.val fun σ T ac w C=>by
  obtain ⟨g,off,hg,hv,_⟩:=bO C hx
  refine ⟨_,?_,bl.v _ rfl⟩
  unfold execOp
  simp [ho,resolve,hc,ha,hat,invoke,builtin,hv,Builtin.len_,run_underlying hu,goInt]
inductive qG (st:aF):AV->Nat->Nat->Nat->List (List D)->Prop
 |d {K len m:Nat} {rows ys:List (List D)} (hl:rows.length=len) (hm:m<=len) (he:rows.take m=ys):qG st (.v (.c (.d (.r K rows)))) K len m ys
 |s {k i t K len m:Nat} {rows ys:List (List D)} (h:look st.h k=some (.arr t K rows)) (hm:m<=len) (hi:i+m<=rows.length) (he:(rows.drop i).take m=ys):qG st (.v (.c (.s k i K len))) K len m ys
 |x {k i t K len m c:Nat} {E:Bool} {rows ys:List (List D)} (h:look st.h k=some (.arr t K rows)) (hm:m<=len) (hi:i+m<=rows.length) (he:(rows.drop i).take m=ys):qG st (.v (.c (.sx k i K len c E))) K len m ys
theorem qG.read {σ:Nat->Option bK} {T:Nat->Prop} {a:Act} {w:World} (C:Core σ T st a w) {v:AV} {K len m:Nat} {ys:List (List D)} (h:qG st v K len m ys) (hK:0 < K) (hm0:0 < m\/∃ k i c E,v=.v (.c (.sx k i K len c E))) {x:Value} (hx:ep σ T w v x):
  ys.length=m/\∃ b off c vs,x=.slice (some ⟨b,off,none⟩) len c/\Flat T w K ys ⟨b,off,none⟩ vs:=by
 cases h with
 |@d _ _ _ rows _ hl hm he=>
  subst he
  refine ⟨by rw [List.length_take];omega,?_⟩
  have hx:bl T w (.r K rows) x:=hx
  obtain hm0:0 < m:=hm0.resolve_right (fun ⟨_,_,_,_,h⟩=>by cases h)
  cases hx with
  |nil=>simp at hl;omega
  |r K rows b off c cs hb hT hc hmx hKr eJ hd=>
   obtain ⟨vs,hf⟩:=sC (T:=T) (w:=w) (rows:=rows.take m) hK cs (fun i row hr=>hKr i row (by rw [List.getElem?_take] at hr;split at hr;exact hr;cases hr)) (fun i row j d hr hj=>by
    rw [List.getElem?_take] at hr
    split at hr
    ·exact ⟨eJ i row j d hr hj,hd i row j d hr hj⟩
    ·cases hr)
   exact ⟨b,off,c,vs,by rw [hl],hf⟩
 |@s k i t _ _ _ rows _ hk hm hi he=>
  subst he
  refine ⟨by rw [List.length_take,List.length_drop];omega,?_⟩
  have hx:cL σ T w (.s k i K len) x:=hx
  obtain hm0:0 < m:=hm0.resolve_right (fun ⟨_,_,_,_,h⟩=>by cases h)
  rcases hx with ⟨h0,_⟩|⟨g,hg,hv,_⟩
  ·omega
  ·have hh:=C.heap k _ hk
   rw [hg] at hh
   obtain ⟨vs,hf⟩:=jk hh hi
   exact ⟨g.g,i * K,_,vs,hv,hf⟩
 |@x k i t _ _ _ c E rows _ hk hm hi he=>
  subst he
  refine ⟨by rw [List.length_take,List.length_drop];omega,?_⟩
  have hx:cL σ T w (.sx k i K len c E) x:=hx
  obtain ⟨g,off,hg,hv,ho1,h2,_⟩:=hx
  have hh:=C.heap k _ hk
  rw [hg] at hh
  obtain ⟨vs,hf⟩:=jk hh hi
  rcases ho1 with rfl|h0
  ·exact ⟨g.g,i * K,_,vs,hv,hf⟩
  ·obtain rfl:m=0:=by omega
   exact ⟨g.g,off,_,[],hv,by simp,⟨by simp,fun i row h=>by simp at h⟩,fun j u h=>by simp at h,fun u h=>by simp at h⟩
theorem zu {T:Nat->Prop} {w:World} {K:Nat} {rows:List (List D)} {vs:List Value} (h:Rows T w K rows vs) (j:Nat):Rows T w K (rows.drop j) (vs.drop (j * K)):=by
 refine ⟨?_,fun i row hi=>?_⟩
 ·rw [List.length_drop,List.length_drop,Nat.sub_mul];have:=h.1;omega
 ·rw [List.getElem?_drop] at hi
  obtain ⟨h1,h2⟩:=h.2 _ row hi
  refine ⟨h1,fun q d hq=>?_⟩
  obtain ⟨u,hu,hr⟩:=h2 q d hq
  refine ⟨u,?_,hr⟩
  rw [List.getElem?_drop,<-hu,Nat.add_mul,Nat.add_assoc]
theorem yc {T:Nat->Prop} {w:World} {K:Nat} {rows:List (List D)} {vs:List Value} (h:Rows T w K rows vs) {i:Nat} (hi:i<=rows.length):Rows T w K (rows.take i) (vs.take (i * K))/\(vs.take (i * K)).length=(rows.take i).length * K:=by
 have h1:i * K<=vs.length:=Nat.le_trans (Nat.mul_le_mul_right K hi) h.1
 refine ⟨sX (⟨?_,fun j row hj=>?_⟩:Rows T w K (rows.take i) vs) ?_,?_⟩
 ·exact Nat.le_trans (Nat.mul_le_mul_right K (by rw [List.length_take];omega)) h.1
 ·rw [List.getElem?_take] at hj
  split at hj
  ·exact h.2 j row hj
  ·cases hj
 ·rw [List.length_take,Nat.min_eq_left hi];exact Nat.le_refl _
 ·rw [List.length_take,List.length_take,Nat.min_eq_left hi,Nat.min_eq_left h1]
theorem wu {T:Nat->Prop} {w:World} {K:Nat} {rows ys:List (List D)} {vs ws:List Value} (h:Rows T w K rows vs) (h':Rows T w K ys ws) (hw:ws.length=ys.length * K) {i:Nat} (hi:i<=rows.length):
  Rows T w K (rows.take i++ys++rows.drop (i+ys.length)) (vs.take (i * K)++ws++vs.drop (i * K+ws.length)):=by
 obtain ⟨h1,h2⟩:=yc h hi
 refine jf (jf h1 h2 h') ?_ ?_
 ·rw [List.length_append,List.length_append,h2,hw,Nat.add_mul]
 ·have:=zu h (i+ys.length)
  rwa [Nat.add_mul,<-hw] at this
theorem nN {T:Nat->Prop} {w:World} {K:Nat} {ys:List (List D)} {b off:Nat} {vs:List Value} (hf:Flat T w K ys ⟨b,off,none⟩ vs):(loadCells ⟨b,off,none⟩ (ys.length * K)).run P w=.ok vs.toArray w:=by
 rw [<-hf.len]
 exact run_loadCells_list (P:=P) w ⟨b,off,none⟩ vs hf.cell
theorem tK {σ:Nat->Option bK} {T:Nat->Prop} {a:Act} {w:World} (C:Core σ T st a w) {e bt K k i:Nat} {rows ys:List (List D)} {g:bK} {b off:Nat} {vs:List Value} (hK:0 < K) (hg:σ k=some g) (hb:look st.h k=some (.arr bt K rows)) (hi:i<=rows.length) (bL:i+ys.length<=g.c) (hf:Flat T w K ys ⟨b,off,none⟩ vs):
  ∃ w',(storeCells ⟨g.g,i * K,none⟩ vs).run P w=.ok () w'/\Ext σ T w σ T w' [(k,.arr bt K (rows.take i++ys++rows.drop (i+ys.length)))] [k]:=by
 have hh:=C.heap k _ hb
 obtain ⟨_,hh'⟩:=hh
 rcases hh' with ⟨_,h⟩|⟨g',cs,e1,e2,e3,e4,e5,e6⟩
 ·rw [hg] at h;cases h
 rw [hg] at e1;injection e1 with e1;subst e1
 have hfit:i * K+vs.length<=cs.length:=by rw [hf.len,e4,<-Nat.add_mul];exact Nat.mul_le_mul_right _ bL
 have hst:=run_storeCells_at (P:=P) g.g (i * K) bt vs 0 cs.toArray w e3 (by simpa using hfit) hf.one
 refine ⟨w.setRow g.g (cs.take (i * K)++vs++cs.drop (i * K+vs.length)).toArray,by simpa using hst,Ext.write C hb hg rfl rfl rfl (setRow_size w _ _) (fun j hj=>setRow_other w g.g j _ hj) fun G=>?_⟩
 refine ⟨hK,.inr ⟨g,_,rfl,e2,setRow_heap w g.g _ _ bt (0,0) e3,?_,e5,wu (e6.grow G) (hf.oZ.grow G) hf.len hi⟩⟩
 rw [<-e4];simp only [List.length_append,List.length_take,List.length_drop];omega
theorem pf {x y:Operand} {cl:Call} {v:AV} {t e bt K bytes k i n c len m:Nat} {E:Bool} {rows ys rows':List (List D)} (hT:hO P t e K bytes) (ho:o.op=.call cl) (hc:cl.callee=.builtin .copy) (ha:cl.args=#[x,y]) (hat:cl.argTypes=#[t,t])
  (hx:ev st x (.v (.c (.sx k i K n c E)))) (hb:look st.h k=some (.arr bt K rows)) (hy:ev st y v) (hs:qG st v K len m ys) (hm:0 < m) (hmin:m=len/\len<=n\/m=n/\n<=len) (hi:i<=rows.length) (hr:rows.take i++ys++rows.drop (i+m)=rows'):
  aK P o st (.v (.c (.d (.v (.int .i64 m))))) [(k,.arr bt K rows')] [k]:=by
 intro σ T a w C _
 obtain ⟨g,off,hg,hv,ho1,h2,h3,_,h5⟩:=bO C hx
 obtain ⟨hyl,b,off2,c2,vs,hyv,hf⟩:=hs.read C hT.K0 (.inl hm) (bO C hy)
 obtain ⟨ii,z,hii,_,hsz,_⟩:=hT.i
 obtain rfl:off=i * K:=ho1.resolve_right (by omega)
 have hml:Nat.min len n=m:=by show min len n=m;omega
 obtain ⟨w',hst,hext⟩:=tK (P:=P) (e:=e) C hT.K0 hg hb hi (by omega) hf
 rw [hyl,hr] at hext
 refine gI (v:=.int .i64 m) (w':=w') ?_ ⟨_,σ,T,rfl,hext,bl.v _ rfl⟩
 have hld:=nN (P:=P) hf
 rw [hyl] at hld
 unfold execOp
 simp [ho,resolve,hc,ha,hat,invoke,builtin,hv,hyv,Builtin.copy_,run_underlying hT.u,Builtin.lenOf,Builtin.firstCells,sizeOf,typeInfo,hii,hsz,hml,hld,hst,goInt]
theorem Ds {x y:Operand} {cl:Call} {v:AV} {t e bt K bytes k i n c m N:Nat} {E:Bool} {rows ys rows':List (List D)} (hT:hO P t e K bytes) (ho:o.op=.call cl) (hc:cl.callee=.builtin .append) (ha:cl.args=#[x,y]) (hat:cl.argTypes=#[t,t])
  (hx:ev st x (.v (.c (.sx k i K n c E)))) (hb:look st.h k=some (.arr bt K rows)) (hy:ev st y v) (hs:qG st v K m m ys) (hm:0 < m\/∃ k i c E,v=.v (.c (.sx k i K m c E))) (hc0:0 < c) (hN:n+m=N) (hroom:N<=c) (hi:i+n<=rows.length) (hr:rows.take (i+n)++ys++rows.drop (i+n+m)=rows'):
  aK P o st (.v (.c (.sx k i K N c E))) [(k,.arr bt K rows')] [k]:=by
 intro σ T a w C _
 subst hN
 obtain ⟨g,off,hg,hv,ho1,h2,h3,h4,h5⟩:=bO C hx
 obtain ⟨hyl,b,off2,c2,vs,hyv,hf⟩:=hs.read C hT.K0 hm (bO C hy)
 obtain ⟨ii,z,hii,_,hsz,_⟩:=hT.i
 obtain rfl:off=i * K:=ho1.resolve_right (by omega)
 obtain ⟨w',hst,hext⟩:=tK (P:=P) (e:=e) C hT.K0 hg hb hi (by omega) hf
 rw [hyl,hr] at hext
 refine gI (v:=.slice (some ⟨g.g,i * K,none⟩) (n+m) c) (w':=w') ?_ ⟨_,σ,T,rfl,hext,⟨g,i * K,hg,rfl,.inl rfl,hroom,h3,h4,h5⟩⟩
 have hld:=nN (P:=P) hf
 rw [hyl] at hld
 rw [Nat.add_mul] at hst
 unfold execOp
 simp [ho,resolve,hc,ha,hat,invoke,builtin,hv,hyv,Builtin.append_,run_underlying hT.u,Builtin.lenOf,Builtin.firstCells,sizeOf,typeInfo,hii,hsz,hld,hroom,Addr.add_lit,hst]
end
end
section

section
variable {P:Program} {W0:World} {F:Nat->Prop} {N:NT} {T0:Nat->Prop} {pin:List (Nat×bK)} {Q:Exit->aF->Prop} {s:List (Nat×AV)} {h:List (Nat×AB)} {n:Nat}
theorem Inv.slot {a:Act} {w:World} {i:Nat} {v:AV} (hI:Inv W0 F N T0 pin ⟨s,h,n⟩ a w) (hv:∀ σ T,Core σ T ⟨s,h,n⟩ a w->ep σ T w v (a.tmps.getD i undef)):Inv W0 F N T0 pin ⟨(i,v)::s,h,n⟩ a w:=by
 obtain ⟨σ,T,hT,S,hp⟩:=hI
 refine ⟨σ,T,hT,⟨⟨fun j x hj=>?_,S.core.heap,S.core.inj,S.core.ef⟩,S.os,S.tape,S.output,S.size,S.cu,S.own,S.next,S.hn,S.iV,S.iA⟩,hp⟩
 have hj':look ((i,v)::s) j=some x:=hj
 rw [bD] at hj'
 split at hj'
 ·rename_i e;subst e;injection hj' with hj';subst hj'
  exact hv σ T S.core
 ·exact S.core.eD j x hj'
theorem sN {cd:Code} {k r K m:Nat} (i:Nat) (hs:look s i=some (.v (.c (.s k r K m)))) (hm:0 < m) (hk:∀ c,m<=c->c<=9223372036854775807->AC P W0 F N T0 pin Q cd ⟨(i,.v (.c (.sx k r K m c true)))::s,h,n⟩):AC P W0 F N T0 pin Q cd ⟨s,h,n⟩:=fun a w hI=>by
 obtain ⟨σ,T,hT,S,hp⟩:=hI
 have h1:cL σ T w (.s k r K m) (a.tmps.getD i undef):=S.core.eD i _ hs
 rcases h1 with ⟨h0,_⟩|⟨g,hg,hv,h2,h3⟩
 ·omega
 ·refine hk (g.c - r) (by omega) (by omega) a w ?_
  refine ⟨σ,T,hT,⟨⟨fun j x hj=>?_,S.core.heap,S.core.inj,S.core.ef⟩,S.os,S.tape,S.output,S.size,S.cu,S.own,S.next,S.hn,S.iV,S.iA⟩,hp⟩
  have hj':look ((i,AV.v (.c (.sx k r K m (g.c - r) true)))::s) j=some x:=hj
  rw [bD] at hj'
  split at hj'
  ·rename_i e;subst e;injection hj' with hj';subst hj'
   exact ⟨g,r * K,hg,hv,.inl rfl,by omega,by omega,fun _=>by omega,h3⟩
  ·exact S.core.eD j x hj'
theorem aD.CF {k r K m c:Nat} (i:Nat) (hs:look s i=some (.v (.c (.sx k r K m c true)))) (hc:0 < c):aD pin ⟨s,h,n⟩ ⟨(i,.v (.c (.s k r K m)))::s,h,n⟩:=fun W0 F N T0 a w hI=>
 hI.slot fun σ T C=>by
  obtain ⟨g,off,hg,hv,ho,h1,h2,h3,h4⟩:=C.eD i _ hs
  obtain rfl:off=r * K:=ho.resolve_right (by omega)
  have:=h3 rfl
  exact .inr ⟨g,hg,by rw [hv];congr 1;omega,by omega,h4⟩
end
section
variable {P:Program} {st:aF} {o:Oper}
theorem Grow.qM {σ σ':Nat->Option bK} {T T':Nat->Prop} {w w':World} {C:Nat->Prop} (G:Grow σ σ' T T' w.drew w' C):Grow σ σ' T T' w w' C:=⟨G.size,G.cu,G.CT,G.kQ,G.σle⟩
theorem Ext.qM {σ σ':Nat->Option bK} {T T':Nat->Prop} {w w':World} {nb:List (Nat×AB)} {E:List Nat} (X:Ext σ T w.drew σ' T' w' nb E):Ext σ T w σ' T' w' nb E:=⟨X.os,X.tape,X.output,X.grow.qM,X.lY,X.ef,X.xF,X.rel,X.fresh,X.inj⟩
theorem aK.GA {k:Nat} {b:AB} {av:AV}
  (h:∀ σ T a w,Core σ T st a w->σ k=none->∃ u ob c,(execOp a.eval o).run P w=.ok (.value u) (w.drew.alloc ob)/\cZ (nZ σ k ⟨w.heap.size,c⟩) (ke T w.heap.size) (w.drew.alloc ob) (some ⟨w.heap.size,c⟩) b/\ep (nZ σ k ⟨w.heap.size,c⟩) (ke T w.heap.size) (w.drew.alloc ob) av u):
  aK P o st av [(k,b)] []:=
 fun σ T a w C hk=>by
  have hk:=hk k b (List.mem_singleton.2 rfl) (by simp)
  obtain ⟨u,ob,c,hu,hr,hv⟩:=h σ T a w C hk
  exact gI hu ⟨u,_,_,rfl,Ext.qM (Ext.alloc (w:=w.drew) C.ef ob hk hr),hv⟩
theorem sW {T:Nat->Prop} {w:World} {z:Value} {K m:Nat} {zs:List Value} (hzs:z.cells.toList=zs) (hK:zs.length=K) (h1:zs.all (·.oneCell')=true):Rows T w K (List.replicate m (zs.map D.v)) (Builtin.zeroCells z.cells m).toList/\(Builtin.zeroCells z.cells m).toList.length=m * K:=by
 have hzc:z.cells.size=K:=by rw [<-hK,<-hzs];simp
 have hlen:(Builtin.zeroCells z.cells m).toList.length=m * K:=by simp [Builtin.zeroCells,hzc]
 refine ⟨⟨by rw [List.length_replicate,hlen];exact Nat.le_refl _,fun i row hi=>?_⟩,hlen⟩
 obtain ⟨hi1,rfl⟩:=List.getElem?_eq_some_iff.1 hi
 rw [List.length_replicate] at hi1
 rw [List.getElem_replicate]
 refine ⟨by rw [List.length_map,hK],fun j d hj=>?_⟩
 rw [List.getElem?_map,Option.map_eq_some_iff] at hj
 obtain ⟨u,hu,rfl⟩:=hj
 have hjK:j < K:=by rw [<-hK];exact (List.getElem?_eq_some_iff.1 hu).1
 have hlt:i * K+j < m * K:=by
  have:(i+1) * K<=m * K:=Nat.mul_le_mul_right _ hi1
  rw [Nat.add_mul] at this
  omega
 refine ⟨u,?_,.v u (List.all_eq_true.1 h1 u (List.mem_of_getElem? hu))⟩
 have hmod:(i * K+j) % K=j:=by rw [Nat.mul_comm,Nat.mul_add_mod,Nat.mod_eq_of_lt hjK]
 rw [List.getElem?_eq_getElem (by rw [hlen];exact hlt)]
 simp only [Builtin.zeroCells,Array.getElem_toList,Array.getElem_map,Array.getElem_range,hzc,hmod]
 congr 1
 rw [getElem!_pos z.cells j (by rw [hzc];exact hjK)]
 subst hzs
 rw [Array.getElem?_toList,Array.getElem?_eq_getElem (by rw [hzc];exact hjK)] at hu
 exact Option.some.inj hu
theorem Eu {x y:Operand} {cl:Call} {t tn e bt K bytes k n c m N:Nat} {E:Bool} {kn:IntKind} {z:Value} {zs:List Value} {rows rows':List (List D)} (k2:Nat) (hT:hO P t e K bytes) (hz:(P.info? e).bind (fun i=>i.zero)=some z) (hzs:z.cells.toList=zs) (h1:zs.all (·.oneCell')=true) (htn:P.underlying tn=some (.int kn))
  (ho:o.op=.call cl) (hc:cl.callee=.builtin .append) (ha:cl.args=#[x,y]) (hat:cl.argTypes=#[t,tn]) (hx:ev st x (.v (.c (.sx k 0 K n c E)))) (hb:look st.h k=some (.arr bt K rows)) (hy:ev st y (.v (.c (.d (.v (.int .i64 m)))))) (hm:0 < m) (hN:n+m=N) (hroom:c < N) (hn:n<=rows.length) (h63:N<=9223372036854775807) (hby:N * bytes<=140737488355328)
  (hr:rows.take n++List.replicate m (zs.map D.v)=rows'):aK P o st (.v (.c (.s k2 0 K N))) [(k2,.arr e K rows')] []:=
 aK.GA fun σ T ac w C hk=>by
  subst hN hr
  obtain ⟨g,off,hg,hv,ho1,h2,h3,h4,h5⟩:=bO C hx
  have hyv:=bl.inv (bO C hy)
  obtain ⟨ii,z',hii,hzz,hsz,hbb,hzc⟩:=hT.i
  have hz':z'=z:=by simpa [hii,hzz] using hz
  subst hz'
  have hzl:zs.length=K:=by rw [<-hzs];simpa using hzc
  have hh:=C.heap k _ hb
  rw [hg] at hh
  obtain ⟨vs,hf⟩:∃ vs,Flat T w K (rows.take n) ⟨g.g,off,none⟩ vs:=by
   by_cases h0:n=0
   ·subst h0
    exact ⟨[],by simp,⟨by simp,fun i row h=>by simp at h⟩,fun j u h=>by simp at h,fun u h=>by simp at h⟩
   ·obtain rfl:off=0 * K:=ho1.resolve_right (by omega)
    have:=jk (i:=0) (n:=n) hh (by omega)
    rwa [List.drop_zero] at this
  have hlen:(rows.take n).length=n:=by rw [List.length_take];omega
  have hfc:∀ j u,vs[j]?=some u->w.drew.cell? ((⟨g.g,off,none⟩:Addr).add j)=some u:=hf.cell
  have hvl:vs.length=n * ii.size:=by rw [hf.len,hlen,hsz]
  have hold:(Builtin.firstCells ii.size n (.slice (some ⟨g.g,off,none⟩) n c)).run P w.drew=.ok vs.toArray w.drew:=by
   have:=run_loadCells_list (P:=P) w.drew ⟨g.g,off,none⟩ vs hfc
   rw [hvl] at this
   exact this
  have hrun:=Lib.run_append_grow_zeros (P:=P) w t tn o.type e ii z' .i64 kn hT.u htn hii hzz (some ⟨g.g,off,none⟩) n c vs hold m hm (by rw [hsz];exact hT.K0) hroom (by omega) (by rw [hbb];have:m * bytes<=(n+m) * bytes:=Nat.mul_le_mul_right _ (by omega);omega) (growslice_fits hroom (by rw [hbb];exact hby))
  have hge:=grownCap_ge w (n+m) c e
  have hle:=grownCap_le_maxLen w (n+m) c e (by simp only [maxLen];omega)
  simp only [maxLen] at hle
  obtain ⟨hzr,hzl2⟩:=sW (T:=T) (w:=w) (m:=m) hzs hzl h1
  obtain ⟨hzr3,hzl3⟩:=sW (T:=T) (w:=w) (m:=grownCap w (n+m) c e - (n+m)) hzs hzl h1
  refine ⟨.slice (some ⟨w.heap.size,0,none⟩) (n+m) (grownCap w (n+m) c e),.cells (vs++(Builtin.zeroCells z'.cells m).toList++(Builtin.zeroCells z'.cells (grownCap w (n+m) c e - (n+m))).toList).toArray e,grownCap w (n+m) c e,?_,?_,.inr ⟨_,fR _ _ _,?_,?_,?_⟩⟩
  ·unfold execOp
   have e1:(vs.toArray++Builtin.zeroCells z'.cells m++Builtin.zeroCells z'.cells (grownCap w (n+m) c e - (n+m)))=(vs++(Builtin.zeroCells z'.cells m).toList++(Builtin.zeroCells z'.cells (grownCap w (n+m) c e - (n+m))).toList).toArray:=by simp
   rw [e1] at hrun
   simp [ho,resolve,hc,ha,hat,invoke,builtin,hv,hyv,hrun]
  ·refine ⟨hT.K0,.inr ⟨_,_,rfl,.inr rfl,heap_alloc_new w _,?_,by show grownCap w (n+m) c e<=_;omega,?_⟩⟩
   ·rw [List.length_append,List.length_append,hzl2,hzl3,hf.len,hlen,<-Nat.add_mul,<-Nat.add_mul]
    show (n+m+(grownCap w (n+m) c e - (n+m))) * K=grownCap w (n+m) c e * K
    congr 1;omega
   ·have G:=Grow.qM (w:=w) (Grow.alloc (w:=w.drew) (T:=T) (k:=k2) (c:=grownCap w (n+m) c e) hk (.cells (vs++(Builtin.zeroCells z'.cells m).toList++(Builtin.zeroCells z'.cells (grownCap w (n+m) c e - (n+m))).toList).toArray e) (fun _=>False) fun _ h=>h.elim)
    have h6:=jf hf.oZ hf.len hzr
    refine oo (m:=n * K+m * K) ?_
    have hl:(vs++(Builtin.zeroCells z'.cells m).toList).length=n * K+m * K:=by rw [List.length_append,hzl2,hf.len,hlen]
    rw [List.take_append_of_le_length (Nat.le_of_eq hl.symm),List.take_of_length_le (Nat.le_of_eq hl)]
    exact h6.grow G
  ·rw [Nat.zero_mul,Nat.sub_zero]
  ·show 0+(n+m)<=grownCap w (n+m) c e;omega
  ·show grownCap w (n+m) c e<=_;omega
theorem vx {t e K k i n:Nat} {x:Operand} {lo hi mx:Option Operand} {l h:Nat} (ho:o.op=.slice t x lo hi mx) (hu:P.underlying t=some (.slice e)) (hz:(P.info? e).map (·.size)=some K) (hx:ev st x (.v (.c (.s k i K n))))
  (hlo:(lo=none/\l=0)\/∃ x,lo=some x/\ev st x (.v (.c (.d (.v (.int .i64 l)))))) (hhi:(hi=none/\h=n/\mx=none)\/∃ x,hi=some x/\ev st x (.v (.c (.d (.v (.int .i64 h))))))
  (hmx:mx=none\/∃ x m,mx=some x/\ev st x (.v (.c (.d (.v (.int .i64 (m:Nat))))))/\h<=m/\m<=n) (h1:l<=h) (h2:h<=n):aK P o st (.v (.c .any)) [] []:=
 aK.val fun σ T ac w C=>by
  have key:∀ A c,n<=c->ac.eval x=.slice A n c->∃ u,(execOp ac.eval o).run P w=.ok (.value u) w:=by
   intro A c hc hA
   obtain ⟨m,hm,hm1,hm2⟩:∃ m:Nat,((mx.map ac.eval=none/\m=c)\/mx.map ac.eval=some (.int .i64 m))/\h<=m/\m<=c:=by
    rcases hmx with rfl|⟨y,m,rfl,hy,h3,h4⟩
    ·exact ⟨c,.inl ⟨rfl,rfl⟩,by omega,Nat.le_refl _⟩
    ·exact ⟨m,.inr (by rw [Option.map_some,bl.inv (bO C hy)]),h3,by omega⟩
   have:=qV (P:=P) (w:=w) (A:=A) (len:=n) (cap:=c) hu hz (lo.map ac.eval) (hi.map ac.eval) (mx.map ac.eval) l h m
    (by rcases hlo with ⟨rfl,rfl⟩|⟨y,rfl,hy⟩;exact .inl ⟨rfl,rfl⟩;exact .inr (by rw [Option.map_some,bl.inv (bO C hy)]))
    (by rcases hhi with ⟨rfl,rfl,rfl⟩|⟨y,rfl,hy⟩;exact .inl ⟨rfl,rfl,rfl⟩;exact .inr (by rw [Option.map_some,bl.inv (bO C hy)])) hm h1 hm1 hm2
   refine ⟨.slice (if m=l then A else A.map (·.add (l * K))) (h - l) (m - l),?_⟩
   unfold execOp
   simp only [ho,hA,Sem.run_bind,this,Result.andThen_ok]
   rfl
  have hv:cL σ T w (.s k i K n) _:=bO C hx
  rcases hv with ⟨h0,hv⟩|⟨g,hg,hv,hle,hmx⟩
  ·obtain ⟨u,hu⟩:=key none 0 (by omega) (by rw [hv,h0]);exact ⟨u,hu,trivial⟩
  ·obtain ⟨u,hu⟩:=key _ _ (by omega) hv;exact ⟨u,hu,trivial⟩
theorem yw {x y:Operand} {cl:Call} {f t tr e tA tB K bytes k1 k2 m i n c:Nat} {E:Bool} {fn:Func} {r1 r2:List (List D)} (hT:hO P t e K bytes) (hf:P.funcs[f]?=some fn) (hname:(fn.name== "runtime.NumGoroutine")=false) (hbn:fn.body.isNone=true) (hn:Extern.findNext fn=none) (he:Extern.find fn=some (Extern.SlicesOverlaps.overlaps #[t,t] #[tr]))
  (ho:o.op=.call cl) (hc:cl.callee=.value (.func f)) (ha:cl.args=#[x,y]) (hx:ev st x (.v (.c (.s k1 0 K m)))) (hm:0 < m) (hy:ev st y (.v (.c (.sx k2 i K n c E)))) (hc0:0 < c) (hb1:look st.h k1=some (.arr tA K r1)) (hb2:look st.h k2=some (.arr tB K r2)) (hk:k1≠k2):aK P o st (.v (.c (.d (.v (.bool false))))) [] []:=
 aK.val fun σ T ac w C=>by
  obtain ⟨g,off,hg,hv,ho1,h2,h3,h4,h5⟩:=bO C hy
  have hxv:cL σ T w (.s k1 0 K m) _:=bO C hx
  rcases hxv with ⟨h0,_⟩|⟨g1,hg1,hv1,h6,h7⟩
  ·omega
  obtain ⟨ii,z',hii,hzz,hsz,hbb,hzc⟩:=hT.i
  have hh1:=C.heap k1 _ hb1
  have hh2:=C.heap k2 _ hb2
  rw [hg1] at hh1;rw [hg] at hh2
  rcases hh1.2 with ⟨_,h⟩|⟨g',vs1,e1,_,e3,e4,_⟩
  ·cases h
  injection e1 with e1;subst e1
  rcases hh2.2 with ⟨_,h⟩|⟨g',vs2,e1,_,e3',e4',_⟩
  ·cases h
  injection e1 with e1;subst e1
  have hne:g1.g≠g.g:=fun e=>hk (C.inj k1 k2 _ _ g1 g hb1 hb2 hg1 hg e)
  have hK:=hT.K0
  have hpos:0 < vs2.length:=by rw [e4'];exact Nat.mul_pos (by omega) hK
  have hrun:=Lib.run_overlaps_apart (P:=P) w t tr e hT.u K (fun w=>by simp [sizeOf,typeInfo,hii,hsz]) ⟨g1.g,0 * K,none⟩ ⟨g.g,off,none⟩ m (g1.c - 0) n c hne tA tB vs1.length vs2.length (by simp [World.shape?,e3]) (by simp [World.shape?,e3']) (by omega) (by simp [World.frozen?,e3]) (by simp [World.frozen?,e3])
  refine ⟨.bool false,?_,bl.v _ rfl⟩
  have hcall:=run_callFunc_extern hf hname hbn hn he #[ac.eval x,ac.eval y] w
  rw [hv,hv1,hrun] at hcall
  have hargs:cl.args.map ac.eval=#[.slice (some ⟨g1.g,0 * K,none⟩) m (g1.c - 0),.slice (some ⟨g.g,off,none⟩) n c]:=by rw [ha];simp [hv,hv1]
  have hfe:ac.eval (.func f)=Value.func (.func f) #[] #[]:=rfl
  unfold execOp
  simp [ho,resolve,hc,hfe,Deferred.ofValue,invoke,hargs] at hcall ⊢
  simp [hcall]
end
end
section
section
variable {P:Program} {st:aF} {o:Oper}
inductive mO:AV->Prop
 |n:mO (.v (.c (.d (.v (.slice none 0 0)))))
 |d (K:Nat) (rows:List (List D)) (h:rows.length=0):mO (.v (.c (.d (.r K rows))))
 |s (k i K n:Nat) (h:n=0):mO (.v (.c (.s k i K n)))
 |x (k i K n c:Nat) (E:Bool) (h:n=0):mO (.v (.c (.sx k i K n c E)))
theorem mO.read {σ:Nat->Option bK} {T:Nat->Prop} {w:World} {v:AV} (h:mO v) {x:Value} (hx:ep σ T w v x):∃ A c,x=.slice A 0 c:=by
 cases h with
 |n=>exact ⟨_,_,bl.inv hx⟩
 |d K rows h=>
  have hx:bl T w (.r K rows) x:=hx
  cases hx with
  |nil A c=>exact ⟨_,_,rfl⟩
  |r=>exact ⟨_,_,by rw [h]⟩
 |s k i K n h=>
  subst h
  rcases hx with ⟨_,h⟩|⟨g,_,h,_⟩
  ·exact ⟨_,_,h⟩
  ·exact ⟨_,_,h⟩
 |x k i K n c E h=>
  subst h
  obtain ⟨g,off,_,h,_⟩:=hx
  exact ⟨_,_,h⟩
end
theorem iJ {l:List (Nat×AV)} {x k i K n n':Nat} (h:look l x=some (.v (.c (.s k i K n)))) (hn:n=n'):look l x=some (.v (.c (.s k i K n'))):=by rw [h,hn]
end
section
theorem mJ {a:Int}:Value.int .u8 (IntKind.u8.wrap a)=.int .u8 (a % 256):=by
 have:IntKind.u8.wrap a=a % 256:=by simp [IntKind.wrap,IntKind.bits,IntKind.signed]
 rw [this]
section
variable {P:Program} {st:aF} {o:Oper}
theorem El {xt yt:TypeId} {x y:Operand} {k:IntKind} {a b r:Int} (ho:o.op=.binOp .shr xt x y yt) (hx:ev st x (.v (.c (.d (.v (.int k a)))))) (hy:ev st y (.v (.c (.d (.v (.int .i64 b))))))
  (h0:0<=b/\b<=64) (hk:k=.i64) (hr:a / 2 ^ b.toNat=r):aK P o st (.v (.c (.d (.v (.int k r))))) [] []:=
 aK.val fun σ T ac w C=>by
  have h1:=bl.inv (bO C hx)
  have h2:=bl.inv (bO C hy)
  subst hr hk
  refine ⟨_,?_,bl.v _ rfl⟩
  unfold execOp
  have h3:=shift_shr .i64 .i64 a b h0.1 (by simpa [IntKind.bits] using h0.2)
  simp [ho,h1,h2,binOp,eqGuard,h3]
end
end
section
def jX:Op->Bool
 |.defer _=>true
 |_=>false
theorem wv {n l:Nat} {P:Program} {row:String} {args:Array Value} {w:World} {R:Value->World->Prop} (h:Go.Rows P row args w R):RowsIn (Fence.wide.inRound l) n P row args w R:=fun c cs _=>by
 obtain ⟨v,w',h1,h2⟩:=h c cs
 exact ⟨v,w',h1,stepsIn_wide.2 h2⟩
section
variable {P:Program} {l n:Nat}
theorem DW {o:Oper} {a:Go.Act} {w:World} {K:Go.Act->World->Prop} {Q:Exit->Go.Act->World->Prop} (hd:jX o.op=false) (hQ:¬LetsOut Q) (h:o.wp P a w K Q\/(o.asks P a w/\LetsOut Q)):o.wpIn (Fence.wide.inRound l) n P a w K Q:=by
 have h:=h.resolve_right fun h=>hQ h.2
 have hd':∀ c,o.op≠.defer c:=fun c hc=>by rw [hc] at hd;cases hd
 refine ⟨fun f _=>trivial,?_⟩
 rw [Fence.inRound_round,Oper.semAt_some l _ o hd']
 unfold Oper.wp at h
 generalize (execOp a.eval o).run P w=r at h
 cases r with
 |ok x w'=>
  cases x<;>simp only [Oper.upon,Oper.uponIn] at h ⊢<;>
   first
    |exact h
    |exact h.elim
    |exact ⟨fun h=>(by cases h),callsIn_wide.2 h⟩
    |exact ⟨fun h=>(by cases h),wv h⟩
 |halt x w'=>cases x<;>simp only [Oper.upon,Oper.uponIn] at h ⊢<;>exact h
theorem sO {ops:Array Oper} {Q:Exit->Go.Act->World->Prop} (hQ:¬LetsOut Q):∀ (k:List Oper) (a:Go.Act) (w:World),(k.all fun o=>!jX o.op)=true->wpList P ops Q k a w->wpListIn (Fence.wide.inRound l) n P ops Q k a w
 |[],a,w,_,h=>h
 |o::k,a,w,hd,h=>by
  simp only [List.all_cons,Bool.and_eq_true,Bool.not_eq_true'] at hd
  have ih:=sO (ops:=ops) hQ k
  unfold wpList at h
  unfold wpListIn
  split at h
  ·rename_i hw
   rw [if_pos hw]
   exact DW hd.1 hQ (h.imp (fun h=>ib h fun a w hk=>ih a w hd.2 hk) id)
  ·rename_i hw
   rw [if_neg hw]
   exact ⟨fun _ _=>trivial,ih _ _ hd.2 h⟩
theorem Da {ops:Array Oper} {Q:Exit->Go.Act->World->Prop} (hQ:¬LetsOut Q) (hd:(ops.toList.all fun o=>!jX o.op)=true) {i:Nat} {K K':Go.Act->World->Prop} {a:Go.Act} {w:World} (hK:∀ a w,K a w->K' a w) (h:wpOp P ops Q i K a w):wpOpIn (Fence.wide.inRound l) n P ops Q i K' a w:=by
 unfold wpOp at h
 unfold wpOpIn
 cases ho:ops[i]? with
 |none=>simp only [ho] at h ⊢;exact hK _ _ h
 |some o=>
  simp only [ho] at h ⊢
  have hdo:jX o.op=false:=by
   have:=List.all_eq_true.1 hd o (Array.mem_toList_iff.2 (Array.mem_of_getElem? ho))
   simpa using this
  split
  ·rename_i hw
   simp only [hw,if_true] at h
   exact DW hdo hQ (h.imp (fun h=>ib h hK) id)
  ·rename_i hw
   simp only [hw] at h
   exact ⟨fun _ _=>trivial,hK _ _ h⟩
theorem uv {md:Region.Mode} {ops:Array Oper} {Q:Exit->Go.Act->World->Prop} (hQ:¬LetsOut Q) (hd:(ops.toList.all fun o=>!jX o.op)=true):∀ (fuel:Nat) (listed:Array Bool) (a:Go.Act) (w:World),wpAny P md ops Q fuel listed a w->wpAnyIn (Fence.wide.inRound l) n P md ops Q fuel listed a w
 |0,_,_,_,h=>h
 |fuel+1,listed,a,w,h=>by
  unfold wpAny at h
  unfold wpAnyIn
  exact ⟨h.1,fun i hi=>Da hQ hd (fun a w hk=>uv hQ hd fuel _ a w hk) (h.2 i hi)⟩
end
section
variable {P:Program} {l n:Nat} {W0:World} {F:Nat->Prop} {N:NT} {T0:Nat->Prop} {pin:List (Nat×bK)} {Q:Exit->aF->Prop} {st:aF}
def ma (P:Program) (l n:Nat) (W0:World) (F:Nat->Prop) (N:NT) (T0:Nat->Prop) (pin:List (Nat×bK)) (Q:Exit->aF->Prop) (c:Code) (st:aF):Prop:=
 (∀ st,¬Q .outgrown st)->∀ a w,Inv W0 F N T0 pin st a w->c.wpIn (Fence.wide.inRound l) n P (QX W0 F N T0 pin Q) a w
theorem zF (hq:∀ st,¬Q .outgrown st):¬LetsOut (QX W0 F N T0 pin Q):=fun ⟨_,_,st,h,_⟩=>hq st h
theorem Hr {x y:Code} (h:ma P l n W0 F N T0 pin (iv (ma P l n W0 F N T0 pin Q y) Q) x st):ma P l n W0 F N T0 pin Q (.seq x y) st:=fun hq a w hI=>
 wpIn_seq (Code.wpIn_mono (fun e a w q=>by
  obtain ⟨st',hq',hi⟩:=q
  cases e<;>first|exact hq' hq a w hi|exact ⟨st',hq',hi⟩) (h hq a w hI))
theorem Gn {id:Nat} {c:Code} (h:ma P l n W0 F N T0 pin (im id Q) c st):ma P l n W0 F N T0 pin Q (.block id c) st:=fun hq a w hI=>
 wpIn_block (Code.wpIn_mono (fun e a w q=>by
  obtain ⟨st',hq,hi⟩:=q
  cases e<;>try exact ⟨st',hq,hi⟩
  rename_i id'
  simp only [Exit.inBlock]
  by_cases hid:id'=id
  ·rw [if_pos hid];subst hid;exact ⟨st',by simpa [im] using hq,hi⟩
  ·rw [if_neg hid];exact ⟨st',by simpa [im,hid] using hq,hi⟩) (h hq a w hI))
theorem Gg {id:Nat} {k:List Oper} (hd:(k.all fun o=>!jX o.op)=true) (h:AL P W0 F N T0 pin k.toArray Q k st):ma P l n W0 F N T0 pin Q (.region id k.toArray false) st:=fun hq a w hI=>
 wpIn_region_lit (sO (zF hq) k a w hd (h a w hI))
theorem Ho {st':aF} {c:Code} (hw:aD pin st st') (h:ma P l n W0 F N T0 pin Q c st'):ma P l n W0 F N T0 pin Q c st:=fun hq a w hI=>h hq a w (hw _ _ _ _ a w hI)
theorem Hp {id:Nat} {k:List Oper} (hd:(k.all fun o=>!jX o.op)=true) (aO:List bF) (fin:aF) (hm:P.follows .mixedOrders=true) (hB:pj k.toArray aO N.1 st fin=true) (hrows:ji P k.toArray aO k) (hsee:kE st aO aO) (hfin:ur st aO fin)
  (h:AL P W0 F N T0 pin k.toArray Q (k.drop aO.length) fin):ma P l n W0 F N T0 pin Q (.region id k.toArray true) st:=fun hq a w hI=>
 wpIn_region_any hm (uv (zF hq) (by simpa using hd) _ _ _ _ (pU aO fin hm hB hrows hsee hfin h a w hI))
end
end
section
structure lb (m:Bool) (W W':World):Prop where
 size:W.heap.size<=W'.heap.size
 cells:∀ (b:Nat) (o:Obj),W.heap[b]?=some o->o.isCells=true->W'.heap[b]?=some o
 maps:m=true->∀ (b:Nat) ms c,W.heap[b]?=some (.map ms c)->W'.heap[b]?=some (.map ms c)
theorem lb.cell {m:Bool} {W W':World} (K:lb m W W') {a:Addr} {v:Value} (h:W.cell? a=some v):W'.cell? a=some v:=by
 obtain ⟨o,ho,hc⟩:=cells_of_cell h
 exact (World.cell?_of_block ((K.cells _ _ ho hc).trans ho.symm)).trans h
theorem bl.cF {m:Bool} {T:Nat->Prop} {W W':World} (K:lb m W W') {d:D} {v:Value} (h:bl T W d v):bl T W' d v:=by
 induction h with
 |v x hx=>exact .v x hx
 |nil k A c=>exact .nil k A c
 |r k rows b off c cs hb hT hc hm hK eJ hd ih=>exact .r k rows b off c cs (Nat.lt_of_lt_of_le hb K.size) hT hc hm hK (fun i row j d h1 h2=>K.cell (eJ i row j d h1 h2)) ih
 |f fn bc bs iH cs hb eJ hd ih=>exact .f fn bc bs iH cs (fun i hi=>⟨Nat.lt_of_lt_of_le (hb i hi).1 K.size,(hb i hi).2⟩) (fun i row j d h1 h2=>K.cell (eJ i row j d h1 h2)) ih
theorem cL.cF {m:Bool} {σ:Nat->Option bK} {T:Nat->Prop} {W W':World} (K:lb m W W') {c:CV} {v:Value} (h:cL σ T W c v):cL σ T W' c v:=by
 cases c with
 |any=>trivial
 |d x=>exact bl.cF K h
 |p=>exact h
 |q row o=>
  obtain ⟨b,off,h1,h2,h3,h4⟩:=h
  exact ⟨b,off,h1,Nat.lt_of_lt_of_le h2 K.size,h3,fun j d hj=>by obtain ⟨u,hu,hr⟩:=h4 j d hj;exact ⟨u,K.cell hu,hr.cF K⟩⟩
 |s=>exact h
 |sx=>exact h
 |m=>exact h
 |fn=>exact h
theorem dk.cF {m:Bool} {σ:Nat->Option bK} {T:Nat->Prop} {W W':World} (K:lb m W W') {g:GV} {v:Value} (h:dk σ T W g v):dk σ T W' g v:=by
 cases g with
 |c x=>exact cL.cF K h
 |g xs=>obtain ⟨vs,h1,h2⟩:=h;exact ⟨vs,h1,h2.mono fun _ _ hh=>cL.cF K hh⟩
theorem ep.cF {m:Bool} {σ:Nat->Option bK} {T:Nat->Prop} {W W':World} (K:lb m W W') {x:AV} {v:Value} (h:ep σ T W x v):ep σ T W' x v:=by
 cases x with
 |v x=>exact dk.cF K h
 |t xs=>obtain ⟨vs,h1,h2⟩:=h;exact ⟨vs,h1,h2.mono fun _ _ hh=>dk.cF K hh⟩
def ru:AB->Bool
 |.map _ _=>true
 |_=>false
theorem cZ.cF {m:Bool} {σ:Nat->Option bK} {T:Nat->Prop} {W W':World} (K:lb m W W') {og:Option bK} {b:AB} (hb:m=true\/ru b=false) (h:cZ σ T W og b):cZ σ T W' og b:=by
 cases b with
 |box t cs=>obtain ⟨g,vs,h1,h2,h3,h4⟩:=h;exact ⟨g,vs,h1,h2,K.cells _ _ h3 rfl,h4.mono fun _ _ hh=>cL.cF K hh⟩
 |arr t k rows=>
  obtain ⟨h0,h|⟨g,vs,h1,h2,h3,h4,h5,h6⟩⟩:=h
  ·exact ⟨h0,.inl h⟩
  ·exact ⟨h0,.inr ⟨g,vs,h1,h2,K.cells _ _ h3 rfl,h4,h5,h6.1,fun i row hr=>⟨(h6.2 i row hr).1,fun j d hj=>by obtain ⟨u,hu,hd⟩:=(h6.2 i row hr).2 j d hj;exact ⟨u,hu,hd.cF K⟩⟩⟩⟩
 |map es c=>
  obtain ⟨g,ms,h1,h2,h3,h4⟩:=h
  have hm:m=true:=hb.resolve_right (by simp [ru])
  exact ⟨g,ms,h1,h2,K.maps hm _ _ _ h3,h4⟩
def uY (st:aF):Bool:=st.h.all fun x=>!ru x.2
theorem wA {st:aF} (h:uY st=true) {k:Nat} {b:AB} (hk:look st.h k=some b):ru b=false:=by
 have:=List.all_eq_true.1 h _ (bI hk)
 simpa using this
section
variable {W0:World} {F:Nat->Prop} {N:NT} {T0:Nat->Prop} {pin:List (Nat×bK)} {st:aF} {a:Go.Act} {W:World}
theorem Inv.cF {m:Bool} {W':World} (hI:Inv W0 F N T0 pin st a W) (K:lb m W W') (hm:m=true\/uY st=true) (hos:W'.os=W.os) (htp:W'.tape=W.tape) (hout:W'.output=W.output) (hold:∀ b,b < W0.heap.size->W'.heap[b]?=W.heap[b]?):Inv W0 F N T0 pin st a W':=by
 obtain ⟨σ,T,hT,S,hp⟩:=hI
 refine ⟨σ,T,hT,⟨⟨fun i v h=>(S.core.eD i v h).cF K,fun k b h=>cZ.cF K (hm.imp id fun h'=>wA h' h) (S.core.heap k b h),S.core.inj,fun b h=>Nat.lt_of_lt_of_le (S.core.ef b h) K.size⟩,hos.trans S.os,htp.trans S.tape,hout.trans S.output,Nat.le_trans S.size K.size,fun b hb hF=>(hold b hb).trans (S.cu b hb hF),S.own,S.next,S.hn,S.iV,S.iA⟩,hp⟩
theorem sq {W':World} {row:Option Nat} (hg:W.grownBy W' row) (hr:∀ r,row=some r->∃ o:Obj,W.heap[r]?=some o/\o.isCells=false):lb false W W':=
 ⟨hg.size,fun b o ho hc=>(grownBy_keeps_cells hg hr ho hc).trans ho,fun h=>by cases h⟩
theorem Inv.own (hm:uY st=true) {W':World} {row:Option Nat} (hI:Inv W0 F N T0 pin st a W) (hg:W.grownBy W' row) (hr:∀ r,row=some r->W0.heap.size<=r/\∃ o:Obj,W.heap[r]?=some o/\o.isCells=false):Inv W0 F N T0 pin st a W':=by
 have hsz:W0.heap.size<=W.heap.size:=by obtain ⟨_,_,_,S,_⟩:=hI;exact S.size
 refine hI.cF (sq hg fun r e=>(hr r e).2) (.inr hm) hg.os hg.tape hg.output fun b hb=>hg.block b (by omega) ?_
 intro e
 have:=(hr b e.symm).1
 omega
theorem bl.cu {σ:Nat->Option bK} {T:Nat->Prop} (hF:∀ b,F b->T0 b) (hT:∀ b,b < W0.heap.size->(T b->T0 b)/\(T0 b->T b)) (S:rV W0 F N σ T st a W) {d:D} {v:Value} (h:bl T0 W0 d v):bl T W d v:=by
 have cell:∀ b o u,b < W0.heap.size->¬T0 b->W0.cell? ⟨b,o,none⟩=some u->W.cell? ⟨b,o,none⟩=some u:=fun b o u hb hn hc=>
  (cell_of_heap (S.cu b hb fun h=>hn (hF b h)) o).trans hc
 induction h with
 |v x hx=>exact .v x hx
 |nil k A c=>exact .nil k A c
 |r k rows b off c cs hb hn hc hm hK eJ hd ih=>exact .r k rows b off c cs (Nat.lt_of_lt_of_le hb S.size) (fun h=>hn ((hT b hb).1 h)) hc hm hK (fun i row j d h1 h2=>cell _ _ _ hb hn (eJ i row j d h1 h2)) ih
 |f fn bc bs iH cs hb eJ hd ih=>exact .f fn bc bs iH cs (fun i hi=>⟨Nat.lt_of_lt_of_le (hb i hi).1 S.size,fun h=>(hb i hi).2 ((hT _ (hb i hi).1).1 h)⟩) (fun i row j d h1 h2=>by
   have hi:=(List.getElem?_eq_some_iff.1 h1).1
   exact cell _ _ _ (hb i hi).1 (hb i hi).2 (eJ i row j d h1 h2)) ih
def Fq (P:Program) (W0:World) (F:Nat->Prop) (N:NT) (T0:Nat->Prop) (pin:List (Nat×bK)) (Qf:Exit->Go.Act->World->Prop) (c:Code) (st:aF):Prop:=∀ a w,Inv W0 F N T0 pin st a w->c.wp P Qf a w
def XQ (W0:World) (F:Nat->Prop) (N:NT) (T0:Nat->Prop) (pin:List (Nat×bK)) (Qf:Exit->Go.Act->World->Prop):Exit->aF->Prop:=fun e st=>∀ a w,Inv W0 F N T0 pin st a w->Qf e a w
theorem Fq.seq {P:Program} {Qf:Exit->Go.Act->World->Prop} {x y:Code} (h:AC P W0 F N T0 pin (iv (Fq P W0 F N T0 pin Qf y) (XQ W0 F N T0 pin Qf)) x st):Fq P W0 F N T0 pin Qf (.seq x y) st:=fun a w hI=>
 wp_seq (Code.wp_mono (fun e a w q=>by
  obtain ⟨st',hq,hi⟩:=q
  cases e<;>exact hq a w hi) (h a w hI))
end
end
section
def yV (nb:List (Nat×AB)) (c d:CV):Prop:=(∃ x,c=.d x/\d=.d x)\/∃ k t K n rows,c=.s k 0 K n/\d=.d (.r K rows)/\look nb k=some (.arr t K rows)/\rows.length=n
def yU (nb:List (Nat×AB)):GV->GV->Prop
 |.c c,.c d=>yV nb c d
 |.g cs,.g ds=>ck (yV nb) cs ds
 |_,_=>False
def Fm (nb:List (Nat×AB)):AV->AV->Prop
 |.v c,.v d=>yU nb c d
 |.t cs,.t ds=>ck (yU nb) cs ds
 |_,_=>False
theorem ck.comp {α β γ:Type} {R:α->β->Prop} {S:α->γ->Prop} {U:β->γ->Prop} (h:∀ x y z,R x y->S x z->U y z):∀ {xs:List α} {ys:List β} {zs:List γ},ck R xs ys->ck S xs zs->ck U ys zs
 |[],[],[],_,_=>trivial
 |_::_,_::_,_::_,h1,h2=>⟨h _ _ _ h1.1 h2.1,ck.comp h h1.2 h2.2⟩
 |[],[],_::_,_,h2=>h2.elim
 |[],_::_,_,h1,_=>h1.elim
 |_::_,[],_,h1,_=>h1.elim
 |_::_,_::_,[],_,h2=>h2.elim
theorem Fn.frozen {P:Program} {f:FuncId} {ins:List GV} {av av':AV} {nb:List (Nat×AB)} (h:Fn P f ins av nb) (hf:Fm nb av av'):Fn P f ins av' []:=by
 intro T w args hT bL
 refine (h T w args hT bL).mono ?_
 rintro e w' ⟨v,σ,T',he,hB,R⟩
 have hlow:∀ b,(T' b/\b < w.heap.size)->T' b:=fun b h=>h.1
 have hc:∀ c d u,yV nb c d->cL σ T' w' c u->cL (fun _=>none) (fun b=>T' b/\b < w.heap.size) w' d u:=by
  rintro c d u (⟨x,rfl,rfl⟩|⟨k,t,K,n,rows,rfl,rfl,hk,hn⟩) hu
  ·exact bl.fw hlow hu
  ·have hh:=R.heap k _ (bI hk)
   obtain ⟨hK,hh⟩:=hh
   rcases hu with ⟨h0,rfl⟩|⟨g,hg,rfl,hcap,hmax⟩
   ·subst h0
    have:rows=[]:=List.eq_nil_of_length_eq_zero hn
    subst this
    exact bl.nil _ _ _
   ·rcases hh with ⟨h1,h2⟩|⟨g',vs,h1,h2,h3,h4,h5,h6⟩
    ·rw [hg] at h2;cases h2
    ·rw [hg] at h1;injection h1 with h1;subst h1
     have hfr:=R.fresh k _ g (bI hk) hg
     have:=bl.r (T:=fun b=>T' b/\b < w.heap.size) (w:=w') K rows g.g (0 * K) (g.c - 0) (fun i j=>(vs[i * K+j]?).getD undef) (R.ef _ h2) (fun hb=>by have:=hb.2;omega) (by omega) (by omega) (fun i row hr=>(h6.2 i row hr).1) (fun i row j d hr hd=>?_) (fun i row j d hr hd=>?_)
     ·rw [hn] at this;exact this
     ·obtain ⟨u,hu,_⟩:=(h6.2 i row hr).2 j d hd
      rw [Nat.zero_mul,Nat.zero_add,cell_of_row w' g.g (i * K+j) _ _ (0,0) h3]
      simp only [List.getElem?_toArray,hu,Option.getD_some]
     ·obtain ⟨u,hu,hr'⟩:=(h6.2 i row hr).2 j d hd
      simp only [hu,Option.getD_some]
      exact hr'.fw hlow
 have hgv:∀ c d u,yU nb c d->dk σ T' w' c u->dk (fun _=>none) (fun b=>T' b/\b < w.heap.size) w' d u:=by
  intro c d u hcd hu
  match c,d,hcd with
  |.c c,.c d,hcd=>exact hc c d u hcd hu
  |.g cs,.g ds,hcd=>obtain ⟨vs,h1,h2⟩:=hu;exact ⟨vs,h1,ck.comp (fun x y z h1 h2=>hc x y z h1 h2) hcd h2⟩
 refine ⟨v,fun _=>none,fun b=>T' b/\b < w.heap.size,he,hB,?_,fun b hb h=>R.kQ b hb h.1,fun b h=>⟨R.lY b h,hT b h⟩,fun b h=>R.ef b h.1,(fun _ _ h=>by cases h),(fun _ _ _ h=>by cases h),(fun _ _ _ _ _ _ h=>by cases h)⟩
 have hr:=R.rel
 match av,av',hf with
 |.v c,.v d,hf=>exact hgv c d v hf hr
 |.t cs,.t ds,hf=>obtain ⟨vs,h1,h2⟩:=hr;exact ⟨vs,h1,ck.comp (fun x y z h1 h2=>hgv x y z h1 h2) hf h2⟩
def fo (x:Nat->Value):Nat->List (Option CV)->List CV
 |_,[]=>[]
 |i,some c::l=>c::fo x (i+1) l
 |i,none::l=>.d (.v (x i))::fo x (i+1) l
def jB:List CV->List (Option CV)->List CV
 |_::cs,some d::l=>d::jB cs l
 |c::cs,none::l=>c::jB cs l
 |_,_=>[]
def yS:CV->Bool
 |.any=>true
 |_=>false
section
variable {P:Program} {st:aF} {o:Oper}
theorem yz {f:FuncId} {c:Call} {ins:List GV} {bL:List (Nat×AB)} {cF:List Nat} {av av':AV} {nb nb':List (Nat×AB)} {EE:List Nat} {p:D->Prop} {σ:Nat->Option bK} {T:Nat->Prop} {a:Go.Act} {w:World} (C:Core σ T st a w) (ρ μ:Nat->Nat) (E:List Nat) (hF:cA P f ins bL cF av nb) (hen:bf P f) (ho:o.op=.call c) (hc:c.callee=.value (.func f))
  (hargs:pT st E ρ (bh bL) c.args.toList ins) (hheap:df (fun x=>(∃ b,look st.h (ρ x.1)=some b)/\cZ σ T w (σ (ρ x.1)) (x.2.map' ρ)) bL) (hokin:bL.all (fun x=>x.2.ok (bh bL))=true) (hinj:eh ((keys bL).map ρ)=true) (hE:bL.all (fun x=>!dN (ρ x.1) E)=true) (hEl:E.all (fun e=>bh st.h e)=true)
  (hkeep:∀ k∈cF,pt bL k) (hEE:(keys bL).map ρ=EE) (hμ:eh ((keys nb).map μ)=true) (hμk:(keys nb).all (fun k=>(dN k cF && Nat.beq (μ k) (ρ k))||(!dN k cF && !dN (μ k) EE))=true)
  (hg:av.dZ p) (hgb:df (fun x=>x.2.dZ p) nb) (hok:av.ok (bh nb)=true) (hokb:nb.all (fun x=>x.2.ok (bh nb))=true) (hav:av.map μ=av') (hnb:fM μ nb=nb')
  (hD:∀ (σ:Nat->Option bK) (T Tc T':Nat->Prop) (w':World) d v,(∀ b,T' b->T b\/Tc b)->(∀ b,eI σ T E b->Tc b)->p d->bl Tc w' d v->bl T' w' d v):(∀ k b,(k,b)∈nb'->k ∉ EE->σ k=none)->o.wp P a w (fun a' w'=>∃ u σ' T',a'=a.put o.dst u/\Ext σ T w σ' T' w' nb' EE/\ep σ' T' w' av' u) xn:=by
 intro hnew
 subst hav hnb hEE
 have hinj':=lR hinj
 have hin_mem:∀ k,bh bL k=true->k∈keys bL:=fun k hk=>by
  obtain ⟨b,hb⟩:=gi hk
  exact List.mem_map.2 ⟨(k,b),hb,rfl⟩
 have mem_in:∀ k,k∈keys bL->bh bL k=true:=fun k hk=>by
  obtain ⟨x,hx,rfl⟩:=List.mem_map.1 hk
  exact cM (b:=x.2) hx
 let σc:Nat->Option bK:=fun k=>if bh bL k=true then σ (ρ k) else none
 have hσc:∀ k,bh bL k=true->σc k=σ (ρ k):=fun k hk=>if_pos hk
 let Tc:=eI σ T E
 have hlow:∀ b,Tc b->T b:=fun b h=>h.1
 have hsep:∀ k b g,(k,b)∈bL->σ (ρ k)=some g->Tc g.g:=by
  intro k b g hk hg
  refine ⟨(hheap.mem _ hk).2.nS hg,fun e he g' hg' hgg=>?_⟩
  obtain ⟨b',hb'⟩:=gi (List.all_eq_true.1 hEl e he)
  have hb':∃ b',look st.h e=some b':=by
   have:=List.all_eq_true.1 hEl e he
   cases hl:look st.h e with
   |none=>simp [bh,hl] at this
   |some b'=>exact ⟨b',rfl⟩
  obtain ⟨b',hb'⟩:=hb'
  obtain ⟨bk,hbk⟩:=(hheap.mem _ hk).1
  have heq:=C.inj e (ρ k) b' bk g' g hb' hbk hg' hg hgg
  have:=List.all_eq_true.1 hE _ hk
  simp only [Bool.not_eq_true'] at this
  rw [<-heq,eF.2 he] at this
  cases this
 have hh:∀ k b,(k,b)∈bL->cZ σc Tc w (σc k) b:=by
  intro k b hk
  have hkin:=cM hk
  rw [hσc k hkin]
  refine cZ.fw hlow (fun g hg _=>hsep k b g hk hg) ?_
  exact cZ.bY (ρ:=ρ) hσc (hheap.mem _ hk).2 (List.all_eq_true.1 hokin _ hk)
 have hij:∀ k k' b b' g g',(k,b)∈bL->(k',b')∈bL->σc k=some g->σc k'=some g'->g.g=g'.g->k=k':=by
  intro k k' b b' g g' hk hk' hg hg' hgg
  rw [hσc k (cM hk)] at hg
  rw [hσc k' (cM hk')] at hg'
  obtain ⟨b1,hb1⟩:=(hheap.mem _ hk).1
  obtain ⟨b2,hb2⟩:=(hheap.mem _ hk').1
  exact hinj' k k' (hin_mem _ (cM hk)) (hin_mem _ (cM hk')) (C.inj _ _ _ _ g g' hb1 hb2 hg hg' hgg)
 have hkp:∀ k∈cF,bh bL k=true/\∃ g,σ (ρ k)=some g:=by
  intro k hk
  rcases hkeep k hk with this|⟨t,K,rows,hl,hpos⟩
  ·unfold nF at this
   cases hl:look bL k with
   |none=>simp [hl] at this
   |some b=>
    cases b with
    |box t cs=>
     refine ⟨by simp [bh,hl],?_⟩
     obtain ⟨g,_,h1,_⟩:=(hheap.mem _ (bI hl)).2
     exact ⟨g,h1⟩
    |arr=>simp [hl] at this
    |map=>simp [hl] at this
  ·refine ⟨by simp [bh,hl],?_⟩
   obtain ⟨_,h1|⟨g,_,h1,_⟩⟩:=(hheap.mem _ (bI hl)).2
   ·obtain ⟨h1,_⟩:=h1
    rw [h1] at hpos;cases hpos
   ·exact ⟨g,h1⟩
 have hrel:ck (dk σc Tc w) ins (c.args.map a.eval).toList:=by
  rw [Array.toList_map]
  have gen:∀ (xs:List Operand) (ys:List GV),pT st E ρ (bh bL) xs ys->ck (dk σc Tc w) ys (xs.map a.eval):=by
   intro xs
   induction xs with
   |nil=>intro ys h;cases ys with
    |nil=>trivial
    |cons=>exact h.elim
   |cons x xs ih=>
    intro ys h
    cases ys with
    |nil=>exact h.elim
    |cons y ys=>
     refine ⟨?_,ih ys h.2⟩
     obtain ⟨g,h1,h2|h2⟩:=h.1
     ·obtain ⟨h2,h3⟩:=h2
      subst h2
      exact dk.fw hlow (dk.bY (ρ:=ρ) hσc (x:=y) (bO C h1) h3)
     ·exact dk.up (h2.rel C (bO C h1))
  exact gen _ _ hargs
 refine my ho hc hen ((hF Tc σc w _ (fun b h=>C.ef b h.1) hh hij (fun k hk=>?_) hrel).mono ?_)
 ·obtain ⟨h1,g,h2⟩:=hkp k hk
  exact ⟨g,by rw [hσc k h1,h2]⟩
 rintro e w' ⟨v,σ',T',rfl,R⟩
 let T2:Nat->Prop:=fun b=>T b\/T' b
 let σ2:=pull μ σ' σ (keys nb)
 have hμ':=lR hμ
 have hσ2:∀ k,bh nb k=true->σ2 (μ k)=σ' k:=fun k hk=>by
  obtain ⟨b,hb⟩:=gi hk
  exact nj hμ' (List.mem_map.2 ⟨(k,b),hb,rfl⟩)
 have hD':∀ d v,p d->bl T' w' d v->bl T2 w' d v:=fun d v=>hD σ T T' T2 w' d v (fun b h=>h) R.lY
 have hmem:∀ k b,(k,b)∈fM μ nb->∃ k0 b0,(k0,b0)∈nb/\k=μ k0/\b=b0.map' μ:=by
  intro k b h
  obtain ⟨⟨k0,b0⟩,h1,h2⟩:=List.mem_map.1 h
  injection h2 with h2 h3
  exact ⟨k0,b0,h1,h2.symm,h3.symm⟩
 have hcase:∀ k∈keys nb,(k∈cF/\μ k=ρ k)\/(k ∉ cF/\μ k ∉ (keys bL).map ρ):=by
  intro k hk
  have:=List.all_eq_true.1 hμk k hk
  simp only [Bool.or_eq_true,Bool.and_eq_true,Bool.not_eq_true'] at this
  rcases this with ⟨h1,h2⟩|⟨h1,h2⟩
  ·exact .inl ⟨eF.1 h1,Nat.eq_of_beq_eq_true h2⟩
  ·exact .inr ⟨fun h=>(Bool.eq_false_iff.1 h1) (eF.2 h),fun h=>(Bool.eq_false_iff.1 h2) (eF.2 h)⟩
 have C2:∀ b,(∃ k∈(keys bL).map ρ,∃ g,σ k=some g/\g.g=b)↔∃ k∈keys bL,∃ g,σc k=some g/\g.g=b:=by
  intro b
  constructor
  ·rintro ⟨k,hk,g,hg,hgb⟩
   obtain ⟨k0,hk0,rfl⟩:=List.mem_map.1 hk
   exact ⟨k0,hk0,g,by rw [hσc k0 (mem_in k0 hk0)];exact hg,hgb⟩
  ·rintro ⟨k,hk,g,hg,hgb⟩
   rw [hσc k (mem_in k hk)] at hg
   exact ⟨ρ k,List.mem_map.2 ⟨k,hk,rfl⟩,g,hg,hgb⟩
 refine ⟨v,rfl,v,σ2,T2,rfl,⟨R.os,R.tape,R.output,⟨R.size,fun b hb hno=>R.cu b hb fun k hk g hg hgb=>hno ((C2 b).2 ⟨k,hk,g,hg,hgb⟩),fun b hb=>?_,fun b hb h=>?_,fun j g hj=>?_⟩,fun b h=>.inl h,fun b h=>?_,fun j hj=>?_,?_,?_,?_⟩,R.rel.back hD' hσ2 hg hok⟩
 ·obtain ⟨k,hk,g,hg,rfl⟩:=hb
  obtain ⟨k0,hk0,rfl⟩:=List.mem_map.1 hk
  obtain ⟨x,hx,rfl⟩:=List.mem_map.1 hk0
  exact (hheap.mem x hx).2.nS hg
 ·rcases h with h|h
  ·exact h
  ·exact (R.kQ b hb h).1
 ·show pull μ σ' σ (keys nb) j=some g
  by_cases hex:∃ k∈keys nb,μ k=j
  ·obtain ⟨k,hk,rfl⟩:=hex
   rw [nj hμ' hk]
   rcases hcase k hk with ⟨h1,h2⟩|⟨h1,h2⟩
   ·rw [R.kept k h1,hσc k (hkp k h1).1,<-h2];exact hj
   ·obtain ⟨x,hx,rfl⟩:=List.mem_map.1 hk
    have:=hnew (μ x.1) (x.2.map' μ) (List.mem_map.2 ⟨x,hx,rfl⟩) h2
    rw [this] at hj;cases hj
  ·rw [lP fun k hk e=>hex ⟨k,hk,e⟩];exact hj
 ·rcases h with h|h
  ·exact Nat.lt_of_lt_of_le (C.ef b h) R.size
  ·exact R.ef b h
 ·exact lP fun k hk e=>by
   obtain ⟨x,hx,rfl⟩:=List.mem_map.1 hk
   exact hj (x.2.map' μ) (List.mem_map.2 ⟨x,hx,by rw [e]⟩)
 ·intro k b h
  obtain ⟨k0,b0,h1,rfl,rfl⟩:=hmem k b h
  rw [hσ2 k0 (cM h1)]
  exact (R.heap k0 b0 h1).back hD' hσ2 (fun b h=>.inr h) (hgb.mem _ h1) (List.all_eq_true.1 hokb _ h1)
 ·intro k b g h hg
  obtain ⟨k0,b0,h1,rfl,rfl⟩:=hmem k b h
  rw [hσ2 k0 (cM h1)] at hg
  rcases R.fresh k0 b0 g h1 hg with h2|⟨e,he,g',hg',hgg⟩
  ·exact .inl h2
  ·exact .inr ((C2 g.g).2 ⟨e,he,g',hg',hgg⟩)
 ·intro k k' b b' g g' h h' hg hg' hgg
  obtain ⟨k0,b0,h1,rfl,rfl⟩:=hmem k b h
  obtain ⟨k1,b1,h2,rfl,rfl⟩:=hmem k' b' h'
  rw [hσ2 k0 (cM h1)] at hg
  rw [hσ2 k1 (cM h2)] at hg'
  rw [R.inj k0 k1 b0 b1 g g' h1 h2 hg hg' hgg]

theorem cL.one {σ:Nat->Option bK} {T:Nat->Prop} {w:World} {c:CV} {v:Value} (h:cL σ T w c v) (hc:yS c=false):v.oneCell'=true:=by
 cases c with
 |any=>cases hc
 |d x=>
  have h:bl T w x v:=h
  cases h with
  |v x hx=>exact hx
  |nil=>rfl
  |r=>rfl
  |f=>rfl
 |p=>obtain ⟨g,_,rfl⟩:=h;rfl
 |q=>obtain ⟨b,off,rfl,_⟩:=h;rfl
 |s=>
  rcases h with ⟨_,rfl⟩|⟨g,_,rfl,_⟩
  ·rfl
  ·rfl
 |sx=>obtain ⟨g,off,_,rfl,_⟩:=h;rfl
 |m=>obtain ⟨g,_,rfl⟩:=h;rfl
 |fn=>obtain ⟨gs,_,rfl⟩:=h;rfl
theorem uU {σ:Nat->Option bK} {T:Nat->Prop} {w:World} {ρ:Nat->Nat} {x:Nat->Value} (hx:∀ i,(x i).oneCell'=true):∀ {cs:List CV} {vs:List Value} {ms:List (Option CV)} {i:Nat},cs.length=ms.length->jB cs (ms.map (Option.map (CV.map ρ)))=cs->ck (cL σ T w) cs vs->(∀ j v,vs[j]?=some v->ms[j]?=some none->x (i+j)=v)->
  ck (cL σ T w) ((fo x i ms).map (CV.map ρ)) vs
 |[],[],[],_,_,_,_,_=>trivial
 |c::cs,v::vs,some d::ms,i,hl,hf,hr,hv=>by
  have hf:d.map ρ::jB cs (ms.map (Option.map (CV.map ρ)))=c::cs:=hf
  obtain ⟨h1,h2⟩:=List.cons.inj hf
  exact ⟨h1▸hr.1,uU hx (i:=i+1) (by simpa using hl) h2 hr.2 fun j v hj hm=>by
   have:=hv (j+1) v (by simpa using hj) (by simpa using hm)
   rwa [show i+(j+1)=i+1+j by omega] at this⟩
 |c::cs,v::vs,none::ms,i,hl,hf,hr,hv=>by
  have hf:c::jB cs (ms.map (Option.map (CV.map ρ)))=c::cs:=hf
  have h0:x i=v:=by simpa using hv 0 v rfl rfl
  refine ⟨?_,uU hx (i:=i+1) (by simpa using hl) (List.cons.inj hf).2 hr.2 fun j v hj hm=>by
   have:=hv (j+1) v (by simpa using hj) (by simpa using hm)
   rwa [show i+(j+1)=i+1+j by omega] at this⟩
  show bl T w (.v (x i)) v
  rw [h0]
  exact .v _ (h0▸hx i)
 |[],_::_,_,_,_,_,hr,_=>hr.elim
 |_::_,[],_,_,_,_,hr,_=>hr.elim
 |[],[],_::_,_,hl,_,_,_=>by simp at hl
 |_::_,_::_,[],_,hl,_,_,_=>by simp at hl
theorem si {σ:Nat->Option bK} {T:Nat->Prop} {w:World} {μ:Nat->Nat} {x:Nat->Value}:∀ {cs:List CV} {us:List Value} {ms:List (Option CV)} {i:Nat},cs.length=ms.length->ck (cL σ T w) ((fo x i ms).map (CV.map μ)) us->(∀ j c,cs[j]?=some c->ms[j]?=some none->cL σ T w c (x (i+j)))->
  ck (cL σ T w) (jB cs (ms.map (Option.map (CV.map μ)))) us
 |[],[],[],_,_,_,_=>trivial
 |c::cs,u::us,some d::ms,i,hl,hr,hv=>by
  have hr:cL σ T w (d.map μ) u/\ck (cL σ T w) ((fo x (i+1) ms).map (CV.map μ)) us:=hr
  exact ⟨hr.1,si (i:=i+1) (by simpa using hl) hr.2 fun j c hj hm=>by
   have:=hv (j+1) c (by simpa using hj) (by simpa using hm)
   rwa [show i+(j+1)=i+1+j by omega] at this⟩
 |c::cs,u::us,none::ms,i,hl,hr,hv=>by
  have hr:bl T w (.v (x i)) u/\ck (cL σ T w) ((fo x (i+1) ms).map (CV.map μ)) us:=hr
  refine ⟨?_,si (i:=i+1) (by simpa using hl) hr.2 fun j c hj hm=>by
   have:=hv (j+1) c (by simpa using hj) (by simpa using hm)
   rwa [show i+(j+1)=i+1+j by omega] at this⟩
  rw [bl.inv hr.1]
  exact hv 0 c rfl rfl
 |[],us,_::_,_,hl,_,_=>by simp at hl
 |_::_,us,[],_,hl,_,_=>by simp at hl
 |[],_::_,[],_,_,hr,_=>by exact (hr:False).elim
 |_::_,[],some _::_,_,_,hr,_=>by exact (hr:False).elim
 |_::_,[],none::_,_,_,hr,_=>by exact (hr:False).elim
theorem Ext.swap {σ:Nat->Option bK} {T:Nat->Prop} {w:World} {σ':Nat->Option bK} {T':Nat->Prop} {w':World} {k0:Nat} {b b':AB} {nb:List (Nat×AB)} {E:List Nat} (X:Ext σ T w σ' T' w' ((k0,b)::nb) E) (h:cZ σ' T' w' (σ' k0) b'):Ext σ T w σ' T' w' ((k0,b')::nb) E:=by
 have bL:∀ k c,(k,c)∈(k0,b')::nb->∃ c',(k,c')∈(k0,b)::nb:=fun k c hk=>by
  rcases List.mem_cons.1 hk with h1|h1
  ·injection h1 with h2 h3;subst h2;exact ⟨b,List.mem_cons_self⟩
  ·exact ⟨c,List.mem_cons_of_mem _ h1⟩
 have hout:∀ k c,(k,c)∈(k0,b)::nb->∃ c',(k,c')∈(k0,b')::nb:=fun k c hk=>by
  rcases List.mem_cons.1 hk with h1|h1
  ·injection h1 with h2 h3;subst h2;exact ⟨b',List.mem_cons_self⟩
  ·exact ⟨c,List.mem_cons_of_mem _ h1⟩
 refine ⟨X.os,X.tape,X.output,X.grow,X.lY,X.ef,fun k hk=>X.xF k fun c hc=>?_,fun k c hk=>?_,fun k c g hk hg=>?_,fun k k' c c' g g' hk hk' hg hg' hgg=>?_⟩
 ·obtain ⟨c',hc'⟩:=hout k c hc;exact hk c' hc'
 ·rcases List.mem_cons.1 hk with h1|h1
  ·injection h1 with h2 h3;subst h2 h3;exact h
  ·exact X.rel k c (List.mem_cons_of_mem _ h1)
 ·obtain ⟨d,hd⟩:=bL k c hk;exact X.fresh k d g hd hg
 ·obtain ⟨d,hd⟩:=bL k c hk
  obtain ⟨d',hd'⟩:=bL k' c' hk'
  exact X.inj k k' d d' g g' hd hd' hg hg' hgg
def x0:Nat->Value:=fun _=>.int .i64 0
theorem pc {p:Nat->Bool} (x y:Nat->Value):∀ (ms:List (Option CV)) (i:Nat),(fo x i ms).all (CV.ok p)=(fo y i ms).all (CV.ok p)
 |[],_=>rfl
 |some c::ms,i=>by show (c.ok p && (fo x (i+1) ms).all (CV.ok p))=(c.ok p && (fo y (i+1) ms).all (CV.ok p));rw [pc x y ms]
 |none::ms,i=>by show (true && (fo x (i+1) ms).all (CV.ok p))=(true && (fo y (i+1) ms).all (CV.ok p));rw [pc x y ms]
theorem Dr {f:FuncId} {c:Call} {ins:List GV} {bL:List (Nat×AB)} {cF:List Nat} {av av':AV} {nb nb':List (Nat×AB)} {EE:List Nat} {p:D->Prop} {ms ms':List (Option CV)} {t:TypeId} {cs cs':List CV} {k0:Nat} (ρ μ:Nat->Nat) (E:List Nat)
  (hF:∀ x:Nat->Value,(∀ i,(x i).oneCell'=true)->cA P f ins ((0,.box t (fo x 0 ms))::bL) (0::cF) av ((0,.box t (fo x 0 ms'))::nb)) (hen:bf P f) (ho:o.op=.call c) (hc:c.callee=.value (.func f))
  (hargs:pT st E ρ (bh ((0,.box t [])::bL)) c.args.toList ins) (hk0:ρ 0=k0) (hk0':μ 0=k0) (hbox:look st.h k0=some (.box t cs)) (hlen:cs.length=ms.length) (hlen':cs.length=ms'.length) (hfill:jB cs (ms.map (Option.map (CV.map ρ)))=cs) (hany:cs.all (fun c=>!yS c)=true)
  (hheap:df (fun x=>look st.h (ρ x.1)=some (x.2.map' ρ)) bL) (hokr:(fo x0 0 ms).all (CV.ok (bh ((0,.box t [])::bL)))=true) (hokin:bL.all (fun x=>x.2.ok (bh ((0,.box t [])::bL)))=true) (hinj:eh ((0::keys bL).map ρ)=true) (hE0:dN k0 E=false) (hE:bL.all (fun x=>!dN (ρ x.1) E)=true) (hEl:E.all (fun e=>bh st.h e)=true)
  (hkeep:∀ k∈cF,pt bL k/\k≠0) (hEE:(0::keys bL).map ρ=EE) (hμ:eh ((0::keys nb).map μ)=true) (hμk:(keys nb).all (fun k=>(dN k (0::cF) && Nat.beq (μ k) (ρ k))||(!dN k (0::cF) && !dN (μ k) EE))=true)
  (hg:av.dZ p) (hgb:df (fun x=>x.2.dZ p) nb) (hgr:∀ x:Nat->Value,(AB.box t (fo x 0 ms')).dZ p) (hok:av.ok (bh ((0,.box t [])::nb))=true) (hokr':(fo x0 0 ms').all (CV.ok (bh ((0,.box t [])::nb)))=true) (hokb:nb.all (fun x=>x.2.ok (bh ((0,.box t [])::nb)))=true) (hav:av.map μ=av') (hcs:jB cs (ms'.map (Option.map (CV.map μ)))=cs') (hnb:fM μ nb=nb')
  (hD:∀ (σ:Nat->Option bK) (T Tc T':Nat->Prop) (w':World) d v,(∀ b,T' b->T b\/Tc b)->(∀ b,eI σ T E b->Tc b)->p d->bl Tc w' d v->bl T' w' d v):aK P o st av' ((k0,.box t cs')::nb') EE:=by
 intro σ T a w C hnew
 subst hk0 hcs hnb
 have keyx:∀ (l:List CV) (hh:List (Nat×AB)),bh ((0,.box t l)::hh)=bh ((0,AB.box t [])::hh):=fun l hh=>by
  funext k;unfold bh;rw [bD,bD];split<;>rfl
 obtain ⟨g,vs,h1,h2,h3,h4⟩:=C.heap _ _ hbox
 have hvl:cs.length=vs.length:=h4.length
 obtain ⟨x,hx⟩:∃ x:Nat->Value,x=fun i=>if h:(vs.getD i undef).oneCell'=true then vs.getD i undef else .int .i64 0:=⟨_,rfl⟩
 have hx1:∀ i,(x i).oneCell'=true:=fun i=>by
  rw [hx];dsimp only;split
  ·assumption
  ·rfl
 have hany':∀ j c,cs[j]?=some c->yS c=false:=fun j c hj=>by
  have:=List.all_eq_true.1 hany c (List.mem_of_getElem? hj)
  simpa using this
 have hxv:∀ j v,vs[j]?=some v->x j=v:=fun j v hj=>by
  have hjl:j < cs.length:=by have:=(List.getElem?_eq_some_iff.1 hj).1;omega
  obtain ⟨u,hu,hr⟩:=h4.get (i:=j) (x:=cs[j]) (List.getElem?_eq_getElem hjl)
  rw [hj] at hu;injection hu with hu;subst hu
  have h5:=hr.one (hany' j _ (List.getElem?_eq_getElem hjl))
  have h6:vs.getD j undef=v:=by rw [List.getD_eq_getElem?_getD,hj];rfl
  rw [hx];dsimp only;rw [h6,dif_pos h5]
 have hbx:cZ σ T w (σ (ρ 0)) ((AB.box t (fo x 0 ms)).map' ρ):=⟨g,vs,h1,h2,h3,uU hx1 hlen hfill h4 fun j v hj _=>by rw [Nat.zero_add];exact hxv j v hj⟩
 have hmem:∀ y∈bL,(∃ b,look st.h (ρ y.1)=some b)/\cZ σ T w (σ (ρ y.1)) (y.2.map' ρ):=fun y hy=>⟨⟨_,hheap.mem y hy⟩,C.heap _ _ (hheap.mem y hy)⟩
 have allL:∀ {q:Nat×AB->Prop} {l:List (Nat×AB)},(∀ y∈l,q y)->df q l:=fun {q l} h=>by
  induction l with
  |nil=>trivial
  |cons y l ih=>exact ⟨h y List.mem_cons_self,ih fun z hz=>h z (List.mem_cons_of_mem _ hz)⟩
 have key:=yz (av':=av') (nb':=fM μ ((0,.box t (fo x 0 ms'))::nb)) (EE:=EE) (p:=p) C ρ μ E (hF x hx1) hen ho hc (by rw [keyx];exact hargs) ⟨⟨⟨_,hbox⟩,hbx⟩,allL hmem⟩ (by
   rw [keyx]
   show ((fo x 0 ms).all _ && bL.all _)=true
   rw [pc x x0,hokr,hokin];rfl) hinj (by show (!dN (ρ 0) E && _)=true;rw [hE0,hE];rfl) hEl (fun k hk=>by
   rcases List.mem_cons.1 hk with rfl|hk
   ·exact .inl rfl
   ·obtain ⟨h,hne⟩:=hkeep k hk
    have hl:look ((0,AB.box t (fo x 0 ms))::bL) k=look bL k:=by rw [bD,if_neg (Ne.symm hne)]
    unfold pt nF at h ⊢
    rw [hl];exact h) hEE hμ (by
   have h0:dN 0 (0::cF)=true:=eF.2 List.mem_cons_self
   show (((dN 0 (0::cF) && Nat.beq (μ 0) (ρ 0))||_) && (keys nb).all _)=true
   rw [hk0',Nat.beq_refl,h0]
   exact hμk) hg ⟨hgr x,hgb⟩ (by rw [keyx];exact hok) (by
   rw [keyx]
   show ((fo x 0 ms').all _ && nb.all _)=true
   rw [pc x x0,hokr',hokb];rfl) hav rfl hD (fun k b hk hke=>hnew k (if k=ρ 0 then .box t (jB cs (ms'.map (Option.map (CV.map μ)))) else b) (by
    rcases List.mem_cons.1 hk with h|h
    ·injection h with h5 h6;subst h5;rw [hk0',if_pos rfl];exact List.mem_cons_self
    ·by_cases e:k=ρ 0
     ·rw [if_pos e,e];exact List.mem_cons_self
     ·rw [if_neg e];exact List.mem_cons_of_mem _ h) hke)
 refine ib key ?_
 rintro a' w' ⟨u,σ',T',rfl,X,hv⟩
 refine ⟨u,σ',T',rfl,?_,hv⟩
 have X:Ext σ T w σ' T' w' ((ρ 0,(AB.box t (fo x 0 ms')).map' μ)::fM μ nb) EE:=by
  have e:fM μ ((0,AB.box t (fo x 0 ms'))::nb)=(ρ 0,(AB.box t (fo x 0 ms')).map' μ)::fM μ nb:=by
   show (μ 0,_)::fM μ nb=_
   rw [hk0']
  rw [<-e];exact X
 refine X.swap ?_
 obtain ⟨g',us,q1,q2,q3,q4⟩:=X.rel _ _ List.mem_cons_self
 refine ⟨g',us,q1,q2,q3,si hlen' q4 fun j c hj _=>?_⟩
 rw [Nat.zero_add]
 obtain ⟨v,hvj,hr⟩:=h4.get hj
 rw [hxv j v hvj]
 exact hr.grow X.grow
end
end
section
def CV.nq:CV->Bool
 |.q _ _=>false
 |_=>true
def GV.nq:GV->Bool
 |.c x=>x.nq
 |.g xs=>xs.all CV.nq
def AV.nq:AV->Bool
 |.v x=>x.nq
 |.t xs=>xs.all GV.nq
def AB.nq:AB->Bool
 |.box _ cs=>cs.all CV.nq
 |_=>true
theorem CV.gZ {c:CV} (h:c.nq=true):c.dZ (fun _=>True):=by cases c<;>first|trivial|cases h
theorem fb {α:Type} {p:α->Prop}:∀ {l:List α},(∀ x∈l,p x)->df p l
 |[],_=>trivial
 |x::_,h=>⟨h x List.mem_cons_self,fb fun y hy=>h y (List.mem_cons_of_mem _ hy)⟩
theorem GV.gZ {g:GV} (h:g.nq=true):g.dZ (fun _=>True):=by
 cases g with
 |c x=>exact CV.gZ h
 |g xs=>exact fb fun x hx=>CV.gZ (List.all_eq_true.1 h x hx)
theorem AV.gZ {v:AV} (h:v.nq=true):v.dZ (fun _=>True):=by
 cases v with
 |v x=>exact GV.gZ h
 |t xs=>exact fb fun x hx=>GV.gZ (List.all_eq_true.1 h x hx)
theorem AB.gZ {b:AB} (h:b.nq=true):b.dZ (fun _=>True):=by
 cases b with
 |box t cs=>exact fb fun x hx=>CV.gZ (List.all_eq_true.1 h x hx)
 |arr=>exact fun _ _ _ _=>trivial
 |map=>trivial
def CK:Option CV->Bool
 |some c=>c.nq
 |none=>true
theorem qg (x:Nat->Value):∀ (ms:List (Option CV)) (i:Nat),ms.all CK=true->df (CV.dZ fun _=>True) (fo x i ms)
 |[],_,_=>trivial
 |some c::ms,i,h=>by
  simp only [List.all_cons,Bool.and_eq_true] at h
  exact ⟨CV.gZ h.1,qg x ms (i+1) h.2⟩
 |none::ms,i,h=>by
  simp only [List.all_cons,Bool.and_eq_true] at h
  exact ⟨trivial,qg x ms (i+1) h.2⟩
section
variable {P:Program} {st:aF} {o:Oper}
theorem cg {f:FuncId} {c:Call} {ins:List GV} {bL:List (Nat×AB)} {av av':AV} {nb nb':List (Nat×AB)} {EE:List Nat} {ms ms':List (Option CV)} {t:TypeId} {cs cs':List CV} {k0:Nat} (ρ μ:Nat->Nat)
  (hF:∀ x:Nat->Value,(∀ i,(x i).oneCell'=true)->cA P f ins ((0,.box t (fo x 0 ms))::bL) [0] av ((0,.box t (fo x 0 ms'))::nb)) (hen:bf P f) (ho:o.op=.call c) (hc:c.callee=.value (.func f))
  (hargs:pT st [] ρ (bh ((0,.box t [])::bL)) c.args.toList ins) (hk0:ρ 0=k0) (hk0':μ 0=k0) (hbox:look st.h k0=some (.box t cs)) (hlen:cs.length=ms.length) (hlen':cs.length=ms'.length) (hfill:jB cs (ms.map (Option.map (CV.map ρ)))=cs) (hany:cs.all (fun c=>!yS c)=true)
  (hheap:df (fun x=>look st.h (ρ x.1)=some (x.2.map' ρ)) bL) (hokr:(fo x0 0 ms).all (CV.ok (bh ((0,.box t [])::bL)))=true) (hokin:bL.all (fun x=>x.2.ok (bh ((0,.box t [])::bL)))=true) (hinj:eh ((0::keys bL).map ρ)=true)
  (hEE:(0::keys bL).map ρ=EE) (hμ:eh ((0::keys nb).map μ)=true) (hμk:(keys nb).all (fun k=>(dN k [0] && Nat.beq (μ k) (ρ k))||(!dN k [0] && !dN (μ k) EE))=true)
  (hq:(av.nq && nb.all (fun x=>x.2.nq) && ms'.all CK)=true) (hok:av.ok (bh ((0,.box t [])::nb))=true) (hokr':(fo x0 0 ms').all (CV.ok (bh ((0,.box t [])::nb)))=true) (hokb:nb.all (fun x=>x.2.ok (bh ((0,.box t [])::nb)))=true) (hav:av.map μ=av') (hcs:jB cs (ms'.map (Option.map (CV.map μ)))=cs') (hnb:fM μ nb=nb'):aK P o st av' ((k0,.box t cs')::nb') EE:=by
 simp only [Bool.and_eq_true] at hq
 obtain ⟨⟨q1,q2⟩,q3⟩:=hq
 exact Dr (cF:=[]) (p:=fun _=>True) ρ μ [] hF hen ho hc hargs hk0 hk0' hbox hlen hlen' hfill hany hheap hokr hokin hinj rfl (by simp [dN]) rfl (fun k hk=>by cases hk) hEE hμ hμk (AV.gZ q1) (fb fun x hx=>AB.gZ (List.all_eq_true.1 q2 x hx)) (fun x=>qg x ms' 0 q3) hok hokr' hokb hav hcs hnb
  fun σ T Tc T' w' d v h1 h2 _ h=>h.fw fun b hb=>by
   rcases h1 b hb with h|h
   ·exact h2 b ⟨h,fun k hk=>by cases hk⟩
   ·exact h
theorem dn {t n e K:Nat} {x y:Operand} {k r Kk o' i:Nat} {j:Int} (ho:o.op=.indexAddr t x y) (hx:ev st x (.v (.c (.p k r Kk o')))) (hy:ev st y (.v (.c (.d (.v (.int .i64 j))))))
  (hu:P.underlying t=some (.array n e)) (hz:(P.info? e).map (·.size)=some K) (hj:j=(i:Int)) (hi:i < n):aK P o st (.v (.c (.p k r Kk (o'+i * K)))) [] []:=
 aK.val fun σ T ac w C=>by
  obtain ⟨g,hg,hv⟩:=bO C hx
  have h2:=bl.inv (bO C hy)
  subst hj
  refine ⟨.pointer (some ⟨g.g,r * Kk+o'+i * K,none⟩),?_,g,hg,by rw [Nat.add_assoc]⟩
  cases hq:P.info? e with
  |none=>simp [hq] at hz
  |some ii=>
   have hs:ii.size=K:=by simpa [hq] using hz
   unfold execOp
   simp [ho,hv,h2,Instr.indexAt,asIntOf,run_underlying hu,sizeOf,typeInfo,hq,hs,hi,asAddr,Instr.sureAddr,Addr.add_lit]
theorem BN {f:FuncId} {c:Call} {x:Operand} {k t K n:Nat} {rows:List (List D)} (k2:Nat) (hF:∀ l:List (List D),l.length=n->Fn P f [.c (.d (.r K (l.map id)))] (.v (.c (.s 0 0 K l.length))) [(0,.arr t K (l.map id))]) (hen:bf P f) (ho:o.op=.call c) (hc:c.callee=.value (.func f)) (ha:c.args=#[x])
  (hx:ev st x (.v (.c (.s k 0 K n)))) (hb:look st.h k=some (.arr t K rows)) (hn:rows.length=n):aK P o st (.v (.c (.s k2 0 K n))) [(k2,.arr t K rows)] []:=by
 intro σ T a w C hnew
 have hxv:cL σ T w (.s k 0 K n) (a.eval x):=bO C hx
 obtain ⟨hK,hh⟩:=C.heap k _ hb
 obtain ⟨cs,hcs⟩:∃ cs:Nat->Nat->Value,(∀ (i:Nat) (row:List D) (j:Nat) (d:D),rows[i]?=some row->row[j]?=some d->bl T w d (cs i j))/\(∀ (i:Nat) (row:List D),rows[i]?=some row->row.length=K)/\
   (∀ g,σ k=some g->T g.g/\∀ (i:Nat) (row:List D) (j:Nat) (d:D),rows[i]?=some row->row[j]?=some d->w.cell? ⟨g.g,i * K+j,none⟩=some (cs i j)):=by
  rcases hh with ⟨h1,h2⟩|⟨g,vs,h1,h2,h3,h4,h5,h6⟩
  ·subst h1
   exact ⟨fun _ _=>undef,(fun i row j d h=>by simp at h),(fun i row h=>by simp at h),fun g hg=>by rw [h2] at hg;cases hg⟩
  ·refine ⟨fun i j=>(vs[i * K+j]?).getD undef,fun i row j d hr hd=>?_,fun i row hr=>(h6.2 i row hr).1,fun g' hg=>?_⟩
   ·obtain ⟨u,hu,hr'⟩:=(h6.2 i row hr).2 j d hd
    simp only [hu,Option.getD_some];exact hr'
   ·rw [h1] at hg;injection hg with hg;subst hg
    refine ⟨h2,fun i row j d hr hd=>?_⟩
    obtain ⟨u,hu,_⟩:=(h6.2 i row hr).2 j d hd
    rw [cell_of_row w g.g (i * K+j) _ _ (0,0) h3]
    simp only [List.getElem?_toArray,hu,Option.getD_some]
 obtain ⟨hc1,hc2,hc3⟩:=hcs
 obtain ⟨l,hl⟩:∃ l:List (List D),l=(List.range n).map fun i=>(List.range K).map fun j=>D.v (cs i j):=⟨_,rfl⟩
 have hll:l.length=n:=by rw [hl];simp
 have hli:∀ i row,l[i]?=some row->i < n/\row=(List.range K).map fun j=>D.v (cs i j):=fun i row h=>by
  rw [hl,List.getElem?_map,Option.map_eq_some_iff] at h
  obtain ⟨i',h1,rfl⟩:=h
  obtain ⟨h2,h3⟩:=List.getElem?_eq_some_iff.1 h1
  simp at h2 h3
  subst h3
  exact ⟨h2,rfl⟩
 have hlj:∀ i row j d,l[i]?=some row->row[j]?=some d->j < K/\d=D.v (cs i j):=fun i row j d h hd=>by
  obtain ⟨_,rfl⟩:=hli i row h
  rw [List.getElem?_map,Option.map_eq_some_iff] at hd
  obtain ⟨j',h1,rfl⟩:=hd
  obtain ⟨h2,h3⟩:=List.getElem?_eq_some_iff.1 h1
  simp at h2 h3
  subst h3
  exact ⟨h2,rfl⟩
 have at_:∀ i j,i < n->j < K->∃ row d,rows[i]?=some row/\row[j]?=some d:=fun i j hi hj=>by
  have h1:i < rows.length:=by omega
  have h2:=hc2 i _ (List.getElem?_eq_getElem h1)
  exact ⟨rows[i],rows[i][j]'(by omega),List.getElem?_eq_getElem h1,List.getElem?_eq_getElem (by omega)⟩
 have hlow:∀ b,(T b/\∀ g,σ k=some g->g.g≠b)->T b:=fun b h=>h.1
 have harg:ck (dk (fun _=>none) (fun b=>T b/\∀ g,σ k=some g->g.g≠b) w) [.c (.d (.r K (l.map id)))] (c.args.map a.eval).toList:=by
  have hargs:(c.args.map a.eval).toList=[a.eval x]:=by rw [ha];simp
  rw [hargs,List.map_id]
  refine ⟨?_,trivial⟩
  show bl _ w (.r K l) (a.eval x)
  rcases hxv with ⟨h0,h1⟩|⟨g,hg,h1,h2,h3⟩
  ·rw [h1]
   have:l=[]:=List.eq_nil_of_length_eq_zero (by omega)
   rw [this];exact bl.nil _ _ _
  ·rw [h1]
   obtain ⟨q1,q2⟩:=hc3 g hg
   have:=bl.r (T:=fun b=>T b/\∀ g,σ k=some g->g.g≠b) (w:=w) K l g.g (0 * K) (g.c - 0) cs (C.ef _ q1) (fun hb=>hb.2 g hg rfl) (by omega) (by omega) (fun i row hr=>by obtain ⟨_,rfl⟩:=hli i row hr;simp) (fun i row j d hr hd=>?_) (fun i row j d hr hd=>?_)
   ·rw [hll] at this;exact this
   ·obtain ⟨hj,rfl⟩:=hlj i row j d hr hd
    obtain ⟨row',d',r1,r2⟩:=at_ i j (hli i row hr).1 hj
    rw [Nat.zero_mul,Nat.zero_add];exact q2 i row' j d' r1 r2
   ·obtain ⟨hj,rfl⟩:=hlj i row j d hr hd
    obtain ⟨row',d',r1,r2⟩:=at_ i j (hli i row hr).1 hj
    have h5:=hc1 i row' j d' r1 r2
    exact .v _ ((show cL σ T w (.d d') _ from h5).one rfl)
 refine my ho hc hen ((hF l hll _ w _ (fun b h=>C.ef b h.1) harg).mono ?_)
 rintro e w' ⟨v,σ',T',rfl,B,R⟩
 have hk2:σ k2=none:=hnew k2 _ List.mem_cons_self (by simp)
 have hgrow:Grow σ (fun j=>if j=k2 then σ' 0 else σ j) T (fun b=>T b\/T' b) w w' (fun b=>∃ k∈([]:List Nat),∃ g,σ k=some g/\g.g=b):=⟨B.size,fun b hb _=>B.block b hb,(fun b ⟨k,hk,_⟩=>by cases hk),fun b hb h=>h.elim id fun h=>(R.kQ b hb h).1,fun j g hj=>by
  show (if j=k2 then σ' 0 else σ j)=some g
  rw [if_neg (fun e=>by rw [e,hk2] at hj;cases hj)];exact hj⟩
 refine ⟨v,rfl,v,fun j=>if j=k2 then σ' 0 else σ j,fun b=>T b\/T' b,rfl,⟨B.os,B.tape,B.output,hgrow,fun b h=>.inl h,fun b h=>h.elim (fun h=>Nat.lt_of_lt_of_le (C.ef b h) B.size) (R.ef b),fun j hj=>if_neg fun e=>hj (.arr t K rows) (by subst e;exact List.mem_cons_self),fun j b hj=>?_,fun j b g hj hg=>?_,fun j j' b b' g g' hj hj' _ _ _=>?_⟩,?_⟩
 ·simp only [List.mem_cons,List.not_mem_nil,or_false,Prod.mk.injEq] at hj
  obtain ⟨rfl,rfl⟩:=hj
  have h1:=R.heap 0 _ List.mem_cons_self
  rw [List.map_id] at h1
  show cZ _ _ w' (if j=j then σ' 0 else σ j) (.arr t K rows)
  rw [if_pos rfl]
  refine ⟨hK,?_⟩
  rcases h1.2 with ⟨h2,h3⟩|⟨g,vs,h2,h3,h4,h5,h6,h7⟩
  ·left
   refine ⟨List.eq_nil_of_length_eq_zero ?_,h3⟩
   rw [h2] at hll;simp at hll;omega
  ·refine .inr ⟨g,vs,h2,.inr h3,h4,h5,h6,?_,fun i row hr=>⟨hc2 i row hr,fun j' d hd=>?_⟩⟩
   ·have:=h7.1;rw [hll] at this;rw [hn];exact this
   ·have hi:i < n:=by have:=(List.getElem?_eq_some_iff.1 hr).1;omega
    have hj:j' < K:=by have:=(List.getElem?_eq_some_iff.1 hd).1;have:=hc2 i row hr;omega
    have hr':l[i]?=some ((List.range K).map fun j=>D.v (cs i j)):=by rw [hl,List.getElem?_map,List.getElem?_range hi];rfl
    have hd':((List.range K).map fun j=>D.v (cs i j))[j']?=some (D.v (cs i j')):=by rw [List.getElem?_map,List.getElem?_range hj];rfl
    obtain ⟨u,hu,hr2⟩:=(h7.2 i _ hr').2 j' _ hd'
    refine ⟨u,hu,?_⟩
    rw [bl.inv hr2]
    exact (hc1 i row j' d hr hd).grow hgrow
 ·simp only [List.mem_cons,List.not_mem_nil,or_false,Prod.mk.injEq] at hj
  obtain ⟨rfl,rfl⟩:=hj
  have hg:(if j=j then σ' 0 else σ j)=some g:=hg
  rw [if_pos rfl] at hg
  exact .inl (R.fresh 0 _ g List.mem_cons_self hg)
 ·simp only [List.mem_cons,List.not_mem_nil,or_false,Prod.mk.injEq] at hj hj'
  rw [hj.1,hj'.1]
 ·have hr:cL σ' T' w' (.s 0 0 K l.length) v:=R.rel
  rw [hll] at hr
  rcases hr with h|⟨g,h1,h2⟩
  ·exact .inl h
  ·exact .inr ⟨g,by show (if k2=k2 then σ' 0 else σ k2)=some g;rw [if_pos rfl];exact h1,h2⟩
end
end
section
section
variable {P:Program}
theorem cA.Ed {f:FuncId} {fn:Func} {c:Code} {ins:List GV} {bL:List (Nat×AB)} {cF:List Nat} {av:AV} {nb:List (Nat×AB)} (N:Nat) (s:List (Nat×AV)) (n:Nat) (hf:P.funcs[f]?=some fn) (hb:fn.body=some c) (hn:fn.ntmps=N) (hN:Nat.ble ins.length N=true) (hs:slotsOf 0 ins=s)
  (hin0:eh (keys bL)=true) (hin1:bL.all (fun x=>Nat.blt x.1 n)=true) (hok:ins.all (GV.ok (bh bL))=true) (hokb:bL.all (fun x=>x.2.ok (bh bL))=true) (hkeep:cF.all (fun k=>bh bL k)=true)
  (h:∀ (W0:World) (F T:Nat->Prop) (pg:Nat->bK),(∀ b,F b->∃ k∈keys bL,(pg k).g=b)->AC P W0 F (N,[]) T (cF.map fun k=>(k,pg k)) (jT P fn (cF.map fun k=>(k,pg k)) av nb) c ⟨s,bL,n⟩):cA P f ins bL cF av nb:=by
 subst hn hs
 intro T σ w args hT hheap hinj hk hargs
 have hlen:=hargs.length
 have hlen:ins.length=args.size:=by simpa using hlen
 have hN:=Nat.le_of_ble_eq_true hN
 let σ0:Nat->Option bK:=fun k=>if bh bL k=true then σ k else none
 have hσ:∀ k,bh bL k=true->σ0 k=σ (id k):=fun k hk=>if_pos hk
 have hnd:=jC hin0
 let pg:Nat->bK:=fun k=>(σ k).getD ⟨0,0⟩
 have F:Nat->Prop:=fun b=>True
 clear F
 refine calls_of_wp hf hb (Code.wp_mono ?_ (h w (fun b=>∃ k∈keys bL,∃ g,σ k=some g/\g.g=b) T pg (fun b ⟨k,hk,g,hg,hb⟩=>⟨k,hk,by show ((σ k).getD ⟨0,0⟩).g=b;rw [hg];exact hb⟩) _ w ⟨σ0,T,fun _ _=>⟨fun h=>h,fun h=>h⟩,⟨⟨?_,?_,?_,hT⟩,rfl,rfl,rfl,Nat.le_refl _,fun _ _ _=>rfl,?_,?_,?_,?_,rfl⟩,?_⟩))
 ·rintro e a' w' ⟨st,⟨he,st',gs,hw,hr,rfl,hnb⟩,hI⟩
  obtain ⟨σ',T',hT',S,hp⟩:=hw _ _ _ _ _ _ hI
  obtain ⟨v,hv,hrel⟩:=mm S.core hr
  have hpost:a'.defers=[]/\∃ v,(results fn a'.tmps).run P w'=.ok v w'/\∃ v' σ' T',Ending.returned v=.returned v'/\Cz σ T w bL cF w' σ' T' (fL gs) nb v':=by
   refine ⟨S.iA,v,hv,v,σ',T',rfl,S.os,S.tape,S.output,S.size,fun b hb hno=>S.cu b hb ?_,hrel,fun b hb=>(hT' b hb).1,fun b hb=>(hT' b (hT b hb)).2 hb,S.core.ef,fun k b hk=>S.core.heap k b (hnb.mem _ hk),fun k b g hk hg=>?_,
    fun k k' b b' g g' hk hk' hg hg' hgg=>S.core.inj k k' b b' g g' (hnb.mem _ hk) (hnb.mem _ hk') hg hg' hgg,fun k hkk=>?_⟩
   ·rintro ⟨k,hk,g,hg,hgb⟩;exact hno k hk g hg hgb
   ·rcases S.own k b g (hnb.mem _ hk) hg with h|⟨e,he,g',hg',hgg⟩
    ·exact .inl h
    ·exact .inr ⟨e,he,g',hg',hgg⟩
   ·obtain ⟨g,hg⟩:=hk k hkk
    have hl:=oA pg hkk
    have hpg:pg k=g:=by show (σ k).getD ⟨0,0⟩=g;rw [hg];rfl
    rw [hg,<-hpg]
    exact hp k _ hl
  rcases he with rfl|rfl<;>exact hpost
 ·intro i v hi
  obtain ⟨g,rfl,_,hg⟩:=lq hi
  obtain ⟨x,hx,hrel⟩:=hargs.get hg
  have hx':(args++Array.replicate (fn.ntmps - args.size) undef).getD i undef=x:=by
   rw [Nat.sub_zero] at hx
   have hlt:=(List.getElem?_eq_some_iff.1 hx).1
   rw [Array.getD_eq_getD_getElem?,Array.getElem?_append_left (by simpa using hlt),<-Array.getElem?_toList,hx]
   rfl
  rw [hx']
  have hgo:=List.all_eq_true.1 hok g (List.mem_of_getElem? hg)
  have hid:g.map id=g:=by cases g with
   |c x=>cases x<;>simp [GV.map,CV.map]
   |g xs=>
    have:xs.map (CV.map id)=xs:=by
     induction xs with
     |nil=>rfl
     |cons y l ih=>
      have hy:y.map id=y:=by cases y<;>simp [CV.map]
      simp only [List.map_cons,hy]
      congr 1
      induction l with
      |nil=>rfl
      |cons z l _=>exact (by
        have hz:∀ c:CV,c.map id=c:=fun c=>by cases c<;>simp [CV.map]
        exact List.map_congr_left (fun c _=>hz c)|>.trans (List.map_id _))
    simp [GV.map,this]
  exact dk.bY (ρ:=id) hσ (x:=g) (by rw [hid];exact hrel) hgo
 ·intro k b hk
  have hm:=bI hk
  have hkin:bh bL k=true:=cM hm
  rw [hσ k hkin]
  have hgo:=List.all_eq_true.1 hokb _ hm
  refine cZ.bY (ρ:=id) hσ ?_ hgo
  have hz:∀ c:CV,c.map id=c:=fun c=>by cases c<;>simp [CV.map]
  have hid:b.map' id=b:=by cases b with
   |box t cs=>simp only [AB.map'];congr 1;exact (List.map_congr_left (fun c _=>hz c)).trans (List.map_id _)
   |arr=>rfl
   |map=>rfl
  rw [hid]
  exact hheap k b hm
 ·intro k k' b b' g g' hk hk' hg hg' hgg
  rw [hσ k (cM (bI hk))] at hg
  rw [hσ k' (cM (bI hk'))] at hg'
  exact hinj k k' b b' g g' (bI hk) (bI hk') hg hg' hgg
 ·intro k b g hk hg
  rw [hσ k (cM (bI hk))] at hg
  exact .inr ⟨k,List.mem_map.2 ⟨(k,b),bI hk,rfl⟩,g,hg,rfl⟩
 ·intro k hk
  refine if_neg fun hkin=>?_
  obtain ⟨b,hb⟩:=gi hkin
  have:=List.all_eq_true.1 hin1 _ hb
  rw [Nat.blt_eq] at this
  have:k < n:=this
  have hk:n<=k:=hk
  omega
 ·intro k b hk
  have:=List.all_eq_true.1 hin1 _ (bI hk)
  rw [Nat.blt_eq] at this
  exact this
 ·simp;omega
 ·intro k g hl
  obtain ⟨k',hk',he⟩:=List.mem_map.1 (bI hl)
  injection he with e1 e2
  subst e1
  have hkin:=List.all_eq_true.1 hkeep k' hk'
  rw [hσ k' hkin]
  obtain ⟨g',hg'⟩:=hk k' hk'
  subst e2
  show σ k'=some ((σ k').getD ⟨0,0⟩)
  rw [hg'];rfl
end
section
variable {P:Program} {W0:World} {N:NT} {T0:Nat->Prop} {Q:Exit->aF->Prop} {s s':List (Nat×AV)} {h h':List (Nat×AB)} {n:Nat}
theorem wD {a:Go.Act} {w:World} (k:Nat) (k0:Nat) {g0:bK} {F:Nat->Prop} (hF:∀ b,F b->g0.g=b) (hk0:bh h' k0=true) (hk:bh h k=true) (hs:df (fun x=>∃ y,look s x.1=some y/\xR ⟨s,h,n⟩ k (bh h') y x.2) s') (hh:df (fun x=>look h x.1=some x.2) h') (hok:h'.all (fun x=>!Nat.beq x.1 k && x.2.ok (bh h'))=true)
  (hI:Inv W0 F N T0 [(k0,g0)] ⟨s,h,n⟩ a w):Inv W0 F N T0 [(k0,g0)] ⟨s',h',n⟩ a w:=by
 obtain ⟨σ,T,hT,S,hp⟩:=hI
 obtain ⟨b0,hb0⟩:=iR hk
 have hh':∀ j b,look h' j=some b->look h j=some b/\j≠k/\b.ok (bh h')=true:=fun j b hj=>by
  have h1:=List.all_eq_true.1 hok _ (bI hj)
  simp only [Bool.and_eq_true,Bool.not_eq_true'] at h1
  exact ⟨hh.mem _ (bI hj),(fun e=>by subst e;rw [Nat.beq_refl] at h1;exact absurd h1.1 (by simp)),h1.2⟩
 have C:=S.core.freeze (st':=⟨s',h',n⟩) k (fun i v hi=>hs.mem _ (bI hi)) hh' ⟨b0,hb0⟩
 have q1:∀ b,b < W0.heap.size->(eI σ T [k] b->T0 b)/\(T0 b->eI σ T [k] b):=fun b hb=>⟨fun hb'=>(hT b hb).1 hb'.1,fun h0=>⟨(hT b hb).2 h0,fun e he g hg hgb=>by
  rw [List.mem_singleton.1 he] at hg
  rcases S.own k b0 g hb0 hg with h1|h1
  ·omega
  ·obtain ⟨b1,hb1⟩:=iR hk0
   have hb2:=hh' k0 b1 hb1
   exact absurd (S.core.inj k0 k b1 b0 g0 g hb2.1 hb0 (hp k0 g0 (by rw [bD,if_pos rfl])) hg (hF _ h1)) hb2.2.1⟩⟩
 have q2:∀ j b g,look h' j=some b->(if bh h' j=true then σ j else none)=some g->W0.heap.size<=g.g\/F g.g:=fun j b g hj hg=>by
  split at hg
  ·exact S.own j b g (hh' j b hj).1 hg
  ·cases hg
 have q3:∀ j,n<=j->(if bh h' j=true then σ j else none)=none:=fun j hj=>by
  split
  ·exact S.next j hj
  ·rfl
 exact ⟨_,_,q1,⟨C,S.os,S.tape,S.output,S.size,S.cu,q2,q3,fun j b hj=>S.hn j b (hh' j b hj).1,S.iV,S.iA⟩,fun j g hj=>by
  show (if bh h' j=true then σ j else none)=some g
  have h1:=hp j g hj
  rw [bD] at hj
  split at hj
  ·rename_i e;subst e;rw [if_pos hk0];exact h1
  ·cases hj⟩

theorem rX {c:Code} {F:Nat->Prop} {g0:bK} (hF:∀ b,F b->g0.g=b) (k:Nat) (hk0:bh h' 0=true) (hk:bh h k=true) (hs:df (fun x=>∃ y,look s x.1=some y/\xR ⟨s,h,n⟩ k (bh h') y x.2) s') (hh:df (fun x=>look h x.1=some x.2) h') (hok:h'.all (fun x=>!Nat.beq x.1 k && x.2.ok (bh h'))=true)
  (hn:AC P W0 F N T0 [(0,g0)] Q c ⟨s',h',n⟩):AC P W0 F N T0 [(0,g0)] Q c ⟨s,h,n⟩:=fun a w hI=>hn a w (wD k 0 hF hk0 hk hs hh hok hI)
end
section
variable {P:Program} {W0:World} {F:Nat->Prop} {N:NT} {T0:Nat->Prop} {pin:List (Nat×bK)} {ops:Array Oper} {Q:Exit->aF->Prop}
theorem Fp {o:Oper} {rest:List Oper} {s:List (Nat×AV)} {h:List (Nat×AB)} {n d:Nat} {av av':AV} {nb:List (Nat×AB)} (hw:ak ops o ⟨s,h,n⟩) (g:aK P o ⟨s,h,n⟩ av nb []) (hf:Fm nb av av') (hd:o.dst=some d) (hN:Nat.blt d N.1=true) (hnb:nb.all (fun x=>Nat.ble n x.1)=true)
  (hr:AL P W0 F N T0 pin ops Q rest ⟨(d,av')::s,h,n⟩):AL P W0 F N T0 pin ops Q (o::rest) ⟨s,h,n⟩:=by
 rintro a w ⟨σ,T,hT,S,hp⟩
 refine wpList_step fun K hK=>?_
 rw [if_pos (hw σ T a w S.core)]
 refine mS (ib (g σ T a w S.core fun k b hk _=>S.next k (Nat.le_of_ble_eq_true (List.all_eq_true.1 hnb _ hk))) ?_)
 rintro a' w' ⟨u,σ',T',rfl,X,hv⟩
 have hfresh:∀ k b g,(k,b)∈nb->σ' k=some g->w.heap.size<=g.g:=fun k b g hk hg=>(X.fresh k b g hk hg).resolve_right (fun ⟨e,he,_⟩=>by cases he)
 have hlow:∀ b,(T' b/\b < w.heap.size)->T' b:=fun b h=>h.1
 have X2:Ext σ T w σ (fun b=>T' b/\b < w.heap.size) w' [] []:=⟨X.os,X.tape,X.output,⟨X.grow.size,X.grow.cu,(fun b ⟨k,hk,_⟩=>by cases hk),fun b hb h=>X.grow.kQ b hb h.1,fun _ _ h=>h⟩,fun b h=>⟨X.lY b h,S.core.ef b h⟩,fun b h=>X.ef b h.1,fun _ _=>rfl,(fun _ _ h=>by cases h),(fun _ _ _ h=>by cases h),(fun _ _ _ _ _ _ h=>by cases h)⟩
 have hc:∀ c d u,yV nb c d->cL σ' T' w' c u->cL σ (fun b=>T' b/\b < w.heap.size) w' d u:=by
  rintro c d u (⟨x,rfl,rfl⟩|⟨k,t,K,n,rows,rfl,rfl,hk,hn⟩) hu
  ·exact bl.fw hlow hu
  ·have hh:=X.rel k _ (bI hk)
   obtain ⟨hK,hh⟩:=hh
   rcases hu with ⟨h0,rfl⟩|⟨g,hg,rfl,hcap,hmax⟩
   ·subst h0
    have:rows=[]:=List.eq_nil_of_length_eq_zero hn
    subst this
    exact bl.nil _ _ _
   ·rcases hh with ⟨h1,h2⟩|⟨g',vs,h1,h2,h3,h4,h5,h6⟩
    ·rw [hg] at h2;cases h2
    ·rw [hg] at h1;injection h1 with h1;subst h1
     have hfr:=hfresh k _ g (bI hk) hg
     have:=bl.r (T:=fun b=>T' b/\b < w.heap.size) (w:=w') K rows g.g (0 * K) (g.c - 0) (fun i j=>(vs[i * K+j]?).getD undef) (X.ef _ h2) (fun hb=>by have:=hb.2;omega) (by omega) (by omega) (fun i row hr=>(h6.2 i row hr).1) (fun i row j d hr hd=>?_) (fun i row j d hr hd=>?_)
     ·rw [hn] at this;exact this
     ·obtain ⟨u,hu,_⟩:=(h6.2 i row hr).2 j d hd
      rw [Nat.zero_mul,Nat.zero_add,cell_of_row w' g.g (i * K+j) _ _ (0,0) h3]
      simp only [List.getElem?_toArray,hu,Option.getD_some]
     ·obtain ⟨u,hu,hr'⟩:=(h6.2 i row hr).2 j d hd
      simp only [hu,Option.getD_some]
      exact hr'.fw hlow
 have hgv:∀ c d u,yU nb c d->dk σ' T' w' c u->dk σ (fun b=>T' b/\b < w.heap.size) w' d u:=by
  intro c d u hcd hu
  match c,d,hcd with
  |.c c,.c d,hcd=>exact hc c d u hcd hu
  |.g cs,.g ds,hcd=>obtain ⟨vs,h1,h2⟩:=hu;exact ⟨vs,h1,ck.comp (fun x y z h1 h2=>hc x y z h1 h2) hcd h2⟩
 have hv2:ep σ (fun b=>T' b/\b < w.heap.size) w' av' u:=by
  match av,av',hf with
  |.v c,.v d,hf=>exact hgv c d u hf hv
  |.t cs,.t ds,hf=>obtain ⟨vs,h1,h2⟩:=hv;exact ⟨vs,h1,ck.comp (fun x y z h1 h2=>hgv x y z h1 h2) hf h2⟩
 have hS:=S.step (nb:=[]) (E:=[]) (dst:=o.dst) (fun _ h=>by cases h) (fun d' h'=>by rw [hd] at h';injection h' with h';subst h';rw [Nat.blt_eq] at hN;exact hN) X2 hv2
 rw [add_nil,hd] at hS
 rw [hd]
 exact hK _ _ (hr _ _ ⟨σ,_,fun b hb=>⟨fun hb'=>(hT b hb).1 (X.grow.kQ b (Nat.lt_of_lt_of_le hb S.size) hb'.1),fun h0=>⟨X.lY b ((hT b hb).2 h0),Nat.lt_of_lt_of_le hb S.size⟩⟩,hS,hp⟩)
end
end
section
def mb (a:Answer):Value:=.agg #[.int .i64 a.err,.int .i64 a.ba]
def tV (ps:List (Int×Answer)):List (Int×Value):=ps.map fun p=>(p.1,mb p.2)
def iD:List (Int×Answer)->Int->Option Answer
 |[],_=>none
 |(k,v)::l,a=>if k=a then some v else iD l a
def oa:List (Int×Answer)->Int->Answer->List (Int×Answer)
 |[],a,v=>[(a,v)]
 |(k,u)::l,a,v=>if k=a then (a,v)::l else (k,u)::oa l a v
theorem oK {a:Int}:∀ {ps:List (Int×Answer)} {ms:List MapEntry} (i:Nat),ms.map (fun e=>(e.key,e.val))=(tV ps).map (fun e=>(Value.int .i64 e.1,e.2))->
  (∃ j v,Instr.findNow (.int .i64) (.int .i64 a) ms i=some (some (i+j,mb v))/\iD ps a=some v/\(∃ e,ms[j]?=some e/\e.key=.int .i64 a)/\∀ u,tV (oa ps a u)=(tV ps).set j (a,mb u))\/
  (Instr.findNow (.int .i64) (.int .i64 a) ms i=some none/\iD ps a=none/\∀ u,oa ps a u=ps++[(a,u)])
 |[],[],i,_=>.inr ⟨rfl,rfl,fun _=>rfl⟩
 |[],_::_,_,h=>by cases h
 |_::_,[],_,h=>by cases h
 |(k,v)::ps,e::ms,i,h=>by
  obtain ⟨h1,h2⟩:=List.cons.inj h
  injection h1 with h3 h4
  unfold Instr.findNow iD oa
  rw [h3,h4]
  by_cases hk:k=a
  ·subst hk
   exact .inl ⟨0,v,by simp [Instr.sameNow],by simp,⟨e,rfl,h3⟩,fun u=>by simp [tV]⟩
  ·have hk':(a==k)=false:=beq_eq_false_iff_ne.2 fun e=>hk e.symm
   rcases oK (ps:=ps) (ms:=ms) (a:=a) (i+1) h2 with ⟨j,w,h5,h6,⟨e',h7,h8⟩,h9⟩|⟨h5,h6,h7⟩
   ·refine .inl ⟨j+1,w,?_,by simp [hk,h6],⟨e',by simpa using h7,h8⟩,fun u=>?_⟩
    ·simp only [Instr.sameNow,hk',h5]
     simp [show i+1+j=i+(j+1) by omega]
    ·rw [if_neg hk]
     have:=h9 u
     simp only [tV] at this ⊢
     simp [this]
   ·exact .inr ⟨by simp [Instr.sameNow,hk',h5],by simp [hk,h6],fun u=>by rw [if_neg hk,h7];rfl⟩
section
variable {P:Program} {st:aF} {o:Oper}
theorem Ag {t kt et:TypeId} {m x:Operand} {k cl:Nat} {a:Int} {ps:List (Int×Answer)} (hu:P.underlying t=some (.map kt et)) (hkt:P.underlying kt=some (.int .i64)) (hz:(P.info? et).bind (fun i=>i.zero)=some (.agg #[.int .i64 0,.int .i64 0])) (ho:o.op=.lookup t m x true)
  (hm:ev st m (.v (.c (.m k)))) (hx:ev st x (.v (.c (.d (.v (.int .i64 a)))))) (hb:look st.h k=some (.map (tV ps) cl)):
  aK P o st (.t [.g [cI ((iD ps a).getD ⟨0,0⟩).err,cI ((iD ps a).getD ⟨0,0⟩).ba],.c (cB (iD ps a).isSome)]) [] []:=
 aK.val fun σ T ac w C=>by
  obtain ⟨g,h1,h2⟩:=bO C hm
  have h3:=bl.inv (bO C hx)
  obtain ⟨g',ms,e1,e2,e3,e4⟩:=C.heap k _ hb
  rw [h1] at e1;injection e1 with e1;subst e1
  refine ⟨.tuple #[mb ((iD ps a).getD ⟨0,0⟩),.bool (iD ps a).isSome],?_,⟨_,rfl,⟨_,rfl,bl.v _ rfl,bl.v _ rfl,trivial⟩,bl.v _ rfl,trivial⟩⟩
  cases hq:P.info? et with
  |none=>simp [hq] at hz
  |some i=>
   have hzz:i.zero=some (.agg #[.int .i64 0,.int .i64 0]):=by simpa [hq] using hz
   unfold execOp
   rcases oK (a:=a) 0 e4 with ⟨j,v,hf,hg,_⟩|⟨hf,hg,_⟩
   ·simp [ho,h2,h3,hg,Instr.lookup,run_underlying hu,MapKept.run_getObj_map e3,MapKept.run_checkKey hkt (show MapKept.IsKey (.int .i64) (.int .i64 a) from rfl),MapKept.run_findKey hkt hf,Result.andThen]
   ·simp [ho,h2,h3,hg,Instr.lookup,run_underlying hu,MapKept.run_getObj_map e3,MapKept.run_checkKey hkt (show MapKept.IsKey (.int .i64) (.int .i64 a) from rfl),MapKept.run_findKey hkt hf,Result.andThen,zeroValue,typeInfo,hq,hzz,mb]
theorem Ae {t kt et:TypeId} {m x y:Operand} {k cl:Nat} {a e u:Int} {ps:List (Int×Answer)} (hu:P.underlying t=some (.map kt et)) (hkt:P.underlying kt=some (.int .i64)) (ho:o.op=.mapUpdate t m x y)
  (hm:ev st m (.v (.c (.m k)))) (hx:ev st x (.v (.c (.d (.v (.int .i64 a)))))) (hy:ev st y (.v (.g [cI e,cI u]))) (hb:look st.h k=some (.map (tV ps) cl)):
  aK P o st (.v (.c .any)) [(k,.map (tV (oa ps a ⟨e,u⟩)) (if (iD ps a).isSome then cl else cl+1))] [k]:=by
 intro σ T ac w C _
 obtain ⟨g,h1,h2⟩:=bO C hm
 have h3:=bl.inv (bO C hx)
 obtain ⟨vs,h4,h5⟩:=bO C hy
 have h4:ac.eval y=mb ⟨e,u⟩:=by
  match vs,h5 with
  |[v1,v2],h5=>rw [h4,bl.inv h5.1,bl.inv h5.2.1];rfl
 obtain ⟨g',ms,e1,e2,e3,e4⟩:=C.heap k _ hb
 rw [h1] at e1;injection e1 with e1;subst e1
 have hlt:=(Array.getElem?_eq_some_iff.1 e3).1
 rcases oK (a:=a) 0 e4 with ⟨j,v,hf,hg,⟨e0,hj,hk⟩,hp⟩|⟨hf,hg,hp⟩
 ·rw [Nat.zero_add] at hf
  have hj':ms[j]?=some e0:=by simpa using hj
  refine mR (w':={w with heap:=w.heap.setIfInBounds g.g (.map (ms.modify j fun e'=>{e' with key:=.int .i64 a,val:=mb ⟨e,u⟩}) cl)}) ?_ ⟨undef,σ,T,rfl,Ext.write C hb h1 rfl rfl rfl (by simp) (fun i hi=>(MapKept.heap_set e3).2 i hi) fun G=>?_,trivial⟩
  ·unfold execOp
   simp [ho,h2,h3,h4,Instr.mapUpdate,Sem.run_bind,run_underlying hu,Result.andThen_ok,MapKept.run_getObj_map e3,MapKept.run_checkKey hkt (show MapKept.IsKey (.int .i64) (.int .i64 a) from rfl),MapKept.run_findKey hkt hf,hj',hk,MapKept.run_keyThatStays (show MapKept.IsKey (.int .i64) (.int .i64 a) from rfl),MapKept.run_setObj_map _ e3]
  ·refine ⟨g,(ms.modify j fun e'=>{e' with key:=.int .i64 a,val:=mb ⟨e,u⟩}),rfl,e2,?_,?_⟩
   ·rw [hg];exact (MapKept.heap_set e3).1
   ·rw [hp,List.map_set,<-e4]
    refine List.ext_getElem? fun q=>?_
    rw [List.getElem?_map,Array.getElem?_toList,Array.getElem?_modify,List.getElem?_set,List.getElem?_map,Array.getElem?_toList]
    by_cases hq:j=q
    ·subst hq
     have hjl:=(Array.getElem?_eq_some_iff.1 hj').1
     simp [hj',hjl]
    ·simp [hq]
 ·refine mR (w':={w with heap:=w.heap.setIfInBounds g.g (.map (ms.push {key:=.int .i64 a,val:=mb ⟨e,u⟩,born:=cl}) (cl+1))}) ?_ ⟨undef,σ,T,rfl,Ext.write C hb h1 rfl rfl rfl (by simp) (fun i hi=>(MapKept.heap_set e3).2 i hi) fun G=>?_,trivial⟩
  ·unfold execOp
   simp only [ho,h2,h3,h4,Instr.mapUpdate,Sem.run_bind,run_underlying hu,Result.andThen_ok,MapKept.run_getObj_map e3,MapKept.run_checkKey hkt (show MapKept.IsKey (.int .i64) (.int .i64 a) from rfl),MapKept.run_findKey hkt hf,MapKept.run_setObj_map _ e3]
   rfl
  ·refine ⟨g,(ms.push {key:=.int .i64 a,val:=mb ⟨e,u⟩,born:=cl}),rfl,e2,?_,?_⟩
   ·rw [hg];exact (MapKept.heap_set e3).1
   ·rw [hp,Array.toList_push,List.map_append,e4]
    simp [tV]
theorem yy {t:TypeId} (k:Nat) (ho:o.op=.makeMap t none):aK P o st (.v (.c (.m k))) [(k,.map (tV []) 0)] []:=Af k ho
end
end
section
def du {α:Type} (p:α->Bool) (l:List α):List α:=l.filter fun x=>!p x
def gO {α:Type} (p:α->Bool) (l:List α):Int:=
 match l.findIdx? p with
 |some i=>i
 |none=>-1
variable {α:Type} {p:α->Bool} {l c:List α} {i j q:Nat} {x:α}
theorem np (h:l[j]?=some x):du p (l.take (j+1))=du p (l.take j)++if p x then [] else [x]:=by
 rw [iE h,du,du,List.filter_append]
 cases hp:p x<;>simp [hp]
theorem oC (p:α->Bool) (l:List α):(du p l).length<=l.length:=List.length_filter_le _ _
theorem tz (h:(l.take q).all (fun y=>!p y)=true) (hx:l[q]?=some x) (hp:p x=true):gO p l=q:=by
 unfold gO
 have hq:=(List.getElem?_eq_some_iff.1 hx).1
 have:l.findIdx? p=some q:=by
  rw [List.findIdx?_eq_some_iff_getElem]
  refine ⟨hq,?_,fun r hr=>?_⟩
  ·have:=(List.getElem?_eq_some_iff.1 hx).2;rw [this];exact hp
  ·rw [List.all_eq_true] at h
   have hm:l[r]'(by omega)∈l.take q:=by
    rw [List.mem_iff_getElem]
    exact ⟨r,by rw [List.length_take];omega,by simp⟩
   have:=h _ hm
   simpa using this
 rw [this]
theorem vp (h:l.all (fun y=>!p y)=true):gO p l=-1:=by
 unfold gO
 have:l.findIdx? p=none:=by
  rw [List.findIdx?_eq_none_iff]
  intro y hy
  have:=List.all_eq_true.1 h y hy
  simpa using this
 rw [this]
theorem wg (h:(l.take q).all (fun y=>!p y)=true) (hx:l[q]?=some x) (hp:p x=false):(l.take (q+1)).all (fun y=>!p y)=true:=xN h hx (by simp [hp])
theorem tC (p:α->Bool) (l:List α):(gO p l=-1/\du p l=l)\/∃ i:Nat,gO p l=i/\i < l.length/\∃ x,l[i]?=some x/\p x=true/\du p (l.take i)=l.take i:=by
 unfold gO
 cases h:l.findIdx? p with
 |none=>
  refine .inl ⟨rfl,?_⟩
  rw [List.findIdx?_eq_none_iff] at h
  exact List.filter_eq_self.2 fun y hy=>by simp [h y hy]
 |some i=>
  rw [List.findIdx?_eq_some_iff_getElem] at h
  obtain ⟨h1,h2,h3⟩:=h
  refine .inr ⟨i,rfl,h1,l[i],List.getElem?_eq_getElem h1,h2,?_⟩
  refine List.filter_eq_self.2 fun y hy=>?_
  obtain ⟨r,hr,rfl⟩:=List.mem_iff_getElem.1 hy
  rw [List.length_take] at hr
  have:=h3 r (by omega)
  simp [this]
structure kR (p:α->Bool) (l c:List α) (i j:Nat):Prop where
 len:c.length=l.length
 ij:i < j
 jl:j<=l.length
 pre:c.take i=du p (l.take j)
 post:c.drop j=l.drop j
theorem kR.get (h:kR p l c i j) (hx:c[j]?=some x):l[j]?=some x:=by
 have h1:(c.drop j)[0]?=(l.drop j)[0]?:=by rw [h.post]
 simpa [hx] using h1.symm
theorem kR.skip (h:kR p l c i j) (hx:c[j]?=some x) (hp:p x=true):kR p l c i (j+1):=by
 have hl:=h.get hx
 have hj:=(List.getElem?_eq_some_iff.1 hl).1
 refine ⟨h.len,Nat.lt_succ_of_lt h.ij,hj,?_,?_⟩
 ·rw [np hl,hp,h.pre];simp
 ·rw [<-List.drop_drop,<-List.drop_drop,h.post]
theorem kR.cF (h:kR p l c i j) (hx:c[j]?=some x) (hp:p x=false):kR p l (c.set i x) (i+1) (j+1):=by
 have hl:=h.get hx
 have hj:=(List.getElem?_eq_some_iff.1 hl).1
 have hi:i < c.length:=by have:=h.ij;rw [h.len];omega
 refine ⟨by rw [List.length_set];exact h.len,Nat.succ_lt_succ h.ij,hj,?_,?_⟩
 ·rw [np hl,hp,<-h.pre]
  rw [List.take_succ_eq_append_getElem (by rw [List.length_set];exact hi)]
  simp [List.take_set_of_le]
 ·rw [List.drop_set_of_lt (by have:=h.ij;omega),<-List.drop_drop,<-List.drop_drop,h.post]
theorem kR.start {i:Nat} (hx:l[i]?=some x) (hp:p x=true) (hk:du p (l.take i)=l.take i):kR p l l i (i+1):=by
 have hi:=(List.getElem?_eq_some_iff.1 hx).1
 refine ⟨rfl,Nat.lt_succ_self i,hi,?_,rfl⟩
 rw [np hx,hp,hk];simp
theorem kR.done (h:kR p l c i j) (hj:l.length<=j):c.take i=du p l:=by
 rw [h.pre,List.take_of_length_le hj]
end
section
section
variable {α:Type} [DecidableEq α] {a b:List α}
end
end
end Go.Proofs.Ytegepioggeggaaa.Dev
