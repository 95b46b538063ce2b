/- A part of the proof: Sh7, Sh8, Sh9, Sh10, Sh11. No condition. -/
import Derived.Test.YtegepioggeggaaaD00
import Derived.StillTail
set_option linter.unusedVariables false
set_option linter.unusedSimpArgs false
namespace Go.Proofs.Ytegepioggeggaaa.Dev
open Go.RowKit
section

section
variable {P:Program} {st:aJ} {o:Oper}
theorem ry {w:World} {t e K bytes:Nat} (S:hJ P t e K bytes) (ty:TypeId) {v:Value} {n:Nat} {xs:List Value} (hown:w.ownsRow 0 e K v n xs) {T:Nat->Prop} {rows:List (List D)} {x:Value}
  (hx:(rows=[]/\∃ A c,x=.slice A 0 c)\/∃ b off c vs,x=.slice (some ⟨b,off,none⟩) rows.length c/\rows.length<=c/\c<=9223372036854775807/\Flat T w K rows ⟨b,off,none⟩ vs) (h63:n+rows.length<=9223372036854775807) (hb:(n+rows.length) * bytes<=140737488355328):
  ∃ v' w' ys,(Builtin.append_ #[t,t] ty #[v,x]).run P w=.ok v' w'/\w'.ownsRow 0 e K v' (n+rows.length) (xs++ys)/\w.grownBy w' v.ownBlock/\(v'.ownBlock=v.ownBlock\/v'.ownBlock=some w.heap.size)/\ys.length=rows.length * K/\Rows T w K rows ys:=by
 obtain ⟨i,z,hi,hz,hs,hby,hzs⟩:=S.i
 have hm:n+rows.length<=maxLen:=by simp only [maxLen];omega
 rcases hx with ⟨rfl,A,c,rfl⟩|⟨b,off,c,vs,rfl,_,_,hf⟩
 ·cases A with
  |none=>
   refine ⟨v,w,[],?_,by simpa using hown,World.grownBy.refl w _,.inl rfl,by simp,⟨by simp,fun i row h=>by simp at h⟩⟩
   rcases hown.2 with ⟨rfl,rfl⟩|⟨g,cap,cur,rfl,_,_,hnc,_⟩
   ·simp [Builtin.append_,run_underlying S.u,sizeOf,typeInfo,hi,Builtin.lenOf,Builtin.firstCells]
   ·simp [Builtin.append_,run_underlying S.u,sizeOf,typeInfo,hi,Builtin.lenOf,Builtin.firstCells,hnc,storeCells]
  |some a=>
   obtain ⟨v',w',h1,h2,h3,_,h5⟩:=run_append_own_at (P:=P) w 0 t ty e i z K bytes S.u hi hz hs hby hzs S.K0 v n xs hown a 0 c [] (by simp) (fun j u h=>by simp at h) (fun u h=>by simp at h) hm hb (Nat.zero_le _)
   exact ⟨v',w',[],h1,h2,h3,h5,by simp,⟨by simp,fun i row h=>by simp at h⟩⟩
 ·obtain ⟨v',w',h1,h2,h3,_,h5⟩:=run_append_own_at (P:=P) w 0 t ty e i z K bytes S.u hi hz hs hby hzs S.K0 v n xs hown ⟨b,off,none⟩ rows.length c vs hf.len hf.cell hf.one hm hb (Nat.zero_le _)
  exact ⟨v',w',vs,h1,h2,h3,h5,hf.len,hf.mO⟩
theorem nM {T:Nat->Prop} {w:World} {K:Nat} {rows:List (List D)} {vs:List Value} {m:Nat} (h:Rows T w K rows (vs.take m)):Rows T w K rows vs:=by
 refine ⟨by have:=h.1;rw [List.length_take] at this;omega,fun i row hi=>⟨(h.2 i row hi).1,fun j d hd=>?_⟩⟩
 obtain ⟨u,hu,hr⟩:=(h.2 i row hi).2 j d hd
 rw [List.getElem?_take] at hu
 split at hu
 ·exact ⟨u,hu,hr⟩
 ·cases hu
theorem dx {x y:Operand} {c:Call} {t e K bytes k n m N k2:Nat} {rows ys zs:List (List D)} {v:AV} (hT:hJ P t e K bytes) (ho:o.op=.call c) (hc:c.callee=.builtin .append) (ha:c.args=#[x,y]) (hat:c.argTypes=#[t,t]) (hx:ev st x (.v (.c (.s k 0 K n)))) (hb:look st.h k=some (.arr e K rows)) (hn:rows.length=n)
  (hy:ev st y v) (hs:Src st v K ys) (hm:ys.length=m) (hN:n+m=N) (hz:rows++ys=zs) (hk:k2≠k) (h63:N<=9223372036854775807) (hby:N * bytes<=140737488355328):aE P o st (.v (.c (.s k2 0 K N))) [(k2,.arr e K zs)] [k]:=by
 intro σ T a w C hkn
 have hk2:=hkn k2 _ (List.mem_singleton.2 rfl) (by simpa using hk)
 clear hkn
 have hxv:=bD C hx
 have hh:=C.heap k _ hb
 have hsrc:=hs.read C hT.K0 (bD C hy)
 subst hn hm hN hz
 obtain ⟨xs,hown,hxs,hblk⟩:∃ xs,w.ownsRow 0 e K (a.eval x) rows.length xs/\(Rows T w K rows xs/\xs.length=rows.length * K)/\(∀ b,(a.eval x).ownBlock=some b->∃ g,σ k=some g/\g.g=b):=by
  rcases hxv with ⟨h0,hxv⟩|⟨g,h1,h2,h3,h4⟩
  ·have h0':=List.eq_nil_of_length_eq_zero h0
   subst h0'
   refine ⟨[],⟨by simp,.inl ⟨hxv,rfl⟩⟩,⟨⟨by simp,fun i row h=>by simp at h⟩,by simp⟩,fun b hb=>?_⟩
   rw [hxv] at hb;cases hb
  ·rcases hh.2 with ⟨_,h⟩|⟨g',vs,e1,e2,e3,e4,e5,e6⟩
   ·rw [h1] at h;cases h
   ·rw [h1] at e1;injection e1 with e1;subst e1
    refine ⟨vs.take (rows.length * K),⟨?_,.inr ⟨g.g,g.c,vs.toArray,?_,Nat.zero_le _,e3,by omega,by simp only [maxLen];omega,by simpa using e4,by simp⟩⟩,⟨su e6 (Nat.le_refl _),?_⟩,fun b hb=>⟨g,h1,?_⟩⟩
    ·have:=e6.1;simp;omega
    ·rw [h2,Nat.zero_mul];rfl
    ·have:=e6.1;simp;omega
    ·rw [h2] at hb;simpa [Value.ownBlock] using hb
 obtain ⟨v',w',news,hrun,hown',hg,hob,hl,hnews⟩:=ry hT o.type hown hsrc h63 hby
 have hexec:(execOp a.eval o).run P w=.ok (.value v') w':=by
  unfold execOp
  simp [ho,resolve,hc,ha,hat,invoke,builtin,hrun]
 have hTk:∀ b,(a.eval x).ownBlock=some b->T b:=fun b hb=>by obtain ⟨g,h1,rfl⟩:=hblk b hb;exact hh.nz h1
 have hrows:Rows T w K (rows++ys) (xs++news):=iU hxs.1 hxs.2 hnews
 have cF:∀ b,b < w.heap.size->¬(∃ k'∈[k],∃ g,σ k'=some g/\g.g=b)->w'.heap[b]?=w.heap[b]?:=fun b hb h=>hg.block b hb fun e=>by
  obtain ⟨g,h1,h2⟩:=hblk b e.symm
  exact h ⟨k,List.mem_singleton.2 rfl,g,h1,h2⟩
 have CT:∀ b,(∃ k'∈[k],∃ g,σ k'=some g/\g.g=b)->T b:=by
  rintro b ⟨k',hk',g,h1,rfl⟩
  rw [List.mem_singleton.1 hk'] at h1
  exact hh.nz h1
 rcases hown'.2 with ⟨hv',h0⟩|⟨g',cap,cur,hv',_,hcur,hle,hcap,hsz,htake⟩
 ·
  have hr0:rows++ys=[]:=List.eq_nil_of_length_eq_zero (by rw [List.length_append];exact h0)
  refine gG hexec ⟨v',σ,T,rfl,⟨hg.os,hg.tape,hg.output,⟨hg.size,cF,CT,fun _ _ h=>h,fun _ _ h=>h⟩,fun _ h=>h,fun b hb=>Nat.lt_of_lt_of_le (C.er b hb) hg.size,fun _ _=>rfl,?_,?_,?_⟩,.inl ⟨h0,hv'⟩⟩
  ·intro j b h
   obtain ⟨rfl,rfl⟩:=Prod.mk.inj (List.mem_singleton.1 h)
   exact ⟨hT.K0,.inl ⟨hr0,hk2⟩⟩
  ·intro j b g h hg'
   obtain ⟨rfl,rfl⟩:=Prod.mk.inj (List.mem_singleton.1 h)
   rw [hk2] at hg';cases hg'
  ·intro j j' b b' g g' h h' hg' _ _
   obtain ⟨rfl,rfl⟩:=Prod.mk.inj (List.mem_singleton.1 h)
   rw [hk2] at hg';cases hg'
 ·have hg'lt:g' < w'.heap.size:=oM hcur
  have hg'T:g' < w.heap.size->T g':=by
   intro hlt
   rcases hob with h|h
   ·rw [hv'] at h;exact hTk g' h.symm
   ·rw [hv'] at h;simp [Value.ownBlock] at h;omega
  have G:Grow σ (nG σ k2 ⟨g',cap⟩) T (kg T g') w w' (fun b=>∃ k'∈[k],∃ g,σ k'=some g/\g.g=b):=⟨hg.size,cF,CT,fun b hb h=>by rcases h with h|h;exact h;subst h;exact hg'T hb,fun j g hj=>by
   rw [qu _ _ _ (fun e=>by subst e;rw [hk2] at hj;cases hj)];exact hj⟩
  have hcl:cur.toList.toArray=cur:=by simp
  refine gG hexec ⟨v',nG σ k2 ⟨g',cap⟩,kg T g',rfl,⟨hg.os,hg.tape,hg.output,G,fun _ h=>.inl h,fun b hb=>?_,fun j hj=>qu _ _ _ (fun ee=>hj (.arr e K (rows++ys)) (by subst ee;exact List.mem_singleton.2 rfl)),?_,?_,?_⟩,.inr ⟨⟨g',cap⟩,fQ _ _ _,?_,?_,?_⟩⟩
  ·rcases hb with hb|hb
   ·exact Nat.lt_of_lt_of_le (C.er b hb) hg.size
   ·rw [hb];exact hg'lt
  ·intro j b h
   obtain ⟨rfl,rfl⟩:=Prod.mk.inj (List.mem_singleton.1 h)
   rw [fQ]
   refine ⟨hT.K0,.inr ⟨⟨g',cap⟩,cur.toList,rfl,.inr rfl,by rw [hcl];exact hcur,by simpa using hsz,by simp only [maxLen] at hcap;omega,?_⟩⟩
   exact nM (m:=(rows.length+ys.length) * K) (by rw [htake];exact hrows.grow G)
  ·intro j b g h hgj
   obtain ⟨rfl,rfl⟩:=Prod.mk.inj (List.mem_singleton.1 h)
   rw [fQ] at hgj;injection hgj with hgj;subst hgj
   rcases hob with h|h
   ·rw [hv'] at h
    obtain ⟨g2,h1,h2⟩:=hblk g' h.symm
    exact .inr ⟨k,List.mem_singleton.2 rfl,g2,h1,h2⟩
   ·rw [hv'] at h;simp [Value.ownBlock] at h;exact .inl (by show w.heap.size<=g';omega)
  ·intro j j' b b' g g2 h h' _ _ _
   obtain ⟨rfl,_⟩:=Prod.mk.inj (List.mem_singleton.1 h)
   obtain ⟨rfl,_⟩:=Prod.mk.inj (List.mem_singleton.1 h')
   rfl
  ·rw [hv',Nat.zero_mul];rfl
  ·show 0+_<=cap;omega
  ·show cap<=_;simp only [maxLen] at hcap;omega

theorem tk {σ:Nat->Option bM} {T:Nat->Prop} {w:World}:∀ (n:Nat) (vs:List Value),vs.length=n->cc (cQ σ T w) (List.replicate n .any) vs
 |0,[],_=>trivial
 |n+1,v::vs,h=>⟨trivial,tk n vs (by simpa using h)⟩
 |0,_::_,h=>by simp at h
 |_+1,[],h=>by simp at h
theorem yM {T:Nat->Prop} {w:World} {K:Nat}:∀ {rows:List (List D)} {vs:List Value},rows.all (fun r=>Nat.beq r.length K)=true->cc (bm T w) rows.flatten vs->Rows T w K rows vs/\vs.length=rows.length * K:=by
 intro rows
 induction rows with
 |nil=>intro vs _ h;cases vs with
  |nil=>exact ⟨⟨by simp,fun i row h=>by simp at h⟩,by simp⟩
  |cons=>exact h.elim
 |cons r rows ih=>
  intro vs hl h
  simp only [List.all_cons,Bool.and_eq_true] at hl
  have hr:r.length=K:=Nat.eq_of_beq_eq_true hl.1
  rw [List.flatten_cons] at h
  have h1:cc (bm T w) r (vs.take K):=by
   have:=h.take K;rwa [List.take_append_of_le_length (by omega),List.take_of_length_le (by omega)] at this
  have h2:cc (bm T w) rows.flatten (vs.drop K):=by
   have:=h.drop K;rwa [List.drop_append_of_le_length (by omega),List.drop_of_length_le (by omega),List.nil_append] at this
  obtain ⟨h3,h4⟩:=ih hl.2 h2
  have hlen:=h.length
  rw [List.length_append] at hlen
  have hl1:=h1.length
  have h5:=iU (hr▸At h1) (by simp at hl1 ⊢;omega) h3
  rw [List.take_append_drop] at h5
  refine ⟨h5,?_⟩
  rw [List.length_cons,Nat.succ_mul]
  rw [List.length_drop] at h4
  omega
theorem dW {t e K bytes len:Nat} {parts:Array (Nat×Operand)} {ys:List (Nat×GV)} {rows:List (List D)} (k:Nat) (hT:hJ P t e K bytes) (ho:o.op=.buildSlice t len parts) (hlen:len * K<=16777216) (hy:Ab st parts.toList ys) (hk:ys.all (fun y=>y.2.known)=true)
  (hf:kX (fun i=>some (i * K,K)) (List.replicate (len * K) .any) (ys.map fun y=>(y.1,ep y.2))=some (rows.flatten.map .d)) (hr:rows.all (fun r=>Nat.beq r.length K)=true) (hl:rows.length=len):aE P o st (.v (.c (.s k 0 K len))) [(k,.arr e K rows)] []:=
 aE.new fun σ T ac w C hk0=>by
  obtain ⟨i,z,hi,hz,hs,hby,hzs⟩:=hT.i
  let zero:Array Value:=if len * K=0 then #[] else z.cells
  have hz0:((Array.range (len * K)).map (zero[· % zero.size]!)).toList.length=len * K:=by simp
  obtain ⟨vs',h2,h3⟩:=qe (fun i=>some (i * K,K)) _ _ _ ((Array.range (len * K)).map (zero[· % zero.size]!)).toList _ (rO C hy hk) (tk (σ:=σ) (T:=T) (w:=w) _ _ hz0) hf
  obtain ⟨h4,h5⟩:=yM hr (rU h3)
  refine ⟨.slice (some ⟨w.heap.size,0,none⟩) len len,.cells vs'.toArray e,len,?_,dg.zc hT.K0 (by rw [h5,hl]) (by have:=hT.K0;have:=Nat.le_mul_of_pos_right len this;omega) h4 (Grow.alloc hk0 _ _ fun _ h=>h.elim),.inr ⟨⟨w.heap.size,len⟩,fQ _ _ _,by rw [Nat.zero_mul];rfl,by show 0+len<=len;omega,by have:=hT.K0;have:=Nat.le_mul_of_pos_right len this;show len<=_;omega⟩⟩
  have h2':Instr.fill (fun i=>some (i * K,K)) ((Array.range (len * K)).map (zero[· % zero.size]!)) ((parts.map fun (x:Nat×Operand)=>(x.1,ac.eval x.2)).toList)=some vs'.toArray:=by
   have e1:(((Array.range (len * K)).map (zero[· % zero.size]!)).toList).toArray=(Array.range (len * K)).map (zero[· % zero.size]!):=by simp only [Array.toArray_toList]
   rw [e1] at h2
   simpa using h2
  unfold execOp
  by_cases h0:len * K=0
  ·simp only [zero,h0,if_true] at h2'
   simp [ho,Instr.buildSlice,run_underlying hT.u,sizeOf,typeInfo,hi,hs,h0,newRow]
   simp at h2'
   simp [h2']
  ·simp only [zero,h0,if_false] at h2'
   have hlt:¬2 ^ 24 < len * K:=by omega
   simp [ho,Instr.buildSlice,run_underlying hT.u,sizeOf,typeInfo,hi,hs,h0,hlt,zeroValue,hz,newRow]
   simp at h2'
   simp [h2']
end
end
section

section
variable {P:Program} {st:aJ} {o:Oper}
theorem bm.fu {T T':Nat->Prop} {w:World} (h:∀ b,T' b->T b) {d:D} {v:Value} (hd:bm T w d v):bm T' w d v:=by
 induction hd with
 |v x hx=>exact .v x hx
 |nil K A c=>exact .nil K A c
 |r K rows b off c cs hb hT hc hm hK dY hd ih=>exact .r K rows b off c cs hb (fun hh=>hT (h b hh)) hc hm hK dY fun i row j d h1 h2=>ih i row j d h1 h2
 |f fn bd bs iC cs hb dY hd ih=>exact .f fn bd bs iC cs (fun i hi=>⟨(hb i hi).1,fun hh=>(hb i hi).2 (h _ hh)⟩) dY fun i row j d h1 h2=>ih i row j d h1 h2
inductive kN (st:aJ) (E:List Nat):CV->CV->Prop
 |d (x:D):kN st E (.d x) (.d x)
 |s {k n t K:Nat} {rows:List (List D)} (h:look st.h k=some (.arr t K rows)) (hk:k∈E) (hn:rows.length=n):kN st E (.s k 0 K n) (.d (.r K rows))
 |sub {k i n t K:Nat} {rows ys:List (List D)} (h:look st.h k=some (.arr t K rows)) (hk:k∈E) (hi:i+n<=rows.length) (he:(rows.drop i).take n=ys):kN st E (.s k i K n) (.d (.r K ys))
 |nil (K:Nat):kN st E (.d (.v (.slice none 0 0))) (.d (.r K []))
 |fn {f:FuncId} {bd:List Nat} {rows:List (List D)} (h:cc (fun k row=>k∈E/\∃ t,look st.h k=some (.box t (row.map .d))) bd rows):kN st E (.fn f bd) (.d (.f f rows))
inductive rX (st:aJ) (E:List Nat):GV->GV->Prop
 |c {x y:CV} (h:kN st E x y):rX st E (.c x) (.c y)
 |g {xs ys:List CV} (h:cc (kN st E) xs ys):rX st E (.g xs) (.g ys)
def Ac (st:aJ) (E:List Nat):List Operand->List GV->Prop
 |[],[]=>True
 |x::xs,y::ys=>(∃ g,ev st x (.v g)/\rX st E g y)/\Ac st E xs ys
 |_,_=>False
def fz (σ:Nat->Option bM) (T:Nat->Prop) (E:List Nat):Nat->Prop:=fun b=>T b/\∀ k∈E,∀ g,σ k=some g->g.g≠b
theorem oq {T:Nat->Prop} {w:World} {K:Nat} {rows:List (List D)} {b off c:Nat} {vs:List Value} (hb:b < w.heap.size) (hT:¬T b) (hc:rows.length<=c) (hm:c<=9223372036854775807) {T0:Nat->Prop} (h0:∀ b,T b->T0 b) (hf:Flat T0 w K rows ⟨b,off,none⟩ vs):bm T w (.r K rows) (.slice (some ⟨b,off,none⟩) rows.length c):=by
 refine .r K rows b off c (fun i j=>(vs[i * K+j]?).getD undef) hb hT hc hm (fun i row h=>(hf.mO.2 i row h).1) (fun i row j d h1 h2=>?_) fun i row j d h1 h2=>?_
 ·obtain ⟨u,hu,_⟩:=(hf.mO.2 i row h1).2 j d h2
  rw [hu]
  have:=hf.cell _ _ hu
  rwa [Addr.add_lit] at this
 ·obtain ⟨u,hu,hr⟩:=(hf.mO.2 i row h1).2 j d h2
  rw [hu]
  exact hr.fu h0
theorem kN.rel {σ:Nat->Option bM} {T:Nat->Prop} {a:Act} {w:World} (C:Core σ T st a w) {E:List Nat} {x y:CV} (h:kN st E x y) {v:Value} (hv:cQ σ T w x v):cQ (fun _=>none) (fz σ T E) w y v:=by
 have hl:∀ b,fz σ T E b->T b:=fun b h=>h.1
 cases h with
 |d x=>exact bm.fu hl hv
 |@s k n t K rows h hk hn=>
  subst hn
  rcases hv with ⟨h0,hv⟩|⟨g,h1,h2,h3,h4⟩
  ·have h0:=List.eq_nil_of_length_eq_zero h0
   subst h0;subst hv
   exact .nil _ _ _
  ·have hh:=C.heap _ _ h
   rw [h1] at hh
   obtain ⟨vs,hf⟩:=jf (i:=0) (n:=rows.length) hh (by omega)
   rw [List.drop_zero,List.take_of_length_le (Nat.le_refl _)] at hf
   rw [h2]
   exact oq (C.er _ (hh.nz rfl)) (fun h=>h.2 k hk g h1 rfl) (by omega) (by omega) hl hf
 |@sub k i n t K rows ys h hk hi he=>
  subst he
  have hl':((rows.drop i).take n).length=n:=by simp;omega
  rcases hv with ⟨h0,hv⟩|⟨g,h1,h2,h3,h4⟩
  ·subst h0;subst hv
   rw [List.take_zero]
   exact .nil _ _ _
  ·have hh:=C.heap _ _ h
   rw [h1] at hh
   obtain ⟨vs,hf⟩:=jf hh hi
   have h2':v=.slice (some ⟨g.g,i * K,none⟩) ((rows.drop i).take n).length (g.c - i):=by rw [hl'];exact h2
   rw [h2']
   exact oq (C.er _ (hh.nz rfl)) (fun h=>h.2 k hk g h1 rfl) (by rw [hl'];omega) (by omega) hl hf
 |nil K=>have:=bm.inv hv;subst this;exact .nil _ _ _
 |@fn f bd rows h=>
  obtain ⟨gs,h1,h2⟩:=hv
  have hlen:=h.length
  have hgl:bd.length=gs.length:=by have:=congrArg List.length h1;simpa using this
  have key:∀ (i:Nat) (row:List D),rows[i]?=some row->∃ g,gs[i]?=some g/\∃ k t,bd[i]?=some k/\k∈E/\σ k=some g/\look st.h k=some (.box t (row.map .d)):=by
   intro i row hr
   have hi:=(List.getElem?_eq_some_iff.1 hr).1
   have hci:bd[i]?=some bd[i]:=List.getElem?_eq_getElem (by omega)
   obtain ⟨row',hr',hkE,t,hb⟩:=h.get hci
   rw [hr] at hr';injection hr' with hr';subst hr'
   have hgi:gs[i]?=some gs[i]:=List.getElem?_eq_getElem (by omega)
   refine ⟨gs[i],hgi,bd[i],t,hci,hkE,?_,hb⟩
   have:=congrArg (fun l=>l[i]?) h1
   simpa [hci,hgi] using this
  have cellOf:∀ (i:Nat) (row:List D) (j:Nat) (d:D),rows[i]?=some row->row[j]?=some d->∃ u,w.cell? ⟨((gs[i]?).getD ⟨0,0⟩).g,0+j,none⟩=some u/\bm T w d u:=by
   intro i row j d hr hd
   obtain ⟨g,hg,k,t,_,_,hs,hb⟩:=key i row hr
   have hh:=C.heap k _ hb
   rw [hs] at hh
   obtain ⟨g',vs,e1,_,e3,e4⟩:=hh
   injection e1 with e1;subst e1
   obtain ⟨u,hu,hrel⟩:=e4.get (i:=j) (x:=.d d) (by rw [List.getElem?_map,hd];rfl)
   refine ⟨u,?_,hrel⟩
   rw [hg,Nat.zero_add]
   show w.cell? ⟨g.g,j,none⟩=_
   rw [cell_of_row w g.g j vs.toArray t (0,0) e3]
   simpa using hu
  have hv2:v=.func (.func f) #[] ((List.range rows.length).map fun i=>Value.pointer (some ⟨((gs[i]?).getD ⟨0,0⟩).g,0,none⟩)).toArray:=by
   rw [h2]
   congr 2
   apply List.ext_getElem?
   intro i
   rw [List.getElem?_map,List.getElem?_map]
   by_cases hi:i < gs.length
   ·rw [List.getElem?_eq_getElem hi,List.getElem?_range (by omega)]
    simp [hi]
   ·rw [List.getElem?_eq_none (by omega),List.getElem?_eq_none (by simp;omega)]
    rfl
  rw [hv2]
  refine bm.f f rows (fun i=>((gs[i]?).getD ⟨0,0⟩).g) (fun _=>0) (fun i j=>(w.cell? ⟨((gs[i]?).getD ⟨0,0⟩).g,0+j,none⟩).getD undef) (fun i hi=>?_) (fun i row j d hr hd=>?_) fun i row j d hr hd=>?_
  ·obtain ⟨g,hg,k,t,_,hkE,hs,hb⟩:=key i rows[i] (List.getElem?_eq_getElem hi)
   have hh:=C.heap k _ hb
   rw [hg]
   exact ⟨C.er _ (hh.nz hs),fun h=>h.2 k hkE g hs rfl⟩
  ·obtain ⟨u,hu,_⟩:=cellOf i row j d hr hd
   rw [hu];rfl
  ·obtain ⟨u,hu,hrel⟩:=cellOf i row j d hr hd
   rw [hu]
   exact hrel.fu hl
theorem vz {σ:Nat->Option bM} {T:Nat->Prop} {a:Act} {w:World} (C:Core σ T st a w) {E:List Nat}:∀ {xs ys:List CV} {vs:List Value},cc (kN st E) xs ys->cc (cQ σ T w) xs vs->cc (cQ (fun _=>none) (fz σ T E) w) ys vs
 |[],[],[],_,_=>trivial
 |_::_,_::_,_::_,h,h'=>⟨h.1.rel C h'.1,vz C h.2 h'.2⟩
 |[],_::_,_,h,_=>h.elim
 |_::_,[],_,h,_=>h.elim
 |[],[],_::_,_,h=>h.elim
 |_::_,_::_,[],_,h=>h.elim
theorem rX.rel {σ:Nat->Option bM} {T:Nat->Prop} {a:Act} {w:World} (C:Core σ T st a w) {E:List Nat} {x y:GV} (h:rX st E x y) {v:Value} (hv:dh σ T w x v):dh (fun _=>none) (fz σ T E) w y v:=by
 cases h with
 |c h=>exact h.rel C hv
 |g h=>obtain ⟨vs,rfl,hr⟩:=hv;exact ⟨vs,rfl,vz C h hr⟩
theorem oQ {σ:Nat->Option bM} {T:Nat->Prop} {a:Act} {w:World} (C:Core σ T st a w) {E:List Nat}:∀ {xs:List Operand} {ys:List GV},Ac st E xs ys->cc (dh (fun _=>none) (fz σ T E) w) ys (xs.map a.eval)
 |[],[],_=>trivial
 |_::_,_::_,h=>⟨by obtain ⟨g,h1,h2⟩:=h.1;exact h2.rel C (bD C h1),oQ C h.2⟩
 |[],_::_,h=>h.elim
 |_::_,[],h=>h.elim

def D.nY:D->Bool
 |.v _=>true
 |_=>false
def CV.ec (p:D->Prop):CV->Prop
 |.d x=>p x
 |.q _ _=>False
 |_=>True
def GV.ec (p:D->Prop):GV->Prop
 |.c x=>x.ec p
 |.g xs=>dn (CV.ec p) xs
def AV.ec (p:D->Prop):AV->Prop
 |.v x=>x.ec p
 |.t xs=>dn (GV.ec p) xs
def AB.ec (p:D->Prop):AB->Prop
 |.box _ cs=>dn (CV.ec p) cs
 |.arr _ _ rows=>∀ row∈rows,∀ d∈row,p d
 |.map _ _=>True
section
variable {σ σ':Nat->Option bM} {T T':Nat->Prop} {w:World} {p:D->Prop} {q:Nat->Bool} {ρ:Nat->Nat}
theorem cQ.back (hD:∀ d v,p d->bm T w d v->bm T' w d v) (hσ:∀ k,q k=true->σ' (ρ k)=σ k) {x:CV} {v:Value} (h:cQ σ T w x v) (hp:x.ec p) (hq:x.ok q=true):cQ σ' T' w (x.map ρ) v:=by
 cases x with
 |any=>trivial
 |d x=>exact hD x v hp h
 |p k i K o=>obtain ⟨g,h1,h2⟩:=h;exact ⟨g,(hσ k hq).trans h1,h2⟩
 |q row o=>exact hp.elim
 |s k i K n=>
  rcases h with h|⟨g,h1,h2⟩
  ·exact .inl h
  ·exact .inr ⟨g,(hσ k hq).trans h1,h2⟩
 |sx k i K n c e=>obtain ⟨g,off,h1,h2⟩:=h;exact ⟨g,off,(hσ k hq).trans h1,h2⟩
 |m k=>obtain ⟨g,h1,h2⟩:=h;exact ⟨g,(hσ k hq).trans h1,h2⟩
 |fn f bd=>
  obtain ⟨gs,h1,h2⟩:=h
  refine ⟨gs,?_,h2⟩
  rw [<-h1,List.map_map]
  refine List.map_congr_left fun k hk=>hσ k ?_
  have:bd.all q=true:=hq
  rw [List.all_eq_true] at this
  exact this k hk
theorem oA (hD:∀ d v,p d->bm T w d v->bm T' w d v) (hσ:∀ k,q k=true->σ' (ρ k)=σ k):∀ {xs:List CV} {vs:List Value},cc (cQ σ T w) xs vs->dn (CV.ec p) xs->xs.all (CV.ok q)=true->cc (cQ σ' T' w) (xs.map (CV.map ρ)) vs
 |[],[],_,_,_=>trivial
 |_::_,_::_,h,hp,hq=>by
  simp only [List.all_cons,Bool.and_eq_true] at hq
  exact ⟨h.1.back hD hσ hp.1 hq.1,oA hD hσ h.2 hp.2 hq.2⟩
 |[],_::_,h,_,_=>h.elim
 |_::_,[],h,_,_=>h.elim
theorem dh.back (hD:∀ d v,p d->bm T w d v->bm T' w d v) (hσ:∀ k,q k=true->σ' (ρ k)=σ k) {x:GV} {v:Value} (h:dh σ T w x v) (hp:x.ec p) (hq:x.ok q=true):dh σ' T' w (x.map ρ) v:=by
 cases x with
 |c x=>exact cQ.back hD hσ (x:=x) h hp hq
 |g xs=>obtain ⟨vs,h1,h2⟩:=h;exact ⟨vs,h1,oA hD hσ h2 hp hq⟩
theorem rm (hD:∀ d v,p d->bm T w d v->bm T' w d v) (hσ:∀ k,q k=true->σ' (ρ k)=σ k):∀ {xs:List GV} {vs:List Value},cc (dh σ T w) xs vs->dn (GV.ec p) xs->xs.all (GV.ok q)=true->cc (dh σ' T' w) (xs.map (GV.map ρ)) vs
 |[],[],_,_,_=>trivial
 |_::_,_::_,h,hp,hq=>by
  simp only [List.all_cons,Bool.and_eq_true] at hq
  exact ⟨h.1.back hD hσ hp.1 hq.1,rm hD hσ h.2 hp.2 hq.2⟩
 |[],_::_,h,_,_=>h.elim
 |_::_,[],h,_,_=>h.elim
theorem eB.back (hD:∀ d v,p d->bm T w d v->bm T' w d v) (hσ:∀ k,q k=true->σ' (ρ k)=σ k) {x:AV} {v:Value} (h:eB σ T w x v) (hp:x.ec p) (hq:x.ok q=true):eB σ' T' w (x.map ρ) v:=by
 cases x with
 |v x=>exact dh.back hD hσ (x:=x) h hp hq
 |t xs=>obtain ⟨vs,h1,h2⟩:=h;exact ⟨vs,h1,rm hD hσ h2 hp hq⟩
theorem dg.back (hD:∀ d v,p d->bm T w d v->bm T' w d v) (hσ:∀ k,q k=true->σ' (ρ k)=σ k) (hT:∀ b,T b->T' b) {og:Option bM} {b:AB} (h:dg σ T w og b) (hp:b.ec p) (hq:b.ok q=true):dg σ' T' w og (b.map' ρ):=by
 cases b with
 |box t cs=>obtain ⟨g,vs,h1,h2,h3,h4⟩:=h;exact ⟨g,vs,h1,hT _ h2,h3,oA hD hσ h4 hp hq⟩
 |arr t K rows=>
  refine ⟨h.1,?_⟩
  rcases h.2 with h|⟨g,vs,h1,h2,h3,h4,h5,h6⟩
  ·exact .inl h
  ·refine .inr ⟨g,vs,h1,hT _ h2,h3,h4,h5,h6.1,fun i row hi=>⟨(h6.2 i row hi).1,fun j d hd=>?_⟩⟩
   obtain ⟨u,hu,hr⟩:=(h6.2 i row hi).2 j d hd
   exact ⟨u,hu,hD d u (hp row (List.mem_of_getElem? hi) d (List.mem_of_getElem? hd)) hr⟩
 |map es cl=>obtain ⟨g,ms,h1,h2,h3⟩:=h;exact ⟨g,ms,h1,hT _ h2,h3⟩
end
def fM (ρ:Nat->Nat) (nb:List (Nat×AB)):List (Nat×AB):=nb.map fun x=>(ρ x.1,x.2.map' ρ)
theorem gb {nb:List (Nat×AB)} {k:Nat} (h:bp nb k=true):∃ b,(k,b)∈nb:=by
 cases hl:look nb k with
 |none=>simp [bp,hl] at h
 |some b=>exact ⟨b,bL hl⟩
theorem cS {nb:List (Nat×AB)} {k:Nat} {b:AB} (h:(k,b)∈nb):bp nb k=true:=by
 cases hl:look nb k with
 |none=>exact absurd hl (jF h)
 |some b=>simp [bp,hl]
theorem aY {f:FuncId} {fn:Func} {c:Code} (hf:P.funcs[f]?=some fn) (hname:(fn.name== "runtime.NumGoroutine")=false) (hb:fn.body=some c) (args:Array Value) (w:World):(callFunc f args).run P w=.ok (.enter f args) w:=by
 have h1:fn.name≠ "runtime.NumGoroutine":=by simpa using hname
 simp [callFunc,hf,h1,hb]
def bg (P:Program) (f:FuncId):Prop:=∀ (args:Array Value) (w:World),(callFunc f args).run P w=.ok (.enter f args) w
theorem ou {f:FuncId} {ins:List GV} {av:AV} {nb:List (Nat×AB)} (hF:Fn P f ins av nb) (n0:Nat) {E:List Nat} {p:D->Prop} {σ:Nat->Option bM} {T:Nat->Prop} {a:Act} {w:World} (C:Core σ T st a w) {args:Array Value} (hargs:cc (dh (fun _=>none) (fz σ T E) w) ins args.toList)
  (hp:av.ec p) (hpb:dn (fun x=>x.2.ec p) nb) (hok:av.ok (bp nb)=true) (hokb:nb.all (fun x=>x.2.ok (bp nb))=true) (hnew:∀ k b,(k,b)∈fM (n0+·) nb->σ k=none)
  (hD:∀ (Tc T':Nat->Prop) (w':World) d v,(∀ b,T' b->T b\/Tc b)->(∀ b,fz σ T E b->Tc b)->p d->bm Tc w' d v->bm T' w' d v):
  Calls P f args w fun e w'=>∃ v σ' T',e=.returned v/\Ext σ T w σ' T' w' (fM (n0+·) nb) []/\eB σ' T' w' (av.map (n0+·)) v:=by
 refine (hF (fz σ T E) w args (fun b h=>C.er b h.1) hargs).mono ?_
 rintro e w' ⟨v,σc,Tc,rfl,hb,R⟩
 let σ':Nat->Option bM:=fun k=>if n0<=k/\bp nb (k - n0)=true then σc (k - n0) else σ k
 let T':Nat->Prop:=fun b=>T b\/Tc b
 have hσ:∀ k,bp nb k=true->σ' (n0+k)=σc k:=fun k hk=>by
  show (if n0<=n0+k/\bp nb (n0+k - n0)=true then σc (n0+k - n0) else σ (n0+k))=σc k
  rw [Nat.add_sub_cancel_left,if_pos ⟨by omega,hk⟩]
 have hD':∀ d v,p d->bm Tc w' d v->bm T' w' d v:=fun d v=>hD Tc T' w' d v (fun b h=>h) R.lS
 have hmem:∀ k b,(k,b)∈fM (n0+·) nb->∃ k0 b0,(k0,b0)∈nb/\k=n0+k0/\b=b0.map' (n0+·):=by
  intro k b h
  obtain ⟨⟨k0,b0⟩,h1,h2⟩:=List.mem_map.1 h
  injection h2 with h2 h3
  exact ⟨k0,b0,h1,h2.symm,h3.symm⟩
 refine ⟨v,σ',T',rfl,⟨hb.os,hb.tape,hb.output,⟨hb.size,fun b hlt _=>hb.block b hlt,(fun b h=>by obtain ⟨k,hk,_⟩:=h;cases hk),fun b hlt h=>?_,fun k g hk=>?_⟩,fun b h=>.inl h,fun b h=>?_,fun k hk=>?_,?_,?_,?_⟩,R.rel.back hD' hσ hp hok⟩
 ·rcases h with h|h
  ·exact h
  ·exact (R.kP b hlt h).1
 ·show (if n0<=k/\bp nb (k - n0)=true then σc (k - n0) else σ k)=some g
  rw [if_neg]
  ·exact hk
  ·rintro ⟨h1,h2⟩
   obtain ⟨b,hb⟩:=gb h2
   have:=hnew k (b.map' (n0+·)) (List.mem_map.2 ⟨(k - n0,b),hb,by simp [show n0+(k - n0)=k by omega]⟩)
   rw [hk] at this;cases this
 ·rcases h with h|h
  ·exact Nat.lt_of_lt_of_le (C.er b h) hb.size
  ·exact R.er b h
 ·show (if n0<=k/\bp nb (k - n0)=true then σc (k - n0) else σ k)=σ k
  rw [if_neg]
  rintro ⟨h1,h2⟩
  obtain ⟨b,hb⟩:=gb h2
  exact hk (b.map' (n0+·)) (List.mem_map.2 ⟨(k - n0,b),hb,by simp [show n0+(k - n0)=k by omega]⟩)
 ·intro k b h
  obtain ⟨k0,b0,h1,rfl,rfl⟩:=hmem k b h
  rw [hσ k0 (cS h1)]
  have hok':=List.all_eq_true.1 hokb _ h1
  exact (R.heap k0 b0 h1).back hD' hσ (fun b h=>.inr h) (hpb.mem _ h1) hok'
 ·intro k b g h hg
  obtain ⟨k0,b0,h1,rfl,rfl⟩:=hmem k b h
  rw [hσ k0 (cS h1)] at hg
  exact .inl (R.fresh k0 b0 g h1 hg)
 ·intro k k' b b' g g' h h' hg hg' hgg
  obtain ⟨k0,b0,h1,rfl,rfl⟩:=hmem k b h
  obtain ⟨k1,b1,h2,rfl,rfl⟩:=hmem k' b' h'
  rw [hσ k0 (cS h1)] at hg
  rw [hσ k1 (cS h2)] at hg'
  rw [R.inj k0 k1 b0 b1 g g' h1 h2 hg hg' hgg]
theorem mm {f:FuncId} {c:Call} (ho:o.op=.call c) (hc:c.callee=.value (.func f)) (hen:bg P f) {a:Act} {w:World} {K:Act->World->Prop} (h:Calls P f (c.args.map a.eval) w fun e w'=>∃ v,e=.returned v/\K (a.put o.dst v) w'):o.wp P a w K wH:=by
 have hr:(execOp a.eval o).run P w=.ok (.enter f (c.args.map a.eval)) w:=by
  unfold execOp
  simp [ho,resolve,hc,Act.eval,Deferred.ofValue,invoke]
  exact hen _ _
 unfold Oper.wp
 rw [hr]
 exact h.mono fun e w' ⟨v,he,hk⟩=>by subst he;exact hk
theorem bX {f:FuncId} {c:Call} {ins:List GV} {av av':AV} {nb nb':List (Nat×AB)} (n0:Nat) (hF:Fn P f ins av nb) (hen:bg P f) (ho:o.op=.call c) (hc:c.callee=.value (.func f)) (hargs:Ac st [] c.args.toList ins)
  (hg:av.ec (fun _=>True)) (hgb:dn (fun x=>x.2.ec fun _=>True) nb) (hok:av.ok (bp nb)=true) (hokb:nb.all (fun x=>x.2.ok (bp nb))=true) (hav:av.map (n0+·)=av') (hnb:fM (n0+·) nb=nb'):aE P o st av' nb' []:=by
 intro σ T a w C hnew
 subst hav hnb
 refine mm ho hc hen ((ou hF n0 C (E:=[]) (by rw [Array.toList_map];exact oQ C hargs) hg hgb hok hokb (fun k b h=>hnew k b h (by simp)) fun Tc T' w' d v h1 h2 _ h=>h.fu fun b hb=>?_).mono ?_)
 ·rcases h1 b hb with h|h
  ·exact h2 b ⟨h,fun k hk=>by cases hk⟩
  ·exact h
 ·rintro e w' ⟨v,σ',T',rfl,X,hr⟩
  exact ⟨v,rfl,v,σ',T',rfl,X,hr⟩
theorem fP {f:FuncId} {c:Call} {ins:List GV} {av av':AV} {nb nb':List (Nat×AB)} (n0:Nat) (E:List Nat) (hF:Fn P f ins av nb) (hen:bg P f) (ho:o.op=.call c) (hc:c.callee=.value (.func f)) (hargs:Ac st E c.args.toList ins)
  (hg:av.ec (fun d=>d.nY=true)) (hgb:dn (fun x=>x.2.ec fun d=>d.nY=true) nb) (hok:av.ok (bp nb)=true) (hokb:nb.all (fun x=>x.2.ok (bp nb))=true) (hav:av.map (n0+·)=av') (hnb:fM (n0+·) nb=nb'):aE P o st av' nb' []:=by
 intro σ T a w C hnew
 subst hav hnb
 refine mm ho hc hen ((ou hF n0 C (E:=E) (by rw [Array.toList_map];exact oQ C hargs) hg hgb hok hokb (fun k b h=>hnew k b h (by simp)) fun Tc T' w' d v h1 h2 hp h=>?_).mono ?_)
 ·cases d with
  |v x=>cases h;exact .v _ (by assumption)
  |r=>cases hp
  |f=>cases hp
 ·rintro e w' ⟨v,σ',T',rfl,X,hr⟩
  exact ⟨v,rfl,v,σ',T',rfl,X,hr⟩

theorem DH {t e bytes n:Nat} {z:Value} {x y:Operand} {i j:Int} (k:Nat) (hT:hJ P t e 1 bytes) (hz:(P.info? e).bind (·.zero)=some z) (hz1:z.cells=#[z]) (hzo:z.oneCell'=true) (ho:o.op=.makeSlice t x y) (hx:ev st x (.v (.c (.d (.v (.int .i64 i)))))) (hy:ev st y (.v (.c (.d (.v (.int .i64 j))))))
  (hi:i=n) (hj:j=n) (hb:bytes * n<=281474976710656) (h63:n<=9223372036854775807):aE P o st (.v (.c (.s k 0 1 n))) [(k,.arr e 1 (List.replicate n [.v z]))] []:=
 aE.new fun σ T ac w C hk0=>by
  have h1:=bm.inv (bD C hx)
  have h2:=bm.inv (bD C hy)
  subst hi hj
  obtain ⟨ii,z',hii,hzz,hs,hby,hzs⟩:=hT.i
  have hz':z'=z:=by simpa [hii,hzz] using hz
  subst hz'
  have hrun:=run_make_row (P:=P) t e ii z' hT.u hii hzz hs hz1 .i64 .i64 n (by rw [hby];exact hb) h63 w
  have hl:(madeCells #[z'] n).toList.length=n:=by simp [size_madeCells]
  refine ⟨.slice (some ⟨w.heap.size,0,none⟩) n n,.cells (madeCells #[z'] n).toList.toArray e,n,?_,dg.zc (by decide) (by rw [hl,Nat.mul_one]) h63 ?_ (Grow.alloc hk0 _ _ fun _ h=>h.elim),.inr ⟨⟨w.heap.size,n⟩,fQ _ _ _,rfl,by show 0+n<=n;omega,h63⟩⟩
  ·unfold execOp
   simp only [ho,h1,h2,Sem.run_bind,hrun,Result.andThen_ok,Array.toArray_toList]
   rfl
  ·rw [toList_madeCells_one]
   refine ⟨by simp,fun q row hq=>?_⟩
   obtain ⟨hq1,rfl⟩:=List.getElem?_eq_some_iff.1 hq
   simp at hq1
   refine ⟨by simp,fun j d hd=>?_⟩
   rcases j with _|j
   ·simp at hd;subst hd
    exact ⟨z',by simp [hq1],.v _ hzo⟩
   ·simp at hd
theorem qC {w:World} {t e K:Nat} {A:Option Addr} {len cap:Nat} (hu:P.underlying t=some (.slice e)) (hz:(P.info? e).map (·.size)=some K) (lo hi:Option Value) (l h:Nat) (hlo:(lo=none/\l=0)\/lo=some (.int .i64 l)) (hhi:(hi=none/\h=len)\/hi=some (.int .i64 h)) (h1:l<=h) (h2:h<=cap) (hlc:len<=cap):
  (Instr.sliceAt t (.slice A len cap) lo hi none).run P w=.ok (.slice (if cap=l then A else A.map (·.add (l * K))) (h - l) (cap - l)) w:=by
 cases hq:P.info? e with
 |none=>simp [hq] at hz
 |some ii=>
  have hs:ii.size=K:=by simpa [hq] using hz
  rcases hlo with ⟨rfl,rfl⟩|rfl<;>rcases hhi with ⟨rfl,rfl⟩|rfl<;>
   simp [Instr.sliceAt,run_underlying hu,Instr.slice,Instr.sliceBounds,Instr.sliceBound,asIntOf,sizeOf,typeInfo,hq,hs,h1,h2]<;>omega
theorem pZ {t e K:Nat} {x:Operand} {lo hi:Option Operand} {rows ys:List (List D)} {l h:Nat} (ho:o.op=.slice t x lo hi none) (hu:P.underlying t=some (.slice e)) (hz:(P.info? e).map (·.size)=some K) (hx:ev st x (.v (.c (.d (.r K rows)))))
  (hlo:(lo=none/\l=0)\/∃ x,lo=some x/\ev st x (.v (.c (.d (.v (.int .i64 l)))))) (hhi:(hi=none/\h=rows.length)\/∃ x,hi=some x/\ev st x (.v (.c (.d (.v (.int .i64 h)))))) (h1:l<=h) (h2:h<=rows.length) (he:(rows.drop l).take (h - l)=ys):aE P o st (.v (.c (.d (.r K ys)))) [] []:=
 aE.val fun σ T ac w C=>by
  have hv:=bD C hx
  subst he
  have key:∀ A c,rows.length<=c->ac.eval x=.slice A rows.length c->(execOp ac.eval o).run P w=.ok (.value (.slice (if c=l then A else A.map (·.add (l * K))) (h - l) (c - l))) w:=by
   intro A c hc hA
   have:=qC (P:=P) (w:=w) (A:=A) (len:=rows.length) (cap:=c) hu hz (lo.map ac.eval) (hi.map ac.eval) l h
    (by rcases hlo with ⟨rfl,rfl⟩|⟨y,rfl,hy⟩;exact .inl ⟨rfl,rfl⟩;exact .inr (by rw [Option.map_some,bm.inv (bD C hy)]))
    (by rcases hhi with ⟨rfl,rfl⟩|⟨y,rfl,hy⟩;exact .inl ⟨rfl,rfl⟩;exact .inr (by rw [Option.map_some,bm.inv (bD C hy)])) h1 (by omega) hc
   unfold execOp
   simp only [ho,hA,Option.map_none,Sem.run_bind,this,Result.andThen_ok]
   rfl
  have hl:((rows.drop l).take (h - l)).length=h - l:=by simp;omega
  generalize hgv:ac.eval x=v at hv
  cases hv with
  |nil K A c=>
   have:=key A c (by simp) hgv
   refine ⟨_,this,?_⟩
   simp only [List.drop_nil,List.take_nil]
   rw [show h - l=0 by simp at h2;omega]
   exact bm.nil _ _ _
  |r K rows b off c cs hb hT hc hm hK dY hd=>
   refine ⟨_,key _ c hc hgv,?_⟩
   by_cases h0:h - l=0
   ·rw [h0,List.take_zero]
    exact bm.nil _ _ _
   ·rw [if_neg (by omega),Option.map_some,Addr.add_lit]
    have hfin:bm T w (.r K ((rows.drop l).take (h - l))) (.slice (some ⟨b,off+l * K,none⟩) ((rows.drop l).take (h - l)).length (c - l)):=?_
    ·rw [hl] at hfin;exact hfin
    refine bm.r K _ b (off+l * K) (c - l) (fun i j=>cs (l+i) j) hb hT (by rw [hl];omega) (by omega) (fun i row hi=>hK _ row (jn hi)) (fun i row j d hi hj=>?_) fun i row j d hi hj=>hd _ row j d (jn hi) hj
    have:=dY _ row j d (jn hi) hj
    rwa [show off+l * K+(i * K+j)=off+((l+i) * K+j) by rw [Nat.add_mul];omega]
theorem nd {t e K k i n m:Nat} {x:Operand} {lo hi:Option Operand} {l h:Nat} (ho:o.op=.slice t x lo hi none) (hu:P.underlying t=some (.slice e)) (hz:(P.info? e).map (·.size)=some K) (hx:ev st x (.v (.c (.s k i K n))))
  (hlo:(lo=none/\l=0)\/∃ x,lo=some x/\ev st x (.v (.c (.d (.v (.int .i64 l)))))) (hhi:(hi=none/\h=n)\/∃ x,hi=some x/\ev st x (.v (.c (.d (.v (.int .i64 h)))))) (h1:l<=h) (h2:h<=n) (h3:l=0\/l < h) (hm:h - l=m):aE P o st (.v (.c (.s k (i+l) K m))) [] []:=
 aE.val fun σ T ac w C=>by
  have hv:=bD C hx
  subst hm
  have key:∀ A c,n<=c->ac.eval x=.slice A n c->(execOp ac.eval o).run P w=.ok (.value (.slice (if c=l then A else A.map (·.add (l * K))) (h - l) (c - l))) w:=by
   intro A c hc hA
   have:=qC (P:=P) (w:=w) (A:=A) (len:=n) (cap:=c) hu hz (lo.map ac.eval) (hi.map ac.eval) l h
    (by rcases hlo with ⟨rfl,rfl⟩|⟨y,rfl,hy⟩;exact .inl ⟨rfl,rfl⟩;exact .inr (by rw [Option.map_some,bm.inv (bD C hy)]))
    (by rcases hhi with ⟨rfl,rfl⟩|⟨y,rfl,hy⟩;exact .inl ⟨rfl,rfl⟩;exact .inr (by rw [Option.map_some,bm.inv (bD C hy)])) h1 (by omega) hc
   unfold execOp
   simp only [ho,hA,Option.map_none,Sem.run_bind,this,Result.andThen_ok]
   rfl
  rcases hv with ⟨h0,hv⟩|⟨g,hg,hv,hle,hmx⟩
  ·refine ⟨_,key none 0 (by omega) (by rw [hv,h0]),.inl ⟨by omega,?_⟩⟩
   simp
   omega
  ·refine ⟨_,key _ _ (by omega) hv,.inr ⟨g,hg,?_,by omega,hmx⟩⟩
   by_cases hc:g.c - i=l
   ·rw [if_pos hc]
    have:l=0:=by omega
    subst this
    simp
   ·rw [if_neg hc,Option.map_some,Addr.add_lit,Nat.add_mul,Nat.sub_sub]
end
end
section

structure bC where
 dst:Option Tmp
 v:AV
 nb:List (Nat×AB)
 E:List Nat
 pre:List Nat
 s:List (Nat×AV)
 h:List (Nat×AB)
def bC.st (r:bC):aJ:={s:=r.s,h:=r.h,n:=0}
def lT (P:Program) (ops:Array Oper) (r:bC) (o:Oper):Prop:=
 (ah ops o r.st/\aE P o r.st r.v r.nb r.E)\/(gN ops o r.st/\r.v=.t []/\r.nb=[]/\r.E=[])
def iZ (P:Program) (ops:Array Oper):List bC->List Oper->Prop
 |[],_=>True
 |r::rs,o::os=>lT P ops r o/\iZ P ops rs os
 |_::_,[]=>False
theorem iZ.get {P:Program} {ops:Array Oper}:∀ {rs:List bC} {os:List Oper},iZ P ops rs os->∀ {i:Nat} {r:bC},rs[i]?=some r->∃ o,os[i]?=some o/\lT P ops r o
 |r::rs,o::os,h,0,r',hr=>by simp at hr;subst hr;exact ⟨o,rfl,h.1⟩
 |r::rs,o::os,h,i+1,r',hr=>by simpa using iZ.get (rs:=rs) (os:=os) h.2 (i:=i) (by simpa using hr)
 |[],_,_,_,_,hr=>by simp at hr
 |_::_,[],h,_,_,_=>h.elim
def kC (st:aJ) (aS:List bC):List bC->Prop
 |[]=>True
 |r::rs=>(dn (fun x=>look st.s x.1=some x.2\/∃ j,j∈r.pre/\∃ q,aS[j]?=some q/\q.dst=some x.1/\q.v=x.2) r.s/\dn (fun x=>look st.h x.1=some x.2\/∃ j,j∈r.pre/\∃ q,aS[j]?=some q/\x∈q.nb) r.h)/\kC st aS rs
theorem kC.get {st:aJ} {aS:List bC}:∀ {rs:List bC},kC st aS rs->∀ {r:bC},r∈rs->
  (∀ x∈r.s,look st.s x.1=some x.2\/∃ j,j∈r.pre/\∃ q,aS[j]?=some q/\q.dst=some x.1/\q.v=x.2)/\(∀ x∈r.h,look st.h x.1=some x.2\/∃ j,j∈r.pre/\∃ q,aS[j]?=some q/\x∈q.nb)
 |r::rs,h,r',hr=>by
  rcases List.mem_cons.1 hr with rfl|hr
  ·exact ⟨h.1.1.mem,h.1.2.mem⟩
  ·exact kC.get (rs:=rs) h.2 hr
def tO (st:aJ) (aS:List bC) (fin:aJ):Prop:=
 dn (fun x=>look st.s x.1=some x.2\/∃ (j:Nat) (q:bC),aS[j]?=some q/\q.dst=some x.1/\q.v=x.2) fin.s/\dn (fun x=>look st.h x.1=some x.2\/∃ (j:Nat) (q:bC),aS[j]?=some q/\x∈q.nb) fin.h
def keys (l:List (Nat×AB)):List Nat:=l.map (·.1)
def ids (aS:List bC):List Nat:=aS.flatMap fun r=>keys r.nb
def Bp (aS:List bC):List Nat:=aS.flatMap (·.E)
def dH (k:Nat):List Nat->Bool
 |[]=>false
 |j::l=>Nat.beq j k||dH k l
theorem eD {k:Nat} {l:List Nat}:dH k l=true↔k∈l:=by
 induction l with
 |nil=>simp [dH]
 |cons j l ih=>
  simp only [dH,Bool.or_eq_true,ih,List.mem_cons]
  constructor
  ·rintro (h|h)
   ·exact .inl (Nat.eq_of_beq_eq_true h).symm
   ·exact .inr h
  ·rintro (h|h)
   ·subst h;exact .inl (Nat.beq_refl _)
   ·exact .inr h
def nF (ops:Array Oper):Nat->Nat->Nat->Bool
 |0,i,j=>Region.waitsFor .any ops i j
 |f+1,i,j=>match ops[i]? with
  |some o=>o.after.any fun e=>Region.binds .any e && (Nat.beq e.on j||nF ops f e.on j)
  |none=>false
def fT (ops:Array Oper) (i j:Nat):Bool:=Region.waitsFor .any ops i j||nF ops 3 i j
theorem kE {ops:Array Oper} {n:Nat} {listed:Array Bool} (H:HeadInv .any ops n listed):∀ (f i j:Nat) (oi:Oper),ops[i]?=some oi->(∀ e∈oi.after,Region.binds .any e=true->listed.getD e.on false=true)->nF ops f i j=true->listed.getD j false=true
 |0,i,j,oi,hi,ha,h=>by
  obtain ⟨oj,hoj,e,he,hb,hon⟩:=Region.waitsFor_spec h
  have:oj=oi:=Option.some.inj (hoj.symm.trans hi)
  subst this
  rw [<-hon];exact ha e he hb
 |f+1,i,j,oi,hi,ha,h=>by
  unfold nF at h
  rw [hi] at h
  obtain ⟨e,he,hb⟩:=Array.any_eq_true'.1 h
  simp only [Bool.and_eq_true,Bool.or_eq_true] at hb
  have hl:=ha e he hb.1
  rcases hb.2 with h1|h1
  ·rw [<-Nat.eq_of_beq_eq_true h1];exact hl
  ·cases ho:ops[e.on]? with
   |none=>cases f<;>simp [nF,Region.waitsFor,ho] at h1
   |some o'=>exact kE H f e.on j o' ho (fun e' he' hb'=>H.closed e.on o' ho hl e' he' hb') h1
theorem nv {ops:Array Oper} {n:Nat} {listed:Array Bool} (H:HeadInv .any ops n listed) {i j:Nat} {oi:Oper} (hi:ops[i]?=some oi) (ha:∀ e∈oi.after,Region.binds .any e=true->listed.getD e.on false=true) (h:fT ops i j=true):listed.getD j false=true:=by
 unfold fT at h
 rcases Bool.or_eq_true_iff.1 h with h|h
 ·exact kE H 0 i j oi hi ha h
 ·exact kE H 3 i j oi hi ha h
def xy (ops:Array Oper) (aS:List bC) (N:Nat) (st:aJ) (i:Nat) (r:bC):Bool:=
 (match ops[i]? with
  |some o=>(match o.dst,r.dst with
   |some d,some d'=>Nat.beq d d' && Nat.blt d N && (look st.s d).isNone
   |none,none=>true
   |_,_=>false) && o.after.all (fun e=>!Region.binds .any e||Nat.blt e.on i)
  |none=>false) &&
 r.pre.all (fun j=>Nat.blt j aS.length && fT ops i j) &&
 r.E.all (fun k=>dH k (keys r.h)) &&
 aS.zipIdx.all (fun q=>Nat.beq q.2 i||((match q.1.dst,r.dst with
   |some d,some d'=>!Nat.beq d d'
   |_,_=>true) && (keys r.h).all fun k=>!dH k q.1.E))
def vC (ops:Array Oper) (aS:List bC) (N:Nat) (st:aJ):Nat->List bC->Bool
 |_,[]=>true
 |i,r::rs=>xy ops aS N st i r && vC ops aS N st (i+1) rs
def oR (ops:Array Oper) (aS:List bC) (N:Nat) (st fin:aJ):Bool:=
 vC ops aS N st 0 aS && ef (ids aS) && (ids aS).all (fun k=>Nat.ble st.n k && Nat.blt k fin.n) && ef (Bp aS) &&
 Nat.ble st.n fin.n && fin.h.all (fun x=>!dH x.1 (Bp aS) && Nat.blt x.1 fin.n) &&
 (if aS.length < ops.size then Region.sinkB .any ops aS.length && Region.chainB .any ops aS.length && Region.seqB .any ops (ops.size - aS.length) aS.length ((List.range aS.length).foldl (fun l i=>l.setIfInBounds i true) (Array.replicate ops.size false))
  else Nat.beq aS.length ops.size)
theorem vB {ops:Array Oper} {aS:List bC} {N:Nat} {st:aJ}:∀ {rs:List bC} {i:Nat},vC ops aS N st i rs=true->∀ {j:Nat} {r:bC},rs[j]?=some r->xy ops aS N st (i+j) r=true
 |r::rs,i,h,0,r',hr=>by simp at hr;subst hr;simp only [vC,Bool.and_eq_true] at h;exact h.1
 |r::rs,i,h,j+1,r',hr=>by
  simp only [vC,Bool.and_eq_true] at h
  have:=vB (rs:=rs) (i:=i+1) h.2 (j:=j) (by simpa using hr)
  rwa [show i+1+j=i+(j+1) by omega] at this
 |[],_,_,_,_,hr=>by simp at hr
theorem jC {l:List Nat} (h:ef l=true):l.Nodup:=by
 induction l with
 |nil=>exact .nil
 |cons k l ih=>
  simp only [ef,Bool.and_eq_true,Bool.not_eq_true',List.any_eq_false] at h
  exact List.nodup_cons.2 ⟨fun hm=>h.1 k hm (Nat.beq_refl _),ih h.2⟩

def eL (st:aJ) (aS:List bC):List Nat->aJ
 |[]=>st
 |i::d=>match aS[i]? with
  |some r=>((eL st aS d).add r.nb r.E).put r.dst r.v
  |none=>eL st aS d
theorem gH {st:aJ} {aS:List bC} {i:Nat} {r:bC} {d:List Nat} (h:aS[i]?=some r):eL st aS (i::d)=((eL st aS d).add r.nb r.E).put r.dst r.v:=by simp [eL,h]
theorem jU {st:aJ} {aS:List bC} {i:Nat} {d:List Nat} (h:aS[i]?=none):eL st aS (i::d)=eL st aS d:=by simp [eL,h]
theorem tJ (st:aJ) (dst:Option Tmp) (v:AV):(st.put dst v).h=st.h:=by cases dst<;>rfl
section
variable {st:aJ} {aS:List bC}
theorem pS {d:List Nat} {t:Nat} (h:∀ i∈d,∀ r,aS[i]?=some r->r.dst≠some t):look (eL st aS d).s t=look st.s t:=by
 induction d with
 |nil=>rfl
 |cons i d ih=>
  have ih:=ih fun j hj=>h j (List.mem_cons_of_mem _ hj)
  cases hr:aS[i]? with
  |none=>rw [jU hr];exact ih
  |some r=>
   rw [gH hr]
   have hne:=h i List.mem_cons_self r hr
   cases hd:r.dst with
   |none=>exact ih
   |some d'=>
    show look ((d',r.v)::(eL st aS d).s) t=_
    rw [bT,if_neg (fun e=>hne (by rw [hd,e]))]
    exact ih
theorem wm (hu:∀ (i j:Nat) (ri rj:bC) (t:Nat),aS[i]?=some ri->aS[j]?=some rj->ri.dst=some t->rj.dst=some t->i=j) {d:List Nat} {i:Nat} {r:bC} {t:Nat} (hi:i∈d) (hr:aS[i]?=some r) (ht:r.dst=some t):look (eL st aS d).s t=some r.v:=by
 induction d with
 |nil=>cases hi
 |cons j d ih=>
  cases hq:aS[j]? with
  |none=>
   rw [jU hq]
   rcases List.mem_cons.1 hi with rfl|hi
   ·rw [hr] at hq;cases hq
   ·exact ih hi
  |some q=>
   rw [gH hq]
   by_cases e:j=i
   ·subst e
    rw [hr] at hq;injection hq with hq;subst hq
    rw [ht]
    show look ((t,r.v)::(eL st aS d).s) t=_
    rw [bT,if_pos rfl]
   ·have hi':i∈d:=(List.mem_cons.1 hi).resolve_left (Ne.symm e)
    have:=ih hi'
    cases hd:q.dst with
    |none=>exact this
    |some d'=>
     show look ((d',q.v)::(eL st aS d).s) t=_
     rw [bT,if_neg (fun e'=>e (hu j i q r t hq hr (by rw [hd,e']) ht))]
     exact this
theorem kj {E:List Nat} {h:List (Nat×AB)} {k:Nat} (hk:k ∉ E):look (del E h) k=look h k:=by
 induction h with
 |nil=>rfl
 |cons y l ih=>
  obtain ⟨j,z⟩:=y
  unfold del
  rw [List.filter_cons]
  split
  ·rw [bT,bT];split
   ·rfl
   ·exact ih
  ·rename_i hc
   rw [bT,if_neg (fun e=>by subst e;simp at hc;exact hk hc)]
   exact ih
theorem pt {l:List (Nat×AB)} (hn:(keys l).Nodup) {k:Nat} {b:AB} (h:(k,b)∈l):look l k=some b:=by
 induction l with
 |nil=>cases h
 |cons y l ih=>
  obtain ⟨j,z⟩:=y
  have hn':(j::keys l).Nodup:=hn
  rw [List.nodup_cons] at hn'
  rw [bT]
  rcases List.mem_cons.1 h with h|h
  ·injection h with h1 h2;subst h1;subst h2;rw [if_pos rfl]
  ·rw [if_neg (fun e=>hn'.1 (List.mem_map.2 ⟨(k,b),h,e.symm⟩))]
   exact ih hn'.2 h
theorem kH {d:List Nat} {k:Nat} (h1:∀ i∈d,∀ r,aS[i]?=some r->k ∉ keys r.nb/\k ∉ r.E):look (eL st aS d).h k=look st.h k:=by
 induction d with
 |nil=>rfl
 |cons i d ih=>
  have ih:=ih fun j hj=>h1 j (List.mem_cons_of_mem _ hj)
  cases hr:aS[i]? with
  |none=>rw [jU hr];exact ih
  |some r=>
   rw [gH hr]
   obtain ⟨h2,h3⟩:=h1 i List.mem_cons_self r hr
   have hnone:look r.nb k=none:=by
    cases hl:look r.nb k with
    |none=>rfl
    |some b=>exact absurd (List.mem_map.2 ⟨(k,b),bL hl,rfl⟩) h2
   rw [tJ]
   show look (r.nb++del r.E (eL st aS d).h) k=_
   rw [gJ,hnone,Option.none_or,kj h3]
   exact ih
theorem pf (hu:∀ (i j:Nat) (ri rj:bC) (k:Nat),aS[i]?=some ri->aS[j]?=some rj->k∈keys ri.nb->k∈keys rj.nb->i=j) (hn:∀ (i:Nat) (r:bC),aS[i]?=some r->(keys r.nb).Nodup) {d:List Nat} {i:Nat} {r:bC} {k:Nat} {b:AB} (hi:i∈d) (hr:aS[i]?=some r) (hk:(k,b)∈r.nb)
  (hE:∀ j∈d,∀ q,aS[j]?=some q->k ∉ q.E):look (eL st aS d).h k=some b:=by
 induction d with
 |nil=>cases hi
 |cons j d ih=>
  have ih:=fun h=>ih h fun j hj=>hE j (List.mem_cons_of_mem _ hj)
  cases hq:aS[j]? with
  |none=>
   rw [jU hq]
   rcases List.mem_cons.1 hi with rfl|hi
   ·rw [hr] at hq;cases hq
   ·exact ih hi
  |some q=>
   rw [gH hq,tJ]
   show look (q.nb++del q.E (eL st aS d).h) k=_
   rw [gJ]
   by_cases e:j=i
   ·subst e
    rw [hr] at hq;injection hq with hq;subst hq
    rw [pt (hn j r hr) hk,Option.some_or]
   ·have hi':i∈d:=(List.mem_cons.1 hi).resolve_left (Ne.symm e)
    have hnone:look q.nb k=none:=by
     cases hl:look q.nb k with
     |none=>rfl
     |some b'=>exact absurd (hu j i q r k hq hr (List.mem_map.2 ⟨(k,b'),bL hl,rfl⟩) (List.mem_map.2 ⟨(k,b),hk,rfl⟩)) e
    rw [hnone,Option.none_or,kj (hE j List.mem_cons_self q hq)]
    exact ih hi'
end
theorem Core.sub {σ:Nat->Option bM} {T:Nat->Prop} {s1 s2:aJ} {a:Act} {w:World} (C:Core σ T s2 a w) (hs:∀ i v,look s1.s i=some v->look s2.s i=some v) (hh:∀ k b,look s1.h k=some b->look s2.h k=some b):Core σ T s1 a w:=
 ⟨fun i v h=>C.fm i v (hs i v h),fun k b h=>C.heap k b (hh k b h),fun k k' b b' g g' h h'=>C.inj k k' b b' g g' (hh k b h) (hh k' b' h'),C.er⟩
theorem mW {α:Type} {f:α->List Nat}:∀ {l:List α},(l.flatMap f).Nodup->(∀ (i j:Nat) (x y:α) (k:Nat),l[i]?=some x->l[j]?=some y->k∈f x->k∈f y->i=j)/\∀ (i:Nat) (x:α),l[i]?=some x->(f x).Nodup
 |[],_=>⟨fun i j x y k h=>by simp at h,fun i x h=>by simp at h⟩
 |a::l,h=>by
  rw [List.flatMap_cons,List.nodup_append] at h
  obtain ⟨h1,h2,h3⟩:=h
  obtain ⟨h4,h5⟩:=mW h2
  have far:∀ j y k,l[j]?=some y->k∈f a->k∈f y->False:=fun j y k hy hk hk'=>h3 k hk k (List.mem_flatMap.2 ⟨y,List.mem_of_getElem? hy,hk'⟩) rfl
  refine ⟨fun i j x y k hx hy hk hk'=>?_,fun i x hx=>?_⟩
  ·rcases i with _|i<;>rcases j with _|j
   ·rfl
   ·simp at hx hy;subst hx;exact (far j y k hy hk hk').elim
   ·simp at hx hy;subst hy;exact (far i x k hx hk' hk).elim
   ·rw [h4 i j x y k (by simpa using hx) (by simpa using hy) hk hk']
  ·rcases i with _|i
   ·simp at hx;subst hx;exact h1
   ·exact h5 i x (by simpa using hx)

theorem tw (n:Nat):∀ (l:Array Bool) (j:Nat),((List.range n).foldl (fun l i=>l.setIfInBounds i true) l)[j]?=if j < n/\j < l.size then some true else l[j]?:=by
 induction n with
 |zero=>intro l j;simp
 |succ n ih=>
  intro l j
  have hsz:∀ (xs:List Nat) (l:Array Bool),(xs.foldl (fun l i=>l.setIfInBounds i true) l).size=l.size:=by
   intro xs
   induction xs with
   |nil=>intro l;rfl
   |cons x xs ih=>intro l;rw [List.foldl_cons,ih,Array.size_setIfInBounds]
  rw [List.range_succ,List.foldl_append,List.foldl_cons,List.foldl_nil,Array.getElem?_setIfInBounds,hsz,ih]
  by_cases h1:n=j
  ·subst h1
   by_cases h2:n < l.size
   ·rw [if_pos rfl,if_pos h2,if_pos ⟨by omega,h2⟩]
   ·rw [if_pos rfl,if_neg h2,if_neg (by omega)];simp [Nat.le_of_not_lt h2]
  ·rw [if_neg h1]
   by_cases h2:j < n/\j < l.size
   ·rw [if_pos h2,if_pos ⟨by omega,h2.2⟩]
   ·rw [if_neg h2,if_neg (by omega)]


theorem count_set {p q:Nat->Bool} {i:Nat} (hp:p i=true) (hq:q i=false) (h:∀ j,j≠i->p j=q j):∀ (l:List Nat),l.Nodup->i∈l->(l.filter p).length=(l.filter q).length+1
 |[],_,hi=>by cases hi
 |x::l,hn,hi=>by
  obtain ⟨h1,h2⟩:=List.nodup_cons.1 hn
  by_cases hx:x=i
  ·subst hx
   have e:l.filter p=l.filter q:=List.filter_congr fun j hj=>h j (fun e=>h1 (e▸hj))
   simp [hp,hq,e]
  ·have hi':i∈l:=by
    rcases List.mem_cons.1 hi with e|e
    ·exact absurd e.symm hx
    ·exact e
   have ih:=count_set hp hq h l h2 hi'
   rw [List.filter_cons,List.filter_cons,h x hx]
   split<;>simp [ih]

def iy (n:Nat) (listed:Array Bool):Nat:=((List.range n).filter fun i=>!listed.getD i false).length

theorem Core.drew {σ:Nat->Option bM} {T:Nat->Prop} {st:aJ} {a:Act} {w:World} (C:Core σ T st a w):Core σ T st a {w with drawn:=w.drawn+1}:=by
 have G:Grow σ σ T T w {w with drawn:=w.drawn+1} (fun _=>False):=⟨Nat.le_refl _,fun _ _ _=>rfl,fun _ h=>h.elim,fun _ _ h=>h,fun _ _ h=>h⟩
 exact ⟨fun i v h=>(C.fm i v h).grow G,fun k b h=>(C.heap k b h).grow G (fun _ _=>⟨fun h=>h,fun h=>h⟩) (fun h=>h),C.inj,C.er⟩
theorem qq {P:Program} {ops:Array Oper} {Q:Exit->Act->World->Prop} {i:Nat} {o:Oper} {K:Act->World->Prop} {a:Act} {w:World} (ho:ops[i]?=some o) (hw:Region.wanted o (yielded ops a.tmps)=true) (h:o.wp P a w K Q):wpOp P ops Q i K a w:=by
 unfold wpOp;rw [ho];simp only [hw,if_true];exact .inl h
theorem nE {P:Program} {ops:Array Oper} {Q:Exit->Act->World->Prop} {i:Nat} {o:Oper} {K:Act->World->Prop} {a:Act} {w:World} (ho:ops[i]?=some o) (hw:Region.wanted o (yielded ops a.tmps)=false) (h:K (a.put o.dst undef) w):wpOp P ops Q i K a w:=by
 unfold wpOp;rw [ho];simp only [hw];exact h
section
variable {P:Program} {W0:World} {F:Nat->Prop} {N:NT} {T0:Nat->Prop} {pin:List (Nat×bM)} {Q:Exit->aJ->Prop} {st:aJ}
structure EH (ops:Array Oper) (aS:List bC) (N:Nat) (st:aJ) (i:Nat) (r:bC):Prop where
 dst:∀ o,ops[i]?=some o->o.dst=r.dst
 lt:∀ d,r.dst=some d->d < N/\look st.s d=none
 back:∀ o,ops[i]?=some o->∀ e∈o.after,Region.binds .any e=true->e.on < i
 pre:∀ j∈r.pre,j < aS.length/\fT ops i j=true
 E:∀ k∈r.E,k∈keys r.h
 En:∀ j q,aS[j]?=some q->j≠i->(∀ t,r.dst=some t->q.dst≠some t)/\∀ k∈keys r.h,k ∉ q.E
theorem yO {N:Nat} {ops:Array Oper} {aS:List bC} {i:Nat} {r:bC} (h:xy ops aS N st i r=true):EH ops aS N st i r:=by
 simp only [xy,Bool.and_eq_true] at h
 obtain ⟨⟨⟨h1,h2⟩,h3⟩,h4⟩:=h
 rw [List.all_eq_true] at h2 h3 h4
 cases ho:ops[i]? with
 |none=>rw [ho] at h1;cases h1
 |some o=>
  rw [ho] at h1
  simp only [Bool.and_eq_true] at h1
  obtain ⟨h5,h6⟩:=h1
  have hd:o.dst=r.dst/\∀ d,r.dst=some d->d < N/\look st.s d=none:=by
   cases hod:o.dst with
   |none=>cases hrd:r.dst with
    |none=>exact ⟨rfl,fun d h=>by cases h⟩
    |some d=>rw [hod,hrd] at h5;cases h5
   |some d=>cases hrd:r.dst with
    |none=>rw [hod,hrd] at h5;cases h5
    |some d'=>
     rw [hod,hrd] at h5
     simp only [Bool.and_eq_true] at h5
     have e:=Nat.eq_of_beq_eq_true h5.1.1
     subst e
     refine ⟨rfl,fun d' h=>?_⟩
     injection h with h;subst h
     exact ⟨by have:=h5.1.2;rw [Nat.blt_eq] at this;exact this,by simpa using h5.2⟩
  refine ⟨fun o' ho'=>?_,hd.2,fun o' ho' e he hb=>?_,fun j hj=>?_,fun k hk=>eD.1 (h3 k hk),fun j q hq hne=>?_⟩
  ·rw [ho] at ho';injection ho' with ho';subst ho';exact hd.1
  ·rw [ho] at ho';injection ho' with ho';subst ho'
   have:=Array.all_eq_true_iff_forall_mem.1 h6 e he
   simp only [hb,Bool.not_true,Bool.false_or] at this
   rw [Nat.blt_eq] at this;exact this
  ·have:=h2 j hj
   simp only [Bool.and_eq_true] at this
   exact ⟨by have:=this.1;rw [Nat.blt_eq] at this;exact this,this.2⟩
  ·have:=h4 (q,j) (by rw [List.mem_zipIdx_iff_getElem?];exact hq)
   simp only [Bool.or_eq_true,Bool.and_eq_true] at this
   rcases this with h|⟨h,h'⟩
   ·exact absurd (Nat.eq_of_beq_eq_true h) hne
   ·refine ⟨fun t ht e=>?_,fun k hk=>?_⟩
    ·rw [ht,e] at h;simp at h
    ·have:=List.all_eq_true.1 h' k hk
     simp only [Bool.not_eq_true'] at this
     exact fun hm=>by rw [eD.2 hm] at this;cases this
theorem pH {l:List Oper} (aS:List bC) (fin:aJ) (hm:P.follows .mixedOrders=true) (hB:oR l.toArray aS N.1 st fin=true) (hrows:iZ P l.toArray aS l) (hsee:kC st aS aS) (hfin:tO st aS fin)
  (h:AL P W0 F N T0 pin l.toArray Q (l.drop aS.length) fin):∀ a w,Inv W0 F N T0 pin st a w->wpAny P .any l.toArray (QX W0 F N T0 pin Q) l.toArray.size (Array.replicate l.toArray.size false) a {w with drawn:=w.drawn+1}:=by
 rintro a w ⟨σ0,T1,hT1,S0,hp0⟩
 simp only [oR,Bool.and_eq_true] at hB
 obtain ⟨⟨⟨⟨⟨⟨hall,hnid⟩,hids⟩,hneat⟩,hfn⟩,hfh⟩,htail⟩:=hB
 have tab:∀ i r,aS[i]?=some r->EH l.toArray aS N.1 st i r:=fun i r hr=>yO (by have:=vB hall hr;rwa [Nat.zero_add] at this)
 obtain ⟨idu,idn⟩:=mW (f:=fun r:bC=>keys r.nb) (jC hnid)
 obtain ⟨eatu,_⟩:=mW (f:=fun r:bC=>r.E) (jC hneat)
 have idge:∀ (i:Nat) (r:bC) k,aS[i]?=some r->k∈keys r.nb->st.n<=k/\k < fin.n:=fun i r k hr hk=>by
  have:=List.all_eq_true.1 hids k (List.mem_flatMap.2 ⟨r,List.mem_of_getElem? hr,hk⟩)
  simp only [Bool.and_eq_true,Nat.blt_eq] at this
  exact ⟨Nat.le_of_ble_eq_true this.1,this.2⟩
 have dstu:∀ (i j:Nat) (ri rj:bC) (t:Nat),aS[i]?=some ri->aS[j]?=some rj->ri.dst=some t->rj.dst=some t->i=j:=fun i j ri rj t hi hj h1 h2=>by
  by_cases e:i=j
  ·exact e
  ·exact absurd h2 (((tab i ri hi).En j rj hj (Ne.symm e)).1 t h1)
 have hnle:aS.length<=l.toArray.size:=by
  split at htail
  ·omega
  ·have:=Nat.eq_of_beq_eq_true htail;omega
 let InvD:Array Bool->Act->World->Prop:=fun listed a w=>HeadInv .any l.toArray aS.length listed/\∃ done:List Nat,(∀ i,i∈done↔i < aS.length/\listed.getD i false=true)/\∃ σ T,(∀ b,b < W0.heap.size->(T b->T0 b)/\(T0 b->T b))/\rn W0 F N σ T (eL st aS done) a w/\(∀ k g,look pin k=some g->σ k=some g)/\
  ∀ k,st.n<=k->(∀ i∈done,∀ r,aS[i]?=some r->k ∉ keys r.nb)->σ k=none
 have step:∀ listed a w i o,InvD listed a w->l.toArray[i]?=some o->i < aS.length->i∈Region.ready .any l.toArray listed->wpOp P l.toArray (QX W0 F N T0 pin Q) i (InvD (listed.setIfInBounds i true)) a w:=by
  rintro listed a w i o ⟨H,done,hdone,σ,T,hT,S,hp,hfresh⟩ ho hi hr
  obtain ⟨r,hri⟩:∃ r,aS[i]?=some r:=⟨_,List.getElem?_eq_getElem hi⟩
  have t:=tab i r hri
  obtain ⟨hun,o',ho',hallr⟩:=mem_ready.1 hr
  have hoo:o'=o:=Option.some.inj (ho'.symm.trans ho)
  subst hoo
  have hnot:i ∉ done:=fun hm=>by have:=((hdone i).1 hm).2;rw [getD_both hun] at this;cases this
  have hdst:=t.dst _ ho
  have preIn:∀ j∈r.pre,j∈done:=fun j hj=>by
   obtain ⟨hj1,hj2⟩:=t.pre j hj
   exact (hdone j).2 ⟨hj1,nv H ho hallr hj2⟩
  obtain ⟨hsS,hsH⟩:=hsee.get (List.mem_of_getElem? hri)
  have hs:∀ t x,look r.st.s t=some x->look (eL st aS done).s t=some x:=fun t x hx=>by
   rcases hsS (t,x) (bL hx) with h1|⟨j,hj,q,hq,hqd,hqv⟩
   ·rw [pS fun j hj q hq e=>?_];exact h1
    have:=((tab j q hq).lt t e).2
    have h1:look st.s t=some x:=h1
    rw [h1] at this;cases this
   ·have hqv:q.v=x:=hqv
    subst hqv
    exact wm dstu (preIn j hj) hq hqd
  have hh:∀ k b,look r.st.h k=some b->look (eL st aS done).h k=some b:=fun k b hb=>by
   have hkm:=bL hb
   have hkk:k∈keys r.h:=List.mem_map.2 ⟨(k,b),hkm,rfl⟩
   have hne:∀ j∈done,j≠i:=fun j hj e=>hnot (e▸hj)
   rcases hsH (k,b) hkm with h1|⟨j,hj,q,hq,hqm⟩
   ·rw [kH fun j hj q hq=>⟨fun hk=>?_,((t.En j q hq (hne j hj)).2 k hkk)⟩];exact h1
    have:=S0.hn k b h1
    have:=(idge j q k hq hk).1
    omega
   ·exact pf idu idn (preIn j hj) hq hqm fun j' hj' q' hq'=>(t.En j' q' hq' (hne j' hj')).2 k hkk
  have Cr:Core σ T r.st a w:=S.core.sub hs hh
  have fin':∀ σ' T' w' u,Ext σ T w σ' T' w' r.nb r.E->eB σ' T' w' r.v u->InvD (listed.setIfInBounds i true) (a.put o'.dst u) w':=by
   intro σ' T' w' u X hv
   refine ⟨H.set hr hi,i::done,fun j=>?_,σ',T',fun b hb=>⟨fun hb'=>(hT b hb).1 (X.grow.kP b (Nat.lt_of_lt_of_le hb S.size) hb'),fun h0=>X.lS b ((hT b hb).2 h0)⟩,?_,fun k g hk=>X.grow.σle _ _ (hp k g hk),fun k hk hkn=>?_⟩
   ·rw [List.mem_cons]
    by_cases e:j=i
    ·subst e
     have hsz:j < listed.size:=by rw [H.size];omega
     simp [hi,hsz]
    ·rw [getD_set_ne false (Ne.symm e)]
     simp [e,hdone]
   ·rw [gH hri,hdst]
    refine S.step (fun e he=>?_) (fun d hd=>(t.lt d hd).1) X hv
    obtain ⟨⟨e',b⟩,hm,rfl⟩:=List.mem_map.1 (t.E e he)
    cases hl:look r.h e' with
    |none=>exact absurd hl (jF hm)
    |some b'=>exact ⟨b',hh e' b' hl⟩
   ·rw [X.wV k fun b hb=>hkn i List.mem_cons_self r hri (List.mem_map.2 ⟨(k,b),hb,rfl⟩)]
    exact hfresh k hk fun j hj=>hkn j (List.mem_cons_of_mem _ hj)
  obtain ⟨o2,ho2,hro⟩:=hrows.get hri
  have:o2=o':=by
   have h1:l.toArray[i]?=some o2:=by simpa using ho2
   exact Option.some.inj (h1.symm.trans ho)
  subst this
  rcases hro with ⟨hw,hg⟩|⟨hw,hv,hnb,hE⟩
  ·refine qq ho (hw σ T a w Cr) (mF (ib (hg σ T a w Cr fun k b hk hkE=>hfresh k (idge i r k hri (List.mem_map.2 ⟨(k,b),hk,rfl⟩)).1 fun j hj q hq hkq=>hnot (idu j i q r k hq hri hkq (List.mem_map.2 ⟨(k,b),hk,rfl⟩)▸hj)) ?_))
   rintro a' w' ⟨u,σ',T',rfl,X,hv⟩
   exact fin' σ' T' w' u X hv
  ·refine nE ho (hw σ T a w Cr) (fin' σ T w undef ?_ ?_)
   ·rw [hnb,hE];exact Ext.same S.core.er
   ·rw [hv];exact ⟨[],rfl,trivial⟩
 have atEnd:∀ listed a w,InvD listed a w->(∀ i,i < aS.length->listed.getD i false=true)->Inv W0 F N T0 pin fin a w:=by
  rintro listed a w ⟨H,done,hdone,σ,T,hT,S,hp,hfresh⟩ hl
  have bO:∀ i r,aS[i]?=some r->i∈done:=fun i r hr=>(hdone i).2 ⟨(List.getElem?_eq_some_iff.1 hr).1,hl i (List.getElem?_eq_some_iff.1 hr).1⟩
  have hs:∀ t x,look fin.s t=some x->look (eL st aS done).s t=some x:=fun t x hx=>by
   rcases hfin.1.mem (t,x) (bL hx) with h1|⟨j,q,hq,hqd,hqv⟩
   ·rw [pS fun j hj q hq e=>?_];exact h1
    have:=((tab j q hq).lt t e).2
    have h1:look st.s t=some x:=h1
    rw [h1] at this;cases this
   ·have hqv:q.v=x:=hqv
    subst hqv
    exact wm dstu (bO j q hq) hq hqd
  have hfhx:=List.all_eq_true.1 hfh
  have hh:∀ k b,look fin.h k=some b->look (eL st aS done).h k=some b:=fun k b hb=>by
   have hkm:=bL hb
   have hno:=hfhx _ hkm
   simp only [Bool.and_eq_true,Bool.not_eq_true'] at hno
   have hne:∀ (j:Nat) (q:bC),aS[j]?=some q->k ∉ q.E:=fun j q hq hk=>by
    have:=eD.2 (show k∈Bp aS from List.mem_flatMap.2 ⟨q,List.mem_of_getElem? hq,hk⟩)
    rw [hno.1] at this;cases this
   rcases hfin.2.mem (k,b) hkm with h1|⟨j,q,hq,hqm⟩
   ·rw [kH fun j hj q hq=>⟨fun hk=>?_,hne j q hq⟩];exact h1
    have:=S0.hn k b h1
    have:=(idge j q k hq hk).1
    omega
   ·exact pf idu idn (bO j q hq) hq hqm fun j' hj' q' hq'=>hne j' q' hq'
  refine ⟨σ,T,hT,⟨S.core.sub hs hh,S.os,S.tape,S.output,S.size,S.cF,fun k b g hk=>S.own k b g (hh k b hk),fun k hk=>?_,fun k b hk=>?_,S.jt,S.iX⟩,hp⟩
  ·have hk1:=Nat.le_of_ble_eq_true hfn
   exact hfresh k (by omega) fun i _ r hr hkr=>by have:=(idge i r k hr hkr).2;omega
  ·have:=hfhx _ (bL hk)
   simp only [Bool.and_eq_true,Nat.blt_eq] at this
   exact this.2
 have main:∀ k listed a1 w1,InvD listed a1 w1->iy aS.length listed=k->wpAny P .any l.toArray (QX W0 F N T0 pin Q) (k+(l.toArray.size - aS.length)) listed a1 w1:=by
  intro k
  induction k with
  |zero=>
   intro listed a1 w1 I hk
   have hl:∀ i,i < aS.length->listed.getD i false=true:=fun i hi=>by
    have h:=List.eq_nil_of_length_eq_zero hk
    have h2:=List.filter_eq_nil_iff.1 h i (List.mem_range.2 hi)
    simpa using h2
   have hIf:=atEnd listed a1 w1 I hl
   have el:listed=(List.range aS.length).foldl (fun l i=>l.setIfInBounds i true) (Array.replicate l.toArray.size false):=by
    apply Array.ext_getElem?
    intro j
    rw [tw]
    by_cases hj:j < aS.length
    ·have hjs:j < listed.size:=by rw [I.1.size];omega
     rw [if_pos ⟨hj,by rw [Array.size_replicate];omega⟩]
     have:=hl j hj
     simp [hjs] at this
     simp [hjs,this]
    ·rw [if_neg (by omega)]
     by_cases hjs:j < l.toArray.size
     ·have h1:=I.1.tail j (by omega) hjs
      have hjs':j < listed.size:=by rw [I.1.size];exact hjs
      simp [hjs'] at h1
      simp at hjs
      simp [hjs',h1,hjs]
     ·have:listed.size<=j:=by rw [I.1.size];omega
      simp at hjs
      rw [Array.getElem?_eq_none this,Array.getElem?_eq_none (by simpa using hjs)]
   have hdl:(l.drop aS.length).length=l.toArray.size - aS.length:=by simp
   by_cases hlt:aS.length < l.toArray.size
   ·rw [if_pos hlt] at htail
    simp only [Bool.and_eq_true] at htail
    have:=wpAny_of_seq (md:=.any) (Q':=QX W0 F N T0 pin Q) (l.drop aS.length) aS.length listed a1 w1 (fun j=>by simp [List.getElem?_drop]) (by rw [hdl,el];exact htail.2) (h a1 w1 hIf)
    rw [hdl] at this
    rw [Nat.zero_add]
    exact this
   ·have e0:l.toArray.size - aS.length=0:=by omega
    rw [e0]
    have hnil:l.drop aS.length=[]:=List.eq_nil_of_length_eq_zero (by rw [hdl,e0])
    rw [hnil] at h
    refine ⟨List.eq_nil_iff_forall_not_mem.2 fun i hi=>?_,h a1 w1 hIf⟩
    obtain ⟨h1,o,ho,_⟩:=mem_ready.1 hi
    have hi':i < l.toArray.size:=(Array.getElem?_eq_some_iff.1 ho).1
    have:=hl i (by omega)
    rw [getD_both h1] at this;cases this
  |succ k ih=>
   intro listed a1 w1 I hk
   have hex:∃ i,i < aS.length/\listed.getD i false=false/\∀ j,j < i->listed.getD j false=true:=by
    have h1:∃ i,i < aS.length/\listed.getD i false=false:=by
     have hne:((List.range aS.length).filter fun i=>!listed.getD i false)≠[]:=fun e=>by unfold iy at hk;rw [e] at hk;cases hk
     obtain ⟨x,hx⟩:=List.exists_mem_of_ne_nil _ hne
     obtain ⟨hx1,hx2⟩:=List.mem_filter.1 hx
     exact ⟨x,List.mem_range.1 hx1,by simpa using hx2⟩
    obtain ⟨i,hi,hmin⟩:=exists_least h1
    refine ⟨i,hi.1,hi.2,fun j hj=>?_⟩
    cases hjl:listed.getD j false with
    |true=>rfl
    |false=>exact absurd (hmin j ⟨by omega,hjl⟩) (by omega)
   obtain ⟨i0,hi0,hun0,hlow⟩:=hex
   have hopi:∀ i,i < aS.length->∃ o,l.toArray[i]?=some o:=fun i hi=>⟨_,Array.getElem?_eq_getElem (by omega)⟩
   have bO:∀ i,i < aS.length->listed.getD i false=false->listed.getD i true=false:=fun i hi h=>getD_in (by rw [I.1.size];omega) h
   have hready:i0∈Region.ready .any l.toArray listed:=by
    obtain ⟨o,ho⟩:=hopi i0 hi0
    obtain ⟨r,hr⟩:∃ r,aS[i0]?=some r:=⟨_,List.getElem?_eq_getElem hi0⟩
    exact mem_ready.2 ⟨bO i0 hi0 hun0,o,ho,fun e he hb=>hlow _ ((tab i0 r hr).back o ho e he hb)⟩
   rw [show k+1+(l.toArray.size - aS.length)=(k+(l.toArray.size - aS.length))+1 by omega]
   refine ⟨fun h=>(by rw [h] at hready;cases hready),fun i hi=>?_⟩
   have hilt:i < aS.length:=by
    rcases Nat.lt_or_ge i aS.length with h|h
    ·exact h
    ·by_cases hlt:aS.length < l.toArray.size
     ·rw [if_pos hlt] at htail
      simp only [Bool.and_eq_true] at htail
      exact absurd hi (tail_waits htail.1.1 htail.1.2 hlt I.1 _ i0 rfl hi0 (bO i0 hi0 hun0) i h)
     ·obtain ⟨_,o,ho,_⟩:=mem_ready.1 hi
      have hi':i < l.toArray.size:=(Array.getElem?_eq_some_iff.1 ho).1
      omega
   obtain ⟨o,ho⟩:=hopi i hilt
   refine wpOp_mono (fun a' w' I'=>ih _ a' w' I' ?_) (step listed a1 w1 i o I ho hilt hi)
   have hunl:=getD_both (mem_ready.1 hi).1
   have hset:(listed.setIfInBounds i true).getD i false=true:=by
    have:i < listed.size:=by rw [I.1.size];omega
    simp [this]
   have:=count_set (p:=fun j=>!listed.getD j false) (q:=fun j=>!(listed.setIfInBounds i true).getD j false) (i:=i) (by simp only [hunl];rfl) (by simp only [hset];rfl)
    (fun j hj=>by simp only [getD_set_ne false (Ne.symm hj)]) (List.range aS.length) List.nodup_range (List.mem_range.2 hilt)
   unfold iy at hk ⊢
   omega
 have inv0:HeadInv .any l.toArray aS.length (Array.replicate l.toArray.size false):=
  ⟨by simp,fun j oj _ hl=>(by rw [getD_replicate_false] at hl;cases hl),fun t _ ht=>getD_in (by simpa using ht) (getD_replicate_false _ _)⟩
 have hw0:rn W0 F N σ0 T1 st a {w with drawn:=w.drawn+1}:=
  ⟨S0.core.drew,S0.os,S0.tape,S0.output,S0.size,S0.cF,S0.own,S0.next,S0.hn,S0.jt,S0.iX⟩
 have I0:InvD (Array.replicate l.toArray.size false) a {w with drawn:=w.drawn+1}:=
  ⟨inv0,[],fun i=>by rw [getD_replicate_false];simp,σ0,T1,hT1,hw0,hp0,fun k hk _=>S0.next k hk⟩
 have:=main aS.length _ a _ I0 (by
  unfold iy
  rw [List.filter_eq_self.2 (fun i _=>by rw [getD_replicate_false];rfl),List.length_range])
 rw [show aS.length+(l.toArray.size - aS.length)=l.toArray.size by omega] at this
 exact this
theorem CR {id:Nat} {l:List Oper} (aS:List bC) (fin:aJ) (hm:P.follows .mixedOrders=true) (hB:oR l.toArray aS N.1 st fin=true) (hrows:iZ P l.toArray aS l) (hsee:kC st aS aS) (hfin:tO st aS fin)
  (h:AL P W0 F N T0 pin l.toArray Q (l.drop aS.length) fin):AC P W0 F N T0 pin Q (.region id l.toArray true) st:=fun a w hI=>wp_region_any hm (pH aS fin hm hB hrows hsee hfin h a w hI)
end
end
section

def cI (n:Int):CV:=.d (.v (.int .i64 n))
def cB (b:Bool):CV:=.d (.v (.bool b))
def cN:CV:=.d (.v (.slice none 0 0))
def cR (K:Nat) (rows:List (List D)):CV:=.d (.r K rows)
def dI (n:Int):D:=.v (.int .i64 n)
def dB (b:Bool):D:=.v (.bool b)
def aI (n:Int):AV:=.v (.c (.d (.v (.int .i64 n))))
def aB (b:Bool):AV:=.v (.c (.d (.v (.bool b))))
def aC (c:CV):AV:=.v (.c c)
def aG (xs:List CV):AV:=.v (.g xs)

section
variable {P:Program} {W0:World} {F:Nat->Prop} {N:NT} {T0:Nat->Prop} {pin:List (Nat×bM)} {ops:Array Oper} {Q:Exit->aJ->Prop} {s:List (Nat×AV)} {h:List (Nat×AB)} {n:Nat}
theorem add_nil (st:aJ):st.add [] []=st:=by
 have:del [] st.h=st.h:=List.filter_eq_self.2 fun _ _=>rfl
 simp [aJ.add,this,iw]
theorem cC {o:Oper} {rest:List Oper} {d:Nat} {av:AV} (hw:ah ops o ⟨s,h,n⟩) (g:aE P o ⟨s,h,n⟩ av [] []) (hd:o.dst=some d) (hN:Nat.blt d N.1=true) (k:AL P W0 F N T0 pin ops Q rest ⟨(d,av)::s,h,n⟩):AL P W0 F N T0 pin ops Q (o::rest) ⟨s,h,n⟩:=
 rp hw g (fun d' h'=>by rw [hd] at h';injection h' with h';subst h';rw [Nat.blt_eq] at hN;exact hN) (fun _ h=>by cases h) (fun _ _ h=>by cases h) (by rw [add_nil,hd];exact k)
theorem vE {o:Oper} {rest:List Oper} {d n':Nat} {av:AV} {b:AB} (hw:ah ops o ⟨s,h,n⟩) (g:aE P o ⟨s,h,n⟩ av [(n,b)] []) (hd:o.dst=some d) (hN:Nat.blt d N.1=true) (hn:n+1=n') (k:AL P W0 F N T0 pin ops Q rest ⟨(d,av)::s,(n,b)::h,n'⟩):AL P W0 F N T0 pin ops Q (o::rest) ⟨s,h,n⟩:=
 rp hw g (fun d' h'=>by rw [hd] at h';injection h' with h';subst h';rw [Nat.blt_eq] at hN;exact hN) (fun _ h=>by cases h) (fun k b hk _=>by obtain ⟨rfl,_⟩:=Prod.mk.inj (List.mem_singleton.1 hk);exact Nat.le_refl _) (by
  have hdel:del [] h=h:=List.filter_eq_self.2 fun _ _=>rfl
  have e:(aJ.add ⟨s,h,n⟩ [(n,b)] [])=⟨s,(n,b)::h,n'⟩:=by simp [aJ.add,hdel,iw,<-hn]
  rw [e,hd];exact k)
def kr:List (Nat×AB)->Nat->AB->List (Nat×AB)
 |[],_,_=>[]
 |(j,x)::l,k,b=>bif Nat.beq j k then (j,b)::l else (j,x)::kr l k b
theorem jX {l:List (Nat×AB)} {k:Nat} {b x:AB} {j:Nat} (hj:look (kr l k b) j=some x):(j=k/\x=b)\/(j≠k/\look l j=some x)\/(j≠k/\False):=by
 induction l with
 |nil=>cases hj
 |cons y l ih=>
  obtain ⟨i,z⟩:=y
  by_cases e:i=k
  ·subst e
   have:kr ((i,z)::l) i b=(i,b)::l:=by show (bif Nat.beq i i then _ else _)=_;rw [Nat.beq_refl];rfl
   rw [this,bT] at hj
   split at hj
   ·rename_i e;subst e;injection hj with hj;exact .inl ⟨rfl,hj.symm⟩
   ·rename_i e;exact .inr (.inl ⟨Ne.symm e,by rw [bT,if_neg e];exact hj⟩)
  ·have:kr ((i,z)::l) k b=(i,z)::kr l k b:=by
    show (bif Nat.beq i k then _ else _)=_
    rw [Bool.eq_false_iff.2 fun h=>e (Nat.eq_of_beq_eq_true h)];rfl
   rw [this,bT] at hj
   split at hj
   ·rename_i e2;subst e2;exact .inr (.inl ⟨e,by rw [bT,if_pos rfl];exact hj⟩)
   ·rename_i e2
    rcases ih hj with h|h|h
    ·exact .inl h
    ·exact .inr (.inl ⟨h.1,by rw [bT,if_neg e2];exact h.2⟩)
    ·exact h.2.elim
theorem Ad {o:Oper} {rest:List Oper} {k0:Nat} {b b0:AB} {h':List (Nat×AB)} (hw:ah ops o ⟨s,h,n⟩) (g:aE P o ⟨s,h,n⟩ (.v (.c .any)) [(k0,b)] [k0]) (hd:o.dst=none) (hb:look h k0=some b0) (hk:Nat.blt k0 n=true) (hh:kr h k0 b=h') (k:AL P W0 F N T0 pin ops Q rest ⟨s,h',n⟩):AL P W0 F N T0 pin ops Q (o::rest) ⟨s,h,n⟩:=by
 refine rp hw g (fun d' h'=>by rw [hd] at h';cases h') (fun e he=>⟨b0,by rw [List.mem_singleton.1 he];exact hb⟩) (fun k b hk hE=>absurd (List.mem_singleton.2 (Prod.mk.inj (List.mem_singleton.1 hk)).1) hE) ?_
 rw [hd]
 refine ld (fun W0 F N T0 a w hI=>?_) k
 obtain ⟨σ,T,hT,S,hp⟩:=hI
 rw [Nat.blt_eq] at hk
 have hk:k0 < n:=hk
 have hs:∀ j x,look h' j=some x->look ((aJ.add ⟨s,h,n⟩ [(k0,b)] [k0])).h j=some x:=fun j x hj=>by
  subst hh
  show look ((k0,b)::del [k0] h) j=some x
  rcases jX hj with ⟨rfl,rfl⟩|⟨hne,hj⟩|h
  ·rw [bT,if_pos rfl]
  ·rw [bT,if_neg (Ne.symm hne),kj (by simpa using hne)];exact hj
  ·exact h.2.elim
 have hmax:(aJ.add ⟨s,h,n⟩ [(k0,b)] [k0]).n=n:=by
  show Nat.max n (k0+1)=n
  exact Nat.max_eq_left hk
 exact ⟨σ,T,hT,⟨S.core.sub (fun _ _ h=>h) hs,S.os,S.tape,S.output,S.size,S.cF,fun j x g hj=>S.own j x g (hs j x hj),fun j hj=>S.next j (Nat.le_trans (Nat.le_of_eq hmax) hj),fun j x hj=>Nat.lt_of_lt_of_le (S.hn j x (hs j x hj)) (Nat.le_of_eq hmax),S.jt,S.iX⟩,hp⟩
theorem Ha {o:Oper} {rest:List Oper} {d n':Nat} {av:AV} {nb h':List (Nat×AB)} (hw:ah ops o ⟨s,h,n⟩) (g:aE P o ⟨s,h,n⟩ av nb []) (hd:o.dst=some d) (hN:Nat.blt d N.1=true) (hnb:nb.all (fun x=>Nat.ble n x.1)=true) (hn:iw nb n=n') (hh:nb++h=h') (k:AL P W0 F N T0 pin ops Q rest ⟨(d,av)::s,h',n'⟩):AL P W0 F N T0 pin ops Q (o::rest) ⟨s,h,n⟩:=
 rp hw g (fun d' h'=>by rw [hd] at h';injection h' with h';subst h';rw [Nat.blt_eq] at hN;exact hN) (fun _ h=>by cases h) (fun k b hk _=>Nat.le_of_ble_eq_true (List.all_eq_true.1 hnb _ hk)) (by
  have hdel:del [] h=h:=List.filter_eq_self.2 fun _ _=>rfl
  have e:(aJ.add ⟨s,h,n⟩ nb [])=⟨s,h',n'⟩:=by simp [aJ.add,hdel,<-hn,<-hh]
  rw [e,hd];exact k)
theorem FI {o:Oper} {rest:List Oper} {d:Nat} (hw:gN ops o ⟨s,h,n⟩) (hd:o.dst=some d) (hN:Nat.blt d N.1=true) (k:AL P W0 F N T0 pin ops Q rest ⟨(d,.t [])::s,h,n⟩):AL P W0 F N T0 pin ops Q (o::rest) ⟨s,h,n⟩:=
 CP hw (fun d' h'=>by rw [hd] at h';injection h' with h';subst h';rw [Nat.blt_eq] at hN;exact hN) (by rw [hd];exact k)
theorem bE {l:List Oper} {t:Nat} {b:Bool} (hs:look s t=some (.v (.c (.d (.v (.bool b)))))) (ht:b=true->AL P W0 F N T0 pin ops Q l ⟨(t,.v (.c (.d (.v (.bool true)))))::s,h,n⟩) (hf:b=false->AL P W0 F N T0 pin ops Q l ⟨(t,.v (.c (.d (.v (.bool false)))))::s,h,n⟩):AL P W0 F N T0 pin ops Q l ⟨s,h,n⟩:=by
 have key:∀ c,b=c->aH pin ⟨s,h,n⟩ ⟨(t,.v (.c (.d (.v (.bool c)))))::s,h,n⟩:=fun c hc W0 F N T0 a w hI=>by
  obtain ⟨σ,T,hT,S,hp⟩:=hI
  refine ⟨σ,T,hT,⟨S.core.sub (fun i v hi=>?_) (fun _ _ h=>h),S.os,S.tape,S.output,S.size,S.cF,S.own,S.next,S.hn,S.jt,S.iX⟩,hp⟩
  have hi':look ((t,AV.v (.c (.d (.v (.bool c)))))::s) i=some v:=hi
  rw [bT] at hi'
  split at hi'
  ·rename_i e;subst e;injection hi' with hi';subst hi';subst hc;exact hs
  ·exact hi'
 cases hb:b with
 |true=>exact ld (key true hb) (ht hb)
 |false=>exact ld (key false hb) (hf hb)

def iP (s:List (Nat×AV)):Operand->Option AV
 |.tmp t=>look s t
 |.const v=>some (Cg v)
 |.func f=>some (.v (.c (.fn f [])))
 |.global _=>none
theorem eo {s:List (Nat×AV)} {h:List (Nat×AB)} {n:Nat} {x:Operand} {v:AV} (he:iP s x=some v):ev ⟨s,h,n⟩ x v:=by
 cases x with
 |tmp t=>exact he
 |const c=>exact (Option.some.inj he).symm
 |func f=>exact (Option.some.inj he).symm
 |global g=>cases he
def od (ops:Array Oper) (s:List (Nat×AV)) (o:Oper):Option Bool:=
 match o.guard with
 |none=>some true
 |some (j,want)=>
  match (ops[j]?).bind (·.dst) with
  |some t=>match look s t with
   |some (.v (.c (.d (.v (.bool b)))))=>some (b==want)
   |some (.t [])=>some false
   |_=>none
  |none=>none
theorem im {o:Oper} {b:Bool} (hg:od ops s o=some b):(b=true->ah ops o ⟨s,h,n⟩)/\(b=false->gN ops o ⟨s,h,n⟩):=by
 unfold od at hg
 split at hg
 ·rename_i hn;injection hg with hg;subst hg;exact ⟨fun _=>ah.plain hn,(fun h=>by cases h)⟩
 ·rename_i j want hn
  split at hg
  ·rename_i t ht
   split at hg
   ·rename_i b' hs
    injection hg with hg
    constructor
    ·intro hb
     have:b'=want:=by rw [hb] at hg;exact eq_of_beq hg
     subst this
     exact ah.yes hn ht hs
    ·intro hb
     have:b'=!want:=by rw [hb] at hg;revert hg;cases b'<;>cases want<;>simp
     subst this
     exact gN.no hn ht hs
   ·rename_i hs;injection hg with hg;subst hg
    exact ⟨(fun h=>by cases h),fun _=>gN.un hn ht hs⟩
   ·cases hg
  ·cases hg
theorem then_ok {next:aJ->Prop} {st:aJ} (h:next st):iF next Q .normal st:=h
theorem ar {next:aJ->Prop} {st:aJ} (h:Q .ret st):iF next Q .ret st:=h
theorem aO {next:aJ->Prop} {st:aJ} {id:Nat} (h:Q (.exit id) st):iF next Q (.exit id) st:=h
theorem bl {st:aJ} {id:Nat} (h:Q .normal st):ik id Q .normal st:=h
theorem bo {st:aJ} {id:Nat} (h:Q .ret st):ik id Q .ret st:=h
theorem bF {st:aJ} {id:Nat} (h:Q .normal st):ik id Q (.exit id) st:=by simpa [ik] using h
theorem rh {st:aJ} {id id':Nat} (hne:Nat.beq id' id=false) (h:Q (.exit id') st):ik id Q (.exit id') st:=by
 have:¬id'=id:=fun e=>by subst e;rw [Nat.beq_refl] at hne;cases hne
 simpa [ik,this] using h
theorem vF {x y:Code} {st J:aJ} (hx:AC P W0 F N T0 pin (iF (fun st'=>aH pin st' J) Q) x st) (hy:AC P W0 F N T0 pin Q y J):AC P W0 F N T0 pin Q (.seq x y) st:=fun a w hI=>
 wp_seq (Code.wp_mono (fun e a w q=>by
  obtain ⟨st',hq,hi⟩:=q
  cases e<;>first|exact hy a w (hq _ _ _ _ a w hi)|exact ⟨st',hq,hi⟩) (hx a w hI))
end
def jb:Value->Value->Bool
 |.int _ a,.int _ b=>decide (a=b)
 |.bool a,.bool b=>a==b
 |_,_=>false
def eY:List Value->List Value->Bool
 |[],[]=>true
 |x::xs,y::ys=>jb x y && eY xs ys
 |_,_=>false
def GW (P:Program) (t:TypeId) (x y:Value):Prop:=(∃ k k' a b,P.underlying t=some (.int k')/\x=.int k a/\y=.int k b)\/∃ a b,P.underlying t=some .bool/\x=.bool a/\y=.bool b
def qo (P:Program):List Field->Nat->List Value->List Value->Prop
 |[],_,[],[]=>True
 |f::fs,k,x::xs,y::ys=>(f.name≠ "_"/\f.offset=k/\GW P f.type x y)/\qo P fs (k+1) xs ys
 |_,_,_,_=>False
def mj (P:Program) (t:TypeId) (xs ys:List Value):Prop:=∃ fs,P.underlying t=some (.struct fs)/\P.eqGuardType P.depth t=false/\P.stoodInHeld t=false/\qo P fs.toList 0 xs ys
theorem wu {P:Program} (w:World) (X Y:Array Value):∀ (fs:List Field) (k:Nat) (xs ys:List Value),qo P fs k xs ys->(∀ (i:Nat) (x:Value),xs[i]?=some x->X[k+i]?=some x)->(∀ (i:Nat) (y:Value),ys[i]?=some y->Y[k+i]?=some y)->(Op.eqFields 9999 X Y fs).run P w=.ok (eY xs ys) w
 |[],k,[],[],_,_,_=>by simp [Op.eqFields,eY]
 |f::fs,k,x::xs,y::ys,h,hX,hY=>by
  obtain ⟨⟨h1,h2,h3⟩,h4⟩:=h
  have ih:=wu w X Y fs (k+1) xs ys h4 (fun i x hx=>by have:=hX (i+1) x (by simpa using hx);rwa [show k+(i+1)=k+1+i by omega] at this) (fun i y hy=>by have:=hY (i+1) y (by simpa using hy);rwa [show k+(i+1)=k+1+i by omega] at this)
  have hx:=hX 0 x rfl
  have hy:=hY 0 y rfl
  rw [Nat.add_zero] at hx hy
  have hpart:∀ (Z:Array Value) (z:Value) (d:TypeDesc),P.underlying f.type=some d->jj d=false->Z[k]?=some z->(part f.type Z f.offset).run P w=.ok z w:=fun Z z d hu hd hz=>by
   simp [part,gZ hu,hd,h2,hz]
  rcases h3 with ⟨kk,kk',a,b,hu,rfl,rfl⟩|⟨a,b,hu,rfl,rfl⟩
  ·simp only [Op.eqFields,h1,ne_eq,not_false_eq_true,if_true,Sem.run_bind,hpart X _ _ hu rfl hx,hpart Y _ _ hu rfl hy,Result.andThen_ok,run_equalIn_int w 9998 f.type kk kk' a b hu]
   by_cases e:a=b
   ·simp [e,eY,jb,ih]
   ·simp [e,eY,jb]
  ·simp only [Op.eqFields,h1,ne_eq,not_false_eq_true,if_true,Sem.run_bind,hpart X _ _ hu rfl hx,hpart Y _ _ hu rfl hy,Result.andThen_ok,run_equalIn_bool w 9998 f.type a b hu]
   by_cases e:a=b
   ·simp [e,eY,jb,ih]
   ·simp [e,eY,jb]
 |[],_,_::_,_,h,_,_=>by simp [qo] at h
 |[],_,[],_::_,h,_,_=>by simp [qo] at h
 |_::_,_,[],_,h,_,_=>by simp [qo] at h
 |_::_,_,_::_,[],h,_,_=>by simp [qo] at h
theorem iE {σ:Nat->Option bM} {T:Nat->Prop} {w:World}:∀ {xs vs:List Value},cc (cQ σ T w) (xs.map fun x=>.d (.v x)) vs->vs=xs
 |[],[],_=>rfl
 |x::xs,v::vs,h=>by rw [bm.inv h.1,iE h.2]
 |[],_::_,h=>h.elim
 |_::_,[],h=>h.elim
theorem ug {P:Program} {w:World} {t:TypeId} {xs ys:List Value} (hc:mj P t xs ys):(Op.equalIn 10000 t (.agg xs.toArray) (.agg ys.toArray)).run P w=.ok (eY xs ys) w:=by
 obtain ⟨fs,hu,_,hp,hl⟩:=hc
 have hfs:Go.Program.fieldsOf P t=fs:=by simp [Go.Program.fieldsOf,hu]
 have:=run_equalIn_struct (P:=P) w 9999 t xs.toArray ys.toArray (by rw [hfs];exact hu) hp
 rw [show (10000:Nat)=9999+1 from rfl,this,hfs]
 exact wu w _ _ fs.toList 0 xs ys hl (fun i x hx=>by simpa using hx) (fun i y hy=>by simpa using hy)
theorem Fg {P:Program} {st:aJ} {o:Oper} {t yt:TypeId} {x y:Operand} {xs ys:List Value} {cx cy:List CV} {r:Bool} (hc:mj P t xs ys) (hr:eY xs ys=r) (ho:o.op=.binOp .eql t x y yt) (hx:ev st x (.v (.g cx))) (hy:ev st y (.v (.g cy))) (hcx:(xs.map fun x=>CV.d (.v x))=cx) (hcy:(ys.map fun x=>CV.d (.v x))=cy):aE P o st (aB r) [] []:=
 aE.val fun σ T a w C=>by
  subst hcx hcy hr
  obtain ⟨vs,h1,h2⟩:=bD C hx
  obtain ⟨us,h3,h4⟩:=bD C hy
  rw [iE h2] at h1
  rw [iE h4] at h3
  obtain ⟨_,_,hg,_⟩:=id hc
  refine ⟨.bool (eY xs ys),?_,bm.v _ rfl⟩
  unfold execOp
  simp only [ho,h1,h3,Sem.run_bind,run_eqGuard_agg w .eql t x y _ _ hg,Result.andThen_ok,run_eql_struct,ug hc]
  rfl
theorem oN {P:Program} {st:aJ} {o:Oper} {t yt:TypeId} {x y:Operand} {xs ys:List Value} {cx cy:List CV} {r:Bool} (hc:mj P t xs ys) (hr:eY xs ys=r) (ho:o.op=.binOp .neq t x y yt) (hx:ev st x (.v (.g cx))) (hy:ev st y (.v (.g cy))) (hcx:(xs.map fun x=>CV.d (.v x))=cx) (hcy:(ys.map fun x=>CV.d (.v x))=cy):aE P o st (aB (!r)) [] []:=
 aE.val fun σ T a w C=>by
  subst hcx hcy hr
  obtain ⟨vs,h1,h2⟩:=bD C hx
  obtain ⟨us,h3,h4⟩:=bD C hy
  rw [iE h2] at h1
  rw [iE h4] at h3
  obtain ⟨_,_,hg,_⟩:=id hc
  refine ⟨.bool (!eY xs ys),?_,bm.v _ rfl⟩
  unfold execOp
  simp only [ho,h1,h3,Sem.run_bind,run_eqGuard_agg w .neq t x y _ _ hg,Result.andThen_ok,run_neq_struct,ug hc]
  rfl
theorem bw {P:Program} {st:aJ} {o:Oper} {t e:TypeId} {x y:Operand} {k K n:Nat} {i:Nat} {j:Int} (ho:o.op=.indexAddr t x y) (hx:ev st x (.v (.c (.s k 0 K n)))) (hy:ev st y (.v (.c (.d (.v (.int .i64 j))))))
  (hu:P.underlying t=some (.slice e)) (hz:(P.info? e).map (·.size)=some K) (hj:j=(i:Int)) (hi:i < n):aE P o st (.v (.c (.p k i K 0))) [] []:=by
 have:=Ba ho hx hy hu hz hj hi
 rwa [Nat.zero_add] at this
theorem aE.cast {P:Program} {o:Oper} {st:aJ} {av av':AV} {nb:List (Nat×AB)} {E:List Nat} (g:aE P o st av nb E) (h:av=av'):aE P o st av' nb E:=h▸g
theorem bQ {P:Program} {st:aJ} {o:Oper} {α:Type} {xs:List α} {f:α->List D} {x:Operand} {c:Call} {t e:TypeId} {K:Nat} (ho:o.op=.call c) (hc:c.callee=.builtin .len) (ha:c.args=#[x]) (hat:c.argTypes=#[t]) (hx:ev st x (.v (.c (.d (.r K (xs.map f)))))) (hu:P.underlying t=some (.slice e)):aE P o st (.v (.c (.d (.v (.int .i64 xs.length))))) [] []:=by
 have:=DJ ho hc ha hat hx hu
 rwa [List.length_map] at this
theorem gi {P:Program} {t e K bytes:Nat} {z:Value} (u:P.underlying t=some (.slice e)) (h:(P.info? e).map (fun i=>(i.zero,i.size,i.bytes))=some (some z,K,bytes)) (hz:z.cells.size=K) (hK:0 < K):hJ P t e K bytes:=by
 obtain ⟨i,hi,hzz⟩:=Option.map_eq_some_iff.1 h
 simp only [Prod.mk.injEq] at hzz
 exact ⟨u,⟨i,z,hi,hzz.1,hzz.2.1,hzz.2.2,hz⟩,hK⟩
theorem vc {st:aJ} {x:Operand} {a b:Int} (h:ev st x (.v (.c (.d (.v (.int .i64 a)))))) (e:a=b):ev st x (.v (.c (.d (.v (.int .i64 b))))):=e▸h
theorem kd {a:Int} (h:-9223372036854775808<=a/\a<=9223372036854775807):Value.int .i64 (IntKind.i64.wrap a)=.int .i64 a:=by rw [IntWalk.i64_in _ (by omega)]
theorem Bd {P:Program} {st:aJ} {o:Oper} {t:TypeId} {x:Operand} {i:Nat} {fs:Array Field} {f:Field} {d:TypeDesc} {cs:List CV} {c:CV} (ho:o.op=.field t x i) (hx:ev st x (.v (.g cs))) (hu:P.underlying t=some (.struct fs)) (hf:fs[i]?=some f) (hd:P.underlying f.type=some d) (ha:jj d=false) (hc:cs[f.offset]?=some c):aE P o st (.v (.c c)) [] []:=
 aE.val fun σ T a w C=>by
  obtain ⟨vs,h1,h2⟩:=bD C hx
  obtain ⟨v,hv,hr⟩:=h2.get hc
  refine ⟨v,?_,hr⟩
  have hv':vs.toArray[f.offset]?=some v:=by simpa using hv
  unfold execOp
  simp [ho,h1,Instr.field,run_underlying hu,hf,asAgg,part,gZ hd,ha]
  simp at hv'
  simp [hv']
theorem ck {P:Program} {W0:World} {F:Nat->Prop} {N:NT} {T0:Nat->Prop} {pin:List (Nat×bM)} {Q:Exit->aJ->Prop} {x y:Code} {s:List (Nat×AV)} {h:List (Nat×AB)} {n:Nat} (t:Nat) (e:Bool) (hx:AC P W0 F N T0 pin (iF (fun st'=>aH pin st' ⟨(t,aB e)::s,h,n⟩) Q) x ⟨s,h,n⟩) (hy:AC P W0 F N T0 pin Q y ⟨(t,aB e)::s,h,n⟩):AC P W0 F N T0 pin Q (.seq x y) ⟨s,h,n⟩:=vF hx hy
theorem aH.sub {pin:List (Nat×bM)} {st st':aJ} (hs:∀ i v,look st'.s i=some v->look st.s i=some v) (hh:∀ k b,look st'.h k=some b->look st.h k=some b) (hn:st'.n=st.n):aH pin st st':=by
 rintro W0 F N T0 a w ⟨σ,T,hT,S,hp⟩
 exact ⟨σ,T,hT,⟨S.core.sub hs hh,S.os,S.tape,S.output,S.size,S.cF,fun j x g hj=>S.own j x g (hh j x hj),fun j hj=>S.next j (hn▸hj),fun j x hj=>hn▸S.hn j x (hh j x hj),S.jt,S.iX⟩,hp⟩
theorem zf {l l':List (Nat×AV)} {k t:Nat} (hs:l.drop k=l') (hd:(l.take k).all (fun x=>Nat.beq x.1 t||(look l' x.1).isNone)=true) {i:Nat} {v:AV} (hi:i≠t) (h:look l' i=some v):look l i=some v:=by
 rw [<-List.take_append_drop k l,gJ,hs]
 cases hl:look (l.take k) i with
 |none=>rw [Option.none_or];exact h
 |some u=>
  have:=List.all_eq_true.1 hd _ (bL hl)
  simp only [Bool.or_eq_true] at this
  rcases this with e|e
  ·exact absurd (Nat.eq_of_beq_eq_true e) hi
  ·rw [h] at e;cases e
theorem aH.bA {pin:List (Nat×bM)} (k:Nat) {s' s:List (Nat×AV)} {h:List (Nat×AB)} {n t:Nat} {b e:Bool} (hs:s'.drop k=s) (hl:look s' t=some (.v (.c (.d (.v (.bool b)))))) (he:b=e) (hd:(s'.take k).all (fun x=>Nat.beq x.1 t||(look s x.1).isNone)=true):aH pin ⟨s',h,n⟩ ⟨(t,aB e)::s,h,n⟩:=by
 subst he
 refine aH.sub (fun i v hi=>?_) (fun _ _ h=>h) rfl
 have hi':look ((t,aB b)::s) i=some v:=hi
 rw [bT] at hi'
 split at hi'
 ·rename_i e;subst e;injection hi' with hi';subst hi';exact hl
 ·rename_i e;exact zf hs hd (Ne.symm e) hi'
theorem Fn.mk' {P:Program} {f:FuncId} {fn:Func} {c:Code} {ins:List GV} {av:AV} {nb:List (Nat×AB)} (N:Nat) (s:List (Nat×AV)) (hf:P.funcs[f]?=some fn) (hb:fn.body=some c) (hn:fn.ntmps=N) (hN:Nat.ble ins.length N=true) (hs:slotsOf 0 ins=s)
  (h:∀ (W0:World) (T:Nat->Prop),AC P W0 (fun _=>False) (N,[]) T [] (jV P fn [] av nb) c ⟨s,[],0⟩):Fn P f ins av nb:=by
 subst hn hs
 exact Fn.mk hf hb (Nat.le_of_ble_eq_true hN) h
theorem bf {α:Type} {xs:List α} {f:α->List D} {i:Nat} {x:α} (h:xs[i]?=some x):(xs.map f)[i]?=some (f x):=by rw [List.getElem?_map,h];rfl
theorem eK {α:Type} {xs:List α} {f:α->List D} {i:Nat} {x':α} {row':List D} (h:row'=f x'):(xs.map f).set i row'=(xs.set i x').map f:=by rw [h,List.map_set]
theorem fA {α:Type} {xs ys:List α} {f:α->List D}:xs.map f++ys.map f=(xs++ys).map f:=List.map_append.symm
theorem cb {α:Type} {xs:List α} {i:Nat} (h:i < xs.length):∃ x,xs[i]?=some x:=⟨_,List.getElem?_eq_getElem h⟩
end
section

section
variable {P:Program} {st:aJ} {o:Oper}
def EK (st:aJ):List Operand->List Nat->Prop
 |[],[]=>True
 |x::xs,k::ks=>ev st x (.v (.c (.p k 0 0 0)))/\EK st xs ks
 |_,_=>False
theorem wU {σ:Nat->Option bM} {T:Nat->Prop} {a:Act} {w:World} (C:Core σ T st a w):∀ {xs:List Operand} {ks:List Nat},EK st xs ks->∃ gs:List bM,ks.map σ=gs.map some/\xs.map a.eval=gs.map fun g=>Value.pointer (some ⟨g.g,0,none⟩)
 |[],[],_=>⟨[],rfl,rfl⟩
 |x::xs,k::ks,h=>by
  obtain ⟨g,h1,h2⟩:=bD C h.1
  obtain ⟨gs,h3,h4⟩:=wU C h.2
  exact ⟨g::gs,by simp [h1,h3],by rw [List.map_cons,List.map_cons,h4,h2]⟩
 |[],_::_,h=>h.elim
 |_::_,[],h=>h.elim
theorem zC {f:FuncId} {bd:Array Operand} {ks:List Nat} (ho:o.op=.makeFunc (.func f) #[] bd) (hc:EK st bd.toList ks):aE P o st (.v (.c (.fn f ks))) [] []:=
 aE.val fun σ T a w C=>by
  obtain ⟨gs,h1,h2⟩:=wU C hc
  refine ⟨.func (.func f) #[] (gs.map fun g=>Value.pointer (some ⟨g.g,0,none⟩)).toArray,?_,gs,h1,rfl⟩
  have:bd.map a.eval=(gs.map fun g=>Value.pointer (some ⟨g.g,0,none⟩)).toArray:=by apply Array.toList_inj.1;rw [Array.toList_map];exact h2
  unfold execOp
  simp [ho,Instr.makeFunc,this]
theorem gX {f:FuncId} {c:Call} {x:Operand} {bd:List (List D)} {ins:List GV} {av av':AV} {nb nb':List (Nat×AB)} (n0:Nat) (hF:Fn P f (ins++bd.map fun r=>.c (.q r 0)) av nb) (hen:bg P f) (ho:o.op=.call c) (hc:c.callee=.value x) (hx:ev st x (.v (.c (.d (.f f bd))))) (hargs:Ac st [] c.args.toList ins)
  (hg:av.ec (fun _=>True)) (hgb:dn (fun x=>x.2.ec fun _=>True) nb) (hok:av.ok (bp nb)=true) (hokb:nb.all (fun x=>x.2.ok (bp nb))=true) (hav:av.map (n0+·)=av') (hnb:fM (n0+·) nb=nb'):aE P o st av' nb' []:=by
 intro σ T a w C hnew
 subst hav hnb
 have hv:bm T w (.f f bd) (a.eval x):=bD C hx
 generalize hve:a.eval x=v at hv
 cases hv with
 |f _ _ bs iC cs hb dY hd=>
  have hlow:∀ b,fz σ T [] b->T b:=fun b h=>h.1
  have hcaps:cc (dh (fun _=>none) (fz σ T []) w) (bd.map fun r=>GV.c (.q r 0)) ((List.range bd.length).map fun i=>Value.pointer (some ⟨bs i,iC i,none⟩)):=by
   refine pE (by simp) fun i g hg=>?_
   obtain ⟨hi,rfl⟩:=List.getElem?_eq_some_iff.1 hg
   simp at hi
   refine ⟨.pointer (some ⟨bs i,iC i,none⟩),by simp [hi],?_⟩
   simp only [List.getElem_map]
   refine ⟨bs i,iC i,rfl,(hb i hi).1,fun h=>(hb i hi).2 h.1,fun j d hj=>?_⟩
   have hr:bd[i]?=some bd[i]:=List.getElem?_eq_getElem hi
   exact ⟨cs i j,dY i _ j d hr hj,(hd i _ j d hr hj).fu hlow⟩
  have hrun:(execOp a.eval o).run P w=.ok (.enter f (c.args.map a.eval++((List.range bd.length).map fun i=>Value.pointer (some ⟨bs i,iC i,none⟩)).toArray)) w:=by
   unfold execOp
   simp [ho,resolve,hc,hve,Deferred.ofValue,invoke]
   have:=hen (c.args.map a.eval++((List.range bd.length).map fun i=>Value.pointer (some ⟨bs i,iC i,none⟩)).toArray) w
   simpa using this
  unfold Oper.wp
  rw [hrun]
  refine ((ou hF n0 C (E:=[]) (args:=c.args.map a.eval++((List.range bd.length).map fun i=>Value.pointer (some ⟨bs i,iC i,none⟩)).toArray) ?_ hg hgb hok hokb (fun k b h=>hnew k b h (by simp)) fun Tc T' w' d v h1 h2 _ h=>h.fu fun b hb=>?_).mono ?_)
  ·rw [Array.toList_append,Array.toList_map]
   exact (oQ C hargs).append hcaps
  ·rcases h1 b hb with h|h
   ·exact h2 b ⟨h,fun k hk=>by cases hk⟩
   ·exact h
  ·rintro e w' ⟨v,σ',T',rfl,X,hr⟩
   exact ⟨v,σ',T',rfl,X,hr⟩

theorem ie {W0:World} {F:Nat->Prop} {N:NT} {T0:Nat->Prop} {pin:List (Nat×bM)} {ops:Array Oper} {Q:Exit->aJ->Prop} {s:List (Nat×AV)} {h:List (Nat×AB)} {n:Nat} {rest:List Oper} {d K:Nat} {t yt e:TypeId} {x:Operand} {rows:List (List D)}
  (hw:ah ops o ⟨s,h,n⟩) (ho:o.op=.binOp .eql t x (.const (.slice none 0 0)) yt) (hx:ev ⟨s,h,n⟩ x (.v (.c (.d (.r K rows))))) (hu:P.underlying t=some (.slice e)) (hd:o.dst=some d) (hN:Nat.blt d N.1=true)
  (k:∀ b:Bool,(b=true->rows=[])->AL P W0 F N T0 pin ops Q rest ⟨(d,aB b)::s,h,n⟩):AL P W0 F N T0 pin ops Q (o::rest) ⟨s,h,n⟩:=by
 rintro a w ⟨σ,T,hT,S,hp⟩
 have hv:bm T w (.r K rows) (a.eval x):=bD S.core hx
 have key:∀ b:Bool,(b=true->rows=[])->(execOp a.eval o).run P w=.ok (.value (.bool b)) w->wpList P ops (QX W0 F N T0 pin Q) (o::rest) a w:=by
  intro b hb hrun
  refine wpList_step fun K' hK=>?_
  rw [if_pos (hw σ T a w S.core)]
  refine gG hrun (hK _ _ (k b hb _ _ ⟨σ,T,hT,?_,hp⟩))
  have:=S.step (nb:=[]) (E:=[]) (dst:=o.dst) (av:=aB b) (u:=.bool b) (fun _ h=>by cases h) (fun d' h'=>by rw [hd] at h';injection h' with h';subst h';rw [Nat.blt_eq] at hN;exact hN) (Ext.same S.core.er) (bm.v _ rfl)
  rw [add_nil,hd] at this
  rw [hd]
  exact this
 generalize hve:a.eval x=v at hv
 have hrun:∀ A l c,v=.slice A l c->(execOp a.eval o).run P w=.ok (.value (.bool A.isNone)) w:=by
  intro A l c hA
  unfold execOp
  have hcst:a.eval (.const (.slice none 0 0))=.slice none 0 0:=rfl
  simp [ho,hve,hA,hcst,eqGuard,binOp,run_equal_slice_nil w t e A l c hu]
 cases hv with
 |nil K A c=>exact key _ (fun _=>rfl) (hrun A 0 c rfl)
 |r K rows b off c cs hb hT' hc hm hK dY hd'=>exact key false (fun h=>by cases h) (hrun _ _ _ rfl)
theorem aH.rE {pin:List (Nat×bM)} {s:List (Nat×AV)} {h h':List (Nat×AB)} {n n':Nat} (k j t K bt:Nat) {cs:List CV} (hK:0 < K) (hb:look h k=some (.box bt cs)) (hc:cs[j]?=some cN) (hk:Nat.blt k n=true) (hn:n+1=n') (hh:(n,AB.arr t K [])::kr h k (.box bt (cs.set j (.s n 0 K 0)))=h'):aH pin ⟨s,h,n⟩ ⟨s,h',n'⟩:=by
 subst hh hn
 rintro W0 F N T0 a w ⟨σ,T,hT,S,hp⟩
 rw [Nat.blt_eq] at hk
 have hk:k < n:=hk
 have hn:=S.next n (Nat.le_refl _)
 have cases_:∀ i b,look ((n,AB.arr t K [])::kr h k (.box bt (cs.set j (.s n 0 K 0)))) i=some b->(i=n/\b=.arr t K [])\/(i=k/\b=.box bt (cs.set j (.s n 0 K 0)))\/(i≠k/\look h i=some b):=by
  intro i b hi
  rw [bT] at hi
  split at hi
  ·rename_i e;injection hi with hi;exact .inl ⟨e.symm,hi.symm⟩
  ·rcases jX hi with h1|h1|h1
   ·exact .inr (.inl h1)
   ·exact .inr (.inr h1)
   ·exact h1.2.elim
 refine ⟨σ,T,hT,⟨⟨S.core.fm,?_,?_,S.core.er⟩,S.os,S.tape,S.output,S.size,S.cF,?_,fun i hi=>S.next i (by have:n+1<=i:=hi;show n<=i;omega),?_,S.jt,S.iX⟩,hp⟩
 ·intro i b hi
  rcases cases_ i b hi with ⟨rfl,rfl⟩|⟨rfl,rfl⟩|⟨_,h1⟩
  ·exact ⟨hK,.inl ⟨rfl,hn⟩⟩
  ·obtain ⟨g,vs,h1,h2,h3,h4⟩:=S.core.heap _ _ hb
   refine ⟨g,vs,h1,h2,h3,?_⟩
   obtain ⟨v,hv,hr⟩:=h4.get hc
   have hnil:v=.slice none 0 0:=bm.inv hr
   have:=h4.set (x:=CV.s n 0 K 0) (y:=v) (.inl ⟨rfl,hnil⟩) j
   have e:vs.set j v=vs:=by
    apply List.ext_getElem?
    intro m
    rw [List.getElem?_set]
    split
    ·rename_i e;subst e
     split
     ·exact hv.symm
     ·rename_i hlt;exact absurd (List.getElem?_eq_some_iff.1 hv).1 hlt
    ·rfl
   rwa [e] at this
  ·exact S.core.heap i b h1
 ·intro i i' b b' g g' hi hi' hg hg' hgg
  have cF:∀ i b,look ((n,AB.arr t K [])::kr h k (.box bt (cs.set j (.s n 0 K 0)))) i=some b->i≠n->∃ b0,look h i=some b0:=fun i b hi hne=>by
   rcases cases_ i b hi with ⟨h1,_⟩|⟨rfl,_⟩|⟨_,h1⟩
   ·exact absurd h1 hne
   ·exact ⟨_,hb⟩
   ·exact ⟨_,h1⟩
  by_cases e:i=n
  ·subst e;rw [hn] at hg;cases hg
  ·by_cases e':i'=n
   ·subst e';rw [hn] at hg';cases hg'
   ·obtain ⟨b0,h0⟩:=cF i b hi e
    obtain ⟨b1,h1⟩:=cF i' b' hi' e'
    exact S.core.inj i i' b0 b1 g g' h0 h1 hg hg' hgg
 ·intro i b g hi hg
  rcases cases_ i b hi with ⟨rfl,rfl⟩|⟨rfl,rfl⟩|⟨_,h1⟩
  ·rw [hn] at hg;cases hg
  ·exact S.own _ _ g hb hg
  ·exact S.own i b g h1 hg
 ·intro i b hi
  show i < n+1
  rcases cases_ i b hi with ⟨rfl,rfl⟩|⟨rfl,rfl⟩|⟨_,h1⟩
  ·omega
  ·omega
  ·have:=S.hn i b h1;have:i < n:=this;omega
theorem da {fn:Func} {pin:List (Nat×bM)} {av:AV} {nb:List (Nat×AB)} {e:Exit} {st st1:aJ} (hw:aH pin st st1) (h:jV P fn pin av nb e st1):jV P fn pin av nb e st:=by
 obtain ⟨he,st',gs,hw',h2⟩:=h
 exact ⟨he,st',gs,hw.trans hw',h2⟩

structure BL (σ:Nat->Option bM) (T:Nat->Prop) (w:World) (bO:List (Nat×AB)) (cM:List Nat) (w':World) (σ':Nat->Option bM) (T':Nat->Prop) (av:AV) (nb:List (Nat×AB)) (v:Value):Prop where
 os:w'.os=w.os
 tape:w'.tape=w.tape
 output:w'.output=w.output
 size:w.heap.size<=w'.heap.size
 cF:∀ b,b < w.heap.size->(∀ k∈keys bO,∀ g,σ k=some g->g.g≠b)->w'.heap[b]?=w.heap[b]?
 rel:eB σ' T' w' av v
 kP:∀ b,b < w.heap.size->T' b->T b
 lS:∀ b,T b->T' b
 er:∀ b,T' b->b < w'.heap.size
 heap:∀ k b,(k,b)∈nb->dg σ' T' w' (σ' k) b
 fresh:∀ k b g,(k,b)∈nb->σ' k=some g->w.heap.size<=g.g\/∃ e∈keys bO,∃ g',σ e=some g'/\g'.g=g.g
 inj:∀ k k' b b' g g',(k,b)∈nb->(k',b')∈nb->σ' k=some g->σ' k'=some g'->g.g=g'.g->k=k'
 kept:∀ k∈cM,σ' k=σ k
def cJ (P:Program) (f:FuncId) (ins:List GV) (bO:List (Nat×AB)) (cM:List Nat) (av:AV) (nb:List (Nat×AB)):Prop:=
 ∀ (T:Nat->Prop) (σ:Nat->Option bM) (w:World) (args:Array Value),(∀ b,T b->b < w.heap.size)->(∀ k b,(k,b)∈bO->dg σ T w (σ k) b)->
  (∀ k k' b b' g g',(k,b)∈bO->(k',b')∈bO->σ k=some g->σ k'=some g'->g.g=g'.g->k=k')->(∀ k∈cM,∃ g,σ k=some g)->cc (dh σ T w) ins args.toList->
  Calls P f args w fun e w'=>∃ v σ' T',e=.returned v/\BL σ T w bO cM w' σ' T' av nb v
theorem nV (pg:Nat->bM) {k:Nat}:∀ {l:List Nat},k∈l->look (l.map fun k=>(k,pg k)) k=some (pg k)
 |j::l,h=>by
  rw [List.map_cons,bT]
  by_cases e:j=k
  ·subst e;rw [if_pos rfl]
  ·rw [if_neg e];exact nV pg ((List.mem_cons.1 h).resolve_left (Ne.symm e))
theorem cJ.mk {f:FuncId} {fn:Func} {c:Code} {ins:List GV} {bO:List (Nat×AB)} {cM:List Nat} {av:AV} {nb:List (Nat×AB)} (N:Nat) (s:List (Nat×AV)) (n:Nat) (hf:P.funcs[f]?=some fn) (hb:fn.body=some c) (hn:fn.ntmps=N) (hN:Nat.ble ins.length N=true) (hs:slotsOf 0 ins=s)
  (hin0:ef (keys bO)=true) (hin1:bO.all (fun x=>Nat.blt x.1 n)=true) (hok:ins.all (GV.ok (bp bO))=true) (hokb:bO.all (fun x=>x.2.ok (bp bO))=true) (hkeep:cM.all (fun k=>bp bO k)=true)
  (h:∀ (W0:World) (F T:Nat->Prop) (pg:Nat->bM),AC P W0 F (N,[]) T (cM.map fun k=>(k,pg k)) (jV P fn (cM.map fun k=>(k,pg k)) av nb) c ⟨s,bO,n⟩):cJ P f ins bO cM av nb:=by
 subst hn hs
 intro T σ w args hT hheap hinj hk hargs
 have hlen:=hargs.length
 have hlen:ins.length=args.size:=by simpa using hlen
 have hN:=Nat.le_of_ble_eq_true hN
 let σ0:Nat->Option bM:=fun k=>if bp bO k=true then σ k else none
 have hσ:∀ k,bp bO k=true->σ0 k=σ (id k):=fun k hk=>if_pos hk
 have hnd:=jC hin0
 let pg:Nat->bM:=fun k=>(σ k).getD ⟨0,0⟩
 have F:Nat->Prop:=fun b=>True
 clear F
 refine calls_of_wp hf hb (Code.wp_mono ?_ (h w (fun b=>∃ k∈keys bO,∃ g,σ k=some g/\g.g=b) T pg _ w ⟨σ0,T,fun _ _=>⟨fun h=>h,fun h=>h⟩,⟨⟨?_,?_,?_,hT⟩,rfl,rfl,rfl,Nat.le_refl _,fun _ _ _=>rfl,?_,?_,?_,?_,rfl⟩,?_⟩))
 ·rintro e a' w' ⟨st,⟨he,st',gs,hw,hr,rfl,hnb⟩,hI⟩
  obtain ⟨σ',T',hT',S,hp⟩:=hw _ _ _ _ _ _ hI
  obtain ⟨v,hv,hrel⟩:=lY S.core hr
  have hpost:a'.defers=[]/\∃ v,(results fn a'.tmps).run P w'=.ok v w'/\∃ v' σ' T',Ending.returned v=.returned v'/\BL σ T w bO cM w' σ' T' (fL gs) nb v':=by
   refine ⟨S.iX,v,hv,v,σ',T',rfl,S.os,S.tape,S.output,S.size,fun b hb hno=>S.cF b hb ?_,hrel,fun b hb=>(hT' b hb).1,fun b hb=>(hT' b (hT b hb)).2 hb,S.core.er,fun k b hk=>S.core.heap k b (hnb.mem _ hk),fun k b g hk hg=>?_,
    fun k k' b b' g g' hk hk' hg hg' hgg=>S.core.inj k k' b b' g g' (hnb.mem _ hk) (hnb.mem _ hk') hg hg' hgg,fun k hkk=>?_⟩
   ·rintro ⟨k,hk,g,hg,hgb⟩;exact hno k hk g hg hgb
   ·rcases S.own k b g (hnb.mem _ hk) hg with h|⟨e,he,g',hg',hgg⟩
    ·exact .inl h
    ·exact .inr ⟨e,he,g',hg',hgg⟩
   ·obtain ⟨g,hg⟩:=hk k hkk
    have hl:=nV pg hkk
    have hpg:pg k=g:=by show (σ k).getD ⟨0,0⟩=g;rw [hg];rfl
    rw [hg,<-hpg]
    exact hp k _ hl
  rcases he with rfl|rfl<;>exact hpost
 ·intro i v hi
  obtain ⟨g,rfl,_,hg⟩:=lk hi
  obtain ⟨x,hx,hrel⟩:=hargs.get hg
  have hx':(args++Array.replicate (fn.ntmps - args.size) undef).getD i undef=x:=by
   rw [Nat.sub_zero] at hx
   have hlt:=(List.getElem?_eq_some_iff.1 hx).1
   rw [Array.getD_eq_getD_getElem?,Array.getElem?_append_left (by simpa using hlt),<-Array.getElem?_toList,hx]
   rfl
  rw [hx']
  have hgo:=List.all_eq_true.1 hok g (List.mem_of_getElem? hg)
  have hid:g.map id=g:=by cases g with
   |c x=>cases x<;>simp [GV.map,CV.map]
   |g xs=>
    have:xs.map (CV.map id)=xs:=by
     induction xs with
     |nil=>rfl
     |cons y l ih=>
      have hy:y.map id=y:=by cases y<;>simp [CV.map]
      simp only [List.map_cons,hy]
      congr 1
      induction l with
      |nil=>rfl
      |cons z l _=>exact (by
        have hz:∀ c:CV,c.map id=c:=fun c=>by cases c<;>simp [CV.map]
        exact List.map_congr_left (fun c _=>hz c)|>.trans (List.map_id _))
    simp [GV.map,this]
  exact dh.bS (ρ:=id) hσ (x:=g) (by rw [hid];exact hrel) hgo
 ·intro k b hk
  have hm:=bL hk
  have hkin:bp bO k=true:=cS hm
  rw [hσ k hkin]
  have hgo:=List.all_eq_true.1 hokb _ hm
  refine dg.bS (ρ:=id) hσ ?_ hgo
  have hz:∀ c:CV,c.map id=c:=fun c=>by cases c<;>simp [CV.map]
  have hid:b.map' id=b:=by cases b with
   |box t cs=>simp only [AB.map'];congr 1;exact (List.map_congr_left (fun c _=>hz c)).trans (List.map_id _)
   |arr=>rfl
   |map=>rfl
  rw [hid]
  exact hheap k b hm
 ·intro k k' b b' g g' hk hk' hg hg' hgg
  rw [hσ k (cS (bL hk))] at hg
  rw [hσ k' (cS (bL hk'))] at hg'
  exact hinj k k' b b' g g' (bL hk) (bL hk') hg hg' hgg
 ·intro k b g hk hg
  rw [hσ k (cS (bL hk))] at hg
  exact .inr ⟨k,List.mem_map.2 ⟨(k,b),bL hk,rfl⟩,g,hg,rfl⟩
 ·intro k hk
  refine if_neg fun hkin=>?_
  obtain ⟨b,hb⟩:=gb hkin
  have:=List.all_eq_true.1 hin1 _ hb
  rw [Nat.blt_eq] at this
  have:k < n:=this
  have hk:n<=k:=hk
  omega
 ·intro k b hk
  have:=List.all_eq_true.1 hin1 _ (bL hk)
  rw [Nat.blt_eq] at this
  exact this
 ·simp;omega
 ·intro k g hl
  obtain ⟨k',hk',he⟩:=List.mem_map.1 (bL hl)
  injection he with e1 e2
  subst e1
  have hkin:=List.all_eq_true.1 hkeep k' hk'
  rw [hσ k' hkin]
  obtain ⟨g',hg'⟩:=hk k' hk'
  subst e2
  show σ k'=some ((σ k').getD ⟨0,0⟩)
  rw [hg'];rfl
end
end
end Go.Proofs.Ytegepioggeggaaa.Dev
