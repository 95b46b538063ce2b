/- A part of the proof: Sh34, TyT, Book1, Book2, Sh19, Book3, Book4. No condition. -/
import Derived.Test.YtegepioggeggaaaD04
set_option linter.unusedVariables false
set_option linter.unusedSimpArgs false
set_option maxHeartbeats 1000000
set_option maxRecDepth 100000
namespace Go.Proofs.Ytegepioggeggaaa.Dev
open Go.RowKit
section

def lW:List Nat->Nat->Option Nat
 |[],_=>none
 |j::l,k=>bif Nat.beq j k then some j else lW l k
theorem jZ:∀ {l:List Nat} {k j:Nat},lW l k=some j->j=k
 |x::l,k,j,h=>by
  unfold lW at h
  cases hb:Nat.beq x k with
  |true=>rw [hb] at h;injection h with h;subst h;exact Nat.eq_of_beq_eq_true hb
  |false=>rw [hb] at h;exact jZ (l:=l) h
def CL (ids:List Nat):List Nat->Option (List Nat)
 |[]=>some []
 |k::ks=>match lW ids k with
  |none=>none
  |some j=>match CL ids ks with
   |some r=>some (j::r)
   |none=>none
theorem zG {ids:List Nat}:∀ {l r:List Nat},CL ids l=some r->r=l
 |[],r,h=>by cases h;rfl
 |k::ks,r,h=>by
  unfold CL at h
  split at h
  ·cases h
  rename_i j hj
  split at h
  ·rename_i r' hr;injection h with h;subst h;rw [jZ hj,zG hr]
  ·cases h
def DZ (ids:List Nat):CV->Option CV
 |.any=>some .any
 |.d x=>some (.d x)
 |.p k i K o=>match lW ids k with
  |some j=>some (.p j i K o)
  |none=>none
 |.q row o=>some (.q row o)
 |.s k i K n=>match lW ids k with
  |some j=>some (.s j i K n)
  |none=>none
 |.sx k i K n c e=>match lW ids k with
  |some j=>some (.sx j i K n c e)
  |none=>none
 |.m k=>match lW ids k with
  |some j=>some (.m j)
  |none=>none
 |.fn f bc=>match CL ids bc with
  |some r=>some (.fn f r)
  |none=>none
theorem DY {ids:List Nat} {c c':CV} (h:DZ ids c=some c'):c'=c:=by
 unfold DZ at h
 split at h
 ·injection h with h;exact h.symm
 ·injection h with h;exact h.symm
 ·split at h
  ·rename_i j hj;injection h with h;rw [<-h,jZ hj]
  ·cases h
 ·injection h with h;exact h.symm
 ·split at h
  ·rename_i j hj;injection h with h;rw [<-h,jZ hj]
  ·cases h
 ·split at h
  ·rename_i j hj;injection h with h;rw [<-h,jZ hj]
  ·cases h
 ·split at h
  ·rename_i j hj;injection h with h;rw [<-h,jZ hj]
  ·cases h
 ·split at h
  ·rename_i r hr;injection h with h;rw [<-h,zG hr]
  ·cases h
def yk (ids:List Nat):List CV->Option (List CV)
 |[]=>some []
 |c::l=>match DZ ids c with
  |none=>none
  |some c'=>match yk ids l with
   |some r=>some (c'::r)
   |none=>none
theorem xr {ids:List Nat}:∀ {l r:List CV},yk ids l=some r->r=l
 |[],r,h=>by cases h;rfl
 |c::l,r,h=>by
  unfold yk at h
  split at h
  ·cases h
  rename_i c' hc
  split at h
  ·rename_i r' hr;injection h with h;subst h;rw [DY hc,xr hr]
  ·cases h
def Eb (ids:List Nat):AB->Option AB
 |.box t cs=>match yk ids cs with
  |some r=>some (.box t r)
  |none=>none
 |.arr t K rows=>some (.arr t K rows)
 |.map es c=>some (.map es c)
theorem Ea {ids:List Nat} {b b':AB} (h:Eb ids b=some b'):b'=b:=by
 unfold Eb at h
 split at h
 ·split at h
  ·rename_i r hr;injection h with h;rw [<-h,xr hr]
  ·cases h
 ·injection h with h;exact h.symm
 ·injection h with h;exact h.symm
def va (h:List (Nat×AB)) (ids:List Nat):List Nat->Option (List (Nat×AB))
 |[]=>some []
 |k::ks=>match look h k with
  |none=>none
  |some b=>match Eb ids b with
   |none=>none
   |some b'=>match va h ids ks with
    |some r=>some ((k,b')::r)
    |none=>none
theorem xq {h:List (Nat×AB)} {ids:List Nat}:∀ {l:List Nat} {r:List (Nat×AB)},va h ids l=some r->∀ x∈r,look h x.1=some x.2
 |[],r,hr,x,hx=>by cases hr;cases hx
 |k::ks,r,hr,x,hx=>by
  unfold va at hr
  split at hr
  ·cases hr
  rename_i b hb
  split at hr
  ·cases hr
  rename_i b' hb'
  split at hr
  ·rename_i r' hr'
   injection hr with hr;subst hr
   rcases List.mem_cons.1 hx with rfl|hx
   ·rw [hb,Ea hb']
   ·exact xq hr' x hx
  ·cases hr
theorem uZ {h r:List (Nat×AB)} {ids l:List Nat} (hr:va h ids l=some r) {k:Nat} {b:AB} (hk:look r k=some b):look h k=some b:=xq hr _ (bI hk)
section
variable {P:Program} {W0:World} {F:Nat->Prop} {N:NT} {T0:Nat->Prop} {pin:List (Nat×bK)} {ops:Array Oper} {Q:Exit->aF->Prop} {s:List (Nat×AV)} {h:List (Nat×AB)} {n:Nat}
theorem uu {o:Oper} {rest:List Oper} {d:Nat} {av:AV} {nb h':List (Nat×AB)} {E:List Nat} (n':Nat) (ids:List Nat) (hw:ak ops o ⟨s,h,n⟩) (g:aK P o ⟨s,h,n⟩ av nb E)
  (hx:(o.dst,(Nat.blt d N.1,E.all (fun e=>bh h e),nb.all (fun x=>dN x.1 E||Nat.ble n x.1)),iy nb n,va (nb++del E h) (E++ids) ids)=(some d,(true,true,true),n',some h')) (k:AL P W0 F N T0 pin ops Q rest ⟨(d,av)::s,h',n'⟩):AL P W0 F N T0 pin ops Q (o::rest) ⟨s,h,n⟩:=by
 simp only [Prod.mk.injEq] at hx
 obtain ⟨hd,⟨h1,h2,h3⟩,hn,hh⟩:=hx
 exact CA hw g hd h1 h2 h3 hn rfl (lj (st':=⟨(d,av)::s,h',n'⟩) (aD.sub (fun _ _ hi=>hi) (fun k b hk=>uZ hh hk) rfl) k)
theorem aL {o:Oper} {rest:List Oper} {d:Nat} {av:AV} {nb h':List (Nat×AB)} {E:List Nat} (n':Nat) (ids:List Nat) (g:aK P o ⟨s,h,n⟩ av nb E)
  (hx:(o.guard,o.dst,(Nat.blt d N.1,E.all (fun e=>bh h e),nb.all (fun x=>dN x.1 E||Nat.ble n x.1)),iy nb n,va (nb++del E h) (E++ids) ids)=(none,some d,(true,true,true),n',some h')) (k:AL P W0 F N T0 pin ops Q rest ⟨(d,av)::s,h',n'⟩):AL P W0 F N T0 pin ops Q (o::rest) ⟨s,h,n⟩:=by
 have hg:=(Prod.mk.inj hx).1
 exact uu n' ids (ak.plain hg) g (Prod.mk.inj hx).2 k
theorem gf {o:Oper} {rest:List Oper} {k0:Nat} {b:AB} {h':List (Nat×AB)} (ids:List Nat) (g:aK P o ⟨s,h,n⟩ (.v (.c .any)) [(k0,b)] [k0]) (hx:(o.guard,o.dst,bh h k0,Nat.blt k0 n,va ((k0,b)::h) ids ids)=(none,none,true,true,some h'))
  (k:AL P W0 F N T0 pin ops Q rest ⟨s,h',n⟩):AL P W0 F N T0 pin ops Q (o::rest) ⟨s,h,n⟩:=by
 simp only [Prod.mk.injEq] at hx
 obtain ⟨hg,hd,h1,h2,hh⟩:=hx
 obtain ⟨b0,hb0⟩:=iR h1
 refine AW (ak.plain hg) g hd hb0 h2 rfl (lj (st':=⟨s,h',n⟩) (aD.sub (fun _ _ hi=>hi) (fun j x hj=>?_) rfl) k)
 have h3:=uZ hh hj
 have look_up:∀ (l:List (Nat×AB)),(∃ b0,look l k0=some b0)->look (kr l k0 b) j=look ((k0,b)::l) j:=by
  intro l
  induction l with
  |nil=>rintro ⟨b0,h⟩;cases h
  |cons y l ih=>
   obtain ⟨i,z⟩:=y
   rintro ⟨b1,hb1⟩
   by_cases e:i=k0
   ·subst e
    show look (bif Nat.beq i i then _ else _) j=_
    rw [Nat.beq_refl]
    simp only [cond_true,bD]
    split<;>rfl
   ·show look (bif Nat.beq i k0 then _ else _) j=_
    rw [Bool.eq_false_iff.2 fun h=>e (Nat.eq_of_beq_eq_true h)]
    simp only [cond_false]
    rw [bD,if_neg e] at hb1
    rw [bD,ih ⟨b1,hb1⟩,bD,bD,bD]
    by_cases e2:i=j
    ·subst e2;rw [if_pos rfl,if_neg (Ne.symm e),if_pos rfl]
    ·rw [if_neg e2,if_neg e2]
 rw [look_up h ⟨b0,hb0⟩];exact h3
theorem ay {o:Oper} {rest:List Oper} {d:Nat} {av:AV} (g:aK P o ⟨s,h,n⟩ av [] []) (hx:(o.guard,o.dst,Nat.blt d N.1)=(none,some d,true)) (k:AL P W0 F N T0 pin ops Q rest ⟨(d,av)::s,h,n⟩):AL P W0 F N T0 pin ops Q (o::rest) ⟨s,h,n⟩:=by
 simp only [Prod.mk.injEq] at hx
 exact dF (ak.plain hx.1) g hx.2.1 hx.2.2 k
theorem ae {next:aF->Prop} {Q:Exit->aF->Prop} {st:aF} (k:next st):AL P W0 F N T0 pin ops (iv next Q) [] st:=bZ k
theorem aP {next:aF->Prop} {Q:Exit->aF->Prop} {st:aF} (k:next st):AC P W0 F N T0 pin (iv next Q) .skip st:=cU k
theorem eE {id:Nat} {l:List Oper} {y:Code} {st:aF} (g:AL P W0 F N T0 pin l.toArray (iv (AC P W0 F N T0 pin Q y) Q) l st):AC P W0 F N T0 pin Q (.seq (.region id l.toArray false) y) st:=af (aw g)
theorem fy {c:Code} {k q t:Nat} {cs cs':List CV} {c0 c':CV} {h':List (Nat×AB)} (hb:look h k=some (.box t cs)) (hc:cs[q]?=some c0) (he:c0=c') (hx:(jR cs q [c'],ll h k (.box t cs'))=(some cs',some h')) (g:AC P W0 F N T0 pin Q c ⟨s,h',n⟩):AC P W0 F N T0 pin Q c ⟨s,h,n⟩:=by
 obtain ⟨h1,h2⟩:=Prod.mk.inj hx
 subst he
 obtain ⟨hl,h3⟩:=jQ h1
 have hcs:cs'=cs:=by
  rw [<-h3]
  apply List.ext_getElem?
  intro m
  simp only [List.length_cons,List.length_nil] at hl ⊢
  rcases Nat.lt_trichotomy m q with h4|h4|h4
  ·rw [List.append_assoc,List.getElem?_append_left (by rw [List.length_take];omega),List.getElem?_take,if_pos h4]
  ·subst h4
   rw [List.append_assoc,List.getElem?_append_right (by rw [List.length_take];omega),List.length_take,Nat.min_eq_left (by omega),Nat.sub_self]
   simp [hc]
  ·rw [List.getElem?_append_right (by simp;omega),List.getElem?_drop]
   congr 1
   simp
   omega
 subst hcs
 refine gy (st':=⟨s,h',n⟩) (aD.sub (fun _ _ hi=>hi) (fun j x hj=>?_) rfl) g
 have hj:look h' j=some x:=hj
 rw [<-mz h2] at hj
 rcases jW hj with ⟨rfl,rfl⟩|⟨_,h4⟩|h4
 ·exact hb
 ·exact h4
 ·exact h4.2.elim
theorem iM {c:Code} {i:Nat} {v:AV} (hs:look s i=some v) (g:AC P W0 F N T0 pin Q c ⟨(i,v)::s,h,n⟩):AC P W0 F N T0 pin Q c ⟨s,h,n⟩:=by
 refine gy (st':=⟨(i,v)::s,h,n⟩) (aD.sub (fun j x hj=>?_) (fun _ _ hi=>hi) rfl) g
 have hj':look ((i,v)::s) j=some x:=hj
 rw [bD] at hj'
 split at hj'
 ·rename_i e;subst e;injection hj' with hj';subst hj';exact hs
 ·exact hj'
end
section
variable {P:Program} {fn:Func} {pin:List (Nat×bK)} {av:AV} {nb:List (Nat×AB)} {e:Exit} {s:List (Nat×AV)} {h:List (Nat×AB)} {n:Nat}
theorem xp (k j t K:Nat) {bt:Nat} {cs cs':List CV} {h':List (Nat×AB)} (hb:look h k=some (.box bt cs)) (hc:cs[j]?=some cN) (hx:(Nat.blt 0 K,Nat.blt k n,jR cs j [.s n 0 K 0],ll h k (.box bt cs'))=(true,true,some cs',some h')):aD pin ⟨s,h,n⟩ ⟨s,(n,.arr t K [])::h',n+1⟩:=by
 simp only [Prod.mk.injEq,Nat.blt_eq] at hx
 obtain ⟨h1,h2,h3,h4⟩:=hx
 obtain ⟨hl,h5⟩:=jQ h3
 refine aD.sl k j t K bt h1 hb hc (by rw [Nat.blt_eq];exact h2) rfl ?_
 have:cs.set j (.s n 0 K 0)=cs':=by
  rw [<-h5]
  simp only [List.length_cons,List.length_nil] at hl ⊢
  apply List.ext_getElem?
  intro m
  rw [List.getElem?_set]
  split
  ·rename_i e;subst e
   rw [if_pos (by omega),List.append_assoc,List.getElem?_append_right (by rw [List.length_take];omega),List.length_take,Nat.min_eq_left (by omega),Nat.sub_self]
   rfl
  ·rename_i e
   rcases Nat.lt_or_gt_of_ne e with h6|h6
   ·rw [List.getElem?_append_right (by simp;omega),List.getElem?_drop]
    congr 1
    simp
    omega
   ·rw [List.append_assoc,List.getElem?_append_left (by rw [List.length_take];omega),List.getElem?_take,if_pos h6]
 rw [this,mz h4]
theorem cf (k j t K:Nat) {bt:Nat} {cs cs':List CV} {h':List (Nat×AB)} (hb:look h k=some (.box bt cs)) (hc:cs[j]?=some cN) (hx:(Nat.blt 0 K,Nat.blt k n,jR cs j [.s n 0 K 0],ll h k (.box bt cs'))=(true,true,some cs',some h'))
  (g:jT P fn pin av nb e ⟨s,(n,.arr t K [])::h',n+1⟩):jT P fn pin av nb e ⟨s,h,n⟩:=cV (xp k j t K hb hc hx) g
theorem xo (k j K:Nat) {bt:Nat} {cs cs':List CV} {h':List (Nat×AB)} (hb:look h k=some (.box bt cs)) (hc:cs[j]?=some cN) (hx:(jR cs j [cR K []],ll h k (.box bt cs'))=(some cs',some h')):aD pin ⟨s,h,n⟩ ⟨s,h',n⟩:=by
 simp only [Prod.mk.injEq] at hx
 obtain ⟨h3,h4⟩:=hx
 obtain ⟨hl,h5⟩:=jQ h3
 refine aD.nm k j K bt hb hc ?_
 have:cs.set j (cR K [])=cs':=by
  rw [<-h5]
  simp only [List.length_cons,List.length_nil] at hl ⊢
  apply List.ext_getElem?
  intro m
  rw [List.getElem?_set]
  split
  ·rename_i e;subst e
   rw [if_pos (by omega),List.append_assoc,List.getElem?_append_right (by rw [List.length_take];omega),List.length_take,Nat.min_eq_left (by omega),Nat.sub_self]
   rfl
  ·rename_i e
   rcases Nat.lt_or_gt_of_ne e with h6|h6
   ·rw [List.getElem?_append_right (by simp;omega),List.getElem?_drop]
    congr 1
    simp
    omega
   ·rw [List.append_assoc,List.getElem?_append_left (by rw [List.length_take];omega),List.getElem?_take,if_pos h6]
 rw [this,mz h4]
theorem eW (k j K:Nat) {bt:Nat} {cs cs':List CV} {h':List (Nat×AB)} (hb:look h k=some (.box bt cs)) (hc:cs[j]?=some cN) (hx:(jR cs j [cR K []],ll h k (.box bt cs'))=(some cs',some h'))
  (g:jT P fn pin av nb e ⟨s,h',n⟩):jT P fn pin av nb e ⟨s,h,n⟩:=cV (xo k j K hb hc hx) g
end
section
variable {P:Program} {W0:World} {F:Nat->Prop} {N:NT} {T0:Nat->Prop} {pin:List (Nat×bK)} {Q:Exit->aF->Prop} {s:List (Nat×AV)} {h:List (Nat×AB)} {n:Nat} {c:Code}
theorem pv (k j t K:Nat) {bt:Nat} {cs cs':List CV} {h':List (Nat×AB)} (hb:look h k=some (.box bt cs)) (hc:cs[j]?=some cN) (hx:(Nat.blt 0 K,Nat.blt k n,jR cs j [.s n 0 K 0],ll h k (.box bt cs'))=(true,true,some cs',some h'))
  (g:AC P W0 F N T0 pin Q c ⟨s,(n,.arr t K [])::h',n+1⟩):AC P W0 F N T0 pin Q c ⟨s,h,n⟩:=gy (xp k j t K hb hc hx) g
theorem kg (k j K:Nat) {bt:Nat} {cs cs':List CV} {h':List (Nat×AB)} (hb:look h k=some (.box bt cs)) (hc:cs[j]?=some cN) (hx:(jR cs j [cR K []],ll h k (.box bt cs'))=(some cs',some h'))
  (g:AC P W0 F N T0 pin Q c ⟨s,h',n⟩):AC P W0 F N T0 pin Q c ⟨s,h,n⟩:=gy (xo k j K hb hc hx) g
end
theorem bM:(∀ a:Bool,((!a)=true)=(a=false))/\(∀ a:Bool,((!a)=false)=(a=true))/\(∀ a b:Bool,((a||b)=true)=(a=true\/b=true))/\(∀ a b:Bool,((a||b)=false)=(a=false/\b=false))/\(∀ a b:Bool,((a && b)=true)=(a=true/\b=true))/\
  (∀ a b:Bool,((a && b)=false)=(a=true->b=false))/\(∀ (p:Prop) [Decidable p],(decide p=true)=p)/\(∀ (p:Prop) [Decidable p],(decide p=false)=¬p)/\(∀ a:Bool,(!!a)=a)/\((!true)=false)/\((!false)=true):=
 ⟨by simp,by simp,by simp,by simp,by simp,by simp,by simp,by simp,by simp,rfl,rfl⟩
end
section
theorem bn:(∀ ρ g,AV.map ρ (.v g)=.v (g.map ρ))/\(∀ ρ g,AV.map ρ (.t g)=.t (g.map (GV.map ρ)))/\(∀ ρ c,GV.map ρ (.c c)=.c (c.map ρ))/\(∀ ρ c,GV.map ρ (.g c)=.g (c.map (CV.map ρ)))/\
  (∀ ρ,CV.map ρ .any=.any)/\(∀ ρ x,CV.map ρ (.d x)=.d x)/\(∀ ρ k i K o,CV.map ρ (.p k i K o)=.p (ρ k) i K o)/\(∀ ρ r o,CV.map ρ (.q r o)=.q r o)/\(∀ ρ k i K n,CV.map ρ (.s k i K n)=.s (ρ k) i K n)/\
  (∀ ρ k i K n c e,CV.map ρ (.sx k i K n c e)=.sx (ρ k) i K n c e)/\(∀ ρ k,CV.map ρ (.m k)=.m (ρ k))/\(∀ ρ f l,CV.map ρ (.fn f l)=.fn f (l.map ρ))/\
  (∀ ρ t cs,AB.map' ρ (.box t cs)=.box t (cs.map (CV.map ρ)))/\(∀ ρ t K r,AB.map' ρ (.arr t K r)=.arr t K r)/\(∀ ρ e c,AB.map' ρ (.map e c)=.map e c)/\(∀ k:Nat,id k=k):=
 ⟨fun _ _=>rfl,fun _ _=>rfl,fun _ _=>rfl,fun _ _=>rfl,fun _=>rfl,fun _ _=>rfl,fun _ _ _ _ _=>rfl,fun _ _ _=>rfl,fun _ _ _ _ _=>rfl,fun _ _ _ _ _ _ _=>rfl,fun _ _=>rfl,fun _ _ _=>rfl,fun _ _ _=>rfl,fun _ _ _ _=>rfl,fun _ _ _=>rfl,fun _=>rfl⟩
theorem bo:(∀ {α:Type} (a b:List α),(a++b).length=a.length+b.length)/\(∀ {α:Type} (a:α) (b:List α),(a::b).length=b.length+1)/\(∀ {α:Type},([]:List α).length=0)/\(∀ {α:Type} (l:List α) (i:Nat) (a:α),(l.set i a).length=l.length):=
 ⟨fun _ _=>List.length_append,fun _ _=>rfl,rfl,fun _ _ _=>List.length_set ..⟩
end

def tt:List (Nat×TI):=[(46,⟨[(0,1),(1,1),(2,1),(3,1),(4,1),(5,4),(9,2),(11,2),(13,3),(16,1),(17,1),(18,1)],true,19,[.int .i64 0,.bool false,.slice none 0 0,.slice none 0 0,.slice none 0 0,.int .i64 0,.slice none 0 0,.int .i64 0,.slice none 0 0,.int .i64 0,.int .i64 0,.slice none 0 0,.slice none 0 0,.int .i64 0,.slice none 0 0,.slice none 0 0,.slice none 0 0,.slice none 0 0,.slice none 0 0]⟩),
 (98,⟨[(0,19),(19,1)],true,20,[.int .i64 0,.bool false,.slice none 0 0,.slice none 0 0,.slice none 0 0,.int .i64 0,.slice none 0 0,.int .i64 0,.slice none 0 0,.int .i64 0,.int .i64 0,.slice none 0 0,.slice none 0 0,.int .i64 0,.slice none 0 0,.slice none 0 0,.slice none 0 0,.slice none 0 0,.slice none 0 0,.map none]⟩),
 (147,⟨[(0,19),(19,1)],true,20,[.int .i64 0,.bool false,.slice none 0 0,.slice none 0 0,.slice none 0 0,.int .i64 0,.slice none 0 0,.int .i64 0,.slice none 0 0,.int .i64 0,.int .i64 0,.slice none 0 0,.slice none 0 0,.int .i64 0,.slice none 0 0,.slice none 0 0,.slice none 0 0,.slice none 0 0,.slice none 0 0,.int .i64 0]⟩),
 (27,⟨[(0,1),(1,1),(2,1),(3,1),(4,1),(5,1)],true,6,[.int .i64 0,.int .i64 0,.int .i64 0,.int .i64 0,.int .i64 0,.int .i64 0]⟩),
 (3,⟨[],false,1,[.int .i64 0]⟩),
 (48,⟨[],false,1,[.int .i64 0]⟩),
 (4,⟨[],false,1,[.bool false]⟩),
 (67,⟨[(0,1),(1,1),(2,1),(3,1),(4,1),(5,1),(6,1),(7,1)],true,8,[.int .i64 0,.int .i64 0,.int .i64 0,.int .i64 0,.int .i64 0,.int .i64 0,.int .i64 0,.bool false]⟩),
 (61,⟨[(0,1),(1,1),(2,3),(5,1)],true,6,[.int .i64 0,.int .i64 0,.int .i64 0,.int .i64 0,.int .i64 0,.slice none 0 0]⟩),
 (65,⟨[(0,1),(1,1)],true,2,[.int .i64 0,.int .i64 0]⟩),
 (80,⟨[(0,1),(1,1),(2,1),(3,1)],true,4,[.int .i64 0,.int .i64 0,.int .i64 0,.int .i64 0]⟩),
 (2,⟨[],false,1,[.int .i64 0]⟩),
 (5,⟨[],false,1,[.int .u8 0]⟩),
 (6,⟨[],false,1,[.int .u8 0]⟩),
 (7,⟨[(0,1),(1,1),(2,1),(3,1)],true,4,[.int .i64 0,.int .i64 0,.bool false,.int .u8 0]⟩),
 (8,⟨[(0,1),(1,1),(2,1),(3,1)],true,4,[.int .i64 0,.int .i64 0,.bool false,.int .u8 0]⟩),
 (9,⟨[],false,1,[]⟩),
 (10,⟨[],false,1,[]⟩),
 (11,⟨[],false,1,[]⟩),
 (12,⟨[],false,1,[.int .u64 0]⟩),
 (13,⟨[(0,1),(1,1)],true,2,[]⟩),
 (14,⟨[(0,1),(1,1)],true,2,[]⟩),
 (15,⟨[],false,1,[]⟩),
 (16,⟨[],false,1,[]⟩),
 (17,⟨[],false,1,[]⟩),
 (18,⟨[(0,1)],true,1,[]⟩),
 (19,⟨[(0,1)],true,1,[]⟩),
 (21,⟨[],false,1,[.int .i32 0]⟩),
 (24,⟨[],false,1,[.slice none 0 0]⟩),
 (26,⟨[(0,1),(1,1),(2,1),(3,1),(4,1),(5,1)],true,6,[.int .i64 0,.int .i64 0,.int .i64 0,.int .i64 0,.int .i64 0,.int .i64 0]⟩),
 (29,⟨[],false,1,[.slice none 0 0]⟩),
 (30,⟨[],false,1,[.slice none 0 0]⟩),
 (31,⟨[],false,1,[.slice none 0 0]⟩),
 (32,⟨[],false,1,[.slice none 0 0]⟩),
 (33,⟨[(0,1),(1,1)],true,2,[.int .i64 0,.slice none 0 0]⟩),
 (34,⟨[(0,1),(1,1)],true,2,[.int .i64 0,.slice none 0 0]⟩),
 (37,⟨[],false,1,[.slice none 0 0]⟩),
 (39,⟨[],false,1,[.slice none 0 0]⟩),
 (40,⟨[(0,1),(1,1),(2,1)],true,3,[.int .i64 0,.slice none 0 0,.slice none 0 0]⟩),
 (41,⟨[(0,1),(1,1),(2,1)],true,3,[.int .i64 0,.slice none 0 0,.slice none 0 0]⟩),
 (42,⟨[],false,1,[.slice none 0 0]⟩),
 (43,⟨[],false,1,[.slice none 0 0]⟩),
 (44,⟨[],false,1,[.slice none 0 0]⟩),
 (45,⟨[(0,1),(1,1),(2,1),(3,1),(4,1),(5,4),(9,2),(11,2),(13,3),(16,1),(17,1),(18,1)],true,19,[.int .i64 0,.bool false,.slice none 0 0,.slice none 0 0,.slice none 0 0,.int .i64 0,.slice none 0 0,.int .i64 0,.slice none 0 0,.int .i64 0,.int .i64 0,.slice none 0 0,.slice none 0 0,.int .i64 0,.slice none 0 0,.slice none 0 0,.slice none 0 0,.slice none 0 0,.slice none 0 0]⟩),
 (47,⟨[],false,1,[.slice none 0 0]⟩),
 (49,⟨[(0,1),(1,1)],true,2,[.int .i64 0,.int .i64 0]⟩),
 (50,⟨[(0,1),(1,1)],true,2,[.int .i64 0,.int .i64 0]⟩),
 (53,⟨[],false,1,[.slice none 0 0]⟩),
 (54,⟨[(0,1),(1,1),(2,1)],true,3,[.slice none 0 0,.int .i64 0,.int .i64 0]⟩),
 (55,⟨[(0,1),(1,1),(2,1)],true,3,[.slice none 0 0,.int .i64 0,.int .i64 0]⟩),
 (57,⟨[(0,1),(1,1),(2,1)],true,3,[.int .i64 0,.int .i64 0,.int .i64 0]⟩),
 (58,⟨[(0,1),(1,1),(2,1)],true,3,[.int .i64 0,.int .i64 0,.int .i64 0]⟩),
 (59,⟨[],false,1,[.slice none 0 0]⟩),
 (60,⟨[(0,1),(1,1),(2,3),(5,1)],true,6,[.int .i64 0,.int .i64 0,.int .i64 0,.int .i64 0,.int .i64 0,.slice none 0 0]⟩),
 (64,⟨[(0,1),(1,1)],true,2,[.int .i64 0,.int .i64 0]⟩),
 (66,⟨[(0,1),(1,1),(2,1),(3,1),(4,1),(5,1),(6,1),(7,1)],true,8,[.int .i64 0,.int .i64 0,.int .i64 0,.int .i64 0,.int .i64 0,.int .i64 0,.int .i64 0,.bool false]⟩),
 (79,⟨[(0,1),(1,1),(2,1),(3,1)],true,4,[.int .i64 0,.int .i64 0,.int .i64 0,.int .i64 0]⟩),
 (81,⟨[],false,1,[.map none]⟩),
 (82,⟨[(0,1),(1,1),(2,1),(3,1)],true,4,[.int .i64 0,.int .i64 0,.int .i64 0,.int .i64 0]⟩),
 (83,⟨[(0,1),(1,1),(2,1),(3,1)],true,4,[.int .i64 0,.int .i64 0,.int .i64 0,.int .i64 0]⟩),
 (86,⟨[],false,1,[.slice none 0 0]⟩),
 (95,⟨[],false,1,[]⟩),
 (96,⟨[],false,1,[.map none]⟩),
 (97,⟨[(0,19),(19,1)],true,20,[.int .i64 0,.bool false,.slice none 0 0,.slice none 0 0,.slice none 0 0,.int .i64 0,.slice none 0 0,.int .i64 0,.slice none 0 0,.int .i64 0,.int .i64 0,.slice none 0 0,.slice none 0 0,.int .i64 0,.slice none 0 0,.slice none 0 0,.slice none 0 0,.slice none 0 0,.slice none 0 0,.map none]⟩),
 (102,⟨[],false,1,[]⟩),
 (106,⟨[(0,1),(1,1),(2,1),(3,1)],true,4,[.int .i64 0,.int .i64 0,.int .i64 0,.int .i64 0]⟩),
 (107,⟨[(0,1),(1,1),(2,1),(3,1)],true,4,[.int .i64 0,.int .i64 0,.int .i64 0,.int .i64 0]⟩),
 (112,⟨[(0,4),(4,1)],true,5,[.int .i64 0,.int .i64 0,.int .i64 0,.int .i64 0,.int .i64 0]⟩),
 (113,⟨[(0,4),(4,1)],true,5,[.int .i64 0,.int .i64 0,.int .i64 0,.int .i64 0,.int .i64 0]⟩),
 (114,⟨[(0,1),(1,1)],true,2,[.int .i64 0,.int .i64 0]⟩),
 (115,⟨[(0,1),(1,1)],true,2,[.int .i64 0,.int .i64 0]⟩),
 (124,⟨[(0,1),(1,1)],true,2,[.int .i64 0,.int .i64 0]⟩),
 (125,⟨[(0,1),(1,1)],true,2,[.int .i64 0,.int .i64 0]⟩),
 (128,⟨[],false,1,[.int .u64 0]⟩),
 (136,⟨[],false,1,[]⟩),
 (146,⟨[(0,19),(19,1)],true,20,[.int .i64 0,.bool false,.slice none 0 0,.slice none 0 0,.slice none 0 0,.int .i64 0,.slice none 0 0,.int .i64 0,.slice none 0 0,.int .i64 0,.int .i64 0,.slice none 0 0,.slice none 0 0,.int .i64 0,.slice none 0 0,.slice none 0 0,.slice none 0 0,.slice none 0 0,.slice none 0 0,.int .i64 0]⟩),
 (171,⟨[],false,1,[]⟩),
 (181,⟨[],false,1,[.slice none 0 0]⟩),
 (198,⟨[(0,1),(1,1),(2,1),(3,1)],true,4,[]⟩),
 (199,⟨[(0,1),(1,1),(2,1),(3,1)],true,4,[]⟩),
 (201,⟨[(0,0)],true,0,[]⟩),
 (202,⟨[(0,0)],true,0,[]⟩),
 (204,⟨[],false,1,[.int .u32 0]⟩),
 (205,⟨[],false,1,[.int .u8 0]⟩),
 (206,⟨[],false,1,[.int .u8 0]⟩),
 (208,⟨[],false,1,[]⟩),
 (209,⟨[],false,1,[.int .i32 0]⟩),
 (210,⟨[],false,1,[.int .i32 0]⟩),
 (211,⟨[(0,1),(1,1),(2,1),(3,1),(4,1),(5,1),(6,1),(7,1),(8,1),(9,1),(10,1)],true,11,[]⟩),
 (212,⟨[(0,1),(1,1),(2,1),(3,1),(4,1),(5,1),(6,1),(7,1),(8,1),(9,1),(10,1)],true,11,[]⟩)]
theorem aa:gd Try.prog tt:=⟨⟨⟨_,Try.underlying46,rfl⟩,.inr (by kernel_rfl),by kernel_rfl,.inr ⟨by kernel_rfl,by kernel_rfl⟩⟩,
 ⟨⟨_,Try.underlying98,rfl⟩,.inr (by kernel_rfl),by kernel_rfl,.inr ⟨by kernel_rfl,by kernel_rfl⟩⟩,
 ⟨⟨_,Try.underlying147,rfl⟩,.inr (by kernel_rfl),by kernel_rfl,.inr ⟨by kernel_rfl,by kernel_rfl⟩⟩,
 ⟨⟨_,Try.underlying27,rfl⟩,.inr (by kernel_rfl),by kernel_rfl,.inr ⟨by kernel_rfl,by kernel_rfl⟩⟩,
 ⟨⟨_,Try.underlying3,rfl⟩,.inl rfl,by kernel_rfl,.inr ⟨by kernel_rfl,by kernel_rfl⟩⟩,
 ⟨⟨_,Try.underlying48,rfl⟩,.inl rfl,by kernel_rfl,.inr ⟨by kernel_rfl,by kernel_rfl⟩⟩,
 ⟨⟨_,Try.underlying4,rfl⟩,.inl rfl,by kernel_rfl,.inr ⟨by kernel_rfl,by kernel_rfl⟩⟩,
 ⟨⟨_,Try.underlying67,rfl⟩,.inr (by kernel_rfl),by kernel_rfl,.inr ⟨by kernel_rfl,by kernel_rfl⟩⟩,
 ⟨⟨_,Try.underlying61,rfl⟩,.inr (by kernel_rfl),by kernel_rfl,.inr ⟨by kernel_rfl,by kernel_rfl⟩⟩,
 ⟨⟨_,Try.underlying65,rfl⟩,.inr (by kernel_rfl),by kernel_rfl,.inr ⟨by kernel_rfl,by kernel_rfl⟩⟩,
 ⟨⟨_,Try.underlying80,rfl⟩,.inr (by kernel_rfl),by kernel_rfl,.inr ⟨by kernel_rfl,by kernel_rfl⟩⟩,
 ⟨⟨_,Try.underlying2,rfl⟩,.inl rfl,by kernel_rfl,.inr ⟨by kernel_rfl,by kernel_rfl⟩⟩,
 ⟨⟨_,Try.underlying5,rfl⟩,.inl rfl,by kernel_rfl,.inr ⟨by kernel_rfl,by kernel_rfl⟩⟩,
 ⟨⟨_,Try.underlying6,rfl⟩,.inl rfl,by kernel_rfl,.inr ⟨by kernel_rfl,by kernel_rfl⟩⟩,
 ⟨⟨_,Try.underlying7,rfl⟩,.inr (by kernel_rfl),by kernel_rfl,.inr ⟨by kernel_rfl,by kernel_rfl⟩⟩,
 ⟨⟨_,Try.underlying8,rfl⟩,.inr (by kernel_rfl),by kernel_rfl,.inr ⟨by kernel_rfl,by kernel_rfl⟩⟩,
 ⟨⟨_,Try.underlying9,rfl⟩,.inl rfl,by kernel_rfl,.inl rfl⟩,
 ⟨⟨_,Try.underlying10,rfl⟩,.inl rfl,by kernel_rfl,.inl rfl⟩,
 ⟨⟨_,Try.underlying11,rfl⟩,.inl rfl,by kernel_rfl,.inl rfl⟩,
 ⟨⟨_,Try.underlying12,rfl⟩,.inl rfl,by kernel_rfl,.inr ⟨by kernel_rfl,by kernel_rfl⟩⟩,
 ⟨⟨_,Try.underlying13,rfl⟩,.inr (by kernel_rfl),by kernel_rfl,.inl rfl⟩,
 ⟨⟨_,Try.underlying14,rfl⟩,.inr (by kernel_rfl),by kernel_rfl,.inl rfl⟩,
 ⟨⟨_,Try.underlying15,rfl⟩,.inl rfl,by kernel_rfl,.inl rfl⟩,
 ⟨⟨_,Try.underlying16,rfl⟩,.inl rfl,by kernel_rfl,.inl rfl⟩,
 ⟨⟨_,Try.underlying17,rfl⟩,.inl rfl,by kernel_rfl,.inl rfl⟩,
 ⟨⟨_,Try.underlying18,rfl⟩,.inr (by kernel_rfl),by kernel_rfl,.inl rfl⟩,
 ⟨⟨_,Try.underlying19,rfl⟩,.inr (by kernel_rfl),by kernel_rfl,.inl rfl⟩,
 ⟨⟨_,Try.underlying21,rfl⟩,.inl rfl,by kernel_rfl,.inr ⟨by kernel_rfl,by kernel_rfl⟩⟩,
 ⟨⟨_,Try.underlying24,rfl⟩,.inl rfl,by kernel_rfl,.inr ⟨by kernel_rfl,by kernel_rfl⟩⟩,
 ⟨⟨_,Try.underlying26,rfl⟩,.inr (by kernel_rfl),by kernel_rfl,.inr ⟨by kernel_rfl,by kernel_rfl⟩⟩,
 ⟨⟨_,Try.underlying29,rfl⟩,.inl rfl,by kernel_rfl,.inr ⟨by kernel_rfl,by kernel_rfl⟩⟩,
 ⟨⟨_,Try.underlying30,rfl⟩,.inl rfl,by kernel_rfl,.inr ⟨by kernel_rfl,by kernel_rfl⟩⟩,
 ⟨⟨_,Try.underlying31,rfl⟩,.inl rfl,by kernel_rfl,.inr ⟨by kernel_rfl,by kernel_rfl⟩⟩,
 ⟨⟨_,Try.underlying32,rfl⟩,.inl rfl,by kernel_rfl,.inr ⟨by kernel_rfl,by kernel_rfl⟩⟩,
 ⟨⟨_,Try.underlying33,rfl⟩,.inr (by kernel_rfl),by kernel_rfl,.inr ⟨by kernel_rfl,by kernel_rfl⟩⟩,
 ⟨⟨_,Try.underlying34,rfl⟩,.inr (by kernel_rfl),by kernel_rfl,.inr ⟨by kernel_rfl,by kernel_rfl⟩⟩,
 ⟨⟨_,Try.underlying37,rfl⟩,.inl rfl,by kernel_rfl,.inr ⟨by kernel_rfl,by kernel_rfl⟩⟩,
 ⟨⟨_,Try.underlying39,rfl⟩,.inl rfl,by kernel_rfl,.inr ⟨by kernel_rfl,by kernel_rfl⟩⟩,
 ⟨⟨_,Try.underlying40,rfl⟩,.inr (by kernel_rfl),by kernel_rfl,.inr ⟨by kernel_rfl,by kernel_rfl⟩⟩,
 ⟨⟨_,Try.underlying41,rfl⟩,.inr (by kernel_rfl),by kernel_rfl,.inr ⟨by kernel_rfl,by kernel_rfl⟩⟩,
 ⟨⟨_,Try.underlying42,rfl⟩,.inl rfl,by kernel_rfl,.inr ⟨by kernel_rfl,by kernel_rfl⟩⟩,
 ⟨⟨_,Try.underlying43,rfl⟩,.inl rfl,by kernel_rfl,.inr ⟨by kernel_rfl,by kernel_rfl⟩⟩,
 ⟨⟨_,Try.underlying44,rfl⟩,.inl rfl,by kernel_rfl,.inr ⟨by kernel_rfl,by kernel_rfl⟩⟩,
 ⟨⟨_,Try.underlying45,rfl⟩,.inr (by kernel_rfl),by kernel_rfl,.inr ⟨by kernel_rfl,by kernel_rfl⟩⟩,
 ⟨⟨_,Try.underlying47,rfl⟩,.inl rfl,by kernel_rfl,.inr ⟨by kernel_rfl,by kernel_rfl⟩⟩,
 ⟨⟨_,Try.underlying49,rfl⟩,.inr (by kernel_rfl),by kernel_rfl,.inr ⟨by kernel_rfl,by kernel_rfl⟩⟩,
 ⟨⟨_,Try.underlying50,rfl⟩,.inr (by kernel_rfl),by kernel_rfl,.inr ⟨by kernel_rfl,by kernel_rfl⟩⟩,
 ⟨⟨_,Try.underlying53,rfl⟩,.inl rfl,by kernel_rfl,.inr ⟨by kernel_rfl,by kernel_rfl⟩⟩,
 ⟨⟨_,Try.underlying54,rfl⟩,.inr (by kernel_rfl),by kernel_rfl,.inr ⟨by kernel_rfl,by kernel_rfl⟩⟩,
 ⟨⟨_,Try.underlying55,rfl⟩,.inr (by kernel_rfl),by kernel_rfl,.inr ⟨by kernel_rfl,by kernel_rfl⟩⟩,
 ⟨⟨_,Try.underlying57,rfl⟩,.inr (by kernel_rfl),by kernel_rfl,.inr ⟨by kernel_rfl,by kernel_rfl⟩⟩,
 ⟨⟨_,Try.underlying58,rfl⟩,.inr (by kernel_rfl),by kernel_rfl,.inr ⟨by kernel_rfl,by kernel_rfl⟩⟩,
 ⟨⟨_,Try.underlying59,rfl⟩,.inl rfl,by kernel_rfl,.inr ⟨by kernel_rfl,by kernel_rfl⟩⟩,
 ⟨⟨_,Try.underlying60,rfl⟩,.inr (by kernel_rfl),by kernel_rfl,.inr ⟨by kernel_rfl,by kernel_rfl⟩⟩,
 ⟨⟨_,Try.underlying64,rfl⟩,.inr (by kernel_rfl),by kernel_rfl,.inr ⟨by kernel_rfl,by kernel_rfl⟩⟩,
 ⟨⟨_,Try.underlying66,rfl⟩,.inr (by kernel_rfl),by kernel_rfl,.inr ⟨by kernel_rfl,by kernel_rfl⟩⟩,
 ⟨⟨_,Try.underlying79,rfl⟩,.inr (by kernel_rfl),by kernel_rfl,.inr ⟨by kernel_rfl,by kernel_rfl⟩⟩,
 ⟨⟨_,Try.underlying81,rfl⟩,.inl rfl,by kernel_rfl,.inr ⟨by kernel_rfl,by kernel_rfl⟩⟩,
 ⟨⟨_,Try.underlying82,rfl⟩,.inr (by kernel_rfl),by kernel_rfl,.inr ⟨by kernel_rfl,by kernel_rfl⟩⟩,
 ⟨⟨_,Try.underlying83,rfl⟩,.inr (by kernel_rfl),by kernel_rfl,.inr ⟨by kernel_rfl,by kernel_rfl⟩⟩,
 ⟨⟨_,Try.underlying86,rfl⟩,.inl rfl,by kernel_rfl,.inr ⟨by kernel_rfl,by kernel_rfl⟩⟩,
 ⟨⟨_,Try.underlying95,rfl⟩,.inl rfl,by kernel_rfl,.inl rfl⟩,
 ⟨⟨_,Try.underlying96,rfl⟩,.inl rfl,by kernel_rfl,.inr ⟨by kernel_rfl,by kernel_rfl⟩⟩,
 ⟨⟨_,Try.underlying97,rfl⟩,.inr (by kernel_rfl),by kernel_rfl,.inr ⟨by kernel_rfl,by kernel_rfl⟩⟩,
 ⟨⟨_,Try.underlying102,rfl⟩,.inl rfl,by kernel_rfl,.inl rfl⟩,
 ⟨⟨_,Try.underlying106,rfl⟩,.inr (by kernel_rfl),by kernel_rfl,.inr ⟨by kernel_rfl,by kernel_rfl⟩⟩,
 ⟨⟨_,Try.underlying107,rfl⟩,.inr (by kernel_rfl),by kernel_rfl,.inr ⟨by kernel_rfl,by kernel_rfl⟩⟩,
 ⟨⟨_,Try.underlying112,rfl⟩,.inr (by kernel_rfl),by kernel_rfl,.inr ⟨by kernel_rfl,by kernel_rfl⟩⟩,
 ⟨⟨_,Try.underlying113,rfl⟩,.inr (by kernel_rfl),by kernel_rfl,.inr ⟨by kernel_rfl,by kernel_rfl⟩⟩,
 ⟨⟨_,Try.underlying114,rfl⟩,.inr (by kernel_rfl),by kernel_rfl,.inr ⟨by kernel_rfl,by kernel_rfl⟩⟩,
 ⟨⟨_,Try.underlying115,rfl⟩,.inr (by kernel_rfl),by kernel_rfl,.inr ⟨by kernel_rfl,by kernel_rfl⟩⟩,
 ⟨⟨_,Try.underlying124,rfl⟩,.inr (by kernel_rfl),by kernel_rfl,.inr ⟨by kernel_rfl,by kernel_rfl⟩⟩,
 ⟨⟨_,Try.underlying125,rfl⟩,.inr (by kernel_rfl),by kernel_rfl,.inr ⟨by kernel_rfl,by kernel_rfl⟩⟩,
 ⟨⟨_,Try.underlying128,rfl⟩,.inl rfl,by kernel_rfl,.inr ⟨by kernel_rfl,by kernel_rfl⟩⟩,
 ⟨⟨_,Try.underlying136,rfl⟩,.inl rfl,by kernel_rfl,.inl rfl⟩,
 ⟨⟨_,Try.underlying146,rfl⟩,.inr (by kernel_rfl),by kernel_rfl,.inr ⟨by kernel_rfl,by kernel_rfl⟩⟩,
 ⟨⟨_,Try.underlying171,rfl⟩,.inl rfl,by kernel_rfl,.inl rfl⟩,
 ⟨⟨_,Try.underlying181,rfl⟩,.inl rfl,by kernel_rfl,.inr ⟨by kernel_rfl,by kernel_rfl⟩⟩,
 ⟨⟨_,Try.underlying198,rfl⟩,.inr (by kernel_rfl),by kernel_rfl,.inl rfl⟩,
 ⟨⟨_,Try.underlying199,rfl⟩,.inr (by kernel_rfl),by kernel_rfl,.inl rfl⟩,
 ⟨⟨_,Try.underlying201,rfl⟩,.inr (by kernel_rfl),by kernel_rfl,.inr ⟨by kernel_rfl,by kernel_rfl⟩⟩,
 ⟨⟨_,Try.underlying202,rfl⟩,.inr (by kernel_rfl),by kernel_rfl,.inr ⟨by kernel_rfl,by kernel_rfl⟩⟩,
 ⟨⟨_,Try.underlying204,rfl⟩,.inl rfl,by kernel_rfl,.inr ⟨by kernel_rfl,by kernel_rfl⟩⟩,
 ⟨⟨_,Try.underlying205,rfl⟩,.inl rfl,by kernel_rfl,.inr ⟨by kernel_rfl,by kernel_rfl⟩⟩,
 ⟨⟨_,Try.underlying206,rfl⟩,.inl rfl,by kernel_rfl,.inr ⟨by kernel_rfl,by kernel_rfl⟩⟩,
 ⟨⟨_,Try.underlying208,rfl⟩,.inl rfl,by kernel_rfl,.inl rfl⟩,
 ⟨⟨_,Try.underlying209,rfl⟩,.inl rfl,by kernel_rfl,.inr ⟨by kernel_rfl,by kernel_rfl⟩⟩,
 ⟨⟨_,Try.underlying210,rfl⟩,.inl rfl,by kernel_rfl,.inr ⟨by kernel_rfl,by kernel_rfl⟩⟩,
 ⟨⟨_,Try.underlying211,rfl⟩,.inr (by kernel_rfl),by kernel_rfl,.inl rfl⟩,
 ⟨⟨_,Try.underlying212,rfl⟩,.inr (by kernel_rfl),by kernel_rfl,.inl rfl⟩,trivial⟩
theorem au:(∀ g,fL [g]=.v g)/\(∀ a b l,fL (a::b::l)=.t (a::b::l))/\(fL []=.t [])/\(∀ c,aC c=.v (.c c))/\(∀ n,cI n=.d (.v (.int .i64 n)))/\(∀ b,cB b=.d (.v (.bool b)))/\(cN=.d (.v (.slice none 0 0)))/\(∀ K r,cR K r=.d (.r K r))/\(∀ n,dI n=.v (.int .i64 n))/\(∀ l:List Int,fC l=.d (.r 1 (l.map rI)))/\(∀ l:List Int,dL l=.arr 3 1 (l.map rI))/\(∀ l:List cX,fq l=.d (.r 2 (l.map gU)))/\(∀ l:List cX,oT l=.arr 125 2 (l.map gU))/\(∀ l:List ca,gz l=.d (.r 4 (l.map iq)))/\(∀ l:List ca,AK l=.arr 107 4 (l.map iq))/\(∀ l:List aW,dc l=.d (.r 4 (l.map fx)))/\(∀ l:List aW,xO l=.arr 80 4 (l.map fx))/\(∀ l:List Entry,dM l=.d (.r 2 (l.map eC)))/\(∀ l:List Entry,lF l=.arr 115 2 (l.map eC))/\(∀ l:List an,iB l=.d (.r 4 (l.map gV)))/\(∀ l:List an,cH l=.arr 83 4 (l.map gV))/\(∀ l:List bx,zd l=.d (.r 6 (l.map pd)))/\(∀ l:List bx,dR l=.arr 61 6 (l.map pd))/\(∀ l:List bz,uw l=.d (.r 8 (l.map iO)))/\(∀ l:List bz,dX l=.arr 67 8 (l.map iO))/\(∀ l:List bV,ed l=.d (.r 5 (l.map fj)))/\(∀ l:List bV,Fj l=.arr 113 5 (l.map fj))/\(∀ l:List Answer,zc l=.d (.r 2 (l.map lf)))/\(∀ l:List Answer,Fi l=.arr 65 2 (l.map lf))/\(∀ l:List aE,qJ l=.d (.r 6 (l.map cG)))/\(∀ l:List aE,rU l=.arr 27 6 (l.map cG))/\(∀ l:List Int,DJ l=.d (.r 1 (l.map nO)))/\(∀ l:List Int,xP l=.arr 5 1 (l.map nO))/\(∀ l:List (List Int),zb l=.d (.r 1 (l.map sj)))/\(∀ l:List (List Int),pS l=.arr 86 1 (l.map sj)):=⟨fun _=>rfl,fun _ _ _=>rfl,rfl,fun _=>rfl,fun _=>rfl,fun _=>rfl,rfl,fun _ _=>rfl,fun _=>rfl,fun _=>rfl,fun _=>rfl,fun _=>rfl,fun _=>rfl,fun _=>rfl,fun _=>rfl,fun _=>rfl,fun _=>rfl,fun _=>rfl,fun _=>rfl,fun _=>rfl,fun _=>rfl,fun _=>rfl,fun _=>rfl,fun _=>rfl,fun _=>rfl,fun _=>rfl,fun _=>rfl,fun _=>rfl,fun _=>rfl,fun _=>rfl,fun _=>rfl,fun _=>rfl,fun _=>rfl,fun _=>rfl,fun _=>rfl⟩


def iL {α:Type} (l:List α) (i:Nat) (x:α):List α:=l.take i++[x]++l.drop i
theorem BA {α:Type} {l:List α} {i:Nat} {x:α} (h:i<=l.length):(iL l i x).length=l.length+1:=by
  simp [iL];omega
theorem BB {α:Type} {l:List α} {x:α}:iL l l.length x=l++[x]:=by simp [iL]
theorem zU {α:Type} {l:List α} {i n:Nat} {x:α} (hi:i < l.length) (hn:n=l.length - i):((l.take (i+1)++(l.drop i).take n).take i++[x]++(l.take (i+1)++(l.drop i).take n).drop (i+1))=iL l i x:=by
  subst hn
  have h1:(l.take (i+1)).length=i+1:=by rw [List.length_take];omega
  rw [List.take_append_of_le_length (by omega),List.take_take,Nat.min_eq_left (by omega),List.drop_append,List.drop_of_length_le (by omega),h1,Nat.sub_self,List.drop_zero,List.nil_append,List.take_of_length_le (l:=l.drop i) (by rw [List.length_drop];omega)]
  rfl
theorem zV {α:Type} {l:List α} {i m n:Nat} {x z:α} (hi:i < l.length) (hm:m=l.length+1 - i) (hn:n=l.length - i):
    (((l.take i++List.replicate m z).take i++[x]++(l.take i++List.replicate m z).drop (i+1)).take (i+1)++(l.drop i).take n)=iL l i x:=by
  subst hm hn
  have h1:(l.take i).length=i:=by rw [List.length_take];omega
  rw [List.take_append_of_le_length (l₁:=l.take i) (by omega),List.take_take,Nat.min_self,List.take_append_of_le_length (by rw [List.length_append,h1];simp),List.take_of_length_le (l:=l.take i++[x]) (by rw [List.length_append,h1];simp),List.take_of_length_le (l:=l.drop i) (by rw [List.length_drop];omega)]
  rfl

theorem sH (l:List Entry) (i:Nat) (x:Entry) (hi:i<=l.length) (hl:(l.length+1) * 16<=140737488355328) (r:List Entry) (hr:iL l i x=r):cA Try.prog 121 [(.c (.s 0 0 2 l.length)),(.c (cI (↑i:Int))),(.c (.s 1 0 2 1))] [(1,(lF ([x]))),(0,(lF l))] [] (.v (.c (.s 0 0 2 r.length))) [(0,(lF r))]:=by
 refine cA.mk 95 [(0,(aC (.s 0 0 2 l.length))),(1,(aI (↑i:Int))),(2,(aC (.s 1 0 2 1)))] 2 Try.func121 rfl rfl rfl rfl rfl rfl rfl rfl rfl ?_
 intro W0 F0 T0 pg
 refine fQ 0 rfl (fun hlen0=>?_)
 refine fQ 2 rfl (fun hlen2=>?_)
 refine ad aa 1 rfl ?_
 refine az aa 2 rfl ?_
 refine ay (vx (l:=i) (h:=l.length) rfl Try.underlying44 eb rfl (.inr ⟨_,rfl,rfl⟩) (.inl ⟨rfl,rfl,rfl⟩) (.inl rfl) (by first|omega|(simp;done)|(simp;omega)) (by first|omega|(simp;done)|(simp;omega))) rfl ?_
 refine ae ?_
 refine az aa 1 rfl ?_
 refine ay (dr rfl rfl rfl rfl rfl Try.underlying44) rfl ?_
 refine ab aa 1 rfl ?_
 refine ae ?_
 refine af ?_
 refine az aa 1 rfl ?_
 refine ay (aM rfl rfl rfl (show _=some (Value.bool false) from rfl)) rfl ?_
 refine ae ?_
 refine ag rfl (fun hno=>by cases hno) (fun _=>?_)
 refine aP ?_
 refine az aa 1 rfl ?_
 refine ay (dr rfl rfl rfl rfl rfl Try.underlying44) rfl ?_
 refine ab aa 1 rfl ?_
 refine ae ?_
 refine af ?_
 refine ad aa 3 rfl ?_
 refine ag rfl (fun hc2=>?_) (fun hc2=>?_)
 ·
  have hc2':=of_decide_eq_true hc2
  refine az aa 2 rfl ?_
  refine aL 3 [2,1] (da (m:=1) (N:=l.length+1) (k2:=2) (ys:=([x]).map eC) jP rfl rfl rfl rfl rfl rfl (by first|omega|(simp;done)|(simp;omega)) rfl (.s rfl (by first|omega|(simp;done)|(simp;omega))) (by first|omega|(simp;done)|(simp;omega)) (by first|omega|(simp;done)|(simp;omega)) eP (by decide) (by first|omega|(simp;done)|(simp;omega)) (by first|omega|(simp;done)|(simp;omega))) rfl ?_
  refine ab aa 1 rfl ?_
  refine ae ?_
  refine ar ?_
  refine ao ?_
  have hX:iL l i x=(l++([x])):=by
    obtain rfl:i=l.length:=by omega
    exact BB
  rw [hX] at hr;clear hX
  subst hr
  refine ah aa [2] 1 rfl rfl rfl rfl rfl rfl ?_ ?_
  all_goals first|rfl|(simp [au];done)|(simp [au];omega)
 have hc2':=of_decide_eq_false hc2
 refine aP ?_
 refine af ?_
 refine sN 0 rfl (by first|omega|(simp;done)|(simp;omega)) (fun cap1 hcap1 hmcap1=>?_)
 refine az aa 2 rfl ?_
 refine ay (aM rfl rfl rfl (aH (by first|omega|(simp;done)|(simp;omega)))) rfl ?_
 refine ab aa 1 rfl ?_
 refine ay (Et Try.underlying44 rfl rfl rfl rfl rfl) rfl ?_
 refine ab aa 1 rfl ?_
 refine ae ?_
 refine ag rfl (fun hc3=>?_) (fun hc3=>?_)
 ·
  have hc3':=of_decide_eq_true hc3
  refine az aa 2 rfl ?_
  refine ay (fS (l:=0) (h:=i) (m:=cap1) (n':=i) (c':=cap1) (E':=true) rfl Try.underlying44 eb rfl (.inl ⟨rfl,rfl⟩) (.inr ⟨_,rfl,rfl⟩) (.inl ⟨rfl,rfl⟩) (by first|omega|(simp;done)|(simp;omega)) (by first|omega|(simp;done)|(simp;omega)) (by first|omega|(simp;done)|(simp;omega)) (by first|omega|(simp;done)|(simp;omega)) (by first|omega|(simp;done)|(simp;omega)) (by simp)) rfl ?_
  refine ab aa 2 rfl ?_
  refine ay (aM rfl rfl rfl (aH (by first|omega|(simp;done)|(simp;omega)))) rfl ?_
  refine ab aa 1 rfl ?_
  refine ay (aM rfl rfl rfl (aH (by first|omega|(simp;done)|(simp;omega)))) rfl ?_
  refine aL 3 [2,1,0] (Eu (m:=((l.length)+1) - (i)) (N:=l.length+1) (rows':=((l).take i++List.replicate (((l.length)+1) - (i)) (⟨0,0⟩:Entry)).map eC) 2 jP CE rfl rfl Try.underlying3 rfl rfl rfl rfl rfl rfl (xD rfl (by first|omega|(simp;done)|(simp;omega))) (by first|omega|(simp;done)|(simp;omega)) (by first|omega|(simp;done)|(simp;omega)) (by first|omega|(simp;done)|(simp;omega)) (by first|omega|(simp;done)|(simp;omega)) (by first|omega|(simp;done)|(simp;omega)) (by first|omega|(simp;done)|(simp;omega)) (by rw [List.map_append,List.map_take,List.map_replicate];rfl)) rfl ?_
  refine ab aa 1 rfl ?_
  refine ae ?_
  refine sN 9 rfl (by first|omega|(simp;done)|(simp;omega)) (fun cap2 hcap2 hmcap2=>?_)
  refine az aa 2 rfl ?_
  refine ay (aK.cast (fS (l:=i) (h:=l.length+1) (m:=cap2) (n':=(l.length+1) - i) (c':=cap2 - i) (E':=true) rfl Try.underlying44 eb rfl (.inr ⟨_,rfl,rfl⟩) (.inl ⟨rfl,rfl,rfl⟩) (.inl ⟨rfl,rfl⟩) (by first|omega|(simp;done)|(simp;omega)) (by first|omega|(simp;done)|(simp;omega)) (by first|omega|(simp;done)|(simp;omega)) (by first|omega|(simp;done)|(simp;omega)) (by first|omega|(simp;done)|(simp;omega)) (by simp)) (show _=(aC (.sx 2 i 2 ((l.length+1) - i) (cap2 - i) true)) by first|rfl|(simp only [Nat.zero_add,Nat.add_zero];rfl))) rfl ?_
  refine ab aa 1 rfl ?_
  refine aL 3 [2,1,0] (pf (m:=1) (len:=1) (ys:=(([x]).take 1).map eC) (rows':=((l.take i++List.replicate (l.length+1 - i) (⟨0,0⟩:Entry)).take i++[x]++(l.take i++List.replicate (l.length+1 - i) (⟨0,0⟩:Entry)).drop (i+1)).map eC) jP rfl rfl rfl rfl rfl rfl rfl (.s rfl (by first|omega|(simp;done)|(simp;omega)) (by first|omega|(simp;done)|(simp;omega)) (by first|(simp [List.map_take,List.map_drop];done)|(rw [List.map_take];rfl))) (by first|omega|(simp;done)|(simp;omega)) (by first|omega|(simp;done)|(simp;omega)) (by first|omega|(simp;done)|(simp;omega)) (by simp [List.map_take,List.map_drop])) rfl ?_
  refine ae ?_
  refine af ?_
  refine db [9,0,1,2,7,8] [2,1,0] mixed rfl rfl ?_
  refine bT (kn:=[]) aa 3 rfl trivial ?_
  refine bW (n':=3) [47,48] [] rfl rfl (.inl ⟨(ak.plain rfl),aK.cast (aM rfl rfl rfl (aH (by first|omega|(simp;done)|(simp;omega)))) rfl⟩) rfl ?_
  refine bW (n':=3) [46,49] [2] rfl rfl (.inl ⟨(ak.plain rfl),aK.cast (aK.cast (fS (l:=(i)+1) (h:=l.length+1) (m:=cap2) (n':=(l.length+1) - ((i)+1)) (c':=cap2 - ((i)+1)) (E':=true) rfl Try.underlying44 eb rfl (.inr ⟨_,rfl,(xD rfl (by first|omega|(simp;done)|(simp;omega)))⟩) (.inl ⟨rfl,rfl,rfl⟩) (.inl ⟨rfl,rfl⟩) (by first|omega|(simp;done)|(simp;omega)) (by first|omega|(simp;done)|(simp;omega)) (by first|omega|(simp;done)|(simp;omega)) (by first|omega|(simp;done)|(simp;omega)) (by first|omega|(simp;done)|(simp;omega)) (by simp)) (show _=(aC (.sx 2 ((i)+1) 2 ((l.length+1) - ((i)+1)) (cap2 - ((i)+1)) true)) by first|rfl|(simp only [Nat.zero_add,Nat.add_zero];rfl))) rfl⟩) rfl ?_
  refine bT (kn:=[]) aa 2 rfl trivial ?_
  refine bW (n':=3) [51,52] [0] rfl rfl (.inl ⟨(ak.plain rfl),aK.cast (aK.cast (fS (l:=i) (h:=l.length) (m:=cap1) (n':=l.length - i) (c':=cap1 - i) (E':=true) rfl Try.underlying44 eb rfl (.inr ⟨_,rfl,rfl⟩) (.inl ⟨rfl,rfl,rfl⟩) (.inl ⟨rfl,rfl⟩) (by first|omega|(simp;done)|(simp;omega)) (by first|omega|(simp;done)|(simp;omega)) (by first|omega|(simp;done)|(simp;omega)) (by first|omega|(simp;done)|(simp;omega)) (by first|omega|(simp;done)|(simp;omega)) (by simp)) (show _=(aC (.sx 0 i 2 (l.length - i) (cap1 - i) true)) by first|rfl|(simp only [Nat.zero_add,Nat.add_zero];rfl))) rfl⟩) rfl ?_
  refine bW (n':=3) [50,53] [0,2] rfl rfl (.inl ⟨(ak.plain rfl),aK.cast (pf (m:=l.length - i) (len:=l.length - i) (ys:=(((l).drop i).take (l.length - i)).map eC) (rows':=(((l.take i++List.replicate (l.length+1 - i) (⟨0,0⟩:Entry)).take i++[x]++(l.take i++List.replicate (l.length+1 - i) (⟨0,0⟩:Entry)).drop (i+1)).take (i+1)++(l.drop i).take (l.length - i)).map eC) jP rfl rfl rfl rfl rfl rfl rfl (.x rfl (by first|omega|(simp;done)|(simp;omega)) (by first|omega|(simp;done)|(simp;omega)) (by first|(simp [List.map_take,List.map_drop];done)|(rw [List.map_take];rfl))) (by first|omega|(simp;done)|(simp;omega)) (by first|omega|(simp;done)|(simp;omega)) (by first|omega|(simp;done)|(simp;omega)) (by rw [List.drop_of_length_le (i:=i+1+(l.length - i)) (by simp only [List.length_append,List.length_take,List.length_drop,List.length_map,List.length_replicate,List.length_cons,List.length_nil];omega),List.append_nil];simp [List.map_take,List.map_drop])) rfl⟩) rfl ?_
  refine dS [9,0,1,2,7,8] [2,1,0] rfl rfl (by kernel_rfl) ?_
  refine then_ok ?_
  refine ad aa 2 rfl ?_
  refine ar ?_
  refine ao ?_
  refine cV (aD.CF 6 rfl (by first|omega|(simp;done)|(simp;omega))) ?_
  have hX:iL l i x=(((l.take i++List.replicate (l.length+1 - i) (⟨0,0⟩:Entry)).take i++[x]++(l.take i++List.replicate (l.length+1 - i) (⟨0,0⟩:Entry)).drop (i+1)).take (i+1)++(l.drop i).take (l.length - i)):=by
    exact (zV (by omega) rfl rfl).symm
  rw [hX] at hr;clear hX
  subst hr
  refine ah aa [2] 1 rfl rfl rfl rfl rfl rfl ?_ ?_
  all_goals first|rfl|(simp [au];done)|(simp [au];omega)
 have hc3':=of_decide_eq_false hc3
 refine aP ?_
 refine az aa 3 rfl ?_
 refine ay (aM rfl rfl rfl (aH (by first|omega|(simp;done)|(simp;omega)))) rfl ?_
 refine ay (fS (l:=0) (h:=(l.length)+1) (m:=cap1) (n':=(l.length)+1) (c':=cap1) (E':=true) rfl Try.underlying44 eb rfl (.inl ⟨rfl,rfl⟩) (.inr ⟨_,rfl,(xD rfl (by first|omega|(simp;done)|(simp;omega)))⟩) (.inl ⟨rfl,rfl⟩) (by first|omega|(simp;done)|(simp;omega)) (by first|omega|(simp;done)|(simp;omega)) (by first|omega|(simp;done)|(simp;omega)) (by first|omega|(simp;done)|(simp;omega)) (by first|omega|(simp;done)|(simp;omega)) (by simp)) rfl ?_
 refine ab aa 1 rfl ?_
 refine ae ?_
 refine af ?_
 refine az aa 4 rfl ?_
 refine ay (aM rfl rfl rfl (aH (by first|omega|(simp;done)|(simp;omega)))) rfl ?_
 refine ay (aK.cast (fS (l:=(i)+1) (h:=(l.length)+1) (m:=cap1) (n':=((l.length)+1) - ((i)+1)) (c':=cap1 - ((i)+1)) (E':=true) rfl Try.underlying44 eb rfl (.inr ⟨_,rfl,(xD rfl (by first|omega|(simp;done)|(simp;omega)))⟩) (.inl ⟨rfl,rfl,rfl⟩) (.inl ⟨rfl,rfl⟩) (by first|omega|(simp;done)|(simp;omega)) (by first|omega|(simp;done)|(simp;omega)) (by first|omega|(simp;done)|(simp;omega)) (by first|omega|(simp;done)|(simp;omega)) (by first|omega|(simp;done)|(simp;omega)) (by simp)) (show _=(aC (.sx 0 ((i)+1) 2 (((l.length)+1) - ((i)+1)) (cap1 - ((i)+1)) true)) by first|rfl|(simp only [Nat.zero_add,Nat.add_zero];rfl))) rfl ?_
 refine ay (yw (fn:=Try.f124) (tr:=4) jP Try.func124 (by kernel_rfl) (by kernel_rfl) (by kernel_rfl) (by kernel_rfl) rfl rfl rfl rfl (by first|omega|(simp;done)|(simp;omega)) rfl (by first|omega|(simp;done)|(simp;omega)) rfl rfl (by decide)) rfl ?_
 refine ab aa 1 rfl ?_
 refine ae ?_
 refine ag rfl (fun _=>?_) (fun hno=>by cases hno)
 refine af ?_
 refine db [0,1,2,7,8] [1,0] mixed rfl rfl ?_
 refine bT (kn:=[]) aa 3 rfl trivial ?_
 refine bW (n':=2) [70,71] [] rfl rfl (.inl ⟨(ak.plain rfl),aK.cast (aM rfl rfl rfl (aH (by first|omega|(simp;done)|(simp;omega)))) rfl⟩) rfl ?_
 refine bW (n':=2) [69,72] [0] rfl rfl (.inl ⟨(ak.plain rfl),aK.cast (aK.cast (fS (l:=(i)+1) (h:=(l.length)+1) (m:=cap1) (n':=((l.length)+1) - ((i)+1)) (c':=cap1 - ((i)+1)) (E':=true) rfl Try.underlying44 eb rfl (.inr ⟨_,rfl,(xD rfl (by first|omega|(simp;done)|(simp;omega)))⟩) (.inl ⟨rfl,rfl,rfl⟩) (.inl ⟨rfl,rfl⟩) (by first|omega|(simp;done)|(simp;omega)) (by first|omega|(simp;done)|(simp;omega)) (by first|omega|(simp;done)|(simp;omega)) (by first|omega|(simp;done)|(simp;omega)) (by first|omega|(simp;done)|(simp;omega)) (by simp)) (show _=(aC (.sx 0 ((i)+1) 2 (((l.length)+1) - ((i)+1)) (cap1 - ((i)+1)) true)) by first|rfl|(simp only [Nat.zero_add,Nat.add_zero];rfl))) rfl⟩) rfl ?_
 refine bT (kn:=[]) aa 2 rfl trivial ?_
 refine bW (n':=2) [74,75] [0] rfl rfl (.inl ⟨(ak.plain rfl),aK.cast (aK.cast (fS (l:=i) (h:=(l.length)+1) (m:=cap1) (n':=((l.length)+1) - i) (c':=cap1 - i) (E':=true) rfl Try.underlying44 eb rfl (.inr ⟨_,rfl,rfl⟩) (.inl ⟨rfl,rfl,rfl⟩) (.inl ⟨rfl,rfl⟩) (by first|omega|(simp;done)|(simp;omega)) (by first|omega|(simp;done)|(simp;omega)) (by first|omega|(simp;done)|(simp;omega)) (by first|omega|(simp;done)|(simp;omega)) (by first|omega|(simp;done)|(simp;omega)) (by simp)) (show _=(aC (.sx 0 i 2 (((l.length)+1) - i) (cap1 - i) true)) by first|rfl|(simp only [Nat.zero_add,Nat.add_zero];rfl))) rfl⟩) rfl ?_
 refine bW (n':=2) [73,76] [0] rfl rfl (.inl ⟨(ak.plain rfl),aK.cast (pf (m:=l.length - i) (len:=((l.length)+1) - i) (ys:=(((l).drop i).take (l.length - i)).map eC) (rows':=(l.take (i+1)++(l.drop i).take (l.length - i)).map eC) jP rfl rfl rfl rfl rfl rfl rfl (.x rfl (by first|omega|(simp;done)|(simp;omega)) (by first|omega|(simp;done)|(simp;omega)) (by first|(simp [List.map_take,List.map_drop];done)|(rw [List.map_take];rfl))) (by first|omega|(simp;done)|(simp;omega)) (by first|omega|(simp;done)|(simp;omega)) (by first|omega|(simp;done)|(simp;omega)) (by rw [List.drop_of_length_le (i:=i+1+(l.length - i)) (by simp only [List.length_append,List.length_take,List.length_drop,List.length_map,List.length_replicate,List.length_cons,List.length_nil];omega),List.append_nil];simp [List.map_take,List.map_drop])) rfl⟩) rfl ?_
 refine dS [0,1,2,7,8] [0,1] rfl rfl (by kernel_rfl) ?_
 refine then_ok ?_
 refine az aa 2 rfl ?_
 refine ay (aK.cast (fS (l:=i) (h:=(l.length)+1) (m:=cap1) (n':=((l.length)+1) - i) (c':=cap1 - i) (E':=true) rfl Try.underlying44 eb rfl (.inr ⟨_,rfl,rfl⟩) (.inl ⟨rfl,rfl,rfl⟩) (.inl ⟨rfl,rfl⟩) (by first|omega|(simp;done)|(simp;omega)) (by first|omega|(simp;done)|(simp;omega)) (by first|omega|(simp;done)|(simp;omega)) (by first|omega|(simp;done)|(simp;omega)) (by first|omega|(simp;done)|(simp;omega)) (by simp)) (show _=(aC (.sx 0 i 2 (((l.length)+1) - i) (cap1 - i) true)) by first|rfl|(simp only [Nat.zero_add,Nat.add_zero];rfl))) rfl ?_
 refine ab aa 1 rfl ?_
 refine aL 2 [0,1] (pf (m:=1) (len:=1) (ys:=(([x]).take 1).map eC) (rows':=((l.take (i+1)++(l.drop i).take (l.length - i)).take i++[x]++(l.take (i+1)++(l.drop i).take (l.length - i)).drop (i+1)).map eC) jP rfl rfl rfl rfl rfl rfl rfl (.s rfl (by first|omega|(simp;done)|(simp;omega)) (by first|omega|(simp;done)|(simp;omega)) (by first|(simp [List.map_take,List.map_drop];done)|(rw [List.map_take];rfl))) (by first|omega|(simp;done)|(simp;omega)) (by first|omega|(simp;done)|(simp;omega)) (by first|omega|(simp;done)|(simp;omega)) (by simp [List.map_take,List.map_drop])) rfl ?_
 refine ae ?_
 refine ad aa 2 rfl ?_
 refine ar ?_
 refine ao ?_
 refine cV (aD.CF 6 rfl (by first|omega|(simp;done)|(simp;omega))) ?_
 have hX:iL l i x=((l.take (i+1)++(l.drop i).take (l.length - i)).take i++[x]++(l.take (i+1)++(l.drop i).take (l.length - i)).drop (i+1)):=by
   exact (zU (by omega) rfl).symm
 rw [hX] at hr;clear hX
 subst hr
 refine ah aa [0] 1 rfl rfl rfl rfl rfl rfl ?_ ?_
 all_goals first|rfl|(simp [au];done)|(simp [au];omega)


def kM {α:Type} (l:List α) (i j:Nat):List α:=l.take i++l.drop j
theorem An {α:Type} {l:List α} {i j n m:Nat} (hi:i<=j) (hj:j<=l.length) (hn:n=l.length - j) (hm:m=i+n):((l.take i++(l.drop j).take n++l.drop m).take m)=kM l i j:=by
  subst hn hm
  have h1:(l.take i).length=i:=by rw [List.length_take];omega
  rw [List.take_of_length_le (l:=l.drop j) (by rw [List.length_drop];omega),List.take_append_of_le_length (by rw [List.length_append,h1,List.length_drop];omega),List.take_of_length_le (by rw [List.length_append,h1,List.length_drop];omega)]
  rfl

theorem iU (l:List Entry) (i j:Nat) (hi:i < j) (hj:j<=l.length) (r:List Entry) (hr:kM l i j=r):cA Try.prog 122 [(.c (.s 0 0 2 l.length)),(.c (cI (↑i:Int))),(.c (cI (↑j:Int)))] [(0,(lF l))] [] (.v (.c (.s 0 0 2 r.length))) [(0,(lF r))]:=by
 refine cA.mk 33 [(0,(aC (.s 0 0 2 l.length))),(1,(aI (↑i:Int))),(2,(aI (↑j:Int)))] 1 Try.func122 rfl rfl rfl rfl rfl rfl rfl rfl rfl ?_
 intro W0 F0 T0 pg
 refine fQ 0 rfl (fun hlen0=>?_)
 refine ad aa 1 rfl ?_
 refine az aa 4 rfl ?_
 refine ay (dr rfl rfl rfl rfl rfl Try.underlying44) rfl ?_
 refine ay (vx (l:=i) (h:=j) rfl Try.underlying44 eb rfl (.inr ⟨_,rfl,rfl⟩) (.inr ⟨_,rfl,rfl⟩) (.inr ⟨_,l.length,rfl,rfl,by first|omega|(simp;done)|(simp;omega),by first|omega|(simp;done)|(simp;omega)⟩) (by first|omega|(simp;done)|(simp;omega)) (by first|omega|(simp;done)|(simp;omega))) rfl ?_
 refine ae ?_
 refine af ?_
 refine ad aa 3 rfl ?_
 refine ag rfl (fun hc1=>?_) (fun hc1=>?_)
 ·
  have hc1':=of_decide_eq_true hc1
  refine ad aa 2 rfl ?_
  refine ar ?_
  refine ao ?_
  have hX:kM l i j=l:=by
    exfalso;omega
  rw [hX] at hr;clear hX
  subst hr
  refine ah aa [0] 1 rfl rfl rfl rfl rfl rfl ?_ ?_
  all_goals first|rfl|(simp [au];done)|(simp [au];omega)
 have hc1':=of_decide_eq_false hc1
 refine aP ?_
 refine az aa 1 rfl ?_
 refine ay (dr rfl rfl rfl rfl rfl Try.underlying44) rfl ?_
 refine ab aa 1 rfl ?_
 refine ae ?_
 refine sN 0 rfl (by first|omega|(simp;done)|(simp;omega)) (fun cap1 hcap1 hmcap1=>?_)
 refine af ?_
 refine db [0,1,2,7] [0] mixed rfl rfl ?_
 refine bT (kn:=[]) aa 2 rfl trivial ?_
 refine bW (n':=1) [20,21] [0] rfl rfl (.inl ⟨(ak.plain rfl),aK.cast (fS (l:=0) (h:=i) (m:=cap1) (n':=i) (c':=cap1) (E':=true) rfl Try.underlying44 eb rfl (.inl ⟨rfl,rfl⟩) (.inr ⟨_,rfl,rfl⟩) (.inl ⟨rfl,rfl⟩) (by first|omega|(simp;done)|(simp;omega)) (by first|omega|(simp;done)|(simp;omega)) (by first|omega|(simp;done)|(simp;omega)) (by first|omega|(simp;done)|(simp;omega)) (by first|omega|(simp;done)|(simp;omega)) (by simp)) rfl⟩) rfl ?_
 refine bT (kn:=[]) aa 2 rfl trivial ?_
 refine bW (n':=1) [23,24] [0] rfl rfl (.inl ⟨(ak.plain rfl),aK.cast (aK.cast (fS (l:=j) (h:=l.length) (m:=cap1) (n':=l.length - j) (c':=cap1 - j) (E':=true) rfl Try.underlying44 eb rfl (.inr ⟨_,rfl,rfl⟩) (.inl ⟨rfl,rfl,rfl⟩) (.inl ⟨rfl,rfl⟩) (by first|omega|(simp;done)|(simp;omega)) (by first|omega|(simp;done)|(simp;omega)) (by first|omega|(simp;done)|(simp;omega)) (by first|omega|(simp;done)|(simp;omega)) (by first|omega|(simp;done)|(simp;omega)) (by simp)) (show _=(aC (.sx 0 j 2 (l.length - j) (cap1 - j) true)) by first|rfl|(simp only [Nat.zero_add,Nat.add_zero];rfl))) rfl⟩) rfl ?_
 refine bW (n':=1) [22,25] [0] rfl rfl (.inl ⟨(ak.plain rfl),aK.cast (Ds (m:=l.length - j) (N:=i+(l.length - j)) (ys:=(((l).drop j).take (l.length - j)).map eC) (rows':=((l).take i++(((l).drop j).take (l.length - j))++(l).drop (i+(l.length - j))).map eC) jP rfl rfl rfl rfl rfl rfl rfl (.x rfl (by first|omega|(simp;done)|(simp;omega)) (by first|omega|(simp;done)|(simp;omega)) (by first|(simp [List.map_take,List.map_drop];done)|(rw [List.map_take];rfl))) (by first|exact .inr ⟨_,_,_,_,rfl⟩|(left;omega)) (by first|omega|(simp;done)|(simp;omega)) (by first|omega|(simp;done)|(simp;omega)) (by first|omega|(simp;done)|(simp;omega)) (by first|omega|(simp;done)|(simp;omega)) (by simp [List.map_take,List.map_drop])) rfl⟩) rfl ?_
 refine bT (kn:=[]) aa 1 rfl trivial ?_
 refine dS [0,7] [0] rfl rfl (by kernel_rfl) ?_
 refine then_ok ?_
 refine az aa 2 rfl ?_
 refine ay (Er Try.underlying44 rfl rfl rfl rfl rfl) rfl ?_
 refine ab aa 1 rfl ?_
 refine ay (aK.cast (fS (l:=i+(l.length - j)) (h:=l.length) (m:=cap1) (n':=l.length - (i+(l.length - j))) (c':=cap1 - (i+(l.length - j))) (E':=true) rfl Try.underlying44 eb rfl (.inr ⟨_,rfl,(xD rfl (by first|omega|(simp;done)|(simp;omega)))⟩) (.inr ⟨_,rfl,rfl⟩) (.inl ⟨rfl,rfl⟩) (by first|omega|(simp;done)|(simp;omega)) (by first|omega|(simp;done)|(simp;omega)) (by first|omega|(simp;done)|(simp;omega)) (by first|omega|(simp;done)|(simp;omega)) (by first|omega|(simp;done)|(simp;omega)) (by simp)) (show _=(aC (.sx 0 (i+(l.length - j)) 2 (l.length - (i+(l.length - j))) (cap1 - (i+(l.length - j))) true)) by first|rfl|(simp only [Nat.zero_add,Nat.add_zero];rfl))) rfl ?_
 refine lj (aD.CF 31 rfl (by first|omega|(simp;done)|(simp;omega))) ?_
 refine gf [0] (ss (rows':=(((l).take i++(((l).drop j).take (l.length - j))++(l).drop (i+(l.length - j))).take (i+(l.length - j))).map eC) jP CE rfl rfl rfl rfl rfl rfl rfl rfl rfl (by simp [List.map_take])) rfl ?_
 refine ae ?_
 refine ad aa 2 rfl ?_
 refine ar ?_
 refine cV (aD.CF 6 rfl (by first|omega|(simp;done)|(simp;omega))) ?_
 have hX:kM l i j=(((l).take i++(((l).drop j).take (l.length - j))++(l).drop (i+(l.length - j))).take (i+(l.length - j))):=by
   exact (An (by omega) hj rfl rfl).symm
 rw [hX] at hr;clear hX
 subst hr
 refine ah aa [0] 1 rfl rfl rfl rfl rfl rfl ?_ ?_
 all_goals first|rfl|(simp [au];done)|(simp [au];omega)
section
theorem ka {a:Int} (h:0<=a/\a<=18446744073709551615):Value.int .u64 (IntKind.u64.wrap a)=.int .u64 a:=by
 have:IntKind.u64.wrap a=a:=by simp [IntKind.wrap,IntKind.bits,IntKind.signed];omega
 rw [this]
section
variable {P:Program} {st:aF} {o:Oper}
theorem mI {xt yt:TypeId} {x y:Operand} {a r:Int} (ho:o.op=.binOp .shr xt x y yt) (hx:ev st x (.v (.c (.d (.v (.int .u64 a)))))) (hy:ev st y (.v (.c (.d (.v (.int .u64 1)))))) (hr:a / 2=r):aK P o st (.v (.c (.d (.v (.int .u64 r))))) [] []:=
 aK.val fun σ T ac w C=>by
  have h1:=bl.inv (bO C hx)
  have h2:=bl.inv (bO C hy)
  subst hr
  refine ⟨.int .u64 (a / 2),?_,bl.v _ rfl⟩
  unfold execOp
  have h3:=shift_shr .u64 .u64 a 1 (by decide) (by decide)
  simp [ho,h1,h2,binOp,eqGuard,h3]
end
end


def ej (a b:Int):Int:=if a < b then -1 else if a > b then 1 else 0
def Up (l:List Entry):Prop:=l.Pairwise fun x y=>x.aQ < y.aQ
def ea:List Entry->Int->Nat
  |[],_=>0
  |x::l,t=>if x.aQ < t then ea l t+1 else 0
def fA (l:List Entry) (t:Int):Bool:=match l[ea l t]? with
  |some x=>decide (x.aQ=t)
  |none=>false
def tO (l:List Entry) (t:Int):Int×Bool:=(ea l t,fA l t)
theorem mD (t:Int):∀ l:List Entry,ea l t<=l.length
  |[]=>Nat.le_refl _
  |x::l=>by
    have:=mD t l
    unfold ea
    split
    ·rw [List.length_cons];omega
    ·exact Nat.zero_le _
theorem xi {t:Int}:∀ {l:List Entry} {q:Nat} {x:Entry},l[q]?=some x->q < ea l t->x.aQ < t
  |[],q,x,h,_=>by simp at h
  |y::l,q,x,h,hq=>by
    unfold ea at hq
    split at hq
    ·cases q with
      |zero=>simp at h;subst h;assumption
      |succ q=>exact xi (l:=l) (by simpa using h) (by omega)
    ·omega
theorem xj {t : Int} : ∀ {l : List Entry} {q : Nat} {x : Entry}, Up l → l[q]? = some x → ea l t ≤ q → t ≤ x.aQ
  | [], q, x, _, h, _ => by simp at h
  | y :: l, q, x, hu, h, hq => by
    obtain ⟨h1, h2⟩ := List.pairwise_cons.1 hu
    unfold ea at hq
    split at hq
    · cases q with
      | zero => omega
      | succ q => exact xj (l := l) h2 (by simpa using h) (by omega)
    · rename_i hy
      cases q with
      | zero => simp at h; subst h; omega
      | succ q =>
        have : x ∈ l := List.mem_of_getElem? (by simpa using h)
        have := h1 x this
        omega
theorem qA {a b:Int}:ej a b < 0↔a < b:=by unfold ej;split;simp_all;split<;>simp_all<;>omega
theorem oM {a b:Int}:ej a b=0↔a=b:=by unfold ej;split;(constructor<;>intro h<;>omega);split;(constructor<;>intro h<;>omega);(constructor<;>intro h<;>omega)
theorem xK {l:List Entry} {t:Int} {q:Nat} {x:Entry} (hu:Up l) (hx:l[q]?=some x):(ej x.aQ t < 0/\q < ea l t)\/(¬ej x.aQ t < 0/\ea l t<=q):=by
  rw [qA]
  by_cases h:q < ea l t
  ·exact .inl ⟨xi hx h,h⟩
  ·exact .inr ⟨by have:=xj hu hx (by omega:ea l t<=q);omega,by omega⟩
theorem rN {l:List Entry} {t:Int} {q:Nat} {x:Entry} (hq:q=ea l t) (hx:l[q]?=some x):tO l t=((q:Int),decide (ej x.aQ t=0)):=by
  subst hq
  unfold tO fA
  rw [hx]
  simp only [oM]
theorem xL {l:List Entry} {t:Int} {q:Nat} (hq:q=ea l t) (hl:l.length<=q):tO l t=((q:Int),false):=by
  subst hq
  unfold tO fA
  rw [List.getElem?_eq_none hl]

theorem xI (n:Int):Fn Try.prog 71 [(.c (cI n))] (aB false) []:=by
 refine Fn.mk' 6 [(0,(aI n))] Try.func71 rfl rfl rfl rfl ?_
 intro W0 T0
 refine ad aa 1 rfl ?_
 refine az aa 2 rfl ?_
 refine ay (aM rfl rfl rfl (congrArg (fun b=>some (Value.bool b)) (decide_eq_false (fun h=>h rfl)))) rfl ?_
 refine ab aa 1 rfl ?_
 refine ae ?_
 refine ar ?_
 refine ah aa [] 0 rfl rfl rfl rfl rfl rfl ?_ ?_
 all_goals first|rfl|(simp [au];done)|(simp [au];omega)
theorem oR (a b:Int) (r:Int) (hr:ej a b=r):Fn Try.prog 60 [(.c (cI a)),(.c (cI b))] (.v (.c (cI r))) []:=by
 refine Fn.mk' 20 [(0,(aI a)),(1,(aI b))] Try.func60 rfl rfl rfl rfl ?_
 intro W0 T0
 refine ad aa 1 rfl ?_
 refine az aa 1 rfl ?_
 refine aL 0 [] (bJ 0 (xI a) EK rfl rfl ⟨⟨_,rfl,.c (.d _)⟩,trivial⟩ trivial trivial rfl rfl rfl rfl) rfl ?_
 refine ab aa 1 rfl ?_
 refine ae ?_
 refine az aa 1 rfl ?_
 refine aL 0 [] (bJ 0 (xI b) EK rfl rfl ⟨⟨_,rfl,.c (.d _)⟩,trivial⟩ trivial trivial rfl rfl rfl rfl) rfl ?_
 refine ab aa 1 rfl ?_
 refine ae ?_
 refine af ?_
 refine ad aa 1 rfl ?_
 refine ag rfl (fun hno=>by cases hno) (fun _=>?_)
 refine aP ?_
 refine af ?_
 refine ad aa 1 rfl ?_
 refine ag rfl (fun hno=>by cases hno) (fun _=>?_)
 refine aP ?_
 refine af ?_
 refine ad aa 3 rfl ?_
 refine ag rfl (fun hc3=>?_) (fun hc3=>?_)
 ·
  have hc3':=of_decide_eq_true hc3
  refine ad aa 1 rfl ?_
  refine ar ?_
  refine ao ?_
  have hX:ej a b=(-1):=by
    (unfold ej;try dsimp only);(repeat' split)<;>first|rfl|omega|(exfalso;omega)|(subst_vars;rfl)|(simp_all;done)|(simp_all;omega)
  rw [hX] at hr;clear hX
  subst hr
  refine ah aa [] 0 rfl rfl rfl rfl rfl rfl ?_ ?_
  all_goals first|rfl|(simp [au];done)|(simp [au];omega)
 have hc3':=of_decide_eq_false hc3
 refine aP ?_
 refine af ?_
 refine ad aa 3 rfl ?_
 refine ag rfl (fun hc4=>?_) (fun hc4=>?_)
 ·
  have hc4':=of_decide_eq_true hc4
  refine ad aa 1 rfl ?_
  refine ar ?_
  refine ao ?_
  have hX:ej a b=1:=by
    (unfold ej;try dsimp only);(repeat' split)<;>first|rfl|omega|(exfalso;omega)|(subst_vars;rfl)|(simp_all;done)|(simp_all;omega)
  rw [hX] at hr;clear hX
  subst hr
  refine ah aa [] 0 rfl rfl rfl rfl rfl rfl ?_ ?_
  all_goals first|rfl|(simp [au];done)|(simp [au];omega)
 have hc4':=of_decide_eq_false hc4
 refine aP ?_
 refine ad aa 1 rfl ?_
 refine ar ?_
 have hX:ej a b=0:=by
   (unfold ej;try dsimp only);(repeat' split)<;>first|rfl|omega|(exfalso;omega)|(subst_vars;rfl)|(simp_all;done)|(simp_all;omega)
 rw [hX] at hr;clear hX
 subst hr
 refine ah aa [] 0 rfl rfl rfl rfl rfl rfl ?_ ?_
 all_goals first|rfl|(simp [au];done)|(simp [au];omega)
theorem EY (x:Entry) (t:Int):Fn Try.prog 120 [(.g [(cI x.aQ),(cI x.sum)]),(.c (cI t))] (aI (ej x.aQ t)) []:=by
 refine Fn.mk' 9 [(0,(aG [(cI x.aQ),(cI x.sum)])),(1,(aI t))] Try.func120 rfl rfl rfl rfl ?_
 intro W0 T0
 refine ad aa 2 rfl ?_
 refine az aa 3 rfl ?_
 have hr0:ej x.aQ t=ej x.aQ t:=rfl
 refine aL 1 [0] (bJ 1 (oR x.aQ t (ej x.aQ t) hr0) BU rfl rfl ⟨⟨_,rfl,.c (.d _)⟩,⟨_,rfl,.c (.d _)⟩,trivial⟩ trivial trivial rfl rfl rfl rfl) rfl ?_
 refine ab aa 1 rfl ?_
 refine ae ?_
 refine ar ?_
 refine ah aa [] 0 rfl rfl rfl rfl rfl rfl ?_ ?_
 all_goals first|rfl|(simp [au];done)|(simp [au];omega)
theorem sG (l:List Entry) (t:Int) (fn:FuncId) (bc:List (List D)) (hp:∀ x:Entry,Fn Try.prog fn ([.g [cI x.aQ,cI x.sum],.c (cI t)]++bc.map fun r=>GV.c (.q r 0)) (aI (ej x.aQ t)) []) (hen:bf Try.prog fn) (hu:Up l) (hl:l.length * 16<=140737488355328) (i:Int) (f:Bool) (hr:tO l t=(i,f)):Fn Try.prog 119 [(.c (dM l)),(.c (cI t)),(.c (.d (.f fn bc)))] (.t [(.c (cI i)),(.c (cB f))]) []:=by
 refine Fn.mk' 49 [(0,(aC (dM l))),(1,(aI t)),(2,(aC (.d (.f fn bc))))] Try.func119 rfl rfl rfl rfl ?_
 intro W0 T0
 refine dG 0 rfl (fun hlen0=>?_)
 refine ad aa 2 rfl ?_
 refine az aa 1 rfl ?_
 refine ay (cT rfl rfl rfl rfl rfl Try.underlying44) rfl ?_
 refine ab aa 1 rfl ?_
 refine ae ?_
 refine ad aa 3 rfl ?_
 refine af ?_
 refine aV ?_
 refine cx (β:=Nat×Nat) (fun (p:Nat×Nat)=>match p with|(i,j)=>⟨[(0,(aC (dM l))),(1,(aI t)),(2,(aC (.d (.f fn bc)))),(6,(aI 0)),(7,(aB false)),(8,(aI (↑l.length:Int))),(9,(aI (↑i:Int))),(10,(aI (↑j:Int)))],[],0⟩) (fun (p:Nat×Nat)=>match p with|(i,j)=>i<=ea l t/\ea l t<=j/\j<=l.length) (fun (p:Nat×Nat)=>match p with|(i,j)=>j - i) (0,l.length) ?_ ?_ ?_
 ·exact ⟨by omega,mD t l,by omega⟩
 ·exact aD.bY id (by refine ⟨?_,?_,?_,?_,?_,?_,?_,?_,trivial⟩<;>first|rfl|(simp only [bn];done)|(congr 3;omega)|(congr 4;omega)|(simp only [bo];rfl)) (trivial) rfl
 rintro ⟨i,j⟩ ⟨hi0_0,hi0_1,hi0_2⟩
 refine af ?_
 refine ad aa 3 rfl ?_
 refine ag rfl (fun hc1=>?_) (fun hc1=>?_)
 ·
  have hc1':=of_decide_eq_true hc1
  refine aP ?_
  refine aV ?_
  refine az aa 2 rfl ?_
  refine ay (aM rfl rfl rfl (aH (by first|omega|(simp;done)|(simp;omega)))) rfl ?_
  refine ay (fk rfl rfl (by rw [Try.underlying3];rfl) Try.underlying128 (ka (by first|omega|(simp;done)|(simp;omega)))) rfl ?_
  refine ay (mI (r:=(↑(((i)+(j)) / 2):Int)) rfl rfl rfl (by omega)) rfl ?_
  refine ay (fk rfl rfl (by rw [Try.underlying128];rfl) Try.underlying3 (kb (by first|omega|(simp;done)|(simp;omega)))) rfl ?_
  refine ab aa 1 rfl ?_
  refine ae ?_
  refine az aa 3 rfl ?_
  obtain ⟨x1,hx1⟩:=ch (xs:=l) (i:=((i)+(j)) / 2) (by first|omega|(simp;done)|(simp;omega))
  have hx1b:=xK (t:=t) hu hx1
  refine ay (cQ (i:=((i)+(j)) / 2) rfl rfl rfl Try.underlying44 eb (by first|omega|(simp;done)|(simp;omega)) (bw hx1)) rfl ?_
  refine ab aa 2 rfl ?_
  refine ay (hG (ins:=[(.g [(cI x1.aQ),(cI x1.sum)]),(.c (cI t))]) 0 (hp x1) hen rfl rfl rfl ⟨⟨_,rfl,.g ⟨.d _,.d _,trivial⟩⟩,⟨_,rfl,.c (.d _)⟩,trivial⟩ trivial trivial rfl rfl rfl rfl) rfl ?_
  refine ab aa 1 rfl ?_
  refine ae ?_
  refine ag rfl (fun hc2=>?_) (fun hc2=>?_)
  ·
   have hc2':=of_decide_eq_true hc2
   refine aw ?_
   refine ab aa 1 rfl ?_
   refine ay (aM rfl rfl rfl (aH (by first|omega|(simp;done)|(simp;omega)))) rfl ?_
   refine ab aa 1 rfl ?_
   refine bZ ?_
   refine bp ?_
   refine then_ok ?_
   refine ⟨(Int.toNat ((↑(((i)+(j)) / 2):Int)+1),j),⟨by omega,by omega,by omega⟩,by first|omega|(simp;done)|(simp;omega),aD.bY id (by refine ⟨?_,?_,?_,?_,?_,?_,?_,?_,trivial⟩<;>first|rfl|(simp only [bn];done)|(congr 3;omega)|(congr 4;omega)|(simp only [bo];rfl)) (trivial) rfl⟩
  have hc2':=of_decide_eq_false hc2
  refine aw ?_
  refine ab aa 2 rfl ?_
  refine bZ ?_
  refine bp ?_
  refine then_ok ?_
  refine ⟨(i,((i)+(j)) / 2),⟨by omega,by omega,by omega⟩,by first|omega|(simp;done)|(simp;omega),aD.bY id (by refine ⟨?_,?_,?_,?_,?_,?_,?_,?_,trivial⟩<;>first|rfl|(simp only [bn];done)|(congr 3;omega)|(congr 4;omega)|(simp only [bo];rfl)) (trivial) rfl⟩
 have hc1':=of_decide_eq_false hc1
 refine cp ?_
 refine aR ?_
 refine aR ?_
 refine bQ ?_
 refine then_ok ?_
 refine az aa 5 rfl ?_
 refine bA (t:=39) rfl (fun hb3=>?_) (fun hb3=>?_)
 ·
  have hb3':=of_decide_eq_true hb3
  refine ab aa 3 rfl ?_
  obtain ⟨x1,hx1⟩:=ch (xs:=l) (i:=i) (by first|omega|(simp;done)|(simp;omega))
  have hx1b:=xK (t:=t) hu hx1
  refine dF (ak.yes rfl rfl rfl) (cQ (i:=i) rfl rfl rfl Try.underlying44 eb (by first|omega|(simp;done)|(simp;omega)) (bw hx1)) rfl rfl ?_
  refine ab aa 2 rfl ?_
  refine dF (ak.yes rfl rfl rfl) (hG (ins:=[(.g [(cI x1.aQ),(cI x1.sum)]),(.c (cI t))]) 0 (hp x1) hen rfl rfl rfl ⟨⟨_,rfl,.g ⟨.d _,.d _,trivial⟩⟩,⟨_,rfl,.c (.d _)⟩,trivial⟩ trivial trivial rfl rfl rfl rfl) rfl rfl ?_
  refine ab aa 4 rfl ?_
  refine ae ?_
  refine ar ?_
  have hX:tO l t=((↑i:Int),decide ((ej x1.aQ t)=0)):=by
    first|exact rN (by omega) hx1|exact xL (by omega) (by omega)|(rw [rN (by omega) hx1];simp_all;done)
  rw [hX] at hr;clear hX
  simp only [Prod.mk.injEq] at hr;obtain ⟨rfl,rfl⟩:=hr
  refine ah aa [] 0 rfl rfl rfl rfl rfl rfl ?_ ?_
  all_goals first|rfl|(simp [au];done)|(simp [au];omega)
 have hb3':=of_decide_eq_false hb3
 refine ab aa 11 rfl ?_
 refine ae ?_
 refine ar ?_
 have hX:tO l t=((↑i:Int),false):=by
   first|exact rN (by omega) hx1|exact xL (by omega) (by omega)|(rw [rN (by omega) hx1];simp_all;done)
 rw [hX] at hr;clear hX
 simp only [Prod.mk.injEq] at hr;obtain ⟨rfl,rfl⟩:=hr
 refine ah aa [] 0 rfl rfl rfl rfl rfl rfl ?_ ?_
 all_goals first|rfl|(simp [au];done)|(simp [au];omega)


theorem yP (l:List Entry) (t:Int) (fn:FuncId) (bc:List (List D)) (hp:∀ x:Entry,Fn Try.prog fn ([.g [cI x.aQ,cI x.sum],.c (cI t)]++bc.map fun r=>GV.c (.q r 0)) (aI (ej x.aQ t)) []) (hen:bf Try.prog fn) (hu:Up l) (hl:l.length * 16<=140737488355328) (k:Nat) (f:Bool) (hr:(ea l t,fA l t)=(k,f)):Fn Try.prog 119 [.c (cR 2 (l.map eC)),.c (cI t),.c (.d (.f fn bc))] (.t [.c (cI (k:Int)),.c (cB f)]) []:=by
  obtain ⟨h1,h2⟩:=Prod.mk.inj hr
  exact sG l t fn bc hp hen hu hl (k:Int) f (by unfold tO;rw [h1,h2])
def cc:List Entry->Int->Int
  |[],_=>0
  |x::l,a=>if x.aQ=a then x.sum else cc l a
def gK (l:List Entry) (a s:Int):List Entry:=l.take (ea l a)++(if s=0 then [] else [⟨a,s⟩])++l.drop (if fA l a=true then ea l a+1 else ea l a)
def ic (s:Int):Bool:=decide (s>=-1000000000000) && decide (s<=1000000000000)
def jA (l:List Entry) (e:Entry):List Entry×Bool:=(gK l e.aQ (cc l e.aQ+e.sum),ic (cc l e.aQ+e.sum))
theorem oF {x:Entry} {l:List Entry} {a:Int} (h:x.aQ < a):fA (x::l) a=fA l a:=by
  have h1:ea (x::l) a=ea l a+1:=by simp [ea,h]
  unfold fA;rw [h1,List.getElem?_cons_succ]
theorem lT {x:Entry} {l:List Entry} {a:Int} (h:¬x.aQ < a):fA (x::l) a=decide (x.aQ=a):=by
  unfold fA ea;rw [if_neg h];rfl
theorem jg {a:Int}:∀ {l:List Entry},(∀ x∈l,a < x.aQ)->cc l a=0
  |[],_=>rfl
  |x::l,h=>by
    unfold cc
    rw [if_neg (by have:=h x List.mem_cons_self;omega)]
    exact jg fun y hy=>h y (List.mem_cons_of_mem _ hy)
theorem vu {a : Int} : ∀ {l : List Entry} {x : Entry}, Up l → fA l a = true → l[ea l a]? = some x → x.aQ = a ∧ cc l a = x.sum
  | [], x, _, _, h => by simp at h
  | y :: l, x, hu, hh, h => by
    obtain ⟨h1, h2⟩ := List.pairwise_cons.1 hu
    by_cases hy : y.aQ < a
    · rw [oF hy] at hh
      unfold ea at h; rw [if_pos hy] at h
      obtain ⟨h3, h4⟩ := vu h2 hh (by simpa using h)
      refine ⟨h3, ?_⟩
      unfold cc; rw [if_neg (by omega)]; exact h4
    · rw [lT hy] at hh
      unfold ea at h; rw [if_neg hy] at h
      simp at h hh
      subst h
      exact ⟨hh, by unfold cc; rw [if_pos hh]⟩
theorem vt {a : Int} : ∀ {l : List Entry}, Up l → fA l a = false → cc l a = 0
  | [], _, _ => rfl
  | y :: l, hu, hh => by
    obtain ⟨h1, h2⟩ := List.pairwise_cons.1 hu
    by_cases hy : y.aQ < a
    · rw [oF hy] at hh
      unfold cc; rw [if_neg (by omega)]; exact vt h2 hh
    · rw [lT hy] at hh
      simp at hh
      unfold cc; rw [if_neg hh]
      exact jg fun x hx => by have := h1 x hx; omega
theorem Dn {a : Int} {l : List Entry} (h : fA l a = true) : ea l a < l.length := by
  by_cases hl : ea l a < l.length
  · exact hl
  · unfold fA at h
    rw [List.getElem?_eq_none (by omega)] at h
    cases h
theorem uy {a:Int} (l:List Entry):(l.take (ea l a)).length=ea l a:=by rw [List.length_take];have:=mD a l;omega
theorem zT {l:List Entry} {k:Nat} {x y:Entry} (hk:k<=l.length) (h:(iL l k x)[k]?=some y):y=x:=by
  have h1:(l.take k).length=k:=by rw [List.length_take];omega
  unfold iL at h
  rw [List.append_assoc,List.getElem?_append_right (by omega),h1,Nat.sub_self] at h
  simp at h
  exact h.symm
theorem Dl {l:List Entry} {k:Nat} {x y:Entry} (hk:k<=l.length):(iL l k x).set k y=l.take k++[y]++l.drop k:=by
  have h1:(l.take k).length=k:=by rw [List.length_take];omega
  unfold iL
  rw [List.append_assoc,List.set_append_right _ _ (by omega),h1,Nat.sub_self]
  simp
theorem Dm {l:List Entry} {k:Nat} {y:Entry} (hk:k < l.length):l.set k y=l.take k++[y]++l.drop (k+1):=by
  rw [List.set_eq_take_append_cons_drop,if_pos hk];simp
theorem Am {A B:List Entry} {y:Entry} {k:Nat} (h:A.length=k):kM (A++[y]++B) k (k+1)=A++B:=by
  subst h
  unfold kM
  simp
theorem nh {l:List Entry} {e x y:Entry} {k:Nat} (hu:Up l) (hk:ea l e.aQ=k) (hh:fA l e.aQ=true) (hx:l[k]?=some x) (hy:y=⟨x.aQ,x.sum+e.sum⟩):
    jA l e=(if x.sum+e.sum=0 then kM (l.set k y) k (k+1) else l.set k y,ic (x.sum+e.sum)):=by
  subst hk hy
  obtain ⟨h1,h2⟩:=vu hu hh hx
  have hlt:=(List.getElem?_eq_some_iff.1 hx).1
  unfold jA gK
  rw [h2,if_pos hh,Dm hlt,h1]
  split
  ·rw [Am (uy l)];simp
  ·rfl
theorem ng {l:List Entry} {e x y:Entry} {k:Nat} {r:List Entry} (hu:Up l) (hk:ea l e.aQ=k) (hh:fA l e.aQ=false) (hr:iL l k ⟨e.aQ,0⟩=r) (hx:r[k]?=some x) (hy:y=⟨x.aQ,x.sum+e.sum⟩):
    jA l e=(if x.sum+e.sum=0 then kM (r.set k y) k (k+1) else r.set k y,ic (x.sum+e.sum)):=by
  subst hk hr
  have h0:=mD e.aQ l
  have h1:=zT h0 hx
  subst h1 hy
  have h2:=vt hu hh
  unfold jA gK
  rw [h2,Dl h0,if_neg (show ¬fA l e.aQ=true by rw [hh];exact Bool.false_ne_true)]
  split
  ·rw [Am (uy l)];simp
  ·rfl
theorem zq {l:List Entry} {k:Nat} {y z:Entry} (h:(l.set k y)[k]?=some z):z=y:=by
  have hlt:=(List.getElem?_eq_some_iff.1 h).1
  rw [List.length_set] at hlt
  rw [List.getElem?_set_self hlt] at h
  exact (Option.some.inj h).symm
theorem yv {l:List Entry} {a:Int} (h:∀ x∈l,-1000000000000<=x.sum/\x.sum<=1000000000000):-1000000000000<=cc l a/\cc l a<=1000000000000:=by
  induction l with
  |nil=>unfold cc;omega
  |cons x l ih=>
    unfold cc
    split
    ·exact h x List.mem_cons_self
    ·exact ih fun y hy=>h y (List.mem_cons_of_mem _ hy)

theorem Gb (l:List Entry) (e:Entry) (hu:Up l) (hl:(l.length+1) * 16<=140737488355328) (hb:∀ x∈l,-1000000000000<=x.sum/\x.sum<=1000000000000) (he:-1000000000000<=e.sum/\e.sum<=1000000000000) (r:List Entry) (g:Bool) (hr:jA l e=(r,g)):cA Try.prog 116 [(.c (.s 0 0 2 l.length)),(.g [(cI e.aQ),(cI e.sum)])] [(0,(lF l))] [] (.t [(.c (.s 0 0 2 r.length)),(.c (cB g))]) [(0,(lF r))]:=by
 refine cA.mk 62 [(0,(aC (.s 0 0 2 l.length))),(1,(aG [(cI e.aQ),(cI e.sum)]))] 1 Try.func116 rfl rfl rfl rfl rfl rfl rfl rfl rfl ?_
 intro W0 F0 T0 pg
 refine fQ 0 rfl (fun hlen0=>?_)
 refine ad aa 3 rfl ?_
 refine az aa 3 rfl ?_
 obtain ⟨k0,f0,hr0⟩:∃ (k0:Nat) (f0:Bool),(ea l e.aQ,fA l e.aQ)=(k0,f0):=⟨_,_,rfl⟩
 obtain ⟨hk0,hf0⟩:=Prod.mk.inj hr0
 have hkl:=mD e.aQ l
 rw [hk0] at hkl
 refine aL 2 [1,0] (fP 2 [0] (yP l e.aQ 120 ([]) (fun x=>EY x e.aQ) FL (by first|assumption) (by omega) k0 f0 hr0) FM rfl rfl ⟨⟨_,rfl,.c (.s rfl (by decide) (by first|omega|(simp;done)|(simp;omega)))⟩,⟨_,rfl,.c (.d _)⟩,⟨_,rfl,.c (.fn trivial)⟩,trivial⟩ ⟨rfl,rfl,trivial⟩ trivial rfl rfl rfl rfl) rfl ?_
 refine ab aa 5 rfl ?_
 refine ae ?_
 refine af ?_
 refine ad aa 2 rfl ?_
 refine ag rfl (fun hc1=>?_) (fun hc1=>?_)
 ·
  have hc1':=hc1;try simp only [bm,bM] at hc1'
  refine aw ?_
  refine ab aa 5 rfl ?_
  refine aL 3 [2,1,0] (dz (ys:=[(0,(.g [(cI e.aQ),(cI 0)]))]) (rows:=([(⟨e.aQ,0⟩:Entry)]).map eC) 2 jP rfl (by decide) ⟨⟨rfl,rfl⟩,trivial⟩ rfl rfl rfl rfl) rfl ?_
  obtain ⟨r1,hr1⟩:∃ (r1:List Entry),iL l k0 (⟨e.aQ,0⟩:Entry)=r1:=⟨_,rfl⟩
  have hl1:r1.length=l.length+1:=by rw [<-hr1];exact BA hkl
  refine aL 4 [3,1] (cv (aU [0,2]) (aU [3,2]) (sH l k0 (⟨e.aQ,0⟩:Entry) (by first|omega|(simp;done)|(simp;omega)) (by first|omega|(simp;done)|(simp;omega)) r1 hr1) FK rfl rfl ⟨⟨_,rfl,.inl ⟨rfl,rfl⟩⟩,⟨_,rfl,.inr (.c (.d _))⟩,⟨_,rfl,.inl ⟨rfl,rfl⟩⟩,trivial⟩ ⟨rfl,rfl,trivial⟩ rfl rfl rfl rfl rfl rfl trivial ⟨(fun _ _ _ _=>trivial),trivial⟩ rfl rfl rfl rfl) rfl ?_
  refine ab aa 1 rfl ?_
  refine ae ?_
  refine af ?_
  obtain ⟨x1,hx1⟩:=ch (xs:=r1) (i:=k0) (by first|omega|(simp;done)|(simp;omega))
  have hx1q:=zT hkl (show (iL l k0 ⟨e.aQ,0⟩)[k0]?=some x1 by rw [hr1];exact hx1)
  have hx1b:x1.sum=0:=by rw [hx1q]
  refine bb [0,3,6] [3,1] mixed rfl rfl ?_
  refine aA (kn:=[]) aa 2 rfl trivial ?_
  refine aT (n':=4) [25,26] [3] rfl rfl (.inl ⟨(ak.plain rfl),aK.cast (bq (i:=k0) rfl rfl rfl Try.underlying44 eb (by first|omega|(simp;done)|(simp;omega)) (by first|omega|(simp;done)|(simp;omega))) rfl⟩) rfl ?_
  refine aA (kn:=[]) aa 1 rfl trivial ?_
  refine aT (n':=4) [28] [3] rfl rfl (.inl ⟨(ak.plain rfl),aK.cast (eG rfl rfl rfl Try.underlying3 rfl (bw hx1) rfl) rfl⟩) rfl ?_
  refine aA (kn:=[]) aa 2 rfl trivial ?_
  refine aT (n':=4) [29,31] [] rfl rfl (.inl ⟨(ak.plain rfl),aK.cast (aM rfl rfl rfl (aH (by first|omega|(simp;done)|(simp;omega)))) rfl⟩) rfl ?_
  refine aT (n':=4) [25,26] [3] rfl rfl (.inl ⟨(ak.plain rfl),aK.cast (bq (i:=k0) rfl rfl rfl Try.underlying44 eb (by first|omega|(simp;done)|(simp;omega)) (by first|omega|(simp;done)|(simp;omega))) rfl⟩) rfl ?_
  refine aA (kn:=[]) aa 1 rfl trivial ?_
  refine bB [3,1] rfl rfl rfl rfl (by kernel_rfl) ?_
  refine gf [3,1] (dP (ds:=[(dI (x1.sum+e.sum))]) rfl rfl rfl rfl rfl fK rfl (Nat.le_of_ble_eq_true rfl) (bw hx1) rfl (eL (x':=(⟨x1.aQ,x1.sum+e.sum⟩:Entry)) rfl)) rfl ?_
  refine ae ?_
  refine az aa 2 rfl ?_
  refine ay (bq (i:=k0) rfl rfl rfl Try.underlying44 eb (by first|omega|(simp;done)|(simp;omega)) (by first|omega|(simp;done)|(simp;omega))) rfl ?_
  refine ab aa 1 rfl ?_
  obtain ⟨x2,hx2⟩:=ch (xs:=((r1).set k0 (⟨x1.aQ,x1.sum+e.sum⟩:Entry))) (i:=k0) (by first|omega|(simp;done)|(simp;omega))
  have hx2e:=zq hx2
  have hx2s:x2.sum=x1.sum+e.sum:=by rw [hx2e]
  refine ay (eG rfl rfl rfl Try.underlying3 rfl (bw hx2) rfl) rfl ?_
  refine ab aa 2 rfl ?_
  refine bA (t:=41) rfl (fun hb2=>?_) (fun hb2=>?_)
  ·
   have hb2':=of_decide_eq_true hb2
   refine ab aa 2 rfl ?_
   refine dF (ak.yes rfl rfl rfl) (bq (i:=k0) rfl rfl rfl Try.underlying44 eb (by first|omega|(simp;done)|(simp;omega)) (by first|omega|(simp;done)|(simp;omega))) rfl rfl ?_
   refine ab aa 1 rfl ?_
   refine dF (ak.yes rfl rfl rfl) (eG rfl rfl rfl Try.underlying3 rfl (bw hx2) rfl) rfl rfl ?_
   refine ab aa 3 rfl ?_
   refine ae ?_
   refine af ?_
   refine az aa 2 rfl ?_
   refine ay (bq (i:=k0) rfl rfl rfl Try.underlying44 eb (by first|omega|(simp;done)|(simp;omega)) (by first|omega|(simp;done)|(simp;omega))) rfl ?_
   refine ab aa 1 rfl ?_
   refine ay (eG rfl rfl rfl Try.underlying3 rfl (bw hx2) rfl) rfl ?_
   refine ab aa 1 rfl ?_
   refine ae ?_
   refine ag rfl (fun hc3=>?_) (fun hc3=>?_)
   ·
    have hc3':=of_decide_eq_true hc3
    refine gy (st':=⟨[(0,(aC (.s 3 0 2 (((r1).set k0 (⟨x1.aQ,x1.sum+e.sum⟩:Entry)).length)))),(3,(aC (.p 1 0 0 0))),(6,(aI (↑k0:Int))),(32,(aI (x1.sum+e.sum))),(34,(aC (.p 3 k0 2 1))),(35,(aC (.s 3 0 2 r1.length))),(36,(aI (↑k0:Int))),(37,(aC (.p 3 k0 2 0))),(38,(aC (.p 3 k0 2 1))),(39,(aI x2.sum)),(40,(aB (decide (x2.sum>=(-1000000000000))))),(41,(aB true)),(42,(aC (.s 3 0 2 r1.length))),(43,(aI (↑k0:Int))),(44,(aC (.p 3 k0 2 0))),(45,(aC (.p 3 k0 2 1))),(46,(aI x2.sum)),(47,(aB (decide (x2.sum<=1000000000000)))),(48,(aB (decide (x2.sum<=1000000000000)))),(8,(aB (decide (x2.sum<=1000000000000)))),(49,(aC (.s 3 0 2 r1.length))),(50,(aI (↑k0:Int))),(51,(aC (.p 3 k0 2 0))),(52,(aC (.p 3 k0 2 1))),(53,(aI x2.sum)),(54,(aB (decide (x2.sum=0))))],[(3,(lF ((r1).set k0 (⟨x1.aQ,x1.sum+e.sum⟩:Entry)))),(1,(.box 115 [(cI e.aQ),(cI e.sum)]))],4⟩) (aD.bY id (by refine ⟨?_,?_,?_,?_,?_,?_,?_,?_,?_,?_,?_,?_,?_,?_,?_,?_,?_,?_,?_,?_,?_,?_,?_,?_,?_,?_,trivial⟩<;>first|rfl|(simp only [bn];done)|(congr 3;omega)|(congr 4;omega)|(simp only [bo];rfl)) (by refine ⟨?_,?_,trivial⟩<;>first|rfl|(simp only [bn];done)|(congr 3;omega)|(congr 4;omega)|(simp only [bo];rfl)) rfl) ?_
    refine aw ?_
    refine ab aa 3 rfl ?_
    refine ay (aM rfl rfl rfl (aH (by first|omega|(simp;done)|(simp;omega)))) rfl ?_
    obtain ⟨r2,hr2⟩:∃ (r2:List Entry),kM ((r1).set k0 (⟨x1.aQ,x1.sum+e.sum⟩:Entry)) k0 ((k0)+1)=r2:=⟨_,rfl⟩
    refine aL 5 [4,1] (cv (aU [3]) (aU [4]) (iU ((r1).set k0 (⟨x1.aQ,x1.sum+e.sum⟩:Entry)) k0 ((k0)+1) (by first|omega|(simp;done)|(simp;omega)) (by first|omega|(simp;done)|(simp;omega)) r2 hr2) um rfl rfl ⟨⟨_,rfl,.inl ⟨rfl,rfl⟩⟩,⟨_,rfl,.inr (.c (.d _))⟩,⟨_,rfl,.inr (.c (.d _))⟩,trivial⟩ ⟨rfl,trivial⟩ rfl rfl rfl rfl rfl rfl trivial ⟨(fun _ _ _ _=>trivial),trivial⟩ rfl rfl rfl rfl) rfl ?_
    refine ab aa 1 rfl ?_
    refine ae ?_
    refine ad aa 4 rfl ?_
    refine ar ?_
    have hX:jA l e=(r2,decide (x2.sum<=1000000000000)):=by
      rw [ng hu hk0 (show fA l e.aQ=false by simp_all) hr1 hx1 rfl];unfold ic;rw [if_pos (by omega),hr2];refine Prod.ext rfl ?_;first|(simp;omega)|(simp_all;done)|(simp_all;omega)
    rw [hX] at hr;clear hX
    simp only [Prod.mk.injEq] at hr;obtain ⟨rfl,rfl⟩:=hr
    refine ah aa [4] 1 rfl rfl rfl rfl rfl rfl ?_ ?_
    all_goals first|rfl|(simp [au];done)|(simp [au];omega)
   have hc3':=of_decide_eq_false hc3
   refine aP ?_
   refine ad aa 4 rfl ?_
   refine ar ?_
   have hX:jA l e=((r1).set k0 (⟨x1.aQ,x1.sum+e.sum⟩:Entry),decide (x2.sum<=1000000000000)):=by
     rw [ng hu hk0 (show fA l e.aQ=false by simp_all) hr1 hx1 rfl];unfold ic;rw [if_neg (by omega)];refine Prod.ext rfl ?_;first|(simp;omega)|(simp_all;done)|(simp_all;omega)
   rw [hX] at hr;clear hX
   simp only [Prod.mk.injEq] at hr;obtain ⟨rfl,rfl⟩:=hr
   refine ah aa [3] 1 rfl rfl rfl rfl rfl rfl ?_ ?_
   all_goals first|rfl|(simp [au];done)|(simp [au];omega)
  have hb2':=of_decide_eq_false hb2
  refine ab aa 8 rfl ?_
  refine ae ?_
  refine af ?_
  refine az aa 2 rfl ?_
  refine ay (bq (i:=k0) rfl rfl rfl Try.underlying44 eb (by first|omega|(simp;done)|(simp;omega)) (by first|omega|(simp;done)|(simp;omega))) rfl ?_
  refine ab aa 1 rfl ?_
  refine ay (eG rfl rfl rfl Try.underlying3 rfl (bw hx2) rfl) rfl ?_
  refine ab aa 1 rfl ?_
  refine ae ?_
  refine ag rfl (fun hc4=>?_) (fun hc4=>?_)
  ·
   have hc4':=of_decide_eq_true hc4
   refine gy (st':=⟨[(0,(aC (.s 3 0 2 (((r1).set k0 (⟨x1.aQ,x1.sum+e.sum⟩:Entry)).length)))),(3,(aC (.p 1 0 0 0))),(6,(aI (↑k0:Int))),(32,(aI (x1.sum+e.sum))),(34,(aC (.p 3 k0 2 1))),(35,(aC (.s 3 0 2 r1.length))),(36,(aI (↑k0:Int))),(37,(aC (.p 3 k0 2 0))),(38,(aC (.p 3 k0 2 1))),(39,(aI x2.sum)),(40,(aB (decide (x2.sum>=(-1000000000000))))),(41,(aB false)),(48,(aB false)),(8,(aB false)),(49,(aC (.s 3 0 2 r1.length))),(50,(aI (↑k0:Int))),(51,(aC (.p 3 k0 2 0))),(52,(aC (.p 3 k0 2 1))),(53,(aI x2.sum)),(54,(aB (decide (x2.sum=0))))],[(3,(lF ((r1).set k0 (⟨x1.aQ,x1.sum+e.sum⟩:Entry)))),(1,(.box 115 [(cI e.aQ),(cI e.sum)]))],4⟩) (aD.bY id (by refine ⟨?_,?_,?_,?_,?_,?_,?_,?_,?_,?_,?_,?_,?_,?_,?_,?_,?_,?_,?_,?_,trivial⟩<;>first|rfl|(simp only [bn];done)|(congr 3;omega)|(congr 4;omega)|(simp only [bo];rfl)) (by refine ⟨?_,?_,trivial⟩<;>first|rfl|(simp only [bn];done)|(congr 3;omega)|(congr 4;omega)|(simp only [bo];rfl)) rfl) ?_
   refine aw ?_
   refine ab aa 3 rfl ?_
   refine ay (aM rfl rfl rfl (aH (by first|omega|(simp;done)|(simp;omega)))) rfl ?_
   obtain ⟨r3,hr3⟩:∃ (r3:List Entry),kM ((r1).set k0 (⟨x1.aQ,x1.sum+e.sum⟩:Entry)) k0 ((k0)+1)=r3:=⟨_,rfl⟩
   refine aL 5 [4,1] (cv (aU [3]) (aU [4]) (iU ((r1).set k0 (⟨x1.aQ,x1.sum+e.sum⟩:Entry)) k0 ((k0)+1) (by first|omega|(simp;done)|(simp;omega)) (by first|omega|(simp;done)|(simp;omega)) r3 hr3) um rfl rfl ⟨⟨_,rfl,.inl ⟨rfl,rfl⟩⟩,⟨_,rfl,.inr (.c (.d _))⟩,⟨_,rfl,.inr (.c (.d _))⟩,trivial⟩ ⟨rfl,trivial⟩ rfl rfl rfl rfl rfl rfl trivial ⟨(fun _ _ _ _=>trivial),trivial⟩ rfl rfl rfl rfl) rfl ?_
   refine ab aa 1 rfl ?_
   refine ae ?_
   refine ad aa 4 rfl ?_
   refine ar ?_
   have hX:jA l e=(r3,false):=by
     rw [ng hu hk0 (show fA l e.aQ=false by simp_all) hr1 hx1 rfl];unfold ic;rw [if_pos (by omega),hr3];refine Prod.ext rfl ?_;first|(simp;omega)|(simp_all;done)|(simp_all;omega)
   rw [hX] at hr;clear hX
   simp only [Prod.mk.injEq] at hr;obtain ⟨rfl,rfl⟩:=hr
   refine ah aa [4] 1 rfl rfl rfl rfl rfl rfl ?_ ?_
   all_goals first|rfl|(simp [au];done)|(simp [au];omega)
  have hc4':=of_decide_eq_false hc4
  refine aP ?_
  refine ad aa 4 rfl ?_
  refine ar ?_
  have hX:jA l e=((r1).set k0 (⟨x1.aQ,x1.sum+e.sum⟩:Entry),false):=by
    rw [ng hu hk0 (show fA l e.aQ=false by simp_all) hr1 hx1 rfl];unfold ic;rw [if_neg (by omega)];refine Prod.ext rfl ?_;first|(simp;omega)|(simp_all;done)|(simp_all;omega)
  rw [hX] at hr;clear hX
  simp only [Prod.mk.injEq] at hr;obtain ⟨rfl,rfl⟩:=hr
  refine ah aa [3] 1 rfl rfl rfl rfl rfl rfl ?_ ?_
  all_goals first|rfl|(simp [au];done)|(simp [au];omega)
 have hc1':=hc1;try simp only [bm,bM] at hc1'
 refine aP ?_
 have hk0lt:k0 < l.length:=by have:=Dn (l:=l) (a:=e.aQ) (by simp_all);omega
 refine af ?_
 obtain ⟨x1,hx1⟩:=ch (xs:=l) (i:=k0) (by first|omega|(simp;done)|(simp;omega))
 have hx1b:=hb x1 (List.mem_of_getElem? hx1)
 refine bb [0,3,6] [1,0] mixed rfl rfl ?_
 refine aA (kn:=[]) aa 2 rfl trivial ?_
 refine aT (n':=2) [25,26] [0] rfl rfl (.inl ⟨(ak.plain rfl),aK.cast (bq (i:=k0) rfl rfl rfl Try.underlying44 eb (by first|omega|(simp;done)|(simp;omega)) (by first|omega|(simp;done)|(simp;omega))) rfl⟩) rfl ?_
 refine aA (kn:=[]) aa 1 rfl trivial ?_
 refine aT (n':=2) [28] [0] rfl rfl (.inl ⟨(ak.plain rfl),aK.cast (eG rfl rfl rfl Try.underlying3 rfl (bw hx1) rfl) rfl⟩) rfl ?_
 refine aA (kn:=[]) aa 2 rfl trivial ?_
 refine aT (n':=2) [29,31] [] rfl rfl (.inl ⟨(ak.plain rfl),aK.cast (aM rfl rfl rfl (aH (by first|omega|(simp;done)|(simp;omega)))) rfl⟩) rfl ?_
 refine aT (n':=2) [25,26] [0] rfl rfl (.inl ⟨(ak.plain rfl),aK.cast (bq (i:=k0) rfl rfl rfl Try.underlying44 eb (by first|omega|(simp;done)|(simp;omega)) (by first|omega|(simp;done)|(simp;omega))) rfl⟩) rfl ?_
 refine aA (kn:=[]) aa 1 rfl trivial ?_
 refine bB [1,0] rfl rfl rfl rfl (by kernel_rfl) ?_
 refine gf [1,0] (dP (ds:=[(dI (x1.sum+e.sum))]) rfl rfl rfl rfl rfl fK rfl (Nat.le_of_ble_eq_true rfl) (bw hx1) rfl (eL (x':=(⟨x1.aQ,x1.sum+e.sum⟩:Entry)) rfl)) rfl ?_
 refine ae ?_
 refine az aa 2 rfl ?_
 refine ay (bq (i:=k0) rfl rfl rfl Try.underlying44 eb (by first|omega|(simp;done)|(simp;omega)) (by first|omega|(simp;done)|(simp;omega))) rfl ?_
 refine ab aa 1 rfl ?_
 obtain ⟨x2,hx2⟩:=ch (xs:=((l).set k0 (⟨x1.aQ,x1.sum+e.sum⟩:Entry))) (i:=k0) (by first|omega|(simp;done)|(simp;omega))
 have hx2e:=zq hx2
 have hx2s:x2.sum=x1.sum+e.sum:=by rw [hx2e]
 refine ay (eG rfl rfl rfl Try.underlying3 rfl (bw hx2) rfl) rfl ?_
 refine ab aa 2 rfl ?_
 refine bA (t:=41) rfl (fun hb5=>?_) (fun hb5=>?_)
 ·
  have hb5':=of_decide_eq_true hb5
  refine ab aa 2 rfl ?_
  refine dF (ak.yes rfl rfl rfl) (bq (i:=k0) rfl rfl rfl Try.underlying44 eb (by first|omega|(simp;done)|(simp;omega)) (by first|omega|(simp;done)|(simp;omega))) rfl rfl ?_
  refine ab aa 1 rfl ?_
  refine dF (ak.yes rfl rfl rfl) (eG rfl rfl rfl Try.underlying3 rfl (bw hx2) rfl) rfl rfl ?_
  refine ab aa 3 rfl ?_
  refine ae ?_
  refine af ?_
  refine az aa 2 rfl ?_
  refine ay (bq (i:=k0) rfl rfl rfl Try.underlying44 eb (by first|omega|(simp;done)|(simp;omega)) (by first|omega|(simp;done)|(simp;omega))) rfl ?_
  refine ab aa 1 rfl ?_
  refine ay (eG rfl rfl rfl Try.underlying3 rfl (bw hx2) rfl) rfl ?_
  refine ab aa 1 rfl ?_
  refine ae ?_
  refine ag rfl (fun hc6=>?_) (fun hc6=>?_)
  ·
   have hc6':=of_decide_eq_true hc6
   refine gy (st':=⟨[(0,(aC (.s 0 0 2 (((l).set k0 (⟨x1.aQ,x1.sum+e.sum⟩:Entry)).length)))),(3,(aC (.p 1 0 0 0))),(6,(aI (↑k0:Int))),(32,(aI (x1.sum+e.sum))),(34,(aC (.p 0 k0 2 1))),(35,(aC (.s 0 0 2 l.length))),(36,(aI (↑k0:Int))),(37,(aC (.p 0 k0 2 0))),(38,(aC (.p 0 k0 2 1))),(39,(aI x2.sum)),(40,(aB (decide (x2.sum>=(-1000000000000))))),(41,(aB true)),(42,(aC (.s 0 0 2 l.length))),(43,(aI (↑k0:Int))),(44,(aC (.p 0 k0 2 0))),(45,(aC (.p 0 k0 2 1))),(46,(aI x2.sum)),(47,(aB (decide (x2.sum<=1000000000000)))),(48,(aB (decide (x2.sum<=1000000000000)))),(8,(aB (decide (x2.sum<=1000000000000)))),(49,(aC (.s 0 0 2 l.length))),(50,(aI (↑k0:Int))),(51,(aC (.p 0 k0 2 0))),(52,(aC (.p 0 k0 2 1))),(53,(aI x2.sum)),(54,(aB (decide (x2.sum=0))))],[(1,(.box 115 [(cI e.aQ),(cI e.sum)])),(0,(lF ((l).set k0 (⟨x1.aQ,x1.sum+e.sum⟩:Entry))))],2⟩) (aD.bY id (by refine ⟨?_,?_,?_,?_,?_,?_,?_,?_,?_,?_,?_,?_,?_,?_,?_,?_,?_,?_,?_,?_,?_,?_,?_,?_,?_,?_,trivial⟩<;>first|rfl|(simp only [bn];done)|(congr 3;omega)|(congr 4;omega)|(simp only [bo];rfl)) (by refine ⟨?_,?_,trivial⟩<;>first|rfl|(simp only [bn];done)|(congr 3;omega)|(congr 4;omega)|(simp only [bo];rfl)) rfl) ?_
   refine aw ?_
   refine ab aa 3 rfl ?_
   refine ay (aM rfl rfl rfl (aH (by first|omega|(simp;done)|(simp;omega)))) rfl ?_
   obtain ⟨r4,hr4⟩:∃ (r4:List Entry),kM ((l).set k0 (⟨x1.aQ,x1.sum+e.sum⟩:Entry)) k0 ((k0)+1)=r4:=⟨_,rfl⟩
   refine aL 3 [2,1] (cv id (aU [2]) (iU ((l).set k0 (⟨x1.aQ,x1.sum+e.sum⟩:Entry)) k0 ((k0)+1) (by first|omega|(simp;done)|(simp;omega)) (by first|omega|(simp;done)|(simp;omega)) r4 hr4) um rfl rfl ⟨⟨_,rfl,.inl ⟨rfl,rfl⟩⟩,⟨_,rfl,.inr (.c (.d _))⟩,⟨_,rfl,.inr (.c (.d _))⟩,trivial⟩ ⟨rfl,trivial⟩ rfl rfl rfl rfl rfl rfl trivial ⟨(fun _ _ _ _=>trivial),trivial⟩ rfl rfl rfl rfl) rfl ?_
   refine ab aa 1 rfl ?_
   refine ae ?_
   refine ad aa 4 rfl ?_
   refine ar ?_
   have hX:jA l e=(r4,decide (x2.sum<=1000000000000)):=by
     rw [nh hu hk0 (show fA l e.aQ=true by simp_all) hx1 rfl];unfold ic;rw [if_pos (by omega),hr4];refine Prod.ext rfl ?_;first|(simp;omega)|(simp_all;done)|(simp_all;omega)
   rw [hX] at hr;clear hX
   simp only [Prod.mk.injEq] at hr;obtain ⟨rfl,rfl⟩:=hr
   refine ah aa [2] 1 rfl rfl rfl rfl rfl rfl ?_ ?_
   all_goals first|rfl|(simp [au];done)|(simp [au];omega)
  have hc6':=of_decide_eq_false hc6
  refine aP ?_
  refine ad aa 4 rfl ?_
  refine ar ?_
  have hX:jA l e=((l).set k0 (⟨x1.aQ,x1.sum+e.sum⟩:Entry),decide (x2.sum<=1000000000000)):=by
    rw [nh hu hk0 (show fA l e.aQ=true by simp_all) hx1 rfl];unfold ic;rw [if_neg (by omega)];refine Prod.ext rfl ?_;first|(simp;omega)|(simp_all;done)|(simp_all;omega)
  rw [hX] at hr;clear hX
  simp only [Prod.mk.injEq] at hr;obtain ⟨rfl,rfl⟩:=hr
  refine ah aa [0] 1 rfl rfl rfl rfl rfl rfl ?_ ?_
  all_goals first|rfl|(simp [au];done)|(simp [au];omega)
 have hb5':=of_decide_eq_false hb5
 refine ab aa 8 rfl ?_
 refine ae ?_
 refine af ?_
 refine az aa 2 rfl ?_
 refine ay (bq (i:=k0) rfl rfl rfl Try.underlying44 eb (by first|omega|(simp;done)|(simp;omega)) (by first|omega|(simp;done)|(simp;omega))) rfl ?_
 refine ab aa 1 rfl ?_
 refine ay (eG rfl rfl rfl Try.underlying3 rfl (bw hx2) rfl) rfl ?_
 refine ab aa 1 rfl ?_
 refine ae ?_
 refine ag rfl (fun hc7=>?_) (fun hc7=>?_)
 ·
  have hc7':=of_decide_eq_true hc7
  refine gy (st':=⟨[(0,(aC (.s 0 0 2 (((l).set k0 (⟨x1.aQ,x1.sum+e.sum⟩:Entry)).length)))),(3,(aC (.p 1 0 0 0))),(6,(aI (↑k0:Int))),(32,(aI (x1.sum+e.sum))),(34,(aC (.p 0 k0 2 1))),(35,(aC (.s 0 0 2 l.length))),(36,(aI (↑k0:Int))),(37,(aC (.p 0 k0 2 0))),(38,(aC (.p 0 k0 2 1))),(39,(aI x2.sum)),(40,(aB (decide (x2.sum>=(-1000000000000))))),(41,(aB false)),(48,(aB false)),(8,(aB false)),(49,(aC (.s 0 0 2 l.length))),(50,(aI (↑k0:Int))),(51,(aC (.p 0 k0 2 0))),(52,(aC (.p 0 k0 2 1))),(53,(aI x2.sum)),(54,(aB (decide (x2.sum=0))))],[(1,(.box 115 [(cI e.aQ),(cI e.sum)])),(0,(lF ((l).set k0 (⟨x1.aQ,x1.sum+e.sum⟩:Entry))))],2⟩) (aD.bY id (by refine ⟨?_,?_,?_,?_,?_,?_,?_,?_,?_,?_,?_,?_,?_,?_,?_,?_,?_,?_,?_,?_,trivial⟩<;>first|rfl|(simp only [bn];done)|(congr 3;omega)|(congr 4;omega)|(simp only [bo];rfl)) (by refine ⟨?_,?_,trivial⟩<;>first|rfl|(simp only [bn];done)|(congr 3;omega)|(congr 4;omega)|(simp only [bo];rfl)) rfl) ?_
  refine aw ?_
  refine ab aa 3 rfl ?_
  refine ay (aM rfl rfl rfl (aH (by first|omega|(simp;done)|(simp;omega)))) rfl ?_
  obtain ⟨r5,hr5⟩:∃ (r5:List Entry),kM ((l).set k0 (⟨x1.aQ,x1.sum+e.sum⟩:Entry)) k0 ((k0)+1)=r5:=⟨_,rfl⟩
  refine aL 3 [2,1] (cv id (aU [2]) (iU ((l).set k0 (⟨x1.aQ,x1.sum+e.sum⟩:Entry)) k0 ((k0)+1) (by first|omega|(simp;done)|(simp;omega)) (by first|omega|(simp;done)|(simp;omega)) r5 hr5) um rfl rfl ⟨⟨_,rfl,.inl ⟨rfl,rfl⟩⟩,⟨_,rfl,.inr (.c (.d _))⟩,⟨_,rfl,.inr (.c (.d _))⟩,trivial⟩ ⟨rfl,trivial⟩ rfl rfl rfl rfl rfl rfl trivial ⟨(fun _ _ _ _=>trivial),trivial⟩ rfl rfl rfl rfl) rfl ?_
  refine ab aa 1 rfl ?_
  refine ae ?_
  refine ad aa 4 rfl ?_
  refine ar ?_
  have hX:jA l e=(r5,false):=by
    rw [nh hu hk0 (show fA l e.aQ=true by simp_all) hx1 rfl];unfold ic;rw [if_pos (by omega),hr5];refine Prod.ext rfl ?_;first|(simp;omega)|(simp_all;done)|(simp_all;omega)
  rw [hX] at hr;clear hX
  simp only [Prod.mk.injEq] at hr;obtain ⟨rfl,rfl⟩:=hr
  refine ah aa [2] 1 rfl rfl rfl rfl rfl rfl ?_ ?_
  all_goals first|rfl|(simp [au];done)|(simp [au];omega)
 have hc7':=of_decide_eq_false hc7
 refine aP ?_
 refine ad aa 4 rfl ?_
 refine ar ?_
 have hX:jA l e=((l).set k0 (⟨x1.aQ,x1.sum+e.sum⟩:Entry),false):=by
   rw [nh hu hk0 (show fA l e.aQ=true by simp_all) hx1 rfl];unfold ic;rw [if_neg (by omega)];refine Prod.ext rfl ?_;first|(simp;omega)|(simp_all;done)|(simp_all;omega)
 rw [hX] at hr;clear hX
 simp only [Prod.mk.injEq] at hr;obtain ⟨rfl,rfl⟩:=hr
 refine ah aa [0] 1 rfl rfl rfl rfl rfl rfl ?_ ?_
 all_goals first|rfl|(simp [au];done)|(simp [au];omega)
end Go.Proofs.Ytegepioggeggaaa.Dev
