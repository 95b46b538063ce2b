/- A part of the proof: Sh34, TyT, Book1, Book2, Sh19, Book3, Book4. No condition. -/
import Derived.Test.YtegepioggeggaaaD04
set_option linter.unusedVariables false
set_option linter.unusedSimpArgs false
set_option maxHeartbeats 1000000
set_option maxRecDepth 100000
namespace Go.Proofs.Ytegepioggeggaaa.Dev
open Go.RowKit
section

def lN:List Nat->Nat->Option Nat
 |[],_=>none
 |j::l,k=>bif Nat.beq j k then some j else lN l k
theorem jW:∀ {l:List Nat} {k j:Nat},lN l k=some j->j=k
 |x::l,k,j,h=>by
  unfold lN at h
  cases hb:Nat.beq x k with
  |true=>rw [hb] at h;injection h with h;subst h;exact Nat.eq_of_beq_eq_true hb
  |false=>rw [hb] at h;exact jW (l:=l) h
def Cg (ids:List Nat):List Nat->Option (List Nat)
 |[]=>some []
 |k::ks=>match lN ids k with
  |none=>none
  |some j=>match Cg ids ks with
   |some r=>some (j::r)
   |none=>none
theorem zb {ids:List Nat}:∀ {l r:List Nat},Cg ids l=some r->r=l
 |[],r,h=>by cases h;rfl
 |k::ks,r,h=>by
  unfold Cg at h
  split at h
  ·cases h
  rename_i j hj
  split at h
  ·rename_i r' hr;injection h with h;subst h;rw [jW hj,zb hr]
  ·cases h
def Dy (ids:List Nat):CV->Option CV
 |.any=>some .any
 |.d x=>some (.d x)
 |.p k i K o=>match lN ids k with
  |some j=>some (.p j i K o)
  |none=>none
 |.q row o=>some (.q row o)
 |.s k i K n=>match lN ids k with
  |some j=>some (.s j i K n)
  |none=>none
 |.sx k i K n c e=>match lN ids k with
  |some j=>some (.sx j i K n c e)
  |none=>none
 |.m k=>match lN ids k with
  |some j=>some (.m j)
  |none=>none
 |.fn f bc=>match Cg ids bc with
  |some r=>some (.fn f r)
  |none=>none
theorem Dx {ids:List Nat} {c c':CV} (h:Dy ids c=some c'):c'=c:=by
 unfold Dy at h
 split at h
 ·injection h with h;exact h.symm
 ·injection h with h;exact h.symm
 ·split at h
  ·rename_i j hj;injection h with h;rw [<-h,jW hj]
  ·cases h
 ·injection h with h;exact h.symm
 ·split at h
  ·rename_i j hj;injection h with h;rw [<-h,jW hj]
  ·cases h
 ·split at h
  ·rename_i j hj;injection h with h;rw [<-h,jW hj]
  ·cases h
 ·split at h
  ·rename_i j hj;injection h with h;rw [<-h,jW hj]
  ·cases h
 ·split at h
  ·rename_i r hr;injection h with h;rw [<-h,zb hr]
  ·cases h
def xM (ids:List Nat):List CV->Option (List CV)
 |[]=>some []
 |c::l=>match Dy ids c with
  |none=>none
  |some c'=>match xM ids l with
   |some r=>some (c'::r)
   |none=>none
theorem wT {ids:List Nat}:∀ {l r:List CV},xM ids l=some r->r=l
 |[],r,h=>by cases h;rfl
 |c::l,r,h=>by
  unfold xM at h
  split at h
  ·cases h
  rename_i c' hc
  split at h
  ·rename_i r' hr;injection h with h;subst h;rw [Dx hc,wT hr]
  ·cases h
def DA (ids:List Nat):AB->Option AB
 |.box t cs=>match xM ids cs with
  |some r=>some (.box t r)
  |none=>none
 |.arr t K rows=>some (.arr t K rows)
 |.map es c=>some (.map es c)
theorem Dz {ids:List Nat} {b b':AB} (h:DA ids b=some b'):b'=b:=by
 unfold DA at h
 split at h
 ·split at h
  ·rename_i r hr;injection h with h;rw [<-h,wT hr]
  ·cases h
 ·injection h with h;exact h.symm
 ·injection h with h;exact h.symm
def uJ (h:List (Nat×AB)) (ids:List Nat):List Nat->Option (List (Nat×AB))
 |[]=>some []
 |k::ks=>match look h k with
  |none=>none
  |some b=>match DA ids b with
   |none=>none
   |some b'=>match uJ h ids ks with
    |some r=>some ((k,b')::r)
    |none=>none
theorem wS {h:List (Nat×AB)} {ids:List Nat}:∀ {l:List Nat} {r:List (Nat×AB)},uJ h ids l=some r->∀ x∈r,look h x.1=some x.2
 |[],r,hr,x,hx=>by cases hr;cases hx
 |k::ks,r,hr,x,hx=>by
  unfold uJ at hr
  split at hr
  ·cases hr
  rename_i b hb
  split at hr
  ·cases hr
  rename_i b' hb'
  split at hr
  ·rename_i r' hr'
   injection hr with hr;subst hr
   rcases List.mem_cons.1 hx with rfl|hx
   ·rw [hb,Dz hb']
   ·exact wS hr' x hx
  ·cases hr
theorem uI {h r:List (Nat×AB)} {ids l:List Nat} (hr:uJ h ids l=some r) {k:Nat} {b:AB} (hk:look r k=some b):look h k=some b:=wS hr _ (bH hk)
section
variable {P:Program} {W0:World} {F:Nat->Prop} {N:NT} {T0:Nat->Prop} {pin:List (Nat×bJ)} {ops:Array Oper} {Q:Exit->aE->Prop} {s:List (Nat×AV)} {h:List (Nat×AB)} {n:Nat}
theorem yw {o:Oper} {rest:List Oper} {d:Nat} {av:AV} {nb h':List (Nat×AB)} {E:List Nat} (n':Nat) (ids:List Nat) (hw:aj ops o ⟨s,h,n⟩) (g:aH P o ⟨s,h,n⟩ av nb E)
  (hx:(o.dst,(Nat.blt d N.1,E.all (fun e=>bh h e),nb.all (fun x=>dH x.1 E||Nat.ble n x.1)),ir nb n,uJ (nb++del E h) (E++ids) ids)=(some d,(true,true,true),n',some h')) (k:AL P W0 F N T0 pin ops Q rest ⟨(d,av)::s,h',n'⟩):AL P W0 F N T0 pin ops Q (o::rest) ⟨s,h,n⟩:=by
 simp only [Prod.mk.injEq] at hx
 obtain ⟨hd,⟨h1,h2,h3⟩,hn,hh⟩:=hx
 exact BW hw g hd h1 h2 h3 hn rfl (kZ (st':=⟨(d,av)::s,h',n'⟩) (aD.sub (fun _ _ hi=>hi) (fun k b hk=>uI hh hk) rfl) k)
theorem aL {o:Oper} {rest:List Oper} {d:Nat} {av:AV} {nb h':List (Nat×AB)} {E:List Nat} (n':Nat) (ids:List Nat) (g:aH P o ⟨s,h,n⟩ av nb E)
  (hx:(o.guard,o.dst,(Nat.blt d N.1,E.all (fun e=>bh h e),nb.all (fun x=>dH x.1 E||Nat.ble n x.1)),ir nb n,uJ (nb++del E h) (E++ids) ids)=(none,some d,(true,true,true),n',some h')) (k:AL P W0 F N T0 pin ops Q rest ⟨(d,av)::s,h',n'⟩):AL P W0 F N T0 pin ops Q (o::rest) ⟨s,h,n⟩:=by
 have hg:=(Prod.mk.inj hx).1
 exact yw n' ids (aj.plain hg) g (Prod.mk.inj hx).2 k
theorem fY {o:Oper} {rest:List Oper} {k0:Nat} {b:AB} {h':List (Nat×AB)} (ids:List Nat) (g:aH P o ⟨s,h,n⟩ (.v (.c .any)) [(k0,b)] [k0]) (hx:(o.guard,o.dst,bh h k0,Nat.blt k0 n,uJ ((k0,b)::h) ids ids)=(none,none,true,true,some h'))
  (k:AL P W0 F N T0 pin ops Q rest ⟨s,h',n⟩):AL P W0 F N T0 pin ops Q (o::rest) ⟨s,h,n⟩:=by
 simp only [Prod.mk.injEq] at hx
 obtain ⟨hg,hd,h1,h2,hh⟩:=hx
 obtain ⟨b0,hb0⟩:=jE h1
 refine Am (aj.plain hg) g hd hb0 h2 rfl (kZ (st':=⟨s,h',n⟩) (aD.sub (fun _ _ hi=>hi) (fun j x hj=>?_) rfl) k)
 have h3:=uI hh hj
 have look_up:∀ (l:List (Nat×AB)),(∃ b0,look l k0=some b0)->look (kl l k0 b) j=look ((k0,b)::l) j:=by
  intro l
  induction l with
  |nil=>rintro ⟨b0,h⟩;cases h
  |cons y l ih=>
   obtain ⟨i,z⟩:=y
   rintro ⟨b1,hb1⟩
   by_cases e:i=k0
   ·subst e
    show look (bif Nat.beq i i then _ else _) j=_
    rw [Nat.beq_refl]
    simp only [cond_true,bR]
    split<;>rfl
   ·show look (bif Nat.beq i k0 then _ else _) j=_
    rw [Bool.eq_false_iff.2 fun h=>e (Nat.eq_of_beq_eq_true h)]
    simp only [cond_false]
    rw [bR,if_neg e] at hb1
    rw [bR,ih ⟨b1,hb1⟩,bR,bR,bR]
    by_cases e2:i=j
    ·subst e2;rw [if_pos rfl,if_neg (Ne.symm e),if_pos rfl]
    ·rw [if_neg e2,if_neg e2]
 rw [look_up h ⟨b0,hb0⟩];exact h3
theorem ax {o:Oper} {rest:List Oper} {d:Nat} {av:AV} (g:aH P o ⟨s,h,n⟩ av [] []) (hx:(o.guard,o.dst,Nat.blt d N.1)=(none,some d,true)) (k:AL P W0 F N T0 pin ops Q rest ⟨(d,av)::s,h,n⟩):AL P W0 F N T0 pin ops Q (o::rest) ⟨s,h,n⟩:=by
 simp only [Prod.mk.injEq] at hx
 exact dP (aj.plain hx.1) g hx.2.1 hx.2.2 k
theorem ae {next:aE->Prop} {Q:Exit->aE->Prop} {st:aE} (k:next st):AL P W0 F N T0 pin ops (iH next Q) [] st:=bY k
theorem aN {next:aE->Prop} {Q:Exit->aE->Prop} {st:aE} (k:next st):AC P W0 F N T0 pin (iH next Q) .skip st:=cU k
theorem eC {id:Nat} {l:List Oper} {y:Code} {st:aE} (g:AL P W0 F N T0 pin l.toArray (iH (AC P W0 F N T0 pin Q y) Q) l st):AC P W0 F N T0 pin Q (.seq (.region id l.toArray false) y) st:=af (aw g)
theorem fu {c:Code} {k q t:Nat} {cs cs':List CV} {c0 c':CV} {h':List (Nat×AB)} (hb:look h k=some (.box t cs)) (hc:cs[q]?=some c0) (he:c0=c') (hx:(jP cs q [c'],lb h k (.box t cs'))=(some cs',some h')) (g:AC P W0 F N T0 pin Q c ⟨s,h',n⟩):AC P W0 F N T0 pin Q c ⟨s,h,n⟩:=by
 obtain ⟨h1,h2⟩:=Prod.mk.inj hx
 subst he
 obtain ⟨hl,h3⟩:=jO h1
 have hcs:cs'=cs:=by
  rw [<-h3]
  apply List.ext_getElem?
  intro m
  simp only [List.length_cons,List.length_nil] at hl ⊢
  rcases Nat.lt_trichotomy m q with h4|h4|h4
  ·rw [List.append_assoc,List.getElem?_append_left (by rw [List.length_take];omega),List.getElem?_take,if_pos h4]
  ·subst h4
   rw [List.append_assoc,List.getElem?_append_right (by rw [List.length_take];omega),List.length_take,Nat.min_eq_left (by omega),Nat.sub_self]
   simp [hc]
  ·rw [List.getElem?_append_right (by simp;omega),List.getElem?_drop]
   congr 1
   simp
   omega
 subst hcs
 refine gT (st':=⟨s,h',n⟩) (aD.sub (fun _ _ hi=>hi) (fun j x hj=>?_) rfl) g
 have hj:look h' j=some x:=hj
 rw [<-mn h2] at hj
 rcases jT hj with ⟨rfl,rfl⟩|⟨_,h4⟩|h4
 ·exact hb
 ·exact h4
 ·exact h4.2.elim
theorem iG {c:Code} {i:Nat} {v:AV} (hs:look s i=some v) (g:AC P W0 F N T0 pin Q c ⟨(i,v)::s,h,n⟩):AC P W0 F N T0 pin Q c ⟨s,h,n⟩:=by
 refine gT (st':=⟨(i,v)::s,h,n⟩) (aD.sub (fun j x hj=>?_) (fun _ _ hi=>hi) rfl) g
 have hj':look ((i,v)::s) j=some x:=hj
 rw [bR] at hj'
 split at hj'
 ·rename_i e;subst e;injection hj' with hj';subst hj';exact hs
 ·exact hj'
end
section
variable {P:Program} {fn:Func} {pin:List (Nat×bJ)} {av:AV} {nb:List (Nat×AB)} {e:Exit} {s:List (Nat×AV)} {h:List (Nat×AB)} {n:Nat}
theorem wR (k j t K:Nat) {bt:Nat} {cs cs':List CV} {h':List (Nat×AB)} (hb:look h k=some (.box bt cs)) (hc:cs[j]?=some cN) (hx:(Nat.blt 0 K,Nat.blt k n,jP cs j [.s n 0 K 0],lb h k (.box bt cs'))=(true,true,some cs',some h')):aD pin ⟨s,h,n⟩ ⟨s,(n,.arr t K [])::h',n+1⟩:=by
 simp only [Prod.mk.injEq,Nat.blt_eq] at hx
 obtain ⟨h1,h2,h3,h4⟩:=hx
 obtain ⟨hl,h5⟩:=jO h3
 refine aD.rR k j t K bt h1 hb hc (by rw [Nat.blt_eq];exact h2) rfl ?_
 have:cs.set j (.s n 0 K 0)=cs':=by
  rw [<-h5]
  simp only [List.length_cons,List.length_nil] at hl ⊢
  apply List.ext_getElem?
  intro m
  rw [List.getElem?_set]
  split
  ·rename_i e;subst e
   rw [if_pos (by omega),List.append_assoc,List.getElem?_append_right (by rw [List.length_take];omega),List.length_take,Nat.min_eq_left (by omega),Nat.sub_self]
   rfl
  ·rename_i e
   rcases Nat.lt_or_gt_of_ne e with h6|h6
   ·rw [List.getElem?_append_right (by simp;omega),List.getElem?_drop]
    congr 1
    simp
    omega
   ·rw [List.append_assoc,List.getElem?_append_left (by rw [List.length_take];omega),List.getElem?_take,if_pos h6]
 rw [this,mn h4]
theorem cb (k j t K:Nat) {bt:Nat} {cs cs':List CV} {h':List (Nat×AB)} (hb:look h k=some (.box bt cs)) (hc:cs[j]?=some cN) (hx:(Nat.blt 0 K,Nat.blt k n,jP cs j [.s n 0 K 0],lb h k (.box bt cs'))=(true,true,some cs',some h'))
  (g:jR P fn pin av nb e ⟨s,(n,.arr t K [])::h',n+1⟩):jR P fn pin av nb e ⟨s,h,n⟩:=cQ (wR k j t K hb hc hx) g
theorem wQ (k j K:Nat) {bt:Nat} {cs cs':List CV} {h':List (Nat×AB)} (hb:look h k=some (.box bt cs)) (hc:cs[j]?=some cN) (hx:(jP cs j [cR K []],lb h k (.box bt cs'))=(some cs',some h')):aD pin ⟨s,h,n⟩ ⟨s,h',n⟩:=by
 simp only [Prod.mk.injEq] at hx
 obtain ⟨h3,h4⟩:=hx
 obtain ⟨hl,h5⟩:=jO h3
 refine aD.mX k j K bt hb hc ?_
 have:cs.set j (cR K [])=cs':=by
  rw [<-h5]
  simp only [List.length_cons,List.length_nil] at hl ⊢
  apply List.ext_getElem?
  intro m
  rw [List.getElem?_set]
  split
  ·rename_i e;subst e
   rw [if_pos (by omega),List.append_assoc,List.getElem?_append_right (by rw [List.length_take];omega),List.length_take,Nat.min_eq_left (by omega),Nat.sub_self]
   rfl
  ·rename_i e
   rcases Nat.lt_or_gt_of_ne e with h6|h6
   ·rw [List.getElem?_append_right (by simp;omega),List.getElem?_drop]
    congr 1
    simp
    omega
   ·rw [List.append_assoc,List.getElem?_append_left (by rw [List.length_take];omega),List.getElem?_take,if_pos h6]
 rw [this,mn h4]
theorem eQ (k j K:Nat) {bt:Nat} {cs cs':List CV} {h':List (Nat×AB)} (hb:look h k=some (.box bt cs)) (hc:cs[j]?=some cN) (hx:(jP cs j [cR K []],lb h k (.box bt cs'))=(some cs',some h'))
  (g:jR P fn pin av nb e ⟨s,h',n⟩):jR P fn pin av nb e ⟨s,h,n⟩:=cQ (wQ k j K hb hc hx) g
end
section
variable {P:Program} {W0:World} {F:Nat->Prop} {N:NT} {T0:Nat->Prop} {pin:List (Nat×bJ)} {Q:Exit->aE->Prop} {s:List (Nat×AV)} {h:List (Nat×AB)} {n:Nat} {c:Code}
theorem pd (k j t K:Nat) {bt:Nat} {cs cs':List CV} {h':List (Nat×AB)} (hb:look h k=some (.box bt cs)) (hc:cs[j]?=some cN) (hx:(Nat.blt 0 K,Nat.blt k n,jP cs j [.s n 0 K 0],lb h k (.box bt cs'))=(true,true,some cs',some h'))
  (g:AC P W0 F N T0 pin Q c ⟨s,(n,.arr t K [])::h',n+1⟩):AC P W0 F N T0 pin Q c ⟨s,h,n⟩:=gT (wR k j t K hb hc hx) g
theorem kc (k j K:Nat) {bt:Nat} {cs cs':List CV} {h':List (Nat×AB)} (hb:look h k=some (.box bt cs)) (hc:cs[j]?=some cN) (hx:(jP cs j [cR K []],lb h k (.box bt cs'))=(some cs',some h'))
  (g:AC P W0 F N T0 pin Q c ⟨s,h',n⟩):AC P W0 F N T0 pin Q c ⟨s,h,n⟩:=gT (wQ k j K hb hc hx) g
end
theorem bL:(∀ a:Bool,((!a)=true)=(a=false))/\(∀ a:Bool,((!a)=false)=(a=true))/\(∀ a b:Bool,((a||b)=true)=(a=true\/b=true))/\(∀ a b:Bool,((a||b)=false)=(a=false/\b=false))/\(∀ a b:Bool,((a && b)=true)=(a=true/\b=true))/\
  (∀ a b:Bool,((a && b)=false)=(a=true->b=false))/\(∀ (p:Prop) [Decidable p],(decide p=true)=p)/\(∀ (p:Prop) [Decidable p],(decide p=false)=¬p)/\(∀ a:Bool,(!!a)=a)/\((!true)=false)/\((!false)=true):=
 ⟨by simp,by simp,by simp,by simp,by simp,by simp,by simp,by simp,by simp,rfl,rfl⟩
end
section
theorem bm:(∀ ρ g,AV.map ρ (.v g)=.v (g.map ρ))/\(∀ ρ g,AV.map ρ (.t g)=.t (g.map (GV.map ρ)))/\(∀ ρ c,GV.map ρ (.c c)=.c (c.map ρ))/\(∀ ρ c,GV.map ρ (.g c)=.g (c.map (CV.map ρ)))/\
  (∀ ρ,CV.map ρ .any=.any)/\(∀ ρ x,CV.map ρ (.d x)=.d x)/\(∀ ρ k i K o,CV.map ρ (.p k i K o)=.p (ρ k) i K o)/\(∀ ρ r o,CV.map ρ (.q r o)=.q r o)/\(∀ ρ k i K n,CV.map ρ (.s k i K n)=.s (ρ k) i K n)/\
  (∀ ρ k i K n c e,CV.map ρ (.sx k i K n c e)=.sx (ρ k) i K n c e)/\(∀ ρ k,CV.map ρ (.m k)=.m (ρ k))/\(∀ ρ f l,CV.map ρ (.fn f l)=.fn f (l.map ρ))/\
  (∀ ρ t cs,AB.map' ρ (.box t cs)=.box t (cs.map (CV.map ρ)))/\(∀ ρ t K r,AB.map' ρ (.arr t K r)=.arr t K r)/\(∀ ρ e c,AB.map' ρ (.map e c)=.map e c)/\(∀ k:Nat,id k=k):=
 ⟨fun _ _=>rfl,fun _ _=>rfl,fun _ _=>rfl,fun _ _=>rfl,fun _=>rfl,fun _ _=>rfl,fun _ _ _ _ _=>rfl,fun _ _ _=>rfl,fun _ _ _ _ _=>rfl,fun _ _ _ _ _ _ _=>rfl,fun _ _=>rfl,fun _ _ _=>rfl,fun _ _ _=>rfl,fun _ _ _ _=>rfl,fun _ _ _=>rfl,fun _=>rfl⟩
theorem bn:(∀ {α:Type} (a b:List α),(a++b).length=a.length+b.length)/\(∀ {α:Type} (a:α) (b:List α),(a::b).length=b.length+1)/\(∀ {α:Type},([]:List α).length=0)/\(∀ {α:Type} (l:List α) (i:Nat) (a:α),(l.set i a).length=l.length):=
 ⟨fun _ _=>List.length_append,fun _ _=>rfl,rfl,fun _ _ _=>List.length_set ..⟩
end

def tt:List (Nat×TI):=[(46,⟨[(0,1),(1,1),(2,1),(3,1),(4,1),(5,4),(9,2),(11,2),(13,3),(16,1),(17,1),(18,1)],true,19,[.int .i64 0,.bool false,.slice none 0 0,.slice none 0 0,.slice none 0 0,.int .i64 0,.slice none 0 0,.int .i64 0,.slice none 0 0,.int .i64 0,.int .i64 0,.slice none 0 0,.slice none 0 0,.int .i64 0,.slice none 0 0,.slice none 0 0,.slice none 0 0,.slice none 0 0,.slice none 0 0]⟩),
 (98,⟨[(0,19),(19,1)],true,20,[.int .i64 0,.bool false,.slice none 0 0,.slice none 0 0,.slice none 0 0,.int .i64 0,.slice none 0 0,.int .i64 0,.slice none 0 0,.int .i64 0,.int .i64 0,.slice none 0 0,.slice none 0 0,.int .i64 0,.slice none 0 0,.slice none 0 0,.slice none 0 0,.slice none 0 0,.slice none 0 0,.map none]⟩),
 (147,⟨[(0,19),(19,1)],true,20,[.int .i64 0,.bool false,.slice none 0 0,.slice none 0 0,.slice none 0 0,.int .i64 0,.slice none 0 0,.int .i64 0,.slice none 0 0,.int .i64 0,.int .i64 0,.slice none 0 0,.slice none 0 0,.int .i64 0,.slice none 0 0,.slice none 0 0,.slice none 0 0,.slice none 0 0,.slice none 0 0,.int .i64 0]⟩),
 (27,⟨[(0,1),(1,1),(2,1),(3,1),(4,1),(5,1)],true,6,[.int .i64 0,.int .i64 0,.int .i64 0,.int .i64 0,.int .i64 0,.int .i64 0]⟩),
 (3,⟨[],false,1,[.int .i64 0]⟩),
 (48,⟨[],false,1,[.int .i64 0]⟩),
 (4,⟨[],false,1,[.bool false]⟩),
 (67,⟨[(0,1),(1,1),(2,1),(3,1),(4,1),(5,1),(6,1),(7,1)],true,8,[.int .i64 0,.int .i64 0,.int .i64 0,.int .i64 0,.int .i64 0,.int .i64 0,.int .i64 0,.bool false]⟩),
 (61,⟨[(0,1),(1,1),(2,3),(5,1)],true,6,[.int .i64 0,.int .i64 0,.int .i64 0,.int .i64 0,.int .i64 0,.slice none 0 0]⟩),
 (65,⟨[(0,1),(1,1)],true,2,[.int .i64 0,.int .i64 0]⟩),
 (80,⟨[(0,1),(1,1),(2,1),(3,1)],true,4,[.int .i64 0,.int .i64 0,.int .i64 0,.int .i64 0]⟩),
 (2,⟨[],false,1,[.int .i64 0]⟩),
 (5,⟨[],false,1,[.int .u8 0]⟩),
 (6,⟨[],false,1,[.int .u8 0]⟩),
 (7,⟨[(0,1),(1,1),(2,1),(3,1)],true,4,[.int .i64 0,.int .i64 0,.bool false,.int .u8 0]⟩),
 (8,⟨[(0,1),(1,1),(2,1),(3,1)],true,4,[.int .i64 0,.int .i64 0,.bool false,.int .u8 0]⟩),
 (9,⟨[],false,1,[]⟩),
 (10,⟨[],false,1,[]⟩),
 (11,⟨[],false,1,[]⟩),
 (12,⟨[],false,1,[.int .u64 0]⟩),
 (13,⟨[(0,1),(1,1)],true,2,[]⟩),
 (14,⟨[(0,1),(1,1)],true,2,[]⟩),
 (15,⟨[],false,1,[]⟩),
 (16,⟨[],false,1,[]⟩),
 (17,⟨[],false,1,[]⟩),
 (18,⟨[(0,1)],true,1,[]⟩),
 (19,⟨[(0,1)],true,1,[]⟩),
 (21,⟨[],false,1,[.int .i32 0]⟩),
 (24,⟨[],false,1,[.slice none 0 0]⟩),
 (26,⟨[(0,1),(1,1),(2,1),(3,1),(4,1),(5,1)],true,6,[.int .i64 0,.int .i64 0,.int .i64 0,.int .i64 0,.int .i64 0,.int .i64 0]⟩),
 (29,⟨[],false,1,[.slice none 0 0]⟩),
 (30,⟨[],false,1,[.slice none 0 0]⟩),
 (31,⟨[],false,1,[.slice none 0 0]⟩),
 (32,⟨[],false,1,[.slice none 0 0]⟩),
 (33,⟨[(0,1),(1,1)],true,2,[.int .i64 0,.slice none 0 0]⟩),
 (34,⟨[(0,1),(1,1)],true,2,[.int .i64 0,.slice none 0 0]⟩),
 (37,⟨[],false,1,[.slice none 0 0]⟩),
 (39,⟨[],false,1,[.slice none 0 0]⟩),
 (40,⟨[(0,1),(1,1),(2,1)],true,3,[.int .i64 0,.slice none 0 0,.slice none 0 0]⟩),
 (41,⟨[(0,1),(1,1),(2,1)],true,3,[.int .i64 0,.slice none 0 0,.slice none 0 0]⟩),
 (42,⟨[],false,1,[.slice none 0 0]⟩),
 (43,⟨[],false,1,[.slice none 0 0]⟩),
 (44,⟨[],false,1,[.slice none 0 0]⟩),
 (45,⟨[(0,1),(1,1),(2,1),(3,1),(4,1),(5,4),(9,2),(11,2),(13,3),(16,1),(17,1),(18,1)],true,19,[.int .i64 0,.bool false,.slice none 0 0,.slice none 0 0,.slice none 0 0,.int .i64 0,.slice none 0 0,.int .i64 0,.slice none 0 0,.int .i64 0,.int .i64 0,.slice none 0 0,.slice none 0 0,.int .i64 0,.slice none 0 0,.slice none 0 0,.slice none 0 0,.slice none 0 0,.slice none 0 0]⟩),
 (47,⟨[],false,1,[.slice none 0 0]⟩),
 (49,⟨[(0,1),(1,1)],true,2,[.int .i64 0,.int .i64 0]⟩),
 (50,⟨[(0,1),(1,1)],true,2,[.int .i64 0,.int .i64 0]⟩),
 (53,⟨[],false,1,[.slice none 0 0]⟩),
 (54,⟨[(0,1),(1,1),(2,1)],true,3,[.slice none 0 0,.int .i64 0,.int .i64 0]⟩),
 (55,⟨[(0,1),(1,1),(2,1)],true,3,[.slice none 0 0,.int .i64 0,.int .i64 0]⟩),
 (57,⟨[(0,1),(1,1),(2,1)],true,3,[.int .i64 0,.int .i64 0,.int .i64 0]⟩),
 (58,⟨[(0,1),(1,1),(2,1)],true,3,[.int .i64 0,.int .i64 0,.int .i64 0]⟩),
 (59,⟨[],false,1,[.slice none 0 0]⟩),
 (60,⟨[(0,1),(1,1),(2,3),(5,1)],true,6,[.int .i64 0,.int .i64 0,.int .i64 0,.int .i64 0,.int .i64 0,.slice none 0 0]⟩),
 (64,⟨[(0,1),(1,1)],true,2,[.int .i64 0,.int .i64 0]⟩),
 (66,⟨[(0,1),(1,1),(2,1),(3,1),(4,1),(5,1),(6,1),(7,1)],true,8,[.int .i64 0,.int .i64 0,.int .i64 0,.int .i64 0,.int .i64 0,.int .i64 0,.int .i64 0,.bool false]⟩),
 (79,⟨[(0,1),(1,1),(2,1),(3,1)],true,4,[.int .i64 0,.int .i64 0,.int .i64 0,.int .i64 0]⟩),
 (81,⟨[],false,1,[.map none]⟩),
 (82,⟨[(0,1),(1,1),(2,1),(3,1)],true,4,[.int .i64 0,.int .i64 0,.int .i64 0,.int .i64 0]⟩),
 (83,⟨[(0,1),(1,1),(2,1),(3,1)],true,4,[.int .i64 0,.int .i64 0,.int .i64 0,.int .i64 0]⟩),
 (86,⟨[],false,1,[.slice none 0 0]⟩),
 (95,⟨[],false,1,[]⟩),
 (96,⟨[],false,1,[.map none]⟩),
 (97,⟨[(0,19),(19,1)],true,20,[.int .i64 0,.bool false,.slice none 0 0,.slice none 0 0,.slice none 0 0,.int .i64 0,.slice none 0 0,.int .i64 0,.slice none 0 0,.int .i64 0,.int .i64 0,.slice none 0 0,.slice none 0 0,.int .i64 0,.slice none 0 0,.slice none 0 0,.slice none 0 0,.slice none 0 0,.slice none 0 0,.map none]⟩),
 (102,⟨[],false,1,[]⟩),
 (106,⟨[(0,1),(1,1),(2,1),(3,1)],true,4,[.int .i64 0,.int .i64 0,.int .i64 0,.int .i64 0]⟩),
 (107,⟨[(0,1),(1,1),(2,1),(3,1)],true,4,[.int .i64 0,.int .i64 0,.int .i64 0,.int .i64 0]⟩),
 (112,⟨[(0,4),(4,1)],true,5,[.int .i64 0,.int .i64 0,.int .i64 0,.int .i64 0,.int .i64 0]⟩),
 (113,⟨[(0,4),(4,1)],true,5,[.int .i64 0,.int .i64 0,.int .i64 0,.int .i64 0,.int .i64 0]⟩),
 (114,⟨[(0,1),(1,1)],true,2,[.int .i64 0,.int .i64 0]⟩),
 (115,⟨[(0,1),(1,1)],true,2,[.int .i64 0,.int .i64 0]⟩),
 (124,⟨[(0,1),(1,1)],true,2,[.int .i64 0,.int .i64 0]⟩),
 (125,⟨[(0,1),(1,1)],true,2,[.int .i64 0,.int .i64 0]⟩),
 (128,⟨[],false,1,[.int .u64 0]⟩),
 (136,⟨[],false,1,[]⟩),
 (146,⟨[(0,19),(19,1)],true,20,[.int .i64 0,.bool false,.slice none 0 0,.slice none 0 0,.slice none 0 0,.int .i64 0,.slice none 0 0,.int .i64 0,.slice none 0 0,.int .i64 0,.int .i64 0,.slice none 0 0,.slice none 0 0,.int .i64 0,.slice none 0 0,.slice none 0 0,.slice none 0 0,.slice none 0 0,.slice none 0 0,.int .i64 0]⟩),
 (171,⟨[],false,1,[]⟩),
 (181,⟨[],false,1,[.slice none 0 0]⟩),
 (198,⟨[(0,1),(1,1),(2,1),(3,1)],true,4,[]⟩),
 (199,⟨[(0,1),(1,1),(2,1),(3,1)],true,4,[]⟩),
 (201,⟨[(0,0)],true,0,[]⟩),
 (202,⟨[(0,0)],true,0,[]⟩),
 (204,⟨[],false,1,[.int .u32 0]⟩),
 (205,⟨[],false,1,[.int .u8 0]⟩),
 (206,⟨[],false,1,[.int .u8 0]⟩),
 (208,⟨[],false,1,[]⟩),
 (209,⟨[],false,1,[.int .i32 0]⟩),
 (210,⟨[],false,1,[.int .i32 0]⟩),
 (211,⟨[(0,1),(1,1),(2,1),(3,1),(4,1),(5,1),(6,1),(7,1),(8,1),(9,1),(10,1)],true,11,[]⟩),
 (212,⟨[(0,1),(1,1),(2,1),(3,1),(4,1),(5,1),(6,1),(7,1),(8,1),(9,1),(10,1)],true,11,[]⟩)]
theorem aa:fX Try.prog tt:=⟨⟨⟨_,Try.underlying46,rfl⟩,.inr (by kernel_rfl),by kernel_rfl,.inr ⟨by kernel_rfl,by kernel_rfl⟩⟩,
 ⟨⟨_,Try.underlying98,rfl⟩,.inr (by kernel_rfl),by kernel_rfl,.inr ⟨by kernel_rfl,by kernel_rfl⟩⟩,
 ⟨⟨_,Try.underlying147,rfl⟩,.inr (by kernel_rfl),by kernel_rfl,.inr ⟨by kernel_rfl,by kernel_rfl⟩⟩,
 ⟨⟨_,Try.underlying27,rfl⟩,.inr (by kernel_rfl),by kernel_rfl,.inr ⟨by kernel_rfl,by kernel_rfl⟩⟩,
 ⟨⟨_,Try.underlying3,rfl⟩,.inl rfl,by kernel_rfl,.inr ⟨by kernel_rfl,by kernel_rfl⟩⟩,
 ⟨⟨_,Try.underlying48,rfl⟩,.inl rfl,by kernel_rfl,.inr ⟨by kernel_rfl,by kernel_rfl⟩⟩,
 ⟨⟨_,Try.underlying4,rfl⟩,.inl rfl,by kernel_rfl,.inr ⟨by kernel_rfl,by kernel_rfl⟩⟩,
 ⟨⟨_,Try.underlying67,rfl⟩,.inr (by kernel_rfl),by kernel_rfl,.inr ⟨by kernel_rfl,by kernel_rfl⟩⟩,
 ⟨⟨_,Try.underlying61,rfl⟩,.inr (by kernel_rfl),by kernel_rfl,.inr ⟨by kernel_rfl,by kernel_rfl⟩⟩,
 ⟨⟨_,Try.underlying65,rfl⟩,.inr (by kernel_rfl),by kernel_rfl,.inr ⟨by kernel_rfl,by kernel_rfl⟩⟩,
 ⟨⟨_,Try.underlying80,rfl⟩,.inr (by kernel_rfl),by kernel_rfl,.inr ⟨by kernel_rfl,by kernel_rfl⟩⟩,
 ⟨⟨_,Try.underlying2,rfl⟩,.inl rfl,by kernel_rfl,.inr ⟨by kernel_rfl,by kernel_rfl⟩⟩,
 ⟨⟨_,Try.underlying5,rfl⟩,.inl rfl,by kernel_rfl,.inr ⟨by kernel_rfl,by kernel_rfl⟩⟩,
 ⟨⟨_,Try.underlying6,rfl⟩,.inl rfl,by kernel_rfl,.inr ⟨by kernel_rfl,by kernel_rfl⟩⟩,
 ⟨⟨_,Try.underlying7,rfl⟩,.inr (by kernel_rfl),by kernel_rfl,.inr ⟨by kernel_rfl,by kernel_rfl⟩⟩,
 ⟨⟨_,Try.underlying8,rfl⟩,.inr (by kernel_rfl),by kernel_rfl,.inr ⟨by kernel_rfl,by kernel_rfl⟩⟩,
 ⟨⟨_,Try.underlying9,rfl⟩,.inl rfl,by kernel_rfl,.inl rfl⟩,
 ⟨⟨_,Try.underlying10,rfl⟩,.inl rfl,by kernel_rfl,.inl rfl⟩,
 ⟨⟨_,Try.underlying11,rfl⟩,.inl rfl,by kernel_rfl,.inl rfl⟩,
 ⟨⟨_,Try.underlying12,rfl⟩,.inl rfl,by kernel_rfl,.inr ⟨by kernel_rfl,by kernel_rfl⟩⟩,
 ⟨⟨_,Try.underlying13,rfl⟩,.inr (by kernel_rfl),by kernel_rfl,.inl rfl⟩,
 ⟨⟨_,Try.underlying14,rfl⟩,.inr (by kernel_rfl),by kernel_rfl,.inl rfl⟩,
 ⟨⟨_,Try.underlying15,rfl⟩,.inl rfl,by kernel_rfl,.inl rfl⟩,
 ⟨⟨_,Try.underlying16,rfl⟩,.inl rfl,by kernel_rfl,.inl rfl⟩,
 ⟨⟨_,Try.underlying17,rfl⟩,.inl rfl,by kernel_rfl,.inl rfl⟩,
 ⟨⟨_,Try.underlying18,rfl⟩,.inr (by kernel_rfl),by kernel_rfl,.inl rfl⟩,
 ⟨⟨_,Try.underlying19,rfl⟩,.inr (by kernel_rfl),by kernel_rfl,.inl rfl⟩,
 ⟨⟨_,Try.underlying21,rfl⟩,.inl rfl,by kernel_rfl,.inr ⟨by kernel_rfl,by kernel_rfl⟩⟩,
 ⟨⟨_,Try.underlying24,rfl⟩,.inl rfl,by kernel_rfl,.inr ⟨by kernel_rfl,by kernel_rfl⟩⟩,
 ⟨⟨_,Try.underlying26,rfl⟩,.inr (by kernel_rfl),by kernel_rfl,.inr ⟨by kernel_rfl,by kernel_rfl⟩⟩,
 ⟨⟨_,Try.underlying29,rfl⟩,.inl rfl,by kernel_rfl,.inr ⟨by kernel_rfl,by kernel_rfl⟩⟩,
 ⟨⟨_,Try.underlying30,rfl⟩,.inl rfl,by kernel_rfl,.inr ⟨by kernel_rfl,by kernel_rfl⟩⟩,
 ⟨⟨_,Try.underlying31,rfl⟩,.inl rfl,by kernel_rfl,.inr ⟨by kernel_rfl,by kernel_rfl⟩⟩,
 ⟨⟨_,Try.underlying32,rfl⟩,.inl rfl,by kernel_rfl,.inr ⟨by kernel_rfl,by kernel_rfl⟩⟩,
 ⟨⟨_,Try.underlying33,rfl⟩,.inr (by kernel_rfl),by kernel_rfl,.inr ⟨by kernel_rfl,by kernel_rfl⟩⟩,
 ⟨⟨_,Try.underlying34,rfl⟩,.inr (by kernel_rfl),by kernel_rfl,.inr ⟨by kernel_rfl,by kernel_rfl⟩⟩,
 ⟨⟨_,Try.underlying37,rfl⟩,.inl rfl,by kernel_rfl,.inr ⟨by kernel_rfl,by kernel_rfl⟩⟩,
 ⟨⟨_,Try.underlying39,rfl⟩,.inl rfl,by kernel_rfl,.inr ⟨by kernel_rfl,by kernel_rfl⟩⟩,
 ⟨⟨_,Try.underlying40,rfl⟩,.inr (by kernel_rfl),by kernel_rfl,.inr ⟨by kernel_rfl,by kernel_rfl⟩⟩,
 ⟨⟨_,Try.underlying41,rfl⟩,.inr (by kernel_rfl),by kernel_rfl,.inr ⟨by kernel_rfl,by kernel_rfl⟩⟩,
 ⟨⟨_,Try.underlying42,rfl⟩,.inl rfl,by kernel_rfl,.inr ⟨by kernel_rfl,by kernel_rfl⟩⟩,
 ⟨⟨_,Try.underlying43,rfl⟩,.inl rfl,by kernel_rfl,.inr ⟨by kernel_rfl,by kernel_rfl⟩⟩,
 ⟨⟨_,Try.underlying44,rfl⟩,.inl rfl,by kernel_rfl,.inr ⟨by kernel_rfl,by kernel_rfl⟩⟩,
 ⟨⟨_,Try.underlying45,rfl⟩,.inr (by kernel_rfl),by kernel_rfl,.inr ⟨by kernel_rfl,by kernel_rfl⟩⟩,
 ⟨⟨_,Try.underlying47,rfl⟩,.inl rfl,by kernel_rfl,.inr ⟨by kernel_rfl,by kernel_rfl⟩⟩,
 ⟨⟨_,Try.underlying49,rfl⟩,.inr (by kernel_rfl),by kernel_rfl,.inr ⟨by kernel_rfl,by kernel_rfl⟩⟩,
 ⟨⟨_,Try.underlying50,rfl⟩,.inr (by kernel_rfl),by kernel_rfl,.inr ⟨by kernel_rfl,by kernel_rfl⟩⟩,
 ⟨⟨_,Try.underlying53,rfl⟩,.inl rfl,by kernel_rfl,.inr ⟨by kernel_rfl,by kernel_rfl⟩⟩,
 ⟨⟨_,Try.underlying54,rfl⟩,.inr (by kernel_rfl),by kernel_rfl,.inr ⟨by kernel_rfl,by kernel_rfl⟩⟩,
 ⟨⟨_,Try.underlying55,rfl⟩,.inr (by kernel_rfl),by kernel_rfl,.inr ⟨by kernel_rfl,by kernel_rfl⟩⟩,
 ⟨⟨_,Try.underlying57,rfl⟩,.inr (by kernel_rfl),by kernel_rfl,.inr ⟨by kernel_rfl,by kernel_rfl⟩⟩,
 ⟨⟨_,Try.underlying58,rfl⟩,.inr (by kernel_rfl),by kernel_rfl,.inr ⟨by kernel_rfl,by kernel_rfl⟩⟩,
 ⟨⟨_,Try.underlying59,rfl⟩,.inl rfl,by kernel_rfl,.inr ⟨by kernel_rfl,by kernel_rfl⟩⟩,
 ⟨⟨_,Try.underlying60,rfl⟩,.inr (by kernel_rfl),by kernel_rfl,.inr ⟨by kernel_rfl,by kernel_rfl⟩⟩,
 ⟨⟨_,Try.underlying64,rfl⟩,.inr (by kernel_rfl),by kernel_rfl,.inr ⟨by kernel_rfl,by kernel_rfl⟩⟩,
 ⟨⟨_,Try.underlying66,rfl⟩,.inr (by kernel_rfl),by kernel_rfl,.inr ⟨by kernel_rfl,by kernel_rfl⟩⟩,
 ⟨⟨_,Try.underlying79,rfl⟩,.inr (by kernel_rfl),by kernel_rfl,.inr ⟨by kernel_rfl,by kernel_rfl⟩⟩,
 ⟨⟨_,Try.underlying81,rfl⟩,.inl rfl,by kernel_rfl,.inr ⟨by kernel_rfl,by kernel_rfl⟩⟩,
 ⟨⟨_,Try.underlying82,rfl⟩,.inr (by kernel_rfl),by kernel_rfl,.inr ⟨by kernel_rfl,by kernel_rfl⟩⟩,
 ⟨⟨_,Try.underlying83,rfl⟩,.inr (by kernel_rfl),by kernel_rfl,.inr ⟨by kernel_rfl,by kernel_rfl⟩⟩,
 ⟨⟨_,Try.underlying86,rfl⟩,.inl rfl,by kernel_rfl,.inr ⟨by kernel_rfl,by kernel_rfl⟩⟩,
 ⟨⟨_,Try.underlying95,rfl⟩,.inl rfl,by kernel_rfl,.inl rfl⟩,
 ⟨⟨_,Try.underlying96,rfl⟩,.inl rfl,by kernel_rfl,.inr ⟨by kernel_rfl,by kernel_rfl⟩⟩,
 ⟨⟨_,Try.underlying97,rfl⟩,.inr (by kernel_rfl),by kernel_rfl,.inr ⟨by kernel_rfl,by kernel_rfl⟩⟩,
 ⟨⟨_,Try.underlying102,rfl⟩,.inl rfl,by kernel_rfl,.inl rfl⟩,
 ⟨⟨_,Try.underlying106,rfl⟩,.inr (by kernel_rfl),by kernel_rfl,.inr ⟨by kernel_rfl,by kernel_rfl⟩⟩,
 ⟨⟨_,Try.underlying107,rfl⟩,.inr (by kernel_rfl),by kernel_rfl,.inr ⟨by kernel_rfl,by kernel_rfl⟩⟩,
 ⟨⟨_,Try.underlying112,rfl⟩,.inr (by kernel_rfl),by kernel_rfl,.inr ⟨by kernel_rfl,by kernel_rfl⟩⟩,
 ⟨⟨_,Try.underlying113,rfl⟩,.inr (by kernel_rfl),by kernel_rfl,.inr ⟨by kernel_rfl,by kernel_rfl⟩⟩,
 ⟨⟨_,Try.underlying114,rfl⟩,.inr (by kernel_rfl),by kernel_rfl,.inr ⟨by kernel_rfl,by kernel_rfl⟩⟩,
 ⟨⟨_,Try.underlying115,rfl⟩,.inr (by kernel_rfl),by kernel_rfl,.inr ⟨by kernel_rfl,by kernel_rfl⟩⟩,
 ⟨⟨_,Try.underlying124,rfl⟩,.inr (by kernel_rfl),by kernel_rfl,.inr ⟨by kernel_rfl,by kernel_rfl⟩⟩,
 ⟨⟨_,Try.underlying125,rfl⟩,.inr (by kernel_rfl),by kernel_rfl,.inr ⟨by kernel_rfl,by kernel_rfl⟩⟩,
 ⟨⟨_,Try.underlying128,rfl⟩,.inl rfl,by kernel_rfl,.inr ⟨by kernel_rfl,by kernel_rfl⟩⟩,
 ⟨⟨_,Try.underlying136,rfl⟩,.inl rfl,by kernel_rfl,.inl rfl⟩,
 ⟨⟨_,Try.underlying146,rfl⟩,.inr (by kernel_rfl),by kernel_rfl,.inr ⟨by kernel_rfl,by kernel_rfl⟩⟩,
 ⟨⟨_,Try.underlying171,rfl⟩,.inl rfl,by kernel_rfl,.inl rfl⟩,
 ⟨⟨_,Try.underlying181,rfl⟩,.inl rfl,by kernel_rfl,.inr ⟨by kernel_rfl,by kernel_rfl⟩⟩,
 ⟨⟨_,Try.underlying198,rfl⟩,.inr (by kernel_rfl),by kernel_rfl,.inl rfl⟩,
 ⟨⟨_,Try.underlying199,rfl⟩,.inr (by kernel_rfl),by kernel_rfl,.inl rfl⟩,
 ⟨⟨_,Try.underlying201,rfl⟩,.inr (by kernel_rfl),by kernel_rfl,.inr ⟨by kernel_rfl,by kernel_rfl⟩⟩,
 ⟨⟨_,Try.underlying202,rfl⟩,.inr (by kernel_rfl),by kernel_rfl,.inr ⟨by kernel_rfl,by kernel_rfl⟩⟩,
 ⟨⟨_,Try.underlying204,rfl⟩,.inl rfl,by kernel_rfl,.inr ⟨by kernel_rfl,by kernel_rfl⟩⟩,
 ⟨⟨_,Try.underlying205,rfl⟩,.inl rfl,by kernel_rfl,.inr ⟨by kernel_rfl,by kernel_rfl⟩⟩,
 ⟨⟨_,Try.underlying206,rfl⟩,.inl rfl,by kernel_rfl,.inr ⟨by kernel_rfl,by kernel_rfl⟩⟩,
 ⟨⟨_,Try.underlying208,rfl⟩,.inl rfl,by kernel_rfl,.inl rfl⟩,
 ⟨⟨_,Try.underlying209,rfl⟩,.inl rfl,by kernel_rfl,.inr ⟨by kernel_rfl,by kernel_rfl⟩⟩,
 ⟨⟨_,Try.underlying210,rfl⟩,.inl rfl,by kernel_rfl,.inr ⟨by kernel_rfl,by kernel_rfl⟩⟩,
 ⟨⟨_,Try.underlying211,rfl⟩,.inr (by kernel_rfl),by kernel_rfl,.inl rfl⟩,
 ⟨⟨_,Try.underlying212,rfl⟩,.inr (by kernel_rfl),by kernel_rfl,.inl rfl⟩,trivial⟩
theorem au:(∀ g,fI [g]=.v g)/\(∀ a b l,fI (a::b::l)=.t (a::b::l))/\(fI []=.t [])/\(∀ c,aC c=.v (.c c))/\(∀ n,cI n=.d (.v (.int .i64 n)))/\(∀ b,cB b=.d (.v (.bool b)))/\(cN=.d (.v (.slice none 0 0)))/\(∀ K r,cR K r=.d (.r K r))/\(∀ n,dI n=.v (.int .i64 n))/\(∀ l:List Int,fG l=.d (.r 1 (l.map rI)))/\(∀ l:List Int,dF l=.arr 3 1 (l.map rI))/\(∀ l:List cT,fm l=.d (.r 2 (l.map gN)))/\(∀ l:List cT,oI l=.arr 125 2 (l.map gN))/\(∀ l:List ca,gM l=.d (.r 4 (l.map ic)))/\(∀ l:List ca,Ae l=.arr 107 4 (l.map ic))/\(∀ l:List aV,db l=.d (.r 4 (l.map ft)))/\(∀ l:List aV,xn l=.arr 80 4 (l.map ft))/\(∀ l:List Entry,dJ l=.d (.r 2 (l.map ey)))/\(∀ l:List Entry,lx l=.arr 115 2 (l.map ey))/\(∀ l:List al,iV l=.d (.r 4 (l.map gO)))/\(∀ l:List al,cF l=.arr 83 4 (l.map gO))/\(∀ l:List bx,Dh l=.d (.r 6 (l.map oS)))/\(∀ l:List bx,dN l=.arr 61 6 (l.map oS))/\(∀ l:List bB,yB l=.d (.r 8 (l.map iJ)))/\(∀ l:List bB,dU l=.arr 67 8 (l.map iJ))/\(∀ l:List bU,ej l=.d (.r 5 (l.map fe)))/\(∀ l:List bU,EJ l=.arr 113 5 (l.map fe))/\(∀ l:List Answer,Dg l=.d (.r 2 (l.map kW)))/\(∀ l:List Answer,EI l=.arr 65 2 (l.map kW))/\(∀ l:List aR,tZ l=.d (.r 6 (l.map cL)))/\(∀ l:List aR,vN l=.arr 27 6 (l.map cL))/\(∀ l:List Int,Di l=.d (.r 1 (l.map nC)))/\(∀ l:List Int,xo l=.arr 5 1 (l.map nC))/\(∀ l:List (List Int),Df l=.d (.r 1 (l.map rQ)))/\(∀ l:List (List Int),pI l=.arr 86 1 (l.map rQ)):=⟨fun _=>rfl,fun _ _ _=>rfl,rfl,fun _=>rfl,fun _=>rfl,fun _=>rfl,rfl,fun _ _=>rfl,fun _=>rfl,fun _=>rfl,fun _=>rfl,fun _=>rfl,fun _=>rfl,fun _=>rfl,fun _=>rfl,fun _=>rfl,fun _=>rfl,fun _=>rfl,fun _=>rfl,fun _=>rfl,fun _=>rfl,fun _=>rfl,fun _=>rfl,fun _=>rfl,fun _=>rfl,fun _=>rfl,fun _=>rfl,fun _=>rfl,fun _=>rfl,fun _=>rfl,fun _=>rfl,fun _=>rfl,fun _=>rfl,fun _=>rfl,fun _=>rfl⟩


def iF {α:Type} (l:List α) (i:Nat) (x:α):List α:=l.take i++[x]++l.drop i
theorem AU {α:Type} {l:List α} {i:Nat} {x:α} (h:i<=l.length):(iF l i x).length=l.length+1:=by
  simp [iF];omega
theorem AW {α:Type} {l:List α} {x:α}:iF l l.length x=l++[x]:=by simp [iF]
theorem zn {α:Type} {l:List α} {i n:Nat} {x:α} (hi:i < l.length) (hn:n=l.length - i):((l.take (i+1)++(l.drop i).take n).take i++[x]++(l.take (i+1)++(l.drop i).take n).drop (i+1))=iF l i x:=by
  subst hn
  have h1:(l.take (i+1)).length=i+1:=by rw [List.length_take];omega
  rw [List.take_append_of_le_length (by omega),List.take_take,Nat.min_eq_left (by omega),List.drop_append,List.drop_of_length_le (by omega),h1,Nat.sub_self,List.drop_zero,List.nil_append,List.take_of_length_le (l:=l.drop i) (by rw [List.length_drop];omega)]
  rfl
theorem zo {α:Type} {l:List α} {i m n:Nat} {x z:α} (hi:i < l.length) (hm:m=l.length+1 - i) (hn:n=l.length - i):
    (((l.take i++List.replicate m z).take i++[x]++(l.take i++List.replicate m z).drop (i+1)).take (i+1)++(l.drop i).take n)=iF l i x:=by
  subst hm hn
  have h1:(l.take i).length=i:=by rw [List.length_take];omega
  rw [List.take_append_of_le_length (l₁:=l.take i) (by omega),List.take_take,Nat.min_self,List.take_append_of_le_length (by rw [List.length_append,h1];simp),List.take_of_length_le (l:=l.take i++[x]) (by rw [List.length_append,h1];simp),List.take_of_length_le (l:=l.drop i) (by rw [List.length_drop];omega)]
  rfl

theorem sf (l:List Entry) (i:Nat) (x:Entry) (hi:i<=l.length) (hl:(l.length+1) * 16<=140737488355328) (r:List Entry) (hr:iF l i x=r):cz Try.prog 121 [(.c (.s 0 0 2 l.length)),(.c (cI (↑i:Int))),(.c (.s 1 0 2 1))] [(1,(lx ([x]))),(0,(lx l))] [] (.v (.c (.s 0 0 2 r.length))) [(0,(lx r))]:=by
 refine cz.mk 95 [(0,(aC (.s 0 0 2 l.length))),(1,(aI (↑i:Int))),(2,(aC (.s 1 0 2 1)))] 2 Try.func121 rfl rfl rfl rfl rfl rfl rfl rfl rfl ?_
 intro W0 F0 T0 pg
 refine fN 0 rfl (fun hlen0=>?_)
 refine fN 2 rfl (fun hlen2=>?_)
 refine ad aa 1 rfl ?_
 refine aA aa 2 rfl ?_
 refine ax (vc (l:=i) (h:=l.length) rfl Try.underlying44 dX rfl (.inr ⟨_,rfl,rfl⟩) (.inl ⟨rfl,rfl,rfl⟩) (.inl rfl) (by first|omega|(simp;done)|(simp;omega)) (by first|omega|(simp;done)|(simp;omega))) rfl ?_
 refine ae ?_
 refine aA aa 1 rfl ?_
 refine ax (dn rfl rfl rfl rfl rfl Try.underlying44) rfl ?_
 refine ab aa 1 rfl ?_
 refine ae ?_
 refine af ?_
 refine aA aa 1 rfl ?_
 refine ax (aJ rfl rfl rfl (show _=some (Value.bool false) from rfl)) rfl ?_
 refine ae ?_
 refine ag rfl (fun hno=>by cases hno) (fun _=>?_)
 refine aN ?_
 refine aA aa 1 rfl ?_
 refine ax (dn rfl rfl rfl rfl rfl Try.underlying44) rfl ?_
 refine ab aa 1 rfl ?_
 refine ae ?_
 refine af ?_
 refine ad aa 3 rfl ?_
 refine ag rfl (fun hc2=>?_) (fun hc2=>?_)
 ·
  have hc2':=of_decide_eq_true hc2
  refine aA aa 2 rfl ?_
  refine aL 3 [2,1] (de (m:=1) (N:=l.length+1) (k2:=2) (ys:=([x]).map ey) jN rfl rfl rfl rfl rfl rfl (by first|omega|(simp;done)|(simp;omega)) rfl (.s rfl (by first|omega|(simp;done)|(simp;omega))) (by first|omega|(simp;done)|(simp;omega)) (by first|omega|(simp;done)|(simp;omega)) eY (by decide) (by first|omega|(simp;done)|(simp;omega)) (by first|omega|(simp;done)|(simp;omega))) rfl ?_
  refine ab aa 1 rfl ?_
  refine ae ?_
  refine ar ?_
  refine ao ?_
  have hX:iF l i x=(l++([x])):=by
    obtain rfl:i=l.length:=by omega
    exact AW
  rw [hX] at hr;clear hX
  subst hr
  refine ah aa [2] 1 rfl rfl rfl rfl rfl rfl ?_ ?_
  all_goals first|rfl|(simp [au];done)|(simp [au];omega)
 have hc2':=of_decide_eq_false hc2
 refine aN ?_
 refine af ?_
 refine sn 0 rfl (by first|omega|(simp;done)|(simp;omega)) (fun cap1 hcap1 hmcap1=>?_)
 refine aA aa 2 rfl ?_
 refine ax (aJ rfl rfl rfl (aF (by first|omega|(simp;done)|(simp;omega)))) rfl ?_
 refine ab aa 1 rfl ?_
 refine ax (DR Try.underlying44 rfl rfl rfl rfl rfl) rfl ?_
 refine ab aa 1 rfl ?_
 refine ae ?_
 refine ag rfl (fun hc3=>?_) (fun hc3=>?_)
 ·
  have hc3':=of_decide_eq_true hc3
  refine aA aa 2 rfl ?_
  refine ax (fP (l:=0) (h:=i) (m:=cap1) (n':=i) (c':=cap1) (E':=true) rfl Try.underlying44 dX rfl (.inl ⟨rfl,rfl⟩) (.inr ⟨_,rfl,rfl⟩) (.inl ⟨rfl,rfl⟩) (by first|omega|(simp;done)|(simp;omega)) (by first|omega|(simp;done)|(simp;omega)) (by first|omega|(simp;done)|(simp;omega)) (by first|omega|(simp;done)|(simp;omega)) (by first|omega|(simp;done)|(simp;omega)) (by simp)) rfl ?_
  refine ab aa 2 rfl ?_
  refine ax (aJ rfl rfl rfl (aF (by first|omega|(simp;done)|(simp;omega)))) rfl ?_
  refine ab aa 1 rfl ?_
  refine ax (aJ rfl rfl rfl (aF (by first|omega|(simp;done)|(simp;omega)))) rfl ?_
  refine aL 3 [2,1,0] (DS (m:=((l.length)+1) - (i)) (N:=l.length+1) (rows':=((l).take i++List.replicate (((l.length)+1) - (i)) (⟨0,0⟩:Entry)).map ey) 2 jN Ca rfl rfl Try.underlying3 rfl rfl rfl rfl rfl rfl (xc rfl (by first|omega|(simp;done)|(simp;omega))) (by first|omega|(simp;done)|(simp;omega)) (by first|omega|(simp;done)|(simp;omega)) (by first|omega|(simp;done)|(simp;omega)) (by first|omega|(simp;done)|(simp;omega)) (by first|omega|(simp;done)|(simp;omega)) (by first|omega|(simp;done)|(simp;omega)) (by rw [List.map_append,List.map_take,List.map_replicate];rfl)) rfl ?_
  refine ab aa 1 rfl ?_
  refine ae ?_
  refine sn 9 rfl (by first|omega|(simp;done)|(simp;omega)) (fun cap2 hcap2 hmcap2=>?_)
  refine aA aa 2 rfl ?_
  refine ax (aH.cast (fP (l:=i) (h:=l.length+1) (m:=cap2) (n':=(l.length+1) - i) (c':=cap2 - i) (E':=true) rfl Try.underlying44 dX rfl (.inr ⟨_,rfl,rfl⟩) (.inl ⟨rfl,rfl,rfl⟩) (.inl ⟨rfl,rfl⟩) (by first|omega|(simp;done)|(simp;omega)) (by first|omega|(simp;done)|(simp;omega)) (by first|omega|(simp;done)|(simp;omega)) (by first|omega|(simp;done)|(simp;omega)) (by first|omega|(simp;done)|(simp;omega)) (by simp)) (show _=(aC (.sx 2 i 2 ((l.length+1) - i) (cap2 - i) true)) by first|rfl|(simp only [Nat.zero_add,Nat.add_zero];rfl))) rfl ?_
  refine ab aa 1 rfl ?_
  refine aL 3 [2,1,0] (oV (m:=1) (len:=1) (ys:=(([x]).take 1).map ey) (rows':=((l.take i++List.replicate (l.length+1 - i) (⟨0,0⟩:Entry)).take i++[x]++(l.take i++List.replicate (l.length+1 - i) (⟨0,0⟩:Entry)).drop (i+1)).map ey) jN rfl rfl rfl rfl rfl rfl rfl (.s rfl (by first|omega|(simp;done)|(simp;omega)) (by first|omega|(simp;done)|(simp;omega)) (by first|(simp [List.map_take,List.map_drop];done)|(rw [List.map_take];rfl))) (by first|omega|(simp;done)|(simp;omega)) (by first|omega|(simp;done)|(simp;omega)) (by first|omega|(simp;done)|(simp;omega)) (by simp [List.map_take,List.map_drop])) rfl ?_
  refine ae ?_
  refine af ?_
  refine cW [9,0,1,2,7,8] [2,1,0] mixed rfl rfl ?_
  refine bQ (kn:=[]) aa 3 rfl trivial ?_
  refine bV (n':=3) [47,48] [] rfl rfl (.inl ⟨(aj.plain rfl),aH.cast (aJ rfl rfl rfl (aF (by first|omega|(simp;done)|(simp;omega)))) rfl⟩) rfl ?_
  refine bV (n':=3) [46,49] [2] rfl rfl (.inl ⟨(aj.plain rfl),aH.cast (aH.cast (fP (l:=(i)+1) (h:=l.length+1) (m:=cap2) (n':=(l.length+1) - ((i)+1)) (c':=cap2 - ((i)+1)) (E':=true) rfl Try.underlying44 dX rfl (.inr ⟨_,rfl,(xc rfl (by first|omega|(simp;done)|(simp;omega)))⟩) (.inl ⟨rfl,rfl,rfl⟩) (.inl ⟨rfl,rfl⟩) (by first|omega|(simp;done)|(simp;omega)) (by first|omega|(simp;done)|(simp;omega)) (by first|omega|(simp;done)|(simp;omega)) (by first|omega|(simp;done)|(simp;omega)) (by first|omega|(simp;done)|(simp;omega)) (by simp)) (show _=(aC (.sx 2 ((i)+1) 2 ((l.length+1) - ((i)+1)) (cap2 - ((i)+1)) true)) by first|rfl|(simp only [Nat.zero_add,Nat.add_zero];rfl))) rfl⟩) rfl ?_
  refine bQ (kn:=[]) aa 2 rfl trivial ?_
  refine bV (n':=3) [51,52] [0] rfl rfl (.inl ⟨(aj.plain rfl),aH.cast (aH.cast (fP (l:=i) (h:=l.length) (m:=cap1) (n':=l.length - i) (c':=cap1 - i) (E':=true) rfl Try.underlying44 dX rfl (.inr ⟨_,rfl,rfl⟩) (.inl ⟨rfl,rfl,rfl⟩) (.inl ⟨rfl,rfl⟩) (by first|omega|(simp;done)|(simp;omega)) (by first|omega|(simp;done)|(simp;omega)) (by first|omega|(simp;done)|(simp;omega)) (by first|omega|(simp;done)|(simp;omega)) (by first|omega|(simp;done)|(simp;omega)) (by simp)) (show _=(aC (.sx 0 i 2 (l.length - i) (cap1 - i) true)) by first|rfl|(simp only [Nat.zero_add,Nat.add_zero];rfl))) rfl⟩) rfl ?_
  refine bV (n':=3) [50,53] [0,2] rfl rfl (.inl ⟨(aj.plain rfl),aH.cast (oV (m:=l.length - i) (len:=l.length - i) (ys:=(((l).drop i).take (l.length - i)).map ey) (rows':=(((l.take i++List.replicate (l.length+1 - i) (⟨0,0⟩:Entry)).take i++[x]++(l.take i++List.replicate (l.length+1 - i) (⟨0,0⟩:Entry)).drop (i+1)).take (i+1)++(l.drop i).take (l.length - i)).map ey) jN rfl rfl rfl rfl rfl rfl rfl (.x rfl (by first|omega|(simp;done)|(simp;omega)) (by first|omega|(simp;done)|(simp;omega)) (by first|(simp [List.map_take,List.map_drop];done)|(rw [List.map_take];rfl))) (by first|omega|(simp;done)|(simp;omega)) (by first|omega|(simp;done)|(simp;omega)) (by first|omega|(simp;done)|(simp;omega)) (by rw [List.drop_of_length_le (i:=i+1+(l.length - i)) (by simp only [List.length_append,List.length_take,List.length_drop,List.length_map,List.length_replicate,List.length_cons,List.length_nil];omega),List.append_nil];simp [List.map_take,List.map_drop])) rfl⟩) rfl ?_
  refine dO [9,0,1,2,7,8] [2,1,0] rfl rfl (by kernel_rfl) ?_
  refine then_ok ?_
  refine ad aa 2 rfl ?_
  refine ar ?_
  refine ao ?_
  refine cQ (aD.Cb 6 rfl (by first|omega|(simp;done)|(simp;omega))) ?_
  have hX:iF l i x=(((l.take i++List.replicate (l.length+1 - i) (⟨0,0⟩:Entry)).take i++[x]++(l.take i++List.replicate (l.length+1 - i) (⟨0,0⟩:Entry)).drop (i+1)).take (i+1)++(l.drop i).take (l.length - i)):=by
    exact (zo (by omega) rfl rfl).symm
  rw [hX] at hr;clear hX
  subst hr
  refine ah aa [2] 1 rfl rfl rfl rfl rfl rfl ?_ ?_
  all_goals first|rfl|(simp [au];done)|(simp [au];omega)
 have hc3':=of_decide_eq_false hc3
 refine aN ?_
 refine aA aa 3 rfl ?_
 refine ax (aJ rfl rfl rfl (aF (by first|omega|(simp;done)|(simp;omega)))) rfl ?_
 refine ax (fP (l:=0) (h:=(l.length)+1) (m:=cap1) (n':=(l.length)+1) (c':=cap1) (E':=true) rfl Try.underlying44 dX rfl (.inl ⟨rfl,rfl⟩) (.inr ⟨_,rfl,(xc rfl (by first|omega|(simp;done)|(simp;omega)))⟩) (.inl ⟨rfl,rfl⟩) (by first|omega|(simp;done)|(simp;omega)) (by first|omega|(simp;done)|(simp;omega)) (by first|omega|(simp;done)|(simp;omega)) (by first|omega|(simp;done)|(simp;omega)) (by first|omega|(simp;done)|(simp;omega)) (by simp)) rfl ?_
 refine ab aa 1 rfl ?_
 refine ae ?_
 refine af ?_
 refine aA aa 4 rfl ?_
 refine ax (aJ rfl rfl rfl (aF (by first|omega|(simp;done)|(simp;omega)))) rfl ?_
 refine ax (aH.cast (fP (l:=(i)+1) (h:=(l.length)+1) (m:=cap1) (n':=((l.length)+1) - ((i)+1)) (c':=cap1 - ((i)+1)) (E':=true) rfl Try.underlying44 dX rfl (.inr ⟨_,rfl,(xc rfl (by first|omega|(simp;done)|(simp;omega)))⟩) (.inl ⟨rfl,rfl,rfl⟩) (.inl ⟨rfl,rfl⟩) (by first|omega|(simp;done)|(simp;omega)) (by first|omega|(simp;done)|(simp;omega)) (by first|omega|(simp;done)|(simp;omega)) (by first|omega|(simp;done)|(simp;omega)) (by first|omega|(simp;done)|(simp;omega)) (by simp)) (show _=(aC (.sx 0 ((i)+1) 2 (((l.length)+1) - ((i)+1)) (cap1 - ((i)+1)) true)) by first|rfl|(simp only [Nat.zero_add,Nat.add_zero];rfl))) rfl ?_
 refine ax (xW (fn:=Try.f124) (tr:=4) jN Try.func124 (by kernel_rfl) (by kernel_rfl) (by kernel_rfl) (by kernel_rfl) rfl rfl rfl rfl (by first|omega|(simp;done)|(simp;omega)) rfl (by first|omega|(simp;done)|(simp;omega)) rfl rfl (by decide)) rfl ?_
 refine ab aa 1 rfl ?_
 refine ae ?_
 refine ag rfl (fun _=>?_) (fun hno=>by cases hno)
 refine af ?_
 refine cW [0,1,2,7,8] [1,0] mixed rfl rfl ?_
 refine bQ (kn:=[]) aa 3 rfl trivial ?_
 refine bV (n':=2) [70,71] [] rfl rfl (.inl ⟨(aj.plain rfl),aH.cast (aJ rfl rfl rfl (aF (by first|omega|(simp;done)|(simp;omega)))) rfl⟩) rfl ?_
 refine bV (n':=2) [69,72] [0] rfl rfl (.inl ⟨(aj.plain rfl),aH.cast (aH.cast (fP (l:=(i)+1) (h:=(l.length)+1) (m:=cap1) (n':=((l.length)+1) - ((i)+1)) (c':=cap1 - ((i)+1)) (E':=true) rfl Try.underlying44 dX rfl (.inr ⟨_,rfl,(xc rfl (by first|omega|(simp;done)|(simp;omega)))⟩) (.inl ⟨rfl,rfl,rfl⟩) (.inl ⟨rfl,rfl⟩) (by first|omega|(simp;done)|(simp;omega)) (by first|omega|(simp;done)|(simp;omega)) (by first|omega|(simp;done)|(simp;omega)) (by first|omega|(simp;done)|(simp;omega)) (by first|omega|(simp;done)|(simp;omega)) (by simp)) (show _=(aC (.sx 0 ((i)+1) 2 (((l.length)+1) - ((i)+1)) (cap1 - ((i)+1)) true)) by first|rfl|(simp only [Nat.zero_add,Nat.add_zero];rfl))) rfl⟩) rfl ?_
 refine bQ (kn:=[]) aa 2 rfl trivial ?_
 refine bV (n':=2) [74,75] [0] rfl rfl (.inl ⟨(aj.plain rfl),aH.cast (aH.cast (fP (l:=i) (h:=(l.length)+1) (m:=cap1) (n':=((l.length)+1) - i) (c':=cap1 - i) (E':=true) rfl Try.underlying44 dX rfl (.inr ⟨_,rfl,rfl⟩) (.inl ⟨rfl,rfl,rfl⟩) (.inl ⟨rfl,rfl⟩) (by first|omega|(simp;done)|(simp;omega)) (by first|omega|(simp;done)|(simp;omega)) (by first|omega|(simp;done)|(simp;omega)) (by first|omega|(simp;done)|(simp;omega)) (by first|omega|(simp;done)|(simp;omega)) (by simp)) (show _=(aC (.sx 0 i 2 (((l.length)+1) - i) (cap1 - i) true)) by first|rfl|(simp only [Nat.zero_add,Nat.add_zero];rfl))) rfl⟩) rfl ?_
 refine bV (n':=2) [73,76] [0] rfl rfl (.inl ⟨(aj.plain rfl),aH.cast (oV (m:=l.length - i) (len:=((l.length)+1) - i) (ys:=(((l).drop i).take (l.length - i)).map ey) (rows':=(l.take (i+1)++(l.drop i).take (l.length - i)).map ey) jN rfl rfl rfl rfl rfl rfl rfl (.x rfl (by first|omega|(simp;done)|(simp;omega)) (by first|omega|(simp;done)|(simp;omega)) (by first|(simp [List.map_take,List.map_drop];done)|(rw [List.map_take];rfl))) (by first|omega|(simp;done)|(simp;omega)) (by first|omega|(simp;done)|(simp;omega)) (by first|omega|(simp;done)|(simp;omega)) (by rw [List.drop_of_length_le (i:=i+1+(l.length - i)) (by simp only [List.length_append,List.length_take,List.length_drop,List.length_map,List.length_replicate,List.length_cons,List.length_nil];omega),List.append_nil];simp [List.map_take,List.map_drop])) rfl⟩) rfl ?_
 refine dO [0,1,2,7,8] [0,1] rfl rfl (by kernel_rfl) ?_
 refine then_ok ?_
 refine aA aa 2 rfl ?_
 refine ax (aH.cast (fP (l:=i) (h:=(l.length)+1) (m:=cap1) (n':=((l.length)+1) - i) (c':=cap1 - i) (E':=true) rfl Try.underlying44 dX rfl (.inr ⟨_,rfl,rfl⟩) (.inl ⟨rfl,rfl,rfl⟩) (.inl ⟨rfl,rfl⟩) (by first|omega|(simp;done)|(simp;omega)) (by first|omega|(simp;done)|(simp;omega)) (by first|omega|(simp;done)|(simp;omega)) (by first|omega|(simp;done)|(simp;omega)) (by first|omega|(simp;done)|(simp;omega)) (by simp)) (show _=(aC (.sx 0 i 2 (((l.length)+1) - i) (cap1 - i) true)) by first|rfl|(simp only [Nat.zero_add,Nat.add_zero];rfl))) rfl ?_
 refine ab aa 1 rfl ?_
 refine aL 2 [0,1] (oV (m:=1) (len:=1) (ys:=(([x]).take 1).map ey) (rows':=((l.take (i+1)++(l.drop i).take (l.length - i)).take i++[x]++(l.take (i+1)++(l.drop i).take (l.length - i)).drop (i+1)).map ey) jN rfl rfl rfl rfl rfl rfl rfl (.s rfl (by first|omega|(simp;done)|(simp;omega)) (by first|omega|(simp;done)|(simp;omega)) (by first|(simp [List.map_take,List.map_drop];done)|(rw [List.map_take];rfl))) (by first|omega|(simp;done)|(simp;omega)) (by first|omega|(simp;done)|(simp;omega)) (by first|omega|(simp;done)|(simp;omega)) (by simp [List.map_take,List.map_drop])) rfl ?_
 refine ae ?_
 refine ad aa 2 rfl ?_
 refine ar ?_
 refine ao ?_
 refine cQ (aD.Cb 6 rfl (by first|omega|(simp;done)|(simp;omega))) ?_
 have hX:iF l i x=((l.take (i+1)++(l.drop i).take (l.length - i)).take i++[x]++(l.take (i+1)++(l.drop i).take (l.length - i)).drop (i+1)):=by
   exact (zn (by omega) rfl).symm
 rw [hX] at hr;clear hX
 subst hr
 refine ah aa [0] 1 rfl rfl rfl rfl rfl rfl ?_ ?_
 all_goals first|rfl|(simp [au];done)|(simp [au];omega)


def kE {α:Type} (l:List α) (i j:Nat):List α:=l.take i++l.drop j
theorem zI {α:Type} {l:List α} {i j n m:Nat} (hi:i<=j) (hj:j<=l.length) (hn:n=l.length - j) (hm:m=i+n):((l.take i++(l.drop j).take n++l.drop m).take m)=kE l i j:=by
  subst hn hm
  have h1:(l.take i).length=i:=by rw [List.length_take];omega
  rw [List.take_of_length_le (l:=l.drop j) (by rw [List.length_drop];omega),List.take_append_of_le_length (by rw [List.length_append,h1,List.length_drop];omega),List.take_of_length_le (by rw [List.length_append,h1,List.length_drop];omega)]
  rfl

theorem iO (l:List Entry) (i j:Nat) (hi:i < j) (hj:j<=l.length) (r:List Entry) (hr:kE l i j=r):cz Try.prog 122 [(.c (.s 0 0 2 l.length)),(.c (cI (↑i:Int))),(.c (cI (↑j:Int)))] [(0,(lx l))] [] (.v (.c (.s 0 0 2 r.length))) [(0,(lx r))]:=by
 refine cz.mk 33 [(0,(aC (.s 0 0 2 l.length))),(1,(aI (↑i:Int))),(2,(aI (↑j:Int)))] 1 Try.func122 rfl rfl rfl rfl rfl rfl rfl rfl rfl ?_
 intro W0 F0 T0 pg
 refine fN 0 rfl (fun hlen0=>?_)
 refine ad aa 1 rfl ?_
 refine aA aa 4 rfl ?_
 refine ax (dn rfl rfl rfl rfl rfl Try.underlying44) rfl ?_
 refine ax (vc (l:=i) (h:=j) rfl Try.underlying44 dX rfl (.inr ⟨_,rfl,rfl⟩) (.inr ⟨_,rfl,rfl⟩) (.inr ⟨_,l.length,rfl,rfl,by first|omega|(simp;done)|(simp;omega),by first|omega|(simp;done)|(simp;omega)⟩) (by first|omega|(simp;done)|(simp;omega)) (by first|omega|(simp;done)|(simp;omega))) rfl ?_
 refine ae ?_
 refine af ?_
 refine ad aa 3 rfl ?_
 refine ag rfl (fun hc1=>?_) (fun hc1=>?_)
 ·
  have hc1':=of_decide_eq_true hc1
  refine ad aa 2 rfl ?_
  refine ar ?_
  refine ao ?_
  have hX:kE l i j=l:=by
    exfalso;omega
  rw [hX] at hr;clear hX
  subst hr
  refine ah aa [0] 1 rfl rfl rfl rfl rfl rfl ?_ ?_
  all_goals first|rfl|(simp [au];done)|(simp [au];omega)
 have hc1':=of_decide_eq_false hc1
 refine aN ?_
 refine aA aa 1 rfl ?_
 refine ax (dn rfl rfl rfl rfl rfl Try.underlying44) rfl ?_
 refine ab aa 1 rfl ?_
 refine ae ?_
 refine sn 0 rfl (by first|omega|(simp;done)|(simp;omega)) (fun cap1 hcap1 hmcap1=>?_)
 refine af ?_
 refine cW [0,1,2,7] [0] mixed rfl rfl ?_
 refine bQ (kn:=[]) aa 2 rfl trivial ?_
 refine bV (n':=1) [20,21] [0] rfl rfl (.inl ⟨(aj.plain rfl),aH.cast (fP (l:=0) (h:=i) (m:=cap1) (n':=i) (c':=cap1) (E':=true) rfl Try.underlying44 dX rfl (.inl ⟨rfl,rfl⟩) (.inr ⟨_,rfl,rfl⟩) (.inl ⟨rfl,rfl⟩) (by first|omega|(simp;done)|(simp;omega)) (by first|omega|(simp;done)|(simp;omega)) (by first|omega|(simp;done)|(simp;omega)) (by first|omega|(simp;done)|(simp;omega)) (by first|omega|(simp;done)|(simp;omega)) (by simp)) rfl⟩) rfl ?_
 refine bQ (kn:=[]) aa 2 rfl trivial ?_
 refine bV (n':=1) [23,24] [0] rfl rfl (.inl ⟨(aj.plain rfl),aH.cast (aH.cast (fP (l:=j) (h:=l.length) (m:=cap1) (n':=l.length - j) (c':=cap1 - j) (E':=true) rfl Try.underlying44 dX rfl (.inr ⟨_,rfl,rfl⟩) (.inl ⟨rfl,rfl,rfl⟩) (.inl ⟨rfl,rfl⟩) (by first|omega|(simp;done)|(simp;omega)) (by first|omega|(simp;done)|(simp;omega)) (by first|omega|(simp;done)|(simp;omega)) (by first|omega|(simp;done)|(simp;omega)) (by first|omega|(simp;done)|(simp;omega)) (by simp)) (show _=(aC (.sx 0 j 2 (l.length - j) (cap1 - j) true)) by first|rfl|(simp only [Nat.zero_add,Nat.add_zero];rfl))) rfl⟩) rfl ?_
 refine bV (n':=1) [22,25] [0] rfl rfl (.inl ⟨(aj.plain rfl),aH.cast (CL (m:=l.length - j) (N:=i+(l.length - j)) (ys:=(((l).drop j).take (l.length - j)).map ey) (rows':=((l).take i++(((l).drop j).take (l.length - j))++(l).drop (i+(l.length - j))).map ey) jN rfl rfl rfl rfl rfl rfl rfl (.x rfl (by first|omega|(simp;done)|(simp;omega)) (by first|omega|(simp;done)|(simp;omega)) (by first|(simp [List.map_take,List.map_drop];done)|(rw [List.map_take];rfl))) (by first|exact .inr ⟨_,_,_,_,rfl⟩|(left;omega)) (by first|omega|(simp;done)|(simp;omega)) (by first|omega|(simp;done)|(simp;omega)) (by first|omega|(simp;done)|(simp;omega)) (by first|omega|(simp;done)|(simp;omega)) (by simp [List.map_take,List.map_drop])) rfl⟩) rfl ?_
 refine bQ (kn:=[]) aa 1 rfl trivial ?_
 refine dO [0,7] [0] rfl rfl (by kernel_rfl) ?_
 refine then_ok ?_
 refine aA aa 2 rfl ?_
 refine ax (DP Try.underlying44 rfl rfl rfl rfl rfl) rfl ?_
 refine ab aa 1 rfl ?_
 refine ax (aH.cast (fP (l:=i+(l.length - j)) (h:=l.length) (m:=cap1) (n':=l.length - (i+(l.length - j))) (c':=cap1 - (i+(l.length - j))) (E':=true) rfl Try.underlying44 dX rfl (.inr ⟨_,rfl,(xc rfl (by first|omega|(simp;done)|(simp;omega)))⟩) (.inr ⟨_,rfl,rfl⟩) (.inl ⟨rfl,rfl⟩) (by first|omega|(simp;done)|(simp;omega)) (by first|omega|(simp;done)|(simp;omega)) (by first|omega|(simp;done)|(simp;omega)) (by first|omega|(simp;done)|(simp;omega)) (by first|omega|(simp;done)|(simp;omega)) (by simp)) (show _=(aC (.sx 0 (i+(l.length - j)) 2 (l.length - (i+(l.length - j))) (cap1 - (i+(l.length - j))) true)) by first|rfl|(simp only [Nat.zero_add,Nat.add_zero];rfl))) rfl ?_
 refine kZ (aD.Cb 31 rfl (by first|omega|(simp;done)|(simp;omega))) ?_
 refine fY [0] (rV (rows':=(((l).take i++(((l).drop j).take (l.length - j))++(l).drop (i+(l.length - j))).take (i+(l.length - j))).map ey) jN Ca rfl rfl rfl rfl rfl rfl rfl rfl rfl (by simp [List.map_take])) rfl ?_
 refine ae ?_
 refine ad aa 2 rfl ?_
 refine ar ?_
 refine cQ (aD.Cb 6 rfl (by first|omega|(simp;done)|(simp;omega))) ?_
 have hX:kE l i j=(((l).take i++(((l).drop j).take (l.length - j))++(l).drop (i+(l.length - j))).take (i+(l.length - j))):=by
   exact (zI (by omega) hj rfl rfl).symm
 rw [hX] at hr;clear hX
 subst hr
 refine ah aa [0] 1 rfl rfl rfl rfl rfl rfl ?_ ?_
 all_goals first|rfl|(simp [au];done)|(simp [au];omega)
section
theorem jX {a:Int} (h:0<=a/\a<=18446744073709551615):Value.int .u64 (IntKind.u64.wrap a)=.int .u64 a:=by
 have:IntKind.u64.wrap a=a:=by simp [IntKind.wrap,IntKind.bits,IntKind.signed];omega
 rw [this]
section
variable {P:Program} {st:aE} {o:Oper}
theorem mz {xt yt:TypeId} {x y:Operand} {a r:Int} (ho:o.op=.binOp .shr xt x y yt) (hx:ev st x (.v (.c (.d (.v (.int .u64 a)))))) (hy:ev st y (.v (.c (.d (.v (.int .u64 1)))))) (hr:a / 2=r):aH P o st (.v (.c (.d (.v (.int .u64 r))))) [] []:=
 aH.val fun σ T ac w C=>by
  have h1:=br.inv (bK C hx)
  have h2:=br.inv (bK C hy)
  subst hr
  refine ⟨.int .u64 (a / 2),?_,br.v _ rfl⟩
  unfold execOp
  have h3:=shift_shr .u64 .u64 a 1 (by decide) (by decide)
  simp [ho,h1,h2,binOp,eqGuard,h3]
end
end


def ef (a b:Int):Int:=if a < b then -1 else if a > b then 1 else 0
def Up (l:List Entry):Prop:=l.Pairwise fun x y=>x.aO < y.aO
def dV:List Entry->Int->Nat
  |[],_=>0
  |x::l,t=>if x.aO < t then dV l t+1 else 0
def fv (l:List Entry) (t:Int):Bool:=match l[dV l t]? with
  |some x=>decide (x.aO=t)
  |none=>false
def tu (l:List Entry) (t:Int):Int×Bool:=(dV l t,fv l t)
theorem mu (t:Int):∀ l:List Entry,dV l t<=l.length
  |[]=>Nat.le_refl _
  |x::l=>by
    have:=mu t l
    unfold dV
    split
    ·rw [List.length_cons];omega
    ·exact Nat.zero_le _
theorem wK {t:Int}:∀ {l:List Entry} {q:Nat} {x:Entry},l[q]?=some x->q < dV l t->x.aO < t
  |[],q,x,h,_=>by simp at h
  |y::l,q,x,h,hq=>by
    unfold dV at hq
    split at hq
    ·cases q with
      |zero=>simp at h;subst h;assumption
      |succ q=>exact wK (l:=l) (by simpa using h) (by omega)
    ·omega
theorem wL {t : Int} : ∀ {l : List Entry} {q : Nat} {x : Entry}, Up l → l[q]? = some x → dV l t ≤ q → t ≤ x.aO
  | [], q, x, _, h, _ => by simp at h
  | y :: l, q, x, hu, h, hq => by
    obtain ⟨h1, h2⟩ := List.pairwise_cons.1 hu
    unfold dV at hq
    split at hq
    · cases q with
      | zero => omega
      | succ q => exact wL (l := l) h2 (by simpa using h) (by omega)
    · rename_i hy
      cases q with
      | zero => simp at h; subst h; omega
      | succ q =>
        have : x ∈ l := List.mem_of_getElem? (by simpa using h)
        have := h1 x this
        omega
theorem qm {a b:Int}:ef a b < 0↔a < b:=by unfold ef;split;simp_all;split<;>simp_all<;>omega
theorem oB {a b:Int}:ef a b=0↔a=b:=by unfold ef;split;(constructor<;>intro h<;>omega);split;(constructor<;>intro h<;>omega);(constructor<;>intro h<;>omega)
theorem xj {l:List Entry} {t:Int} {q:Nat} {x:Entry} (hu:Up l) (hx:l[q]?=some x):(ef x.aO t < 0/\q < dV l t)\/(¬ef x.aO t < 0/\dV l t<=q):=by
  rw [qm]
  by_cases h:q < dV l t
  ·exact .inl ⟨wK hx h,h⟩
  ·exact .inr ⟨by have:=wL hu hx (by omega:dV l t<=q);omega,by omega⟩
theorem ru {l:List Entry} {t:Int} {q:Nat} {x:Entry} (hq:q=dV l t) (hx:l[q]?=some x):tu l t=((q:Int),decide (ef x.aO t=0)):=by
  subst hq
  unfold tu fv
  rw [hx]
  simp only [oB]
theorem xk {l:List Entry} {t:Int} {q:Nat} (hq:q=dV l t) (hl:l.length<=q):tu l t=((q:Int),false):=by
  subst hq
  unfold tu fv
  rw [List.getElem?_eq_none hl]

theorem xi (n:Int):Fn Try.prog 71 [(.c (cI n))] (aB false) []:=by
 refine Fn.mk' 6 [(0,(aI n))] Try.func71 rfl rfl rfl rfl ?_
 intro W0 T0
 refine ad aa 1 rfl ?_
 refine aA aa 2 rfl ?_
 refine ax (aJ rfl rfl rfl (congrArg (fun b=>some (Value.bool b)) (decide_eq_false (fun h=>h rfl)))) rfl ?_
 refine ab aa 1 rfl ?_
 refine ae ?_
 refine ar ?_
 refine ah aa [] 0 rfl rfl rfl rfl rfl rfl ?_ ?_
 all_goals first|rfl|(simp [au];done)|(simp [au];omega)
theorem oG (a b:Int) (r:Int) (hr:ef a b=r):Fn Try.prog 60 [(.c (cI a)),(.c (cI b))] (.v (.c (cI r))) []:=by
 refine Fn.mk' 20 [(0,(aI a)),(1,(aI b))] Try.func60 rfl rfl rfl rfl ?_
 intro W0 T0
 refine ad aa 1 rfl ?_
 refine aA aa 1 rfl ?_
 refine aL 0 [] (bO 0 (xi a) Eh rfl rfl ⟨⟨_,rfl,.c (.d _)⟩,trivial⟩ trivial trivial rfl rfl rfl rfl) rfl ?_
 refine ab aa 1 rfl ?_
 refine ae ?_
 refine aA aa 1 rfl ?_
 refine aL 0 [] (bO 0 (xi b) Eh rfl rfl ⟨⟨_,rfl,.c (.d _)⟩,trivial⟩ trivial trivial rfl rfl rfl rfl) rfl ?_
 refine ab aa 1 rfl ?_
 refine ae ?_
 refine af ?_
 refine ad aa 1 rfl ?_
 refine ag rfl (fun hno=>by cases hno) (fun _=>?_)
 refine aN ?_
 refine af ?_
 refine ad aa 1 rfl ?_
 refine ag rfl (fun hno=>by cases hno) (fun _=>?_)
 refine aN ?_
 refine af ?_
 refine ad aa 3 rfl ?_
 refine ag rfl (fun hc3=>?_) (fun hc3=>?_)
 ·
  have hc3':=of_decide_eq_true hc3
  refine ad aa 1 rfl ?_
  refine ar ?_
  refine ao ?_
  have hX:ef a b=(-1):=by
    (unfold ef;try dsimp only);(repeat' split)<;>first|rfl|omega|(exfalso;omega)|(subst_vars;rfl)|(simp_all;done)|(simp_all;omega)
  rw [hX] at hr;clear hX
  subst hr
  refine ah aa [] 0 rfl rfl rfl rfl rfl rfl ?_ ?_
  all_goals first|rfl|(simp [au];done)|(simp [au];omega)
 have hc3':=of_decide_eq_false hc3
 refine aN ?_
 refine af ?_
 refine ad aa 3 rfl ?_
 refine ag rfl (fun hc4=>?_) (fun hc4=>?_)
 ·
  have hc4':=of_decide_eq_true hc4
  refine ad aa 1 rfl ?_
  refine ar ?_
  refine ao ?_
  have hX:ef a b=1:=by
    (unfold ef;try dsimp only);(repeat' split)<;>first|rfl|omega|(exfalso;omega)|(subst_vars;rfl)|(simp_all;done)|(simp_all;omega)
  rw [hX] at hr;clear hX
  subst hr
  refine ah aa [] 0 rfl rfl rfl rfl rfl rfl ?_ ?_
  all_goals first|rfl|(simp [au];done)|(simp [au];omega)
 have hc4':=of_decide_eq_false hc4
 refine aN ?_
 refine ad aa 1 rfl ?_
 refine ar ?_
 have hX:ef a b=0:=by
   (unfold ef;try dsimp only);(repeat' split)<;>first|rfl|omega|(exfalso;omega)|(subst_vars;rfl)|(simp_all;done)|(simp_all;omega)
 rw [hX] at hr;clear hX
 subst hr
 refine ah aa [] 0 rfl rfl rfl rfl rfl rfl ?_ ?_
 all_goals first|rfl|(simp [au];done)|(simp [au];omega)
theorem Ez (x:Entry) (t:Int):Fn Try.prog 120 [(.g [(cI x.aO),(cI x.sum)]),(.c (cI t))] (aI (ef x.aO t)) []:=by
 refine Fn.mk' 9 [(0,(aG [(cI x.aO),(cI x.sum)])),(1,(aI t))] Try.func120 rfl rfl rfl rfl ?_
 intro W0 T0
 refine ad aa 2 rfl ?_
 refine aA aa 3 rfl ?_
 have hr0:ef x.aO t=ef x.aO t:=rfl
 refine aL 1 [0] (bO 1 (oG x.aO t (ef x.aO t) hr0) Bp rfl rfl ⟨⟨_,rfl,.c (.d _)⟩,⟨_,rfl,.c (.d _)⟩,trivial⟩ trivial trivial rfl rfl rfl rfl) rfl ?_
 refine ab aa 1 rfl ?_
 refine ae ?_
 refine ar ?_
 refine ah aa [] 0 rfl rfl rfl rfl rfl rfl ?_ ?_
 all_goals first|rfl|(simp [au];done)|(simp [au];omega)
theorem se (l:List Entry) (t:Int) (fn:FuncId) (bc:List (List D)) (hp:∀ x:Entry,Fn Try.prog fn ([.g [cI x.aO,cI x.sum],.c (cI t)]++bc.map fun r=>GV.c (.q r 0)) (aI (ef x.aO t)) []) (hen:bd Try.prog fn) (hu:Up l) (hl:l.length * 16<=140737488355328) (i:Int) (f:Bool) (hr:tu l t=(i,f)):Fn Try.prog 119 [(.c (dJ l)),(.c (cI t)),(.c (.d (.f fn bc)))] (.t [(.c (cI i)),(.c (cB f))]) []:=by
 refine Fn.mk' 49 [(0,(aC (dJ l))),(1,(aI t)),(2,(aC (.d (.f fn bc))))] Try.func119 rfl rfl rfl rfl ?_
 intro W0 T0
 refine dz 0 rfl (fun hlen0=>?_)
 refine ad aa 2 rfl ?_
 refine aA aa 1 rfl ?_
 refine ax (cM rfl rfl rfl rfl rfl Try.underlying44) rfl ?_
 refine ab aa 1 rfl ?_
 refine ae ?_
 refine ad aa 3 rfl ?_
 refine af ?_
 refine aU ?_
 refine ct (β:=Nat×Nat) (fun (p:Nat×Nat)=>match p with|(i,j)=>⟨[(0,(aC (dJ l))),(1,(aI t)),(2,(aC (.d (.f fn bc)))),(6,(aI 0)),(7,(aB false)),(8,(aI (↑l.length:Int))),(9,(aI (↑i:Int))),(10,(aI (↑j:Int)))],[],0⟩) (fun (p:Nat×Nat)=>match p with|(i,j)=>i<=dV l t/\dV l t<=j/\j<=l.length) (fun (p:Nat×Nat)=>match p with|(i,j)=>j - i) (0,l.length) ?_ ?_ ?_
 ·exact ⟨by omega,mu t l,by omega⟩
 ·exact aD.bW id (by refine ⟨?_,?_,?_,?_,?_,?_,?_,?_,trivial⟩<;>first|rfl|(simp only [bm];done)|(congr 3;omega)|(congr 4;omega)|(simp only [bn];rfl)) (trivial) rfl
 rintro ⟨i,j⟩ ⟨hi0_0,hi0_1,hi0_2⟩
 refine af ?_
 refine ad aa 3 rfl ?_
 refine ag rfl (fun hc1=>?_) (fun hc1=>?_)
 ·
  have hc1':=of_decide_eq_true hc1
  refine aN ?_
  refine aU ?_
  refine aA aa 2 rfl ?_
  refine ax (aJ rfl rfl rfl (aF (by first|omega|(simp;done)|(simp;omega)))) rfl ?_
  refine ax (ff rfl rfl (by rw [Try.underlying3];rfl) Try.underlying128 (jX (by first|omega|(simp;done)|(simp;omega)))) rfl ?_
  refine ax (mz (r:=(↑(((i)+(j)) / 2):Int)) rfl rfl rfl (by omega)) rfl ?_
  refine ax (ff rfl rfl (by rw [Try.underlying128];rfl) Try.underlying3 (jY (by first|omega|(simp;done)|(simp;omega)))) rfl ?_
  refine ab aa 1 rfl ?_
  refine ae ?_
  refine aA aa 3 rfl ?_
  obtain ⟨x1,hx1⟩:=ck (xs:=l) (i:=((i)+(j)) / 2) (by first|omega|(simp;done)|(simp;omega))
  have hx1b:=xj (t:=t) hu hx1
  refine ax (cP (i:=((i)+(j)) / 2) rfl rfl rfl Try.underlying44 dX (by first|omega|(simp;done)|(simp;omega)) (bu hx1)) rfl ?_
  refine ab aa 2 rfl ?_
  refine ax (gS (ins:=[(.g [(cI x1.aO),(cI x1.sum)]),(.c (cI t))]) 0 (hp x1) hen rfl rfl rfl ⟨⟨_,rfl,.g ⟨.d _,.d _,trivial⟩⟩,⟨_,rfl,.c (.d _)⟩,trivial⟩ trivial trivial rfl rfl rfl rfl) rfl ?_
  refine ab aa 1 rfl ?_
  refine ae ?_
  refine ag rfl (fun hc2=>?_) (fun hc2=>?_)
  ·
   have hc2':=of_decide_eq_true hc2
   refine aw ?_
   refine ab aa 1 rfl ?_
   refine ax (aJ rfl rfl rfl (aF (by first|omega|(simp;done)|(simp;omega)))) rfl ?_
   refine ab aa 1 rfl ?_
   refine bY ?_
   refine bl ?_
   refine then_ok ?_
   refine ⟨(Int.toNat ((↑(((i)+(j)) / 2):Int)+1),j),⟨by omega,by omega,by omega⟩,by first|omega|(simp;done)|(simp;omega),aD.bW id (by refine ⟨?_,?_,?_,?_,?_,?_,?_,?_,trivial⟩<;>first|rfl|(simp only [bm];done)|(congr 3;omega)|(congr 4;omega)|(simp only [bn];rfl)) (trivial) rfl⟩
  have hc2':=of_decide_eq_false hc2
  refine aw ?_
  refine ab aa 2 rfl ?_
  refine bY ?_
  refine bl ?_
  refine then_ok ?_
  refine ⟨(i,((i)+(j)) / 2),⟨by omega,by omega,by omega⟩,by first|omega|(simp;done)|(simp;omega),aD.bW id (by refine ⟨?_,?_,?_,?_,?_,?_,?_,?_,trivial⟩<;>first|rfl|(simp only [bm];done)|(congr 3;omega)|(congr 4;omega)|(simp only [bn];rfl)) (trivial) rfl⟩
 have hc1':=of_decide_eq_false hc1
 refine cm ?_
 refine aP ?_
 refine aP ?_
 refine bN ?_
 refine then_ok ?_
 refine aA aa 5 rfl ?_
 refine bz (t:=39) rfl (fun hb3=>?_) (fun hb3=>?_)
 ·
  have hb3':=of_decide_eq_true hb3
  refine ab aa 3 rfl ?_
  obtain ⟨x1,hx1⟩:=ck (xs:=l) (i:=i) (by first|omega|(simp;done)|(simp;omega))
  have hx1b:=xj (t:=t) hu hx1
  refine dP (aj.yes rfl rfl rfl) (cP (i:=i) rfl rfl rfl Try.underlying44 dX (by first|omega|(simp;done)|(simp;omega)) (bu hx1)) rfl rfl ?_
  refine ab aa 2 rfl ?_
  refine dP (aj.yes rfl rfl rfl) (gS (ins:=[(.g [(cI x1.aO),(cI x1.sum)]),(.c (cI t))]) 0 (hp x1) hen rfl rfl rfl ⟨⟨_,rfl,.g ⟨.d _,.d _,trivial⟩⟩,⟨_,rfl,.c (.d _)⟩,trivial⟩ trivial trivial rfl rfl rfl rfl) rfl rfl ?_
  refine ab aa 4 rfl ?_
  refine ae ?_
  refine ar ?_
  have hX:tu l t=((↑i:Int),decide ((ef x1.aO t)=0)):=by
    first|exact ru (by omega) hx1|exact xk (by omega) (by omega)|(rw [ru (by omega) hx1];simp_all;done)
  rw [hX] at hr;clear hX
  simp only [Prod.mk.injEq] at hr;obtain ⟨rfl,rfl⟩:=hr
  refine ah aa [] 0 rfl rfl rfl rfl rfl rfl ?_ ?_
  all_goals first|rfl|(simp [au];done)|(simp [au];omega)
 have hb3':=of_decide_eq_false hb3
 refine ab aa 11 rfl ?_
 refine ae ?_
 refine ar ?_
 have hX:tu l t=((↑i:Int),false):=by
   first|exact ru (by omega) hx1|exact xk (by omega) (by omega)|(rw [ru (by omega) hx1];simp_all;done)
 rw [hX] at hr;clear hX
 simp only [Prod.mk.injEq] at hr;obtain ⟨rfl,rfl⟩:=hr
 refine ah aa [] 0 rfl rfl rfl rfl rfl rfl ?_ ?_
 all_goals first|rfl|(simp [au];done)|(simp [au];omega)


theorem ym (l:List Entry) (t:Int) (fn:FuncId) (bc:List (List D)) (hp:∀ x:Entry,Fn Try.prog fn ([.g [cI x.aO,cI x.sum],.c (cI t)]++bc.map fun r=>GV.c (.q r 0)) (aI (ef x.aO t)) []) (hen:bd Try.prog fn) (hu:Up l) (hl:l.length * 16<=140737488355328) (k:Nat) (f:Bool) (hr:(dV l t,fv l t)=(k,f)):Fn Try.prog 119 [.c (cR 2 (l.map ey)),.c (cI t),.c (.d (.f fn bc))] (.t [.c (cI (k:Int)),.c (cB f)]) []:=by
  obtain ⟨h1,h2⟩:=Prod.mk.inj hr
  exact se l t fn bc hp hen hu hl (k:Int) f (by unfold tu;rw [h1,h2])
def cA:List Entry->Int->Int
  |[],_=>0
  |x::l,a=>if x.aO=a then x.sum else cA l a
def gD (l:List Entry) (a s:Int):List Entry:=l.take (dV l a)++(if s=0 then [] else [⟨a,s⟩])++l.drop (if fv l a=true then dV l a+1 else dV l a)
def hO (s:Int):Bool:=decide (s>=-1000000000000) && decide (s<=1000000000000)
def jx (l:List Entry) (e:Entry):List Entry×Bool:=(gD l e.aO (cA l e.aO+e.sum),hO (cA l e.aO+e.sum))
theorem ov {x:Entry} {l:List Entry} {a:Int} (h:x.aO < a):fv (x::l) a=fv l a:=by
  have h1:dV (x::l) a=dV l a+1:=by simp [dV,h]
  unfold fv;rw [h1,List.getElem?_cons_succ]
theorem lK {x:Entry} {l:List Entry} {a:Int} (h:¬x.aO < a):fv (x::l) a=decide (x.aO=a):=by
  unfold fv dV;rw [if_neg h];rfl
theorem ja {a:Int}:∀ {l:List Entry},(∀ x∈l,a < x.aO)->cA l a=0
  |[],_=>rfl
  |x::l,h=>by
    unfold cA
    rw [if_neg (by have:=h x List.mem_cons_self;omega)]
    exact ja fun y hy=>h y (List.mem_cons_of_mem _ hy)
theorem uZ {a : Int} : ∀ {l : List Entry} {x : Entry}, Up l → fv l a = true → l[dV l a]? = some x → x.aO = a ∧ cA l a = x.sum
  | [], x, _, _, h => by simp at h
  | y :: l, x, hu, hh, h => by
    obtain ⟨h1, h2⟩ := List.pairwise_cons.1 hu
    by_cases hy : y.aO < a
    · rw [ov hy] at hh
      unfold dV at h; rw [if_pos hy] at h
      obtain ⟨h3, h4⟩ := uZ h2 hh (by simpa using h)
      refine ⟨h3, ?_⟩
      unfold cA; rw [if_neg (by omega)]; exact h4
    · rw [lK hy] at hh
      unfold dV at h; rw [if_neg hy] at h
      simp at h hh
      subst h
      exact ⟨hh, by unfold cA; rw [if_pos hh]⟩
theorem uY {a : Int} : ∀ {l : List Entry}, Up l → fv l a = false → cA l a = 0
  | [], _, _ => rfl
  | y :: l, hu, hh => by
    obtain ⟨h1, h2⟩ := List.pairwise_cons.1 hu
    by_cases hy : y.aO < a
    · rw [ov hy] at hh
      unfold cA; rw [if_neg (by omega)]; exact uY h2 hh
    · rw [lK hy] at hh
      simp at hh
      unfold cA; rw [if_neg hh]
      exact ja fun x hx => by have := h1 x hx; omega
theorem CH {a : Int} {l : List Entry} (h : fv l a = true) : dV l a < l.length := by
  by_cases hl : dV l a < l.length
  · exact hl
  · unfold fv at h
    rw [List.getElem?_eq_none (by omega)] at h
    cases h
theorem ub {a:Int} (l:List Entry):(l.take (dV l a)).length=dV l a:=by rw [List.length_take];have:=mu a l;omega
theorem zm {l:List Entry} {k:Nat} {x y:Entry} (hk:k<=l.length) (h:(iF l k x)[k]?=some y):y=x:=by
  have h1:(l.take k).length=k:=by rw [List.length_take];omega
  unfold iF at h
  rw [List.append_assoc,List.getElem?_append_right (by omega),h1,Nat.sub_self] at h
  simp at h
  exact h.symm
theorem CF {l:List Entry} {k:Nat} {x y:Entry} (hk:k<=l.length):(iF l k x).set k y=l.take k++[y]++l.drop k:=by
  have h1:(l.take k).length=k:=by rw [List.length_take];omega
  unfold iF
  rw [List.append_assoc,List.set_append_right _ _ (by omega),h1,Nat.sub_self]
  simp
theorem CG {l:List Entry} {k:Nat} {y:Entry} (hk:k < l.length):l.set k y=l.take k++[y]++l.drop (k+1):=by
  rw [List.set_eq_take_append_cons_drop,if_pos hk];simp
theorem zH {A B:List Entry} {y:Entry} {k:Nat} (h:A.length=k):kE (A++[y]++B) k (k+1)=A++B:=by
  subst h
  unfold kE
  simp
theorem mT {l:List Entry} {e x y:Entry} {k:Nat} (hu:Up l) (hk:dV l e.aO=k) (hh:fv l e.aO=true) (hx:l[k]?=some x) (hy:y=⟨x.aO,x.sum+e.sum⟩):
    jx l e=(if x.sum+e.sum=0 then kE (l.set k y) k (k+1) else l.set k y,hO (x.sum+e.sum)):=by
  subst hk hy
  obtain ⟨h1,h2⟩:=uZ hu hh hx
  have hlt:=(List.getElem?_eq_some_iff.1 hx).1
  unfold jx gD
  rw [h2,if_pos hh,CG hlt,h1]
  split
  ·rw [zH (ub l)];simp
  ·rfl
theorem mS {l:List Entry} {e x y:Entry} {k:Nat} {r:List Entry} (hu:Up l) (hk:dV l e.aO=k) (hh:fv l e.aO=false) (hr:iF l k ⟨e.aO,0⟩=r) (hx:r[k]?=some x) (hy:y=⟨x.aO,x.sum+e.sum⟩):
    jx l e=(if x.sum+e.sum=0 then kE (r.set k y) k (k+1) else r.set k y,hO (x.sum+e.sum)):=by
  subst hk hr
  have h0:=mu e.aO l
  have h1:=zm h0 hx
  subst h1 hy
  have h2:=uY hu hh
  unfold jx gD
  rw [h2,CF h0,if_neg (show ¬fv l e.aO=true by rw [hh];exact Bool.false_ne_true)]
  split
  ·rw [zH (ub l)];simp
  ·rfl
theorem yN {l:List Entry} {k:Nat} {y z:Entry} (h:(l.set k y)[k]?=some z):z=y:=by
  have hlt:=(List.getElem?_eq_some_iff.1 h).1
  rw [List.length_set] at hlt
  rw [List.getElem?_set_self hlt] at h
  exact (Option.some.inj h).symm
theorem xV {l:List Entry} {a:Int} (h:∀ x∈l,-1000000000000<=x.sum/\x.sum<=1000000000000):-1000000000000<=cA l a/\cA l a<=1000000000000:=by
  induction l with
  |nil=>unfold cA;omega
  |cons x l ih=>
    unfold cA
    split
    ·exact h x List.mem_cons_self
    ·exact ih fun y hy=>h y (List.mem_cons_of_mem _ hy)

theorem FC (l:List Entry) (e:Entry) (hu:Up l) (hl:(l.length+1) * 16<=140737488355328) (hb:∀ x∈l,-1000000000000<=x.sum/\x.sum<=1000000000000) (he:-1000000000000<=e.sum/\e.sum<=1000000000000) (r:List Entry) (g:Bool) (hr:jx l e=(r,g)):cz Try.prog 116 [(.c (.s 0 0 2 l.length)),(.g [(cI e.aO),(cI e.sum)])] [(0,(lx l))] [] (.t [(.c (.s 0 0 2 r.length)),(.c (cB g))]) [(0,(lx r))]:=by
 refine cz.mk 62 [(0,(aC (.s 0 0 2 l.length))),(1,(aG [(cI e.aO),(cI e.sum)]))] 1 Try.func116 rfl rfl rfl rfl rfl rfl rfl rfl rfl ?_
 intro W0 F0 T0 pg
 refine fN 0 rfl (fun hlen0=>?_)
 refine ad aa 3 rfl ?_
 refine aA aa 3 rfl ?_
 obtain ⟨k0,f0,hr0⟩:∃ (k0:Nat) (f0:Bool),(dV l e.aO,fv l e.aO)=(k0,f0):=⟨_,_,rfl⟩
 obtain ⟨hk0,hf0⟩:=Prod.mk.inj hr0
 have hkl:=mu e.aO l
 rw [hk0] at hkl
 refine aL 2 [1,0] (fM 2 [0] (ym l e.aO 120 ([]) (fun x=>Ez x e.aO) Fl (by first|assumption) (by omega) k0 f0 hr0) Fm rfl rfl ⟨⟨_,rfl,.c (.s rfl (by decide) (by first|omega|(simp;done)|(simp;omega)))⟩,⟨_,rfl,.c (.d _)⟩,⟨_,rfl,.c (.fn trivial)⟩,trivial⟩ ⟨rfl,rfl,trivial⟩ trivial rfl rfl rfl rfl) rfl ?_
 refine ab aa 5 rfl ?_
 refine ae ?_
 refine af ?_
 refine ad aa 2 rfl ?_
 refine ag rfl (fun hc1=>?_) (fun hc1=>?_)
 ·
  have hc1':=hc1;try simp only [bj,bL] at hc1'
  refine aw ?_
  refine ab aa 5 rfl ?_
  refine aL 3 [2,1,0] (dA (ys:=[(0,(.g [(cI e.aO),(cI 0)]))]) (rows:=([(⟨e.aO,0⟩:Entry)]).map ey) 2 jN rfl (by decide) ⟨⟨rfl,rfl⟩,trivial⟩ rfl rfl rfl rfl) rfl ?_
  obtain ⟨r1,hr1⟩:∃ (r1:List Entry),iF l k0 (⟨e.aO,0⟩:Entry)=r1:=⟨_,rfl⟩
  have hl1:r1.length=l.length+1:=by rw [<-hr1];exact AU hkl
  refine aL 4 [3,1] (cx (aW [0,2]) (aW [3,2]) (sf l k0 (⟨e.aO,0⟩:Entry) (by first|omega|(simp;done)|(simp;omega)) (by first|omega|(simp;done)|(simp;omega)) r1 hr1) Fk rfl rfl ⟨⟨_,rfl,.inl ⟨rfl,rfl⟩⟩,⟨_,rfl,.inr (.c (.d _))⟩,⟨_,rfl,.inl ⟨rfl,rfl⟩⟩,trivial⟩ ⟨rfl,rfl,trivial⟩ rfl rfl rfl rfl rfl rfl trivial ⟨(fun _ _ _ _=>trivial),trivial⟩ rfl rfl rfl rfl) rfl ?_
  refine ab aa 1 rfl ?_
  refine ae ?_
  refine af ?_
  obtain ⟨x1,hx1⟩:=ck (xs:=r1) (i:=k0) (by first|omega|(simp;done)|(simp;omega))
  have hx1q:=zm hkl (show (iF l k0 ⟨e.aO,0⟩)[k0]?=some x1 by rw [hr1];exact hx1)
  have hx1b:x1.sum=0:=by rw [hx1q]
  refine bb [0,3,6] [3,1] mixed rfl rfl ?_
  refine az (kn:=[]) aa 2 rfl trivial ?_
  refine aT (n':=4) [25,26] [3] rfl rfl (.inl ⟨(aj.plain rfl),aH.cast (bo (i:=k0) rfl rfl rfl Try.underlying44 dX (by first|omega|(simp;done)|(simp;omega)) (by first|omega|(simp;done)|(simp;omega))) rfl⟩) rfl ?_
  refine az (kn:=[]) aa 1 rfl trivial ?_
  refine aT (n':=4) [28] [3] rfl rfl (.inl ⟨(aj.plain rfl),aH.cast (eD rfl rfl rfl Try.underlying3 rfl (bu hx1) rfl) rfl⟩) rfl ?_
  refine az (kn:=[]) aa 2 rfl trivial ?_
  refine aT (n':=4) [29,31] [] rfl rfl (.inl ⟨(aj.plain rfl),aH.cast (aJ rfl rfl rfl (aF (by first|omega|(simp;done)|(simp;omega)))) rfl⟩) rfl ?_
  refine aT (n':=4) [25,26] [3] rfl rfl (.inl ⟨(aj.plain rfl),aH.cast (bo (i:=k0) rfl rfl rfl Try.underlying44 dX (by first|omega|(simp;done)|(simp;omega)) (by first|omega|(simp;done)|(simp;omega))) rfl⟩) rfl ?_
  refine az (kn:=[]) aa 1 rfl trivial ?_
  refine bA [3,1] rfl rfl rfl rfl (by kernel_rfl) ?_
  refine fY [3,1] (dL (ds:=[(dI (x1.sum+e.sum))]) rfl rfl rfl rfl rfl fH rfl (Nat.le_of_ble_eq_true rfl) (bu hx1) rfl (eH (x':=(⟨x1.aO,x1.sum+e.sum⟩:Entry)) rfl)) rfl ?_
  refine ae ?_
  refine aA aa 2 rfl ?_
  refine ax (bo (i:=k0) rfl rfl rfl Try.underlying44 dX (by first|omega|(simp;done)|(simp;omega)) (by first|omega|(simp;done)|(simp;omega))) rfl ?_
  refine ab aa 1 rfl ?_
  obtain ⟨x2,hx2⟩:=ck (xs:=((r1).set k0 (⟨x1.aO,x1.sum+e.sum⟩:Entry))) (i:=k0) (by first|omega|(simp;done)|(simp;omega))
  have hx2e:=yN hx2
  have hx2s:x2.sum=x1.sum+e.sum:=by rw [hx2e]
  refine ax (eD rfl rfl rfl Try.underlying3 rfl (bu hx2) rfl) rfl ?_
  refine ab aa 2 rfl ?_
  refine bz (t:=41) rfl (fun hb2=>?_) (fun hb2=>?_)
  ·
   have hb2':=of_decide_eq_true hb2
   refine ab aa 2 rfl ?_
   refine dP (aj.yes rfl rfl rfl) (bo (i:=k0) rfl rfl rfl Try.underlying44 dX (by first|omega|(simp;done)|(simp;omega)) (by first|omega|(simp;done)|(simp;omega))) rfl rfl ?_
   refine ab aa 1 rfl ?_
   refine dP (aj.yes rfl rfl rfl) (eD rfl rfl rfl Try.underlying3 rfl (bu hx2) rfl) rfl rfl ?_
   refine ab aa 3 rfl ?_
   refine ae ?_
   refine af ?_
   refine aA aa 2 rfl ?_
   refine ax (bo (i:=k0) rfl rfl rfl Try.underlying44 dX (by first|omega|(simp;done)|(simp;omega)) (by first|omega|(simp;done)|(simp;omega))) rfl ?_
   refine ab aa 1 rfl ?_
   refine ax (eD rfl rfl rfl Try.underlying3 rfl (bu hx2) rfl) rfl ?_
   refine ab aa 1 rfl ?_
   refine ae ?_
   refine ag rfl (fun hc3=>?_) (fun hc3=>?_)
   ·
    have hc3':=of_decide_eq_true hc3
    refine gT (st':=⟨[(0,(aC (.s 3 0 2 (((r1).set k0 (⟨x1.aO,x1.sum+e.sum⟩:Entry)).length)))),(3,(aC (.p 1 0 0 0))),(6,(aI (↑k0:Int))),(32,(aI (x1.sum+e.sum))),(34,(aC (.p 3 k0 2 1))),(35,(aC (.s 3 0 2 r1.length))),(36,(aI (↑k0:Int))),(37,(aC (.p 3 k0 2 0))),(38,(aC (.p 3 k0 2 1))),(39,(aI x2.sum)),(40,(aB (decide (x2.sum>=(-1000000000000))))),(41,(aB true)),(42,(aC (.s 3 0 2 r1.length))),(43,(aI (↑k0:Int))),(44,(aC (.p 3 k0 2 0))),(45,(aC (.p 3 k0 2 1))),(46,(aI x2.sum)),(47,(aB (decide (x2.sum<=1000000000000)))),(48,(aB (decide (x2.sum<=1000000000000)))),(8,(aB (decide (x2.sum<=1000000000000)))),(49,(aC (.s 3 0 2 r1.length))),(50,(aI (↑k0:Int))),(51,(aC (.p 3 k0 2 0))),(52,(aC (.p 3 k0 2 1))),(53,(aI x2.sum)),(54,(aB (decide (x2.sum=0))))],[(3,(lx ((r1).set k0 (⟨x1.aO,x1.sum+e.sum⟩:Entry)))),(1,(.box 115 [(cI e.aO),(cI e.sum)]))],4⟩) (aD.bW id (by refine ⟨?_,?_,?_,?_,?_,?_,?_,?_,?_,?_,?_,?_,?_,?_,?_,?_,?_,?_,?_,?_,?_,?_,?_,?_,?_,?_,trivial⟩<;>first|rfl|(simp only [bm];done)|(congr 3;omega)|(congr 4;omega)|(simp only [bn];rfl)) (by refine ⟨?_,?_,trivial⟩<;>first|rfl|(simp only [bm];done)|(congr 3;omega)|(congr 4;omega)|(simp only [bn];rfl)) rfl) ?_
    refine aw ?_
    refine ab aa 3 rfl ?_
    refine ax (aJ rfl rfl rfl (aF (by first|omega|(simp;done)|(simp;omega)))) rfl ?_
    obtain ⟨r2,hr2⟩:∃ (r2:List Entry),kE ((r1).set k0 (⟨x1.aO,x1.sum+e.sum⟩:Entry)) k0 ((k0)+1)=r2:=⟨_,rfl⟩
    refine aL 5 [4,1] (cx (aW [3]) (aW [4]) (iO ((r1).set k0 (⟨x1.aO,x1.sum+e.sum⟩:Entry)) k0 ((k0)+1) (by first|omega|(simp;done)|(simp;omega)) (by first|omega|(simp;done)|(simp;omega)) r2 hr2) tT rfl rfl ⟨⟨_,rfl,.inl ⟨rfl,rfl⟩⟩,⟨_,rfl,.inr (.c (.d _))⟩,⟨_,rfl,.inr (.c (.d _))⟩,trivial⟩ ⟨rfl,trivial⟩ rfl rfl rfl rfl rfl rfl trivial ⟨(fun _ _ _ _=>trivial),trivial⟩ rfl rfl rfl rfl) rfl ?_
    refine ab aa 1 rfl ?_
    refine ae ?_
    refine ad aa 4 rfl ?_
    refine ar ?_
    have hX:jx l e=(r2,decide (x2.sum<=1000000000000)):=by
      rw [mS hu hk0 (show fv l e.aO=false by simp_all) hr1 hx1 rfl];unfold hO;rw [if_pos (by omega),hr2];refine Prod.ext rfl ?_;first|(simp;omega)|(simp_all;done)|(simp_all;omega)
    rw [hX] at hr;clear hX
    simp only [Prod.mk.injEq] at hr;obtain ⟨rfl,rfl⟩:=hr
    refine ah aa [4] 1 rfl rfl rfl rfl rfl rfl ?_ ?_
    all_goals first|rfl|(simp [au];done)|(simp [au];omega)
   have hc3':=of_decide_eq_false hc3
   refine aN ?_
   refine ad aa 4 rfl ?_
   refine ar ?_
   have hX:jx l e=((r1).set k0 (⟨x1.aO,x1.sum+e.sum⟩:Entry),decide (x2.sum<=1000000000000)):=by
     rw [mS hu hk0 (show fv l e.aO=false by simp_all) hr1 hx1 rfl];unfold hO;rw [if_neg (by omega)];refine Prod.ext rfl ?_;first|(simp;omega)|(simp_all;done)|(simp_all;omega)
   rw [hX] at hr;clear hX
   simp only [Prod.mk.injEq] at hr;obtain ⟨rfl,rfl⟩:=hr
   refine ah aa [3] 1 rfl rfl rfl rfl rfl rfl ?_ ?_
   all_goals first|rfl|(simp [au];done)|(simp [au];omega)
  have hb2':=of_decide_eq_false hb2
  refine ab aa 8 rfl ?_
  refine ae ?_
  refine af ?_
  refine aA aa 2 rfl ?_
  refine ax (bo (i:=k0) rfl rfl rfl Try.underlying44 dX (by first|omega|(simp;done)|(simp;omega)) (by first|omega|(simp;done)|(simp;omega))) rfl ?_
  refine ab aa 1 rfl ?_
  refine ax (eD rfl rfl rfl Try.underlying3 rfl (bu hx2) rfl) rfl ?_
  refine ab aa 1 rfl ?_
  refine ae ?_
  refine ag rfl (fun hc4=>?_) (fun hc4=>?_)
  ·
   have hc4':=of_decide_eq_true hc4
   refine gT (st':=⟨[(0,(aC (.s 3 0 2 (((r1).set k0 (⟨x1.aO,x1.sum+e.sum⟩:Entry)).length)))),(3,(aC (.p 1 0 0 0))),(6,(aI (↑k0:Int))),(32,(aI (x1.sum+e.sum))),(34,(aC (.p 3 k0 2 1))),(35,(aC (.s 3 0 2 r1.length))),(36,(aI (↑k0:Int))),(37,(aC (.p 3 k0 2 0))),(38,(aC (.p 3 k0 2 1))),(39,(aI x2.sum)),(40,(aB (decide (x2.sum>=(-1000000000000))))),(41,(aB false)),(48,(aB false)),(8,(aB false)),(49,(aC (.s 3 0 2 r1.length))),(50,(aI (↑k0:Int))),(51,(aC (.p 3 k0 2 0))),(52,(aC (.p 3 k0 2 1))),(53,(aI x2.sum)),(54,(aB (decide (x2.sum=0))))],[(3,(lx ((r1).set k0 (⟨x1.aO,x1.sum+e.sum⟩:Entry)))),(1,(.box 115 [(cI e.aO),(cI e.sum)]))],4⟩) (aD.bW id (by refine ⟨?_,?_,?_,?_,?_,?_,?_,?_,?_,?_,?_,?_,?_,?_,?_,?_,?_,?_,?_,?_,trivial⟩<;>first|rfl|(simp only [bm];done)|(congr 3;omega)|(congr 4;omega)|(simp only [bn];rfl)) (by refine ⟨?_,?_,trivial⟩<;>first|rfl|(simp only [bm];done)|(congr 3;omega)|(congr 4;omega)|(simp only [bn];rfl)) rfl) ?_
   refine aw ?_
   refine ab aa 3 rfl ?_
   refine ax (aJ rfl rfl rfl (aF (by first|omega|(simp;done)|(simp;omega)))) rfl ?_
   obtain ⟨r3,hr3⟩:∃ (r3:List Entry),kE ((r1).set k0 (⟨x1.aO,x1.sum+e.sum⟩:Entry)) k0 ((k0)+1)=r3:=⟨_,rfl⟩
   refine aL 5 [4,1] (cx (aW [3]) (aW [4]) (iO ((r1).set k0 (⟨x1.aO,x1.sum+e.sum⟩:Entry)) k0 ((k0)+1) (by first|omega|(simp;done)|(simp;omega)) (by first|omega|(simp;done)|(simp;omega)) r3 hr3) tT rfl rfl ⟨⟨_,rfl,.inl ⟨rfl,rfl⟩⟩,⟨_,rfl,.inr (.c (.d _))⟩,⟨_,rfl,.inr (.c (.d _))⟩,trivial⟩ ⟨rfl,trivial⟩ rfl rfl rfl rfl rfl rfl trivial ⟨(fun _ _ _ _=>trivial),trivial⟩ rfl rfl rfl rfl) rfl ?_
   refine ab aa 1 rfl ?_
   refine ae ?_
   refine ad aa 4 rfl ?_
   refine ar ?_
   have hX:jx l e=(r3,false):=by
     rw [mS hu hk0 (show fv l e.aO=false by simp_all) hr1 hx1 rfl];unfold hO;rw [if_pos (by omega),hr3];refine Prod.ext rfl ?_;first|(simp;omega)|(simp_all;done)|(simp_all;omega)
   rw [hX] at hr;clear hX
   simp only [Prod.mk.injEq] at hr;obtain ⟨rfl,rfl⟩:=hr
   refine ah aa [4] 1 rfl rfl rfl rfl rfl rfl ?_ ?_
   all_goals first|rfl|(simp [au];done)|(simp [au];omega)
  have hc4':=of_decide_eq_false hc4
  refine aN ?_
  refine ad aa 4 rfl ?_
  refine ar ?_
  have hX:jx l e=((r1).set k0 (⟨x1.aO,x1.sum+e.sum⟩:Entry),false):=by
    rw [mS hu hk0 (show fv l e.aO=false by simp_all) hr1 hx1 rfl];unfold hO;rw [if_neg (by omega)];refine Prod.ext rfl ?_;first|(simp;omega)|(simp_all;done)|(simp_all;omega)
  rw [hX] at hr;clear hX
  simp only [Prod.mk.injEq] at hr;obtain ⟨rfl,rfl⟩:=hr
  refine ah aa [3] 1 rfl rfl rfl rfl rfl rfl ?_ ?_
  all_goals first|rfl|(simp [au];done)|(simp [au];omega)
 have hc1':=hc1;try simp only [bj,bL] at hc1'
 refine aN ?_
 have hk0lt:k0 < l.length:=by have:=CH (l:=l) (a:=e.aO) (by simp_all);omega
 refine af ?_
 obtain ⟨x1,hx1⟩:=ck (xs:=l) (i:=k0) (by first|omega|(simp;done)|(simp;omega))
 have hx1b:=hb x1 (List.mem_of_getElem? hx1)
 refine bb [0,3,6] [1,0] mixed rfl rfl ?_
 refine az (kn:=[]) aa 2 rfl trivial ?_
 refine aT (n':=2) [25,26] [0] rfl rfl (.inl ⟨(aj.plain rfl),aH.cast (bo (i:=k0) rfl rfl rfl Try.underlying44 dX (by first|omega|(simp;done)|(simp;omega)) (by first|omega|(simp;done)|(simp;omega))) rfl⟩) rfl ?_
 refine az (kn:=[]) aa 1 rfl trivial ?_
 refine aT (n':=2) [28] [0] rfl rfl (.inl ⟨(aj.plain rfl),aH.cast (eD rfl rfl rfl Try.underlying3 rfl (bu hx1) rfl) rfl⟩) rfl ?_
 refine az (kn:=[]) aa 2 rfl trivial ?_
 refine aT (n':=2) [29,31] [] rfl rfl (.inl ⟨(aj.plain rfl),aH.cast (aJ rfl rfl rfl (aF (by first|omega|(simp;done)|(simp;omega)))) rfl⟩) rfl ?_
 refine aT (n':=2) [25,26] [0] rfl rfl (.inl ⟨(aj.plain rfl),aH.cast (bo (i:=k0) rfl rfl rfl Try.underlying44 dX (by first|omega|(simp;done)|(simp;omega)) (by first|omega|(simp;done)|(simp;omega))) rfl⟩) rfl ?_
 refine az (kn:=[]) aa 1 rfl trivial ?_
 refine bA [1,0] rfl rfl rfl rfl (by kernel_rfl) ?_
 refine fY [1,0] (dL (ds:=[(dI (x1.sum+e.sum))]) rfl rfl rfl rfl rfl fH rfl (Nat.le_of_ble_eq_true rfl) (bu hx1) rfl (eH (x':=(⟨x1.aO,x1.sum+e.sum⟩:Entry)) rfl)) rfl ?_
 refine ae ?_
 refine aA aa 2 rfl ?_
 refine ax (bo (i:=k0) rfl rfl rfl Try.underlying44 dX (by first|omega|(simp;done)|(simp;omega)) (by first|omega|(simp;done)|(simp;omega))) rfl ?_
 refine ab aa 1 rfl ?_
 obtain ⟨x2,hx2⟩:=ck (xs:=((l).set k0 (⟨x1.aO,x1.sum+e.sum⟩:Entry))) (i:=k0) (by first|omega|(simp;done)|(simp;omega))
 have hx2e:=yN hx2
 have hx2s:x2.sum=x1.sum+e.sum:=by rw [hx2e]
 refine ax (eD rfl rfl rfl Try.underlying3 rfl (bu hx2) rfl) rfl ?_
 refine ab aa 2 rfl ?_
 refine bz (t:=41) rfl (fun hb5=>?_) (fun hb5=>?_)
 ·
  have hb5':=of_decide_eq_true hb5
  refine ab aa 2 rfl ?_
  refine dP (aj.yes rfl rfl rfl) (bo (i:=k0) rfl rfl rfl Try.underlying44 dX (by first|omega|(simp;done)|(simp;omega)) (by first|omega|(simp;done)|(simp;omega))) rfl rfl ?_
  refine ab aa 1 rfl ?_
  refine dP (aj.yes rfl rfl rfl) (eD rfl rfl rfl Try.underlying3 rfl (bu hx2) rfl) rfl rfl ?_
  refine ab aa 3 rfl ?_
  refine ae ?_
  refine af ?_
  refine aA aa 2 rfl ?_
  refine ax (bo (i:=k0) rfl rfl rfl Try.underlying44 dX (by first|omega|(simp;done)|(simp;omega)) (by first|omega|(simp;done)|(simp;omega))) rfl ?_
  refine ab aa 1 rfl ?_
  refine ax (eD rfl rfl rfl Try.underlying3 rfl (bu hx2) rfl) rfl ?_
  refine ab aa 1 rfl ?_
  refine ae ?_
  refine ag rfl (fun hc6=>?_) (fun hc6=>?_)
  ·
   have hc6':=of_decide_eq_true hc6
   refine gT (st':=⟨[(0,(aC (.s 0 0 2 (((l).set k0 (⟨x1.aO,x1.sum+e.sum⟩:Entry)).length)))),(3,(aC (.p 1 0 0 0))),(6,(aI (↑k0:Int))),(32,(aI (x1.sum+e.sum))),(34,(aC (.p 0 k0 2 1))),(35,(aC (.s 0 0 2 l.length))),(36,(aI (↑k0:Int))),(37,(aC (.p 0 k0 2 0))),(38,(aC (.p 0 k0 2 1))),(39,(aI x2.sum)),(40,(aB (decide (x2.sum>=(-1000000000000))))),(41,(aB true)),(42,(aC (.s 0 0 2 l.length))),(43,(aI (↑k0:Int))),(44,(aC (.p 0 k0 2 0))),(45,(aC (.p 0 k0 2 1))),(46,(aI x2.sum)),(47,(aB (decide (x2.sum<=1000000000000)))),(48,(aB (decide (x2.sum<=1000000000000)))),(8,(aB (decide (x2.sum<=1000000000000)))),(49,(aC (.s 0 0 2 l.length))),(50,(aI (↑k0:Int))),(51,(aC (.p 0 k0 2 0))),(52,(aC (.p 0 k0 2 1))),(53,(aI x2.sum)),(54,(aB (decide (x2.sum=0))))],[(1,(.box 115 [(cI e.aO),(cI e.sum)])),(0,(lx ((l).set k0 (⟨x1.aO,x1.sum+e.sum⟩:Entry))))],2⟩) (aD.bW id (by refine ⟨?_,?_,?_,?_,?_,?_,?_,?_,?_,?_,?_,?_,?_,?_,?_,?_,?_,?_,?_,?_,?_,?_,?_,?_,?_,?_,trivial⟩<;>first|rfl|(simp only [bm];done)|(congr 3;omega)|(congr 4;omega)|(simp only [bn];rfl)) (by refine ⟨?_,?_,trivial⟩<;>first|rfl|(simp only [bm];done)|(congr 3;omega)|(congr 4;omega)|(simp only [bn];rfl)) rfl) ?_
   refine aw ?_
   refine ab aa 3 rfl ?_
   refine ax (aJ rfl rfl rfl (aF (by first|omega|(simp;done)|(simp;omega)))) rfl ?_
   obtain ⟨r4,hr4⟩:∃ (r4:List Entry),kE ((l).set k0 (⟨x1.aO,x1.sum+e.sum⟩:Entry)) k0 ((k0)+1)=r4:=⟨_,rfl⟩
   refine aL 3 [2,1] (cx id (aW [2]) (iO ((l).set k0 (⟨x1.aO,x1.sum+e.sum⟩:Entry)) k0 ((k0)+1) (by first|omega|(simp;done)|(simp;omega)) (by first|omega|(simp;done)|(simp;omega)) r4 hr4) tT rfl rfl ⟨⟨_,rfl,.inl ⟨rfl,rfl⟩⟩,⟨_,rfl,.inr (.c (.d _))⟩,⟨_,rfl,.inr (.c (.d _))⟩,trivial⟩ ⟨rfl,trivial⟩ rfl rfl rfl rfl rfl rfl trivial ⟨(fun _ _ _ _=>trivial),trivial⟩ rfl rfl rfl rfl) rfl ?_
   refine ab aa 1 rfl ?_
   refine ae ?_
   refine ad aa 4 rfl ?_
   refine ar ?_
   have hX:jx l e=(r4,decide (x2.sum<=1000000000000)):=by
     rw [mT hu hk0 (show fv l e.aO=true by simp_all) hx1 rfl];unfold hO;rw [if_pos (by omega),hr4];refine Prod.ext rfl ?_;first|(simp;omega)|(simp_all;done)|(simp_all;omega)
   rw [hX] at hr;clear hX
   simp only [Prod.mk.injEq] at hr;obtain ⟨rfl,rfl⟩:=hr
   refine ah aa [2] 1 rfl rfl rfl rfl rfl rfl ?_ ?_
   all_goals first|rfl|(simp [au];done)|(simp [au];omega)
  have hc6':=of_decide_eq_false hc6
  refine aN ?_
  refine ad aa 4 rfl ?_
  refine ar ?_
  have hX:jx l e=((l).set k0 (⟨x1.aO,x1.sum+e.sum⟩:Entry),decide (x2.sum<=1000000000000)):=by
    rw [mT hu hk0 (show fv l e.aO=true by simp_all) hx1 rfl];unfold hO;rw [if_neg (by omega)];refine Prod.ext rfl ?_;first|(simp;omega)|(simp_all;done)|(simp_all;omega)
  rw [hX] at hr;clear hX
  simp only [Prod.mk.injEq] at hr;obtain ⟨rfl,rfl⟩:=hr
  refine ah aa [0] 1 rfl rfl rfl rfl rfl rfl ?_ ?_
  all_goals first|rfl|(simp [au];done)|(simp [au];omega)
 have hb5':=of_decide_eq_false hb5
 refine ab aa 8 rfl ?_
 refine ae ?_
 refine af ?_
 refine aA aa 2 rfl ?_
 refine ax (bo (i:=k0) rfl rfl rfl Try.underlying44 dX (by first|omega|(simp;done)|(simp;omega)) (by first|omega|(simp;done)|(simp;omega))) rfl ?_
 refine ab aa 1 rfl ?_
 refine ax (eD rfl rfl rfl Try.underlying3 rfl (bu hx2) rfl) rfl ?_
 refine ab aa 1 rfl ?_
 refine ae ?_
 refine ag rfl (fun hc7=>?_) (fun hc7=>?_)
 ·
  have hc7':=of_decide_eq_true hc7
  refine gT (st':=⟨[(0,(aC (.s 0 0 2 (((l).set k0 (⟨x1.aO,x1.sum+e.sum⟩:Entry)).length)))),(3,(aC (.p 1 0 0 0))),(6,(aI (↑k0:Int))),(32,(aI (x1.sum+e.sum))),(34,(aC (.p 0 k0 2 1))),(35,(aC (.s 0 0 2 l.length))),(36,(aI (↑k0:Int))),(37,(aC (.p 0 k0 2 0))),(38,(aC (.p 0 k0 2 1))),(39,(aI x2.sum)),(40,(aB (decide (x2.sum>=(-1000000000000))))),(41,(aB false)),(48,(aB false)),(8,(aB false)),(49,(aC (.s 0 0 2 l.length))),(50,(aI (↑k0:Int))),(51,(aC (.p 0 k0 2 0))),(52,(aC (.p 0 k0 2 1))),(53,(aI x2.sum)),(54,(aB (decide (x2.sum=0))))],[(1,(.box 115 [(cI e.aO),(cI e.sum)])),(0,(lx ((l).set k0 (⟨x1.aO,x1.sum+e.sum⟩:Entry))))],2⟩) (aD.bW id (by refine ⟨?_,?_,?_,?_,?_,?_,?_,?_,?_,?_,?_,?_,?_,?_,?_,?_,?_,?_,?_,?_,trivial⟩<;>first|rfl|(simp only [bm];done)|(congr 3;omega)|(congr 4;omega)|(simp only [bn];rfl)) (by refine ⟨?_,?_,trivial⟩<;>first|rfl|(simp only [bm];done)|(congr 3;omega)|(congr 4;omega)|(simp only [bn];rfl)) rfl) ?_
  refine aw ?_
  refine ab aa 3 rfl ?_
  refine ax (aJ rfl rfl rfl (aF (by first|omega|(simp;done)|(simp;omega)))) rfl ?_
  obtain ⟨r5,hr5⟩:∃ (r5:List Entry),kE ((l).set k0 (⟨x1.aO,x1.sum+e.sum⟩:Entry)) k0 ((k0)+1)=r5:=⟨_,rfl⟩
  refine aL 3 [2,1] (cx id (aW [2]) (iO ((l).set k0 (⟨x1.aO,x1.sum+e.sum⟩:Entry)) k0 ((k0)+1) (by first|omega|(simp;done)|(simp;omega)) (by first|omega|(simp;done)|(simp;omega)) r5 hr5) tT rfl rfl ⟨⟨_,rfl,.inl ⟨rfl,rfl⟩⟩,⟨_,rfl,.inr (.c (.d _))⟩,⟨_,rfl,.inr (.c (.d _))⟩,trivial⟩ ⟨rfl,trivial⟩ rfl rfl rfl rfl rfl rfl trivial ⟨(fun _ _ _ _=>trivial),trivial⟩ rfl rfl rfl rfl) rfl ?_
  refine ab aa 1 rfl ?_
  refine ae ?_
  refine ad aa 4 rfl ?_
  refine ar ?_
  have hX:jx l e=(r5,false):=by
    rw [mT hu hk0 (show fv l e.aO=true by simp_all) hx1 rfl];unfold hO;rw [if_pos (by omega),hr5];refine Prod.ext rfl ?_;first|(simp;omega)|(simp_all;done)|(simp_all;omega)
  rw [hX] at hr;clear hX
  simp only [Prod.mk.injEq] at hr;obtain ⟨rfl,rfl⟩:=hr
  refine ah aa [2] 1 rfl rfl rfl rfl rfl rfl ?_ ?_
  all_goals first|rfl|(simp [au];done)|(simp [au];omega)
 have hc7':=of_decide_eq_false hc7
 refine aN ?_
 refine ad aa 4 rfl ?_
 refine ar ?_
 have hX:jx l e=((l).set k0 (⟨x1.aO,x1.sum+e.sum⟩:Entry),false):=by
   rw [mT hu hk0 (show fv l e.aO=true by simp_all) hx1 rfl];unfold hO;rw [if_neg (by omega)];refine Prod.ext rfl ?_;first|(simp;omega)|(simp_all;done)|(simp_all;omega)
 rw [hX] at hr;clear hX
 simp only [Prod.mk.injEq] at hr;obtain ⟨rfl,rfl⟩:=hr
 refine ah aa [0] 1 rfl rfl rfl rfl rfl rfl ?_ ?_
 all_goals first|rfl|(simp [au];done)|(simp [au];omega)
end Go.Proofs.Ytegepioggeggaaa.Dev
