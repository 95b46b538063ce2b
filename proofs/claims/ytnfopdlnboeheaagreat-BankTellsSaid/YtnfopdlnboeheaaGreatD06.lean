/- A part of the proof: Sh19, Book3, Book4, PlBook, Sh20, Com, Book5, Book7, Book8. No condition. -/
import Derived.Test.YtnfopdlnboeheaaGreatD05
set_option linter.unusedVariables false
set_option linter.unusedSimpArgs false
set_option maxHeartbeats 4000000
set_option maxRecDepth 100000
namespace Go.Proofs.YtnfopdlnboeheaaGreat.Dev
open Go.RowKit
section
theorem ns {a:Int} (h:0<=a/\a<=18446744073709551615):Value.int .u64 (IntKind.u64.wrap a)=.int .u64 a:=by
 have:IntKind.u64.wrap a=a:=by simp [IntKind.wrap,IntKind.bits,IntKind.signed];omega
 rw [this]
section
variable {P:Program} {st:aK} {o:Oper}
theorem qi {xt yt:TypeId} {x y:Operand} {a r:Int} (ho:o.op=.binOp .shr xt x y yt) (hx:ev st x (.v (.c (.d (.v (.int .u64 a)))))) (hy:ev st y (.v (.c (.d (.v (.int .u64 1)))))) (hr:a / 2=r):bU P o st (.v (.c (.d (.v (.int .u64 r))))) [] []:=
 bU.val fun σ T ac w C=>by
  have h1:=bA.inv (bN C hx)
  have h2:=bA.inv (bN C hy)
  subst hr
  refine ⟨.int .u64 (a / 2),?_,bA.v _ rfl⟩
  unfold execOp
  have h3:=shift_shr .u64 .u64 a 1 cm cm
  simp [ho,h1,h2,binOp,eqGuard,h3]
end
end


def fD (a b:Int):Int:=if a < b then -1 else if a > b then 1 else 0
def Up (l:List Entry):Prop:=l.Pairwise fun x y=>x.aW < y.aW
def fw:List Entry->Int->Nat
  |[],_=>0
  |x::l,t=>if x.aW < t then fw l t+1 else 0
def iw (l:List Entry) (t:Int):Bool:=match l[fw l t]? with
  |some x=>decide (x.aW=t)
  |none=>false
def xo (l:List Entry) (t:Int):Int×Bool:=(fw l t,iw l t)
theorem qe (t:Int):∀ l:List Entry,fw l t<=l.length
  |[]=>Nat.le_refl _
  |x::l=>by
    have:=qe t l
    unfold fw
    split
    ·rw [List.length_cons];omega
    ·exact Nat.zero_le _
theorem AW {t:Int}:∀ {l:List Entry} {q:Nat} {x:Entry},l[q]?=some x->q < fw l t->x.aW < t
  |[],q,x,h,_=>by simp at h
  |y::l,q,x,h,hq=>by
    unfold fw at hq
    split at hq
    ·cases q with
      |zero=>simp at h;subst h;assumption
      |succ q=>exact AW (l:=l) (by simpa using h) aa
    ·omega
theorem AX {t : Int} : ∀ {l : List Entry} {q : Nat} {x : Entry}, Up l → l[q]? = some x → fw l t ≤ q → t ≤ x.aW
  | [], q, x, _, h, _ => by simp at h
  | y :: l, q, x, hu, h, hq => by
    obtain ⟨h1, h2⟩ := List.pairwise_cons.1 hu
    unfold fw at hq
    split at hq
    · cases q with
      | zero => omega
      | succ q => exact AX (l := l) h2 (by simpa using h) aa
    · rename_i hy
      cases q with
      | zero => simp at h; subst h; omega
      | succ q =>
        have : x ∈ l := List.mem_of_getElem? (by simpa using h)
        have := h1 x this
        omega
theorem uo {a b:Int}:fD a b < 0↔a < b:=by unfold fD;split;simp_all;split<;>simp_all<;>omega
theorem su {a b:Int}:fD a b=0↔a=b:=by unfold fD;split;(constructor<;>intro h<;>omega);split;(constructor<;>intro h<;>omega);(constructor<;>intro h<;>omega)
theorem Bw {l:List Entry} {t:Int} {q:Nat} {x:Entry} (hu:Up l) (hx:l[q]?=some x):(fD x.aW t < 0/\q < fw l t)\/(¬fD x.aW t < 0/\fw l t<=q):=by
  rw [uo]
  by_cases h:q < fw l t
  ·exact .inl ⟨AW hx h,h⟩
  ·exact .inr ⟨by have:=AX hu hx (by omega:fw l t<=q);omega,aa⟩
theorem vz {l:List Entry} {t:Int} {q:Nat} {x:Entry} (hq:q=fw l t) (hx:l[q]?=some x):xo l t=((q:Int),decide (fD x.aW t=0)):=by
  subst hq
  unfold xo iw
  rw [hx]
  simp only [su]
theorem Bx {l:List Entry} {t:Int} {q:Nat} (hq:q=fw l t) (hl:l.length<=q):xo l t=((q:Int),false):=by
  subst hq
  unfold xo iw
  rw [List.getElem?_eq_none hl]

theorem Bv (n:Int):Fn Tryz.prog 131 [(.c (cI n))] (aB false) []:=by
 refine Fn.mk' 6 [(0,(aI n))] Tryz.func131 rfl rfl rfl rfl ?_
 intro W0 T0
 exact ag 1 rfl (aw 2 rfl (az (bm rfl rfl rfl (congrArg (fun b=>some (Value.bool b)) (decide_eq_false (fun h=>h rfl)))) rfl (ad 1 rfl (ae (al (aS [] 0 rfl))))))
theorem sG (a b:Int) (r:Int) (hr:fD a b=r):Fn Tryz.prog 123 [(.c (cI a)),(.c (cI b))] (.v (.c (cI r))) []:=by
 refine Fn.mk' 20 [(0,(aI a)),(1,(aI b))] Tryz.func123 rfl rfl rfl rfl ?_
 intro W0 T0
 refine ag 1 rfl (aw 1 rfl (ay 0 [] (cA 0 (Bv a) Gs rfl) rfl (ad 1 rfl (ae (aw 1 rfl (ay 0 [] (cA 0 (Bv b) Gs rfl) rfl (ad 1 rfl (ae (af (ag 1 rfl (ax rfl (fun hno=>by cases hno) (fun _=>?_))))))))))))
 refine aD (af (ag 1 rfl (ax rfl (fun hno=>by cases hno) (fun _=>?_))))
 refine aD (af (ag 3 rfl (aO rfl (fun hc3'=>?_) (fun hc3'=>?_))))
 ·
  refine ag 1 rfl (al (aj ?_))
  have hX:fD a b=(-1):=by
    (unfold fD;try dsimp only);exact sx
  rw [hX] at hr;clear hX
  subst hr
  exact aS [] 0 rfl
 refine aD (af (ag 3 rfl (aO rfl (fun hc4'=>?_) (fun hc4'=>?_))))
 ·
  refine ag 1 rfl (al (aj ?_))
  have hX:fD a b=1:=by
    (unfold fD;try dsimp only);exact sx
  rw [hX] at hr;clear hX
  subst hr
  exact aS [] 0 rfl
 refine aD (ag 1 rfl (al ?_))
 have hX:fD a b=0:=by
   (unfold fD;try dsimp only);exact sx
 rw [hX] at hr;clear hX
 subst hr
 exact aS [] 0 rfl
theorem Ji (x:Entry) (t:Int):Fn Tryz.prog 125 [(.g [(cI x.aW),(cI x.sum)]),(.c (cI t))] (aI (fD x.aW t)) []:=by
 refine Fn.mk' 9 [(0,(aG [(cI x.aW),(cI x.sum)])),(1,(aI t))] Tryz.func125 rfl rfl rfl rfl ?_
 intro W0 T0
 refine ag 2 rfl (aw 3 rfl ?_)
 have hr0:fD x.aW t=fD x.aW t:=rfl
 exact ay 1 [0] (cA 1 (sG x.aW t (fD x.aW t) hr0) Cx rfl) rfl (ad 1 rfl (ae (al (aS [] 0 rfl))))
theorem wb (l:List Entry) (t:Int) (fn:FuncId) (bu:List (List D)) (hp:∀ x:Entry,Fn Tryz.prog fn ([.g [cI x.aW,cI x.sum],.c (cI t)]++bu.map fun r=>GV.c (.q r 0)) (aI (fD x.aW t)) []) (hen:bc Tryz.prog fn) (hu:Up l) (hl:l.length * 16<=140737488355328) (i:Int) (f:Bool) (hr:xo l t=(i,f)):Fn Tryz.prog 124 [(.c (cE l)),(.c (cI t)),(.c (.d (.f fn bu)))] (.t [(.c (cI i)),(.c (cB f))]) []:=by
 refine Fn.mk' 49 [(0,(aC (cE l))),(1,(aI t)),(2,(aC (.d (.f fn bu))))] Tryz.func124 rfl rfl rfl rfl ?_
 intro W0 T0
 refine dE 0 rfl (fun hlen0=>?_)
 refine ag 2 rfl (aw 1 rfl (az (cD rfl rfl ep) rfl (ad 1 rfl (ae (ag 3 rfl (af (aL (cb (β:=Nat×Nat) (fun (p:Nat×Nat)=>match p with|(i,j)=>⟨[(0,(aC (cE l))),(1,(aI t)),(2,(aC (.d (.f fn bu)))),(6,(aI 0)),(7,(aB false)),(8,(aI (↑l.length:Int))),(9,(aI (↑i:Int))),(10,(aI (↑j:Int)))],[],0⟩) (fun (p:Nat×Nat)=>match p with|(i,j)=>i<=fw l t/\fw l t<=j/\j<=l.length) (fun (p:Nat×Nat)=>match p with|(i,j)=>j - i) (0,l.length) ?_ ?_ ?_))))))))
 ·exact ⟨aa,qe t l,aa⟩
 ·exact aq.rz id
 rintro ⟨i,j⟩ ⟨hi0_0,hi0_1,hi0_2⟩
 refine af (ag 3 rfl (aO rfl (fun hc1'=>?_) (fun hc1'=>?_)))
 ·
  refine aD (aL (aw 2 rfl (bl rfl rfl rfl rfl aa (az (eW rfl rfl (by rw [Tryz.underlying3];rfl) sL (ns aa)) rfl (az (qi (r:=(↑(((i)+(j)) / 2):Int)) rfl rfl rfl aa) rfl (az (eW rfl rfl (by rw [Tryz.underlying183];rfl) eA (nt aa)) rfl (ad 1 rfl (ae (aw 3 rfl ?_)))))))))
  obtain ⟨x1,hx1⟩:=bO (xs:=l) (i:=((i)+(j)) / 2) aa
  have hx1b:=Bw (t:=t) hu hx1
  refine az (dO (i:=((i)+(j)) / 2) rfl rfl rfl ep eR (aV hx1)) rfl (ad 2 rfl (az (kl (ins:=[(.g [(cI x1.aW),(cI x1.sum)]),(.c (cI t))]) 0 (hp x1) hen rfl rfl rfl ⟨⟨_,rfl,.g ⟨.d _,.d _,trivial⟩⟩,⟨_,rfl,.c (.d _)⟩,trivial⟩ trivial trivial rfl rfl rfl rfl) rfl (ad 1 rfl (ae (aO rfl (fun hc2'=>?_) (fun hc2'=>?_))))))
  ·
   refine ah (ad 1 rfl (bl rfl rfl rfl rfl aa (ad 1 rfl (bq (aN (then_ok (⟨(Int.toNat ((↑(((i)+(j)) / 2):Int)+1),j),⟨aa,aa,aa⟩,bT,aq.rz id⟩)))))))
  refine ah (ad 2 rfl (bq (aN (then_ok (⟨(i,((i)+(j)) / 2),⟨aa,aa,aa⟩,bT,aq.rz id⟩)))))
 refine bR (aE (aE (bw (then_ok (aw 5 rfl (bz 39 rfl (fun hb3'=>?_) (fun hb3'=>?_)))))))
 ·
  refine ad 3 rfl ?_
  obtain ⟨x1,hx1⟩:=bO (xs:=l) (i:=i) aa
  have hx1b:=Bw (t:=t) hu hx1
  refine dg (aR.yes rfl rfl rfl) (dO (i:=i) rfl rfl rfl ep eR (aV hx1)) rfl rfl (ad 2 rfl (dg (aR.yes rfl rfl rfl) (kl (ins:=[(.g [(cI x1.aW),(cI x1.sum)]),(.c (cI t))]) 0 (hp x1) hen rfl rfl rfl ⟨⟨_,rfl,.g ⟨.d _,.d _,trivial⟩⟩,⟨_,rfl,.c (.d _)⟩,trivial⟩ trivial trivial rfl rfl rfl rfl) rfl rfl (ad 4 rfl (ae (al ?_)))))
  have hX:xo l t=((↑i:Int),decide ((fD x1.aW t)=0)):=by
    first|exact vz aa hx1|exact Bx aa aa|(rw [vz aa hx1];simp_all;done)
  cases hX.symm.trans hr;clear hX
  exact aS [] 0 rfl
 refine ad 11 rfl (ae (al ?_))
 have hX:xo l t=((↑i:Int),false):=by
   first|exact vz aa hx1|exact Bx aa aa|(rw [vz aa hx1];simp_all;done)
 cases hX.symm.trans hr;clear hX
 exact aS [] 0 rfl


theorem CL (l:List Entry) (t:Int) (fn:FuncId) (bu:List (List D)) (hp:∀ x:Entry,Fn Tryz.prog fn ([.g [cI x.aW,cI x.sum],.c (cI t)]++bu.map fun r=>GV.c (.q r 0)) (aI (fD x.aW t)) []) (hen:bc Tryz.prog fn) (hu:Up l) (hl:l.length * 16<=140737488355328) (k:Nat) (f:Bool) (hr:(fw l t,iw l t)=(k,f)):Fn Tryz.prog 124 [.c (cR 2 (l.map fy)),.c (cI t),.c (.d (.f fn bu))] (.t [.c (cI (k:Int)),.c (cB f)]) []:=by
  obtain ⟨h1,h2⟩:=Prod.mk.inj hr
  exact wb l t fn bu hp hen hu hl (k:Int) f (by unfold xo;rw [h1,h2])
def dJ:List Entry->Int->Int
  |[],_=>0
  |x::l,a=>if x.aW=a then x.sum else dJ l a
def kg (l:List Entry) (a s:Int):List Entry:=l.take (fw l a)++(if s=0 then [] else [⟨a,s⟩])++l.drop (if iw l a=true then fw l a+1 else fw l a)
def ky (s:Int):Bool:=decide (s>=-1000000000000) && decide (s<=1000000000000)
def mL (l:List Entry) (e:Entry):List Entry×Bool:=(kg l e.aW (dJ l e.aW+e.sum),ky (dJ l e.aW+e.sum))
theorem sc {x:Entry} {l:List Entry} {a:Int} (h:x.aW < a):iw (x::l) a=iw l a:=by
  have h1:fw (x::l) a=fw l a+1:=by simp [fw,h]
  unfold iw;rw [h1,List.getElem?_cons_succ]
theorem pE {x:Entry} {l:List Entry} {a:Int} (h:¬x.aW < a):iw (x::l) a=decide (x.aW=a):=by
  unfold iw fw;rw [if_neg h];rfl
theorem lR {a:Int}:∀ {l:List Entry},(∀ x∈l,a < x.aW)->dJ l a=0
  |[],_=>rfl
  |x::l,h=>by
    unfold dJ
    rw [if_neg (by have:=h x List.mem_cons_self;omega)]
    exact lR fun y hy=>h y (List.mem_cons_of_mem _ hy)
theorem yS {a : Int} : ∀ {l : List Entry} {x : Entry}, Up l → iw l a = true → l[fw l a]? = some x → x.aW = a ∧ dJ l a = x.sum
  | [], x, _, _, h => by simp at h
  | y :: l, x, hu, hh, h => by
    obtain ⟨h1, h2⟩ := List.pairwise_cons.1 hu
    by_cases hy : y.aW < a
    · rw [sc hy] at hh
      unfold fw at h; rw [if_pos hy] at h
      obtain ⟨h3, h4⟩ := yS h2 hh (by simpa using h)
      refine ⟨h3, ?_⟩
      unfold dJ; rw [if_neg aa]; exact h4
    · rw [pE hy] at hh
      unfold fw at h; rw [if_neg hy] at h
      simp at h hh
      subst h
      exact ⟨hh, by unfold dJ; rw [if_pos hh]⟩
theorem yR {a : Int} : ∀ {l : List Entry}, Up l → iw l a = false → dJ l a = 0
  | [], _, _ => rfl
  | y :: l, hu, hh => by
    obtain ⟨h1, h2⟩ := List.pairwise_cons.1 hu
    by_cases hy : y.aW < a
    · rw [sc hy] at hh
      unfold dJ; rw [if_neg aa]; exact yR h2 hh
    · rw [pE hy] at hh
      simp at hh
      unfold dJ; rw [if_neg hh]
      exact lR fun x hx => by have := h1 x hx; omega
theorem Hc {a : Int} {l : List Entry} (h : iw l a = true) : fw l a < l.length := by
  by_cases hl : fw l a < l.length
  · exact hl
  · unfold iw at h
    rw [List.getElem?_eq_none aa] at h
    cases h
theorem xY {a:Int} (l:List Entry):(l.take (fw l a)).length=fw l a:=by rw [List.length_take];have:=qe a l;omega
theorem DJ {l:List Entry} {k:Nat} {x y:Entry} (hk:k<=l.length) (h:(la l k x)[k]?=some y):y=x:=by
  have h1:(l.take k).length=k:=by rw [List.length_take];omega
  unfold la at h
  rw [List.append_assoc,List.getElem?_append_right aa,h1,Nat.sub_self] at h
  simp at h
  exact h.symm
theorem Ha {l:List Entry} {k:Nat} {x y:Entry} (hk:k<=l.length):(la l k x).set k y=l.take k++[y]++l.drop k:=by
  have h1:(l.take k).length=k:=by rw [List.length_take];omega
  unfold la
  rw [List.append_assoc,List.set_append_right _ _ aa,h1,Nat.sub_self]
  simp
theorem Hb {l:List Entry} {k:Nat} {y:Entry} (hk:k < l.length):l.set k y=l.take k++[y]++l.drop (k+1):=by
  rw [List.set_eq_take_append_cons_drop,if_pos hk];simp
theorem DY {A B:List Entry} {y:Entry} {k:Nat} (h:A.length=k):oc (A++[y]++B) k (k+1)=A++B:=by
  subst h
  unfold oc
  simp
theorem qK {l:List Entry} {e x y:Entry} {k:Nat} (hu:Up l) (hk:fw l e.aW=k) (hh:iw l e.aW=true) (hx:l[k]?=some x) (hy:y=⟨x.aW,x.sum+e.sum⟩):
    mL l e=(if x.sum+e.sum=0 then oc (l.set k y) k (k+1) else l.set k y,ky (x.sum+e.sum)):=by
  subst hk hy
  obtain ⟨h1,h2⟩:=yS hu hh hx
  have hlt:=(List.getElem?_eq_some_iff.1 hx).1
  unfold mL kg
  rw [h2,if_pos hh,Hb hlt,h1]
  split
  ·rw [DY (xY l)];simp
  ·rfl
theorem qJ {l:List Entry} {e x y:Entry} {k:Nat} {r:List Entry} (hu:Up l) (hk:fw l e.aW=k) (hh:iw l e.aW=false) (hr:la l k ⟨e.aW,0⟩=r) (hx:r[k]?=some x) (hy:y=⟨x.aW,x.sum+e.sum⟩):
    mL l e=(if x.sum+e.sum=0 then oc (r.set k y) k (k+1) else r.set k y,ky (x.sum+e.sum)):=by
  subst hk hr
  have h0:=qe e.aW l
  have h1:=DJ h0 hx
  subst h1 hy
  have h2:=yR hu hh
  unfold mL kg
  rw [h2,Ha h0,if_neg (show ¬iw l e.aW=true by rw [hh];exact Bool.false_ne_true)]
  split
  ·rw [DY (xY l)];simp
  ·rfl
theorem De {l:List Entry} {k:Nat} {y z:Entry} (h:(l.set k y)[k]?=some z):z=y:=by
  have hlt:=(List.getElem?_eq_some_iff.1 h).1
  rw [List.length_set] at hlt
  rw [List.getElem?_set_self hlt] at h
  exact (Option.some.inj h).symm
theorem vh {l:List Entry} {a:Int} (h:∀ x∈l,-1000000000000<=x.sum/\x.sum<=1000000000000):-1000000000000<=dJ l a/\dJ l a<=1000000000000:=by
  induction l with
  |nil=>unfold dJ;omega
  |cons x l ih=>
    unfold dJ
    split
    ·exact h x List.mem_cons_self
    ·exact ih fun y hy=>h y (List.mem_cons_of_mem _ hy)

theorem Kv (l:List Entry) (e:Entry) (hu:Up l) (hl:(l.length+1) * 16<=140737488355328) (hb:∀ x∈l,-1000000000000<=x.sum/\x.sum<=1000000000000) (he:-1000000000000<=e.sum/\e.sum<=1000000000000) (r:List Entry) (g:Bool) (hr:mL l e=(r,g)):cS Tryz.prog 118 [(.c (.s 0 0 2 l.length)),(.g [(cI e.aW),(cI e.sum)])] [(0,(mZ l))] [] (.t [(.c (.s 0 0 2 r.length)),(.c (cB g))]) [(0,(mZ r))]:=by
 refine cS.mk 62 [(0,(aC (.s 0 0 2 l.length))),(1,(aG [(cI e.aW),(cI e.sum)]))] 1 Tryz.func118 rfl rfl rfl rfl rfl rfl rfl rfl rfl ?_
 intro W0 F0 T0 pg
 refine jx 0 rfl (fun hlen0=>?_)
 refine ag 3 rfl (aw 3 rfl ?_)
 obtain ⟨k0,f0,hr0⟩:∃ (k0:Nat) (f0:Bool),(fw l e.aW,iw l e.aW)=(k0,f0):=⟨_,_,rfl⟩
 obtain ⟨hk0,hf0⟩:=Prod.mk.inj hr0
 have hkl:=qe e.aW l
 rw [hk0] at hkl
 refine ay 2 [1,0] (kH 2 [0] (CL l e.aW 125 ([]) (fun x=>Ji x e.aW) JU (by first|assumption) aa k0 f0 hr0) JV ⟨rfl,rfl,trivial⟩ trivial rfl) rfl (ad 5 rfl (ae (af (ag 2 rfl (ax rfl (fun hc1=>?_) (fun hc1=>?_))))))
 ·
  have hc1':=hc1;try simp only [aT,bx] at hc1'
  refine ah (ad 5 rfl (ay 3 [2,1,0] (dM (ys:=[(0,(.g [(cI e.aW),(cI 0)]))]) (rows:=([(⟨e.aW,0⟩:Entry)]).map fy) 2 lE rfl) rfl ?_))
  obtain ⟨r1,hr1⟩:∃ (r1:List Entry),la l k0 (⟨e.aW,0⟩:Entry)=r1:=⟨_,rfl⟩
  have hl1:r1.length=l.length+1:=by rw [<-hr1];exact Fb hkl
  refine ay 4 [3,1] (fm (bp [0,2]) (bp [3,2]) (wc l k0 (⟨e.aW,0⟩:Entry) aa aa r1 hr1) JT rfl) rfl (ad 1 rfl (ae (af ?_)))
  obtain ⟨x1,hx1⟩:=bO (xs:=r1) (i:=k0) aa
  have hx1q:=DJ hkl (show (la l k0 ⟨e.aW,0⟩)[k0]?=some x1 by rw [hr1];exact hx1)
  have hx1b:x1.sum=0:=by rw [hx1q]
  refine bg [0,3,6] [3,1] rfl (aF 2 rfl (bh 4 [25,26] [3] rfl (cU (i:=k0) rfl rfl rfl ep eR) (aF 1 rfl (bM 4 [28] [3] rfl (dY rfl rfl rfl eA rfl (aV hx1) rfl) rfl (aF 2 rfl (bh 4 [29,31] [] rfl (bm rfl rfl rfl (bH aa)) (bh 4 [25,26] [3] rfl (cU (i:=k0) rfl rfl rfl ep eR) (aF 1 rfl (bf [3,1] rfl (eP [3,1] (dK (ds:=[(dI (x1.sum+e.sum))]) rfl rfl rfl rfl rfl eu rfl (Nat.le_of_ble_eq_true rfl) (aV hx1) rfl (eE (x':=(⟨x1.aW,x1.sum+e.sum⟩:Entry)) rfl)) rfl (ae (aw 2 rfl (az (cU (i:=k0) rfl rfl rfl ep eR) rfl (ad 1 rfl ?_))))))))))))))
  obtain ⟨x2,hx2⟩:=bO (xs:=((r1).set k0 (⟨x1.aW,x1.sum+e.sum⟩:Entry))) (i:=k0) bT
  have hx2e:=De hx2
  have hx2s:x2.sum=x1.sum+e.sum:=by rw [hx2e]
  refine az (dY rfl rfl rfl eA rfl (aV hx2) rfl) rfl (ad 2 rfl (bz 41 rfl (fun hb2'=>?_) (fun hb2'=>?_)))
  ·
   refine ad 2 rfl (dg (aR.yes rfl rfl rfl) (cU (i:=k0) rfl rfl rfl ep eR) rfl rfl (ad 1 rfl (dg (aR.yes rfl rfl rfl) (dY rfl rfl rfl eA rfl (aV hx2) rfl) rfl rfl (ad 3 rfl (ae (af (aw 2 rfl (az (cU (i:=k0) rfl rfl rfl ep eR) rfl (ad 1 rfl (az (dY rfl rfl rfl eA rfl (aV hx2) rfl) rfl (ad 1 rfl (ae (aO rfl (fun hc3'=>?_) (fun hc3'=>?_))))))))))))))
   ·
    refine ie (st':=⟨[(0,(aC (.s 3 0 2 (((r1).set k0 (⟨x1.aW,x1.sum+e.sum⟩:Entry)).length)))),(3,(aC (.p 1 0 0 0))),(6,(aI (↑k0:Int))),(32,(aI (x1.sum+e.sum))),(34,(aC (.p 3 k0 2 1))),(35,(aC (.s 3 0 2 r1.length))),(36,(aI (↑k0:Int))),(37,(aC (.p 3 k0 2 0))),(38,(aC (.p 3 k0 2 1))),(39,(aI x2.sum)),(40,(aB (decide (x2.sum>=(-1000000000000))))),(41,(aB true)),(42,(aC (.s 3 0 2 r1.length))),(43,(aI (↑k0:Int))),(44,(aC (.p 3 k0 2 0))),(45,(aC (.p 3 k0 2 1))),(46,(aI x2.sum)),(47,(aB (decide (x2.sum<=1000000000000)))),(48,(aB (decide (x2.sum<=1000000000000)))),(8,(aB (decide (x2.sum<=1000000000000)))),(49,(aC (.s 3 0 2 r1.length))),(50,(aI (↑k0:Int))),(51,(aC (.p 3 k0 2 0))),(52,(aC (.p 3 k0 2 1))),(53,(aI x2.sum)),(54,(aB (decide (x2.sum=0))))],[(3,(mZ ((r1).set k0 (⟨x1.aW,x1.sum+e.sum⟩:Entry)))),(1,(.box 105 [(cI e.aW),(cI e.sum)]))],4⟩) (aq.rz id) ?_
    refine ah (ad 3 rfl (bl rfl rfl rfl rfl aa ?_))
    obtain ⟨r2,hr2⟩:∃ (r2:List Entry),oc ((r1).set k0 (⟨x1.aW,x1.sum+e.sum⟩:Entry)) k0 ((k0)+1)=r2:=⟨_,rfl⟩
    refine ay 5 [4,1] (fm (bp [3]) (bp [4]) (ly ((r1).set k0 (⟨x1.aW,x1.sum+e.sum⟩:Entry)) k0 ((k0)+1) aa bT r2 hr2) xL rfl) rfl (ad 1 rfl (ae (ag 4 rfl (al ?_))))
    have hX:mL l e=(r2,decide (x2.sum<=1000000000000)):=by
      rw [qJ hu hk0 (show iw l e.aW=false by simp_all) hr1 hx1 rfl];unfold ky;rw [if_pos aa,hr2];refine Prod.ext rfl ?_;first|(simp;omega)|(simp_all;done)|(simp_all;omega)
    cases hX.symm.trans hr;clear hX
    exact aS [4] 1 rfl
   refine aD (ag 4 rfl (al ?_))
   have hX:mL l e=((r1).set k0 (⟨x1.aW,x1.sum+e.sum⟩:Entry),decide (x2.sum<=1000000000000)):=by
     rw [qJ hu hk0 (show iw l e.aW=false by simp_all) hr1 hx1 rfl];unfold ky;rw [if_neg aa];refine Prod.ext rfl ?_;first|(simp;omega)|(simp_all;done)|(simp_all;omega)
   cases hX.symm.trans hr;clear hX
   exact aS [3] 1 rfl
  refine ad 8 rfl (ae (af (aw 2 rfl (az (cU (i:=k0) rfl rfl rfl ep eR) rfl (ad 1 rfl (az (dY rfl rfl rfl eA rfl (aV hx2) rfl) rfl (ad 1 rfl (ae (aO rfl (fun hc4'=>?_) (fun hc4'=>?_))))))))))
  ·
   refine ie (st':=⟨[(0,(aC (.s 3 0 2 (((r1).set k0 (⟨x1.aW,x1.sum+e.sum⟩:Entry)).length)))),(3,(aC (.p 1 0 0 0))),(6,(aI (↑k0:Int))),(32,(aI (x1.sum+e.sum))),(34,(aC (.p 3 k0 2 1))),(35,(aC (.s 3 0 2 r1.length))),(36,(aI (↑k0:Int))),(37,(aC (.p 3 k0 2 0))),(38,(aC (.p 3 k0 2 1))),(39,(aI x2.sum)),(40,(aB (decide (x2.sum>=(-1000000000000))))),(41,(aB false)),(48,(aB false)),(8,(aB false)),(49,(aC (.s 3 0 2 r1.length))),(50,(aI (↑k0:Int))),(51,(aC (.p 3 k0 2 0))),(52,(aC (.p 3 k0 2 1))),(53,(aI x2.sum)),(54,(aB (decide (x2.sum=0))))],[(3,(mZ ((r1).set k0 (⟨x1.aW,x1.sum+e.sum⟩:Entry)))),(1,(.box 105 [(cI e.aW),(cI e.sum)]))],4⟩) (aq.rz id) ?_
   refine ah (ad 3 rfl (bl rfl rfl rfl rfl aa ?_))
   obtain ⟨r3,hr3⟩:∃ (r3:List Entry),oc ((r1).set k0 (⟨x1.aW,x1.sum+e.sum⟩:Entry)) k0 ((k0)+1)=r3:=⟨_,rfl⟩
   refine ay 5 [4,1] (fm (bp [3]) (bp [4]) (ly ((r1).set k0 (⟨x1.aW,x1.sum+e.sum⟩:Entry)) k0 ((k0)+1) aa aa r3 hr3) xL rfl) rfl (ad 1 rfl (ae (ag 4 rfl (al ?_))))
   have hX:mL l e=(r3,false):=by
     rw [qJ hu hk0 (show iw l e.aW=false by simp_all) hr1 hx1 rfl];unfold ky;rw [if_pos aa,hr3];refine Prod.ext rfl ?_;first|(simp;omega)|(simp_all;done)|(simp_all;omega)
   cases hX.symm.trans hr;clear hX
   exact aS [4] 1 rfl
  refine aD (ag 4 rfl (al ?_))
  have hX:mL l e=((r1).set k0 (⟨x1.aW,x1.sum+e.sum⟩:Entry),false):=by
    rw [qJ hu hk0 (show iw l e.aW=false by simp_all) hr1 hx1 rfl];unfold ky;rw [if_neg aa];refine Prod.ext rfl ?_;first|(simp;omega)|(simp_all;done)|(simp_all;omega)
  cases hX.symm.trans hr;clear hX
  exact aS [3] 1 rfl
 have hc1':=hc1;try simp only [aT,bx] at hc1'
 refine aD ?_
 have hk0lt:k0 < l.length:=by have:=Hc (l:=l) (a:=e.aW) (by simp_all);omega
 refine af ?_
 obtain ⟨x1,hx1⟩:=bO (xs:=l) (i:=k0) aa
 have hx1b:=hb x1 (List.mem_of_getElem? hx1)
 refine bg [0,3,6] [1,0] rfl (aF 2 rfl (bh 2 [25,26] [0] rfl (cU (i:=k0) rfl rfl rfl ep eR) (aF 1 rfl (bM 2 [28] [0] rfl (dY rfl rfl rfl eA rfl (aV hx1) rfl) rfl (aF 2 rfl (bh 2 [29,31] [] rfl (bm rfl rfl rfl (bH aa)) (bh 2 [25,26] [0] rfl (cU (i:=k0) rfl rfl rfl ep eR) (aF 1 rfl (bf [1,0] rfl (eP [1,0] (dK (ds:=[(dI (x1.sum+e.sum))]) rfl rfl rfl rfl rfl eu rfl (Nat.le_of_ble_eq_true rfl) (aV hx1) rfl (eE (x':=(⟨x1.aW,x1.sum+e.sum⟩:Entry)) rfl)) rfl (ae (aw 2 rfl (az (cU (i:=k0) rfl rfl rfl ep eR) rfl (ad 1 rfl ?_))))))))))))))
 obtain ⟨x2,hx2⟩:=bO (xs:=((l).set k0 (⟨x1.aW,x1.sum+e.sum⟩:Entry))) (i:=k0) bT
 have hx2e:=De hx2
 have hx2s:x2.sum=x1.sum+e.sum:=by rw [hx2e]
 refine az (dY rfl rfl rfl eA rfl (aV hx2) rfl) rfl (ad 2 rfl (bz 41 rfl (fun hb5'=>?_) (fun hb5'=>?_)))
 ·
  refine ad 2 rfl (dg (aR.yes rfl rfl rfl) (cU (i:=k0) rfl rfl rfl ep eR) rfl rfl (ad 1 rfl (dg (aR.yes rfl rfl rfl) (dY rfl rfl rfl eA rfl (aV hx2) rfl) rfl rfl (ad 3 rfl (ae (af (aw 2 rfl (az (cU (i:=k0) rfl rfl rfl ep eR) rfl (ad 1 rfl (az (dY rfl rfl rfl eA rfl (aV hx2) rfl) rfl (ad 1 rfl (ae (aO rfl (fun hc6'=>?_) (fun hc6'=>?_))))))))))))))
  ·
   refine ie (st':=⟨[(0,(aC (.s 0 0 2 (((l).set k0 (⟨x1.aW,x1.sum+e.sum⟩:Entry)).length)))),(3,(aC (.p 1 0 0 0))),(6,(aI (↑k0:Int))),(32,(aI (x1.sum+e.sum))),(34,(aC (.p 0 k0 2 1))),(35,(aC (.s 0 0 2 l.length))),(36,(aI (↑k0:Int))),(37,(aC (.p 0 k0 2 0))),(38,(aC (.p 0 k0 2 1))),(39,(aI x2.sum)),(40,(aB (decide (x2.sum>=(-1000000000000))))),(41,(aB true)),(42,(aC (.s 0 0 2 l.length))),(43,(aI (↑k0:Int))),(44,(aC (.p 0 k0 2 0))),(45,(aC (.p 0 k0 2 1))),(46,(aI x2.sum)),(47,(aB (decide (x2.sum<=1000000000000)))),(48,(aB (decide (x2.sum<=1000000000000)))),(8,(aB (decide (x2.sum<=1000000000000)))),(49,(aC (.s 0 0 2 l.length))),(50,(aI (↑k0:Int))),(51,(aC (.p 0 k0 2 0))),(52,(aC (.p 0 k0 2 1))),(53,(aI x2.sum)),(54,(aB (decide (x2.sum=0))))],[(1,(.box 105 [(cI e.aW),(cI e.sum)])),(0,(mZ ((l).set k0 (⟨x1.aW,x1.sum+e.sum⟩:Entry))))],2⟩) (aq.rz id) ?_
   refine ah (ad 3 rfl (bl rfl rfl rfl rfl aa ?_))
   obtain ⟨r4,hr4⟩:∃ (r4:List Entry),oc ((l).set k0 (⟨x1.aW,x1.sum+e.sum⟩:Entry)) k0 ((k0)+1)=r4:=⟨_,rfl⟩
   refine ay 3 [2,1] (fm id (bp [2]) (ly ((l).set k0 (⟨x1.aW,x1.sum+e.sum⟩:Entry)) k0 ((k0)+1) aa bT r4 hr4) xL rfl) rfl (ad 1 rfl (ae (ag 4 rfl (al ?_))))
   have hX:mL l e=(r4,decide (x2.sum<=1000000000000)):=by
     rw [qK hu hk0 (show iw l e.aW=true by simp_all) hx1 rfl];unfold ky;rw [if_pos aa,hr4];refine Prod.ext rfl ?_;first|(simp;omega)|(simp_all;done)|(simp_all;omega)
   cases hX.symm.trans hr;clear hX
   exact aS [2] 1 rfl
  refine aD (ag 4 rfl (al ?_))
  have hX:mL l e=((l).set k0 (⟨x1.aW,x1.sum+e.sum⟩:Entry),decide (x2.sum<=1000000000000)):=by
    rw [qK hu hk0 (show iw l e.aW=true by simp_all) hx1 rfl];unfold ky;rw [if_neg aa];refine Prod.ext rfl ?_;first|(simp;omega)|(simp_all;done)|(simp_all;omega)
  cases hX.symm.trans hr;clear hX
  exact aS [0] 1 rfl
 refine ad 8 rfl (ae (af (aw 2 rfl (az (cU (i:=k0) rfl rfl rfl ep eR) rfl (ad 1 rfl (az (dY rfl rfl rfl eA rfl (aV hx2) rfl) rfl (ad 1 rfl (ae (aO rfl (fun hc7'=>?_) (fun hc7'=>?_))))))))))
 ·
  refine ie (st':=⟨[(0,(aC (.s 0 0 2 (((l).set k0 (⟨x1.aW,x1.sum+e.sum⟩:Entry)).length)))),(3,(aC (.p 1 0 0 0))),(6,(aI (↑k0:Int))),(32,(aI (x1.sum+e.sum))),(34,(aC (.p 0 k0 2 1))),(35,(aC (.s 0 0 2 l.length))),(36,(aI (↑k0:Int))),(37,(aC (.p 0 k0 2 0))),(38,(aC (.p 0 k0 2 1))),(39,(aI x2.sum)),(40,(aB (decide (x2.sum>=(-1000000000000))))),(41,(aB false)),(48,(aB false)),(8,(aB false)),(49,(aC (.s 0 0 2 l.length))),(50,(aI (↑k0:Int))),(51,(aC (.p 0 k0 2 0))),(52,(aC (.p 0 k0 2 1))),(53,(aI x2.sum)),(54,(aB (decide (x2.sum=0))))],[(1,(.box 105 [(cI e.aW),(cI e.sum)])),(0,(mZ ((l).set k0 (⟨x1.aW,x1.sum+e.sum⟩:Entry))))],2⟩) (aq.rz id) ?_
  refine ah (ad 3 rfl (bl rfl rfl rfl rfl aa ?_))
  obtain ⟨r5,hr5⟩:∃ (r5:List Entry),oc ((l).set k0 (⟨x1.aW,x1.sum+e.sum⟩:Entry)) k0 ((k0)+1)=r5:=⟨_,rfl⟩
  refine ay 3 [2,1] (fm id (bp [2]) (ly ((l).set k0 (⟨x1.aW,x1.sum+e.sum⟩:Entry)) k0 ((k0)+1) aa aa r5 hr5) xL rfl) rfl (ad 1 rfl (ae (ag 4 rfl (al ?_))))
  have hX:mL l e=(r5,false):=by
    rw [qK hu hk0 (show iw l e.aW=true by simp_all) hx1 rfl];unfold ky;rw [if_pos aa,hr5];refine Prod.ext rfl ?_;first|(simp;omega)|(simp_all;done)|(simp_all;omega)
  cases hX.symm.trans hr;clear hX
  exact aS [2] 1 rfl
 refine aD (ag 4 rfl (al ?_))
 have hX:mL l e=((l).set k0 (⟨x1.aW,x1.sum+e.sum⟩:Entry),false):=by
   rw [qK hu hk0 (show iw l e.aW=true by simp_all) hx1 rfl];unfold ky;rw [if_neg aa];refine Prod.ext rfl ?_;first|(simp;omega)|(simp_all;done)|(simp_all;omega)
 cases hX.symm.trans hr;clear hX
 exact aS [0] 1 rfl
def fF (x:Entry):Prop:=x.aW < 0\/x.aW > 57\/x.sum < -1000000000000\/x.sum > 1000000000000
instance (x:Entry):Decidable (fF x):=by unfold fF;infer_instance
def lb (l:List Entry) (q:Nat):Int:=
 match l[q]? with
 |some x=>if fF x then 3 else if (0 < q/\(l.getD (q - 1) ⟨0,0⟩).aW>=x.aW)\/x.sum=0 then 2 else 0
 |none=>0
def gj:List Entry->Int
 |[]=>0
 |x::l=>x.sum+gj l
def eU (l:List Entry):cM:=if (scan (lb l) 0 l.length).1≠0 then ⟨(scan (lb l) 0 l.length).1,(scan (lb l) 0 l.length).2⟩ else if gj l≠0 then ⟨8,0⟩ else ⟨0,0⟩
theorem sf (x:Entry) (l:List Entry) (a:Int):dJ (x::l) a=if x.aW=a then x.sum else dJ l a:=rfl
theorem zV (l r:List Entry):gj (l++r)=gj l+gj r:=by
 induction l with
 |nil=>simp [gj]
 |cons x l ih=>simp only [List.cons_append,gj,ih];omega
theorem rD {α:Type} {l:List α} {q:Nat} {x:α} (h:l[q]?=some x):l.take (q+1)=l.take q++[x]:=by
 obtain ⟨hlt,rfl⟩:=List.getElem?_eq_some_iff.1 h
 rw [List.take_add_one,List.getElem?_eq_getElem hlt];rfl
theorem ik {l:List Entry} {q:Nat} {x:Entry} (h:l[q]?=some x):gj (l.take (q+1))=gj (l.take q)+x.sum:=by
 rw [rD h,zV];simp [gj]
def iL (l:List Entry) (q:Nat):Int:=if q=0 then -1 else (l.getD (q - 1) ⟨0,0⟩).aW
theorem jo {l:List Entry} {q:Nat} {x:Entry} (h:l[q]?=some x):iL l (q+1)=x.aW:=by
 unfold iL
 rw [if_neg aa,List.getD_eq_getElem?_getD,Nat.add_sub_cancel,h];rfl
theorem kq {l:List Entry} {q:Nat} {x:Entry} (hq:0 < q) (h:l[q - 1]?=some x):iL l q=x.aW:=by
 unfold iL
 rw [if_neg aa,List.getD_eq_getElem?_getD,h];rfl
theorem gV {l:List Entry} {q:Nat} {x:Entry} (h:l[q]?=some x):lb l q=if fF x then 3 else if (0 < q/\iL l q>=x.aW)\/x.sum=0 then 2 else 0:=by
 unfold lb
 rw [h]
 by_cases hq:q=0
 ·subst hq;simp
 ·unfold iL;rw [if_neg hq]
structure lz (l:List Entry):Prop where
 up:Up l
 ok:∀ x∈l,0<=x.aW/\x.aW<=57/\-1000000000000<=x.sum/\x.sum<=1000000000000/\x.sum≠0
theorem JD {l:List Entry} (h:∀ q x y,l[q]?=some x->l[q+1]?=some y->x.aW < y.aW):Up l:=by
 unfold Up
 induction l with
 |nil=>exact List.Pairwise.nil
 |cons x l ih=>
  have h2:=ih fun q a b ha hb=>h (q+1) a b (by simpa using ha) (by simpa using hb)
  refine List.pairwise_cons.2 ⟨fun y hy=>?_,h2⟩
  cases l with
  |nil=>cases hy
  |cons z l=>
   have hz:=h 0 x z ca ca
   rcases List.mem_cons.1 hy with rfl|hy
   ·exact hz
   ·have:=(List.pairwise_cons.1 h2).1 y hy;omega
theorem xX {l:List Entry} (h:Up l) {i j:Nat} {x y:Entry} (hij:i < j) (hx:l[i]?=some x) (hy:l[j]?=some y):x.aW < y.aW:=by
 obtain ⟨hi,rfl⟩:=List.getElem?_eq_some_iff.1 hx
 obtain ⟨hj,rfl⟩:=List.getElem?_eq_some_iff.1 hy
 exact List.pairwise_iff_getElem.1 h i j hi hj hij
theorem Dg {l:List Entry}:(scan (lb l) 0 l.length).1=0↔lz l:=by
 rw [qF]
 constructor
 ·intro h
  have at':∀ q x,l[q]?=some x->¬fF x/\¬((0 < q/\iL l q>=x.aW)\/x.sum=0):=fun q x hx=>by
   have hq:=(List.getElem?_eq_some_iff.1 hx).1
   have h1:=h q (Nat.zero_le _) aa
   rw [gV hx] at h1
   split at h1
   ·cases h1
   ·split at h1
    ·cases h1
    ·exact ⟨by assumption,by assumption⟩
  refine ⟨JD fun q x y hx hy=>?_,fun x hx=>?_⟩
  ·have h1:=(at' (q+1) y hy).2
   rw [jo hx] at h1
   omega
  ·obtain ⟨q,hq⟩:=List.getElem?_of_mem hx
   have h1:=at' q x hq
   unfold fF at h1
   omega
 ·intro h q _ hq
  obtain ⟨x,hx⟩:∃ x,l[q]?=some x:=⟨_,List.getElem?_eq_getElem aa⟩
  have h1:=h.ok x (List.mem_of_getElem? hx)
  rw [gV hx,if_neg (by unfold fF;omega),if_neg]
  rintro (⟨h2,h3⟩|h2)
  ·obtain ⟨y,hy⟩:∃ y,l[q - 1]?=some y:=⟨_,List.getElem?_eq_getElem aa⟩
   rw [kq h2 hy] at h3
   have:=xX h.up (by omega:q - 1 < q) hy hx
   omega
  ·exact h1.2.2.2.2 h2
theorem uD {l:List Entry}:(eU l).err=0↔lz l/\gj l=0:=by
 unfold eU
 rw [<-Dg]
 split
 ·rename_i h;constructor
  ·intro h1;exact absurd h1 h
  ·intro h1;exact absurd h1.1 h
 ·rename_i h
  split
  ·rename_i h2;constructor
   ·intro h1;cases h1
   ·intro h1;exact absurd h1.2 h2
  ·rename_i h2;constructor
   ·intro _;exact ⟨aa,aa⟩
   ·intro _;rfl
theorem rR {l:List Entry} (h:lz l):l.length<=58:=by
 have key:∀ (q:Nat) (x:Entry),l[q]?=some x->(q:Int)<=x.aW:=by
  intro q
  induction q with
  |zero=>intro x hx;have:=h.ok x (List.mem_of_getElem? hx);omega
  |succ q ih=>
   intro x hx
   have hq:=(List.getElem?_eq_some_iff.1 hx).1
   obtain ⟨y,hy⟩:∃ y,l[q]?=some y:=⟨_,List.getElem?_eq_getElem aa⟩
   have h1:=ih y hy
   have h2:=xX h.up (by omega:q < q+1) hy hx
   omega
 by_cases hl:l.length=0
 ·omega
 ·obtain ⟨x,hx⟩:∃ x,l[l.length - 1]?=some x:=⟨_,List.getElem?_eq_getElem aa⟩
  have h1:=key _ x hx
  have h2:=h.ok x (List.mem_of_getElem? hx)
  omega
theorem rM {x:Entry} {l:List Entry} {a s:Int} (h:x.aW < a):kg (x::l) a s=x::kg l a s:=by
 unfold kg
 rw [sc h,show fw (x::l) a=fw l a+1 by simp [fw,h]]
 cases iw l a<;>simp
theorem rL {x:Entry} {l:List Entry} {a s:Int} (h:x.aW=a):kg (x::l) a s=(if s=0 then [] else [⟨a,s⟩])++l:=by
 unfold kg
 rw [pE aa,show fw (x::l) a=0 by simp [fw];omega]
 simp [h]
theorem tQ {x:Entry} {l:List Entry} {a s:Int} (h:a < x.aW):kg (x::l) a s=(if s=0 then [] else [⟨a,s⟩])++x::l:=by
 unfold kg
 rw [pE aa,show fw (x::l) a=0 by simp [fw];omega]
 have:¬x.aW=a:=aa
 simp [this]
theorem tP (a s:Int):kg [] a s=if s=0 then [] else [⟨a,s⟩]:=by simp [kg,fw,iw]
theorem tR {a s:Int}:∀ {l:List Entry} {x:Entry},x∈kg l a s->x∈l\/(x=⟨a,s⟩/\s≠0)
 |[],x,h=>by
  rw [tP] at h
  split at h
  ·cases h
  ·rename_i h0;exact .inr ⟨by simpa using h,h0⟩
 |y::l,x,h=>by
  have one:x∈(if s=0 then [] else [(⟨a,s⟩:Entry)])->x=⟨a,s⟩/\s≠0:=fun h=>by
   split at h
   ·cases h
   ·rename_i h0;exact ⟨by simpa using h,h0⟩
  rcases Int.lt_trichotomy y.aW a with h1|h1|h1
  ·rw [rM h1] at h
   rcases List.mem_cons.1 h with rfl|h
   ·exact .inl List.mem_cons_self
   ·rcases tR h with h|h
    ·exact .inl (List.mem_cons_of_mem _ h)
    ·exact .inr h
  ·rw [rL h1] at h
   rcases List.mem_append.1 h with h|h
   ·exact .inr (one h)
   ·exact .inl (List.mem_cons_of_mem _ h)
  ·rw [tQ h1] at h
   rcases List.mem_append.1 h with h|h
   ·exact .inr (one h)
   ·exact .inl h
theorem oH {x:Entry} {l:List Entry}:Up (x::l)↔(∀ y∈l,x.aW < y.aW)/\Up l:=List.pairwise_cons
theorem AF {a s:Int}:∀ {l:List Entry},Up l->Up (kg l a s)
 |[],_=>by rw [tP];split;exact List.Pairwise.nil;exact List.pairwise_singleton _ _
 |y::l,h=>by
  obtain ⟨h1,h2⟩:=oH.1 h
  rcases Int.lt_trichotomy y.aW a with h3|h3|h3
  ·rw [rM h3]
   refine oH.2 ⟨fun z hz=>?_,AF h2⟩
   rcases tR hz with hz|⟨rfl,_⟩
   ·exact h1 z hz
   ·exact h3
  ·rw [rL h3]
   split
   ·exact h2
   ·exact oH.2 ⟨fun z hz=>by have:=h1 z hz;show a < z.aW;omega,h2⟩
  ·rw [tQ h3]
   split
   ·exact h
   ·exact oH.2 ⟨fun z hz=>by
     show a < z.aW
     rcases List.mem_cons.1 hz with rfl|hz
     ·exact h3
     ·have:=h1 z hz;omega,h⟩
theorem ud (a s b:Int) (l:List Entry):dJ ((if s=0 then [] else [⟨a,s⟩])++l) b=if s≠0/\a=b then s else dJ l b:=by
 by_cases h:s=0
 ·simp [h]
 ·simp [h,dJ]
theorem yQ {a s b:Int}:∀ {l:List Entry},Up l->dJ (kg l a s) b=if a=b then s else dJ l b
 |[],_=>by
  have:=ud a s b []
  rw [List.append_nil] at this
  rw [tP,this]
  by_cases h:s=0
  ·subst h;simp [dJ]
  ·simp [h]
 |y::l,h=>by
  obtain ⟨h1,h2⟩:=oH.1 h
  rcases Int.lt_trichotomy y.aW a with h3|h3|h3
  ·rw [rM h3]
   unfold dJ
   rw [yQ h2]
   by_cases h4:y.aW=b
   ·rw [if_pos h4,if_pos h4,if_neg aa]
   ·rw [if_neg h4,if_neg h4]
  ·rw [rL h3,ud]
   by_cases h4:a=b
   ·subst h4
    by_cases h5:s=0
    ·subst h5;simp;exact lR fun z hz=>by have:=h1 z hz;omega
    ·simp [h5]
   ·rw [if_neg (fun h=>h4 h.2),if_neg h4]
    conv=>rhs;unfold dJ
    rw [if_neg aa]
  ·rw [tQ h3,ud]
   by_cases h4:a=b
   ·subst h4
    by_cases h5:s=0
    ·subst h5;simp;exact lR fun z hz=>by
      rcases List.mem_cons.1 hz with rfl|hz
      ·exact h3
      ·have:=h1 z hz;omega
    ·simp [h5]
   ·rw [if_neg (fun h=>h4 h.2),if_neg h4]
theorem uL {l:List Entry} {a s:Int} (h:lz l) (ha:0<=a/\a<=57) (hs:-1000000000000<=s/\s<=1000000000000):lz (kg l a s):=
 ⟨AF h.up,fun x hx=>by
  rcases tR hx with hx|⟨rfl,h0⟩
  ·exact h.ok x hx
  ·exact ⟨ha.1,ha.2,hs.1,hs.2,h0⟩⟩
def kh:List Entry->List Entry->Option (List Entry)
 |l,[]=>some l
 |l,e::es=>if ky (dJ l e.aW+e.sum)=true then kh (kg l e.aW (dJ l e.aW+e.sum)) es else none
def fZ (l es:List Entry):List Entry×Int:=
 if (eU l).err≠0 then ([],(eU l).err)
 else if es.length > 10 then ([],5)
 else if ∃ x∈es,fF x then ([],3)
 else if gj es≠0 then ([],8)
 else match kh l es with
  |some r=>(r,0)
  |none=>([],4)
theorem pF {s:Int}:ky s=true↔-1000000000000<=s/\s<=1000000000000:=by
 unfold ky;simp only [Bool.and_eq_true,decide_eq_true_eq,ge_iff_le]
theorem lP {l es:List Entry} {q:Nat} {e:Entry} (h:es[q]?=some e):kh l (es.drop q)=if ky (dJ l e.aW+e.sum)=true then kh (kg l e.aW (dJ l e.aW+e.sum)) (es.drop (q+1)) else none:=by
 obtain ⟨hq,rfl⟩:=List.getElem?_eq_some_iff.1 h
 rw [List.drop_eq_getElem_cons hq];rfl
def jf (n:Nat):Nat->(Int->Int)->List Entry
 |0,_=>[]
 |m+1,f=>(if f n=0 then [] else [⟨n,f n⟩])++jf (n+1) m f
def fi (f:Int->Int):Nat->List Entry
 |0=>[]
 |k+1=>fi f k++if f k=0 then [] else [⟨k,f k⟩]
theorem tz (f:Int->Int):∀ m k,fi f k++jf k m f=fi f (k+m)
 |0,k=>by simp [jf]
 |m+1,k=>by
  have:=tz f m (k+1)
  have e1:fi f (k+1)=fi f k++(if f k=0 then [] else [⟨k,f k⟩]):=rfl
  have e2:jf k (m+1) f=(if f k=0 then [] else [⟨k,f k⟩])++jf (k+1) m f:=rfl
  rw [show k+(m+1)=k+1+m by omega,<-this,e1,e2,List.append_assoc]
theorem qp {f g:Int->Int}:∀ {m n:Nat},(∀ a:Int,(n:Int)<=a->f a=g a)->jf n m f=jf n m g
 |0,_,_=>rfl
 |m+1,n,h=>by
  unfold jf
  rw [h n (Int.le_refl _),qp fun a ha=>h a aa]
theorem canon:∀ {m n:Nat} {l:List Entry},Up l->(∀ x∈l,(n:Int)<=x.aW/\x.aW < n+m/\x.sum≠0)->jf n m (dJ l)=l
 |0,n,l,_,h=>by
  cases l with
  |nil=>rfl
  |cons x l=>have:=h x List.mem_cons_self;omega
 |m+1,n,l,hu,h=>by
  cases l with
  |nil=>
   unfold jf
   rw [canon (m:=m) (n:=n+1) hu fun x hx=>by cases hx]
   simp [dJ]
  |cons x l=>
   obtain ⟨h1,h2⟩:=oH.1 hu
   have hx:=h x List.mem_cons_self
   unfold jf
   by_cases hn:x.aW=n
   ·have e1:dJ (x::l) n=x.sum:=by unfold dJ;rw [if_pos hn]
    rw [e1,if_neg hx.2.2,qp (g:=dJ l) fun a ha=>by rw [sf,if_neg aa]]
    rw [canon h2 fun y hy=>by have:=h1 y hy;have:=h y (List.mem_cons_of_mem _ hy);refine ⟨aa,aa,this.2.2⟩,<-hn]
    rfl
   ·rw [lR fun y hy=>by
     rcases List.mem_cons.1 hy with rfl|hy
     ·omega
     ·have:=h1 y hy;omega,if_pos rfl]
    rw [canon hu fun y hy=>by
     rcases List.mem_cons.1 hy with rfl|hy
     ·exact ⟨aa,aa,hx.2.2⟩
     ·have:=h1 y hy;have:=h y (List.mem_cons_of_mem _ hy);exact ⟨aa,aa,this.2.2⟩]
    rfl
theorem BS {l:List Entry} (h:lz l):fi (dJ l) 58=l:=by
 have h1:=tz (dJ l) 58 0
 have h2:jf 0 58 (dJ l)=l:=canon h.up fun x hx=>by have:=h.ok x hx;exact ⟨aa,aa,this.2.2.2.2⟩
 rw [h2] at h1
 simpa [fi] using h1.symm
def lI (f:Int->Int):List Int:=(List.range 58).map fun (a:Nat)=>f (a:Int)
theorem br (f:Int->Int):(lI f).length=58:=by simp [lI]
theorem zN {f:Int->Int} {a:Nat} {x:Int} (h:(lI f)[a]?=some x):x=f a/\a < 58:=by
 unfold lI at h
 rw [List.getElem?_map,Option.map_eq_some_iff] at h
 obtain ⟨b,hb,rfl⟩:=h
 obtain ⟨h1,h2⟩:=List.getElem?_eq_some_iff.1 hb
 simp at h1 h2
 subst h2
 exact ⟨rfl,h1⟩
theorem zM {f g:Int->Int} {a:Nat} {s:Int} (h:∀ b:Int,g b=if (a:Int)=b then s else f b):(lI f).set a s=lI g:=by
 apply List.ext_getElem?
 intro b
 rw [List.getElem?_set]
 unfold lI
 simp only [List.length_map,List.length_range,List.getElem?_map]
 by_cases hab:a=b
 ·subst hab
  by_cases hb:a < 58
  ·simp [hb,h]
  ·simp [hb]
 ·rw [if_neg hab]
  by_cases hb:b < 58
  ·rw [List.getElem?_range hb]
   simp only [Option.map_some,Option.some.injEq]
   rw [h b,if_neg aa]
  ·rw [List.getElem?_eq_none fa];rfl
theorem DS {l:List Entry} {q:Nat} {x:Entry} (hu:Up l) (hx:l[q]?=some x) (b:Int):dJ (l.take (q+1)) b=if x.aW=b then x.sum else dJ (l.take q) b:=by
 rw [rD hx]
 have hlt:∀ y∈l.take q,y.aW < x.aW:=fun y hy=>by
  obtain ⟨i,hi⟩:=List.getElem?_of_mem hy
  rw [List.getElem?_take] at hi
  split at hi
  ·exact xX hu dr hi hx
  ·cases hi
 generalize l.take q=m at hlt
 induction m with
 |nil=>simp [dJ]
 |cons y m ih=>
  have h1:=hlt y List.mem_cons_self
  rw [List.cons_append,sf,sf]
  rw [ih fun z hz=>hlt z (List.mem_cons_of_mem _ hz)]
  by_cases h2:y.aW=b
  ·rw [if_pos h2,if_pos h2,if_neg aa]
  ·rw [if_neg h2,if_neg h2]
section
def wH (n:Int):List D:=[dI n]
section
variable {P:Program} {st:aK} {o:Oper}
theorem Fw {t n:Nat} {z:Value} (k:Nat) (ho:o.op=.alloc t) (hz:(P.info? t).bind (·.zero)=some z) (hzs:z.cells.toList=List.replicate n (.int .i64 0)) (hn:n<=9223372036854775807):
  bU P o st (.v (.c (.p k 0 1 0))) [(k,.arr t 1 ((List.replicate n (0:Int)).map wH))] []:=
 bU.new fun σ T ac w C hk=>by
  cases hq:P.info? t with
  |none=>simp [hq] at hz
  |some i=>
   have hzz:i.zero=some z:=by simpa [hq] using hz
   have hza:z.cells=(List.replicate n (Value.int .i64 0)).toArray:=by rw [<-hzs]
   refine ⟨.pointer (some ⟨w.heap.size,0,none⟩),.cells (List.replicate n (Value.int .i64 0)).toArray t,n,?_,⟨by decide,.inr ⟨_,_,rfl,.inr rfl,heap_alloc_new w _,ca,hn,?_⟩⟩,⟨_,iA _ _ _,rfl⟩⟩
   ·unfold execOp
    simp [ho,Instr.alloc,newVar,newRow,zeroValue,typeInfo,hq,hzz,hza]
   ·refine ⟨ca,fun j row hj=>?_⟩
    rw [List.map_replicate] at hj
    obtain ⟨h1,rfl⟩:=List.getElem?_eq_some_iff.1 hj
    rw [List.length_replicate] at h1
    rw [List.getElem_replicate]
    refine ⟨rfl,fun q d hd=>?_⟩
    cases q with
    |zero=>
     simp [wH] at hd;subst hd
     exact ⟨.int .i64 0,by simp [h1],.v _ rfl⟩
    |succ q=>simp [wH] at hd
theorem pa {t n e:Nat} {x y:Operand} {k i:Nat} {j:Int} (ho:o.op=.indexAddr t x y) (hx:ev st x (.v (.c (.p k 0 1 0)))) (hy:ev st y (.v (.c (.d (.v (.int .i64 j))))))
  (hu:P.underlying t=some (.array n e)) (hz:(P.info? e).map (·.size)=some 1) (hj:j=(i:Int)) (hi:i < n):bU P o st (.v (.c (.p k i 1 0))) [] []:=
 bU.val fun σ T ac w C=>by
  obtain ⟨g,hg,hv⟩:=bN C hx
  have h2:=bA.inv (bN C hy)
  subst hj
  refine ⟨.pointer (some ⟨g.g,0 * 1+0+i * 1,none⟩),?_,g,hg,ca⟩
  cases hq:P.info? e with
  |none=>simp [hq] at hz
  |some ii=>
   have hs:ii.size=1:=by simpa [hq] using hz
   unfold execOp
   simp [ho,hv,h2,Instr.indexAt,asIntOf,run_underlying hu,sizeOf,typeInfo,hq,hs,hi,asAddr,Instr.sureAddr,Addr.add_lit]
theorem Fk {t n e bt:Nat} {x:Operand} {k:Nat} {l:List Int} (ho:o.op=.load t x) (hx:ev st x (.v (.c (.p k 0 1 0)))) (hb:look st.h k=some (.arr bt 1 (l.map wH))) (hu:P.underlying t=some (.array n e)) (hz:(P.info? t).map (·.size)=some n) (hl:l.length=n):
  bU P o st (.v (.g (l.map cI))) [] []:=
 bU.val fun σ T ac w C=>by
  obtain ⟨g,hg,hv⟩:=bN C hx
  have hh:=C.heap k _ hb
  rw [hg] at hh
  have cell:∀ j x,l[j]?=some x->w.cell? ⟨g.g,j,none⟩=some (.int .i64 x):=fun j x hj=>by
   obtain ⟨v,h1,h2⟩:=hh.ur (i:=j) (j:=0) (row:=wH x) (d:=dI x) (by simp [hj]) rfl
   rw [bA.inv h2] at h1
   simpa using h1
  refine ⟨.agg (l.map fun x=>Value.int .i64 x).toArray,?_,_,rfl,?_⟩
  ·unfold execOp
   simp only [ho,hv]
   rw [show 0 * 1+0=0 by rfl]
   simp [nC (P:=P) (w:=w) (b:=g.g) (off:=0) (ws:=l.map fun x=>Value.int .i64 x) hu rfl (by rw [List.length_map,hl];exact hz) (fun j v hj=>by
    rw [List.getElem?_map,Option.map_eq_some_iff] at hj
    obtain ⟨x,hx,rfl⟩:=hj
    rw [Nat.zero_add]
    exact cell j x hx)]
  ·clear cell hh hb hl
   induction l with
   |nil=>trivial
   |cons x l ih=>exact ⟨.v _ rfl,ih⟩
theorem Fm {t n e:Nat} {x y:Operand} {l:List Int} {i:Nat} {j z:Int} {d:TypeDesc} (ho:o.op=.index t x y) (hx:ev st x (.v (.g (l.map cI)))) (hy:ev st y (.v (.c (.d (.v (.int .i64 j))))))
  (hu:P.underlying t=some (.array n e)) (hd:P.underlying e=some d) (ha:lJ d=false) (hz:(P.info? e).map (·.size)=some 1) (hj:j=(i:Int)) (hi:i < n) (hg:l[i]?=some z):bU P o st (.v (.c (.d (.v (.int .i64 z))))) [] []:=
 bU.val fun σ T ac w C=>by
  obtain ⟨vs,hv,hr⟩:=bN C hx
  have h2:=bA.inv (bN C hy)
  subst hj
  obtain ⟨v,h3,h4⟩:=hr.get (i:=i) (x:=cI z) (by simp [hg])
  have h5:v=.int .i64 z:=bA.inv h4
  subst h5
  refine ⟨.int .i64 z,?_,bA.v _ rfl⟩
  cases hq:P.info? e with
  |none=>simp [hq] at hz
  |some ii=>
   have hs:ii.size=1:=by simpa [hq] using hz
   unfold execOp
   simp [ho,hv,h2,Instr.index,asIntOf,run_underlying hu,sizeOf,typeInfo,hq,hs,hi,part,jM hd,ha,h3]
end
end


theorem tw (l:List Int) (hl:l.length * 8<=140737488355328):Fn Tryz.prog 84 [(.c (dt l))] (aC (.s 0 0 1 l.length)) [(0,.arr 3 1 (l.map rI))]:=by
 refine Fn.mk' 8 [(0,(aC (dt l)))] Tryz.func84 rfl rfl rfl rfl ?_
 intro W0 T0
 refine dE 0 rfl (fun hlen0=>?_)
 refine fX bn 1 rfl ?_
 refine af ?_
 refine mU bn 1 rfl ?_
 refine kz (aR.plain rfl) rfl rfl ed rfl rfl (fun bn1 hbn1=>?_)
 refine ae ?_
 refine ax rfl (fun hc2=>?_) (fun hc2=>?_)
 ·
  have hc2':=hc2;try simp only [aT,bx] at hc2'
  refine fX bn 1 rfl ?_
  refine al ?_
  refine aj ?_
  refine cW (aq.nil 2 3 1 cm rfl) ?_
  refine ct bn [0] 1 rfl rfl rfl rfl rfl rfl ?_ ?_
  ·(have h0:=hbn1 dr;have h1:l=[]:=by (cases l with|nil=>rfl|cons=>simp at h0));subst h1;rfl
  ·(have h0:=hbn1 dr;have h1:l=[]:=by (cases l with|nil=>rfl|cons=>simp at h0));subst h1;rfl
 have hc2':=hc2;try simp only [aT,bx] at hc2'
 refine aD ?_
 refine dq ?_
 refine ay 1 [0] (nF (ys:=[]) (rows:=(([]:List Int)).map rI) 0 lF rfl cm trivial rfl rfl rfl rfl) rfl ?_
 refine fx bn 1 rfl ?_
 refine ay 2 [1] (jD (m:=l.length) (N:=l.length) (k2:=1) (ys:=(l).map rI) lF rfl rfl rfl rfl rfl rfl bT rfl (.d _ _) bT bT rfl cm bT bT) rfl ?_
 refine fx bn 1 rfl ?_
 refine ae ?_
 refine al ?_
 refine ct bn [1] 1 rfl rfl rfl rfl rfl rfl ?_ ?_
 ·first|rfl|simp [ix,aC]
 ·first|rfl|simp
theorem qo (l:List ch) (hl:l.length * 32<=140737488355328):Fn Tryz.prog 90 [(.c (eo l))] (aC (.s 0 0 4 l.length)) [(0,.arr 95 4 (l.map iS))]:=by
 refine Fn.mk' 8 [(0,(aC (eo l)))] Tryz.func90 rfl rfl rfl rfl ?_
 intro W0 T0
 refine dE 0 rfl (fun hlen0=>?_)
 refine fX bn 1 rfl ?_
 refine af ?_
 refine mU bn 1 rfl ?_
 refine kz (aR.plain rfl) rfl rfl iY rfl rfl (fun bn1 hbn1=>?_)
 refine ae ?_
 refine ax rfl (fun hc2=>?_) (fun hc2=>?_)
 ·
  have hc2':=hc2;try simp only [aT,bx] at hc2'
  refine fX bn 1 rfl ?_
  refine al ?_
  refine aj ?_
  refine cW (aq.nil 2 95 4 cm rfl) ?_
  refine ct bn [0] 1 rfl rfl rfl rfl rfl rfl ?_ ?_
  ·(have h0:=hbn1 dr;have h1:l=[]:=by (cases l with|nil=>rfl|cons=>simp at h0));subst h1;rfl
  ·(have h0:=hbn1 dr;have h1:l=[]:=by (cases l with|nil=>rfl|cons=>simp at h0));subst h1;rfl
 have hc2':=hc2;try simp only [aT,bx] at hc2'
 refine aD ?_
 refine dq ?_
 refine ay 1 [0] (nF (ys:=[]) (rows:=(([]:List ch)).map iS) 0 rJ rfl cm trivial rfl rfl rfl rfl) rfl ?_
 refine fx bn 1 rfl ?_
 refine ay 2 [1] (jD (m:=l.length) (N:=l.length) (k2:=1) (ys:=(l).map iS) rJ rfl rfl rfl rfl rfl rfl bT rfl (.d _ _) bT bT rfl cm bT bT) rfl ?_
 refine fx bn 1 rfl ?_
 refine ae ?_
 refine al ?_
 refine ct bn [1] 1 rfl rfl rfl rfl rfl rfl ?_ ?_
 ·first|rfl|simp [ix,aC]
 ·first|rfl|simp
theorem tx (l:List dh) (hl:l.length * 16<=140737488355328):Fn Tryz.prog 113 [(.c (eF l))] (aC (.s 0 0 2 l.length)) [(0,.arr 124 2 (l.map iv))]:=by
 refine Fn.mk' 8 [(0,(aC (eF l)))] Tryz.func113 rfl rfl rfl rfl ?_
 intro W0 T0
 refine dE 0 rfl (fun hlen0=>?_)
 refine fX bn 1 rfl ?_
 refine af ?_
 refine mU bn 1 rfl ?_
 refine kz (aR.plain rfl) rfl rfl fu rfl rfl (fun bn1 hbn1=>?_)
 refine ae ?_
 refine ax rfl (fun hc2=>?_) (fun hc2=>?_)
 ·
  have hc2':=hc2;try simp only [aT,bx] at hc2'
  refine fX bn 1 rfl ?_
  refine al ?_
  refine aj ?_
  refine cW (aq.nil 2 124 2 cm rfl) ?_
  refine ct bn [0] 1 rfl rfl rfl rfl rfl rfl ?_ ?_
  ·(have h0:=hbn1 dr;have h1:l=[]:=by (cases l with|nil=>rfl|cons=>simp at h0));subst h1;rfl
  ·(have h0:=hbn1 dr;have h1:l=[]:=by (cases l with|nil=>rfl|cons=>simp at h0));subst h1;rfl
 have hc2':=hc2;try simp only [aT,bx] at hc2'
 refine aD ?_
 refine dq ?_
 refine ay 1 [0] (nF (ys:=[]) (rows:=(([]:List dh)).map iv) 0 mh rfl cm trivial rfl rfl rfl rfl) rfl ?_
 refine fx bn 1 rfl ?_
 refine ay 2 [1] (jD (m:=l.length) (N:=l.length) (k2:=1) (ys:=(l).map iv) mh rfl rfl rfl rfl rfl rfl bT rfl (.d _ _) bT bT rfl cm bT bT) rfl ?_
 refine fx bn 1 rfl ?_
 refine ae ?_
 refine al ?_
 refine ct bn [1] 1 rfl rfl rfl rfl rfl rfl ?_ ?_
 ·first|rfl|simp [ix,aC]
 ·first|rfl|simp
theorem pf (l:List aZ) (hl:l.length * 32<=140737488355328):Fn Tryz.prog 100 [(.c (bX l))] (aC (.s 0 0 4 l.length)) [(0,.arr 85 4 (l.map fA))]:=by
 refine Fn.mk' 8 [(0,(aC (bX l)))] Tryz.func100 rfl rfl rfl rfl ?_
 intro W0 T0
 refine dE 0 rfl (fun hlen0=>?_)
 refine fX bn 1 rfl ?_
 refine af ?_
 refine mU bn 1 rfl ?_
 refine kz (aR.plain rfl) rfl rfl gK rfl rfl (fun bn1 hbn1=>?_)
 refine ae ?_
 refine ax rfl (fun hc2=>?_) (fun hc2=>?_)
 ·
  have hc2':=hc2;try simp only [aT,bx] at hc2'
  refine fX bn 1 rfl ?_
  refine al ?_
  refine aj ?_
  refine cW (aq.nil 2 85 4 cm rfl) ?_
  refine ct bn [0] 1 rfl rfl rfl rfl rfl rfl ?_ ?_
  ·(have h0:=hbn1 dr;have h1:l=[]:=by (cases l with|nil=>rfl|cons=>simp at h0));subst h1;rfl
  ·(have h0:=hbn1 dr;have h1:l=[]:=by (cases l with|nil=>rfl|cons=>simp at h0));subst h1;rfl
 have hc2':=hc2;try simp only [aT,bx] at hc2'
 refine aD ?_
 refine dq ?_
 refine ay 1 [0] (nF (ys:=[]) (rows:=(([]:List aZ)).map fA) 0 oV rfl cm trivial rfl rfl rfl rfl) rfl ?_
 refine fx bn 1 rfl ?_
 refine ay 2 [1] (jD (m:=l.length) (N:=l.length) (k2:=1) (ys:=(l).map fA) oV rfl rfl rfl rfl rfl rfl bT rfl (.d _ _) bT bT rfl cm bT bT) rfl ?_
 refine fx bn 1 rfl ?_
 refine ae ?_
 refine al ?_
 refine ct bn [1] 1 rfl rfl rfl rfl rfl rfl ?_ ?_
 ·first|rfl|simp [ix,aC]
 ·first|rfl|simp
theorem xH (l:List Entry) (hl:l.length * 16<=140737488355328):Fn Tryz.prog 117 [(.c (cE l))] (aC (.s 0 0 2 l.length)) [(0,.arr 105 2 (l.map fy))]:=by
 refine Fn.mk' 8 [(0,(aC (cE l)))] Tryz.func117 rfl rfl rfl rfl ?_
 intro W0 T0
 refine dE 0 rfl (fun hlen0=>?_)
 refine fX bn 1 rfl ?_
 refine af ?_
 refine mU bn 1 rfl ?_
 refine kz (aR.plain rfl) rfl rfl ep rfl rfl (fun bn1 hbn1=>?_)
 refine ae ?_
 refine ax rfl (fun hc2=>?_) (fun hc2=>?_)
 ·
  have hc2':=hc2;try simp only [aT,bx] at hc2'
  refine fX bn 1 rfl ?_
  refine al ?_
  refine aj ?_
  refine cW (aq.nil 2 105 2 cm rfl) ?_
  refine ct bn [0] 1 rfl rfl rfl rfl rfl rfl ?_ ?_
  ·(have h0:=hbn1 dr;have h1:l=[]:=by (cases l with|nil=>rfl|cons=>simp at h0));subst h1;rfl
  ·(have h0:=hbn1 dr;have h1:l=[]:=by (cases l with|nil=>rfl|cons=>simp at h0));subst h1;rfl
 have hc2':=hc2;try simp only [aT,bx] at hc2'
 refine aD ?_
 refine dq ?_
 refine ay 1 [0] (nF (ys:=[]) (rows:=(([]:List Entry)).map fy) 0 lE rfl cm trivial rfl rfl rfl rfl) rfl ?_
 refine fx bn 1 rfl ?_
 refine ay 2 [1] (jD (m:=l.length) (N:=l.length) (k2:=1) (ys:=(l).map fy) lE rfl rfl rfl rfl rfl rfl bT rfl (.d _ _) bT bT rfl cm bT bT) rfl ?_
 refine fx bn 1 rfl ?_
 refine ae ?_
 refine al ?_
 refine ct bn [1] 1 rfl rfl rfl rfl rfl rfl ?_ ?_
 ·first|rfl|simp [ix,aC]
 ·first|rfl|simp
theorem qm (l:List ar) (hl:l.length * 32<=140737488355328):Fn Tryz.prog 86 [(.c (eZ l))] (aC (.s 0 0 4 l.length)) [(0,.arr 103 4 (l.map dD))]:=by
 refine Fn.mk' 8 [(0,(aC (eZ l)))] Tryz.func86 rfl rfl rfl rfl ?_
 intro W0 T0
 refine dE 0 rfl (fun hlen0=>?_)
 refine fX bn 1 rfl ?_
 refine af ?_
 refine mU bn 1 rfl ?_
 refine kz (aR.plain rfl) rfl rfl dQ rfl rfl (fun bn1 hbn1=>?_)
 refine ae ?_
 refine ax rfl (fun hc2=>?_) (fun hc2=>?_)
 ·
  have hc2':=hc2;try simp only [aT,bx] at hc2'
  refine fX bn 1 rfl ?_
  refine al ?_
  refine aj ?_
  refine cW (aq.nil 2 103 4 cm rfl) ?_
  refine ct bn [0] 1 rfl rfl rfl rfl rfl rfl ?_ ?_
  ·(have h0:=hbn1 dr;have h1:l=[]:=by (cases l with|nil=>rfl|cons=>simp at h0));subst h1;rfl
  ·(have h0:=hbn1 dr;have h1:l=[]:=by (cases l with|nil=>rfl|cons=>simp at h0));subst h1;rfl
 have hc2':=hc2;try simp only [aT,bx] at hc2'
 refine aD ?_
 refine dq ?_
 refine ay 1 [0] (nF (ys:=[]) (rows:=(([]:List ar)).map dD) 0 fP rfl cm trivial rfl rfl rfl rfl) rfl ?_
 refine fx bn 1 rfl ?_
 refine ay 2 [1] (jD (m:=l.length) (N:=l.length) (k2:=1) (ys:=(l).map dD) fP rfl rfl rfl rfl rfl rfl bT rfl (.d _ _) bT bT rfl cm bT bT) rfl ?_
 refine fx bn 1 rfl ?_
 refine ae ?_
 refine al ?_
 refine ct bn [1] 1 rfl rfl rfl rfl rfl rfl ?_ ?_
 ·first|rfl|simp [ix,aC]
 ·first|rfl|simp
theorem oC (n:Int):Fn Tryz.prog 78 [(.c (cI n))] (aB (aT n)) []:=by
 refine Fn.mk' 9 [(0,(aI n))] Tryz.func78 rfl rfl rfl rfl ?_
 intro W0 T0
 refine fX bn 1 rfl ?_
 refine bQ 2 ((decide (n>=0)) && (decide (n<=1000000))) ?_ ?_
 ·
  refine ah ?_
  refine fx bn 3 rfl ?_
  refine iz (t:=5) rfl (fun hb1=>?_) (fun hb1=>?_)
  ·
   have hb1':=of_decide_eq_true hb1
   refine fx bn 4 rfl ?_
   refine ae ?_
   exact aq.ng 8 rfl rfl (by first|(simp [hb1];done)|(simp_all;done)|(exfalso;simp_all;done)|(simp_all;omega)) rfl
  have hb1':=of_decide_eq_false hb1
  refine fx bn 4 rfl ?_
  refine ae ?_
  exact aq.ng 8 rfl rfl (by first|(simp [hb1];done)|(simp_all;done)|(exfalso;simp_all;done)|(simp_all;omega)) rfl
 refine al ?_
 refine ct bn [] 0 rfl rfl rfl rfl rfl rfl ?_ ?_
 all_goals first|rfl|(simp [cq];done)|(simp [cq];omega)

theorem JE:(Tryz.prog.info? 160).map (fun i=>i.size)=some 58:=by kernel_rfl
theorem JA:(Tryz.prog.info? 160).bind (fun i=>i.zero)=some (.agg #[.int .i64 0,.int .i64 0,.int .i64 0,.int .i64 0,.int .i64 0,.int .i64 0,.int .i64 0,.int .i64 0,.int .i64 0,.int .i64 0,.int .i64 0,.int .i64 0,.int .i64 0,.int .i64 0,.int .i64 0,.int .i64 0,.int .i64 0,.int .i64 0,.int .i64 0,.int .i64 0,.int .i64 0,.int .i64 0,.int .i64 0,.int .i64 0,.int .i64 0,.int .i64 0,.int .i64 0,.int .i64 0,.int .i64 0,.int .i64 0,.int .i64 0,.int .i64 0,.int .i64 0,.int .i64 0,.int .i64 0,.int .i64 0,.int .i64 0,.int .i64 0,.int .i64 0,.int .i64 0,.int .i64 0,.int .i64 0,.int .i64 0,.int .i64 0,.int .i64 0,.int .i64 0,.int .i64 0,.int .i64 0,.int .i64 0,.int .i64 0,.int .i64 0,.int .i64 0,.int .i64 0,.int .i64 0,.int .i64 0,.int .i64 0,.int .i64 0,.int .i64 0]):=by kernel_rfl
theorem zD (l:List Entry) (f:cM) (hr:eU l=f):Fn Tryz.prog 116 [(.c (cE l))] (.v (.g [(cI f.err),(cI f.at_)])) []:=by
 refine Fn.mk' 64 [(0,(aC (cE l)))] Tryz.func116 rfl rfl rfl rfl ?_
 intro W0 T0
 refine dE 0 rfl (fun hlen0=>?_)
 refine ag 1 rfl (ag 1 rfl (af (aw 1 rfl (az (cD rfl rfl ep) rfl (ad 1 rfl (ae (aL (cb (β:=Nat) (fun (q:Nat)=>⟨[(0,(aC (cE l))),(2,(aC (.p 0 0 0 0))),(3,(aI (gj (l.take q)))),(6,(aC (cE l))),(7,(aI (↑l.length:Int))),(8,(aI (↑q:Int)))],[(0,(.box 47 [(cI 0),(cI 0)]))],1⟩) (fun (q:Nat)=>q<=l.length/\scan (lb l) 0 l.length=scan (lb l) q (l.length - q)/\(q:Int) - 1<=iL l q/\iL l q<=57/\-1000000000000 * (q:Int)<=gj (l.take q)/\gj (l.take q)<=1000000000000 * (q:Int)) (fun (q:Nat)=>l.length - q) 0 ?_ ?_ ?_))))))))
 ·(have h1:iL l 0=-1:=rfl);(have h2:gj (l.take 0)=0:=rfl);exact ⟨aa,rfl,aa,aa⟩
 ·exact aq.rz id
 rintro q ⟨hi0_0,hi0_1,hi0_2,hi0_3⟩
 refine ag 1 rfl (af (aO rfl (fun hc1'=>?_) (fun hc1'=>?_)))
 ·
  refine aD (af (aL (aw 1 rfl ?_)))
  obtain ⟨x1,hx1⟩:=bO (xs:=l) (i:=q) aa
  refine az (dO (i:=q) rfl rfl rfl ep eR (aV hx1)) rfl (ad 4 rfl (ae (af (aL (bQ 13 ((((decide (x1.aW < 0))||(decide (x1.aW>=58)))||(decide (x1.sum < (-1000000000000))))||(decide (x1.sum > 1000000000000))) ?_ ?_)))))
  ·
   refine ah (ad 4 rfl (bz 17 rfl (fun hb2'=>?_) (fun hb2'=>?_)))
   ·
    exact ad 15 rfl (ae (aq.pz 20 rfl))
   refine ad 5 rfl (bz 22 rfl (fun hb3'=>?_) (fun hb3'=>?_))
   ·
    exact ad 10 rfl (ae (aq.pz 21 rfl))
   refine ad 5 rfl (bz 27 rfl (fun hb4'=>?_) (fun hb4'=>?_))
   ·
    exact ad 5 rfl (ae (aq.pz 22 rfl))
   exact ad 5 rfl (ae (aq.pz 22 rfl))
  refine ax rfl (fun hc5=>?_) (fun hc5=>?_)
  ·
   have hc5':=hc5;try simp only [aT,bx] at hc5'
   refine ag 3 rfl (al (aY (aj (aY (aj (aj (aY (aj ?_))))))))
   have hX:eU l=(⟨3,(↑q:Int)⟩:cM):=by
     (have hb:fF x1:=by unfold fF;omega);(have h0:=gk (e:=lb l) (q:=q) (n:=l.length) aa (by rw [gV hx1,if_pos hb]) (by decide:(3:Int)≠0));(unfold eU;rw [hi0_1,h0];rfl)
   rw [hX] at hr;clear hX
   subst hr
   exact aS [0] 0 rfl
  have hc5':=hc5;try simp only [aT,bx] at hc5'
  refine af ?_
  rcases Bool.eq_false_or_eq_true (decide ((↑q:Int) > 0)) with hb6|hb6
  ·
   have hb6':=of_decide_eq_true hb6
   obtain ⟨x2,hx2⟩:=bO (xs:=l) (i:=(q) - 1) aa
   rcases Bool.eq_false_or_eq_true (decide (x2.aW>=x1.aW)) with hb7|hb7
   ·
    have hb7':=of_decide_eq_true hb7
    refine bg [0,2,3,6,7,8,5,4] [1,0] rfl (bC (kn:=[(36,true)]) bn 5 rfl ⟨hb6,trivial⟩ (cG (n':=2) [39,37] [] rfl rfl (.inl ⟨(aR.yes rfl rfl rfl),bm rfl rfl rfl (bH aa)⟩) rfl (cG (n':=2) [38,40,37] [] rfl rfl (.inl ⟨(aR.yes rfl rfl rfl),dO (i:=(q) - 1) rfl rfl rfl ep eR (aV hx2)⟩) rfl (bC (kn:=[(46,true)]) bn 12 rfl ⟨hb7,trivial⟩ (bf [1,0] rfl (ae (ax rfl (fun _=>?_) (fun hno=>by cases hno))))))))
    refine ag 3 rfl (al (aY (aj (aY (aj (aj (aY (aj ?_))))))))
    have hX:eU l=(⟨2,(↑q:Int)⟩:cM):=by
      (have hb:¬fF x1:=by unfold fF;omega);(have hla:=kq aa hx2);(have h0:=gk (e:=lb l) (q:=q) (n:=l.length) aa (by rw [gV hx1,if_neg hb,if_pos aa]) (by decide:(2:Int)≠0));(unfold eU;rw [hi0_1,h0];rfl)
    rw [hX] at hr;clear hX
    subst hr
    exact aS [0] 0 rfl
   have hb7':=of_decide_eq_false hb7
   refine bg [0,2,3,6,7,8,5,4] [1,0] rfl (bC (kn:=[(36,true)]) bn 5 rfl ⟨hb6,trivial⟩ (cG (n':=2) [39,37] [] rfl rfl (.inl ⟨(aR.yes rfl rfl rfl),bm rfl rfl rfl (bH aa)⟩) rfl (cG (n':=2) [38,40,37] [] rfl rfl (.inl ⟨(aR.yes rfl rfl rfl),dO (i:=(q) - 1) rfl rfl rfl ep eR (aV hx2)⟩) rfl (bC (kn:=[(46,false)]) bn 12 rfl ⟨hb7,trivial⟩ (bf [1,0] rfl (ae (aO rfl (fun hc9'=>?_) (fun hc9'=>?_))))))))
   ·
    refine ag 3 rfl (al (aY (aj (aY (aj (aj (aY (aj ?_))))))))
    have hX:eU l=(⟨2,(↑q:Int)⟩:cM):=by
      (have hb:¬fF x1:=by unfold fF;omega);(have hla:=kq aa hx2);(have h0:=gk (e:=lb l) (q:=q) (n:=l.length) aa (by rw [gV hx1,if_neg hb,if_pos aa]) (by decide:(2:Int)≠0));(unfold eU;rw [hi0_1,h0];rfl)
    rw [hX] at hr;clear hX
    subst hr
    exact aS [0] 0 rfl
   refine cv (aN (then_ok (ah (ad 3 rfl (bl rfl rfl rfl rfl aa (ad 1 rfl (bq (aN (then_ok (ah (bl rfl rfl rfl rfl aa (ad 1 rfl (ae (⟨q+1,⟨aa,by rw [hi0_1];exact kD aa (by have hla:=kq aa hx2;rw [gV hx1,if_neg (by unfold fF;omega),if_neg aa]),by rw [jo hx1];have hla:=kq aa hx2;omega,by rw [jo hx1,ik hx1];omega⟩,bT,aq.rz id (by refine ⟨?_,?_,?_,?_,?_,?_,trivial⟩<;>first|rfl|(simp only [fQ];done)|(congr 3;omega)|(congr 4;omega)|(simp only [fR];rfl)|(rw [ik hx1];rfl))⟩))))))))))))))
  have hb6':=of_decide_eq_false hb6
  refine bg [0,2,3,6,7,8,5,4] [1,0] rfl (bC (kn:=[(36,false)]) bn 19 rfl ⟨hb6,trivial⟩ (bf [1,0] rfl (ae (aO rfl (fun hc10'=>?_) (fun hc10'=>?_)))))
  ·
   refine ag 3 rfl (al (aY (aj (aY (aj (aj (aY (aj ?_))))))))
   have hX:eU l=(⟨2,(↑q:Int)⟩:cM):=by
     (have hb:¬fF x1:=by unfold fF;omega);(have h0:=gk (e:=lb l) (q:=q) (n:=l.length) aa (by rw [gV hx1,if_neg hb,if_pos aa]) (by decide:(2:Int)≠0));(unfold eU;rw [hi0_1,h0];rfl)
   rw [hX] at hr;clear hX
   subst hr
   exact aS [0] 0 rfl
  refine cv (aN (then_ok (ah (ad 3 rfl (bl rfl rfl rfl rfl aa (ad 1 rfl (bq (aN (then_ok (ah (bl rfl rfl rfl rfl aa (ad 1 rfl (ae (⟨q+1,⟨aa,by rw [hi0_1];exact kD aa (by have hla:iL l q=-1:=(by unfold iL;rw [if_pos aa]);rw [gV hx1,if_neg (by unfold fF;omega),if_neg aa]),by rw [jo hx1];have hla:iL l q=-1:=(by unfold iL;rw [if_pos aa]);omega,by rw [jo hx1,ik hx1];omega⟩,bT,aq.rz id (by refine ⟨?_,?_,?_,?_,?_,?_,trivial⟩<;>first|rfl|(simp only [fQ];done)|(congr 3;omega)|(congr 4;omega)|(simp only [fR];rfl)|(rw [ik hx1];rfl))⟩))))))))))))))
 refine bR (aE (aE (bw (then_ok (af (ag 2 rfl (aO rfl (fun hc11'=>?_) (fun hc11'=>?_))))))))
 ·
  refine ag 2 rfl (al (aj ?_))
  have hX:eU l=(⟨8,0⟩:cM):=by
    (obtain rfl:q=l.length:=by omega);rw [List.take_length] at *;(unfold eU;rw [hi0_1,kW aa];rw [if_neg cm,if_pos aa])
  rw [hX] at hr;clear hX
  subst hr
  exact aS [0] 0 rfl
 refine aD (ag 2 rfl (al ?_))
 have hX:eU l=(⟨0,0⟩:cM):=by
   (obtain rfl:q=l.length:=by omega);rw [List.take_length] at *;(unfold eU;rw [hi0_1,kW aa];rw [if_neg cm,if_neg aa])
 rw [hX] at hr;clear hX
 subst hr
 exact aS [0] 0 rfl
theorem Ak (l:List Entry) (f:cM) (hr:eU l=f):Fn Tryz.prog 106 [(.c (cE l))] (.v (.g [(cI f.err),(cI f.at_)])) []:=by
 refine Fn.mk' 62 [(0,(aC (cE l)))] Tryz.func106 rfl rfl rfl rfl ?_
 intro W0 T0
 refine dE 0 rfl (fun hlen0=>?_)
 refine ag 1 rfl (ag 1 rfl (af (aw 1 rfl (az (cD rfl rfl ep) rfl (ad 1 rfl (ae (aL (cb (β:=Nat) (fun (q:Nat)=>⟨[(0,(aC (cE l))),(2,(aC (.p 0 0 0 0))),(3,(aI (gj (l.take q)))),(6,(aC (cE l))),(7,(aI (↑l.length:Int))),(8,(aI (↑q:Int)))],[(0,(.box 47 [(cI 0),(cI 0)]))],1⟩) (fun (q:Nat)=>q<=l.length/\scan (lb l) 0 l.length=scan (lb l) q (l.length - q)/\(q:Int) - 1<=iL l q/\iL l q<=57/\-1000000000000 * (q:Int)<=gj (l.take q)/\gj (l.take q)<=1000000000000 * (q:Int)) (fun (q:Nat)=>l.length - q) 0 ?_ ?_ ?_))))))))
 ·(have h1:iL l 0=-1:=rfl);(have h2:gj (l.take 0)=0:=rfl);exact ⟨aa,rfl,aa,aa⟩
 ·exact aq.rz id
 rintro q ⟨hi0_0,hi0_1,hi0_2,hi0_3⟩
 refine ag 1 rfl (af (aO rfl (fun hc1'=>?_) (fun hc1'=>?_)))
 ·
  refine aD (af (aL (aw 1 rfl ?_)))
  obtain ⟨x1,hx1⟩:=bO (xs:=l) (i:=q) aa
  refine az (dO (i:=q) rfl rfl rfl ep eR (aV hx1)) rfl (ad 4 rfl (ae (af (bQ 30 ((((decide (x1.aW < 0))||(decide (x1.aW > 57)))||(decide (x1.sum > 1000000000000)))||(decide (x1.sum < (-1000000000000)))) ?_ ?_))))
  ·
   refine ah (ad 4 rfl (bz 16 rfl (fun hb2'=>?_) (fun hb2'=>?_)))
   ·
    exact ad 14 rfl (ae (aq.pz 19 rfl))
   refine ad 5 rfl (bz 21 rfl (fun hb3'=>?_) (fun hb3'=>?_))
   ·
    exact ad 9 rfl (ae (aq.pz 20 rfl))
   refine ad 5 rfl (bz 26 rfl (fun hb4'=>?_) (fun hb4'=>?_))
   ·
    exact ad 4 rfl (ae (aq.pz 21 rfl))
   exact ad 4 rfl (ae (aq.pz 21 rfl))
  refine ax rfl (fun hc5=>?_) (fun hc5=>?_)
  ·
   have hc5':=hc5;try simp only [aT,bx] at hc5'
   refine ag 3 rfl (al (aj (aY (aj (aj (aY (aj ?_)))))))
   have hX:eU l=(⟨3,(↑q:Int)⟩:cM):=by
     (have hb:fF x1:=by unfold fF;omega);(have h0:=gk (e:=lb l) (q:=q) (n:=l.length) aa (by rw [gV hx1,if_pos hb]) (by decide:(3:Int)≠0));(unfold eU;rw [hi0_1,h0];rfl)
   rw [hX] at hr;clear hX
   subst hr
   exact aS [0] 0 rfl
  have hc5':=hc5;try simp only [aT,bx] at hc5'
  refine aD (af (af ?_))
  rcases Bool.eq_false_or_eq_true (decide (x1.sum=0)) with hb6|hb6
  ·
   have hb6':=of_decide_eq_true hb6
   refine bg [0,2,3,6,7,8,5,4] [1,0] rfl (bC (kn:=[(35,true)]) bn 18 rfl ⟨hb6,trivial⟩ (bf [1,0] rfl (ae (ax rfl (fun _=>?_) (fun hno=>by cases hno)))))
   refine ag 3 rfl (al (aj (aY (aj (aj (aY (aj ?_)))))))
   have hX:eU l=(⟨2,(↑q:Int)⟩:cM):=by
     (have hb:¬fF x1:=by unfold fF;omega);(have h0:=gk (e:=lb l) (q:=q) (n:=l.length) aa (by rw [gV hx1,if_neg hb,if_pos aa]) (by decide:(2:Int)≠0));(unfold eU;rw [hi0_1,h0];rfl)
   rw [hX] at hr;clear hX
   subst hr
   exact aS [0] 0 rfl
  have hb6':=of_decide_eq_false hb6
  rcases Bool.eq_false_or_eq_true (decide ((↑q:Int) > 0)) with hb8|hb8
  ·
   have hb8':=of_decide_eq_true hb8
   obtain ⟨x2,hx2⟩:=bO (xs:=l) (i:=(q) - 1) aa
   refine bg [0,2,3,6,7,8,5,4] [1,0] rfl (bC (kn:=[(35,false),(38,true)]) bn 11 rfl ⟨hb6,hb8,trivial⟩ (cG (n':=2) [43,39] [] rfl rfl (.inl ⟨(aR.yes rfl rfl rfl),bm rfl rfl rfl (bH aa)⟩) rfl (cG (n':=2) [42,44,39] [] rfl rfl (.inl ⟨(aR.yes rfl rfl rfl),dO (i:=(q) - 1) rfl rfl rfl ep eR (aV hx2)⟩) rfl (aF 5 rfl (bf [1,0] rfl (ae (aO rfl (fun hc9'=>?_) (fun hc9'=>?_))))))))
   ·
    refine ag 3 rfl (al (aj (aY (aj (aj (aY (aj ?_)))))))
    have hX:eU l=(⟨2,(↑q:Int)⟩:cM):=by
      (have hb:¬fF x1:=by unfold fF;omega);(have hla:=kq aa hx2);(have h0:=gk (e:=lb l) (q:=q) (n:=l.length) aa (by rw [gV hx1,if_neg hb,if_pos aa]) (by decide:(2:Int)≠0));(unfold eU;rw [hi0_1,h0];rfl)
    rw [hX] at hr;clear hX
    subst hr
    exact aS [0] 0 rfl
   refine aD (ah (ad 3 rfl (bl rfl rfl rfl rfl aa (ad 1 rfl (bq (aN (then_ok (ah (bl rfl rfl rfl rfl aa (ad 1 rfl (ae (⟨q+1,⟨aa,by rw [hi0_1];exact kD aa (by have hla:=kq aa hx2;rw [gV hx1,if_neg (by unfold fF;omega),if_neg aa]),by rw [jo hx1];have hla:=kq aa hx2;omega,by rw [jo hx1,ik hx1];omega⟩,bT,aq.rz id (by refine ⟨?_,?_,?_,?_,?_,?_,trivial⟩<;>first|rfl|(simp only [fQ];done)|(congr 3;omega)|(congr 4;omega)|(simp only [fR];rfl)|(rw [ik hx1];rfl))⟩))))))))))))
  have hb8':=of_decide_eq_false hb8
  refine bg [0,2,3,6,7,8,5,4] [1,0] rfl (bC (kn:=[(35,false),(38,false)]) bn 18 rfl ⟨hb6,hb8,trivial⟩ (bf [1,0] rfl (ae (ax rfl (fun hno=>by cases hno) (fun _=>?_)))))
  refine aD (ah (ad 3 rfl (bl rfl rfl rfl rfl aa (ad 1 rfl (bq (aN (then_ok (ah (bl rfl rfl rfl rfl aa (ad 1 rfl (ae (⟨q+1,⟨aa,by rw [hi0_1];exact kD aa (by have hla:iL l q=-1:=(by unfold iL;rw [if_pos aa]);rw [gV hx1,if_neg (by unfold fF;omega),if_neg aa]),by rw [jo hx1];have hla:iL l q=-1:=(by unfold iL;rw [if_pos aa]);omega,by rw [jo hx1,ik hx1];omega⟩,bT,aq.rz id (by refine ⟨?_,?_,?_,?_,?_,?_,trivial⟩<;>first|rfl|(simp only [fQ];done)|(congr 3;omega)|(congr 4;omega)|(simp only [fR];rfl)|(rw [ik hx1];rfl))⟩))))))))))))
 refine bR (aE (aE (bw (then_ok (af (ag 2 rfl (aO rfl (fun hc11'=>?_) (fun hc11'=>?_))))))))
 ·
  refine ag 2 rfl (al (aj ?_))
  have hX:eU l=(⟨8,0⟩:cM):=by
    (obtain rfl:q=l.length:=by omega);rw [List.take_length] at *;(unfold eU;rw [hi0_1,kW aa];rw [if_neg cm,if_pos aa])
  rw [hX] at hr;clear hX
  subst hr
  exact aS [0] 0 rfl
 refine aD (ag 2 rfl (al ?_))
 have hX:eU l=(⟨0,0⟩:cM):=by
   (obtain rfl:q=l.length:=by omega);rw [List.take_length] at *;(unfold eU;rw [hi0_1,kW aa];rw [if_neg cm,if_neg aa])
 rw [hX] at hr;clear hX
 subst hr
 exact aS [0] 0 rfl


theorem oX {l es:List Entry} (h0:(eU l).err=0) (h1:es.length<=10) (h2:∀ x∈es,¬fF x) (h3:gj es=0):fZ l es=match kh l es with
    |some r=>(r,0)
    |none=>([],4):=by
  unfold fZ
  rw [if_neg aa,if_neg aa,if_neg (fun ⟨x,hx,hb⟩=>h2 x hx hb),if_neg aa]
  all_goals (cases kh l es<;>rfl)
theorem pD {es:List Entry} {q:Nat} (h:∀ x∈es.take q,¬fF x) (hq:es.length<=q):∀ x∈es,¬fF x:=by
  rwa [List.take_of_length_le hq] at h
theorem uT {es:List Entry} {q:Nat} {x:Entry} (h:∀ x∈es.take q,¬fF x) (hx:es[q]?=some x) (hb:¬fF x):∀ x∈es.take (q+1),¬fF x:=by
  rw [rD hx]
  intro y hy
  rcases List.mem_append.1 hy with hy|hy
  ·exact h y hy
  ·rw [List.mem_singleton.1 hy];exact hb
theorem sM {es:List Entry} {q:Nat} (hq:es.length<=q):gj (es.take q)=gj es:=by rw [List.take_of_length_le hq]
theorem AU {l m es:List Entry} {q:Nat} (h:kh l es=kh m (es.drop q)) (hq:es.length<=q):kh l es=some m:=by
  rw [h,List.drop_of_length_le hq];rfl
theorem GN {l:List Int} {k:Nat} {y z:Int} (h:(l.set k y)[k]?=some z):z=y:=by
  have hlt:=(List.getElem?_eq_some_iff.1 h).1
  rw [List.length_set] at hlt
  rw [List.getElem?_set_self hlt] at h
  exact (Option.some.inj h).symm
theorem iN (f:Int->Int) (k:Nat):fi f (k+1)=fi f k++if f k=0 then [] else [⟨k,f k⟩]:=rfl
theorem vA (f:Int->Int):∀ k,(fi f k).length<=k
  |0=>Nat.le_refl _
  |k+1=>by
    rw [iN,List.length_append]
    have:=vA f k
    split<;>simp<;>omega

theorem At (l es:List Entry) (r:List Entry) (e:Int) (hr:fZ l es=(r,e)):Fn Tryz.prog 109 [(.c (cE l)),(.c (cE es))] (.t [(.c (.s 0 0 2 r.length)),(.c (cI e))]) [(0,(mZ r))]:=by
 refine Fn.mk' 75 [(0,(aC (cE l))),(1,(aC (cE es)))] Tryz.func109 rfl rfl rfl rfl ?_
 intro W0 T0
 refine dE 0 rfl (fun hlen0=>?_)
 refine dE 1 rfl (fun hlen1=>?_)
 refine ag 2 rfl (af (aw 1 rfl ?_))
 obtain ⟨f0,hr0⟩:∃ (f0:cM),eU l=f0:=⟨_,rfl⟩
 refine ay 0 [] (cA 0 (zD l f0 hr0) Kb rfl) rfl (ad 2 rfl (ae (ag 3 rfl (aO rfl (fun hc1'=>?_) (fun hc1'=>?_)))))
 ·
  refine af (bg [0,1,6] [0] rfl (aF 4 rfl (bf [0] rfl (ae (al (aj (cW (aq.nil 4 105 2 cm rfl) ?_)))))))
  have hX:fZ l es=(([]:List Entry),f0.err):=by
    unfold fZ;rw [if_pos (by rw [hr0];omega),hr0]
  cases hX.symm.trans hr;clear hX
  exact aS [1] 1 rfl
 refine aD (af (aw 1 rfl (az (cD rfl rfl ep) rfl (ad 1 rfl (ae (aO rfl (fun hc2'=>?_) (fun hc2'=>?_)))))))
 ·
  refine ag 2 rfl (al (aj (cW (aq.nil 4 105 2 cm rfl) ?_)))
  have hX:fZ l es=(([]:List Entry),5):=by
    unfold fZ;rw [if_neg (by rw [hr0];omega),if_pos aa]
  cases hX.symm.trans hr;clear hX
  exact aS [1] 1 rfl
 refine aD (ag 1 rfl (af (aw 1 rfl (az (cD rfl rfl ep) rfl (ad 1 rfl (ae (aL (cb (β:=Nat) (fun (q:Nat)=>⟨[(0,(aC (cE l))),(1,(aC (cE es))),(7,(aI (gj (es.take q)))),(25,(aC (cE es))),(26,(aI (↑es.length:Int))),(27,(aI (↑q:Int)))],[],0⟩) (fun (q:Nat)=>q<=es.length/\(∀ x∈es.take q,¬fF x)/\-1000000000000 * (q:Int)<=gj (es.take q)/\gj (es.take q)<=1000000000000 * (q:Int)) (fun (q:Nat)=>es.length - q) 0 ?_ ?_ ?_))))))))
 ·(have h2:gj (es.take 0)=0:=rfl);exact ⟨aa,by intro x hx;simp at hx,aa⟩
 ·exact aq.rz id
 rintro q ⟨hi0_0,hi0_1,hi0_2⟩
 refine ag 1 rfl (af (aO rfl (fun hc3'=>?_) (fun hc3'=>?_)))
 ·
  refine aD (af (aL (dq ?_)))
  obtain ⟨x1,hx1⟩:=bO (xs:=es) (i:=q) aa
  refine az (dO (i:=q) rfl rfl rfl ep eR (aV hx1)) rfl (ad 3 rfl (ae (af (bQ 48 ((((decide (x1.aW < 0))||(decide (x1.aW>=58)))||(decide (x1.sum < (-1000000000000))))||(decide (x1.sum > 1000000000000))) ?_ ?_))))
  ·
   refine ah (ad 4 rfl (bz 34 rfl (fun hb4'=>?_) (fun hb4'=>?_)))
   ·
    exact ad 14 rfl (ae (aq.pz 19 rfl))
   refine ad 5 rfl (bz 39 rfl (fun hb5'=>?_) (fun hb5'=>?_))
   ·
    exact ad 9 rfl (ae (aq.pz 20 rfl))
   refine ad 5 rfl (bz 44 rfl (fun hb6'=>?_) (fun hb6'=>?_))
   ·
    exact ad 4 rfl (ae (aq.pz 21 rfl))
   exact ad 4 rfl (ae (aq.pz 21 rfl))
  refine ax rfl (fun hc7=>?_) (fun hc7=>?_)
  ·
   have hc7':=hc7;try simp only [aT,bx] at hc7'
   refine ag 2 rfl (al (aj (aY (aj (aj (aY (aj (cW (aq.nil 4 105 2 cm rfl) ?_))))))))
   have hX:fZ l es=(([]:List Entry),3):=by
     unfold fZ;rw [if_neg (by rw [hr0];omega),if_neg aa,if_pos ⟨x1,List.mem_of_getElem? hx1,by unfold fF;omega⟩]
   cases hX.symm.trans hr;clear hX
   exact aS [1] 1 rfl
  have hc7':=hc7;try simp only [aT,bx] at hc7'
  refine aD (ah (ad 3 rfl (bl rfl rfl rfl rfl aa (ad 1 rfl (bq (aN (then_ok (ah (bl rfl rfl rfl rfl aa (ad 1 rfl (ae (⟨q+1,⟨aa,uT hi0_1 hx1 (by unfold fF;omega),by rw [ik hx1];omega⟩,bT,aq.rz id (by refine ⟨?_,?_,?_,?_,?_,?_,trivial⟩<;>first|rfl|(simp only [fQ];done)|(congr 3;omega)|(congr 4;omega)|(simp only [fR];rfl)|(rw [ik hx1];rfl))⟩))))))))))))
 refine bR (aE (aE (bw (then_ok (af (ag 2 rfl (aO rfl (fun hc8'=>?_) (fun hc8'=>?_))))))))
 ·
  refine ag 2 rfl (al (aj (cW (aq.nil 4 105 2 cm rfl) ?_)))
  have hX:fZ l es=(([]:List Entry),8):=by
    (have hs:=sM (es:=es) (q:=q) aa);(have hnb:=pD hi0_1 aa);unfold fZ;rw [if_neg (by rw [hr0];omega),if_neg aa,if_neg (fun ⟨x,hx,hb⟩=>hnb x hx hb),if_pos aa]
  cases hX.symm.trans hr;clear hX
  exact aS [0] 1 rfl
 refine aD ?_
 have h0:(eU l).err=0:=by rw [hr0];omega
 have hR:lz l:=(uD.1 h0).1
 have hRl:=rR hR
 have hs:=sM (es:=es) (q:=q) aa
 have hnb:=pD hi0_1 aa
 refine aw 1 rfl (ay 1 [0] (cA 0 (xH l aa) Ka rfl) rfl (ad 1 rfl (ae (af (aw 1 rfl (az (cD rfl rfl ep) rfl (ad 1 rfl (ae (aL (cb (β:=Nat×List Entry) (fun (p:Nat×List Entry)=>match p with|(p,m)=>⟨[(0,(aC (cE l))),(1,(aC (cE es))),(7,(aI (gj (es.take q)))),(25,(aC (cE es))),(26,(aI (↑es.length:Int))),(27,(aI (↑q:Int))),(10,(aC (.s 0 0 2 m.length))),(58,(aC (cE es))),(59,(aI (↑es.length:Int))),(60,(aI (↑p:Int)))],[(0,(mZ m))],1⟩) (fun (p:Nat×List Entry)=>match p with|(p,m)=>p<=es.length/\lz m/\kh l es=kh m (es.drop p)) (fun (p:Nat×List Entry)=>match p with|(p,m)=>es.length - p) (0,l) ?_ ?_ ?_))))))))))
 ·exact ⟨aa,hR,rfl⟩
 ·exact aq.rz id
 rintro ⟨p,m⟩ ⟨hi1_0,hi1_1,hi1_2⟩
 refine ag 1 rfl (af (aO rfl (fun hc9'=>?_) (fun hc9'=>?_)))
 ·
  refine aD (af (aL (dq ?_)))
  obtain ⟨x1,hx1⟩:=bO (xs:=es) (i:=p) aa
  have hx1n:=hnb x1 (List.mem_of_getElem? hx1)
  have hx1b:0<=x1.aW/\x1.aW<=57/\-1000000000000<=x1.sum/\x1.sum<=1000000000000:=by unfold fF at hx1n;omega
  refine az (dO (i:=p) rfl rfl rfl ep eR (aV hx1)) rfl (ad 3 rfl (ae (aw 2 rfl ?_)))
  obtain ⟨r1,g1,hr1⟩:∃ (r1:List Entry) (g1:Bool),mL m x1=(r1,g1):=⟨_,_,rfl⟩
  obtain ⟨hp1,hg1⟩:=Prod.mk.inj hr1
  refine ay 3 [2,1] (fm id (bp [2]) (Kv m x1 (by exact (show lz _ by assumption).up) (by (have:=rR (show lz _ by assumption);omega)) (by (intro y hy;have:=(show lz _ by assumption).ok y hy;omega)) (by (unfold fF at *;omega)) r1 g1 hr1) JZ rfl) rfl (ad 5 rfl (ae (af (ag 2 rfl (ax rfl (fun hc10=>?_) (fun hc10=>?_))))))
  ·
   have hc10':=hc10;try simp only [aT,bx] at hc10'
   refine ag 2 rfl (al (aj (aY (aj (aj (aY (aj (cW (aq.nil 4 105 2 cm rfl) ?_))))))))
   have hX:fZ l es=(([]:List Entry),4):=by
     rw [oX h0 aa hnb aa,hi1_2,lP hx1,if_neg (by simp_all)]
   cases hX.symm.trans hr;clear hX
   exact aS [3] 1 rfl
  have hc10':=hc10;try simp only [aT,bx] at hc10'
  refine aD (ah (ad 2 rfl (bq (aN (then_ok (ah (bl rfl rfl rfl rfl aa (ad 1 rfl (ae (⟨(p+1,r1),⟨aa,by rw [<-hp1];exact uL hi1_1 aa (pF.1 (by rw [hg1];simp_all)),by rw [hi1_2,lP hx1,if_pos (by rw [hg1];simp_all),hp1]⟩,bT,aq.rz (fun k=>if k=0 then 2 else k)⟩))))))))))
 refine bR (aE (aE (bw (then_ok (ag 3 rfl (al ?_))))))
 have hX:fZ l es=(m,0):=by
   rw [oX h0 aa hnb aa,AU hi1_2 aa]
 cases hX.symm.trans hr;clear hX
 exact aS [0] 1 rfl

theorem CC (l es:List Entry) (r:List Entry) (e:Int) (hr:fZ l es=(r,e)):Fn Tryz.prog 76 [(.c (cE l)),(.c (cE es))] (.t [(.c (.s 0 0 2 r.length)),(.c (cI e))]) [(0,(mZ r))]:=by
 refine Fn.mk' 115 [(0,(aC (cE l))),(1,(aC (cE es)))] Tryz.func76 rfl rfl rfl rfl ?_
 intro W0 T0
 refine dE 0 rfl (fun hlen0=>?_)
 refine dE 1 rfl (fun hlen1=>?_)
 refine ag 2 rfl (af (aw 1 rfl ?_))
 obtain ⟨f0,hr0⟩:∃ (f0:cM),eU l=f0:=⟨_,rfl⟩
 refine ay 0 [] (cA 0 (Ak l f0 hr0) Ke rfl) rfl (ad 2 rfl (ae (ag 3 rfl (aO rfl (fun hc1'=>?_) (fun hc1'=>?_)))))
 ·
  refine af (bg [0,1,6] [0] rfl (aF 4 rfl (bf [0] rfl (ae (al (aj (cW (aq.nil 4 105 2 cm rfl) ?_)))))))
  have hX:fZ l es=(([]:List Entry),f0.err):=by
    unfold fZ;rw [if_pos (by rw [hr0];omega),hr0]
  cases hX.symm.trans hr;clear hX
  exact aS [1] 1 rfl
 refine aD (af (aw 1 rfl (az (cD rfl rfl ep) rfl (ad 1 rfl (ae (aO rfl (fun hc2'=>?_) (fun hc2'=>?_)))))))
 ·
  refine ag 2 rfl (al (aj (cW (aq.nil 4 105 2 cm rfl) ?_)))
  have hX:fZ l es=(([]:List Entry),5):=by
    unfold fZ;rw [if_neg (by rw [hr0];omega),if_pos aa]
  cases hX.symm.trans hr;clear hX
  exact aS [1] 1 rfl
 refine aD (ag 1 rfl (af (aw 1 rfl (az (cD rfl rfl ep) rfl (ad 1 rfl (ae (aL (cb (β:=Nat) (fun (q:Nat)=>⟨[(0,(aC (cE l))),(1,(aC (cE es))),(7,(aI (gj (es.take q)))),(28,(aC (cE es))),(29,(aI (↑es.length:Int))),(30,(aI (↑q:Int)))],[],0⟩) (fun (q:Nat)=>q<=es.length/\(∀ x∈es.take q,¬fF x)/\-1000000000000 * (q:Int)<=gj (es.take q)/\gj (es.take q)<=1000000000000 * (q:Int)) (fun (q:Nat)=>es.length - q) 0 ?_ ?_ ?_))))))))
 ·(have h2:gj (es.take 0)=0:=rfl);exact ⟨aa,by intro x hx;simp at hx,aa⟩
 ·exact aq.rz id
 rintro q ⟨hi0_0,hi0_1,hi0_2⟩
 refine ag 1 rfl (af (aO rfl (fun hc3'=>?_) (fun hc3'=>?_)))
 ·
  refine aD (af (aL (dq ?_)))
  obtain ⟨x1,hx1⟩:=bO (xs:=es) (i:=q) (by first|omega|(simp;done)|(simp;omega)|(exact br _)|(rw [br];omega)|(rw [List.length_set,br];omega))
  refine az (mn (i:=q) rfl rfl rfl ep eR (by first|omega|(simp;done)|(simp;omega)|(exact br _)|(rw [br];omega)|(rw [List.length_set,br];omega)) (aV hx1)) rfl (ad 3 rfl (ae (af (bQ 51 ((((decide (x1.aW < 0))||(decide (x1.aW > 57)))||(decide (x1.sum > 1000000000000)))||(decide (x1.sum < (-1000000000000)))) ?_ ?_))))
  ·
   refine ah (ad 4 rfl (bz 37 rfl (fun hb4'=>?_) (fun hb4'=>?_)))
   ·
    exact ad 14 rfl (ae (aq.pz 19 rfl))
   refine ad 5 rfl (bz 42 rfl (fun hb5'=>?_) (fun hb5'=>?_))
   ·
    exact ad 9 rfl (ae (aq.pz 20 rfl))
   refine ad 5 rfl (bz 47 rfl (fun hb6'=>?_) (fun hb6'=>?_))
   ·
    exact ad 4 rfl (ae (aq.pz 21 rfl))
   exact ad 4 rfl (ae (aq.pz 21 rfl))
  refine ax rfl (fun hc7=>?_) (fun hc7=>?_)
  ·
   have hc7':=hc7;try simp only [aT,bx] at hc7'
   refine ag 2 rfl (al (aj (aY (aj (aj (aY (aj (cW (aq.nil 4 105 2 cm rfl) ?_))))))))
   have hX:fZ l es=(([]:List Entry),3):=by
     unfold fZ;rw [if_neg (by rw [hr0];omega),if_neg aa,if_pos ⟨x1,List.mem_of_getElem? hx1,by unfold fF;omega⟩]
   cases hX.symm.trans hr;clear hX
   exact aS [1] 1 rfl
  have hc7':=hc7;try simp only [aT,bx] at hc7'
  refine aD (ah (ad 3 rfl (az (bm rfl rfl rfl (bH (by first|omega|(simp;done)|(simp;omega)|(exact br _)|(rw [br];omega)|(rw [List.length_set,br];omega)))) rfl (ad 1 rfl (bq (aN (then_ok (ah (az (bm rfl rfl rfl (bH (by first|omega|(simp;done)|(simp;omega)|(exact br _)|(rw [br];omega)|(rw [List.length_set,br];omega)))) rfl (ad 1 rfl (ae (⟨q+1,⟨aa,uT hi0_1 hx1 (by unfold fF;omega),by rw [ik hx1];omega⟩,bT,aq.rz id (by refine ⟨?_,?_,?_,?_,?_,?_,trivial⟩<;>first|rfl|(simp only [fQ];done)|(congr 3;omega)|(congr 4;omega)|(simp only [fR];rfl)|(rw [ik hx1];rfl))⟩))))))))))))
 refine bR (aE (aE (bw (then_ok (af (ag 2 rfl (aO rfl (fun hc8'=>?_) (fun hc8'=>?_))))))))
 ·
  refine ag 2 rfl (al (aj (cW (aq.nil 4 105 2 cm rfl) ?_)))
  have hX:fZ l es=(([]:List Entry),8):=by
    (have hs:=sM (es:=es) (q:=q) aa);(have hnb:=pD hi0_1 aa);unfold fZ;rw [if_neg (by rw [hr0];omega),if_neg aa,if_neg (fun ⟨x,hx,hb⟩=>hnb x hx hb),if_pos aa]
  cases hX.symm.trans hr;clear hX
  exact aS [0] 1 rfl
 refine aD ?_
 have h0:(eU l).err=0:=by rw [hr0];omega
 have hR:lz l:=(uD.1 h0).1
 have hRl:=rR hR
 have hs:=sM (es:=es) (q:=q) aa
 have hnb:=pD hi0_1 aa
 refine dq (ay 1 [0] (Fw (n:=58) 0 rfl JA rfl cm) rfl (ae (af (aw 1 rfl (az (cD rfl rfl ep) rfl (ad 1 rfl (ae (aL (cb (β:=Nat) (fun (v:Nat)=>⟨[(0,(aC (cE l))),(1,(aC (cE es))),(7,(aI (gj (es.take q)))),(28,(aC (cE es))),(29,(aI (↑es.length:Int))),(30,(aI (↑q:Int))),(10,(aC (.p 0 0 1 0))),(59,(aC (cE l))),(60,(aI (↑l.length:Int))),(61,(aI (↑v:Int)))],[(0,(.arr 160 1 ((lI (dJ (l.take v))).map wH)))],1⟩) (fun (v:Nat)=>v<=l.length) (fun (v:Nat)=>l.length - v) 0 ?_ ?_ ?_)))))))))
 ·exact aa
 ·exact aq.rx id (⟨by first|rfl|(simp only [fQ];done)|(congr 3;omega)|(congr 4;omega)|(simp only [fR];rfl)|(rfl),trivial⟩)
 rintro v hi1_0
 refine ag 1 rfl (af (aO rfl (fun hc9'=>?_) (fun hc9'=>?_)))
 ·
  refine aD (af (aL (dq ?_)))
  obtain ⟨x1,hx1⟩:=bO (xs:=l) (i:=v) (by first|omega|(simp;done)|(simp;omega)|(exact br _)|(rw [br];omega)|(rw [List.length_set,br];omega))
  have hx1b:=hR.ok x1 (List.mem_of_getElem? hx1)
  refine az (mn (i:=v) rfl rfl rfl ep eR (by first|omega|(simp;done)|(simp;omega)|(exact br _)|(rw [br];omega)|(rw [List.length_set,br];omega)) (aV hx1)) rfl (ad 3 rfl (ae (ah (ad 4 rfl (az (pa (i:=Int.toNat (x1.aW)) rfl rfl rfl qz eu (by first|omega|(simp;done)|(simp;omega)|(exact br _)|(rw [br];omega)|(rw [List.length_set,br];omega)) (by first|omega|(simp;done)|(simp;omega)|(exact br _)|(rw [br];omega)|(rw [List.length_set,br];omega))) rfl ?_)))))
  obtain ⟨x2,hx2⟩:=bO (xs:=(lI (dJ (l.take v)))) (i:=Int.toNat (x1.aW)) (by first|omega|(simp;done)|(simp;omega)|(exact br _)|(rw [br];omega)|(rw [List.length_set,br];omega))
  refine eP [1,0] (dK (ds:=[(dI x1.sum)]) rfl rfl rfl rfl rfl eu rfl (Nat.le_of_ble_eq_true rfl) (aV hx2) rfl (eE (x':=x1.sum) rfl)) rfl (bq (aN (then_ok (ah (az (bm rfl rfl rfl (bH (by first|omega|(simp;done)|(simp;omega)|(exact br _)|(rw [br];omega)|(rw [List.length_set,br];omega)))) rfl (ad 1 rfl (ae (⟨v+1,by first|omega|trivial,bT,aq.rx id (⟨by first|rfl|(simp only [fQ];done)|(congr 3;omega)|(congr 4;omega)|(simp only [fR];rfl)|(rw [zM (g:=dJ (l.take (v+1))) (fun b=>by rw [DS hR.up hx1 b,Int.toNat_of_nonneg aa])];rfl),trivial⟩)⟩))))))))
 refine bR (aE (aE (bw (then_ok (af (aw 1 rfl (az (cD rfl rfl ep) rfl (ad 1 rfl (ae (aL (cb (β:=Nat×List Entry) (fun (p:Nat×List Entry)=>match p with|(u,m)=>⟨[(0,(aC (cE l))),(1,(aC (cE es))),(7,(aI (gj (es.take q)))),(28,(aC (cE es))),(29,(aI (↑es.length:Int))),(30,(aI (↑q:Int))),(10,(aC (.p 0 0 1 0))),(59,(aC (cE l))),(60,(aI (↑l.length:Int))),(61,(aI (↑v:Int))),(71,(aC (cE es))),(72,(aI (↑es.length:Int))),(73,(aI (↑u:Int)))],[(0,(.arr 160 1 ((lI (dJ m)).map wH)))],1⟩) (fun (p:Nat×List Entry)=>match p with|(u,m)=>u<=es.length/\lz m/\kh l es=kh m (es.drop u)) (fun (p:Nat×List Entry)=>match p with|(u,m)=>es.length - u) (0,l) ?_ ?_ ?_)))))))))))
 ·exact ⟨aa,hR,rfl⟩
 ·exact aq.rx id (⟨by first|rfl|(simp only [fQ];done)|(congr 3;omega)|(congr 4;omega)|(simp only [fR];rfl)|(rw [List.take_of_length_le (l:=l) aa];rfl),trivial⟩)
 rintro ⟨u,m⟩ ⟨hi2_0,hi2_1,hi2_2⟩
 refine ag 1 rfl (af (aO rfl (fun hc10'=>?_) (fun hc10'=>?_)))
 ·
  refine aD (af (aL (dq ?_)))
  obtain ⟨x1,hx1⟩:=bO (xs:=es) (i:=u) (by first|omega|(simp;done)|(simp;omega)|(exact br _)|(rw [br];omega)|(rw [List.length_set,br];omega))
  have hx1n:=hnb x1 (List.mem_of_getElem? hx1)
  have hx1b:0<=x1.aW/\x1.aW<=57/\-1000000000000<=x1.sum/\x1.sum<=1000000000000:=by unfold fF at hx1n;omega
  refine az (mn (i:=u) rfl rfl rfl ep eR (by first|omega|(simp;done)|(simp;omega)|(exact br _)|(rw [br];omega)|(rw [List.length_set,br];omega)) (aV hx1)) rfl (ad 3 rfl (ae (af ?_)))
  obtain ⟨x2,hx2⟩:=bO (xs:=(lI (dJ m))) (i:=Int.toNat (x1.aW)) (by first|omega|(simp;done)|(simp;omega)|(exact br _)|(rw [br];omega)|(rw [List.length_set,br];omega))
  have hx2w:x2=dJ m x1.aW:=by rw [(zN hx2).1,Int.toNat_of_nonneg aa]
  have hx2g:=vh (a:=x1.aW) (fun y hy=>by have:=hi2_1.ok y hy;omega:∀ x∈m,-1000000000000<=x.sum/\x.sum<=1000000000000)
  refine bg [0,1,7,28,29,30,10,59,60,61,71,72,73,14] [1,0] rfl (aF 4 rfl (bh 2 [10,80] [0] rfl (pa (i:=Int.toNat (x1.aW)) rfl rfl rfl qz eu (by first|omega|(simp;done)|(simp;omega)|(exact br _)|(rw [br];omega)|(rw [List.length_set,br];omega)) (by first|omega|(simp;done)|(simp;omega)|(exact br _)|(rw [br];omega)|(rw [List.length_set,br];omega))) (bM 2 [81] [0] rfl (dY rfl rfl rfl eA rfl (aV hx2) rfl) rfl (aF 2 rfl (bh 2 [82,84] [] rfl (bm rfl rfl rfl (bH (by first|omega|(simp;done)|(simp;omega)|(exact br _)|(rw [br];omega)|(rw [List.length_set,br];omega)))) (bh 2 [10,78] [0] rfl (pa (i:=Int.toNat (x1.aW)) rfl rfl rfl qz eu (by first|omega|(simp;done)|(simp;omega)|(exact br _)|(rw [br];omega)|(rw [List.length_set,br];omega)) (by first|omega|(simp;done)|(simp;omega)|(exact br _)|(rw [br];omega)|(rw [List.length_set,br];omega))) (bf [1,0] rfl (eP [1,0] (dK (ds:=[(dI (x2+x1.sum))]) rfl rfl rfl rfl rfl eu rfl (Nat.le_of_ble_eq_true rfl) (aV hx2) rfl (eE (x':=x2+x1.sum) rfl)) rfl (ae (aw 2 rfl (az (pa (i:=Int.toNat (x1.aW)) rfl rfl rfl qz eu (by first|omega|(simp;done)|(simp;omega)|(exact br _)|(rw [br];omega)|(rw [List.length_set,br];omega)) (by first|omega|(simp;done)|(simp;omega)|(exact br _)|(rw [br];omega)|(rw [List.length_set,br];omega))) rfl ?_)))))))))))
  obtain ⟨x3,hx3⟩:=bO (xs:=((lI (dJ m)).set (Int.toNat (x1.aW)) (x2+x1.sum))) (i:=Int.toNat (x1.aW)) (by first|omega|(simp;done)|(simp;omega)|(exact br _)|(rw [br];omega)|(rw [List.length_set,br];omega))
  have hx3e:=GN hx3
  refine az (dY rfl rfl rfl eA rfl (aV hx3) rfl) rfl (ad 2 rfl (bz 92 rfl (fun hb11'=>?_) (fun hb11'=>?_)))
  ·
   refine ad 6 rfl (ae (ax rfl (fun _=>?_) (fun hno=>by cases hno)))
   refine ag 2 rfl (al (aY (aj (aj (aY (aj (cW (aq.nil 4 105 2 cm rfl) ?_)))))))
   have hX:fZ l es=(([]:List Entry),4):=by
     rw [oX h0 aa hnb aa,hi2_2,lP hx1,if_neg (by rw [pF];omega)]
   cases hX.symm.trans hr;clear hX
   exact aS [2] 1 rfl
  refine ad 2 rfl (dg (aR.yes rfl rfl rfl) (pa (i:=Int.toNat (x1.aW)) rfl rfl rfl qz eu (by first|omega|(simp;done)|(simp;omega)|(exact br _)|(rw [br];omega)|(rw [List.length_set,br];omega)) (by first|omega|(simp;done)|(simp;omega)|(exact br _)|(rw [br];omega)|(rw [List.length_set,br];omega))) rfl rfl (dg (aR.yes rfl rfl rfl) (dY rfl rfl rfl eA rfl (aV hx3) rfl) rfl rfl (ad 2 rfl (ae (aO rfl (fun hc13'=>?_) (fun hc13'=>?_))))))
  ·
   refine ag 2 rfl (al (aY (aj (aj (aY (aj (cW (aq.nil 4 105 2 cm rfl) ?_)))))))
   have hX:fZ l es=(([]:List Entry),4):=by
     rw [oX h0 aa hnb aa,hi2_2,lP hx1,if_neg (by rw [pF];omega)]
   cases hX.symm.trans hr;clear hX
   exact aS [2] 1 rfl
  refine cv (aN (then_ok (ah (az (bm rfl rfl rfl (bH (by first|omega|(simp;done)|(simp;omega)|(exact br _)|(rw [br];omega)|(rw [List.length_set,br];omega)))) rfl (ad 1 rfl (ae (⟨(u+1,kg m x1.aW (dJ m x1.aW+x1.sum)),⟨aa,uL hi2_1 aa aa,by rw [hi2_2,lP hx1,if_pos (by rw [pF];omega)]⟩,bT,aq.rx id (⟨by first|rfl|(simp only [fQ];done)|(congr 3;omega)|(congr 4;omega)|(simp only [fR];rfl)|(rw [hx2w,zM (g:=dJ (kg m x1.aW (dJ m x1.aW+x1.sum))) (fun b=>by rw [yQ hi2_1.up,Int.toNat_of_nonneg aa])];rfl),trivial⟩)⟩)))))))
 refine bR (aE (aE (bw (then_ok (ag 1 rfl (af (dq (az (Fk (l:=lI (dJ m)) rfl rfl rfl qz JE (by first|omega|(simp;done)|(simp;omega)|(exact br _)|(rw [br];omega)|(rw [List.length_set,br];omega))) rfl (ad 1 rfl (ae (aL (ie (aq.nil 15 105 2 cm rfl) (cb (β:=Nat) (fun (k:Nat)=>⟨[(0,(aC (cE l))),(1,(aC (cE es))),(7,(aI (gj (es.take q)))),(28,(aC (cE es))),(29,(aI (↑es.length:Int))),(30,(aI (↑q:Int))),(10,(aC (.p 0 0 1 0))),(59,(aC (cE l))),(60,(aI (↑l.length:Int))),(61,(aI (↑v:Int))),(71,(aC (cE es))),(72,(aI (↑es.length:Int))),(73,(aI (↑u:Int))),(15,(aC (.s 1 0 2 ((fi (dJ m) k).length)))),(100,(.v (.g ((lI (dJ m)).map cI)))),(101,(aI (↑k:Int)))],[(1,(mZ (fi (dJ m) k))),(0,(.arr 160 1 ((lI (dJ m)).map wH)))],2⟩) (fun (k:Nat)=>k<=58) (fun (k:Nat)=>58 - k) 0 ?_ ?_ ?_)))))))))))))
 ·exact aa
 ·exact aq.rz id
 rintro k hi3_0
 have hbl:=vA (dJ m) k
 refine ag 1 rfl (af (aO rfl (fun hc14'=>?_) (fun hc14'=>?_)))
 ·
  refine aD (af (aL (aw 1 rfl ?_)))
  obtain ⟨x1,hx1⟩:=bO (xs:=(lI (dJ m))) (i:=k) (by first|omega|(simp;done)|(simp;omega)|(exact br _)|(rw [br];omega)|(rw [List.length_set,br];omega))
  have hx1w:=(zN hx1).1
  have hx1g:=vh (a:=(k:Int)) (fun y hy=>by have:=hi2_1.ok y hy;omega:∀ x∈m,-1000000000000<=x.sum/\x.sum<=1000000000000)
  refine az (Fm (i:=k) rfl rfl rfl qz eA rfl eu (by first|omega|(simp;done)|(simp;omega)|(exact br _)|(rw [br];omega)|(rw [List.length_set,br];omega)) (by first|omega|(simp;done)|(simp;omega)|(exact br _)|(rw [br];omega)|(rw [List.length_set,br];omega)) hx1) rfl (ad 2 rfl (ae (ag 2 rfl (aO rfl (fun hc15'=>?_) (fun hc15'=>?_)))))
  ·
   refine ah (ad 4 rfl (ay 3 [2,1,0] (dM (ys:=[(0,(.g [(cI (↑k:Int)),(cI x1)]))]) (rows:=([(⟨(↑k:Int),x1⟩:Entry)]).map fy) 2 lE rfl) rfl (ay 4 [3,2,0] (jD (m:=1) (N:=((fi (dJ m) k).length)+1) (k2:=3) (ys:=([(⟨(↑k:Int),x1⟩:Entry)]).map fy) lE rfl rfl rfl rfl rfl rfl (by first|omega|(simp;done)|(simp;omega)|(exact br _)|(rw [br];omega)|(rw [List.length_set,br];omega)) rfl (.s rfl (by first|omega|(simp;done)|(simp;omega)|(exact br _)|(rw [br];omega)|(rw [List.length_set,br];omega))) (by first|omega|(simp;done)|(simp;omega)|(exact br _)|(rw [br];omega)|(rw [List.length_set,br];omega)) (by first|omega|(simp;done)|(simp;omega)|(exact br _)|(rw [br];omega)|(rw [List.length_set,br];omega)) dv cm (by first|omega|(simp;done)|(simp;omega)|(exact br _)|(rw [br];omega)|(rw [List.length_set,br];omega)) (by first|omega|(simp;done)|(simp;omega)|(exact br _)|(rw [br];omega)|(rw [List.length_set,br];omega))) rfl (ad 1 rfl (bq (aN (then_ok (ah (az (bm rfl rfl rfl (bH (by first|omega|(simp;done)|(simp;omega)|(exact br _)|(rw [br];omega)|(rw [List.length_set,br];omega)))) rfl (ad 1 rfl (ae (⟨k+1,by first|omega|trivial,bT,aq.jH (fun k=>if k=1 then 3 else k) (by refine ⟨?_,?_,?_,?_,?_,?_,?_,?_,?_,?_,?_,?_,?_,?_,?_,?_,trivial⟩<;>first|rfl|(simp only [fQ];done)|(congr 3;omega)|(congr 4;omega)|(simp only [fR];rfl)|(first|(rw [show fi (dJ m) (k+1)=fi (dJ m) k from by (rw [iN,if_pos aa,List.append_nil])];rfl)|(rw [show fi (dJ m) (k+1)=fi (dJ m) k++[⟨↑k,x1⟩] from by (rw [iN,if_neg aa,hx1w]),List.length_append];rfl))) (by refine ⟨?_,?_,trivial⟩<;>first|rfl|(simp only [fQ];done)|(congr 3;omega)|(congr 4;omega)|(simp only [fR];rfl)|(first|(rw [show fi (dJ m) (k+1)=fi (dJ m) k from by (rw [iN,if_pos aa,List.append_nil])];rfl)|(rw [show fi (dJ m) (k+1)=fi (dJ m) k++[⟨↑k,x1⟩] from by (rw [iN,if_neg aa,hx1w])];rfl))) rfl⟩))))))))))))
  refine cv (aN (then_ok (ah (az (bm rfl rfl rfl (bH (by first|omega|(simp;done)|(simp;omega)|(exact br _)|(rw [br];omega)|(rw [List.length_set,br];omega)))) rfl (ad 1 rfl (ae (⟨k+1,by first|omega|trivial,bT,aq.jH id (by refine ⟨?_,?_,?_,?_,?_,?_,?_,?_,?_,?_,?_,?_,?_,?_,?_,?_,trivial⟩<;>first|rfl|(simp only [fQ];done)|(congr 3;omega)|(congr 4;omega)|(simp only [fR];rfl)|(first|(rw [show fi (dJ m) (k+1)=fi (dJ m) k from by (rw [iN,if_pos aa,List.append_nil])];rfl)|(rw [show fi (dJ m) (k+1)=fi (dJ m) k++[⟨↑k,x1⟩] from by (rw [iN,if_neg aa,hx1w]),List.length_append];rfl))) (by refine ⟨?_,?_,trivial⟩<;>first|rfl|(simp only [fQ];done)|(congr 3;omega)|(congr 4;omega)|(simp only [fR];rfl)|(first|(rw [show fi (dJ m) (k+1)=fi (dJ m) k from by (rw [iN,if_pos aa,List.append_nil])];rfl)|(rw [show fi (dJ m) (k+1)=fi (dJ m) k++[⟨↑k,x1⟩] from by (rw [iN,if_neg aa,hx1w])];rfl))) rfl⟩)))))))
 refine bR (aE (aE (bw (then_ok (ag 3 rfl (al ?_))))))
 have hX:fZ l es=(fi (dJ m) k,0):=by
   (obtain rfl:k=58:=by omega);rw [oX h0 aa hnb aa,AU hi2_2 aa,BS hi2_1]
 cases hX.symm.trans hr;clear hX
 exact aS [1] 1 rfl
end Go.Proofs.YtnfopdlnboeheaaGreat.Dev
