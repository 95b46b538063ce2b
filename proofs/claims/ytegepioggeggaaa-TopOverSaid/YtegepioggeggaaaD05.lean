/- A part of the proof: Book3, Book4, PlBook, Sh20, Com, Book5, Book6, Book7, Book8, Book9. No condition. -/
import Derived.Test.YtegepioggeggaaaD04
import Derived.Test.YtegepioggeggaaaD03
import Derived.Test.YtegepioggeggaaaD02
set_option linter.unusedVariables false
set_option linter.unusedSimpArgs false
namespace Go.Proofs.Ytegepioggeggaaa.Dev
open Go.RowKit


def cmpI (a b:Int):Int:=if a < b then -1 else if a > b then 1 else 0
def Up (l:List Entry):Prop:=l.Pairwise fun x y=>x.account < y.account
def posE:List Entry->Int->Nat
  |[],_=>0
  |x::l,t=>if x.account < t then posE l t+1 else 0
def hasE (l:List Entry) (t:Int):Bool:=match l[posE l t]? with
  |some x=>decide (x.account=t)
  |none=>false
def bsE (l:List Entry) (t:Int):Int×Bool:=(posE l t,hasE l t)
theorem posE_le (t:Int):∀ l:List Entry,posE l t<=l.length
  |[]=>Nat.le_refl _
  |x::l=>by
    have:=posE_le t l
    unfold posE
    split
    ·rw [List.length_cons];omega
    ·exact Nat.zero_le _
theorem posE_lt {t:Int}:∀ {l:List Entry} {q:Nat} {x:Entry},l[q]?=some x->q < posE l t->x.account < t
  |[],q,x,h,_=>by simp at h
  |y::l,q,x,h,hq=>by
    unfold posE at hq
    split at hq
    ·cases q with
      |zero=>simp at h;subst h;assumption
      |succ q=>exact posE_lt (l:=l) (by simpa using h) (by omega)
    ·omega
theorem posE_ge {t : Int} : ∀ {l : List Entry} {q : Nat} {x : Entry}, Up l → l[q]? = some x → posE l t ≤ q → t ≤ x.account
  | [], q, x, _, h, _ => by simp at h
  | y :: l, q, x, hu, h, hq => by
    obtain ⟨h1, h2⟩ := List.pairwise_cons.1 hu
    unfold posE at hq
    split at hq
    · cases q with
      | zero => omega
      | succ q => exact posE_ge (l := l) h2 (by simpa using h) (by omega)
    · rename_i hy
      cases q with
      | zero => simp at h; subst h; omega
      | succ q =>
        have : x ∈ l := List.mem_of_getElem? (by simpa using h)
        have := h1 x this
        omega
theorem cmpI_neg {a b:Int}:cmpI a b < 0↔a < b:=by unfold cmpI;split;simp_all;split<;>simp_all<;>omega
theorem cmpI_zero {a b:Int}:cmpI a b=0↔a=b:=by unfold cmpI;split;(constructor<;>intro h<;>omega);split;(constructor<;>intro h<;>omega);(constructor<;>intro h<;>omega)
theorem bs_step {l:List Entry} {t:Int} {q:Nat} {x:Entry} (hu:Up l) (hx:l[q]?=some x):(cmpI x.account t < 0/\q < posE l t)\/(¬cmpI x.account t < 0/\posE l t<=q):=by
  rw [cmpI_neg]
  by_cases h:q < posE l t
  ·exact .inl ⟨posE_lt hx h,h⟩
  ·exact .inr ⟨by have:=posE_ge hu hx (by omega:posE l t<=q);omega,by omega⟩
theorem bsE_at {l:List Entry} {t:Int} {q:Nat} {x:Entry} (hq:q=posE l t) (hx:l[q]?=some x):bsE l t=((q:Int),decide (cmpI x.account t=0)):=by
  subst hq
  unfold bsE hasE
  rw [hx]
  simp only [cmpI_zero]
theorem bsE_end {l:List Entry} {t:Int} {q:Nat} (hq:q=posE l t) (hl:l.length<=q):bsE l t=((q:Int),false):=by
  subst hq
  unfold bsE hasE
  rw [List.getElem?_eq_none hl]

set_option maxRecDepth 100000 in
set_option maxHeartbeats 1000000 in
theorem c_isNaN (n:Int):Fn Try.prog 71 [(.c (cI n))] (aB false) []:=by
 refine Fn.mk' 6 [(0,(aI n))] Try.func71 rfl rfl rfl rfl ?_
 intro W0 T0
 refine AC.goes ttk 1 rfl ?_
 refine AC.go ttk 2 rfl ?_
 refine AL.vl (g_binI rfl rfl rfl (congrArg (fun b=>some (Value.bool b)) (decide_eq_false (fun h=>h rfl)))) rfl ?_
 refine AL.runs ttk 1 rfl ?_
 refine AL.nx ?_
 refine AC.ret ?_
 refine retQ_go ttk [] 0 rfl rfl rfl rfl rfl rfl ?_ ?_
 all_goals first|rfl|(simp [ufs];done)|(simp [ufs];omega)
set_option maxRecDepth 100000 in
set_option maxHeartbeats 1000000 in
theorem c_Compare (a b:Int) (r:Int) (hr:cmpI a b=r):Fn Try.prog 60 [(.c (cI a)),(.c (cI b))] (.v (.c (cI r))) []:=by
 refine Fn.mk' 20 [(0,(aI a)),(1,(aI b))] Try.func60 rfl rfl rfl rfl ?_
 intro W0 T0
 refine AC.goes ttk 1 rfl ?_
 refine AC.go ttk 1 rfl ?_
 refine AL.cn 0 [] (g_call 0 (c_isNaN a) en71 rfl rfl ⟨⟨_,rfl,.c (.d _)⟩,trivial⟩ trivial trivial rfl rfl rfl rfl) rfl ?_
 refine AL.runs ttk 1 rfl ?_
 refine AL.nx ?_
 refine AC.go ttk 1 rfl ?_
 refine AL.cn 0 [] (g_call 0 (c_isNaN b) en71 rfl rfl ⟨⟨_,rfl,.c (.d _)⟩,trivial⟩ trivial trivial rfl rfl rfl rfl) rfl ?_
 refine AL.runs ttk 1 rfl ?_
 refine AL.nx ?_
 refine AC.seq ?_
 refine AC.goes ttk 1 rfl ?_
 refine AC.cond rfl (fun hno=>by cases hno) (fun _=>?_)
 refine AC.sk ?_
 refine AC.seq ?_
 refine AC.goes ttk 1 rfl ?_
 refine AC.cond rfl (fun hno=>by cases hno) (fun _=>?_)
 refine AC.sk ?_
 refine AC.seq ?_
 refine AC.goes ttk 3 rfl ?_
 refine AC.cond rfl (fun hc3=>?_) (fun hc3=>?_)
 ·
  have hc3':=of_decide_eq_true hc3
  refine AC.goes ttk 1 rfl ?_
  refine AC.ret ?_
  refine then_ret ?_
  have hX:cmpI a b=(-1):=by
    (unfold cmpI;try dsimp only);(repeat' split)<;>first|rfl|omega|(exfalso;omega)|(subst_vars;rfl)|(simp_all;done)|(simp_all;omega)
  rw [hX] at hr;clear hX
  subst hr
  refine retQ_go ttk [] 0 rfl rfl rfl rfl rfl rfl ?_ ?_
  all_goals first|rfl|(simp [ufs];done)|(simp [ufs];omega)
 have hc3':=of_decide_eq_false hc3
 refine AC.sk ?_
 refine AC.seq ?_
 refine AC.goes ttk 3 rfl ?_
 refine AC.cond rfl (fun hc4=>?_) (fun hc4=>?_)
 ·
  have hc4':=of_decide_eq_true hc4
  refine AC.goes ttk 1 rfl ?_
  refine AC.ret ?_
  refine then_ret ?_
  have hX:cmpI a b=1:=by
    (unfold cmpI;try dsimp only);(repeat' split)<;>first|rfl|omega|(exfalso;omega)|(subst_vars;rfl)|(simp_all;done)|(simp_all;omega)
  rw [hX] at hr;clear hX
  subst hr
  refine retQ_go ttk [] 0 rfl rfl rfl rfl rfl rfl ?_ ?_
  all_goals first|rfl|(simp [ufs];done)|(simp [ufs];omega)
 have hc4':=of_decide_eq_false hc4
 refine AC.sk ?_
 refine AC.goes ttk 1 rfl ?_
 refine AC.ret ?_
 have hX:cmpI a b=0:=by
   (unfold cmpI;try dsimp only);(repeat' split)<;>first|rfl|omega|(exfalso;omega)|(subst_vars;rfl)|(simp_all;done)|(simp_all;omega)
 rw [hX] at hr;clear hX
 subst hr
 refine retQ_go ttk [] 0 rfl rfl rfl rfl rfl rfl ?_ ?_
 all_goals first|rfl|(simp [ufs];done)|(simp [ufs];omega)
set_option maxRecDepth 100000 in
set_option maxHeartbeats 1000000 in
theorem c_put1 (x:Entry) (t:Int):Fn Try.prog 120 [(.g [(cI x.account),(cI x.sum)]),(.c (cI t))] (aI (cmpI x.account t)) []:=by
 refine Fn.mk' 9 [(0,(aG [(cI x.account),(cI x.sum)])),(1,(aI t))] Try.func120 rfl rfl rfl rfl ?_
 intro W0 T0
 refine AC.goes ttk 2 rfl ?_
 refine AC.go ttk 3 rfl ?_
 have hr0:cmpI x.account t=cmpI x.account t:=rfl
 refine AL.cn 1 [0] (g_call 1 (c_Compare x.account t (cmpI x.account t) hr0) en60 rfl rfl ⟨⟨_,rfl,.c (.d _)⟩,⟨_,rfl,.c (.d _)⟩,trivial⟩ trivial trivial rfl rfl rfl rfl) rfl ?_
 refine AL.runs ttk 1 rfl ?_
 refine AL.nx ?_
 refine AC.ret ?_
 refine retQ_go ttk [] 0 rfl rfl rfl rfl rfl rfl ?_ ?_
 all_goals first|rfl|(simp [ufs];done)|(simp [ufs];omega)
set_option maxRecDepth 100000 in
set_option maxHeartbeats 1000000 in
theorem c_Search_Entry (l:List Entry) (t:Int) (fn:FuncId) (caps:List (List D)) (hp:∀ x:Entry,Fn Try.prog fn ([.g [cI x.account,cI x.sum],.c (cI t)]++caps.map fun r=>GV.c (.q r 0)) (aI (cmpI x.account t)) []) (hen:Enters Try.prog fn) (hu:Up l) (hl:l.length * 16<=140737488355328) (i:Int) (f:Bool) (hr:bsE l t=(i,f)):Fn Try.prog 119 [(.c (vlE l)),(.c (cI t)),(.c (.d (.f fn caps)))] (.t [(.c (cI i)),(.c (cB f))]) []:=by
 refine Fn.mk' 49 [(0,(aC (vlE l))),(1,(aI t)),(2,(aC (.d (.f fn caps))))] Try.func119 rfl rfl rfl rfl ?_
 intro W0 T0
 refine AC.len1 0 rfl (fun hlen0=>?_)
 refine AC.goes ttk 2 rfl ?_
 refine AC.go ttk 1 rfl ?_
 refine AL.vl (g_lenM rfl rfl rfl rfl rfl Try.underlying44) rfl ?_
 refine AL.runs ttk 1 rfl ?_
 refine AL.nx ?_
 refine AC.goes ttk 3 rfl ?_
 refine AC.seq ?_
 refine AC.block ?_
 refine AC.loop (β:=Nat×Nat) (fun (p:Nat×Nat)=>match p with|(i,j)=>⟨[(0,(aC (vlE l))),(1,(aI t)),(2,(aC (.d (.f fn caps)))),(6,(aI 0)),(7,(aB false)),(8,(aI (↑l.length:Int))),(9,(aI (↑i:Int))),(10,(aI (↑j:Int)))],[],0⟩) (fun (p:Nat×Nat)=>match p with|(i,j)=>i<=posE l t/\posE l t<=j/\j<=l.length) (fun (p:Nat×Nat)=>match p with|(i,j)=>j - i) (0,l.length) ?_ ?_ ?_
 ·exact ⟨by omega,posE_le t l,by omega⟩
 ·exact Weak.ren id (by refine ⟨?_,?_,?_,?_,?_,?_,?_,?_,trivial⟩<;>first|rfl|(simp only [mps];done)|(congr 3;omega)|(congr 4;omega)|(simp only [lns];rfl)) (trivial) rfl
 rintro ⟨i,j⟩ ⟨hi0_0,hi0_1,hi0_2⟩
 refine AC.seq ?_
 refine AC.goes ttk 3 rfl ?_
 refine AC.cond rfl (fun hc1=>?_) (fun hc1=>?_)
 ·
  have hc1':=of_decide_eq_true hc1
  refine AC.sk ?_
  refine AC.block ?_
  refine AC.go ttk 2 rfl ?_
  refine AL.vl (g_binI rfl rfl rfl (wrap_ok (by first|omega|(simp;done)|(simp;omega)))) rfl ?_
  refine AL.vl (g_convI rfl rfl (by rw [Try.underlying3];rfl) Try.underlying128 (conv_u64 (by first|omega|(simp;done)|(simp;omega)))) rfl ?_
  refine AL.vl (g_shr1 (r:=(↑(((i)+(j)) / 2):Int)) rfl rfl rfl (by omega)) rfl ?_
  refine AL.vl (g_convI rfl rfl (by rw [Try.underlying128];rfl) Try.underlying3 (conv_i64 (by first|omega|(simp;done)|(simp;omega)))) rfl ?_
  refine AL.runs ttk 1 rfl ?_
  refine AL.nx ?_
  refine AC.go ttk 3 rfl ?_
  obtain ⟨x1,hx1⟩:=exget (xs:=l) (i:=((i)+(j)) / 2) (by first|omega|(simp;done)|(simp;omega))
  have hx1b:=bs_step (t:=t) hu hx1
  refine AL.vl (g_indexQ (i:=((i)+(j)) / 2) rfl rfl rfl Try.underlying44 sz115 (by first|omega|(simp;done)|(simp;omega)) (getmap hx1)) rfl ?_
  refine AL.runs ttk 2 rfl ?_
  refine AL.vl (g_callF (ins:=[(.g [(cI x1.account),(cI x1.sum)]),(.c (cI t))]) 0 (hp x1) hen rfl rfl rfl ⟨⟨_,rfl,.g ⟨.d _,.d _,trivial⟩⟩,⟨_,rfl,.c (.d _)⟩,trivial⟩ trivial trivial rfl rfl rfl rfl) rfl ?_
  refine AL.runs ttk 1 rfl ?_
  refine AL.nx ?_
  refine AC.cond rfl (fun hc2=>?_) (fun hc2=>?_)
  ·
   have hc2':=of_decide_eq_true hc2
   refine AC.region ?_
   refine AL.runs ttk 1 rfl ?_
   refine AL.vl (g_binI rfl rfl rfl (wrap_ok (by first|omega|(simp;done)|(simp;omega)))) rfl ?_
   refine AL.runs ttk 1 rfl ?_
   refine AL.nil ?_
   refine block_ok ?_
   refine then_ok ?_
   refine ⟨(Int.toNat ((↑(((i)+(j)) / 2):Int)+1),j),⟨by omega,by omega,by omega⟩,by first|omega|(simp;done)|(simp;omega),Weak.ren id (by refine ⟨?_,?_,?_,?_,?_,?_,?_,?_,trivial⟩<;>first|rfl|(simp only [mps];done)|(congr 3;omega)|(congr 4;omega)|(simp only [lns];rfl)) (trivial) rfl⟩
  have hc2':=of_decide_eq_false hc2
  refine AC.region ?_
  refine AL.runs ttk 2 rfl ?_
  refine AL.nil ?_
  refine block_ok ?_
  refine then_ok ?_
  refine ⟨(i,((i)+(j)) / 2),⟨by omega,by omega,by omega⟩,by first|omega|(simp;done)|(simp;omega),Weak.ren id (by refine ⟨?_,?_,?_,?_,?_,?_,?_,?_,trivial⟩<;>first|rfl|(simp only [mps];done)|(congr 3;omega)|(congr 4;omega)|(simp only [lns];rfl)) (trivial) rfl⟩
 have hc1':=of_decide_eq_false hc1
 refine AC.exit ?_
 refine then_exit ?_
 refine then_exit ?_
 refine block_hit ?_
 refine then_ok ?_
 refine AC.go ttk 5 rfl ?_
 refine AL.dec (t:=39) rfl (fun hb3=>?_) (fun hb3=>?_)
 ·
  have hb3':=of_decide_eq_true hb3
  refine AL.runs ttk 3 rfl ?_
  obtain ⟨x1,hx1⟩:=exget (xs:=l) (i:=i) (by first|omega|(simp;done)|(simp;omega))
  have hx1b:=bs_step (t:=t) hu hx1
  refine AL.val (Wanted.yes rfl rfl rfl) (g_indexQ (i:=i) rfl rfl rfl Try.underlying44 sz115 (by first|omega|(simp;done)|(simp;omega)) (getmap hx1)) rfl rfl ?_
  refine AL.runs ttk 2 rfl ?_
  refine AL.val (Wanted.yes rfl rfl rfl) (g_callF (ins:=[(.g [(cI x1.account),(cI x1.sum)]),(.c (cI t))]) 0 (hp x1) hen rfl rfl rfl ⟨⟨_,rfl,.g ⟨.d _,.d _,trivial⟩⟩,⟨_,rfl,.c (.d _)⟩,trivial⟩ trivial trivial rfl rfl rfl rfl) rfl rfl ?_
  refine AL.runs ttk 4 rfl ?_
  refine AL.nx ?_
  refine AC.ret ?_
  have hX:bsE l t=((↑i:Int),decide ((cmpI x1.account t)=0)):=by
    first|exact bsE_at (by omega) hx1|exact bsE_end (by omega) (by omega)|(rw [bsE_at (by omega) hx1];simp_all;done)
  rw [hX] at hr;clear hX
  simp only [Prod.mk.injEq] at hr;obtain ⟨rfl,rfl⟩:=hr
  refine retQ_go ttk [] 0 rfl rfl rfl rfl rfl rfl ?_ ?_
  all_goals first|rfl|(simp [ufs];done)|(simp [ufs];omega)
 have hb3':=of_decide_eq_false hb3
 refine AL.runs ttk 11 rfl ?_
 refine AL.nx ?_
 refine AC.ret ?_
 have hX:bsE l t=((↑i:Int),false):=by
   first|exact bsE_at (by omega) hx1|exact bsE_end (by omega) (by omega)|(rw [bsE_at (by omega) hx1];simp_all;done)
 rw [hX] at hr;clear hX
 simp only [Prod.mk.injEq] at hr;obtain ⟨rfl,rfl⟩:=hr
 refine retQ_go ttk [] 0 rfl rfl rfl rfl rfl rfl ?_ ?_
 all_goals first|rfl|(simp [ufs];done)|(simp [ufs];omega)
end Go.Proofs.Ytegepioggeggaaa.Dev
namespace Go.Proofs.Ytegepioggeggaaa.Dev
open Go.RowKit


theorem c_Search_N (l:List Entry) (t:Int) (fn:FuncId) (caps:List (List D)) (hp:∀ x:Entry,Fn Try.prog fn ([.g [cI x.account,cI x.sum],.c (cI t)]++caps.map fun r=>GV.c (.q r 0)) (aI (cmpI x.account t)) []) (hen:Enters Try.prog fn) (hu:Up l) (hl:l.length * 16<=140737488355328) (k:Nat) (f:Bool) (hr:(posE l t,hasE l t)=(k,f)):Fn Try.prog 119 [.c (cR 2 (l.map rEntry)),.c (cI t),.c (.d (.f fn caps))] (.t [.c (cI (k:Int)),.c (cB f)]) []:=by
  obtain ⟨h1,h2⟩:=Prod.mk.inj hr
  exact c_Search_Entry l t fn caps hp hen hu hl (k:Int) f (by unfold bsE;rw [h1,h2])
def getE:List Entry->Int->Int
  |[],_=>0
  |x::l,a=>if x.account=a then x.sum else getE l a
def setE (l:List Entry) (a s:Int):List Entry:=l.take (posE l a)++(if s=0 then [] else [⟨a,s⟩])++l.drop (if hasE l a=true then posE l a+1 else posE l a)
def goodE (s:Int):Bool:=decide (s>=-1000000000000) && decide (s<=1000000000000)
def putE (l:List Entry) (e:Entry):List Entry×Bool:=(setE l e.account (getE l e.account+e.sum),goodE (getE l e.account+e.sum))
theorem hasE_cons {x:Entry} {l:List Entry} {a:Int} (h:x.account < a):hasE (x::l) a=hasE l a:=by
  have h1:posE (x::l) a=posE l a+1:=by simp [posE,h]
  unfold hasE;rw [h1,List.getElem?_cons_succ]
theorem hasE_head {x:Entry} {l:List Entry} {a:Int} (h:¬x.account < a):hasE (x::l) a=decide (x.account=a):=by
  unfold hasE posE;rw [if_neg h];rfl
theorem getE_absent {a:Int}:∀ {l:List Entry},(∀ x∈l,a < x.account)->getE l a=0
  |[],_=>rfl
  |x::l,h=>by
    unfold getE
    rw [if_neg (by have:=h x List.mem_cons_self;omega)]
    exact getE_absent fun y hy=>h y (List.mem_cons_of_mem _ hy)
theorem getE_has {a : Int} : ∀ {l : List Entry} {x : Entry}, Up l → hasE l a = true → l[posE l a]? = some x → x.account = a ∧ getE l a = x.sum
  | [], x, _, _, h => by simp at h
  | y :: l, x, hu, hh, h => by
    obtain ⟨h1, h2⟩ := List.pairwise_cons.1 hu
    by_cases hy : y.account < a
    · rw [hasE_cons hy] at hh
      unfold posE at h; rw [if_pos hy] at h
      obtain ⟨h3, h4⟩ := getE_has h2 hh (by simpa using h)
      refine ⟨h3, ?_⟩
      unfold getE; rw [if_neg (by omega)]; exact h4
    · rw [hasE_head hy] at hh
      unfold posE at h; rw [if_neg hy] at h
      simp at h hh
      subst h
      exact ⟨hh, by unfold getE; rw [if_pos hh]⟩
theorem getE_not {a : Int} : ∀ {l : List Entry}, Up l → hasE l a = false → getE l a = 0
  | [], _, _ => rfl
  | y :: l, hu, hh => by
    obtain ⟨h1, h2⟩ := List.pairwise_cons.1 hu
    by_cases hy : y.account < a
    · rw [hasE_cons hy] at hh
      unfold getE; rw [if_neg (by omega)]; exact getE_not h2 hh
    · rw [hasE_head hy] at hh
      simp at hh
      unfold getE; rw [if_neg hh]
      exact getE_absent fun x hx => by have := h1 x hx; omega
theorem hasE_lt {a : Int} {l : List Entry} (h : hasE l a = true) : posE l a < l.length := by
  by_cases hl : posE l a < l.length
  · exact hl
  · unfold hasE at h
    rw [List.getElem?_eq_none (by omega)] at h
    cases h
theorem take_pos {a:Int} (l:List Entry):(l.take (posE l a)).length=posE l a:=by rw [List.length_take];have:=posE_le a l;omega
theorem ins_at {l:List Entry} {k:Nat} {x y:Entry} (hk:k<=l.length) (h:(insL l k x)[k]?=some y):y=x:=by
  have h1:(l.take k).length=k:=by rw [List.length_take];omega
  unfold insL at h
  rw [List.append_assoc,List.getElem?_append_right (by omega),h1,Nat.sub_self] at h
  simp at h
  exact h.symm
theorem ins_set {l:List Entry} {k:Nat} {x y:Entry} (hk:k<=l.length):(insL l k x).set k y=l.take k++[y]++l.drop k:=by
  have h1:(l.take k).length=k:=by rw [List.length_take];omega
  unfold insL
  rw [List.append_assoc,List.set_append_right _ _ (by omega),h1,Nat.sub_self]
  simp
theorem has_set {l:List Entry} {k:Nat} {y:Entry} (hk:k < l.length):l.set k y=l.take k++[y]++l.drop (k+1):=by
  rw [List.set_eq_take_append_cons_drop,if_pos hk];simp
theorem del_at {A B:List Entry} {y:Entry} {k:Nat} (h:A.length=k):delL (A++[y]++B) k (k+1)=A++B:=by
  subst h
  unfold delL
  simp
theorem putE_has {l:List Entry} {e x y:Entry} {k:Nat} (hu:Up l) (hk:posE l e.account=k) (hh:hasE l e.account=true) (hx:l[k]?=some x) (hy:y=⟨x.account,x.sum+e.sum⟩):
    putE l e=(if x.sum+e.sum=0 then delL (l.set k y) k (k+1) else l.set k y,goodE (x.sum+e.sum)):=by
  subst hk hy
  obtain ⟨h1,h2⟩:=getE_has hu hh hx
  have hlt:=(List.getElem?_eq_some_iff.1 hx).1
  unfold putE setE
  rw [h2,if_pos hh,has_set hlt,h1]
  split
  ·rw [del_at (take_pos l)];simp
  ·rfl
theorem putE_ins {l:List Entry} {e x y:Entry} {k:Nat} {r:List Entry} (hu:Up l) (hk:posE l e.account=k) (hh:hasE l e.account=false) (hr:insL l k ⟨e.account,0⟩=r) (hx:r[k]?=some x) (hy:y=⟨x.account,x.sum+e.sum⟩):
    putE l e=(if x.sum+e.sum=0 then delL (r.set k y) k (k+1) else r.set k y,goodE (x.sum+e.sum)):=by
  subst hk hr
  have h0:=posE_le e.account l
  have h1:=ins_at h0 hx
  subst h1 hy
  have h2:=getE_not hu hh
  unfold putE setE
  rw [h2,ins_set h0,if_neg (show ¬hasE l e.account=true by rw [hh];exact Bool.false_ne_true)]
  split
  ·rw [del_at (take_pos l)];simp
  ·rfl
theorem set_at {l:List Entry} {k:Nat} {y z:Entry} (h:(l.set k y)[k]?=some z):z=y:=by
  have hlt:=(List.getElem?_eq_some_iff.1 h).1
  rw [List.length_set] at hlt
  rw [List.getElem?_set_self hlt] at h
  exact (Option.some.inj h).symm
theorem getE_bound {l:List Entry} {a:Int} (h:∀ x∈l,-1000000000000<=x.sum/\x.sum<=1000000000000):-1000000000000<=getE l a/\getE l a<=1000000000000:=by
  induction l with
  |nil=>unfold getE;omega
  |cons x l ih=>
    unfold getE
    split
    ·exact h x List.mem_cons_self
    ·exact ih fun y hy=>h y (List.mem_cons_of_mem _ hy)

set_option maxRecDepth 100000 in
set_option maxHeartbeats 1000000 in
theorem c_put (l:List Entry) (e:Entry) (hu:Up l) (hl:(l.length+1) * 16<=140737488355328) (hb:∀ x∈l,-1000000000000<=x.sum/\x.sum<=1000000000000) (he:-1000000000000<=e.sum/\e.sum<=1000000000000) (r:List Entry) (g:Bool) (hr:putE l e=(r,g)):FnE Try.prog 116 [(.c (.s 0 0 2 l.length)),(.g [(cI e.account),(cI e.sum)])] [(0,(alE l))] [] (.t [(.c (.s 0 0 2 r.length)),(.c (cB g))]) [(0,(alE r))]:=by
 refine FnE.mk 62 [(0,(aC (.s 0 0 2 l.length))),(1,(aG [(cI e.account),(cI e.sum)]))] 1 Try.func116 rfl rfl rfl rfl rfl rfl rfl rfl rfl ?_
 intro W0 F0 T0 pg
 refine AC.lenS 0 rfl (fun hlen0=>?_)
 refine AC.goes ttk 3 rfl ?_
 refine AC.go ttk 3 rfl ?_
 obtain ⟨k0,f0,hr0⟩:∃ (k0:Nat) (f0:Bool),(posE l e.account,hasE l e.account)=(k0,f0):=⟨_,_,rfl⟩
 obtain ⟨hk0,hf0⟩:=Prod.mk.inj hr0
 have hkl:=posE_le e.account l
 rw [hk0] at hkl
 refine AL.cn 2 [1,0] (g_callE 2 [0] (c_Search_N l e.account 120 ([]) (fun x=>c_put1 x e.account) en120 (by first|assumption) (by omega) k0 f0 hr0) en119 rfl rfl ⟨⟨_,rfl,.c (.s rfl (by decide) (by first|omega|(simp;done)|(simp;omega)))⟩,⟨_,rfl,.c (.d _)⟩,⟨_,rfl,.c (.fn trivial)⟩,trivial⟩ ⟨rfl,rfl,trivial⟩ trivial rfl rfl rfl rfl) rfl ?_
 refine AL.runs ttk 5 rfl ?_
 refine AL.nx ?_
 refine AC.seq ?_
 refine AC.goes ttk 2 rfl ?_
 refine AC.cond rfl (fun hc1=>?_) (fun hc1=>?_)
 ·
  have hc1':=hc1;try simp only [sumB,dns] at hc1'
  refine AC.region ?_
  refine AL.runs ttk 5 rfl ?_
  refine AL.cn 3 [2,1,0] (g_lit (ys:=[(0,(.g [(cI e.account),(cI 0)]))]) (rows:=([(⟨e.account,0⟩:Entry)]).map rEntry) 2 sl44 rfl (by decide) ⟨⟨rfl,rfl⟩,trivial⟩ rfl rfl rfl rfl) rfl ?_
  obtain ⟨r1,hr1⟩:∃ (r1:List Entry),insL l k0 (⟨e.account,0⟩:Entry)=r1:=⟨_,rfl⟩
  have hl1:r1.length=l.length+1:=by rw [<-hr1];exact insL_len hkl
  refine AL.cn 4 [3,1] (g_callM (rhoOf [0,2]) (rhoOf [3,2]) (c_Insert_Entry l k0 (⟨e.account,0⟩:Entry) (by first|omega|(simp;done)|(simp;omega)) (by first|omega|(simp;done)|(simp;omega)) r1 hr1) en121 rfl rfl ⟨⟨_,rfl,.inl ⟨rfl,rfl⟩⟩,⟨_,rfl,.inr (.c (.d _))⟩,⟨_,rfl,.inl ⟨rfl,rfl⟩⟩,trivial⟩ ⟨rfl,rfl,trivial⟩ rfl rfl rfl rfl rfl rfl trivial ⟨(fun _ _ _ _=>trivial),trivial⟩ rfl rfl rfl rfl) rfl ?_
  refine AL.runs ttk 1 rfl ?_
  refine AL.nx ?_
  refine AC.seq ?_
  obtain ⟨x1,hx1⟩:=exget (xs:=r1) (i:=k0) (by first|omega|(simp;done)|(simp;omega))
  have hx1q:=ins_at hkl (show (insL l k0 ⟨e.account,0⟩)[k0]?=some x1 by rw [hr1];exact hx1)
  have hx1b:x1.sum=0:=by rw [hx1q]
  refine AC.drawP [0,3,6] [3,1] mixed rfl rfl ?_
  refine PD.runs (kn:=[]) ttk 2 rfl trivial ?_
  refine PD.op (n':=4) [25,26] [3] rfl rfl (.inl ⟨(Wanted.plain rfl),GOp.cast (g_indexP0 (i:=k0) rfl rfl rfl Try.underlying44 sz115 (by first|omega|(simp;done)|(simp;omega)) (by first|omega|(simp;done)|(simp;omega))) rfl⟩) rfl ?_
  refine PD.runs (kn:=[]) ttk 1 rfl trivial ?_
  refine PD.op (n':=4) [28] [3] rfl rfl (.inl ⟨(Wanted.plain rfl),GOp.cast (g_loadA rfl rfl rfl Try.underlying3 rfl (getmap hx1) rfl) rfl⟩) rfl ?_
  refine PD.runs (kn:=[]) ttk 2 rfl trivial ?_
  refine PD.op (n':=4) [29,31] [] rfl rfl (.inl ⟨(Wanted.plain rfl),GOp.cast (g_binI rfl rfl rfl (wrap_ok (by first|omega|(simp;done)|(simp;omega)))) rfl⟩) rfl ?_
  refine PD.op (n':=4) [25,26] [3] rfl rfl (.inl ⟨(Wanted.plain rfl),GOp.cast (g_indexP0 (i:=k0) rfl rfl rfl Try.underlying44 sz115 (by first|omega|(simp;done)|(simp;omega)) (by first|omega|(simp;done)|(simp;omega))) rfl⟩) rfl ?_
  refine PD.runs (kn:=[]) ttk 1 rfl trivial ?_
  refine PD.fin [3,1] rfl rfl rfl rfl (by kernel_rfl) ?_
  refine AL.so [3,1] (g_storeA (ds:=[(dI (x1.sum+e.sum))]) rfl rfl rfl rfl rfl sz3 rfl (Nat.le_of_ble_eq_true rfl) (getmap hx1) rfl (setmap (x':=(⟨x1.account,x1.sum+e.sum⟩:Entry)) rfl)) rfl ?_
  refine AL.nx ?_
  refine AC.go ttk 2 rfl ?_
  refine AL.vl (g_indexP0 (i:=k0) rfl rfl rfl Try.underlying44 sz115 (by first|omega|(simp;done)|(simp;omega)) (by first|omega|(simp;done)|(simp;omega))) rfl ?_
  refine AL.runs ttk 1 rfl ?_
  obtain ⟨x2,hx2⟩:=exget (xs:=((r1).set k0 (⟨x1.account,x1.sum+e.sum⟩:Entry))) (i:=k0) (by first|omega|(simp;done)|(simp;omega))
  have hx2e:=set_at hx2
  have hx2s:x2.sum=x1.sum+e.sum:=by rw [hx2e]
  refine AL.vl (g_loadA rfl rfl rfl Try.underlying3 rfl (getmap hx2) rfl) rfl ?_
  refine AL.runs ttk 2 rfl ?_
  refine AL.dec (t:=41) rfl (fun hb2=>?_) (fun hb2=>?_)
  ·
   have hb2':=of_decide_eq_true hb2
   refine AL.runs ttk 2 rfl ?_
   refine AL.val (Wanted.yes rfl rfl rfl) (g_indexP0 (i:=k0) rfl rfl rfl Try.underlying44 sz115 (by first|omega|(simp;done)|(simp;omega)) (by first|omega|(simp;done)|(simp;omega))) rfl rfl ?_
   refine AL.runs ttk 1 rfl ?_
   refine AL.val (Wanted.yes rfl rfl rfl) (g_loadA rfl rfl rfl Try.underlying3 rfl (getmap hx2) rfl) rfl rfl ?_
   refine AL.runs ttk 3 rfl ?_
   refine AL.nx ?_
   refine AC.seq ?_
   refine AC.go ttk 2 rfl ?_
   refine AL.vl (g_indexP0 (i:=k0) rfl rfl rfl Try.underlying44 sz115 (by first|omega|(simp;done)|(simp;omega)) (by first|omega|(simp;done)|(simp;omega))) rfl ?_
   refine AL.runs ttk 1 rfl ?_
   refine AL.vl (g_loadA rfl rfl rfl Try.underlying3 rfl (getmap hx2) rfl) rfl ?_
   refine AL.runs ttk 1 rfl ?_
   refine AL.nx ?_
   refine AC.cond rfl (fun hc3=>?_) (fun hc3=>?_)
   ·
    have hc3':=of_decide_eq_true hc3
    refine AC.weak (st':=⟨[(0,(aC (.s 3 0 2 (((r1).set k0 (⟨x1.account,x1.sum+e.sum⟩:Entry)).length)))),(3,(aC (.p 1 0 0 0))),(6,(aI (↑k0:Int))),(32,(aI (x1.sum+e.sum))),(34,(aC (.p 3 k0 2 1))),(35,(aC (.s 3 0 2 r1.length))),(36,(aI (↑k0:Int))),(37,(aC (.p 3 k0 2 0))),(38,(aC (.p 3 k0 2 1))),(39,(aI x2.sum)),(40,(aB (decide (x2.sum>=(-1000000000000))))),(41,(aB true)),(42,(aC (.s 3 0 2 r1.length))),(43,(aI (↑k0:Int))),(44,(aC (.p 3 k0 2 0))),(45,(aC (.p 3 k0 2 1))),(46,(aI x2.sum)),(47,(aB (decide (x2.sum<=1000000000000)))),(48,(aB (decide (x2.sum<=1000000000000)))),(8,(aB (decide (x2.sum<=1000000000000)))),(49,(aC (.s 3 0 2 r1.length))),(50,(aI (↑k0:Int))),(51,(aC (.p 3 k0 2 0))),(52,(aC (.p 3 k0 2 1))),(53,(aI x2.sum)),(54,(aB (decide (x2.sum=0))))],[(3,(alE ((r1).set k0 (⟨x1.account,x1.sum+e.sum⟩:Entry)))),(1,(.box 115 [(cI e.account),(cI e.sum)]))],4⟩) (Weak.ren id (by refine ⟨?_,?_,?_,?_,?_,?_,?_,?_,?_,?_,?_,?_,?_,?_,?_,?_,?_,?_,?_,?_,?_,?_,?_,?_,?_,?_,trivial⟩<;>first|rfl|(simp only [mps];done)|(congr 3;omega)|(congr 4;omega)|(simp only [lns];rfl)) (by refine ⟨?_,?_,trivial⟩<;>first|rfl|(simp only [mps];done)|(congr 3;omega)|(congr 4;omega)|(simp only [lns];rfl)) rfl) ?_
    refine AC.region ?_
    refine AL.runs ttk 3 rfl ?_
    refine AL.vl (g_binI rfl rfl rfl (wrap_ok (by first|omega|(simp;done)|(simp;omega)))) rfl ?_
    obtain ⟨r2,hr2⟩:∃ (r2:List Entry),delL ((r1).set k0 (⟨x1.account,x1.sum+e.sum⟩:Entry)) k0 ((k0)+1)=r2:=⟨_,rfl⟩
    refine AL.cn 5 [4,1] (g_callM (rhoOf [3]) (rhoOf [4]) (c_Delete_Entry ((r1).set k0 (⟨x1.account,x1.sum+e.sum⟩:Entry)) k0 ((k0)+1) (by first|omega|(simp;done)|(simp;omega)) (by first|omega|(simp;done)|(simp;omega)) r2 hr2) en122 rfl rfl ⟨⟨_,rfl,.inl ⟨rfl,rfl⟩⟩,⟨_,rfl,.inr (.c (.d _))⟩,⟨_,rfl,.inr (.c (.d _))⟩,trivial⟩ ⟨rfl,trivial⟩ rfl rfl rfl rfl rfl rfl trivial ⟨(fun _ _ _ _=>trivial),trivial⟩ rfl rfl rfl rfl) rfl ?_
    refine AL.runs ttk 1 rfl ?_
    refine AL.nx ?_
    refine AC.goes ttk 4 rfl ?_
    refine AC.ret ?_
    have hX:putE l e=(r2,decide (x2.sum<=1000000000000)):=by
      rw [putE_ins hu hk0 (show hasE l e.account=false by simp_all) hr1 hx1 rfl];unfold goodE;rw [if_pos (by omega),hr2];refine Prod.ext rfl ?_;first|(simp;omega)|(simp_all;done)|(simp_all;omega)
    rw [hX] at hr;clear hX
    simp only [Prod.mk.injEq] at hr;obtain ⟨rfl,rfl⟩:=hr
    refine retQ_go ttk [4] 1 rfl rfl rfl rfl rfl rfl ?_ ?_
    all_goals first|rfl|(simp [ufs];done)|(simp [ufs];omega)
   have hc3':=of_decide_eq_false hc3
   refine AC.sk ?_
   refine AC.goes ttk 4 rfl ?_
   refine AC.ret ?_
   have hX:putE l e=((r1).set k0 (⟨x1.account,x1.sum+e.sum⟩:Entry),decide (x2.sum<=1000000000000)):=by
     rw [putE_ins hu hk0 (show hasE l e.account=false by simp_all) hr1 hx1 rfl];unfold goodE;rw [if_neg (by omega)];refine Prod.ext rfl ?_;first|(simp;omega)|(simp_all;done)|(simp_all;omega)
   rw [hX] at hr;clear hX
   simp only [Prod.mk.injEq] at hr;obtain ⟨rfl,rfl⟩:=hr
   refine retQ_go ttk [3] 1 rfl rfl rfl rfl rfl rfl ?_ ?_
   all_goals first|rfl|(simp [ufs];done)|(simp [ufs];omega)
  have hb2':=of_decide_eq_false hb2
  refine AL.runs ttk 8 rfl ?_
  refine AL.nx ?_
  refine AC.seq ?_
  refine AC.go ttk 2 rfl ?_
  refine AL.vl (g_indexP0 (i:=k0) rfl rfl rfl Try.underlying44 sz115 (by first|omega|(simp;done)|(simp;omega)) (by first|omega|(simp;done)|(simp;omega))) rfl ?_
  refine AL.runs ttk 1 rfl ?_
  refine AL.vl (g_loadA rfl rfl rfl Try.underlying3 rfl (getmap hx2) rfl) rfl ?_
  refine AL.runs ttk 1 rfl ?_
  refine AL.nx ?_
  refine AC.cond rfl (fun hc4=>?_) (fun hc4=>?_)
  ·
   have hc4':=of_decide_eq_true hc4
   refine AC.weak (st':=⟨[(0,(aC (.s 3 0 2 (((r1).set k0 (⟨x1.account,x1.sum+e.sum⟩:Entry)).length)))),(3,(aC (.p 1 0 0 0))),(6,(aI (↑k0:Int))),(32,(aI (x1.sum+e.sum))),(34,(aC (.p 3 k0 2 1))),(35,(aC (.s 3 0 2 r1.length))),(36,(aI (↑k0:Int))),(37,(aC (.p 3 k0 2 0))),(38,(aC (.p 3 k0 2 1))),(39,(aI x2.sum)),(40,(aB (decide (x2.sum>=(-1000000000000))))),(41,(aB false)),(48,(aB false)),(8,(aB false)),(49,(aC (.s 3 0 2 r1.length))),(50,(aI (↑k0:Int))),(51,(aC (.p 3 k0 2 0))),(52,(aC (.p 3 k0 2 1))),(53,(aI x2.sum)),(54,(aB (decide (x2.sum=0))))],[(3,(alE ((r1).set k0 (⟨x1.account,x1.sum+e.sum⟩:Entry)))),(1,(.box 115 [(cI e.account),(cI e.sum)]))],4⟩) (Weak.ren id (by refine ⟨?_,?_,?_,?_,?_,?_,?_,?_,?_,?_,?_,?_,?_,?_,?_,?_,?_,?_,?_,?_,trivial⟩<;>first|rfl|(simp only [mps];done)|(congr 3;omega)|(congr 4;omega)|(simp only [lns];rfl)) (by refine ⟨?_,?_,trivial⟩<;>first|rfl|(simp only [mps];done)|(congr 3;omega)|(congr 4;omega)|(simp only [lns];rfl)) rfl) ?_
   refine AC.region ?_
   refine AL.runs ttk 3 rfl ?_
   refine AL.vl (g_binI rfl rfl rfl (wrap_ok (by first|omega|(simp;done)|(simp;omega)))) rfl ?_
   obtain ⟨r3,hr3⟩:∃ (r3:List Entry),delL ((r1).set k0 (⟨x1.account,x1.sum+e.sum⟩:Entry)) k0 ((k0)+1)=r3:=⟨_,rfl⟩
   refine AL.cn 5 [4,1] (g_callM (rhoOf [3]) (rhoOf [4]) (c_Delete_Entry ((r1).set k0 (⟨x1.account,x1.sum+e.sum⟩:Entry)) k0 ((k0)+1) (by first|omega|(simp;done)|(simp;omega)) (by first|omega|(simp;done)|(simp;omega)) r3 hr3) en122 rfl rfl ⟨⟨_,rfl,.inl ⟨rfl,rfl⟩⟩,⟨_,rfl,.inr (.c (.d _))⟩,⟨_,rfl,.inr (.c (.d _))⟩,trivial⟩ ⟨rfl,trivial⟩ rfl rfl rfl rfl rfl rfl trivial ⟨(fun _ _ _ _=>trivial),trivial⟩ rfl rfl rfl rfl) rfl ?_
   refine AL.runs ttk 1 rfl ?_
   refine AL.nx ?_
   refine AC.goes ttk 4 rfl ?_
   refine AC.ret ?_
   have hX:putE l e=(r3,false):=by
     rw [putE_ins hu hk0 (show hasE l e.account=false by simp_all) hr1 hx1 rfl];unfold goodE;rw [if_pos (by omega),hr3];refine Prod.ext rfl ?_;first|(simp;omega)|(simp_all;done)|(simp_all;omega)
   rw [hX] at hr;clear hX
   simp only [Prod.mk.injEq] at hr;obtain ⟨rfl,rfl⟩:=hr
   refine retQ_go ttk [4] 1 rfl rfl rfl rfl rfl rfl ?_ ?_
   all_goals first|rfl|(simp [ufs];done)|(simp [ufs];omega)
  have hc4':=of_decide_eq_false hc4
  refine AC.sk ?_
  refine AC.goes ttk 4 rfl ?_
  refine AC.ret ?_
  have hX:putE l e=((r1).set k0 (⟨x1.account,x1.sum+e.sum⟩:Entry),false):=by
    rw [putE_ins hu hk0 (show hasE l e.account=false by simp_all) hr1 hx1 rfl];unfold goodE;rw [if_neg (by omega)];refine Prod.ext rfl ?_;first|(simp;omega)|(simp_all;done)|(simp_all;omega)
  rw [hX] at hr;clear hX
  simp only [Prod.mk.injEq] at hr;obtain ⟨rfl,rfl⟩:=hr
  refine retQ_go ttk [3] 1 rfl rfl rfl rfl rfl rfl ?_ ?_
  all_goals first|rfl|(simp [ufs];done)|(simp [ufs];omega)
 have hc1':=hc1;try simp only [sumB,dns] at hc1'
 refine AC.sk ?_
 have hk0lt:k0 < l.length:=by have:=hasE_lt (l:=l) (a:=e.account) (by simp_all);omega
 refine AC.seq ?_
 obtain ⟨x1,hx1⟩:=exget (xs:=l) (i:=k0) (by first|omega|(simp;done)|(simp;omega))
 have hx1b:=hb x1 (List.mem_of_getElem? hx1)
 refine AC.drawP [0,3,6] [1,0] mixed rfl rfl ?_
 refine PD.runs (kn:=[]) ttk 2 rfl trivial ?_
 refine PD.op (n':=2) [25,26] [0] rfl rfl (.inl ⟨(Wanted.plain rfl),GOp.cast (g_indexP0 (i:=k0) rfl rfl rfl Try.underlying44 sz115 (by first|omega|(simp;done)|(simp;omega)) (by first|omega|(simp;done)|(simp;omega))) rfl⟩) rfl ?_
 refine PD.runs (kn:=[]) ttk 1 rfl trivial ?_
 refine PD.op (n':=2) [28] [0] rfl rfl (.inl ⟨(Wanted.plain rfl),GOp.cast (g_loadA rfl rfl rfl Try.underlying3 rfl (getmap hx1) rfl) rfl⟩) rfl ?_
 refine PD.runs (kn:=[]) ttk 2 rfl trivial ?_
 refine PD.op (n':=2) [29,31] [] rfl rfl (.inl ⟨(Wanted.plain rfl),GOp.cast (g_binI rfl rfl rfl (wrap_ok (by first|omega|(simp;done)|(simp;omega)))) rfl⟩) rfl ?_
 refine PD.op (n':=2) [25,26] [0] rfl rfl (.inl ⟨(Wanted.plain rfl),GOp.cast (g_indexP0 (i:=k0) rfl rfl rfl Try.underlying44 sz115 (by first|omega|(simp;done)|(simp;omega)) (by first|omega|(simp;done)|(simp;omega))) rfl⟩) rfl ?_
 refine PD.runs (kn:=[]) ttk 1 rfl trivial ?_
 refine PD.fin [1,0] rfl rfl rfl rfl (by kernel_rfl) ?_
 refine AL.so [1,0] (g_storeA (ds:=[(dI (x1.sum+e.sum))]) rfl rfl rfl rfl rfl sz3 rfl (Nat.le_of_ble_eq_true rfl) (getmap hx1) rfl (setmap (x':=(⟨x1.account,x1.sum+e.sum⟩:Entry)) rfl)) rfl ?_
 refine AL.nx ?_
 refine AC.go ttk 2 rfl ?_
 refine AL.vl (g_indexP0 (i:=k0) rfl rfl rfl Try.underlying44 sz115 (by first|omega|(simp;done)|(simp;omega)) (by first|omega|(simp;done)|(simp;omega))) rfl ?_
 refine AL.runs ttk 1 rfl ?_
 obtain ⟨x2,hx2⟩:=exget (xs:=((l).set k0 (⟨x1.account,x1.sum+e.sum⟩:Entry))) (i:=k0) (by first|omega|(simp;done)|(simp;omega))
 have hx2e:=set_at hx2
 have hx2s:x2.sum=x1.sum+e.sum:=by rw [hx2e]
 refine AL.vl (g_loadA rfl rfl rfl Try.underlying3 rfl (getmap hx2) rfl) rfl ?_
 refine AL.runs ttk 2 rfl ?_
 refine AL.dec (t:=41) rfl (fun hb5=>?_) (fun hb5=>?_)
 ·
  have hb5':=of_decide_eq_true hb5
  refine AL.runs ttk 2 rfl ?_
  refine AL.val (Wanted.yes rfl rfl rfl) (g_indexP0 (i:=k0) rfl rfl rfl Try.underlying44 sz115 (by first|omega|(simp;done)|(simp;omega)) (by first|omega|(simp;done)|(simp;omega))) rfl rfl ?_
  refine AL.runs ttk 1 rfl ?_
  refine AL.val (Wanted.yes rfl rfl rfl) (g_loadA rfl rfl rfl Try.underlying3 rfl (getmap hx2) rfl) rfl rfl ?_
  refine AL.runs ttk 3 rfl ?_
  refine AL.nx ?_
  refine AC.seq ?_
  refine AC.go ttk 2 rfl ?_
  refine AL.vl (g_indexP0 (i:=k0) rfl rfl rfl Try.underlying44 sz115 (by first|omega|(simp;done)|(simp;omega)) (by first|omega|(simp;done)|(simp;omega))) rfl ?_
  refine AL.runs ttk 1 rfl ?_
  refine AL.vl (g_loadA rfl rfl rfl Try.underlying3 rfl (getmap hx2) rfl) rfl ?_
  refine AL.runs ttk 1 rfl ?_
  refine AL.nx ?_
  refine AC.cond rfl (fun hc6=>?_) (fun hc6=>?_)
  ·
   have hc6':=of_decide_eq_true hc6
   refine AC.weak (st':=⟨[(0,(aC (.s 0 0 2 (((l).set k0 (⟨x1.account,x1.sum+e.sum⟩:Entry)).length)))),(3,(aC (.p 1 0 0 0))),(6,(aI (↑k0:Int))),(32,(aI (x1.sum+e.sum))),(34,(aC (.p 0 k0 2 1))),(35,(aC (.s 0 0 2 l.length))),(36,(aI (↑k0:Int))),(37,(aC (.p 0 k0 2 0))),(38,(aC (.p 0 k0 2 1))),(39,(aI x2.sum)),(40,(aB (decide (x2.sum>=(-1000000000000))))),(41,(aB true)),(42,(aC (.s 0 0 2 l.length))),(43,(aI (↑k0:Int))),(44,(aC (.p 0 k0 2 0))),(45,(aC (.p 0 k0 2 1))),(46,(aI x2.sum)),(47,(aB (decide (x2.sum<=1000000000000)))),(48,(aB (decide (x2.sum<=1000000000000)))),(8,(aB (decide (x2.sum<=1000000000000)))),(49,(aC (.s 0 0 2 l.length))),(50,(aI (↑k0:Int))),(51,(aC (.p 0 k0 2 0))),(52,(aC (.p 0 k0 2 1))),(53,(aI x2.sum)),(54,(aB (decide (x2.sum=0))))],[(1,(.box 115 [(cI e.account),(cI e.sum)])),(0,(alE ((l).set k0 (⟨x1.account,x1.sum+e.sum⟩:Entry))))],2⟩) (Weak.ren id (by refine ⟨?_,?_,?_,?_,?_,?_,?_,?_,?_,?_,?_,?_,?_,?_,?_,?_,?_,?_,?_,?_,?_,?_,?_,?_,?_,?_,trivial⟩<;>first|rfl|(simp only [mps];done)|(congr 3;omega)|(congr 4;omega)|(simp only [lns];rfl)) (by refine ⟨?_,?_,trivial⟩<;>first|rfl|(simp only [mps];done)|(congr 3;omega)|(congr 4;omega)|(simp only [lns];rfl)) rfl) ?_
   refine AC.region ?_
   refine AL.runs ttk 3 rfl ?_
   refine AL.vl (g_binI rfl rfl rfl (wrap_ok (by first|omega|(simp;done)|(simp;omega)))) rfl ?_
   obtain ⟨r4,hr4⟩:∃ (r4:List Entry),delL ((l).set k0 (⟨x1.account,x1.sum+e.sum⟩:Entry)) k0 ((k0)+1)=r4:=⟨_,rfl⟩
   refine AL.cn 3 [2,1] (g_callM id (rhoOf [2]) (c_Delete_Entry ((l).set k0 (⟨x1.account,x1.sum+e.sum⟩:Entry)) k0 ((k0)+1) (by first|omega|(simp;done)|(simp;omega)) (by first|omega|(simp;done)|(simp;omega)) r4 hr4) en122 rfl rfl ⟨⟨_,rfl,.inl ⟨rfl,rfl⟩⟩,⟨_,rfl,.inr (.c (.d _))⟩,⟨_,rfl,.inr (.c (.d _))⟩,trivial⟩ ⟨rfl,trivial⟩ rfl rfl rfl rfl rfl rfl trivial ⟨(fun _ _ _ _=>trivial),trivial⟩ rfl rfl rfl rfl) rfl ?_
   refine AL.runs ttk 1 rfl ?_
   refine AL.nx ?_
   refine AC.goes ttk 4 rfl ?_
   refine AC.ret ?_
   have hX:putE l e=(r4,decide (x2.sum<=1000000000000)):=by
     rw [putE_has hu hk0 (show hasE l e.account=true by simp_all) hx1 rfl];unfold goodE;rw [if_pos (by omega),hr4];refine Prod.ext rfl ?_;first|(simp;omega)|(simp_all;done)|(simp_all;omega)
   rw [hX] at hr;clear hX
   simp only [Prod.mk.injEq] at hr;obtain ⟨rfl,rfl⟩:=hr
   refine retQ_go ttk [2] 1 rfl rfl rfl rfl rfl rfl ?_ ?_
   all_goals first|rfl|(simp [ufs];done)|(simp [ufs];omega)
  have hc6':=of_decide_eq_false hc6
  refine AC.sk ?_
  refine AC.goes ttk 4 rfl ?_
  refine AC.ret ?_
  have hX:putE l e=((l).set k0 (⟨x1.account,x1.sum+e.sum⟩:Entry),decide (x2.sum<=1000000000000)):=by
    rw [putE_has hu hk0 (show hasE l e.account=true by simp_all) hx1 rfl];unfold goodE;rw [if_neg (by omega)];refine Prod.ext rfl ?_;first|(simp;omega)|(simp_all;done)|(simp_all;omega)
  rw [hX] at hr;clear hX
  simp only [Prod.mk.injEq] at hr;obtain ⟨rfl,rfl⟩:=hr
  refine retQ_go ttk [0] 1 rfl rfl rfl rfl rfl rfl ?_ ?_
  all_goals first|rfl|(simp [ufs];done)|(simp [ufs];omega)
 have hb5':=of_decide_eq_false hb5
 refine AL.runs ttk 8 rfl ?_
 refine AL.nx ?_
 refine AC.seq ?_
 refine AC.go ttk 2 rfl ?_
 refine AL.vl (g_indexP0 (i:=k0) rfl rfl rfl Try.underlying44 sz115 (by first|omega|(simp;done)|(simp;omega)) (by first|omega|(simp;done)|(simp;omega))) rfl ?_
 refine AL.runs ttk 1 rfl ?_
 refine AL.vl (g_loadA rfl rfl rfl Try.underlying3 rfl (getmap hx2) rfl) rfl ?_
 refine AL.runs ttk 1 rfl ?_
 refine AL.nx ?_
 refine AC.cond rfl (fun hc7=>?_) (fun hc7=>?_)
 ·
  have hc7':=of_decide_eq_true hc7
  refine AC.weak (st':=⟨[(0,(aC (.s 0 0 2 (((l).set k0 (⟨x1.account,x1.sum+e.sum⟩:Entry)).length)))),(3,(aC (.p 1 0 0 0))),(6,(aI (↑k0:Int))),(32,(aI (x1.sum+e.sum))),(34,(aC (.p 0 k0 2 1))),(35,(aC (.s 0 0 2 l.length))),(36,(aI (↑k0:Int))),(37,(aC (.p 0 k0 2 0))),(38,(aC (.p 0 k0 2 1))),(39,(aI x2.sum)),(40,(aB (decide (x2.sum>=(-1000000000000))))),(41,(aB false)),(48,(aB false)),(8,(aB false)),(49,(aC (.s 0 0 2 l.length))),(50,(aI (↑k0:Int))),(51,(aC (.p 0 k0 2 0))),(52,(aC (.p 0 k0 2 1))),(53,(aI x2.sum)),(54,(aB (decide (x2.sum=0))))],[(1,(.box 115 [(cI e.account),(cI e.sum)])),(0,(alE ((l).set k0 (⟨x1.account,x1.sum+e.sum⟩:Entry))))],2⟩) (Weak.ren id (by refine ⟨?_,?_,?_,?_,?_,?_,?_,?_,?_,?_,?_,?_,?_,?_,?_,?_,?_,?_,?_,?_,trivial⟩<;>first|rfl|(simp only [mps];done)|(congr 3;omega)|(congr 4;omega)|(simp only [lns];rfl)) (by refine ⟨?_,?_,trivial⟩<;>first|rfl|(simp only [mps];done)|(congr 3;omega)|(congr 4;omega)|(simp only [lns];rfl)) rfl) ?_
  refine AC.region ?_
  refine AL.runs ttk 3 rfl ?_
  refine AL.vl (g_binI rfl rfl rfl (wrap_ok (by first|omega|(simp;done)|(simp;omega)))) rfl ?_
  obtain ⟨r5,hr5⟩:∃ (r5:List Entry),delL ((l).set k0 (⟨x1.account,x1.sum+e.sum⟩:Entry)) k0 ((k0)+1)=r5:=⟨_,rfl⟩
  refine AL.cn 3 [2,1] (g_callM id (rhoOf [2]) (c_Delete_Entry ((l).set k0 (⟨x1.account,x1.sum+e.sum⟩:Entry)) k0 ((k0)+1) (by first|omega|(simp;done)|(simp;omega)) (by first|omega|(simp;done)|(simp;omega)) r5 hr5) en122 rfl rfl ⟨⟨_,rfl,.inl ⟨rfl,rfl⟩⟩,⟨_,rfl,.inr (.c (.d _))⟩,⟨_,rfl,.inr (.c (.d _))⟩,trivial⟩ ⟨rfl,trivial⟩ rfl rfl rfl rfl rfl rfl trivial ⟨(fun _ _ _ _=>trivial),trivial⟩ rfl rfl rfl rfl) rfl ?_
  refine AL.runs ttk 1 rfl ?_
  refine AL.nx ?_
  refine AC.goes ttk 4 rfl ?_
  refine AC.ret ?_
  have hX:putE l e=(r5,false):=by
    rw [putE_has hu hk0 (show hasE l e.account=true by simp_all) hx1 rfl];unfold goodE;rw [if_pos (by omega),hr5];refine Prod.ext rfl ?_;first|(simp;omega)|(simp_all;done)|(simp_all;omega)
  rw [hX] at hr;clear hX
  simp only [Prod.mk.injEq] at hr;obtain ⟨rfl,rfl⟩:=hr
  refine retQ_go ttk [2] 1 rfl rfl rfl rfl rfl rfl ?_ ?_
  all_goals first|rfl|(simp [ufs];done)|(simp [ufs];omega)
 have hc7':=of_decide_eq_false hc7
 refine AC.sk ?_
 refine AC.goes ttk 4 rfl ?_
 refine AC.ret ?_
 have hX:putE l e=((l).set k0 (⟨x1.account,x1.sum+e.sum⟩:Entry),false):=by
   rw [putE_has hu hk0 (show hasE l e.account=true by simp_all) hx1 rfl];unfold goodE;rw [if_neg (by omega)];refine Prod.ext rfl ?_;first|(simp;omega)|(simp_all;done)|(simp_all;omega)
 rw [hX] at hr;clear hX
 simp only [Prod.mk.injEq] at hr;obtain ⟨rfl,rfl⟩:=hr
 refine retQ_go ttk [0] 1 rfl rfl rfl rfl rfl rfl ?_ ?_
 all_goals first|rfl|(simp [ufs];done)|(simp [ufs];omega)
end Go.Proofs.Ytegepioggeggaaa.Dev
namespace Go.Proofs.Ytegepioggeggaaa.Dev
def badE (x:Entry):Prop:=x.account < 0\/x.account > 57\/x.sum < -1000000000000\/x.sum > 1000000000000
instance (x:Entry):Decidable (badE x):=by unfold badE;infer_instance
def bErr (l:List Entry) (q:Nat):Int:=
 match l[q]? with
 |some x=>if badE x then 3 else if (0 < q/\(l.getD (q - 1) ⟨0,0⟩).account>=x.account)\/x.sum=0 then 2 else 0
 |none=>0
def sumE:List Entry->Int
 |[]=>0
 |x::l=>x.sum+sumE l
def wrongB (l:List Entry):Fault:=if (scan (bErr l) 0 l.length).1≠0 then ⟨(scan (bErr l) 0 l.length).1,(scan (bErr l) 0 l.length).2⟩ else if sumE l≠0 then ⟨8,0⟩ else ⟨0,0⟩
theorem sumE_cons (x:Entry) (l:List Entry):sumE (x::l)=x.sum+sumE l:=rfl
theorem sumE_append (l r:List Entry):sumE (l++r)=sumE l+sumE r:=by
 induction l with
 |nil=>simp [sumE]
 |cons x l ih=>simp only [List.cons_append,sumE,ih];omega
theorem take_snoc {α:Type} {l:List α} {q:Nat} {x:α} (h:l[q]?=some x):l.take (q+1)=l.take q++[x]:=by
 obtain ⟨hlt,rfl⟩:=List.getElem?_eq_some_iff.1 h
 rw [List.take_add_one,List.getElem?_eq_getElem hlt];rfl
theorem sumE_take {l:List Entry} {q:Nat} {x:Entry} (h:l[q]?=some x):sumE (l.take (q+1))=sumE (l.take q)+x.sum:=by
 rw [take_snoc h,sumE_append];simp [sumE]
def lastA (l:List Entry) (q:Nat):Int:=if q=0 then -1 else (l.getD (q - 1) ⟨0,0⟩).account
theorem lastA_succ {l:List Entry} {q:Nat} {x:Entry} (h:l[q]?=some x):lastA l (q+1)=x.account:=by
 unfold lastA
 rw [if_neg (by omega),List.getD_eq_getElem?_getD,Nat.add_sub_cancel,h];rfl
theorem lastA_pos {l:List Entry} {q:Nat} {x:Entry} (hq:0 < q) (h:l[q - 1]?=some x):lastA l q=x.account:=by
 unfold lastA
 rw [if_neg (by omega),List.getD_eq_getElem?_getD,h];rfl
theorem bErr_some {l:List Entry} {q:Nat} {x:Entry} (h:l[q]?=some x):bErr l q=if badE x then 3 else if (0 < q/\lastA l q>=x.account)\/x.sum=0 then 2 else 0:=by
 unfold bErr
 rw [h]
 by_cases hq:q=0
 ·subst hq;simp
 ·unfold lastA;rw [if_neg hq]
structure Right (l:List Entry):Prop where
 up:Up l
 ok:∀ x∈l,0<=x.account/\x.account<=57/\-1000000000000<=x.sum/\x.sum<=1000000000000/\x.sum≠0
theorem up_of {l:List Entry} (h:∀ q x y,l[q]?=some x->l[q+1]?=some y->x.account < y.account):Up l:=by
 unfold Up
 induction l with
 |nil=>exact List.Pairwise.nil
 |cons x l ih=>
  have h2:=ih fun q a b ha hb=>h (q+1) a b (by simpa using ha) (by simpa using hb)
  refine List.pairwise_cons.2 ⟨fun y hy=>?_,h2⟩
  cases l with
  |nil=>cases hy
  |cons z l=>
   have hz:=h 0 x z (by simp) (by simp)
   rcases List.mem_cons.1 hy with rfl|hy
   ·exact hz
   ·have:=(List.pairwise_cons.1 h2).1 y hy;omega
theorem up_get {l:List Entry} (h:Up l) {i j:Nat} {x y:Entry} (hij:i < j) (hx:l[i]?=some x) (hy:l[j]?=some y):x.account < y.account:=by
 obtain ⟨hi,rfl⟩:=List.getElem?_eq_some_iff.1 hx
 obtain ⟨hj,rfl⟩:=List.getElem?_eq_some_iff.1 hy
 exact List.pairwise_iff_getElem.1 h i j hi hj hij
theorem scanB_iff {l:List Entry}:(scan (bErr l) 0 l.length).1=0↔Right l:=by
 rw [scan_all]
 constructor
 ·intro h
  have at':∀ q x,l[q]?=some x->¬badE x/\¬((0 < q/\lastA l q>=x.account)\/x.sum=0):=fun q x hx=>by
   have hq:=(List.getElem?_eq_some_iff.1 hx).1
   have h1:=h q (Nat.zero_le _) (by omega)
   rw [bErr_some hx] at h1
   split at h1
   ·cases h1
   ·split at h1
    ·cases h1
    ·exact ⟨by assumption,by assumption⟩
  refine ⟨up_of fun q x y hx hy=>?_,fun x hx=>?_⟩
  ·have h1:=(at' (q+1) y hy).2
   rw [lastA_succ hx] at h1
   omega
  ·obtain ⟨q,hq⟩:=List.getElem?_of_mem hx
   have h1:=at' q x hq
   unfold badE at h1
   omega
 ·intro h q _ hq
  obtain ⟨x,hx⟩:∃ x,l[q]?=some x:=⟨_,List.getElem?_eq_getElem (by omega)⟩
  have h1:=h.ok x (List.mem_of_getElem? hx)
  rw [bErr_some hx,if_neg (by unfold badE;omega),if_neg]
  rintro (⟨h2,h3⟩|h2)
  ·obtain ⟨y,hy⟩:∃ y,l[q - 1]?=some y:=⟨_,List.getElem?_eq_getElem (by omega)⟩
   rw [lastA_pos h2 hy] at h3
   have:=up_get h.up (by omega:q - 1 < q) hy hx
   omega
  ·exact h1.2.2.2.2 h2
theorem wrongB_iff {l:List Entry}:(wrongB l).err=0↔Right l/\sumE l=0:=by
 unfold wrongB
 rw [<-scanB_iff]
 split
 ·rename_i h;constructor
  ·intro h1;exact absurd h1 h
  ·intro h1;exact absurd h1.1 h
 ·rename_i h
  split
  ·rename_i h2;constructor
   ·intro h1;cases h1
   ·intro h1;exact absurd h1.2 h2
  ·rename_i h2;constructor
   ·intro _;exact ⟨by omega,by omega⟩
   ·intro _;rfl
theorem right_len {l:List Entry} (h:Right l):l.length<=58:=by
 have key:∀ (q:Nat) (x:Entry),l[q]?=some x->(q:Int)<=x.account:=by
  intro q
  induction q with
  |zero=>intro x hx;have:=h.ok x (List.mem_of_getElem? hx);omega
  |succ q ih=>
   intro x hx
   have hq:=(List.getElem?_eq_some_iff.1 hx).1
   obtain ⟨y,hy⟩:∃ y,l[q]?=some y:=⟨_,List.getElem?_eq_getElem (by omega)⟩
   have h1:=ih y hy
   have h2:=up_get h.up (by omega:q < q+1) hy hx
   omega
 by_cases hl:l.length=0
 ·omega
 ·obtain ⟨x,hx⟩:∃ x,l[l.length - 1]?=some x:=⟨_,List.getElem?_eq_getElem (by omega)⟩
  have h1:=key _ x hx
  have h2:=h.ok x (List.mem_of_getElem? hx)
  omega
theorem setE_cons {x:Entry} {l:List Entry} {a s:Int} (h:x.account < a):setE (x::l) a s=x::setE l a s:=by
 unfold setE
 rw [hasE_cons h,show posE (x::l) a=posE l a+1 by simp [posE,h]]
 cases hasE l a<;>simp
theorem setE_here {x:Entry} {l:List Entry} {a s:Int} (h:x.account=a):setE (x::l) a s=(if s=0 then [] else [⟨a,s⟩])++l:=by
 unfold setE
 rw [hasE_head (by omega),show posE (x::l) a=0 by simp [posE];omega]
 simp [h]
theorem setE_new {x:Entry} {l:List Entry} {a s:Int} (h:a < x.account):setE (x::l) a s=(if s=0 then [] else [⟨a,s⟩])++x::l:=by
 unfold setE
 rw [hasE_head (by omega),show posE (x::l) a=0 by simp [posE];omega]
 have:¬x.account=a:=by omega
 simp [this]
theorem setE_nil (a s:Int):setE [] a s=if s=0 then [] else [⟨a,s⟩]:=by simp [setE,posE,hasE]
theorem setE_mem {a s:Int}:∀ {l:List Entry} {x:Entry},x∈setE l a s->x∈l\/(x=⟨a,s⟩/\s≠0)
 |[],x,h=>by
  rw [setE_nil] at h
  split at h
  ·cases h
  ·rename_i h0;exact .inr ⟨by simpa using h,h0⟩
 |y::l,x,h=>by
  have one:x∈(if s=0 then [] else [(⟨a,s⟩:Entry)])->x=⟨a,s⟩/\s≠0:=fun h=>by
   split at h
   ·cases h
   ·rename_i h0;exact ⟨by simpa using h,h0⟩
  rcases Int.lt_trichotomy y.account a with h1|h1|h1
  ·rw [setE_cons h1] at h
   rcases List.mem_cons.1 h with rfl|h
   ·exact .inl List.mem_cons_self
   ·rcases setE_mem h with h|h
    ·exact .inl (List.mem_cons_of_mem _ h)
    ·exact .inr h
  ·rw [setE_here h1] at h
   rcases List.mem_append.1 h with h|h
   ·exact .inr (one h)
   ·exact .inl (List.mem_cons_of_mem _ h)
  ·rw [setE_new h1] at h
   rcases List.mem_append.1 h with h|h
   ·exact .inr (one h)
   ·exact .inl h
theorem up_cons {x:Entry} {l:List Entry}:Up (x::l)↔(∀ y∈l,x.account < y.account)/\Up l:=List.pairwise_cons
theorem setE_up {a s:Int}:∀ {l:List Entry},Up l->Up (setE l a s)
 |[],_=>by rw [setE_nil];split;exact List.Pairwise.nil;exact List.pairwise_singleton _ _
 |y::l,h=>by
  obtain ⟨h1,h2⟩:=up_cons.1 h
  rcases Int.lt_trichotomy y.account a with h3|h3|h3
  ·rw [setE_cons h3]
   refine up_cons.2 ⟨fun z hz=>?_,setE_up h2⟩
   rcases setE_mem hz with hz|⟨rfl,_⟩
   ·exact h1 z hz
   ·exact h3
  ·rw [setE_here h3]
   split
   ·exact h2
   ·exact up_cons.2 ⟨fun z hz=>by have:=h1 z hz;show a < z.account;omega,h2⟩
  ·rw [setE_new h3]
   split
   ·exact h
   ·exact up_cons.2 ⟨fun z hz=>by
     show a < z.account
     rcases List.mem_cons.1 hz with rfl|hz
     ·exact h3
     ·have:=h1 z hz;omega,h⟩
theorem getE_one (a s b:Int) (l:List Entry):getE ((if s=0 then [] else [⟨a,s⟩])++l) b=if s≠0/\a=b then s else getE l b:=by
 by_cases h:s=0
 ·simp [h]
 ·simp [h,getE]
theorem getE_set {a s b:Int}:∀ {l:List Entry},Up l->getE (setE l a s) b=if a=b then s else getE l b
 |[],_=>by
  have:=getE_one a s b []
  rw [List.append_nil] at this
  rw [setE_nil,this]
  by_cases h:s=0
  ·subst h;simp [getE]
  ·simp [h]
 |y::l,h=>by
  obtain ⟨h1,h2⟩:=up_cons.1 h
  rcases Int.lt_trichotomy y.account a with h3|h3|h3
  ·rw [setE_cons h3]
   unfold getE
   rw [getE_set h2]
   by_cases h4:y.account=b
   ·rw [if_pos h4,if_pos h4,if_neg (by omega)]
   ·rw [if_neg h4,if_neg h4]
  ·rw [setE_here h3,getE_one]
   by_cases h4:a=b
   ·subst h4
    by_cases h5:s=0
    ·subst h5;simp;exact getE_absent fun z hz=>by have:=h1 z hz;omega
    ·simp [h5]
   ·rw [if_neg (fun h=>h4 h.2),if_neg h4]
    conv=>rhs;unfold getE
    rw [if_neg (by omega)]
  ·rw [setE_new h3,getE_one]
   by_cases h4:a=b
   ·subst h4
    by_cases h5:s=0
    ·subst h5;simp;exact getE_absent fun z hz=>by
      rcases List.mem_cons.1 hz with rfl|hz
      ·exact h3
      ·have:=h1 z hz;omega
    ·simp [h5]
   ·rw [if_neg (fun h=>h4 h.2),if_neg h4]
theorem sumE_set {a s:Int}:∀ {l:List Entry},Up l->sumE (setE l a s)=sumE l - getE l a+s
 |[],_=>by
  rw [setE_nil]
  by_cases h:s=0
  ·subst h;simp [sumE,getE]
  ·simp [h,sumE,getE]
 |y::l,h=>by
  obtain ⟨h1,h2⟩:=up_cons.1 h
  have one:sumE (if s=0 then [] else [(⟨a,s⟩:Entry)])=s:=by split<;>simp_all [sumE]
  rcases Int.lt_trichotomy y.account a with h3|h3|h3
  ·rw [setE_cons h3]
   unfold sumE getE
   rw [sumE_set h2,if_neg (by omega)];omega
  ·rw [setE_here h3,sumE_append,one]
   conv=>rhs;unfold sumE getE
   rw [if_pos h3];omega
  ·rw [setE_new h3,sumE_append,one,getE_absent fun z hz=>by
    rcases List.mem_cons.1 hz with rfl|hz
    ·exact h3
    ·have:=h1 z hz;omega]
   omega
theorem setE_right {l:List Entry} {a s:Int} (h:Right l) (ha:0<=a/\a<=57) (hs:-1000000000000<=s/\s<=1000000000000):Right (setE l a s):=
 ⟨setE_up h.up,fun x hx=>by
  rcases setE_mem hx with hx|⟨rfl,h0⟩
  ·exact h.ok x hx
  ·exact ⟨ha.1,ha.2,hs.1,hs.2,h0⟩⟩
def putAll:List Entry->List Entry->Option (List Entry)
 |l,[]=>some l
 |l,e::es=>if goodE (getE l e.account+e.sum)=true then putAll (setE l e.account (getE l e.account+e.sum)) es else none
def postB (l es:List Entry):List Entry×Int:=
 if (wrongB l).err≠0 then ([],(wrongB l).err)
 else if es.length > 10 then ([],5)
 else if ∃ x∈es,badE x then ([],3)
 else if sumE es≠0 then ([],8)
 else match putAll l es with
  |some r=>(r,0)
  |none=>([],4)
theorem goodE_iff {s:Int}:goodE s=true↔-1000000000000<=s/\s<=1000000000000:=by
 unfold goodE;simp only [Bool.and_eq_true,decide_eq_true_eq,ge_iff_le]
theorem putAll_drop {l es:List Entry} {q:Nat} {e:Entry} (h:es[q]?=some e):putAll l (es.drop q)=if goodE (getE l e.account+e.sum)=true then putAll (setE l e.account (getE l e.account+e.sum)) (es.drop (q+1)) else none:=by
 obtain ⟨hq,rfl⟩:=List.getElem?_eq_some_iff.1 h
 rw [List.drop_eq_getElem_cons hq];rfl
theorem putAll_right:∀ {es l r:List Entry},Right l->(∀ x∈es,¬badE x)->putAll l es=some r->Right r/\sumE r=sumE l+sumE es
 |[],l,r,h,_,hp=>by
  have:l=r:=by simpa [putAll] using hp
  subst this;exact ⟨h,by simp [sumE]⟩
 |e::es,l,r,h,hb,hp=>by
  unfold putAll at hp
  split at hp
  ·rename_i hg
   have hg:=goodE_iff.1 hg
   have h1:=hb e List.mem_cons_self
   unfold badE at h1
   obtain ⟨h2,h3⟩:=putAll_right (setE_right h (by omega) hg) (fun x hx=>hb x (List.mem_cons_of_mem _ hx)) hp
   refine ⟨h2,?_⟩
   rw [h3,sumE_set h.up,sumE_cons]
   omega
  ·cases hp
def givenE (a:Int):List Entry->Int
 |[]=>0
 |e::es=>(if e.account=a then e.sum else 0)+givenE a es
theorem givenE_cons (a:Int) (e:Entry) (es:List Entry):givenE a (e::es)=(if e.account=a then e.sum else 0)+givenE a es:=rfl
theorem putAll_get {a:Int}:∀ {es l r:List Entry},Up l->putAll l es=some r->getE r a=getE l a+givenE a es
 |[],l,r,h,hp=>by
  have:l=r:=by simpa [putAll] using hp
  subst this;simp [givenE]
 |e::es,l,r,h,hp=>by
  unfold putAll at hp
  split at hp
  ·rw [putAll_get (setE_up h) hp,getE_set h,givenE_cons]
   by_cases hc:e.account=a
   ·subst hc;simp;omega
   ·simp [hc]
  ·cases hp
end Go.Proofs.Ytegepioggeggaaa.Dev
namespace Go.Proofs.Ytegepioggeggaaa.Dev
open Go.RowKit
section
variable {P:Program} {st:AState} {o:Oper}
end
end Go.Proofs.Ytegepioggeggaaa.Dev
namespace Go.Proofs.Ytegepioggeggaaa.Dev
open Go.RowKit


set_option maxRecDepth 100000 in
set_option maxHeartbeats 1000000 in
theorem c_Clone_int (l:List Int) (hl:l.length * 8<=140737488355328):Fn Try.prog 95 [(.c (vlI l))] (aC (.s 0 0 1 l.length)) [(0,.arr 3 1 (l.map rI))]:=by
 refine Fn.mk' 8 [(0,(aC (vlI l)))] Try.func95 rfl rfl rfl rfl ?_
 intro W0 T0
 refine AC.len1 0 rfl (fun hlen0=>?_)
 refine AC.goes ttk 1 rfl ?_
 refine AC.seq ?_
 refine AC.go ttk 1 rfl ?_
 refine AL.isnil (Wanted.plain rfl) rfl rfl Try.underlying30 rfl rfl (fun bn1 hbn1=>?_)
 refine AL.nx ?_
 refine AC.cond rfl (fun hc2=>?_) (fun hc2=>?_)
 ·
  have hc2':=hc2;try simp only [sumB,dns] at hc2'
  refine AC.goes ttk 1 rfl ?_
  refine AC.ret ?_
  refine then_ret ?_
  refine retQ_weak (Weak.nil 2 3 1 (by decide) rfl) ?_
  refine retQ_go ttk [0] 1 rfl rfl rfl rfl rfl rfl ?_ ?_
  ·(have h0:=hbn1 (by assumption);have h1:l=[]:=by (cases l with|nil=>rfl|cons=>simp at h0));subst h1;rfl
  ·(have h0:=hbn1 (by assumption);have h1:l=[]:=by (cases l with|nil=>rfl|cons=>simp at h0));subst h1;rfl
 have hc2':=hc2;try simp only [sumB,dns] at hc2'
 refine AC.sk ?_
 refine AC.sr ?_
 refine AL.cn 1 [0] (g_lit (ys:=[]) (rows:=(([]:List Int)).map rI) 0 sl30 rfl (by decide) trivial rfl rfl rfl rfl) rfl ?_
 refine AL.runs ttk 1 rfl ?_
 refine AL.cn 2 [1] (g_append (m:=l.length) (N:=l.length) (k2:=1) (ys:=(l).map rI) sl30 rfl rfl rfl rfl rfl rfl (by first|omega|(simp;omega)|(simp;done)) rfl (.d _ _) (by first|omega|(simp;omega)|(simp;done)) (by first|omega|(simp;omega)|(simp;done)) rfl (by decide) (by first|omega|(simp;omega)|(simp;done)) (by first|omega|(simp;omega)|(simp;done))) rfl ?_
 refine AL.runs ttk 1 rfl ?_
 refine AL.nx ?_
 refine AC.ret ?_
 refine retQ_go ttk [1] 1 rfl rfl rfl rfl rfl rfl ?_ ?_
 ·first|rfl|simp [outOf,aC]
 ·first|rfl|simp
set_option maxRecDepth 100000 in
set_option maxHeartbeats 1000000 in
theorem c_Clone_Advice (l:List Advice) (hl:l.length * 32<=140737488355328):Fn Try.prog 99 [(.c (vlA l))] (aC (.s 0 0 4 l.length)) [(0,.arr 107 4 (l.map rAdvice))]:=by
 refine Fn.mk' 8 [(0,(aC (vlA l)))] Try.func99 rfl rfl rfl rfl ?_
 intro W0 T0
 refine AC.len1 0 rfl (fun hlen0=>?_)
 refine AC.goes ttk 1 rfl ?_
 refine AC.seq ?_
 refine AC.go ttk 1 rfl ?_
 refine AL.isnil (Wanted.plain rfl) rfl rfl Try.underlying39 rfl rfl (fun bn1 hbn1=>?_)
 refine AL.nx ?_
 refine AC.cond rfl (fun hc2=>?_) (fun hc2=>?_)
 ·
  have hc2':=hc2;try simp only [sumB,dns] at hc2'
  refine AC.goes ttk 1 rfl ?_
  refine AC.ret ?_
  refine then_ret ?_
  refine retQ_weak (Weak.nil 2 107 4 (by decide) rfl) ?_
  refine retQ_go ttk [0] 1 rfl rfl rfl rfl rfl rfl ?_ ?_
  ·(have h0:=hbn1 (by assumption);have h1:l=[]:=by (cases l with|nil=>rfl|cons=>simp at h0));subst h1;rfl
  ·(have h0:=hbn1 (by assumption);have h1:l=[]:=by (cases l with|nil=>rfl|cons=>simp at h0));subst h1;rfl
 have hc2':=hc2;try simp only [sumB,dns] at hc2'
 refine AC.sk ?_
 refine AC.sr ?_
 refine AL.cn 1 [0] (g_lit (ys:=[]) (rows:=(([]:List Advice)).map rAdvice) 0 sl39 rfl (by decide) trivial rfl rfl rfl rfl) rfl ?_
 refine AL.runs ttk 1 rfl ?_
 refine AL.cn 2 [1] (g_append (m:=l.length) (N:=l.length) (k2:=1) (ys:=(l).map rAdvice) sl39 rfl rfl rfl rfl rfl rfl (by first|omega|(simp;omega)|(simp;done)) rfl (.d _ _) (by first|omega|(simp;omega)|(simp;done)) (by first|omega|(simp;omega)|(simp;done)) rfl (by decide) (by first|omega|(simp;omega)|(simp;done)) (by first|omega|(simp;omega)|(simp;done))) rfl ?_
 refine AL.runs ttk 1 rfl ?_
 refine AL.nx ?_
 refine AC.ret ?_
 refine retQ_go ttk [1] 1 rfl rfl rfl rfl rfl rfl ?_ ?_
 ·first|rfl|simp [outOf,aC]
 ·first|rfl|simp
set_option maxRecDepth 100000 in
set_option maxHeartbeats 1000000 in
theorem c_Clone_Use (l:List Use) (hl:l.length * 16<=140737488355328):Fn Try.prog 114 [(.c (vlU l))] (aC (.s 0 0 2 l.length)) [(0,.arr 125 2 (l.map rUse))]:=by
 refine Fn.mk' 8 [(0,(aC (vlU l)))] Try.func114 rfl rfl rfl rfl ?_
 intro W0 T0
 refine AC.len1 0 rfl (fun hlen0=>?_)
 refine AC.goes ttk 1 rfl ?_
 refine AC.seq ?_
 refine AC.go ttk 1 rfl ?_
 refine AL.isnil (Wanted.plain rfl) rfl rfl Try.underlying59 rfl rfl (fun bn1 hbn1=>?_)
 refine AL.nx ?_
 refine AC.cond rfl (fun hc2=>?_) (fun hc2=>?_)
 ·
  have hc2':=hc2;try simp only [sumB,dns] at hc2'
  refine AC.goes ttk 1 rfl ?_
  refine AC.ret ?_
  refine then_ret ?_
  refine retQ_weak (Weak.nil 2 125 2 (by decide) rfl) ?_
  refine retQ_go ttk [0] 1 rfl rfl rfl rfl rfl rfl ?_ ?_
  ·(have h0:=hbn1 (by assumption);have h1:l=[]:=by (cases l with|nil=>rfl|cons=>simp at h0));subst h1;rfl
  ·(have h0:=hbn1 (by assumption);have h1:l=[]:=by (cases l with|nil=>rfl|cons=>simp at h0));subst h1;rfl
 have hc2':=hc2;try simp only [sumB,dns] at hc2'
 refine AC.sk ?_
 refine AC.sr ?_
 refine AL.cn 1 [0] (g_lit (ys:=[]) (rows:=(([]:List Use)).map rUse) 0 sl59 rfl (by decide) trivial rfl rfl rfl rfl) rfl ?_
 refine AL.runs ttk 1 rfl ?_
 refine AL.cn 2 [1] (g_append (m:=l.length) (N:=l.length) (k2:=1) (ys:=(l).map rUse) sl59 rfl rfl rfl rfl rfl rfl (by first|omega|(simp;omega)|(simp;done)) rfl (.d _ _) (by first|omega|(simp;omega)|(simp;done)) (by first|omega|(simp;omega)|(simp;done)) rfl (by decide) (by first|omega|(simp;omega)|(simp;done)) (by first|omega|(simp;omega)|(simp;done))) rfl ?_
 refine AL.runs ttk 1 rfl ?_
 refine AL.nx ?_
 refine AC.ret ?_
 refine retQ_go ttk [1] 1 rfl rfl rfl rfl rfl rfl ?_ ?_
 ·first|rfl|simp [outOf,aC]
 ·first|rfl|simp
set_option maxRecDepth 100000 in
set_option maxHeartbeats 1000000 in
theorem c_Clone_Transfer (l:List Transfer) (hl:l.length * 32<=140737488355328):Fn Try.prog 106 [(.c (vlT l))] (aC (.s 0 0 4 l.length)) [(0,.arr 80 4 (l.map rTransfer))]:=by
 refine Fn.mk' 8 [(0,(aC (vlT l)))] Try.func106 rfl rfl rfl rfl ?_
 intro W0 T0
 refine AC.len1 0 rfl (fun hlen0=>?_)
 refine AC.goes ttk 1 rfl ?_
 refine AC.seq ?_
 refine AC.go ttk 1 rfl ?_
 refine AL.isnil (Wanted.plain rfl) rfl rfl Try.underlying32 rfl rfl (fun bn1 hbn1=>?_)
 refine AL.nx ?_
 refine AC.cond rfl (fun hc2=>?_) (fun hc2=>?_)
 ·
  have hc2':=hc2;try simp only [sumB,dns] at hc2'
  refine AC.goes ttk 1 rfl ?_
  refine AC.ret ?_
  refine then_ret ?_
  refine retQ_weak (Weak.nil 2 80 4 (by decide) rfl) ?_
  refine retQ_go ttk [0] 1 rfl rfl rfl rfl rfl rfl ?_ ?_
  ·(have h0:=hbn1 (by assumption);have h1:l=[]:=by (cases l with|nil=>rfl|cons=>simp at h0));subst h1;rfl
  ·(have h0:=hbn1 (by assumption);have h1:l=[]:=by (cases l with|nil=>rfl|cons=>simp at h0));subst h1;rfl
 have hc2':=hc2;try simp only [sumB,dns] at hc2'
 refine AC.sk ?_
 refine AC.sr ?_
 refine AL.cn 1 [0] (g_lit (ys:=[]) (rows:=(([]:List Transfer)).map rTransfer) 0 sl32 rfl (by decide) trivial rfl rfl rfl rfl) rfl ?_
 refine AL.runs ttk 1 rfl ?_
 refine AL.cn 2 [1] (g_append (m:=l.length) (N:=l.length) (k2:=1) (ys:=(l).map rTransfer) sl32 rfl rfl rfl rfl rfl rfl (by first|omega|(simp;omega)|(simp;done)) rfl (.d _ _) (by first|omega|(simp;omega)|(simp;done)) (by first|omega|(simp;omega)|(simp;done)) rfl (by decide) (by first|omega|(simp;omega)|(simp;done)) (by first|omega|(simp;omega)|(simp;done))) rfl ?_
 refine AL.runs ttk 1 rfl ?_
 refine AL.nx ?_
 refine AC.ret ?_
 refine retQ_go ttk [1] 1 rfl rfl rfl rfl rfl rfl ?_ ?_
 ·first|rfl|simp [outOf,aC]
 ·first|rfl|simp
set_option maxRecDepth 100000 in
set_option maxHeartbeats 1000000 in
theorem c_Clone_Entry (l:List Entry) (hl:l.length * 16<=140737488355328):Fn Try.prog 115 [(.c (vlE l))] (aC (.s 0 0 2 l.length)) [(0,.arr 115 2 (l.map rEntry))]:=by
 refine Fn.mk' 8 [(0,(aC (vlE l)))] Try.func115 rfl rfl rfl rfl ?_
 intro W0 T0
 refine AC.len1 0 rfl (fun hlen0=>?_)
 refine AC.goes ttk 1 rfl ?_
 refine AC.seq ?_
 refine AC.go ttk 1 rfl ?_
 refine AL.isnil (Wanted.plain rfl) rfl rfl Try.underlying44 rfl rfl (fun bn1 hbn1=>?_)
 refine AL.nx ?_
 refine AC.cond rfl (fun hc2=>?_) (fun hc2=>?_)
 ·
  have hc2':=hc2;try simp only [sumB,dns] at hc2'
  refine AC.goes ttk 1 rfl ?_
  refine AC.ret ?_
  refine then_ret ?_
  refine retQ_weak (Weak.nil 2 115 2 (by decide) rfl) ?_
  refine retQ_go ttk [0] 1 rfl rfl rfl rfl rfl rfl ?_ ?_
  ·(have h0:=hbn1 (by assumption);have h1:l=[]:=by (cases l with|nil=>rfl|cons=>simp at h0));subst h1;rfl
  ·(have h0:=hbn1 (by assumption);have h1:l=[]:=by (cases l with|nil=>rfl|cons=>simp at h0));subst h1;rfl
 have hc2':=hc2;try simp only [sumB,dns] at hc2'
 refine AC.sk ?_
 refine AC.sr ?_
 refine AL.cn 1 [0] (g_lit (ys:=[]) (rows:=(([]:List Entry)).map rEntry) 0 sl44 rfl (by decide) trivial rfl rfl rfl rfl) rfl ?_
 refine AL.runs ttk 1 rfl ?_
 refine AL.cn 2 [1] (g_append (m:=l.length) (N:=l.length) (k2:=1) (ys:=(l).map rEntry) sl44 rfl rfl rfl rfl rfl rfl (by first|omega|(simp;omega)|(simp;done)) rfl (.d _ _) (by first|omega|(simp;omega)|(simp;done)) (by first|omega|(simp;omega)|(simp;done)) rfl (by decide) (by first|omega|(simp;omega)|(simp;done)) (by first|omega|(simp;omega)|(simp;done))) rfl ?_
 refine AL.runs ttk 1 rfl ?_
 refine AL.nx ?_
 refine AC.ret ?_
 refine retQ_go ttk [1] 1 rfl rfl rfl rfl rfl rfl ?_ ?_
 ·first|rfl|simp [outOf,aC]
 ·first|rfl|simp
set_option maxRecDepth 100000 in
set_option maxHeartbeats 1000000 in
theorem c_Clone_Record (l:List Record) (hl:l.length * 32<=140737488355328):Fn Try.prog 54 [(.c (vlR l))] (aC (.s 0 0 4 l.length)) [(0,.arr 83 4 (l.map rRecord))]:=by
 refine Fn.mk' 8 [(0,(aC (vlR l)))] Try.func54 rfl rfl rfl rfl ?_
 intro W0 T0
 refine AC.len1 0 rfl (fun hlen0=>?_)
 refine AC.goes ttk 1 rfl ?_
 refine AC.seq ?_
 refine AC.go ttk 1 rfl ?_
 refine AL.isnil (Wanted.plain rfl) rfl rfl Try.underlying42 rfl rfl (fun bn1 hbn1=>?_)
 refine AL.nx ?_
 refine AC.cond rfl (fun hc2=>?_) (fun hc2=>?_)
 ·
  have hc2':=hc2;try simp only [sumB,dns] at hc2'
  refine AC.goes ttk 1 rfl ?_
  refine AC.ret ?_
  refine then_ret ?_
  refine retQ_weak (Weak.nil 2 83 4 (by decide) rfl) ?_
  refine retQ_go ttk [0] 1 rfl rfl rfl rfl rfl rfl ?_ ?_
  ·(have h0:=hbn1 (by assumption);have h1:l=[]:=by (cases l with|nil=>rfl|cons=>simp at h0));subst h1;rfl
  ·(have h0:=hbn1 (by assumption);have h1:l=[]:=by (cases l with|nil=>rfl|cons=>simp at h0));subst h1;rfl
 have hc2':=hc2;try simp only [sumB,dns] at hc2'
 refine AC.sk ?_
 refine AC.sr ?_
 refine AL.cn 1 [0] (g_lit (ys:=[]) (rows:=(([]:List Record)).map rRecord) 0 sl42 rfl (by decide) trivial rfl rfl rfl rfl) rfl ?_
 refine AL.runs ttk 1 rfl ?_
 refine AL.cn 2 [1] (g_append (m:=l.length) (N:=l.length) (k2:=1) (ys:=(l).map rRecord) sl42 rfl rfl rfl rfl rfl rfl (by first|omega|(simp;omega)|(simp;done)) rfl (.d _ _) (by first|omega|(simp;omega)|(simp;done)) (by first|omega|(simp;omega)|(simp;done)) rfl (by decide) (by first|omega|(simp;omega)|(simp;done)) (by first|omega|(simp;omega)|(simp;done))) rfl ?_
 refine AL.runs ttk 1 rfl ?_
 refine AL.nx ?_
 refine AC.ret ?_
 refine retQ_go ttk [1] 1 rfl rfl rfl rfl rfl rfl ?_ ?_
 ·first|rfl|simp [outOf,aC]
 ·first|rfl|simp
end Go.Proofs.Ytegepioggeggaaa.Dev
namespace Go.Proofs.Ytegepioggeggaaa.Dev
open Go.RowKit


set_option maxRecDepth 100000 in
set_option maxHeartbeats 1000000 in
theorem c_book_Wrong (l:List Entry) (f:Fault) (hr:wrongB l=f):Fn Try.prog 33 [(.c (vlE l))] (.v (.g [(cI f.err),(cI f.at_)])) []:=by
 refine Fn.mk' 64 [(0,(aC (vlE l)))] Try.func33 rfl rfl rfl rfl ?_
 intro W0 T0
 refine AC.len1 0 rfl (fun hlen0=>?_)
 refine AC.goes ttk 1 rfl ?_
 refine AC.goes ttk 1 rfl ?_
 refine AC.seq ?_
 refine AC.go ttk 1 rfl ?_
 refine AL.vl (g_lenM rfl rfl rfl rfl rfl Try.underlying44) rfl ?_
 refine AL.runs ttk 1 rfl ?_
 refine AL.nx ?_
 refine AC.block ?_
 refine AC.loop (β:=Nat) (fun (q:Nat)=>⟨[(0,(aC (vlE l))),(2,(aC (.p 0 0 0 0))),(3,(aI (sumE (l.take q)))),(6,(aC (vlE l))),(7,(aI (↑l.length:Int))),(8,(aI (↑q:Int)))],[(0,(.box 50 [(cI 0),(cI 0)]))],1⟩) (fun (q:Nat)=>q<=l.length/\scan (bErr l) 0 l.length=scan (bErr l) q (l.length - q)/\(q:Int) - 1<=lastA l q/\lastA l q<=57/\-1000000000000 * (q:Int)<=sumE (l.take q)/\sumE (l.take q)<=1000000000000 * (q:Int)) (fun (q:Nat)=>l.length - q) 0 ?_ ?_ ?_
 ·(have h1:lastA l 0=-1:=rfl);(have h2:sumE (l.take 0)=0:=rfl);exact ⟨by omega,rfl,by omega,by omega⟩
 ·exact Weak.ren id (by refine ⟨?_,?_,?_,?_,?_,?_,trivial⟩<;>first|rfl|(simp only [mps];done)|(congr 3;omega)|(congr 4;omega)|(simp only [lns];rfl)) (⟨by first|rfl|(simp only [mps];done)|(congr 3;omega)|(congr 4;omega)|(simp only [lns];rfl),trivial⟩) rfl
 rintro q ⟨hi0_0,hi0_1,hi0_2,hi0_3⟩
 refine AC.goes ttk 1 rfl ?_
 refine AC.seq ?_
 refine AC.cond rfl (fun hc1=>?_) (fun hc1=>?_)
 ·
  have hc1':=of_decide_eq_true hc1
  refine AC.sk ?_
  refine AC.seq ?_
  refine AC.block ?_
  refine AC.go ttk 1 rfl ?_
  obtain ⟨x1,hx1⟩:=exget (xs:=l) (i:=q) (by first|omega|(simp;done)|(simp;omega))
  refine AL.vl (g_indexQ (i:=q) rfl rfl rfl Try.underlying44 sz115 (by first|omega|(simp;done)|(simp;omega)) (getmap hx1)) rfl ?_
  refine AL.runs ttk 4 rfl ?_
  refine AL.nx ?_
  refine AC.seq ?_
  refine AC.block ?_
  refine AC.cutB 13 ((((decide (x1.account < 0))||(decide (x1.account>=58)))||(decide (x1.sum < (-1000000000000))))||(decide (x1.sum > 1000000000000))) ?_ ?_
  ·
   refine AC.region ?_
   refine AL.runs ttk 4 rfl ?_
   refine AL.dec (t:=17) rfl (fun hb2=>?_) (fun hb2=>?_)
   ·
    have hb2':=of_decide_eq_true hb2
    refine AL.runs ttk 15 rfl ?_
    refine AL.nx ?_
    exact Weak.popB 20 rfl rfl (by first|(simp [hb2];done)|(simp_all;done)|(exfalso;simp_all;done)|(simp_all;omega)) rfl
   have hb2':=of_decide_eq_false hb2
   refine AL.runs ttk 5 rfl ?_
   refine AL.dec (t:=22) rfl (fun hb3=>?_) (fun hb3=>?_)
   ·
    have hb3':=of_decide_eq_true hb3
    refine AL.runs ttk 10 rfl ?_
    refine AL.nx ?_
    exact Weak.popB 21 rfl rfl (by first|(simp [hb2,hb3];done)|(simp_all;done)|(exfalso;simp_all;done)|(simp_all;omega)) rfl
   have hb3':=of_decide_eq_false hb3
   refine AL.runs ttk 5 rfl ?_
   refine AL.dec (t:=27) rfl (fun hb4=>?_) (fun hb4=>?_)
   ·
    have hb4':=of_decide_eq_true hb4
    refine AL.runs ttk 5 rfl ?_
    refine AL.nx ?_
    exact Weak.popB 22 rfl rfl (by first|(simp [hb2,hb3,hb4];done)|(simp_all;done)|(exfalso;simp_all;done)|(simp_all;omega)) rfl
   have hb4':=of_decide_eq_false hb4
   refine AL.runs ttk 5 rfl ?_
   refine AL.nx ?_
   exact Weak.popB 22 rfl rfl (by first|(simp [hb2,hb3,hb4];done)|(simp_all;done)|(exfalso;simp_all;done)|(simp_all;omega)) rfl
  refine AC.cond rfl (fun hc5=>?_) (fun hc5=>?_)
  ·
   have hc5':=hc5;try simp only [sumB,dns] at hc5'
   refine AC.goes ttk 3 rfl ?_
   refine AC.ret ?_
   refine block_ret ?_
   refine then_ret ?_
   refine block_ret ?_
   refine then_ret ?_
   refine then_ret ?_
   refine block_ret ?_
   refine then_ret ?_
   have hX:wrongB l=(⟨3,(↑q:Int)⟩:Fault):=by
     (have hb:badE x1:=by unfold badE;omega);(have h0:=scan_bad (e:=bErr l) (q:=q) (n:=l.length) (by omega) (by rw [bErr_some hx1,if_pos hb]) (by decide:(3:Int)≠0));(unfold wrongB;rw [hi0_1,h0];rfl)
   rw [hX] at hr;clear hX
   subst hr
   refine retQ_go ttk [0] 0 rfl rfl rfl rfl rfl rfl ?_ ?_
   all_goals first|rfl|(simp [ufs];done)|(simp [ufs];omega)
  have hc5':=hc5;try simp only [sumB,dns] at hc5'
  refine AC.seq ?_
  rcases Bool.eq_false_or_eq_true (decide ((↑q:Int) > 0)) with hb6|hb6
  ·
   have hb6':=of_decide_eq_true hb6
   obtain ⟨x2,hx2⟩:=exget (xs:=l) (i:=(q) - 1) (by first|omega|(simp;done)|(simp;omega))
   rcases Bool.eq_false_or_eq_true (decide (x2.account>=x1.account)) with hb7|hb7
   ·
    have hb7':=of_decide_eq_true hb7
    refine AC.drawP [0,2,3,6,7,8,5,4] [1,0] mixed rfl rfl ?_
    refine PD.runs (kn:=[(36,true)]) ttk 5 rfl ⟨hb6,trivial⟩ ?_
    refine PD.op (n':=2) [39,37] [] rfl rfl (.inl ⟨(Wanted.yes rfl rfl rfl),GOp.cast (g_binI rfl rfl rfl (wrap_ok (by first|omega|(simp;done)|(simp;omega)))) rfl⟩) rfl ?_
    refine PD.op (n':=2) [38,40,37] [] rfl rfl (.inl ⟨(Wanted.yes rfl rfl rfl),GOp.cast (g_indexQ (i:=(q) - 1) rfl rfl rfl Try.underlying44 sz115 (by first|omega|(simp;done)|(simp;omega)) (getmap hx2)) rfl⟩) rfl ?_
    refine PD.runs (kn:=[(46,true)]) ttk 12 rfl ⟨hb7,trivial⟩ ?_
    refine PD.fin [1,0] rfl rfl rfl rfl (by kernel_rfl) ?_
    refine AL.nx ?_
    refine AC.cond rfl (fun _=>?_) (fun hno=>by cases hno)
    refine AC.goes ttk 3 rfl ?_
    refine AC.ret ?_
    refine block_ret ?_
    refine then_ret ?_
    refine block_ret ?_
    refine then_ret ?_
    refine then_ret ?_
    refine block_ret ?_
    refine then_ret ?_
    have hX:wrongB l=(⟨2,(↑q:Int)⟩:Fault):=by
      (have hb:¬badE x1:=by unfold badE;omega);(have hla:=lastA_pos (by omega) hx2);(have h0:=scan_bad (e:=bErr l) (q:=q) (n:=l.length) (by omega) (by rw [bErr_some hx1,if_neg hb,if_pos (by omega)]) (by decide:(2:Int)≠0));(unfold wrongB;rw [hi0_1,h0];rfl)
    rw [hX] at hr;clear hX
    subst hr
    refine retQ_go ttk [0] 0 rfl rfl rfl rfl rfl rfl ?_ ?_
    all_goals first|rfl|(simp [ufs];done)|(simp [ufs];omega)
   have hb7':=of_decide_eq_false hb7
   refine AC.drawP [0,2,3,6,7,8,5,4] [1,0] mixed rfl rfl ?_
   refine PD.runs (kn:=[(36,true)]) ttk 5 rfl ⟨hb6,trivial⟩ ?_
   refine PD.op (n':=2) [39,37] [] rfl rfl (.inl ⟨(Wanted.yes rfl rfl rfl),GOp.cast (g_binI rfl rfl rfl (wrap_ok (by first|omega|(simp;done)|(simp;omega)))) rfl⟩) rfl ?_
   refine PD.op (n':=2) [38,40,37] [] rfl rfl (.inl ⟨(Wanted.yes rfl rfl rfl),GOp.cast (g_indexQ (i:=(q) - 1) rfl rfl rfl Try.underlying44 sz115 (by first|omega|(simp;done)|(simp;omega)) (getmap hx2)) rfl⟩) rfl ?_
   refine PD.runs (kn:=[(46,false)]) ttk 12 rfl ⟨hb7,trivial⟩ ?_
   refine PD.fin [1,0] rfl rfl rfl rfl (by kernel_rfl) ?_
   refine AL.nx ?_
   refine AC.cond rfl (fun hc9=>?_) (fun hc9=>?_)
   ·
    have hc9':=of_decide_eq_true hc9
    refine AC.goes ttk 3 rfl ?_
    refine AC.ret ?_
    refine block_ret ?_
    refine then_ret ?_
    refine block_ret ?_
    refine then_ret ?_
    refine then_ret ?_
    refine block_ret ?_
    refine then_ret ?_
    have hX:wrongB l=(⟨2,(↑q:Int)⟩:Fault):=by
      (have hb:¬badE x1:=by unfold badE;omega);(have hla:=lastA_pos (by omega) hx2);(have h0:=scan_bad (e:=bErr l) (q:=q) (n:=l.length) (by omega) (by rw [bErr_some hx1,if_neg hb,if_pos (by omega)]) (by decide:(2:Int)≠0));(unfold wrongB;rw [hi0_1,h0];rfl)
    rw [hX] at hr;clear hX
    subst hr
    refine retQ_go ttk [0] 0 rfl rfl rfl rfl rfl rfl ?_ ?_
    all_goals first|rfl|(simp [ufs];done)|(simp [ufs];omega)
   have hc9':=of_decide_eq_false hc9
   refine AC.skip ?_
   refine block_ok ?_
   refine then_ok ?_
   refine AC.region ?_
   refine AL.runs ttk 3 rfl ?_
   refine AL.vl (g_binI rfl rfl rfl (wrap_ok (by first|omega|(simp;done)|(simp;omega)))) rfl ?_
   refine AL.runs ttk 1 rfl ?_
   refine AL.nil ?_
   refine block_ok ?_
   refine then_ok ?_
   refine AC.region ?_
   refine AL.vl (g_binI rfl rfl rfl (wrap_ok (by first|omega|(simp;done)|(simp;omega)))) rfl ?_
   refine AL.runs ttk 1 rfl ?_
   refine AL.nx ?_
   refine ⟨q+1,⟨by omega,by rw [hi0_1];exact scan_ok (by omega) (by have hla:=lastA_pos (by omega) hx2;rw [bErr_some hx1,if_neg (by unfold badE;omega),if_neg (by omega)]),by rw [lastA_succ hx1];have hla:=lastA_pos (by omega) hx2;omega,by rw [lastA_succ hx1,sumE_take hx1];omega⟩,by first|omega|(simp;done)|(simp;omega),Weak.ren id (by refine ⟨?_,?_,?_,?_,?_,?_,trivial⟩<;>first|rfl|(simp only [mps];done)|(congr 3;omega)|(congr 4;omega)|(simp only [lns];rfl)|(rw [sumE_take hx1];rfl)) (⟨by first|rfl|(simp only [mps];done)|(congr 3;omega)|(congr 4;omega)|(simp only [lns];rfl),trivial⟩) rfl⟩
  have hb6':=of_decide_eq_false hb6
  refine AC.drawP [0,2,3,6,7,8,5,4] [1,0] mixed rfl rfl ?_
  refine PD.runs (kn:=[(36,false)]) ttk 19 rfl ⟨hb6,trivial⟩ ?_
  refine PD.fin [1,0] rfl rfl rfl rfl (by kernel_rfl) ?_
  refine AL.nx ?_
  refine AC.cond rfl (fun hc10=>?_) (fun hc10=>?_)
  ·
   have hc10':=of_decide_eq_true hc10
   refine AC.goes ttk 3 rfl ?_
   refine AC.ret ?_
   refine block_ret ?_
   refine then_ret ?_
   refine block_ret ?_
   refine then_ret ?_
   refine then_ret ?_
   refine block_ret ?_
   refine then_ret ?_
   have hX:wrongB l=(⟨2,(↑q:Int)⟩:Fault):=by
     (have hb:¬badE x1:=by unfold badE;omega);(have h0:=scan_bad (e:=bErr l) (q:=q) (n:=l.length) (by omega) (by rw [bErr_some hx1,if_neg hb,if_pos (by omega)]) (by decide:(2:Int)≠0));(unfold wrongB;rw [hi0_1,h0];rfl)
   rw [hX] at hr;clear hX
   subst hr
   refine retQ_go ttk [0] 0 rfl rfl rfl rfl rfl rfl ?_ ?_
   all_goals first|rfl|(simp [ufs];done)|(simp [ufs];omega)
  have hc10':=of_decide_eq_false hc10
  refine AC.skip ?_
  refine block_ok ?_
  refine then_ok ?_
  refine AC.region ?_
  refine AL.runs ttk 3 rfl ?_
  refine AL.vl (g_binI rfl rfl rfl (wrap_ok (by first|omega|(simp;done)|(simp;omega)))) rfl ?_
  refine AL.runs ttk 1 rfl ?_
  refine AL.nil ?_
  refine block_ok ?_
  refine then_ok ?_
  refine AC.region ?_
  refine AL.vl (g_binI rfl rfl rfl (wrap_ok (by first|omega|(simp;done)|(simp;omega)))) rfl ?_
  refine AL.runs ttk 1 rfl ?_
  refine AL.nx ?_
  refine ⟨q+1,⟨by omega,by rw [hi0_1];exact scan_ok (by omega) (by have hla:lastA l q=-1:=(by unfold lastA;rw [if_pos (by omega)]);rw [bErr_some hx1,if_neg (by unfold badE;omega),if_neg (by omega)]),by rw [lastA_succ hx1];have hla:lastA l q=-1:=(by unfold lastA;rw [if_pos (by omega)]);omega,by rw [lastA_succ hx1,sumE_take hx1];omega⟩,by first|omega|(simp;done)|(simp;omega),Weak.ren id (by refine ⟨?_,?_,?_,?_,?_,?_,trivial⟩<;>first|rfl|(simp only [mps];done)|(congr 3;omega)|(congr 4;omega)|(simp only [lns];rfl)|(rw [sumE_take hx1];rfl)) (⟨by first|rfl|(simp only [mps];done)|(congr 3;omega)|(congr 4;omega)|(simp only [lns];rfl),trivial⟩) rfl⟩
 have hc1':=of_decide_eq_false hc1
 refine AC.exit ?_
 refine then_exit ?_
 refine then_exit ?_
 refine block_hit ?_
 refine then_ok ?_
 refine AC.seq ?_
 refine AC.goes ttk 2 rfl ?_
 refine AC.cond rfl (fun hc11=>?_) (fun hc11=>?_)
 ·
  have hc11':=of_decide_eq_true hc11
  refine AC.goes ttk 2 rfl ?_
  refine AC.ret ?_
  refine then_ret ?_
  have hX:wrongB l=(⟨8,0⟩:Fault):=by
    (obtain rfl:q=l.length:=by omega);rw [List.take_length] at *;(unfold wrongB;rw [hi0_1,scan_end (by omega)];rw [if_neg (by decide),if_pos (by omega)])
  rw [hX] at hr;clear hX
  subst hr
  refine retQ_go ttk [0] 0 rfl rfl rfl rfl rfl rfl ?_ ?_
  all_goals first|rfl|(simp [ufs];done)|(simp [ufs];omega)
 have hc11':=of_decide_eq_false hc11
 refine AC.sk ?_
 refine AC.goes ttk 2 rfl ?_
 refine AC.ret ?_
 have hX:wrongB l=(⟨0,0⟩:Fault):=by
   (obtain rfl:q=l.length:=by omega);rw [List.take_length] at *;(unfold wrongB;rw [hi0_1,scan_end (by omega)];rw [if_neg (by decide),if_neg (by omega)])
 rw [hX] at hr;clear hX
 subst hr
 refine retQ_go ttk [0] 0 rfl rfl rfl rfl rfl rfl ?_ ?_
 all_goals first|rfl|(simp [ufs];done)|(simp [ufs];omega)
end Go.Proofs.Ytegepioggeggaaa.Dev
namespace Go.Proofs.Ytegepioggeggaaa.Dev
open Go.RowKit


end Go.Proofs.Ytegepioggeggaaa.Dev
namespace Go.Proofs.Ytegepioggeggaaa.Dev
open Go.RowKit


theorem postB_go {l es:List Entry} (h0:(wrongB l).err=0) (h1:es.length<=10) (h2:∀ x∈es,¬badE x) (h3:sumE es=0):postB l es=match putAll l es with
    |some r=>(r,0)
    |none=>([],4):=by
  unfold postB
  rw [if_neg (by omega),if_neg (by omega),if_neg (fun ⟨x,hx,hb⟩=>h2 x hx hb),if_neg (by omega)]
  all_goals (cases putAll l es<;>rfl)
theorem nobad_all {es:List Entry} {q:Nat} (h:∀ x∈es.take q,¬badE x) (hq:es.length<=q):∀ x∈es,¬badE x:=by
  rwa [List.take_of_length_le hq] at h
theorem nobad_next {es:List Entry} {q:Nat} {x:Entry} (h:∀ x∈es.take q,¬badE x) (hx:es[q]?=some x) (hb:¬badE x):∀ x∈es.take (q+1),¬badE x:=by
  rw [take_snoc hx]
  intro y hy
  rcases List.mem_append.1 hy with hy|hy
  ·exact h y hy
  ·rw [List.mem_singleton.1 hy];exact hb
theorem sum_all {es:List Entry} {q:Nat} (hq:es.length<=q):sumE (es.take q)=sumE es:=by rw [List.take_of_length_le hq]
theorem put_end {l m es:List Entry} {q:Nat} (h:putAll l es=putAll m (es.drop q)) (hq:es.length<=q):putAll l es=some m:=by
  rw [h,List.drop_of_length_le hq];rfl
set_option maxRecDepth 100000 in
set_option maxHeartbeats 2000000 in
theorem c_book_Post (l es:List Entry) (r:List Entry) (e:Int) (hr:postB l es=(r,e)):Fn Try.prog 111 [(.c (vlE l)),(.c (vlE es))] (.t [(.c (.s 0 0 2 r.length)),(.c (cI e))]) [(0,(alE r))]:=by
 refine Fn.mk' 75 [(0,(aC (vlE l))),(1,(aC (vlE es)))] Try.func111 rfl rfl rfl rfl ?_
 intro W0 T0
 refine AC.len1 0 rfl (fun hlen0=>?_)
 refine AC.len1 1 rfl (fun hlen1=>?_)
 refine AC.goes ttk 2 rfl ?_
 refine AC.seq ?_
 refine AC.go ttk 1 rfl ?_
 obtain ⟨f0,hr0⟩:∃ (f0:Fault),wrongB l=f0:=⟨_,rfl⟩
 refine AL.cn 0 [] (g_call 0 (c_book_Wrong l f0 hr0) en33 rfl rfl ⟨⟨_,rfl,.c (.d _)⟩,trivial⟩ ⟨trivial,trivial,trivial⟩ trivial rfl rfl rfl rfl) rfl ?_
 refine AL.runs ttk 2 rfl ?_
 refine AL.nx ?_
 refine AC.goes ttk 3 rfl ?_
 refine AC.cond rfl (fun hc1=>?_) (fun hc1=>?_)
 ·
  have hc1':=of_decide_eq_true hc1
  refine AC.seq ?_
  refine AC.drawP [0,1,6] [0] mixed rfl rfl ?_
  refine PD.runs (kn:=[]) ttk 4 rfl trivial ?_
  refine PD.fin [0] rfl rfl rfl rfl (by kernel_rfl) ?_
  refine AL.nx ?_
  refine AC.ret ?_
  refine then_ret ?_
  refine retQ_weak (Weak.nil 4 115 2 (by decide) rfl) ?_
  have hX:postB l es=(([]:List Entry),f0.err):=by
    unfold postB;rw [if_pos (by rw [hr0];omega),hr0]
  rw [hX] at hr;clear hX
  simp only [Prod.mk.injEq] at hr;obtain ⟨rfl,rfl⟩:=hr
  refine retQ_go ttk [1] 1 rfl rfl rfl rfl rfl rfl ?_ ?_
  all_goals first|rfl|(simp [ufs];done)|(simp [ufs];omega)
 have hc1':=of_decide_eq_false hc1
 refine AC.sk ?_
 refine AC.seq ?_
 refine AC.go ttk 1 rfl ?_
 refine AL.vl (g_lenM rfl rfl rfl rfl rfl Try.underlying44) rfl ?_
 refine AL.runs ttk 1 rfl ?_
 refine AL.nx ?_
 refine AC.cond rfl (fun hc2=>?_) (fun hc2=>?_)
 ·
  have hc2':=of_decide_eq_true hc2
  refine AC.goes ttk 2 rfl ?_
  refine AC.ret ?_
  refine then_ret ?_
  refine retQ_weak (Weak.nil 4 115 2 (by decide) rfl) ?_
  have hX:postB l es=(([]:List Entry),5):=by
    unfold postB;rw [if_neg (by rw [hr0];omega),if_pos (by omega)]
  rw [hX] at hr;clear hX
  simp only [Prod.mk.injEq] at hr;obtain ⟨rfl,rfl⟩:=hr
  refine retQ_go ttk [1] 1 rfl rfl rfl rfl rfl rfl ?_ ?_
  all_goals first|rfl|(simp [ufs];done)|(simp [ufs];omega)
 have hc2':=of_decide_eq_false hc2
 refine AC.sk ?_
 refine AC.goes ttk 1 rfl ?_
 refine AC.seq ?_
 refine AC.go ttk 1 rfl ?_
 refine AL.vl (g_lenM rfl rfl rfl rfl rfl Try.underlying44) rfl ?_
 refine AL.runs ttk 1 rfl ?_
 refine AL.nx ?_
 refine AC.block ?_
 refine AC.loop (β:=Nat) (fun (q:Nat)=>⟨[(0,(aC (vlE l))),(1,(aC (vlE es))),(7,(aI (sumE (es.take q)))),(25,(aC (vlE es))),(26,(aI (↑es.length:Int))),(27,(aI (↑q:Int)))],[],0⟩) (fun (q:Nat)=>q<=es.length/\(∀ x∈es.take q,¬badE x)/\-1000000000000 * (q:Int)<=sumE (es.take q)/\sumE (es.take q)<=1000000000000 * (q:Int)) (fun (q:Nat)=>es.length - q) 0 ?_ ?_ ?_
 ·(have h2:sumE (es.take 0)=0:=rfl);exact ⟨by omega,by intro x hx;simp at hx,by omega⟩
 ·exact Weak.ren id (by refine ⟨?_,?_,?_,?_,?_,?_,trivial⟩<;>first|rfl|(simp only [mps];done)|(congr 3;omega)|(congr 4;omega)|(simp only [lns];rfl)) (trivial) rfl
 rintro q ⟨hi0_0,hi0_1,hi0_2⟩
 refine AC.goes ttk 1 rfl ?_
 refine AC.seq ?_
 refine AC.cond rfl (fun hc3=>?_) (fun hc3=>?_)
 ·
  have hc3':=of_decide_eq_true hc3
  refine AC.sk ?_
  refine AC.seq ?_
  refine AC.block ?_
  refine AC.sr ?_
  obtain ⟨x1,hx1⟩:=exget (xs:=es) (i:=q) (by first|omega|(simp;done)|(simp;omega))
  refine AL.vl (g_indexQ (i:=q) rfl rfl rfl Try.underlying44 sz115 (by first|omega|(simp;done)|(simp;omega)) (getmap hx1)) rfl ?_
  refine AL.runs ttk 3 rfl ?_
  refine AL.nx ?_
  refine AC.seq ?_
  refine AC.cutB 48 ((((decide (x1.account < 0))||(decide (x1.account>=58)))||(decide (x1.sum < (-1000000000000))))||(decide (x1.sum > 1000000000000))) ?_ ?_
  ·
   refine AC.region ?_
   refine AL.runs ttk 4 rfl ?_
   refine AL.dec (t:=34) rfl (fun hb4=>?_) (fun hb4=>?_)
   ·
    have hb4':=of_decide_eq_true hb4
    refine AL.runs ttk 14 rfl ?_
    refine AL.nx ?_
    exact Weak.popB 19 rfl rfl (by first|(simp [hb4];done)|(simp_all;done)|(exfalso;simp_all;done)|(simp_all;omega)) rfl
   have hb4':=of_decide_eq_false hb4
   refine AL.runs ttk 5 rfl ?_
   refine AL.dec (t:=39) rfl (fun hb5=>?_) (fun hb5=>?_)
   ·
    have hb5':=of_decide_eq_true hb5
    refine AL.runs ttk 9 rfl ?_
    refine AL.nx ?_
    exact Weak.popB 20 rfl rfl (by first|(simp [hb4,hb5];done)|(simp_all;done)|(exfalso;simp_all;done)|(simp_all;omega)) rfl
   have hb5':=of_decide_eq_false hb5
   refine AL.runs ttk 5 rfl ?_
   refine AL.dec (t:=44) rfl (fun hb6=>?_) (fun hb6=>?_)
   ·
    have hb6':=of_decide_eq_true hb6
    refine AL.runs ttk 4 rfl ?_
    refine AL.nx ?_
    exact Weak.popB 21 rfl rfl (by first|(simp [hb4,hb5,hb6];done)|(simp_all;done)|(exfalso;simp_all;done)|(simp_all;omega)) rfl
   have hb6':=of_decide_eq_false hb6
   refine AL.runs ttk 4 rfl ?_
   refine AL.nx ?_
   exact Weak.popB 21 rfl rfl (by first|(simp [hb4,hb5,hb6];done)|(simp_all;done)|(exfalso;simp_all;done)|(simp_all;omega)) rfl
  refine AC.cond rfl (fun hc7=>?_) (fun hc7=>?_)
  ·
   have hc7':=hc7;try simp only [sumB,dns] at hc7'
   refine AC.goes ttk 2 rfl ?_
   refine AC.ret ?_
   refine then_ret ?_
   refine block_ret ?_
   refine then_ret ?_
   refine then_ret ?_
   refine block_ret ?_
   refine then_ret ?_
   refine retQ_weak (Weak.nil 4 115 2 (by decide) rfl) ?_
   have hX:postB l es=(([]:List Entry),3):=by
     unfold postB;rw [if_neg (by rw [hr0];omega),if_neg (by omega),if_pos ⟨x1,List.mem_of_getElem? hx1,by unfold badE;omega⟩]
   rw [hX] at hr;clear hX
   simp only [Prod.mk.injEq] at hr;obtain ⟨rfl,rfl⟩:=hr
   refine retQ_go ttk [1] 1 rfl rfl rfl rfl rfl rfl ?_ ?_
   all_goals first|rfl|(simp [ufs];done)|(simp [ufs];omega)
  have hc7':=hc7;try simp only [sumB,dns] at hc7'
  refine AC.sk ?_
  refine AC.region ?_
  refine AL.runs ttk 3 rfl ?_
  refine AL.vl (g_binI rfl rfl rfl (wrap_ok (by first|omega|(simp;done)|(simp;omega)))) rfl ?_
  refine AL.runs ttk 1 rfl ?_
  refine AL.nil ?_
  refine block_ok ?_
  refine then_ok ?_
  refine AC.region ?_
  refine AL.vl (g_binI rfl rfl rfl (wrap_ok (by first|omega|(simp;done)|(simp;omega)))) rfl ?_
  refine AL.runs ttk 1 rfl ?_
  refine AL.nx ?_
  refine ⟨q+1,⟨by omega,nobad_next hi0_1 hx1 (by unfold badE;omega),by rw [sumE_take hx1];omega⟩,by first|omega|(simp;done)|(simp;omega),Weak.ren id (by refine ⟨?_,?_,?_,?_,?_,?_,trivial⟩<;>first|rfl|(simp only [mps];done)|(congr 3;omega)|(congr 4;omega)|(simp only [lns];rfl)|(rw [sumE_take hx1];rfl)) (trivial) rfl⟩
 have hc3':=of_decide_eq_false hc3
 refine AC.exit ?_
 refine then_exit ?_
 refine then_exit ?_
 refine block_hit ?_
 refine then_ok ?_
 refine AC.seq ?_
 refine AC.goes ttk 2 rfl ?_
 refine AC.cond rfl (fun hc8=>?_) (fun hc8=>?_)
 ·
  have hc8':=of_decide_eq_true hc8
  refine AC.goes ttk 2 rfl ?_
  refine AC.ret ?_
  refine then_ret ?_
  refine retQ_weak (Weak.nil 4 115 2 (by decide) rfl) ?_
  have hX:postB l es=(([]:List Entry),8):=by
    (have hs:=sum_all (es:=es) (q:=q) (by omega));(have hnb:=nobad_all hi0_1 (by omega));unfold postB;rw [if_neg (by rw [hr0];omega),if_neg (by omega),if_neg (fun ⟨x,hx,hb⟩=>hnb x hx hb),if_pos (by omega)]
  rw [hX] at hr;clear hX
  simp only [Prod.mk.injEq] at hr;obtain ⟨rfl,rfl⟩:=hr
  refine retQ_go ttk [0] 1 rfl rfl rfl rfl rfl rfl ?_ ?_
  all_goals first|rfl|(simp [ufs];done)|(simp [ufs];omega)
 have hc8':=of_decide_eq_false hc8
 refine AC.sk ?_
 have h0:(wrongB l).err=0:=by rw [hr0];omega
 have hR:Right l:=(wrongB_iff.1 h0).1
 have hRl:=right_len hR
 have hs:=sum_all (es:=es) (q:=q) (by omega)
 have hnb:=nobad_all hi0_1 (by omega)
 refine AC.go ttk 1 rfl ?_
 refine AL.cn 1 [0] (g_call 0 (c_Clone_Entry l (by first|omega|(simp;done)|(simp;omega))) en115 rfl rfl ⟨⟨_,rfl,.c (.d _)⟩,trivial⟩ trivial ⟨(fun _ _ _ _=>trivial),trivial⟩ rfl rfl rfl rfl) rfl ?_
 refine AL.runs ttk 1 rfl ?_
 refine AL.nx ?_
 refine AC.seq ?_
 refine AC.go ttk 1 rfl ?_
 refine AL.vl (g_lenM rfl rfl rfl rfl rfl Try.underlying44) rfl ?_
 refine AL.runs ttk 1 rfl ?_
 refine AL.nx ?_
 refine AC.block ?_
 refine AC.loop (β:=Nat×List Entry) (fun (p:Nat×List Entry)=>match p with|(p,m)=>⟨[(0,(aC (vlE l))),(1,(aC (vlE es))),(7,(aI (sumE (es.take q)))),(25,(aC (vlE es))),(26,(aI (↑es.length:Int))),(27,(aI (↑q:Int))),(10,(aC (.s 0 0 2 m.length))),(58,(aC (vlE es))),(59,(aI (↑es.length:Int))),(60,(aI (↑p:Int)))],[(0,(alE m))],1⟩) (fun (p:Nat×List Entry)=>match p with|(p,m)=>p<=es.length/\Right m/\putAll l es=putAll m (es.drop p)) (fun (p:Nat×List Entry)=>match p with|(p,m)=>es.length - p) (0,l) ?_ ?_ ?_
 ·exact ⟨by omega,hR,rfl⟩
 ·exact Weak.ren id (by refine ⟨?_,?_,?_,?_,?_,?_,?_,?_,?_,?_,trivial⟩<;>first|rfl|(simp only [mps];done)|(congr 3;omega)|(congr 4;omega)|(simp only [lns];rfl)) (⟨by first|rfl|(simp only [mps];done)|(congr 3;omega)|(congr 4;omega)|(simp only [lns];rfl),trivial⟩) rfl
 rintro ⟨p,m⟩ ⟨hi1_0,hi1_1,hi1_2⟩
 refine AC.goes ttk 1 rfl ?_
 refine AC.seq ?_
 refine AC.cond rfl (fun hc9=>?_) (fun hc9=>?_)
 ·
  have hc9':=of_decide_eq_true hc9
  refine AC.sk ?_
  refine AC.seq ?_
  refine AC.block ?_
  refine AC.sr ?_
  obtain ⟨x1,hx1⟩:=exget (xs:=es) (i:=p) (by first|omega|(simp;done)|(simp;omega))
  have hx1n:=hnb x1 (List.mem_of_getElem? hx1)
  have hx1b:0<=x1.account/\x1.account<=57/\-1000000000000<=x1.sum/\x1.sum<=1000000000000:=by unfold badE at hx1n;omega
  refine AL.vl (g_indexQ (i:=p) rfl rfl rfl Try.underlying44 sz115 (by first|omega|(simp;done)|(simp;omega)) (getmap hx1)) rfl ?_
  refine AL.runs ttk 3 rfl ?_
  refine AL.nx ?_
  refine AC.go ttk 2 rfl ?_
  obtain ⟨r1,g1,hr1⟩:∃ (r1:List Entry) (g1:Bool),putE m x1=(r1,g1):=⟨_,_,rfl⟩
  obtain ⟨hp1,hg1⟩:=Prod.mk.inj hr1
  refine AL.cn 3 [2,1] (g_callM id (rhoOf [2]) (c_put m x1 (by exact (show Right _ by assumption).up) (by (have:=right_len (show Right _ by assumption);omega)) (by (intro y hy;have:=(show Right _ by assumption).ok y hy;omega)) (by (unfold badE at *;omega)) r1 g1 hr1) en116 rfl rfl ⟨⟨_,rfl,.inl ⟨rfl,rfl⟩⟩,⟨_,rfl,.inr (.g ⟨.d _,.d _,trivial⟩)⟩,trivial⟩ ⟨rfl,trivial⟩ rfl rfl rfl rfl rfl rfl ⟨trivial,trivial,trivial⟩ ⟨(fun _ _ _ _=>trivial),trivial⟩ rfl rfl rfl rfl) rfl ?_
  refine AL.runs ttk 5 rfl ?_
  refine AL.nx ?_
  refine AC.seq ?_
  refine AC.goes ttk 2 rfl ?_
  refine AC.cond rfl (fun hc10=>?_) (fun hc10=>?_)
  ·
   have hc10':=hc10;try simp only [sumB,dns] at hc10'
   refine AC.goes ttk 2 rfl ?_
   refine AC.ret ?_
   refine then_ret ?_
   refine block_ret ?_
   refine then_ret ?_
   refine then_ret ?_
   refine block_ret ?_
   refine then_ret ?_
   refine retQ_weak (Weak.nil 4 115 2 (by decide) rfl) ?_
   have hX:postB l es=(([]:List Entry),4):=by
     rw [postB_go h0 (by omega) hnb (by omega),hi1_2,putAll_drop hx1,if_neg (by simp_all)]
   rw [hX] at hr;clear hX
   simp only [Prod.mk.injEq] at hr;obtain ⟨rfl,rfl⟩:=hr
   refine retQ_go ttk [3] 1 rfl rfl rfl rfl rfl rfl ?_ ?_
   all_goals first|rfl|(simp [ufs];done)|(simp [ufs];omega)
  have hc10':=hc10;try simp only [sumB,dns] at hc10'
  refine AC.sk ?_
  refine AC.region ?_
  refine AL.runs ttk 2 rfl ?_
  refine AL.nil ?_
  refine block_ok ?_
  refine then_ok ?_
  refine AC.region ?_
  refine AL.vl (g_binI rfl rfl rfl (wrap_ok (by first|omega|(simp;done)|(simp;omega)))) rfl ?_
  refine AL.runs ttk 1 rfl ?_
  refine AL.nx ?_
  refine ⟨(p+1,r1),⟨by omega,by rw [<-hp1];exact setE_right hi1_1 (by omega) (goodE_iff.1 (by rw [hg1];simp_all)),by rw [hi1_2,putAll_drop hx1,if_pos (by rw [hg1];simp_all),hp1]⟩,by first|omega|(simp;done)|(simp;omega),Weak.ren (fun k=>if k=0 then 2 else k) (by refine ⟨?_,?_,?_,?_,?_,?_,?_,?_,?_,?_,trivial⟩<;>first|rfl|(simp only [mps];done)|(congr 3;omega)|(congr 4;omega)|(simp only [lns];rfl)) (⟨by first|rfl|(simp only [mps];done)|(congr 3;omega)|(congr 4;omega)|(simp only [lns];rfl),trivial⟩) rfl⟩
 have hc9':=of_decide_eq_false hc9
 refine AC.exit ?_
 refine then_exit ?_
 refine then_exit ?_
 refine block_hit ?_
 refine then_ok ?_
 refine AC.goes ttk 3 rfl ?_
 refine AC.ret ?_
 have hX:postB l es=(m,0):=by
   rw [postB_go h0 (by omega) hnb (by omega),put_end hi1_2 (by omega)]
 rw [hX] at hr;clear hX
 simp only [Prod.mk.injEq] at hr;obtain ⟨rfl,rfl⟩:=hr
 refine retQ_go ttk [0] 1 rfl rfl rfl rfl rfl rfl ?_ ?_
 all_goals first|rfl|(simp [ufs];done)|(simp [ufs];omega)
end Go.Proofs.Ytegepioggeggaaa.Dev
namespace Go.Proofs.Ytegepioggeggaaa.Dev
open Go.RowKit


end Go.Proofs.Ytegepioggeggaaa.Dev
namespace Go.Proofs.Ytegepioggeggaaa.Dev
open Go.RowKit


def moveB (l:List Entry) (src dst n:Int):List Entry×Int:=if n < 0\/n > 1000000000000 then ([],3) else postB l [⟨src,0 - n⟩,⟨dst,n⟩]
theorem postB_ok {l es r : List Entry} (h : postB l es = (r, 0)) : (wrongB l).err = 0 ∧ es.length ≤ 10 ∧ (∀ x ∈ es, ¬ badE x) ∧ sumE es = 0 ∧ putAll l es = some r := by
  unfold postB at h
  split at h
  · rename_i h0; injection h with _ h1; exact absurd h1 h0
  rename_i h0
  split at h
  · injection h with _ h1; cases h1
  rename_i h1
  split at h
  · injection h with _ h1; cases h1
  rename_i h2
  split at h
  · injection h with _ h1; cases h1
  rename_i h3
  split at h
  · rename_i r' hr
    injection h with h4 _
    subst h4
    exact ⟨by omega, by omega, fun x hx hb => h2 ⟨x, hx, hb⟩, by omega, hr⟩
  · injection h with _ h1; cases h1
theorem right_posted {l es r:List Entry} (h:postB l es=(r,0)) (a:Int):(wrongB r).err=0/\getE r a=getE l a+givenE a es:=by
  obtain ⟨h1,h2,h3,h4,h5⟩:=postB_ok h
  obtain ⟨h6,h7⟩:=wrongB_iff.1 h1
  obtain ⟨h8,h9⟩:=putAll_right h6 h3 h5
  exact ⟨wrongB_iff.2 ⟨h8,by omega⟩,putAll_get h6.up h5⟩

set_option maxRecDepth 100000 in
set_option maxHeartbeats 1000000 in
theorem c_book_Move (l:List Entry) (src dst n:Int) (r:List Entry) (e:Int) (hr:moveB l src dst n=(r,e)):Fn Try.prog 98 [(.c (vlE l)),(.c (cI src)),(.c (cI dst)),(.c (cI n))] (.t [(.c (.s 0 0 2 r.length)),(.c (cI e))]) [(0,(alE r))]:=by
 refine Fn.mk' 28 [(0,(aC (vlE l))),(1,(aI src)),(2,(aI dst)),(3,(aI n))] Try.func98 rfl rfl rfl rfl ?_
 intro W0 T0
 refine AC.len1 0 rfl (fun hlen0=>?_)
 refine AC.goes ttk 2 rfl ?_
 refine AC.seq ?_
 refine AC.cutB 15 ((decide (n < 0))||(decide (n > 1000000000000))) ?_ ?_
 ·
  refine AC.region ?_
  refine AL.runs ttk 3 rfl ?_
  refine AL.dec (t:=12) rfl (fun hb1=>?_) (fun hb1=>?_)
  ·
   have hb1':=of_decide_eq_true hb1
   refine AL.runs ttk 3 rfl ?_
   refine AL.nx ?_
   exact Weak.popB 7 rfl rfl (by first|(simp [hb1];done)|(simp_all;done)|(exfalso;simp_all;done)|(simp_all;omega)) rfl
  have hb1':=of_decide_eq_false hb1
  refine AL.runs ttk 3 rfl ?_
  refine AL.nx ?_
  exact Weak.popB 7 rfl rfl (by first|(simp [hb1];done)|(simp_all;done)|(exfalso;simp_all;done)|(simp_all;omega)) rfl
 refine AC.cond rfl (fun hc2=>?_) (fun hc2=>?_)
 ·
  have hc2':=hc2;try simp only [sumB,dns] at hc2'
  refine AC.goes ttk 2 rfl ?_
  refine AC.ret ?_
  refine then_ret ?_
  refine retQ_weak (Weak.nil 8 115 2 (by decide) rfl) ?_
  have hX:moveB l src dst n=(([]:List Entry),3):=by
    unfold moveB;rw [if_pos (by omega)]
  rw [hX] at hr;clear hX
  simp only [Prod.mk.injEq] at hr;obtain ⟨rfl,rfl⟩:=hr
  refine retQ_go ttk [0] 1 rfl rfl rfl rfl rfl rfl ?_ ?_
  all_goals first|rfl|(simp [ufs];done)|(simp [ufs];omega)
 have hc2':=hc2;try simp only [sumB,dns] at hc2'
 refine AC.sk ?_
 refine AC.go ttk 3 rfl ?_
 refine AL.vl (g_negI rfl rfl (wrap_ok (by first|omega|(simp;done)|(simp;omega)))) rfl ?_
 refine AL.runs ttk 4 rfl ?_
 refine AL.cn 1 [0] (g_lit (ys:=[(0,(.g [(cI src),(cI (0 - n))])),(1,(.g [(cI dst),(cI n)]))]) (rows:=([(⟨src,0 - n⟩:Entry),(⟨dst,n⟩:Entry)]).map rEntry) 0 sl44 rfl (by decide) ⟨⟨rfl,rfl⟩,⟨rfl,rfl⟩,trivial⟩ rfl rfl rfl rfl) rfl ?_
 obtain ⟨r0,e0,hr0⟩:∃ (r0:List Entry) (e0:Int),postB l ([(⟨src,0 - n⟩:Entry),(⟨dst,n⟩:Entry)])=(r0,e0):=⟨_,_,rfl⟩
 refine AL.cn 2 [1,0] (g_callE 1 [0] (c_book_Post l ([(⟨src,0 - n⟩:Entry),(⟨dst,n⟩:Entry)]) r0 e0 hr0) en111 rfl rfl ⟨⟨_,rfl,.c (.d _)⟩,⟨_,rfl,.c (.s rfl (by decide) (by first|omega|(simp;done)|(simp;omega)))⟩,trivial⟩ ⟨trivial,rfl,trivial⟩ ⟨(isv_rEntry _),trivial⟩ rfl rfl rfl rfl) rfl ?_
 refine AL.runs ttk 4 rfl ?_
 refine AL.nx ?_
 refine AC.ret ?_
 have hX:moveB l src dst n=(r0,e0):=by
   unfold moveB;rw [if_neg (by omega)];assumption
 rw [hX] at hr;clear hX
 simp only [Prod.mk.injEq] at hr;obtain ⟨rfl,rfl⟩:=hr
 refine retQ_go ttk [1] 1 rfl rfl rfl rfl rfl rfl ?_ ?_
 all_goals first|rfl|(simp [ufs];done)|(simp [ufs];omega)
end Go.Proofs.Ytegepioggeggaaa.Dev
