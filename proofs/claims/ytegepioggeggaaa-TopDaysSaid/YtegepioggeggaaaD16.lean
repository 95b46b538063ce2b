/- A part of the proof: PlDays, Chunk1, Parse1, Sh40, Day7, Day2. No condition. -/
import Derived.Test.YtegepioggeggaaaD15
import Derived.RangeFuncNested
import Derived.RangeFuncBound
import Derived.Shelf.RegionOpen
import Derived.OwnWalkIn
import Derived.LoopNIn
import Derived.LoopIn
set_option linter.unusedVariables false
set_option linter.unusedSimpArgs false
set_option maxHeartbeats 4000000
set_option maxRecDepth 100000
namespace Go.Proofs.Ytegepioggeggaaa.Dev
open Go Go.RowKit Go.Shelf
open Go.RowKit
structure BB (r:List Entry) (B:Int):Prop where
 right:(du r).err=0
 b:∀ x,-B<=cE r x/\cE r x<=B
theorem BB.step {r r':List Entry} {B s:Int} (H:BB r B) (hs:0<=s) {dst src:Int} (hw:(du r').err=0) (hg:∀ x,cE r' x=cE r x+(if x=dst then s else 0) - (if x=src then s else 0)):BB r' (B+s):=
 ⟨hw,fun x=>by have:=H.b x;rw [hg];(repeat' split)<;>omega⟩
structure KK (kind:Int) (k:List aT) (m:Int):Prop where
 all:∀ t∈k,t.kind=kind/\t.bc=0/\1<=t.sum/\t.sum<=1000000
 wA:lM k 0
 sum:eY k=m
 right:(ct ⟨k.length,k⟩).err=0
def kk (kind:Int) (k:List aT) (n:Int):List aT:=k++[⟨(k.length:Int)+1,kind,0,n⟩]
theorem wJ (kind:Int) (k:List aT) (n:Int):(kk kind k n).length=k.length+1:=by simp [kk]
theorem KK.snoc {kind:Int} {k:List aT} {m n:Int} (H:KK kind k m) (hk:1<=kind/\kind<=3) (hl:k.length < 40) (hn:1<=n/\n<=1000000):fL ⟨k.length,k⟩ ⟨0,kind,0,n⟩=(⟨(kk kind k n).length,kk kind k n⟩,0)/\KK kind (kk kind k n) (m+n):=by
 obtain ⟨h1,h2⟩:=Ba (k:=kind) (n:=0) (v:=n) H.right hl (by dsimp only;omega) hk (by omega) hn
 have e:((kk kind k n).length:Int)=k.length+1:=by rw [wJ];rfl
 refine ⟨by rw [e];exact h1,fun t ht=>?_,pv H.wA (by dsimp only;omega),by unfold kk;rw [ux,H.sum],by rw [e];exact h2⟩
 rcases List.mem_append.1 ht with ht|ht
 ·exact H.all t ht
 ·rw [List.mem_singleton.1 ht];exact ⟨rfl,rfl,hn⟩
theorem tC:∀ {l:List aT},(∀ t∈l,1<=t.sum)->0<=eY l
 |[],_=>Int.le_refl _
 |x::l,h=>by
  have h1:=h x List.mem_cons_self
  have h2:=tC (l:=l) fun z hz=>h z (List.mem_cons_of_mem _ hz)
  rw [eY];omega
theorem vP {ax:List bF} {a:bF} {due:List Int} {c2:bE} {u:List db} {h:Int} (ha:ax[0]?=some a) (hc:a.aO=0) (hu:∀ m,0<=m/\m<=100000->cA ⟨m,h,PT,u⟩=0):∀ (k:List aT) (m B:Int) (r:List Entry),(∀ t∈k,t.kind=2/\t.bc=0/\1<=t.sum/\t.sum<=1000000)->0<=m->m+eY k<=100000->B+eY k<=1000000000->BB r B->
  ∃ r',kF ax k due [⟨m,h,PT,u⟩,c2] r due [⟨m+eY k,h,PT,u⟩,c2] r'/\BB r' (B+eY k)
 |[],m,B,r,_,_,_,_,hG=>⟨r,by simp only [eY,Int.add_zero];exact .nil,by simpa [eY] using hG⟩
 |t::k,m,B,r,hk,hm,hs,hB,hG=>by
  obtain ⟨q1,q2,q3,q4⟩:=hk t List.mem_cons_self
  have hk':=fun x hx=>hk x (List.mem_cons_of_mem t hx)
  have hnn:=tC fun x hx=>(hk' x hx).2.2.1
  rw [eY] at hs hB
  have b1:=hG.b 1;have b2:=hG.b 10
  obtain ⟨r1,t1,w1,g1⟩:=AD (ax:=ax) (due:=due) (cs:=[⟨m,h,PT,u⟩,c2]) (bk:=r) (num:=t.number) (k:=0) (s:=t.sum) (a:=a) (c:=⟨m,h,PT,u⟩) ha (by omega) (by rw [hc];rfl) (hu m (by omega)) (by dsimp only;omega) ⟨q3,q4⟩ hG.right (by omega) (by rw [hc];show cE r 10+t.sum<=1000000000000;omega)
  rw [hc] at g1 t1
  obtain ⟨r',T',G'⟩:=vP (due:=due) (c2:=c2) ha hc hu k (m+t.sum) (B+t.sum) r1 hk' (by omega) (by omega) (by omega) (hG.step (by omega) w1 g1)
  rw [show m+eY (t::k)=m+t.sum+eY k by rw [eY];omega,show B+eY (t::k)=B+t.sum+eY k by rw [eY];omega]
  refine ⟨r',.cons ?_ T',G'⟩
  have ht:t=⟨t.number,2,0,t.sum⟩:=by cases t;simp_all
  rw [ht]
  exact t1
theorem ur {ax:List bF} {a:bF} {cs:List bE} (ha:ax[0]?=some a) (hc:a.aD=1):∀ (k:List aT) (v B:Int) (r:List Entry),(∀ t∈k,t.kind=1/\t.bc=0/\1<=t.sum/\t.sum<=1000000)->-1000000<=v->v+eY k<=1000000->B+eY k<=1000000000->BB r B->
  ∃ r',kF ax k [0,v] cs r [0,v+eY k] cs r'/\BB r' (B+eY k)
 |[],v,B,r,_,_,_,_,hG=>⟨r,by simp only [eY,Int.add_zero];exact .nil,by simpa [eY] using hG⟩
 |t::k,v,B,r,hk,hm,hs,hB,hG=>by
  obtain ⟨q1,q2,q3,q4⟩:=hk t List.mem_cons_self
  have hk':=fun x hx=>hk x (List.mem_cons_of_mem t hx)
  have hnn:=tC fun x hx=>(hk' x hx).2.2.1
  rw [eY] at hs hB
  have b1:=hG.b 1;have b2:=hG.b 51
  obtain ⟨r1,t1,w1,g1⟩:=take_one (ax:=ax) (due:=[0,v]) (cs:=cs) (bk:=r) (num:=t.number) (k:=0) (s:=t.sum) (v:=v) (a:=a) ha (by omega) (by rw [hc];rfl) (by omega) ⟨q3,q4⟩ hG.right (by omega) (by rw [hc];show cE r 51+t.sum<=1000000000000;omega)
  rw [hc] at g1 t1
  obtain ⟨r',T',G'⟩:=ur (cs:=cs) ha hc k (v+t.sum) (B+t.sum) r1 hk' (by omega) (by omega) (by omega) (hG.step (by omega) w1 g1)
  rw [show v+eY (t::k)=v+t.sum+eY k by rw [eY];omega,show B+eY (t::k)=B+t.sum+eY k by rw [eY];omega]
  refine ⟨r',.cons ?_ T',G'⟩
  have ht:t=⟨t.number,1,0,t.sum⟩:=by cases t;simp_all
  rw [ht]
  exact t1
def SD (has c r:Int) (k0 k1:List aT) (td:List aj) (bk:List Entry):Bk:=
 ⟨0,false,[⟨has - c,has - c,PT,[⟨0,has⟩]⟩,⟨0,0,PT,[]⟩],[0,0 - r],[⟨0,1,has,c,r,0,100,decide (c=has)⟩],⟨k0.length,k0⟩,⟨k1.length,k1⟩,0,0,[],[],⟨0,[0,0],[]⟩,td,bk⟩
structure DI (has c r:Int) (k0 k1:List aT) (td:List aj) (bk:List Entry) (i:Nat):Prop where
 cc:0<=r/\r<=c/\c<=has
 q0:KK 1 k0 c
 q1:KK 2 k1 r
 l0:k0.length<=i
 l1:k1.length<=i
 ln:td.length<=i
 ok:∀ x∈td,nA x
 zG:fH td 1=c - r
 zH:fH td 0=0
 bb:BB bk (100000+1000000 * i)
def kC (n:Int):aW:=if n > 0 then ⟨0,3,0,0,2,n⟩ else ⟨0,3,0,0,5,0 - (if -1000000 > n then -1000000 else n)⟩
theorem DI.more {has c r:Int} {k0 k1:List aT} {td:List aj} {bk:List Entry} {i:Nat} (H:DI has c r k0 k1 td bk i):DI has c r k0 k1 td bk (i+1):=
 ⟨H.cc,H.q0,H.q1,by have:=H.l0;omega,by have:=H.l1;omega,by have:=H.ln;omega,H.ok,H.zG,H.zH,H.bb.right,fun x=>by have:=H.bb.b x;omega⟩
theorem Fk {has c r:Int} {k0 k1:List aT} {td:List aj} {bk:List Entry} {i:Nat} (hh:1<=has/\has<=100000) (hi:i<=6) (H:DI has c r k0 k1 td bk i) (n:Int):
  ∃ c' r' k0' k1' td' bk' z,(∀ y,df (SD has c r k0 k1 td bk) y (kC n)=(SD has c' r' k0' k1' td' bk',y,z))/\DI has c' r' k0' k1' td' bk' (i+1):=by
 have hc:=H.cc;have hl0:=H.l0;have hl1:=H.l1;have htd:=H.ln
 have hw:bG ⟨0,1,has,c,r,0,100,decide (c=has)⟩=0:=jf (by dsimp only;omega)
 have hu:cA ⟨has - c,has - c,PT,[⟨0,has⟩]⟩=0:=rY (by omega) (by omega) (by omega) (by omega)
 have ref:∀ m s e,(∃ x,bV ⟨0,1,has,c,r,0,100,decide (c=has)⟩ m s=(x,e))->e≠0->∃ c' r' k0' k1' td' bk' z,(∀ y,df (SD has c r k0 k1 td bk) y ⟨0,3,0,0,m,s⟩=(SD has c' r' k0' k1' td' bk',y,z))/\DI has c' r' k0' k1' td' bk' (i+1):=fun m s e ⟨x,hM⟩ he=>
  ⟨c,r,k0,k1,td,bk,⟨e,0⟩,fun y=>Fl (b:=SD has c r k0 k1 td bk) (n:=0) rfl (by omega) rfl hM he y,H.more⟩
 unfold kC
 by_cases hn:n > 0
 ·rw [if_pos hn]
  by_cases h1:n > 1000000
  ·exact ref 2 n 3 ⟨gh,by unfold bV;rw [if_neg (fun z=>z hw),if_neg (by omega),if_pos (by omega)]⟩ (by omega)
  by_cases h2:c=has
  ·exact ref 2 n 9 ⟨gh,Bn hw (by omega) (by omega) (by simp [h2])⟩ (by omega)
  by_cases h3:n<=has - c
  rotate_left
  ·refine ref 2 n 10 ⟨gh,?_⟩ (by omega)
   rw [pz hw (by omega) (by omega)]
   have:de ⟨0,1,has,c,r,0,100,decide (c=has)⟩ 2 n=(⟨0,1,has,c,r,0,100,decide (c=has)⟩,10):=by
    unfold de;rw [if_neg (by simp [h2]),if_neg (by omega),if_pos (by dsimp only;omega)]
   rw [this,if_pos (by simp)]
  have hM:=Dc (a:=⟨0,1,has,c,r,0,100,decide (c=has)⟩) (m:=2) (s:=n) hw (by omega) (by omega) (by simp [h2]) (by dsimp only;omega)
  have hM':bV ⟨0,1,has,c,r,0,100,decide (c=has)⟩ 2 n=(⟨0,1,has,c+n,r,0,100,decide (c+n=has)⟩,0):=by rw [hM];simp
  have ho1:bB ⟨0,1,has,c,r,0,100,decide (c=has)⟩=has - c:=by simp [bB,h2]
  have ho2:bB ⟨0,1,has,c+n,r,0,100,decide (c+n=has)⟩=has - (c+n):=by
   unfold bB;dsimp only
   by_cases h4:c+n=has
   ·rw [if_pos (by simp [h4])];omega
   ·rw [if_neg (by simp [h4])]
  obtain ⟨p1,K1⟩:=H.q0.snoc (n:=n) (by omega) (by omega) (by omega)
  have b1:=H.bb.b 1;have b2:=H.bb.b 10
  obtain ⟨r2,d2,w2,g2⟩:=Fo (b:=SD has c r k0 k1 td bk) (n:=0) (m:=2) (s:=n) (c:=⟨has - c,has - c,PT,[⟨0,has⟩]⟩) rfl (by omega) (by omega) (by omega) rfl hM' (by dsimp only;omega) rfl hu (by dsimp only;omega) (by rw [ho1,ho2];dsimp only;omega) (by rw [ho1,ho2];omega) H.bb.right (by show -1000000000000<=cE bk 10 - n;omega) (by show cE bk 1+n<=1000000000000;omega) p1 (by simp only [SD];omega)
  rw [ho1,ho2] at d2
  refine ⟨c+n,r,kk 1 k0 n,k1,td++[⟨1,0,2,n⟩],r2,⟨0,0⟩,fun y=>?_,?_⟩
  ·rw [d2 y]
   simp only [SD,Prod.mk.injEq,Bk.mk.injEq,and_true,true_and]
   simp;omega
  ·refine ⟨by omega,K1,H.q1,by rw [wJ];omega,by omega,by simp;omega,fun x hx=>?_,?_,?_,?_⟩
   ·rcases List.mem_append.1 hx with hx|hx
    ·exact H.ok x hx
    ·rw [List.mem_singleton.1 hx];unfold nA lJ mA;dsimp only;omega
   ·rw [mn,H.zG];simp [fH,lD];omega
   ·rw [mn,H.zH];simp [fH,lD]
   ·have:=H.bb.step (by omega) w2 g2
    exact ⟨this.right,fun x=>by have:=this.b x;omega⟩
 ·rw [if_neg hn]
  generalize hk:(0 - (if -1000000 > n then -1000000 else n):Int)=k
  have hk1:0<=k/\k<=1000000:=by subst hk;split<;>omega
  by_cases h1:k=0
  ·exact ref 5 k 3 ⟨gh,by unfold bV;rw [if_neg (fun z=>z hw),if_neg (by omega),if_pos (by omega)]⟩ (by omega)
  by_cases h2:k<=c - r
  rotate_left
  ·refine ref 5 k 10 ⟨gh,?_⟩ (by omega)
   unfold bV
   rw [if_neg (fun z=>z hw),if_neg (by omega),if_neg (by omega),if_pos rfl,if_pos (by dsimp only;omega)]
  have hM:=Db (a:=⟨0,1,has,c,r,0,100,decide (c=has)⟩) (n:=k) hw (by omega) (by dsimp only;omega)
  obtain ⟨p1,K1⟩:=H.q1.snoc (n:=k) (by omega) (by omega) (by omega)
  have b1:=H.bb.b 1;have b2:=H.bb.b 51
  obtain ⟨r2,d2,w2,g2⟩:=Ac (b:=SD has c r k0 k1 td bk) (n:=0) (s:=k) (v:=0 - r) rfl (by omega) (by omega) rfl hM (by dsimp only;omega) rfl (by omega) H.bb.right (by show -1000000000000<=cE bk 51 - k;omega) (by show cE bk 1+k<=1000000000000;omega) p1 (by simp only [SD];omega)
  refine ⟨c,r+k,k0,kk 2 k1 k,td++[⟨1,0,5,k⟩],r2,⟨0,0⟩,fun y=>?_,?_⟩
  ·rw [d2 y]
   simp only [SD]
   rw [show 0 - (r+k)=0 - r - k by omega]
   rfl
  ·refine ⟨by omega,H.q0,K1,by omega,by rw [wJ];omega,by simp;omega,fun x hx=>?_,?_,?_,?_⟩
   ·rcases List.mem_append.1 hx with hx|hx
    ·exact H.ok x hx
    ·rw [List.mem_singleton.1 hx];unfold nA lJ mA;dsimp only;omega
   ·rw [mn,H.zG];simp [fH,lD];omega
   ·rw [mn,H.zH];simp [fH,lD]
   ·have:=H.bb.step (by omega) w2 g2
    exact ⟨this.right,fun x=>by have:=this.b x;omega⟩
theorem yX {has:Int} (hh:1<=has/\has<=100000) (rest:List aW) (y:List (List Int)):∀ (l:List Int) {c r:Int} {k0 k1:List aT} {td:List aj} {bk:List Entry} {i:Nat} {out:List Answer},i+l.length<=6->DI has c r k0 k1 td bk i->
  ∃ c' r' k0' k1' td' bk' o,fv (l.map kC++rest) (SD has c r k0 k1 td bk) y out=fv rest (SD has c' r' k0' k1' td' bk') y o/\DI has c' r' k0' k1' td' bk' (i+l.length)
 |[],c,r,k0,k1,td,bk,i,out,_,H=>⟨c,r,k0,k1,td,bk,out,rfl,H⟩
 |n::l,c,r,k0,k1,td,bk,i,out,hl,H=>by
  rw [List.length_cons] at hl
  obtain ⟨c1,r1,m0,m1,t1,b1,z,e1,H1⟩:=Fk hh (by omega) H n
  obtain ⟨c2,r2,n0,n1,t2,b2,o,e2,H2⟩:=yX hh rest y l (out:=out++[z]) (by omega) H1
  refine ⟨c2,r2,n0,n1,t2,b2,o,?_,by rw [List.length_cons,show i+(l.length+1)=i+1+l.length by omega];exact H2⟩
  rw [List.map_cons,List.cons_append,eo (e1 y),e2]
theorem Fm {b:Bk} {y:List (List Int)} (h:(ei b.aR).2.err=0):df b y ⟨0,10,0,0,0,0⟩=({b with aR:=[]},y++[(ei b.aR).1],⟨0,0⟩):=by
 have hL:iM b.aR y=([],y++[(ei b.aR).1],⟨0,0⟩):=by unfold iM;rw [if_neg (fun z=>z h)]
 unfold df
 rw [if_neg (by dsimp only;omega),if_neg (by dsimp only;omega),if_neg (by dsimp only;omega),if_neg (by dsimp only;omega),if_neg (by dsimp only;omega),if_neg (by dsimp only;omega),if_neg (by dsimp only;omega),if_neg (by dsimp only;omega),if_pos rfl,hL]
theorem FL {a:Int} {r:Bool} (h:decide (∀ n∈[a],1<=n/\n<=100000)=r) (hr:r=true):1<=a/\a<=100000:=by
 rw [hr] at h
 have h':=of_decide_eq_true h
 exact h' a (by simp)
theorem rS {n:Int}:∀ k,∀ c∈iu n k,0<=c/\c<=255
 |0,c,h=>by cases h
 |k+1,c,h=>by
  unfold iu at h
  rcases List.mem_cons.1 h with rfl|h
  ·omega
  ·exact rS k c h
theorem DP {l:List aj} (h:(ei l).2.err=0):∀ c∈(ei l).1,0<=c/\c<=255:=fun c hc=>by
 rw [(pV h).2] at hc
 rcases List.mem_append.1 hc with hc|hc
 ·unfold gT at hc
  rcases List.mem_cons.1 hc with rfl|hc
  ·omega
  ·obtain ⟨y,_,hy⟩:=List.mem_flatMap.1 hc
   unfold jG at hy
   rcases List.mem_append.1 hy with h|h
   ·simp only [List.mem_cons,List.not_mem_nil,or_false] at h
    rcases h with rfl|rfl|rfl<;>omega
   ·exact rS _ c h
 ·exact rS _ c hc
theorem Fq {l:List aj} (h:(ei l).2.err=0) (hl:l.length<=100):(ei l).1.length<=9223372036854775807:=by
 rw [(pV h).2,List.length_append,ke,me,jV];omega
def oB (n:Nat):List aW:=(List.replicate n (fb 8)).flatten
def sl (j:Nat):List aW:=if j=0 then dd 0 8++dd 1 8 else if j=1 then dd 1 8 else []
theorem Ae {i:Nat} (h:i < 2):oB (2 - i)=fb 8++oB (2 - (i+1)):=by
 have:2 - i=(2 - (i+1))+1:=by omega
 rw [this];rfl
theorem zt {j:Nat} (h:j < 2):sl j=dd (↑j) 8++sl (j+1):=by
 rcases j with _|_|j
 ·rfl
 ·rfl
 ·omega
theorem An {n:Int} {m k:Nat} (h:k < m):dd n (m - k)=[⟨0,6,n,0,0,0⟩]++dd n (m - (k+1)):=by
 have:m - k=(m - (k+1))+1:=by omega
 rw [this];rfl
theorem yZ {m base:List aW} {l:List Int} {q:Nat} {n:Int} (hm:m=base++(l.take q).map kC) (hx:l[q]?=some n) (h:n > 0):m++[⟨0,3,0,0,2,n⟩]=base++(l.take (q+1)).map kC:=by
 rw [ia hx,hm,List.map_append,List.append_assoc];simp only [List.map_cons,List.map_nil,kC];rw [if_pos h]
theorem za {m base:List aW} {l:List Int} {q:Nat} {n:Int} (hm:m=base++(l.take q).map kC) (hx:l[q]?=some n) (h:¬n > 0):m++[⟨0,3,0,0,5,0 - (if -1000000 > n then -1000000 else n)⟩]=base++(l.take (q+1)).map kC:=by
 rw [ia hx,hm,List.map_append,List.append_assoc];simp only [List.map_cons,List.map_nil,kC];rw [if_neg h]
def kB (has:Int) (l:List Int):List aW:=[⟨0,1,0,0,0,has⟩,⟨0,2,0,1,0,has⟩]++l.map kC++[⟨0,10,0,0,0,0⟩]++(fb 8++fb 8)
theorem Fs (n:Int):(kC n).id=0:=by unfold kC;split<;>rfl
theorem DO {has:Int} {l:List Int} (hh:1<=has/\has<=100000) (hl:l.length<=6) {b:Bk} {y:List (List Int)} {o:List Answer} {f:dc}
  (hr:iL ⟨[⟨1000,30,1000000000000⟩,⟨1000,30,1000000000000⟩],2,0⟩ (kB has l)=(b,y,o,f)):
  f.err=0/\y.length=1/\b.due.length=2/\∀ x,y[0]?=some x->∃ rs v,gz x=(rs,0)/\b.due[1]?=some v/\fH rs 1=v/\fH rs 0=0/\(∀ z∈rs,0<=z.sum/\z.sum<=1000000)/\rs.length<=100/\(∀ c∈x,0<=c/\c<=255)/\x.length<=9223372036854775807:=by
 have hids:∀ d∈kB has l,d.id=0:=fun d hd=>by
  unfold kB at hd
  have hq:∀ d∈fb 8,d.id=0:=by decide
  rcases List.mem_append.1 hd with hd|hd
  ·rcases List.mem_append.1 hd with hd|hd
   ·rcases List.mem_append.1 hd with hd|hd
    ·simp only [List.mem_cons,List.not_mem_nil,or_false] at hd
     rcases hd with rfl|rfl<;>rfl
    ·obtain ⟨n,_,rfl⟩:=List.mem_map.1 hd
     exact Fs n
   ·rw [List.mem_singleton.1 hd]
  ·rcases List.mem_append.1 hd with hd|hd<;>exact hq d hd
 have hlen:(kB has l).length<=150:=by
  unfold kB
  simp only [List.length_append,List.length_map]
  rw [show (fb 8).length=18 from rfl]
  simp;omega
 rw [Hz (by omega) (by omega) hlen hids] at hr
 obtain ⟨r1,d1,w1,g1⟩:=DM (b:=iA 0) (n:=0) (s:=has) (c:=⟨0,0,PT,[]⟩) (by omega) (by omega) rfl (yq (by omega) (by omega)) (by dsimp only;omega) (by decide) (by simp [iA,cE];omega) (by simp [iA,cE];omega)
 have e1:df (iA 0) [] ⟨0,1,0,0,0,has⟩=((⟨0,false,[⟨has,0,PT,[]⟩,⟨0,0,PT,[]⟩],[0,0],[],⟨0,[]⟩,⟨0,[]⟩,0,0,[],[],⟨0,[0,0],[]⟩,[],r1⟩:Bk),[],⟨0,0⟩):=by
  rw [d1 []];simp [iA,PT]
 have e2:df (⟨0,false,[⟨has,0,PT,[]⟩,⟨0,0,PT,[]⟩],[0,0],[],⟨0,[]⟩,⟨0,[]⟩,0,0,[],[],⟨0,[0,0],[]⟩,[],r1⟩:Bk) [] ⟨0,2,0,1,0,has⟩=(SD has 0 0 [] [] [] r1,[],⟨0,0⟩):=by
  rw [Fp (b:=(⟨0,false,[⟨has,0,PT,[]⟩,⟨0,0,PT,[]⟩],[0,0],[],⟨0,[]⟩,⟨0,[]⟩,0,0,[],[],⟨0,[0,0],[]⟩,[],r1⟩:Bk)) (n:=0) (p:=1) (s:=has) rfl (by omega) (by simp) (by omega) (by omega) (by simp) (by simp) rfl
   (BO (yq (by omega) (by omega)) (by omega) (by simp) (by dsimp only;omega) rfl rfl) []]
  simp [SD,PT];omega
 have H0:DI has 0 0 [] [] [] r1 0:=by
  refine ⟨by omega,⟨fun t ht=>(by cases ht),trivial,rfl,rfl⟩,⟨fun t ht=>(by cases ht),trivial,rfl,rfl⟩,by simp,by simp,by simp,fun x hx=>(by cases hx),rfl,rfl,w1,fun x=>?_⟩
  rw [g1];simp only [iA,cE];(repeat' split)<;>omega
 obtain ⟨c,r,k0,k1,td,bk,o1,e3,H⟩:=yX hh (⟨0,10,0,0,0,0⟩::(fb 8++(fb 8++[]))) [] l (out:=[]++[⟨0,0⟩]++[⟨0,0⟩]) (by omega) H0
 have hc:=H.cc;have hl0:=H.l0;have hl1:=H.l1;have htd:=H.ln
 have hby:(ei (SD has c r k0 k1 td bk).aR).2.err=0:=by
  have:(eO td).err=0:=jg.2 ⟨by omega,H.ok⟩
  show (ei td).2.err=0
  unfold ei;rw [if_pos this]
 have e4:=Fm (b:=SD has c r k0 k1 td bk) (y:=[]) hby
 have ht1:=vP (ax:=[⟨0,1,has,c,r,0,100,decide (c=has)⟩]) (a:=⟨0,1,has,c,r,0,100,decide (c=has)⟩) (due:=[0,0 - r]) (c2:=⟨0,0,PT,[]⟩) (u:=[⟨0,has⟩]) (h:=has - c) rfl rfl (fun m hm=>rY (by omega) (by omega) (by omega) (by omega)) k1 (has - c) (100000+1000000 * ((0+l.length:Nat):Int)) bk H.q1.all (by omega) (by rw [H.q1.sum];omega) (by rw [H.q1.sum];omega) H.bb
 obtain ⟨b1,T1,B1⟩:=ht1
 rw [H.q1.sum] at T1 B1
 obtain ⟨b2,T2,B2⟩:=ur (ax:=[⟨0,1,has,c,r,0,100,decide (c=has)⟩]) (a:=⟨0,1,has,c,r,0,100,decide (c=has)⟩) (cs:=[⟨has - c+r,has - c,PT,[⟨0,has⟩]⟩,⟨0,0,PT,[]⟩]) rfl rfl k0 (0 - r) (100000+1000000 * ((0+l.length:Nat):Int)+r) b1 H.q0.all (by omega) (by rw [H.q0.sum];omega) (by rw [H.q0.sum];omega) B1
 rw [H.q0.sum] at T2 B2
 obtain ⟨o4,e5,l5⟩:=DQ (b:={SD has c r k0 k1 td bk with aR:=[]}) (c:=8) (rest:=[]) (y:=[]++[(ei td).1]) (out:=o1++[⟨0,0⟩]) rfl rfl (by show k0.length+1<=8;omega) (by show k1.length+1<=8;omega) (by omega) (by simp [SD]) (by simp [SD]) H.q0.right H.q1.right H.q0.wA H.q1.wA T1 T2 (by simp [SD]) (by simp [SD]) (by simp only [SD];omega) (by simp only [SD];omega)
 have hsplit:kB has l=⟨0,1,0,0,0,has⟩::⟨0,2,0,1,0,has⟩::(l.map kC++(⟨0,10,0,0,0,0⟩::(fb 8++(fb 8++[])))):=by
  unfold kB;simp
 have h5:fv (kB has l) (iA 0) [] []=fv (fb 8++(fb 8++[])) {SD has c r k0 k1 td bk with aR:=[]} ([]++[(ei td).1]) (o1++[⟨0,0⟩]):=by
  rw [hsplit,eo e1,eo e2,e3,eo e4];rfl
 have key:∃ bz oz,fv (kB has l) (iA 0) [] []=(bz,[(ei td).1],oz)/\bz.due=[0,0 - r+c]:=⟨_,_,h5.trans e5,rfl⟩
 obtain ⟨bz,oz,hz1,hz2⟩:=key
 rw [hz1] at hr
 simp only [Prod.mk.injEq] at hr
 obtain ⟨rfl,rfl,rfl,rfl⟩:=hr
 refine ⟨rfl,rfl,by rw [hz2];rfl,fun x hx=>?_⟩
 have hx:(ei td).1=x:=by simpa using hx
 subst hx
 have hwr:(eO td).err=0:=jg.2 ⟨by omega,H.ok⟩
 have hb2:(ei td).2.err=0:=hby
 refine ⟨dJ td,0 - r+c,xT hb2,by rw [hz2];rfl,by rw [uL,H.zG];omega,by rw [uL];exact H.zH,fun z hz=>?_,by rw [jV];omega,DP hb2,Fq hb2 (by omega)⟩
 have:=vI ((jg.1 (qz.2 hwr)).2 z hz)
 omega
attribute [local go_sem] Oper.semAt_some
def Iq (A1 A2:Nat) (W W':World):Prop:=(∀ v,W.cell? ⟨A1,0,none⟩=some v->W'.cell? ⟨A1,0,none⟩=some v)/\∀ v,W.cell? ⟨A2,0,none⟩=some v->W'.cell? ⟨A2,0,none⟩=some v
theorem Try.Gc:Try.prog.follows .mixedOrders=true:=by kernel_rfl
theorem BR (n l A1 A2 b off k cap : Nat) (A : Option Addr) (hA : 0 < k → A = some ⟨b, off, none⟩) (hk : k ≤ 255) (hcap : 6 * k ≤ cap) (J Jx : List (Fin k) → World → Prop) (W : World) (hJ : AbidesFrom W.heap.size J)
    (hY : ∀ pre (x : Fin k) W, J pre W → pre.length < k → YieldAt Fence.wide (n - 1) Try.prog l #[.slice (some ⟨b, off + 6 * x.val, none⟩) 6 6] W fun e W' =>
      (e = .returned (.bool true) ∧ J (pre ++ [x]) W' ∧ Iq A1 A2 W W') ∨ (e = .returned (.bool false) ∧ Jx (pre ++ [x]) W'))
    (h1 : W.cell? ⟨A1, 0, none⟩ = some (.slice A (6 * k) cap)) (h2 : W.cell? ⟨A2, 0, none⟩ = some (.int .i64 6)) (h0 : J [] W) :
    CallsIn Fence.wide n Try.prog 58 #[.func (.yield l) #[] #[], .pointer (some ⟨A1, 0, none⟩), .pointer (some ⟨A2, 0, none⟩)] W fun e W' => (∃ v, e = .returned v) ∧
      ((∃ ys : List (Fin k), ys.map Fin.val = List.range k ∧ J ys W') ∨ (∃ pre, True ∧ Jx pre W')) := by
  refine callsIn_of_wp Try.func58 rfl trivial ?_ rfl
  simp only [Try.ntmps58, List.size_toArray, List.length_cons, List.length_nil, Nat.reduceAdd, Nat.reduceSub, Array.replicate_succ, Array.replicate_zero, List.push_toArray, List.append_toArray, List.nil_append, List.cons_append]
  gi_wp2
  gi_loopw [4] (fun i wr => ∃ (j : Nat) (ys : List (Fin k)), j ≤ k ∧ i = .int .i64 (6 * j : Nat) ∧ ys.map Fin.val = List.range j ∧ J ys wr ∧ wr.cell? ⟨A1, 0, none⟩ = some (.slice A (6 * k) cap) ∧ wr.cell? ⟨A2, 0, none⟩ = some (.int .i64 6))
    (fun i _ => 6 * k - (intOf i).toNat)
  case atStart => exact ⟨0, [], Nat.zero_le _, rfl, rfl, h0, h1, h2⟩
  case round =>
    obtain ⟨j, ys, hjk, rfl, hys, hJs, hc1, hc2⟩ := hrel
    by_cases hlt : j < k
    · obtain rfl := hA (by omega)
      have hlen : (ys.length) = j := by have := congrArg List.length hys; simpa using this
      obtain ⟨fn, tmps, assign, body, hy, hR⟩ := hY ys ⟨j, hlt⟩ wr.drew (hJ _ _ _ none hJs ⟨rfl, rfl, rfl, Nat.le_refl _, fun _ _ _ => rfl⟩ (fun r e => by cases e)) (by omega)
      dsimp only at hy
      have hmm := Try.Gc
      gi_wp2
      refine wpIn_wide.2 ?_
      refine wp_region_still_lit hmm (by kernel_rfl) ?_
      repeat still_step
      refine wpStill_step (fun K hK => ?_)
      go_simp
      have e0 : (0 : Int) ≤ 6 * (j : Int) := by omega
      have e1 : (6 * (j : Int)).toNat = 6 * j := by omega
      have e2 : ¬ cap = 6 * j := by omega
      rw [if_pos e0]
      simp only [e1, if_neg e2]
      refine ⟨trivial, hK _ ?_⟩
      clear hK K
      repeat still_step
      have e3 : ¬ (((6 * k - 6 * j : Nat) : Int) < 6) := by omega
      simp only [if_neg e3]
      refine wpStill_nil ?_
      simp only [Exit.then]
      go_at_K
      gi_wp2
      refine ⟨fun h => (by cases h), hR.mono ?_⟩
      rintro e W3 (⟨rfl, hJ3, hk3⟩ | ⟨rfl, hf⟩)
      · have hd1 : W3.cell? ⟨A1, 0, none⟩ = some (.slice (some ⟨b, off, none⟩) (6 * k) cap) := hk3.1 _ hc1
        have hd2 : W3.cell? ⟨A2, 0, none⟩ = some (.int .i64 6) := hk3.2 _ hc2
        gi_wp2
        go_roundw
        case rel => exact ⟨j + 1, ys ++ [⟨j, hlt⟩], by omega, by simp; omega, by rw [List.map_append, hys, List.range_succ]; rfl, hJ3, hd1, hd2⟩
        case measure => simp [intOf]; omega
      · gi_wp2
        refine bodyPost_ret (results_none rfl _ _ _) rfl ?_
        exact ⟨⟨_, rfl⟩, .inr ⟨_, trivial, hf⟩⟩
    · obtain rfl : j = k := by omega
      gi_wp2
      go_end0
      exact ⟨⟨_, rfl⟩, .inl ⟨ys, hys, hJs⟩⟩
theorem yd (n A1 A2 b off k cap:Nat) (A:Option Addr) (hA:0 < k->A=some ⟨b,off,none⟩) (hk:k<=255) (hcap:6 * k<=cap) (w:World) (hA1:A1 < w.heap.size) (hA2:A2 < w.heap.size)
    (h1:w.cell? ⟨A1,0,none⟩=some (.slice A (6 * k) cap)) (h2:w.cell? ⟨A2,0,none⟩=some (.int .i64 6)):
    SeqStopsK Fence.wide n Try.prog 58 #[.pointer (some ⟨A1,0,none⟩),.pointer (some ⟨A2,0,none⟩)] (fun i:Fin k=>#[.slice (some ⟨b,off+6 * i.val,none⟩) 6 6]) (Iq A1 A2) (fun ys=>ys.map Fin.val=List.range k) (fun _=>True) k w:=
  fun l J Jx W hW hJ hJx hY h0=>by
    refine (BR n l A1 A2 b off k cap A hA hk hcap J Jx W hJ hY ((hW.cell (p:=⟨A1,0,none⟩) hA1).trans h1) ((hW.cell (p:=⟨A2,0,none⟩) hA2).trans h2) h0).mono ?_
    exact fun e W' h=>h
def recC:List Int->aj
  |[s,a,k,x,y,z]=>⟨s,a,k,65536 * x+256 * y+z⟩
  |_=>⟨0,0,0,0⟩
def eR (L:List Int) (i:Nat):List Int:=(L.drop (6 * i)).take 6
theorem np {L:List Int} {i:Nat} (h:6 * (i+1)<=L.length):(eR L i).length=6:=by
  unfold eR;rw [List.length_take,List.length_drop];omega
theorem qI {L:List Int}:∀ (k:Nat),6 * k<=L.length->fR (L.take (6 * k))=(List.range k).map fun i=>recC (eR L i)
  |0,_=>rfl
  |k+1,h=>by
    rw [List.range_succ,List.map_append,<-qI k (by omega),show 6 * (k+1)=6 * k+6 by omega,List.take_add,uE k _ _ (by rw [List.length_take];omega)]
    congr 1
    have hl:=np (L:=L) (i:=k) (by omega)
    unfold eR at hl
    show _=[recC ((L.drop (6 * k)).take 6)]
    generalize (L.drop (6 * k)).take 6=e at hl
    match e,hl with
    |[s,a,k',x,y,z],_=>rfl
def jd (m:List aj) (all:Int):List (Nat×AB):=[(2,.arr 83 4 (m.map gj)),(1,.box 3 [cI all]),(0,.box 42 [.s 2 0 4 m.length])]
theorem DJ {T:Nat->Prop} {w:World} {L:List Int} {b off c s:Nat} (h:bo T w (.r 1 (L.map fK)) (.slice (some ⟨b,off,none⟩) L.length c)) (hs:6 * (s+1)<=L.length):bo T w (.r 1 ((eR L s).map fK)) (.slice (some ⟨b,off+6 * s,none⟩) 6 6):=by
  have hl:=np hs
  have hlen:((eR L s).map fK).length=6:=by rw [List.length_map,hl]
  have get:∀ i row,((eR L s).map fK)[i]?=some row->(L.map fK)[6 * s+i]?=some row:=fun i row hr=>by
    unfold eR at hr
    rw [List.map_take,List.map_drop,List.getElem?_take] at hr
    split at hr
    ·rwa [List.getElem?_drop] at hr
    ·cases hr
  generalize hR:L.map fK=R at h get
  generalize hn:L.length=n at h
  cases h with
  |nil=>
    have:=congrArg List.length hR
    rw [List.length_map] at this
    simp at this
    omega
  |r _ _ _ _ _ cs hb hT hc hm hK eh hd=>
    have:=bo.r (T:=T) (w:=w) 1 ((eR L s).map fK) b (off+6 * s) 6 (fun i j=>cs (6 * s+i) j) hb hT (by omega) (by omega) (fun i row hr=>hK _ row (get i row hr)) (fun i row j d hr hj=>by
      have:=eh _ row j d (get i row hr) hj
      rwa [show off+((6 * s+i) * 1+j)=off+6 * s+(i * 1+j) by omega] at this) (fun i row j d hr hj=>hd _ row j d (get i row hr) hj)
    rwa [hlen] at this
theorem Inv.HA {W0:World} {F:Nat->Prop} {N:NT} {T0:Nat->Prop} {pin:List (Nat×bR)} {st:aK} {a:Go.Act} {W:World} (h:Inv W0 F N T0 pin st a W):Inv W0 F N T0 [] st a W:=by
  obtain ⟨σ,T,hT,S,_⟩:=h
  exact ⟨σ,T,hT,S,fun k g h=>by cases h⟩
theorem zC {assign body rest : Code} {id : Nat} (b L : List Int) (k : Nat) (v6 : Int) (hk : k ≤ 255) (hLk : L.length = 6 * k) (hb : ∀ x ∈ L, 0 ≤ x ∧ x ≤ 255) {W0 : World} {T0 : Nat → Prop} (hT0 : ∀ b, T0 b → b < W0.heap.size) {av : AV} {nb : List (Nat × AB)} {a : Go.Act} {w : World}
    (hI : Inv W0 (fun _ => False) (75, []) T0 [] ⟨[(0, aC (cR 1 (b.map fK))), (4, aC (.p 0 0 0 0)), (5, aC (.p 1 0 0 0)), (6, aI v6), (30, aC (.fn 58 [2, 3]))], [(3, .box 3 [cI 6]), (2, .box 86 [cR 1 (L.map fK)]), (1, .box 3 [cI 0]), (0, .box 42 [cN])], 4⟩ a w)
    (hassign : ∀ (l n : Nat) (a : Go.Act) (w : World) (K : Go.Act → World → Prop), K (a.put (some 7) (a.eval (.tmp 31))) w → assign.wpIn (Fence.wide.inRound l) n Try.prog (Exit.then K (fun _ _ _ => False)) a w)
    (hbody : ∀ (l n : Nat) (W : World) (F T : Nat → Prop) (g0 g1 : bR) (m : List aj) (all : Int) (c : List Int), c.length = 6 → (∀ x ∈ c, 0 ≤ x ∧ x ≤ 255) → m.length ≤ 254 → (0 ≤ all ∧ all ≤ 16777215 * (m.length : Int)) →
      iU Try.prog l n W F (75, []) T [(0, g0), (1, g1)] (fun e st => e = .normal ∧ aF [(0, g0), (1, g1)] st ⟨[], jd (m ++ [recC c]) (all + (recC c).sum), 3⟩) body ⟨[(7, aC (cR 1 (c.map fK))), (4, aC (.p 0 0 0 0)), (5, aC (.p 1 0 0 0))], jd m all, 3⟩)
    (hrest : ∀ (W : World) (F : Nat → Prop) (ds : List Deferred) (T : Nat → Prop), AC Try.prog W F (75, ds) T [] (jm Try.prog Try.f35 [] av nb) rest ⟨[(0, aC (cR 1 (b.map fK))), (4, aC (.p 0 0 0 0)), (5, aC (.p 1 0 0 0)), (6, aI v6)], jd (fR L) (eK (fR L)), 3⟩) :
    (Code.block id (Code.rangeFunc (.tmp 30) #[31] assign body)).wp Try.prog (Exit.then (rest.wp Try.prog (bodyPostM Fence.wide 0 Try.prog Try.f35 (sG W0 T0 av nb))) (bodyPostM Fence.wide 0 Try.prog Try.f35 (sG W0 T0 av nb))) a w := by
  obtain ⟨σ, T, hT, S, _⟩ := hI
  obtain ⟨gl, vl, e0, tl, hl0, cl0⟩ := S.core.heap 0 _ rfl
  obtain ⟨ga, va, e1, ta, ha0, ca0⟩ := S.core.heap 1 _ rfl
  obtain ⟨g1, v1, e2, t1, h10, c1⟩ := S.core.heap 2 _ rfl
  obtain ⟨g2, v2, e3, t2, h20, c2⟩ := S.core.heap 3 _ rfl
  have hne : ∀ k k' x y gx gy, look (⟨[(0, aC (cR 1 (b.map fK))), (4, aC (.p 0 0 0 0)), (5, aC (.p 1 0 0 0)), (6, aI v6), (30, aC (.fn 58 [2, 3]))], [(3, .box 3 [cI 6]), (2, .box 86 [cR 1 (L.map fK)]), (1, .box 3 [cI 0]), (0, .box 42 [cN])], 4⟩ : aK).h k = some x → look (⟨[(0, aC (cR 1 (b.map fK))), (4, aC (.p 0 0 0 0)), (5, aC (.p 1 0 0 0)), (6, aI v6), (30, aC (.fn 58 [2, 3]))], [(3, .box 3 [cI 6]), (2, .box 86 [cR 1 (L.map fK)]), (1, .box 3 [cI 0]), (0, .box 42 [cN])], 4⟩ : aK).h k' = some y → σ k = some gx → σ k' = some gy → k ≠ k' → gx.g ≠ gy.g :=
    fun k k' x y gx gy h1 h2 h3 h4 hne e => hne (S.core.inj k k' x y gx gy h1 h2 h3 h4 e)
  have n01 := hne 0 1 _ _ _ _ rfl rfl e0 e1 (by decide)
  have n02 := hne 0 2 _ _ _ _ rfl rfl e0 e2 (by decide)
  have n03 := hne 0 3 _ _ _ _ rfl rfl e0 e3 (by decide)
  have n12 := hne 1 2 _ _ _ _ rfl rfl e1 e2 (by decide)
  have n13 := hne 1 3 _ _ _ _ rfl rfl e1 e3 (by decide)
  obtain ⟨x1, rfl, hx1⟩ : ∃ x, v1 = [x] ∧ bo T w (.r 1 (L.map fK)) x := by
    match v1, c1 with
    | [x], c => exact ⟨x, rfl, c.1⟩
  obtain ⟨x2, rfl, hx2⟩ : ∃ x, v2 = [x] ∧ x = .int .i64 6 := by
    match v2, c2 with
    | [x], c => exact ⟨x, rfl, bo.inv c.1⟩
  subst hx2
  obtain ⟨xl, rfl, hxl⟩ : ∃ x, vl = [x] ∧ x = .slice none 0 0 := by
    match vl, cl0 with
    | [x], c => exact ⟨x, rfl, bo.inv c.1⟩
  subst hxl
  have cell1 : w.cell? ⟨g1.g, 0, none⟩ = some x1 := by rw [cell_of_row w g1.g 0 _ _ (0, 0) h10]; rfl
  have cell2 : w.cell? ⟨g2.g, 0, none⟩ = some (.int .i64 6) := by rw [cell_of_row w g2.g 0 _ _ (0, 0) h20]; rfl
  have lt1 : g1.g < w.heap.size := S.core.dZ _ t1
  have lt2 : g2.g < w.heap.size := S.core.dZ _ t2
  have ltl : gl.g < w.heap.size := S.core.dZ _ tl
  have lta : ga.g < w.heap.size := S.core.dZ _ ta
  obtain ⟨A, blk, off, cap, hA, hcap, hx1v⟩ : ∃ (A : Option Addr) (blk off cap : Nat), (0 < k → A = some ⟨blk, off, none⟩) ∧ 6 * k ≤ cap ∧ x1 = .slice A (6 * k) cap := by
    generalize hR : L.map fK = R at hx1
    have hRl : R.length = 6 * k := by rw [← hR, List.length_map, hLk]
    cases hx1 with
    | nil _ A c =>
      have : k = 0 := by simp at hRl; omega
      subst this
      exact ⟨A, 0, 0, c, fun h => by omega, by omega, rfl⟩
    | r _ _ bb oo cc cs _ _ hc _ _ _ _ => exact ⟨_, bb, oo, cc, fun _ => rfl, by omega, by rw [hRl]⟩
  subst hx1v
  have s0 : bo T w (.r 1 (b.map fK)) (a.tmps.getD 0 undef) := S.core.eT 0 _ rfl
  have s4 : a.tmps.getD 4 undef = .pointer (some ⟨gl.g, 0, none⟩) := by obtain ⟨g, h1, h2⟩ := S.core.eT 4 _ rfl; rw [e0] at h1; injection h1 with h1; subst h1; exact h2
  have s5 : a.tmps.getD 5 undef = .pointer (some ⟨ga.g, 0, none⟩) := by obtain ⟨g, h1, h2⟩ := S.core.eT 5 _ rfl; rw [e1] at h1; injection h1 with h1; subst h1; exact h2
  have s6 : bo T w (.v (.int .i64 v6)) (a.tmps.getD 6 undef) := S.core.eT 6 _ rfl
  have s30 : a.tmps.getD 30 undef = .func (.func 58) #[] #[.pointer (some ⟨g1.g, 0, none⟩), .pointer (some ⟨g2.g, 0, none⟩)] := by
    obtain ⟨gs, h1, h2⟩ := S.core.eT 30 _ rfl
    have h1 : [σ 2, σ 3] = gs.map some := h1
    rw [e2, e3] at h1
    match gs, h1 with
    | [x, y], h1 => simp at h1; obtain ⟨rfl, rfl⟩ := h1; exact h2
  have sz : a.tmps.size = 75 := S.ji
  have gU : a.defers = [] := S.gU
  obtain ⟨F', hF'⟩ : ∃ F' : Nat → Prop, F' = fun b => b = gl.g ∨ b = ga.g := ⟨_, rfl⟩
  have hFT : ∀ b, F' b → T b := fun x hx => by rw [hF'] at hx; rcases hx with rfl | rfl; exact tl; exact ta
  let pins : List (Nat × bR) := [(0, gl), (1, ga)]
  have fix4 : qb T w pins a (4, aC (.p 0 0 0 0)) := .inr ⟨0, gl, rfl, rfl, s4⟩
  have fix5 : qb T w pins a (5, aC (.p 1 0 0 0)) := .inr ⟨1, ga, rfl, rfl, s5⟩
  have fix0 : qb T w pins a (0, aC (cR 1 (b.map fK))) := .inl ⟨_, rfl, s0⟩
  have fix6 : qb T w pins a (6, aI v6) := .inl ⟨_, rfl, s6⟩
  have start : Inv w F' (75, []) T pins ⟨[], jd [] 0, 3⟩ a w := by
    refine ⟨fun k => if k = 0 then some gl else if k = 1 then some ga else none, T, fun _ _ => ⟨fun h => h, fun h => h⟩, ⟨⟨(fun i v h => by cases h), (fun k x h => ?_), (fun k k' x y gx gy h1 h2 h3 h4 e => ?_), S.core.dZ⟩, rfl, rfl, rfl, Nat.le_refl _, fun _ _ _ => rfl, fun k x g hk hg => ?_, fun k hk => ?_, fun k x hk => ?_, sz, gU⟩, fun k g hk => ?_⟩
    · unfold jd at h
      rw [bS] at h
      split at h
      · rename_i e; subst e; injection h with h; subst h; exact ⟨by decide, .inl ⟨rfl, rfl⟩⟩
      · rw [bS] at h
        split at h
        · rename_i e; subst e; injection h with h; subst h; exact ⟨ga, va, rfl, ta, ha0, by
            match va, ca0 with
            | [x], c => exact ⟨c.1, trivial⟩⟩
        · rw [bS] at h
          split at h
          · rename_i e; subst e; injection h with h; subst h; exact ⟨gl, _, rfl, tl, hl0, .inl ⟨rfl, rfl⟩, trivial⟩
          · cases h
    · have h3 : (if k = 0 then some gl else if k = 1 then some ga else none) = some gx := h3
      have h4 : (if k' = 0 then some gl else if k' = 1 then some ga else none) = some gy := h4
      by_cases k0 : k = 0
      · subst k0
        by_cases k0' : k' = 0
        · exact k0'.symm
        · by_cases k1' : k' = 1
          · subst k1'; simp at h3 h4; subst h3 h4; exact absurd e n01
          · simp [k0', k1'] at h4
      · by_cases k1 : k = 1
        · subst k1
          by_cases k0' : k' = 0
          · subst k0'; simp at h3 h4; subst h3 h4; exact absurd e.symm n01
          · by_cases k1' : k' = 1
            · exact k1'.symm
            · simp [k0', k1'] at h4
        · simp [k0, k1] at h3
    · right
      have hg : (if k = 0 then some gl else if k = 1 then some ga else none) = some g := hg
      rw [hF']
      by_cases k0 : k = 0
      · simp [k0] at hg; exact .inl (by rw [hg])
      · by_cases k1 : k = 1
        · simp [k1] at hg; exact .inr (by rw [hg])
        · simp [k0, k1] at hg
    · have : 3 ≤ k := hk
      show (if k = 0 then some gl else if k = 1 then some ga else none) = none
      rw [if_neg (by omega), if_neg (by omega)]
    · show k < 3
      unfold jd at hk
      simp only [bS] at hk
      split at hk
      · omega
      · split at hk
        · omega
        · split at hk
          · omega
          · cases hk
    · simp only [pins, bS] at hk
      split at hk
      · rename_i e; subst e; simpa using hk
      · split at hk
        · rename_i e; subst e; simpa using hk
        · cases hk
  have back : ∀ {N' : NT} {pin' : List (Nat × bR)} {st' : aK} {a' : Go.Act} {W' : World}, Inv w F' N' T pin' st' a' W' → Inv W0 (fun _ => False) N' T0 pin' st' a' W' := by
    rintro N' pin' st' a' W' ⟨σ', T', hT', S', hp'⟩
    have hFw : ∀ b, F' b → W0.heap.size ≤ b := fun x hx => by
      rw [hF'] at hx
      rcases hx with rfl | rfl
      · exact (S.own 0 _ gl rfl e0).resolve_right fun h => h
      · exact (S.own 1 _ ga rfl e1).resolve_right fun h => h
    refine ⟨σ', T', fun x hx => ?_, ⟨S'.core, S'.os.trans S.os, S'.tape.trans S.tape, S'.output.trans S.output, Nat.le_trans S.size S'.size, fun x hx hF => ?_, fun k x g hk hg => ?_, S'.next, S'.hn, S'.ji, S'.gU⟩, hp'⟩
    · have h1 := hT' x (Nat.lt_of_lt_of_le hx S.size)
      have h2 := hT x hx
      exact ⟨fun h => h2.1 (h1.1 h), fun h => h1.2 (h2.2 h)⟩
    · rw [S'.cC x (Nat.lt_of_lt_of_le hx S.size) fun h => by have := hFw x h; omega, S.cC x hx hF]
    · rcases S'.own k x g hk hg with h | h
      · exact .inl (Nat.le_trans S.size h)
      · exact .inl (hFw _ h)
  have hTlt := S.core.dZ
  have hsz0 := S.size
  let rc : Fin k → aj := fun i => recC (eR L i.val)
  let I : List (Fin k) → World → Prop := fun pre W => Inv w F' (75, []) T pins ⟨[], jd (pre.map rc) (eK (pre.map rc)), 3⟩ a W
  have hchunk : ∀ i : Fin k, (eR L i.val).length = 6 ∧ ∀ x ∈ eR L i.val, 0 ≤ x ∧ x ≤ 255 := fun i => ⟨np (by have := i.isLt; omega), fun x hx => hb x (List.mem_of_mem_drop (List.mem_of_mem_take hx))⟩
  have hsumc : ∀ i : Fin k, 0 ≤ (rc i).sum ∧ (rc i).sum ≤ 16777215 := fun i => by
    obtain ⟨h1, h2⟩ := hchunk i
    show 0 ≤ (recC (eR L i.val)).sum ∧ (recC (eR L i.val)).sum ≤ 16777215
    generalize eR L i.val = e at h1 h2
    match e, h1 with
    | [s, a, k', x, y, z], _ =>
      have hx := h2 x (by simp); have hy := h2 y (by simp); have hz := h2 z (by simp)
      show 0 ≤ 65536 * x + 256 * y + z ∧ 65536 * x + 256 * y + z ≤ 16777215
      omega
  have hsum : ∀ pre : List (Fin k), 0 ≤ eK (pre.map rc) ∧ eK (pre.map rc) ≤ 16777215 * ((pre.map rc).length : Int) := fun pre => by
    induction pre with
    | nil => simp [eK]
    | cons i pre ih => have := hsumc i; simp only [List.map_cons, eK, List.length_cons]; omega
  have hnm : ∀ m all, pw ⟨[], jd m all, 3⟩ = true := fun m all => rfl
  have hIown : OwnFrom w.heap.size I := fun pre A B row hs hg hr => Inv.own (hnm _ _) hs hg hr
  have eg : ∀ args w, (callFunc 58 args).run Try.prog w = .ok (.enter 58 args) w := Ji
  refine wpIn_wide.1 (wpIn_block (n := 3) ?_)
  refine wpIn_rangeFunc_ownF (α := Fin k) rfl (by decide) (gf := 58) (lb := #[.pointer (some ⟨g1.g, 0, none⟩), .pointer (some ⟨g2.g, 0, none⟩)]) s30 trivial eg
    (yd 2 g1.g g2.g blk off k cap A hA hk hcap w lt1 lt2 cell1 cell2) ?_ ?_ (Below.refl _ w) (fun _ => rfl) I (fun _ _ _ => False) hIown (fun _ _ _ _ _ hs _ _ => hs) start
    (fun x => ({ tmps := a.tmps.setIfInBounds 31 (.slice (some ⟨blk, off + 6 * x.val, none⟩) 6 6), defers := [] } : Go.Act).put (some 7) (.slice (some ⟨blk, off + 6 * x.val, none⟩) 6 6)) ?assign ?body ?done ?stop
  · exact fun h1 h2 => ⟨fun v h => h2.1 v (h1.1 v h), fun v h => h2.2 v (h1.2 v h)⟩
  · intro W l o o' hl ho hc _
    have cK : ∀ g : Nat, g < w.heap.size → ∀ v, W.cell? ⟨g, 0, none⟩ = some v → (W.putObj l o').cell? ⟨g, 0, none⟩ = some v := fun g hg v h => by
      rw [cell_of_heap (w := W) (World.putObj_heap_other (by omega)) 0]; exact h
    exact ⟨cK _ lt1, cK _ lt2⟩
  case assign =>
    intro l x W K hK
    refine hassign l _ _ _ _ ?_
    have e : ({ tmps := (#[31].zip #[Value.slice (some ⟨blk, off + 6 * x.val, none⟩) 6 6]).foldl (fun t (p, v) => t.setIfInBounds p v) a.tmps, defers := [] } : Go.Act) = { tmps := a.tmps.setIfInBounds 31 (.slice (some ⟨blk, off + 6 * x.val, none⟩) 6 6), defers := [] } := by simp
    rw [e]
    have ev_ : Go.Act.eval { tmps := a.tmps.setIfInBounds 31 (.slice (some ⟨blk, off + 6 * x.val, none⟩) 6 6), defers := [] } (.tmp 31) = .slice (some ⟨blk, off + 6 * x.val, none⟩) 6 6 := by
      show (a.tmps.setIfInBounds 31 _).getD 31 undef = _
      rw [Array.getD_eq_getD_getElem?, Array.getElem?_setIfInBounds_self_of_lt (by omega)]; rfl
    rw [ev_]; exact hK
  case body =>
    intro l pre x W hIp hlen
    obtain ⟨hc1, hc2⟩ := hchunk x
    have hpos : 0 < k := Nat.lt_of_le_of_lt (Nat.zero_le _) x.isLt
    have hAv := hA hpos
    subst hAv
    have hdx : bo T w (.r 1 ((eR L x.val).map fK)) (.slice (some ⟨blk, off + 6 * x.val, none⟩) 6 6) := DJ (c := cap) (by rw [hLk]; exact hx1) (by have := x.isLt; omega)
    let a1 : Go.Act := ({ tmps := a.tmps.setIfInBounds 31 (.slice (some ⟨blk, off + 6 * x.val, none⟩) 6 6), defers := [] } : Go.Act).put (some 7) (.slice (some ⟨blk, off + 6 * x.val, none⟩) 6 6)
    have t7 : a1.tmps.getD 7 undef = .slice (some ⟨blk, off + 6 * x.val, none⟩) 6 6 := by
      show ((a.tmps.setIfInBounds 31 _).setIfInBounds 7 _).getD 7 undef = _
      rw [Array.getD_eq_getD_getElem?, Array.getElem?_setIfInBounds_self_of_lt (by rw [Array.size_setIfInBounds]; omega)]; rfl
    have tj : ∀ j, j ≠ 7 → j ≠ 31 → a1.tmps.getD j undef = a.tmps.getD j undef := fun j h7 h31 => by
      show ((a.tmps.setIfInBounds 31 _).setIfInBounds 7 _).getD j undef = _
      rw [Array.getD_eq_getD_getElem?, Array.getElem?_setIfInBounds_ne (by omega), Array.getElem?_setIfInBounds_ne (by omega), Array.getD_eq_getD_getElem?]
    have hI1 : Inv w F' (75, []) T pins ⟨[(7, aC (cR 1 ((eR L x.val).map fK))), (4, aC (.p 0 0 0 0)), (5, aC (.p 1 0 0 0))], jd (pre.map rc) (eK (pre.map rc)), 3⟩ a1 W := by
      refine Inv.fix hFT ⟨.inl ⟨_, rfl, by rw [t7]; exact hdx⟩, .inr ⟨0, gl, rfl, rfl, by rw [tj 4 (by decide) (by decide)]; exact s4⟩, .inr ⟨1, ga, rfl, rfl, by rw [tj 5 (by decide) (by decide)]; exact s5⟩, trivial⟩ hIp ?_ rfl
      show ((a.tmps.setIfInBounds 31 _).setIfInBounds 7 _).size = 75
      rw [Array.size_setIfInBounds, Array.size_setIfInBounds]; exact sz
    obtain ⟨F2, T2, hI2, f1, f2, f3, bk⟩ := Inv.AY rfl hI1
    have hml : (pre.map rc).length ≤ 254 := by rw [List.length_map]; omega
    have hB := hbody l (3 - 1 - 1) W F2 T2 gl ga (pre.map rc) (eK (pre.map rc)) (eR L x.val) hc1 hc2 hml (hsum pre) (fun _ h => by cases h.1) a1 W hI2
    refine Code.wpIn_mono (fun e a' W' q => ?_) hB
    obtain ⟨st', ⟨rfl, hw⟩, hI3⟩ := q
    have hI4 := hw _ _ _ _ _ _ hI3
    have hI4' := hI4
    obtain ⟨σ4, T4, hT4, S4, hp4⟩ := hI4'
    have hnotF : ∀ g : Nat, g < w.heap.size → g ≠ gl.g → g ≠ ga.g → ¬ F2 g := fun g hg h1 h2 hf => by
      rcases f2 g hf with h | h
      · omega
      · rw [hF'] at h; rcases h with h | h; exact h1 h; exact h2 h
    have hWsz : w.heap.size ≤ W.heap.size := by obtain ⟨_, _, _, S5, _⟩ := hIp; exact S5.size
    have kc : ∀ g : Nat, g < w.heap.size → g ≠ gl.g → g ≠ ga.g → ∀ v, W.cell? ⟨g, 0, none⟩ = some v → W'.cell? ⟨g, 0, none⟩ = some v := fun g hg h1 h2 v h => by
      rw [cell_of_heap (S4.cC g (by omega) (hnotF g hg h1 h2)) 0]; exact h
    refine ⟨⟨S4.size, fun g o ho hc => ?_⟩, ⟨kc _ lt1 (Ne.symm n02) (Ne.symm n12), kc _ lt2 (Ne.symm n03) (Ne.symm n13)⟩, ?_⟩
    · have hlt := (Array.getElem?_eq_some_iff.1 ho).1
      refine (S4.cC g hlt fun hf => ?_).trans ho
      obtain ⟨_, o', ho', hc'⟩ := f1 g hf
      rw [ho] at ho'; injection ho' with ho'; subst ho'; rw [hc] at hc'; cases hc'
    · have h5 := bk hI4
      have h6 : Inv w F' (75, []) T pins ⟨[], jd ((pre ++ [x]).map rc) (eK ((pre ++ [x]).map rc)), 3⟩ a W' := by
        have e1 : (pre ++ [x]).map rc = pre.map rc ++ [recC (eR L x.val)] := by simp [rc]
        have e2 : eK ((pre ++ [x]).map rc) = eK (pre.map rc) + (recC (eR L x.val)).sum := by rw [e1, vV]; simp [eK]
        rw [e2, e1]
        exact Inv.fix hFT trivial h5 sz gU
      exact h6
  case done =>
    intro D xs W hD hS hIx hobj
    have hm : xs.map rc = fR L := by
      have h1 : xs.map rc = (xs.map Fin.val).map fun i => recC (eR L i) := by rw [List.map_map]; rfl
      rw [h1, hS, ← qI k (by omega), List.take_of_length_le (by omega)]
    have hIx : Inv w F' (75, []) T pins ⟨[], jd (xs.map rc) (eK (xs.map rc)), 3⟩ a W := hIx
    rw [hm] at hIx
    let ar : Go.Act := { a with defers := { target := .collected D, args := #[] } :: a.defers }
    have hI1 : Inv w F' (75, [{ target := .collected D, args := #[] }]) T pins ⟨[(0, aC (cR 1 (b.map fK))), (4, aC (.p 0 0 0 0)), (5, aC (.p 1 0 0 0)), (6, aI v6)], jd (fR L) (eK (fR L)), 3⟩ ar W :=
      Inv.fix hFT ⟨fix0, fix4, fix5, fix6, trivial⟩ hIx sz (by show _ :: a.defers = _; rw [gU])
    obtain ⟨F2, T2, hI2, f1, f2, f3, bk⟩ := Inv.AY rfl hI1
    have hR := hrest W F2 _ T2 ar W hI2.HA
    show rest.wp Try.prog _ ar W
    refine Code.wp_mono (fun e a' W' q => ?_) hR
    obtain ⟨st', hq, hI3⟩ := q
    have hobj' : W'.heap[D]? = some (.deferred (some [])) := by
      obtain ⟨_, _, _, S4, _⟩ := hI3
      refine (S4.cC D (Array.getElem?_eq_some_iff.1 hobj).1 fun hf => ?_).trans hobj
      obtain ⟨_, o', ho', hc'⟩ := f1 D hf
      rw [hobj] at ho'; injection ho' with ho'; subst ho'; cases hc'
    exact pj hT0 hq (back (bk hI3)) (.inr ⟨D, rfl, by omega, hobj'⟩)
  case stop =>
    intro D c pre W _ _ h _
    exact h.elim
section
variable {P:Program} {W0:World} {F:Nat->Prop} {N:NT} {T0:Nat->Prop} {pin:List (Nat×bR)} {Q:Exit->aK->Prop}
theorem Cx {r m id:Nat} {l:List Oper} {s s0:List (Nat×AV)} {h h0:List (Nat×AB)} {n:Nat} (lv hv:List Nat) (hm:P.follows .mixedOrders=true) (h1:jO s lv=some s0) (h2:jO h hv=some h0)
  (k:PD P l.toArray ⟨s0,h0,n⟩ (At P W0 F N T0 pin Q l ⟨s0,h0,n⟩) 0 [] n l) (hd:(l.all fun o=>!kd o.op)=true:=by rfl):iU P r m W0 F N T0 pin Q (.region id l.toArray true) ⟨s,h,n⟩:=by
 refine Em (st':=⟨s0,h0,n⟩) (aF.sub (fun i v hi=>jo h1 hi) (fun i v hi=>jo h2 hi) rfl) ?_
 obtain ⟨rows,h3,h4,h5'⟩:=k rfl (fun r hr=>by cases hr)
 obtain ⟨fin,h5,h6,h7⟩:=h5' (mM h1) (mM h2)
 exact En hd rows fin hm h5 h3 (tI h4) h6 h7
end


theorem ER {c:List Int} {x1 x2 x3 n:Int} (hl:c.length=6) (h1:c[0]?=some x1) (h2:c[1]?=some x2) (h3:c[2]?=some x3) (hn:gq (c.drop 3)=n):recC c=⟨x1,x2,x3,n⟩:=by
  match c,hl with
  |[a0,a1,a2,a3,a4,a5],_=>
    simp at h1 h2 h3
    subst h1 h2 h3 hn
    simp [recC,gq]
    omega
theorem EW {d:List Int} {n:Int} (hl:d.length=3) (hb:∀ x∈d,0<=x/\x<=255) (hn:gq d=n):0<=n/\n<=16777215:=by
  match d,hl with
  |[x,y,z],_=>
    have h1:=hb x (by simp);have h2:=hb y (by simp);have h3:=hb z (by simp)
    subst hn
    simp [gq]
    omega
theorem pq {b:List Int} (h:b.length < 5):gz b=([],2):=by
  cases h0:b[0]? with
  |none=>unfold gz;rw [h0]
  |some c=>exact qL h0 (by omega)

theorem Eb (l:List Int):Fn Try.prog 50 [(.c (qB l)),(.c (cI 6))] (.v (.c (.fn 58 [0,1]))) [(0,.box 86 [cR 1 (l.map fK)]),(1,.box 3 [cI 6])]:=by
 refine Fn.mk' 9 [(0,(aC (qB l))),(1,(aI 6))] Try.func50 rfl rfl rfl rfl ?_
 intro W0 T0
 refine dr 0 rfl (fun hlen0=>?_)
 refine ae aa 3 rfl ?_
 refine ag ?_
 refine aH aa 1 rfl ?_
 refine aA (aL rfl rfl rfl (show _=some (Value.bool false) from rfl)) rfl ?_
 refine af ?_
 refine ah rfl (fun hno=>by cases hno) (fun _=>?_)
 refine aQ ?_
 refine eB ?_
 refine aA (wX (ks:=[0,1]) rfl ⟨rfl,rfl,trivial⟩) rfl ?_
 refine ad aa 1 rfl ?_
 refine af ?_
 refine az ?_
 refine an aa [0,1] 2 rfl rfl rfl rfl rfl rfl ?_ ?_
 all_goals first|rfl|(simp [ay];done)|(simp [ay];omega)
theorem yi (b : List Int) (hb : ∀ c ∈ b, 0 ≤ c ∧ c ≤ 255) (hl : b.length ≤ 9223372036854775807) (r : List aj) (e : Int) (hr : gz b = (r, e)) : Fn Try.prog 35 [(.c (qB b))] (.t [(.c (.s 0 0 4 r.length)), (.c (cI e))]) [(0, (cS r))] := by
 refine Fn.JD 75 [(0, (aC (qB b)))] Try.func35 rfl rfl rfl rfl ?_
 intro W0 T0 hT0
 refine oQ.seq ?_
 refine au ?_
 refine ad aa 2 rfl ?_
 refine af ?_
 refine oQ.seq ?_
 refine aH aa 1 rfl ?_
 refine aA (cM rfl rfl rfl rfl rfl Try.underlying86) rfl ?_
 refine ad aa 2 rfl ?_
 refine bI (t := 13) rfl (fun hb1 => ?_) (fun hb1 => ?_)
 ·
  have hb1' := of_decide_eq_true hb1
  refine ad aa 10 rfl ?_
  refine af ?_
  refine ah rfl (fun _ => ?_) (fun hno => by cases hno)
  refine ae aa 2 rfl ?_
  refine az ?_
  refine aq ?_
  refine fun a w hI => pj hT0 (?_ : jm Try.prog Try.f35 [] _ _ _ _) hI (.inl rfl)
  refine cT (aF.nil 2 83 4 (by decide) rfl) ?_
  have hX : gz b = (([] : List aj), 2) := by
    first | exact pq (by omega)
  rw [hX] at hr; clear hX
  simp only [Prod.mk.injEq] at hr; obtain ⟨rfl, rfl⟩ := hr
  refine an aa [0] 1 rfl rfl rfl rfl rfl rfl ?_ ?_
  all_goals first | rfl | (simp [ay]; done) | (simp [ay]; omega)
 ·
  have hb1' := of_decide_eq_false hb1
  refine ad aa 1 rfl ?_
  refine dQ (ak.yes rfl rfl rfl) (cM rfl rfl rfl rfl rfl Try.underlying86) rfl rfl ?_
  refine ad aa 1 rfl ?_
  obtain ⟨x1, hx1⟩ := ck (xs := b) (i := 0) (by first | omega | (simp; done) | (simp; omega))
  have hx1b := hb x1 (by first | exact List.mem_of_getElem? hx1 | exact List.mem_of_mem_drop (List.mem_of_getElem? hx1))
  refine dQ (ak.yes rfl rfl rfl) (cH (i := 0) rfl rfl rfl Try.underlying86 sg (by first | omega | (simp; done) | (simp; omega)) (bw hx1)) rfl rfl ?_
  refine ad aa 1 rfl ?_
  refine dQ (ak.yes rfl rfl rfl) (eI rfl rfl (by rw [Try.underlying5]; rfl) Try.underlying3 (gR (by first | omega | (simp; done) | (simp; omega)))) rfl rfl ?_
  refine dQ (ak.yes rfl rfl rfl) (aL rfl rfl rfl (aJ (by first | omega | (simp; done) | (simp; omega)))) rfl rfl ?_
  refine dQ (ak.yes rfl rfl rfl) (aL rfl rfl rfl (aJ (by first | omega | (simp; done) | (simp; omega)))) rfl rfl ?_
  refine ad aa 2 rfl ?_
  refine af ?_
  refine ah rfl (fun hc3 => ?_) (fun hc3 => ?_)
  ·
   have hc3' := of_decide_eq_true hc3
   refine ae aa 2 rfl ?_
   refine az ?_
   refine aq ?_
   refine fun a w hI => pj hT0 (?_ : jm Try.prog Try.f35 [] _ _ _ _) hI (.inl rfl)
   refine cT (aF.nil 2 83 4 (by decide) rfl) ?_
   have hX : gz b = (([] : List aj), 2) := by
     first | exact pq (by omega) | exact qL hx1 (by omega)
   rw [hX] at hr; clear hX
   simp only [Prod.mk.injEq] at hr; obtain ⟨rfl, rfl⟩ := hr
   refine an aa [0] 1 rfl rfl rfl rfl rfl rfl ?_ ?_
   all_goals first | rfl | (simp [ay]; done) | (simp [ay]; omega)
  ·
   have hc3' := of_decide_eq_false hc3
   refine aQ ?_
   refine oQ.seq ?_
   refine au ?_
   refine ad aa 1 rfl ?_
   refine af ?_
   refine oQ.seq ?_
   refine au ?_
   refine ad aa 2 rfl ?_
   refine af ?_
   refine oQ.seq ?_
   refine au ?_
   refine ad aa 1 rfl ?_
   refine aA (cM rfl rfl rfl rfl rfl Try.underlying86) rfl ?_
   refine aA (aL rfl rfl rfl (aJ (by first | omega | (simp; done) | (simp; omega)))) rfl ?_
   refine ad aa 1 rfl ?_
   refine af ?_
   refine oQ.IB ?_
   refine au ?_
   refine ad aa 2 rfl ?_
   refine aA (kT (l := 1) (h := (b.length) - 4) (ys := (((b).drop 1).take (((b.length) - 4) - 1)).map fK) rfl Try.underlying86 sg rfl (.inr ⟨_, rfl, rfl⟩) (.inr ⟨_, rfl, (sS rfl (by first | omega | (simp; done) | (simp; omega)))⟩) (by first | omega | (simp; done) | (simp; omega)) (by first | omega | (simp; done) | (simp; omega)) (by simp)) rfl ?_
   refine aN 4 [2, 3, 1, 0] (bQ 2 (Eb (((b).drop 1).take (((b.length) - 4) - 1))  ) Jl rfl rfl ⟨⟨_, rfl, .c (.d _)⟩, ⟨_, rfl, .c (.d _)⟩,  trivial⟩ trivial ⟨⟨trivial,  trivial⟩, ⟨trivial,  trivial⟩,  trivial⟩ rfl rfl rfl rfl) rfl ?_
   refine af ?_
   refine fun a w hI => zC b (((b).drop 1).take (((b.length) - 4) - 1)) x1.toNat ((↑b.length : Int) - 4) (by omega) (by rw [List.length_take, List.length_drop]; omega) (fun x hx => hb x (List.mem_of_mem_drop (List.mem_of_mem_take hx))) hT0 ((aF.bW id (by refine ⟨?_, ?_, ?_, ?_, ?_,  trivial⟩ <;> first | rfl | (simp only [bm]; done) | (congr 3; omega) | (congr 4; omega) | (simp only [bn]; rfl)) (by refine ⟨?_, ?_, ?_, ?_,  trivial⟩ <;> first | rfl | (simp only [bm]; done) | (congr 3; omega) | (congr 4; omega) | (simp only [bn]; rfl)) rfl) _ _ _ _ _ _ hI) ?_ ?_ ?_
   · exact fun l n a w K hK => xD rfl rfl hK
   ·
    intro l n W F T g0 g1 m all c hcl hcb hml hall
    unfold jd
    refine Cy ?_
    refine zk ?_
    obtain ⟨x2, hx2⟩ := ck (xs := c) (i := 0) (by first | omega | (simp; done) | (simp; omega))
    have hx2b := hcb x2 (List.mem_of_getElem? hx2)
    obtain ⟨x3, hx3⟩ := ck (xs := c) (i := 1) (by first | omega | (simp; done) | (simp; omega))
    have hx3b := hcb x3 (List.mem_of_getElem? hx3)
    obtain ⟨x4, hx4⟩ := ck (xs := c) (i := 2) (by first | omega | (simp; done) | (simp; omega))
    have hx4b := hcb x4 (List.mem_of_getElem? hx4)
    obtain ⟨n0, hr0⟩ : ∃ (n0 : Int), gq ((c).drop 3) = n0 := ⟨_, rfl⟩
    have hnb := EW (by simp; omega) (fun x hx => hcb x (List.mem_of_mem_drop hx)) hr0
    refine Cx [7, 4, 5] [2, 1, 0] mixed rfl rfl ?_
    refine aE (kn := []) aa 1 rfl trivial ?_
    refine aU (n' := 3) [32] [] rfl rfl (.inl ⟨(ak.plain rfl), aM.cast (cH (i := 0) rfl rfl rfl Try.underlying86 sg (by first | omega | (simp; done) | (simp; omega)) (bw hx2)) rfl⟩) rfl ?_
    refine aE (kn := []) aa 1 rfl trivial ?_
    refine aU (n' := 3) [34] [] rfl rfl (.inl ⟨(ak.plain rfl), aM.cast (eI rfl rfl (by rw [Try.underlying5]; rfl) Try.underlying3 (gR (by first | omega | (simp; done) | (simp; omega)))) rfl⟩) rfl ?_
    refine aE (kn := []) aa 1 rfl trivial ?_
    refine aU (n' := 3) [36] [] rfl rfl (.inl ⟨(ak.plain rfl), aM.cast (cH (i := 1) rfl rfl rfl Try.underlying86 sg (by first | omega | (simp; done) | (simp; omega)) (bw hx3)) rfl⟩) rfl ?_
    refine aE (kn := []) aa 1 rfl trivial ?_
    refine aU (n' := 3) [38] [] rfl rfl (.inl ⟨(ak.plain rfl), aM.cast (eI rfl rfl (by rw [Try.underlying5]; rfl) Try.underlying3 (gR (by first | omega | (simp; done) | (simp; omega)))) rfl⟩) rfl ?_
    refine aE (kn := []) aa 1 rfl trivial ?_
    refine aU (n' := 3) [40] [] rfl rfl (.inl ⟨(ak.plain rfl), aM.cast (cH (i := 2) rfl rfl rfl Try.underlying86 sg (by first | omega | (simp; done) | (simp; omega)) (bw hx4)) rfl⟩) rfl ?_
    refine aE (kn := []) aa 1 rfl trivial ?_
    refine aU (n' := 3) [42] [] rfl rfl (.inl ⟨(ak.plain rfl), aM.cast (eI rfl rfl (by rw [Try.underlying5]; rfl) Try.underlying3 (gR (by first | omega | (simp; done) | (simp; omega)))) rfl⟩) rfl ?_
    refine aE (kn := []) aa 1 rfl trivial ?_
    refine aU (n' := 3) [44] [] rfl rfl (.inl ⟨(ak.plain rfl), aM.cast (kT (l := 3) (h := c.length) (ys := ((c).drop 3).map fK) rfl Try.underlying86 sg rfl (.inr ⟨_, rfl, rfl⟩) (.inl ⟨rfl, by simp⟩) (by first | omega | (simp; done) | (simp; omega)) (by first | omega | (simp; done) | (simp; omega)) (by first | (simp; done) | (rw [List.map_drop]; exact List.take_of_length_le (by simp)))) rfl⟩) rfl ?_
    refine aU (n' := 3) [45] [] rfl rfl (.inl ⟨(ak.plain rfl), aM.cast (bQ 3 (rQ ((c).drop 3) (by first | assumption | exact fun c hc => hb c (List.mem_of_mem_drop hc) | exact fun x hx => hcb x (List.mem_of_mem_drop hx)) (by first | omega | (simp; done) | (simp; omega)) n0 hr0) DB rfl rfl ⟨⟨_, rfl, .c (.d _)⟩,  trivial⟩ trivial trivial rfl rfl rfl rfl) rfl⟩) rfl ?_
    refine aE (n' := 4) (kn := []) aa 2 rfl trivial ?_
    refine bC [3, 2, 1, 0] rfl rfl rfl rfl (by kernel_rfl) ?_
    refine ad aa 1 rfl ?_
    refine af ?_
    refine zk ?_
    refine tw rfl ?_
    refine ad aa 2 rfl ?_
    refine aN 5 [4, 3, 2, 1, 0] (dy (ys := [(0, (.g [(cI (x2 : Int)), (cI (x3 : Int)), (cI (x4 : Int)), (cI n0)]))]) (rows := ([(⟨(x2 : Int), (x3 : Int), (x4 : Int), n0⟩ : aj)]).map gj) 4 tE rfl (by decide) ⟨⟨rfl, rfl⟩,  trivial⟩ rfl rfl rfl rfl) rfl ?_
    refine aN 6 [5, 4, 3, 1, 0] (cX (m := 1) (N := m.length + 1) (k2 := 5) (ys := ([(⟨(x2 : Int), (x3 : Int), (x4 : Int), n0⟩ : aj)]).map gj) tE rfl rfl rfl rfl rfl rfl (by first | omega | (simp; done) | (simp; omega)) rfl (.s rfl (by first | omega | (simp; done) | (simp; omega))) (by first | omega | (simp; done) | (simp; omega)) (by first | omega | (simp; done) | (simp; omega)) eH (by decide) (by first | omega | (simp; done) | (simp; omega)) (by first | omega | (simp; done) | (simp; omega))) rfl ?_
    refine ad aa 1 rfl ?_
    refine af ?_
    refine tw rfl ?_
    refine ad aa 3 rfl ?_
    refine aA (aL rfl rfl rfl (aJ (by first | omega | (simp; done) | (simp; omega)))) rfl ?_
    refine ad aa 1 rfl ?_
    refine bY ?_
    refine bh ?_
    refine ⟨rfl, ?_⟩
    rw [ER hcl hx2 hx3 hx4 hr0]
    exact aF.bW (fun k => if k = 2 then 5 else k) trivial (by refine ⟨?_, ?_, ?_,  trivial⟩ <;> first | rfl | (simp only [bm]; done) | (congr 3; omega) | (congr 4; omega) | (simp only [bn]; rfl)) rfl
   ·
    intro W F ds T
    unfold jd
    have hml := (uZ x1.toNat (d := ((b).drop 1).take (((b.length) - 4) - 1)) (by rw [List.length_take, List.length_drop]; omega) (fun x hx => hb x (List.mem_of_mem_drop (List.mem_of_mem_take hx)))).2
    generalize hm : fR (((b).drop 1).take (((b.length) - 4) - 1)) = m at hml ⊢
    refine ag ?_
    refine aH aa 1 rfl ?_
    obtain ⟨f1, hr1⟩ : ∃ (f1 : dc), eO m = f1 := ⟨_, rfl⟩
    refine aN 3 [2, 1, 0] (ff 3 [2] (qT m  f1 hr1) GS rfl rfl ⟨⟨_, rfl, .c (.s rfl (by decide) (by first | omega | (simp; done) | (simp; omega)))⟩,  trivial⟩ ⟨rfl, rfl,  trivial⟩ trivial rfl rfl rfl rfl) rfl ?_
    refine ad aa 2 rfl ?_
    refine af ?_
    refine ae aa 3 rfl ?_
    refine ah rfl (fun hc4 => ?_) (fun hc4 => ?_)
    ·
     have hc4' := of_decide_eq_true hc4
     refine ag ?_
     refine ba [0, 4, 5, 6, 9] [3, 2, 1, 0] mixed rfl rfl ?_
     refine aE (kn := []) aa 4 rfl trivial ?_
     refine bC [3, 2, 1, 0] rfl rfl rfl rfl (by kernel_rfl) ?_
     refine af ?_
     refine az ?_
     refine aq ?_
     refine cT (aF.nil 2 83 4 (by decide) rfl) ?_
     have hX : gz b = (([] : List aj), f1.err) := by
       rw [lu hx1 (by omega) (show m = _ by rw [← hm]; congr 2 <;> omega)]; rw [if_neg (by rw [hr1]; omega), hr1]
     rw [hX] at hr; clear hX
     simp only [Prod.mk.injEq] at hr; obtain ⟨rfl, rfl⟩ := hr
     refine an aa [4] 1 rfl rfl rfl rfl rfl rfl ?_ ?_
     all_goals first | rfl | (simp [ay]; done) | (simp [ay]; omega)
    ·
     have hc4' := of_decide_eq_false hc4
     refine aQ ?_
     refine ag ?_
     refine ag ?_
     obtain ⟨n2, hr2⟩ : ∃ (n2 : Int), gq ((b).drop ((b.length) - 4)) = n2 := ⟨_, rfl⟩
     rcases Bool.eq_false_or_eq_true (decide (¬ (eK m) = n2)) with hb5 | hb5
     ·
      have hb5' := of_decide_eq_true hb5
      refine ba [0, 4, 5, 6] [2, 1, 0] mixed rfl rfl ?_
      refine aE (kn := []) aa 3 rfl trivial ?_
      refine aU (n' := 4) [64, 65] [] rfl rfl (.inl ⟨(ak.plain rfl), aM.cast (kT (l := (b.length) - 4) (h := b.length) (ys := ((b).drop ((b.length) - 4)).map fK) rfl Try.underlying86 sg rfl (.inr ⟨_, rfl, (sS rfl (by first | omega | (simp; done) | (simp; omega)))⟩) (.inl ⟨rfl, by simp⟩) (by first | omega | (simp; done) | (simp; omega)) (by first | omega | (simp; done) | (simp; omega)) (by first | (simp; done) | (rw [List.map_drop]; exact List.take_of_length_le (by simp)))) rfl⟩) rfl ?_
      refine aU (n' := 4) [66] [] rfl rfl (.inl ⟨(ak.plain rfl), aM.cast (bQ 4 (rQ ((b).drop ((b.length) - 4)) (by first | assumption | exact fun c hc => hb c (List.mem_of_mem_drop hc) | exact fun x hx => hcb x (List.mem_of_mem_drop hx)) (by first | omega | (simp; done) | (simp; omega)) n2 hr2) DB rfl rfl ⟨⟨_, rfl, .c (.d _)⟩,  trivial⟩ trivial trivial rfl rfl rfl rfl) rfl⟩) rfl ?_
      refine aE (kn := [(68, true)]) aa 6 rfl ⟨hb5, trivial⟩ ?_
      refine bC [2, 1, 0] rfl rfl rfl rfl (by kernel_rfl) ?_
      refine af ?_
      refine ah rfl (fun _ => ?_) (fun hno => by cases hno)
      refine ae aa 2 rfl ?_
      refine az ?_
      refine aq ?_
      refine cT (aF.nil 2 83 4 (by decide) rfl) ?_
      have hX : gz b = (([] : List aj), 8) := by
        rw [lu hx1 (by omega) (show m = _ by rw [← hm]; congr 2 <;> omega)]
        have hdn : gq (b.drop (b.length - 4)) = _ := (show gq (b.drop (b.length - 4)) = gq ((b).drop ((b.length) - 4)) by congr 2 <;> omega).trans hr2
        rw [if_pos (by rw [hr1]; omega)]
        rw [if_neg]
        rintro ⟨h1, h2⟩
        rw [hdn] at h1; omega
      rw [hX] at hr; clear hX
      simp only [Prod.mk.injEq] at hr; obtain ⟨rfl, rfl⟩ := hr
      refine an aa [4] 1 rfl rfl rfl rfl rfl rfl ?_ ?_
      all_goals first | rfl | (simp [ay]; done) | (simp [ay]; omega)
     ·
      have hb5' := of_decide_eq_false hb5
      obtain ⟨r3, hr3⟩ : ∃ (r3 : Bool), oX m = r3 := ⟨_, rfl⟩
      refine ba [0, 4, 5, 6] [2, 1, 0] mixed rfl rfl ?_
      refine aE (kn := []) aa 3 rfl trivial ?_
      refine aU (n' := 4) [64, 65] [] rfl rfl (.inl ⟨(ak.plain rfl), aM.cast (kT (l := (b.length) - 4) (h := b.length) (ys := ((b).drop ((b.length) - 4)).map fK) rfl Try.underlying86 sg rfl (.inr ⟨_, rfl, (sS rfl (by first | omega | (simp; done) | (simp; omega)))⟩) (.inl ⟨rfl, by simp⟩) (by first | omega | (simp; done) | (simp; omega)) (by first | omega | (simp; done) | (simp; omega)) (by first | (simp; done) | (rw [List.map_drop]; exact List.take_of_length_le (by simp)))) rfl⟩) rfl ?_
      refine aU (n' := 4) [66] [] rfl rfl (.inl ⟨(ak.plain rfl), aM.cast (bQ 4 (rQ ((b).drop ((b.length) - 4)) (by first | assumption | exact fun c hc => hb c (List.mem_of_mem_drop hc) | exact fun x hx => hcb x (List.mem_of_mem_drop hx)) (by first | omega | (simp; done) | (simp; omega)) n2 hr2) DB rfl rfl ⟨⟨_, rfl, .c (.d _)⟩,  trivial⟩ trivial trivial rfl rfl rfl rfl) rfl⟩) rfl ?_
      refine aE (kn := [(68, false)]) aa 3 rfl ⟨hb5, trivial⟩ ?_
      refine aU (n' := 4) [70, 69] [2] rfl rfl (.inl ⟨(ak.yes rfl rfl rfl), aM.cast (ff 4 [2] (Ak m 53 ([]) (fun x y => uc x y) DA  r3 hr3) Jk rfl rfl ⟨⟨_, rfl, .c (.s rfl (by decide) (by first | omega | (simp; done) | (simp; omega)))⟩, ⟨_, rfl, .c (.fn trivial)⟩,  trivial⟩ rfl trivial rfl rfl rfl rfl) rfl⟩) rfl ?_
      refine aE (kn := []) aa 2 rfl trivial ?_
      refine bC [2, 1, 0] rfl rfl rfl rfl (by kernel_rfl) ?_
      refine af ?_
      refine ah rfl (fun hc7 => ?_) (fun hc7 => ?_)
      ·
       have hc7' := hc7; try simp only [bu, bU] at hc7'
       refine ae aa 2 rfl ?_
       refine az ?_
       refine aq ?_
       refine cT (aF.nil 2 83 4 (by decide) rfl) ?_
       have hX : gz b = (([] : List aj), 8) := by
         rw [lu hx1 (by omega) (show m = _ by rw [← hm]; congr 2 <;> omega)]
         have hdn : gq (b.drop (b.length - 4)) = _ := (show gq (b.drop (b.length - 4)) = gq ((b).drop ((b.length) - 4)) by congr 2 <;> omega).trans hr2
         rw [if_pos (by rw [hr1]; omega)]
         rw [if_neg]
         rintro ⟨h1, h2⟩
         have h3 : oX m = true := decide_eq_true h2
         rw [hr3] at h3; simp_all
       rw [hX] at hr; clear hX
       simp only [Prod.mk.injEq] at hr; obtain ⟨rfl, rfl⟩ := hr
       refine an aa [4] 1 rfl rfl rfl rfl rfl rfl ?_ ?_
       all_goals first | rfl | (simp [ay]; done) | (simp [ay]; omega)
      ·
       have hc7' := hc7; try simp only [bu, bU] at hc7'
       refine aQ ?_
       refine ae aa 3 rfl ?_
       refine az ?_
       have hX : gz b = (m, 0) := by
         rw [lu hx1 (by omega) (show m = _ by rw [← hm]; congr 2 <;> omega)]
         have hdn : gq (b.drop (b.length - 4)) = _ := (show gq (b.drop (b.length - 4)) = gq ((b).drop ((b.length) - 4)) by congr 2 <;> omega).trans hr2
         rw [if_pos (by rw [hr1]; omega)]
         rw [if_pos]
         refine ⟨by rw [hdn]; omega, ?_⟩
         have h3 : oX m = true := by rw [hr3]; simp_all
         exact of_decide_eq_true h3
       rw [hX] at hr; clear hX
       simp only [Prod.mk.injEq] at hr; obtain ⟨rfl, rfl⟩ := hr
       refine an aa [2] 1 rfl rfl rfl rfl rfl rfl ?_ ?_
       all_goals first | rfl | (simp [ay]; done) | (simp [ay]; omega)


theorem pS (l:List aj) (s:Int) (hs:∀ x∈l,0<=x.sum/\x.sum<=1000000) (hl:l.length<=1000000) (n:Int) (hr:fH l s=n):Fn Try.prog 39 [(.c (iy l)),(.c (cI s))] (.v (.c (cI n))) []:=by
 refine Fn.mk' 36 [(0,(aC (iy l))),(1,(aI s))] Try.func39 rfl rfl rfl rfl ?_
 intro W0 T0
 refine dr 0 rfl (fun hlen0=>?_)
 refine ae aa 1 rfl ?_
 refine ae aa 1 rfl ?_
 refine ag ?_
 refine aH aa 1 rfl ?_
 refine aA (cM rfl rfl rfl rfl rfl Try.underlying42) rfl ?_
 refine ad aa 1 rfl ?_
 refine af ?_
 refine aX ?_
 refine cw (β:=Nat×Int) (fun (p:Nat×Int)=>match p with|(q,m)=>⟨[(1,(aI s)),(4,(aI 0)),(5,(aI m)),(8,(aC (iy l))),(9,(aI (↑l.length:Int))),(10,(aI (↑q:Int)))],[],0⟩) (fun (p:Nat×Int)=>match p with|(q,m)=>q<=l.length/\m=fH (l.take q) s/\-1000000 * (q:Int)<=m/\m<=1000000 * (q:Int)) (fun (p:Nat×Int)=>match p with|(q,m)=>l.length - q) (0,0) ?_ ?_ ?_
 ·exact ⟨by omega,rfl,by omega⟩
 ·exact aF.bW id (by refine ⟨?_,?_,?_,?_,?_,?_,trivial⟩<;>first|rfl|(simp only [bm];done)|(congr 3;omega)|(congr 4;omega)|(simp only [bn];rfl)) (trivial) rfl
 rintro ⟨q,m⟩ ⟨hi0_0,hi0_1,hi0_2⟩
 refine ae aa 1 rfl ?_
 refine ag ?_
 refine ah rfl (fun hc1=>?_) (fun hc1=>?_)
 ·
  have hc1':=of_decide_eq_true hc1
  refine aQ ?_
  refine ag ?_
  refine aX ?_
  refine eB ?_
  obtain ⟨x1,hx1⟩:=ck (xs:=l) (i:=q) (by first|omega|(simp;done)|(simp;omega))
  have hx1b:=hs x1 (List.mem_of_getElem? hx1)
  refine aA (cH (i:=q) rfl rfl rfl Try.underlying42 dt (by first|omega|(simp;done)|(simp;omega)) (bw hx1)) rfl ?_
  refine ad aa 3 rfl ?_
  refine af ?_
  refine ag ?_
  refine ae aa 4 rfl ?_
  refine ah rfl (fun hc2=>?_) (fun hc2=>?_)
  ·
   have hc2':=of_decide_eq_true hc2
   refine cj ?_
   refine aP ?_
   refine bK ?_
   refine then_ok ?_
   refine au ?_
   refine aA (aL rfl rfl rfl (aJ (by first|omega|(simp;done)|(simp;omega)))) rfl ?_
   refine ad aa 1 rfl ?_
   refine af ?_
   refine ⟨(q+1,m),⟨by omega,by rw [ka hx1,<-hi0_1];unfold lD;(repeat' split)<;>omega,by omega⟩,by first|omega|(simp;done)|(simp;omega),aF.bW id (by refine ⟨?_,?_,?_,?_,?_,?_,trivial⟩<;>first|rfl|(simp only [bm];done)|(congr 3;omega)|(congr 4;omega)|(simp only [bn];rfl)) (trivial) rfl⟩
  have hc2':=of_decide_eq_false hc2
  refine aQ ?_
  refine ae aa 2 rfl ?_
  refine aX ?_
  refine ag ?_
  refine ae aa 2 rfl ?_
  refine ah rfl (fun hc3=>?_) (fun hc3=>?_)
  ·
   have hc3':=of_decide_eq_true hc3
   refine aQ ?_
   refine ah rfl (fun _=>?_) (fun hno=>absurd (hc3.symm.trans hno) (by decide))
   refine au ?_
   refine ad aa 3 rfl ?_
   refine aA (aL rfl rfl rfl (aJ (by first|omega|(simp;done)|(simp;omega)))) rfl ?_
   refine ad aa 1 rfl ?_
   refine bY ?_
   refine bh ?_
   refine bh ?_
   refine then_ok ?_
   refine au ?_
   refine aA (aL rfl rfl rfl (aJ (by first|omega|(simp;done)|(simp;omega)))) rfl ?_
   refine ad aa 1 rfl ?_
   refine af ?_
   refine ⟨(q+1,m+x1.sum),⟨by omega,by rw [ka hx1,<-hi0_1];unfold lD;(repeat' split)<;>omega,by omega⟩,by first|omega|(simp;done)|(simp;omega),aF.bW id (by refine ⟨?_,?_,?_,?_,?_,?_,trivial⟩<;>first|rfl|(simp only [bm];done)|(congr 3;omega)|(congr 4;omega)|(simp only [bn];rfl)) (trivial) rfl⟩
  have hc3':=of_decide_eq_false hc3
  refine au ?_
  refine ad aa 2 rfl ?_
  refine af ?_
  refine ah rfl (fun hc5=>?_) (fun hc5=>?_)
  ·
   have hc5':=of_decide_eq_true hc5
   refine au ?_
   refine ad aa 3 rfl ?_
   refine aA (aL rfl rfl rfl (aJ (by first|omega|(simp;done)|(simp;omega)))) rfl ?_
   refine ad aa 1 rfl ?_
   refine bY ?_
   refine bh ?_
   refine bh ?_
   refine then_ok ?_
   refine au ?_
   refine aA (aL rfl rfl rfl (aJ (by first|omega|(simp;done)|(simp;omega)))) rfl ?_
   refine ad aa 1 rfl ?_
   refine af ?_
   refine ⟨(q+1,m+x1.sum),⟨by omega,by rw [ka hx1,<-hi0_1];unfold lD;(repeat' split)<;>omega,by omega⟩,by first|omega|(simp;done)|(simp;omega),aF.bW id (by refine ⟨?_,?_,?_,?_,?_,?_,trivial⟩<;>first|rfl|(simp only [bm];done)|(congr 3;omega)|(congr 4;omega)|(simp only [bn];rfl)) (trivial) rfl⟩
  have hc5':=of_decide_eq_false hc5
  refine ag ?_
  refine ae aa 2 rfl ?_
  refine ah rfl (fun hc6=>?_) (fun hc6=>?_)
  ·
   have hc6':=of_decide_eq_true hc6
   refine aQ ?_
   refine ah rfl (fun _=>?_) (fun hno=>absurd (hc6.symm.trans hno) (by decide))
   refine au ?_
   refine ad aa 3 rfl ?_
   refine aA (aL rfl rfl rfl (aJ (by first|omega|(simp;done)|(simp;omega)))) rfl ?_
   refine ad aa 1 rfl ?_
   refine bY ?_
   refine bh ?_
   refine bh ?_
   refine then_ok ?_
   refine au ?_
   refine aA (aL rfl rfl rfl (aJ (by first|omega|(simp;done)|(simp;omega)))) rfl ?_
   refine ad aa 1 rfl ?_
   refine af ?_
   refine ⟨(q+1,m - x1.sum),⟨by omega,by rw [ka hx1,<-hi0_1];unfold lD;(repeat' split)<;>omega,by omega⟩,by first|omega|(simp;done)|(simp;omega),aF.bW id (by refine ⟨?_,?_,?_,?_,?_,?_,trivial⟩<;>first|rfl|(simp only [bm];done)|(congr 3;omega)|(congr 4;omega)|(simp only [bn];rfl)) (trivial) rfl⟩
  have hc6':=of_decide_eq_false hc6
  refine au ?_
  refine ad aa 2 rfl ?_
  refine af ?_
  refine ah rfl (fun hc8=>?_) (fun hc8=>?_)
  ·
   have hc8':=of_decide_eq_true hc8
   refine au ?_
   refine ad aa 3 rfl ?_
   refine aA (aL rfl rfl rfl (aJ (by first|omega|(simp;done)|(simp;omega)))) rfl ?_
   refine ad aa 1 rfl ?_
   refine bY ?_
   refine bh ?_
   refine bh ?_
   refine then_ok ?_
   refine au ?_
   refine aA (aL rfl rfl rfl (aJ (by first|omega|(simp;done)|(simp;omega)))) rfl ?_
   refine ad aa 1 rfl ?_
   refine af ?_
   refine ⟨(q+1,m - x1.sum),⟨by omega,by rw [ka hx1,<-hi0_1];unfold lD;(repeat' split)<;>omega,by omega⟩,by first|omega|(simp;done)|(simp;omega),aF.bW id (by refine ⟨?_,?_,?_,?_,?_,?_,trivial⟩<;>first|rfl|(simp only [bm];done)|(congr 3;omega)|(congr 4;omega)|(simp only [bn];rfl)) (trivial) rfl⟩
  have hc8':=of_decide_eq_false hc8
  refine cZ ?_
  refine bh ?_
  refine bh ?_
  refine then_ok ?_
  refine au ?_
  refine aA (aL rfl rfl rfl (aJ (by first|omega|(simp;done)|(simp;omega)))) rfl ?_
  refine ad aa 1 rfl ?_
  refine af ?_
  refine ⟨(q+1,m),⟨by omega,by rw [ka hx1,<-hi0_1];unfold lD;(repeat' split)<;>omega,by omega⟩,by first|omega|(simp;done)|(simp;omega),aF.bW id (by refine ⟨?_,?_,?_,?_,?_,?_,trivial⟩<;>first|rfl|(simp only [bm];done)|(congr 3;omega)|(congr 4;omega)|(simp only [bn];rfl)) (trivial) rfl⟩
 have hc1':=of_decide_eq_false hc1
 refine cj ?_
 refine aP ?_
 refine aP ?_
 refine bK ?_
 refine then_ok ?_
 refine ae aa 2 rfl ?_
 refine az ?_
 have hX:fH l s=m:=by
   rw [hi0_1,CY (by omega)]
 rw [hX] at hr;clear hX
 subst hr
 refine an aa [] 0 rfl rfl rfl rfl rfl rfl ?_ ?_
 all_goals first|rfl|(simp [ay];done)|(simp [ay];omega)
end Go.Proofs.Ytegepioggeggaaa.Dev
