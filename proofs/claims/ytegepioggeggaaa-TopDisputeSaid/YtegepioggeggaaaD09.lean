/- A part of the proof: Stand1, Stand2, Stand4, Stand5, Sort1, Sort2, Sort3. No condition. -/
import Derived.Test.YtegepioggeggaaaD06
set_option linter.unusedVariables false
set_option linter.unusedSimpArgs false
set_option maxHeartbeats 1000000
set_option maxRecDepth 100000
namespace Go.Proofs.Ytegepioggeggaaa.Dev
open Go.RowKit

theorem uc (cap:Int) (used:List Int) (advs:List ca):Fn Try.prog 30 [(.g [(cI cap),(fC used),(gz advs)])] (aI (bU ⟨cap,used,advs⟩)) []:=by
 refine Fn.mk' 109 [(0,(aG [(cI cap),(fC used),(gz advs)]))] Try.func30 rfl rfl rfl rfl ?_
 intro W0 T0
 refine fl 0 1 rfl rfl (fun hlen0_1=>?_)
 refine fl 0 2 rfl rfl (fun hlen0_2=>?_)
 refine ad aa 2 rfl ?_
 refine af ?_
 refine cq 17 ((decide ((↑used.length:Int) > 8))||(decide ((↑advs.length:Int) > 20))) ?_ ?_
 ·
  refine aw ?_
  refine ab aa 2 rfl ?_
  refine ay (cT rfl rfl rfl rfl rfl Try.underlying30) rfl ?_
  refine ab aa 2 rfl ?_
  refine bA (t:=12) rfl (fun hb1=>?_) (fun hb1=>?_)
  ·
   have hb1':=of_decide_eq_true hb1
   refine ab aa 5 rfl ?_
   refine ae ?_
   exact aD.bG 11 rfl rfl (by first|(simp [hb1];done)|(simp_all;done)|(exfalso;simp_all;done)|(simp_all;omega)) rfl
  have hb1':=of_decide_eq_false hb1
  refine ab aa 2 rfl ?_
  refine dF (ak.yes rfl rfl rfl) (cT rfl rfl rfl rfl rfl Try.underlying39) rfl rfl ?_
  refine ab aa 2 rfl ?_
  refine ae ?_
  exact aD.bG 11 rfl rfl (by first|(simp [hb1];done)|(simp_all;done)|(exfalso;simp_all;done)|(simp_all;omega)) rfl
 refine ag rfl (fun hc2=>?_) (fun hc2=>?_)
 ·
  have hc2':=hc2;try simp only [bm,bM] at hc2'
  refine ad aa 1 rfl ?_
  refine ar ?_
  refine ao ?_
  refine ah aa [] 0 rfl rfl rfl rfl rfl rfl ?_ ?_
  ·(have h:=nW (s:=⟨cap,used,advs⟩) (show 8 < used.length\/20 < advs.length by omega));show aI _=aI _;rw [h]
  ·rfl
 have hc2':=hc2;try simp only [bm,bM] at hc2'
 refine aP ?_
 refine af ?_
 refine cq 25 ((decide (cap < 0))||(decide (cap > 1000000))) ?_ ?_
 ·
  refine aw ?_
  refine ab aa 4 rfl ?_
  refine bA (t:=21) rfl (fun hb3=>?_) (fun hb3=>?_)
  ·
   have hb3':=of_decide_eq_true hb3
   refine ab aa 4 rfl ?_
   refine ae ?_
   exact aD.bG 9 rfl rfl (by first|(simp [hb3];done)|(simp_all;done)|(exfalso;simp_all;done)|(simp_all;omega)) rfl
  have hb3':=of_decide_eq_false hb3
  refine ab aa 4 rfl ?_
  refine ae ?_
  exact aD.bG 9 rfl rfl (by first|(simp [hb3];done)|(simp_all;done)|(exfalso;simp_all;done)|(simp_all;omega)) rfl
 refine ag rfl (fun hc4=>?_) (fun hc4=>?_)
 ·
  have hc4':=hc4;try simp only [bm,bM] at hc4'
  refine ad aa 1 rfl ?_
  refine ar ?_
  refine ao ?_
  refine ah aa [] 0 rfl rfl rfl rfl rfl rfl ?_ ?_
  ·(have h:=mw (s:=⟨cap,used,advs⟩) (show ¬(8 < (⟨cap,used,advs⟩:cw).used.length\/20 < (⟨cap,used,advs⟩:cw).aX.length) by simp only;omega) (show gb cap=false by simp only [gb,decide_eq_false_iff_not];omega));show aI _=aI _;rw [h]
  ·rfl
 have hc4':=hc4;try simp only [bm,bM] at hc4'
 refine aP ?_
 refine az aa 2 rfl ?_
 refine ay (cT rfl rfl rfl rfl rfl Try.underlying30) rfl ?_
 refine aL 2 [1,0] (pe 1 ml CD rfl rfl rfl (n:=used.length) (by first|omega|(simp;omega)|(simp [dj];omega)) (by first|omega|(simp;omega)|(simp [dj];omega)) (by first|omega|(simp;omega)|(simp [dj];omega)) (by first|omega|(simp;omega)|(simp [dj];omega))) rfl ?_
 refine ab aa 1 rfl ?_
 refine ae ?_
 refine af ?_
 refine az aa 2 rfl ?_
 refine ay (cT rfl rfl rfl rfl rfl Try.underlying39) rfl ?_
 refine ab aa 1 rfl ?_
 refine ae ?_
 refine aV ?_
 refine cx (β:=Nat) (fun (q:Nat)=>⟨[(1,(aC (.p 0 0 0 0))),(3,(aC (.s 1 0 1 used.length))),(31,(aC (gz advs))),(32,(aI (↑advs.length:Int))),(33,(aI (↑q:Int)))],[(1,(dL (iN used.length (advs.take q)))),(0,(.box 41 [(cI cap),(fC used),(gz advs)]))],2⟩) (fun (q:Nat)=>q<=advs.length/\(advs.take q).all (gr used.length)=true) (fun (q:Nat)=>advs.length - q) 0 ?_ ?_ ?_
 ·exact ⟨by omega,by simp⟩
 ·exact aD.bY id (by refine ⟨?_,?_,?_,?_,?_,trivial⟩<;>first|rfl|(simp only [bn];done)|(congr 3;omega)|(congr 4;omega)|(simp only [bo];rfl)) (by refine ⟨?_,?_,trivial⟩<;>first|rfl|(simp only [bn];done)|(congr 3;omega)|(congr 4;omega)|(simp only [bo];rfl)|((rw [List.take_zero,<-zk];rfl))) rfl
 rintro q ⟨hi0_0,hi0_1⟩
 refine ad aa 1 rfl ?_
 refine af ?_
 refine ag rfl (fun hc5=>?_) (fun hc5=>?_)
 ·
  have hc5':=of_decide_eq_true hc5
  refine aP ?_
  refine af ?_
  refine aV ?_
  refine eE ?_
  obtain ⟨x1,hx1⟩:=ch (xs:=advs) (i:=q) (by first|omega|(simp [dj];omega))
  refine ay (cQ (i:=q) rfl rfl rfl Try.underlying39 CG (by first|omega|(simp;omega)|(simp [dj];omega)) (bw hx1)) rfl ?_
  refine ab aa 3 rfl ?_
  refine ae ?_
  refine af ?_
  refine cq 77 ((((((((decide (x1.aJ < 0))||(decide (x1.aJ>=(↑used.length:Int))))||(decide (x1.ax < 0)))||(decide (x1.ax>=8)))||(decide (x1.sum < 1)))||(decide (x1.sum > 1000000)))||(decide (x1.time < 0)))||(decide (x1.time > 1000000))) ?_ ?_
  ·
   refine aw ?_
   refine ab aa 4 rfl ?_
   refine bA (t:=40) rfl (fun hb6=>?_) (fun hb6=>?_)
   ·
    have hb6':=of_decide_eq_true hb6
    refine ab aa 37 rfl ?_
    refine ae ?_
    exact aD.bG 42 rfl rfl (by first|(simp [hb6];done)|(simp_all;done)|(exfalso;simp_all;done)|(simp_all;omega)) rfl
   have hb6':=of_decide_eq_false hb6
   refine ab aa 4 rfl ?_
   refine dF (ak.yes rfl rfl rfl) (cT rfl rfl rfl rfl rfl Try.underlying30) rfl rfl ?_
   refine ab aa 3 rfl ?_
   refine bA (t:=48) rfl (fun hb7=>?_) (fun hb7=>?_)
   ·
    have hb7':=of_decide_eq_true hb7
    refine ab aa 29 rfl ?_
    refine ae ?_
    exact aD.bG 43 rfl rfl (by first|(simp [hb6,hb7];done)|(simp_all;done)|(exfalso;simp_all;done)|(simp_all;omega)) rfl
   have hb7':=of_decide_eq_false hb7
   refine ab aa 5 rfl ?_
   refine bA (t:=53) rfl (fun hb8=>?_) (fun hb8=>?_)
   ·
    have hb8':=of_decide_eq_true hb8
    refine ab aa 24 rfl ?_
    refine ae ?_
    exact aD.bG 44 rfl rfl (by first|(simp [hb6,hb7,hb8];done)|(simp_all;done)|(exfalso;simp_all;done)|(simp_all;omega)) rfl
   have hb8':=of_decide_eq_false hb8
   refine ab aa 5 rfl ?_
   refine bA (t:=58) rfl (fun hb9=>?_) (fun hb9=>?_)
   ·
    have hb9':=of_decide_eq_true hb9
    refine ab aa 19 rfl ?_
    refine ae ?_
    exact aD.bG 45 rfl rfl (by first|(simp [hb6,hb7,hb8,hb9];done)|(simp_all;done)|(exfalso;simp_all;done)|(simp_all;omega)) rfl
   have hb9':=of_decide_eq_false hb9
   refine ab aa 5 rfl ?_
   refine bA (t:=63) rfl (fun hb10=>?_) (fun hb10=>?_)
   ·
    have hb10':=of_decide_eq_true hb10
    refine ab aa 14 rfl ?_
    refine ae ?_
    exact aD.bG 46 rfl rfl (by first|(simp [hb6,hb7,hb8,hb9,hb10];done)|(simp_all;done)|(exfalso;simp_all;done)|(simp_all;omega)) rfl
   have hb10':=of_decide_eq_false hb10
   refine ab aa 5 rfl ?_
   refine bA (t:=68) rfl (fun hb11=>?_) (fun hb11=>?_)
   ·
    have hb11':=of_decide_eq_true hb11
    refine ab aa 9 rfl ?_
    refine ae ?_
    exact aD.bG 47 rfl rfl (by first|(simp [hb6,hb7,hb8,hb9,hb10,hb11];done)|(simp_all;done)|(exfalso;simp_all;done)|(simp_all;omega)) rfl
   have hb11':=of_decide_eq_false hb11
   refine ab aa 5 rfl ?_
   refine bA (t:=73) rfl (fun hb12=>?_) (fun hb12=>?_)
   ·
    have hb12':=of_decide_eq_true hb12
    refine ab aa 4 rfl ?_
    refine ae ?_
    exact aD.bG 48 rfl rfl (by first|(simp [hb6,hb7,hb8,hb9,hb10,hb11,hb12];done)|(simp_all;done)|(exfalso;simp_all;done)|(simp_all;omega)) rfl
   have hb12':=of_decide_eq_false hb12
   refine ab aa 4 rfl ?_
   refine ae ?_
   exact aD.bG 48 rfl rfl (by first|(simp [hb6,hb7,hb8,hb9,hb10,hb11,hb12];done)|(simp_all;done)|(exfalso;simp_all;done)|(simp_all;omega)) rfl
  refine ag rfl (fun hc13=>?_) (fun hc13=>?_)
  ·
   have hc13':=hc13;try simp only [bm,bM] at hc13'
   refine ad aa 1 rfl ?_
   refine ar ?_
   refine ao ?_
   refine bg ?_
   refine ao ?_
   refine ao ?_
   refine bg ?_
   refine ao ?_
   refine ah aa [] 0 rfl rfl rfl rfl rfl rfl ?_ ?_
   ·(have h:=jM (s:=⟨cap,used,advs⟩) (show ¬(8 < (⟨cap,used,advs⟩:cw).used.length\/20 < (⟨cap,used,advs⟩:cw).aX.length) by simp only;omega) (show gb (⟨cap,used,advs⟩:cw).cap=true by simp only [gb,decide_eq_true_eq];omega) (Fh hx1 (by simp only [gr,decide_eq_false_iff_not];omega)));show aI _=aI _;rw [h]
   ·rfl
  have hc13':=hc13;try simp only [bm,bM] at hc13'
  refine aP ?_
  obtain ⟨x2,hx2⟩:=ch (xs:=(iN used.length (advs.take q))) (i:=Int.toNat (x1.aJ)) (by first|omega|(simp [dj];omega))
  have hx2v:=sR hx2
  have hgb:=pJ used.length (x1.aJ) (advs.take q) hi0_1
  have hgl:(advs.take q).length<=q:=List.length_take_le _ _
  rw [Int.toNat_of_nonneg (by omega)] at hx2v
  refine bb [1,3,31,32,33,5] [2,1,0] mixed rfl rfl ?_
  refine aA (kn:=[]) aa 3 rfl trivial ?_
  refine aT (n':=3) [78,80] [1] rfl rfl (.inl ⟨(ak.plain rfl),aK.cast (bq (i:=Int.toNat (x1.aJ)) rfl rfl rfl Try.underlying30 fK (by first|omega|(simp;omega)|(simp [dj];omega)) (by first|omega|(simp;omega)|(simp [dj];omega))) rfl⟩) rfl ?_
  refine aT (n':=3) [81] [1] rfl rfl (.inl ⟨(ak.plain rfl),aK.cast (eG rfl rfl rfl Try.underlying3 rfl (bw hx2) rfl) rfl⟩) rfl ?_
  refine aA (kn:=[]) aa 2 rfl trivial ?_
  refine aT (n':=3) [82,84] [] rfl rfl (.inl ⟨(ak.plain rfl),aK.cast (aM rfl rfl rfl (aH (by first|omega|(simp;omega)|(simp [dj];omega)))) rfl⟩) rfl ?_
  refine aT (n':=3) [78,80] [1] rfl rfl (.inl ⟨(ak.plain rfl),aK.cast (bq (i:=Int.toNat (x1.aJ)) rfl rfl rfl Try.underlying30 fK (by first|omega|(simp;omega)|(simp [dj];omega)) (by first|omega|(simp;omega)|(simp [dj];omega))) rfl⟩) rfl ?_
  refine bB [2,1,0] rfl rfl rfl rfl (by kernel_rfl) ?_
  refine gf [2,1,0] (dP (ds:=[(dI (x2+x1.sum))]) rfl rfl rfl rfl rfl fK rfl (Nat.le_of_ble_eq_true rfl) (bw hx2) rfl (eL (x':=x2+x1.sum) rfl)) rfl ?_
  refine bZ ?_
  refine bp ?_
  refine then_ok ?_
  refine aw ?_
  refine ay (aM rfl rfl rfl (aH (by first|omega|(simp;omega)|(simp [dj];omega)))) rfl ?_
  refine ab aa 1 rfl ?_
  refine ae ?_
  refine ⟨q+1,⟨by omega,xN hi0_1 hx1 (by simp only [gr,decide_eq_true_eq];omega)⟩,by first|omega|(simp;done)|(simp;omega),aD.bY id (by refine ⟨?_,?_,?_,?_,?_,trivial⟩<;>first|rfl|(simp only [bn];done)|(congr 3;omega)|(congr 4;omega)|(simp only [bo];rfl)) (by refine ⟨?_,?_,trivial⟩<;>first|rfl|(simp only [bn];done)|(congr 3;omega)|(congr 4;omega)|(simp only [bo];rfl)|((rw [iE hx1,<-zj (i:=Int.toNat x1.aJ) (v:=x2+x1.sum) (by omega) (by omega) (by rw [hx2v])];rfl))) rfl⟩
 have hc5':=of_decide_eq_false hc5
 refine cp ?_
 refine aR ?_
 refine aR ?_
 refine bQ ?_
 refine then_ok ?_
 refine af ?_
 refine az aa 2 rfl ?_
 refine ay (cT rfl rfl rfl rfl rfl Try.underlying30) rfl ?_
 refine ab aa 1 rfl ?_
 refine ae ?_
 refine aV ?_
 have hta:advs.take q=advs:=List.take_of_length_le (by omega)
 have hall:advs.all (gr used.length)=true:=by rw [<-hta];exact hi0_1
 rw [hta]
 refine cx (β:=Nat) (fun (p:Nat)=>⟨[(1,(aC (.p 0 0 0 0))),(3,(aC (.s 1 0 1 used.length))),(31,(aC (gz advs))),(32,(aI (↑advs.length:Int))),(33,(aI (↑q:Int))),(89,(aC (fC used))),(90,(aI (↑used.length:Int))),(91,(aI (↑p:Int)))],[(1,(dL (iN used.length advs))),(0,(.box 41 [(cI cap),(fC used),(gz advs)]))],2⟩) (fun (p:Nat)=>p<=used.length/\eR cap advs 0 used=eR cap advs p (used.drop p)) (fun (p:Nat)=>used.length - p) 0 ?_ ?_ ?_
 ·exact ⟨by omega,rfl⟩
 ·exact aD.bY id (by refine ⟨?_,?_,?_,?_,?_,?_,?_,?_,trivial⟩<;>first|rfl|(simp only [bn];done)|(congr 3;omega)|(congr 4;omega)|(simp only [bo];rfl)) (by refine ⟨?_,?_,trivial⟩<;>first|rfl|(simp only [bn];done)|(congr 3;omega)|(congr 4;omega)|(simp only [bo];rfl)) rfl
 rintro p ⟨hi1_0,hi1_1⟩
 refine ad aa 1 rfl ?_
 refine af ?_
 refine ag rfl (fun hc14=>?_) (fun hc14=>?_)
 ·
  have hc14':=of_decide_eq_true hc14
  refine aP ?_
  refine af ?_
  refine aV ?_
  refine az aa 1 rfl ?_
  obtain ⟨x1,hx1⟩:=ch (xs:=used) (i:=p) (by first|omega|(simp [dj];omega))
  refine ay (cQ (i:=p) rfl rfl rfl Try.underlying30 fK (by first|omega|(simp;omega)|(simp [dj];omega)) (bw hx1)) rfl ?_
  refine ab aa 3 rfl ?_
  refine ae ?_
  refine az aa 3 rfl ?_
  refine ay (bq (i:=p) rfl rfl rfl Try.underlying30 fK (by first|omega|(simp;omega)|(simp [dj];omega)) (by first|omega|(simp;omega)|(simp [dj];omega))) rfl ?_
  obtain ⟨x2,hx2⟩:=ch (xs:=(iN used.length advs)) (i:=p) (by first|omega|(simp [dj];omega))
  have hx2v:=sR hx2
  refine ay (eG rfl rfl rfl Try.underlying3 rfl (bw hx2) rfl) rfl ?_
  refine ab aa 2 rfl ?_
  refine bA (t:=102) rfl (fun hb15=>?_) (fun hb15=>?_)
  ·
   have hb15':=of_decide_eq_true hb15
   refine ab aa 5 rfl ?_
   refine ae ?_
   refine ag rfl (fun _=>?_) (fun hno=>by cases hno)
   refine ad aa 1 rfl ?_
   refine ar ?_
   refine bg ?_
   refine ao ?_
   refine ao ?_
   refine bg ?_
   refine ao ?_
   refine ah aa [] 0 rfl rfl rfl rfl rfl rfl ?_ ?_
   ·(have h:=gj (s:=⟨cap,used,advs⟩) (show ¬(8 < (⟨cap,used,advs⟩:cw).used.length\/20 < (⟨cap,used,advs⟩:cw).aX.length) by simp only;omega) (show gb (⟨cap,used,advs⟩:cw).cap=true by simp only [gb,decide_eq_true_eq];omega) hall);show aI _=aI _;rw [h];show aI _=aI (eR cap advs 0 used);rw [hi1_1,qw hx1,eR,if_neg (by omega)]
   ·rfl
  have hb15':=of_decide_eq_false hb15
  refine ab aa 5 rfl ?_
  refine ae ?_
  refine ag rfl (fun hc17=>?_) (fun hc17=>?_)
  ·
   have hc17':=of_decide_eq_true hc17
   refine ad aa 1 rfl ?_
   refine ar ?_
   refine bg ?_
   refine ao ?_
   refine ao ?_
   refine bg ?_
   refine ao ?_
   refine ah aa [] 0 rfl rfl rfl rfl rfl rfl ?_ ?_
   ·(have h:=gj (s:=⟨cap,used,advs⟩) (show ¬(8 < (⟨cap,used,advs⟩:cw).used.length\/20 < (⟨cap,used,advs⟩:cw).aX.length) by simp only;omega) (show gb (⟨cap,used,advs⟩:cw).cap=true by simp only [gb,decide_eq_true_eq];omega) hall);show aI _=aI _;rw [h];show aI _=aI (eR cap advs 0 used);rw [hi1_1,qw hx1,eR,if_neg (by omega)]
   ·rfl
  have hc17':=of_decide_eq_false hc17
  refine cU ?_
  refine bp ?_
  refine then_ok ?_
  refine aw ?_
  refine ay (aM rfl rfl rfl (aH (by first|omega|(simp;omega)|(simp [dj];omega)))) rfl ?_
  refine ab aa 1 rfl ?_
  refine ae ?_
  refine ⟨p+1,⟨by omega,by rw [hi1_1,qw hx1,eR,if_pos (by omega),Int.natCast_add];rfl⟩,by first|omega|(simp;done)|(simp;omega),aD.bY id (by refine ⟨?_,?_,?_,?_,?_,?_,?_,?_,trivial⟩<;>first|rfl|(simp only [bn];done)|(congr 3;omega)|(congr 4;omega)|(simp only [bo];rfl)) (by refine ⟨?_,?_,trivial⟩<;>first|rfl|(simp only [bn];done)|(congr 3;omega)|(congr 4;omega)|(simp only [bo];rfl)) rfl⟩
 have hc14':=of_decide_eq_false hc14
 refine cp ?_
 refine aR ?_
 refine aR ?_
 refine bQ ?_
 refine then_ok ?_
 refine ad aa 1 rfl ?_
 refine ar ?_
 refine ah aa [] 0 rfl rfl rfl rfl rfl rfl ?_ ?_
 ·(have h:=gj (s:=⟨cap,used,advs⟩) (show ¬(8 < (⟨cap,used,advs⟩:cw).used.length\/20 < (⟨cap,used,advs⟩:cw).aX.length) by simp only;omega) (show gb (⟨cap,used,advs⟩:cw).cap=true by simp only [gb,decide_eq_true_eq];omega) hall);show aI _=aI _;rw [h];show aI _=aI (eR cap advs 0 used);rw [hi1_1,List.drop_of_length_le (by omega)];rfl
 ·rfl


theorem iS (s:cw) (e:Int) (hr:bU s=e):Fn Try.prog 30 [(.g [cI s.cap,cR 1 (s.used.map rI),cR 4 (s.aX.map iq)])] (.v (.c (cI e))) []:=hr▸uc s.cap s.used s.aX

theorem wK (limit aj:Int) (x:cw) (e:Int) (hr:dx limit aj=(x,e)):Fn Try.prog 41 [(.c (cI limit)),(.c (cI aj))] (.t [(.g [(cI x.cap),(.s 0 0 1 x.used.length),(.s 1 0 4 x.aX.length)]),(.c (cI e))]) [(0,(dL x.used)),(1,(AK x.aX))]:=by
 refine Fn.mk' 24 [(0,(aI limit)),(1,(aI aj))] Try.func41 rfl rfl rfl rfl ?_
 intro W0 T0
 refine ad aa 2 rfl ?_
 refine af ?_
 refine cq 11 ((decide (aj < 0))||(decide (aj > 8))) ?_ ?_
 ·
  refine aw ?_
  refine ab aa 3 rfl ?_
  refine bA (t:=8) rfl (fun hb1=>?_) (fun hb1=>?_)
  ·
   have hb1':=of_decide_eq_true hb1
   refine ab aa 3 rfl ?_
   refine ae ?_
   exact aD.bG 7 rfl rfl (by first|(simp [hb1];done)|(simp_all;done)|(exfalso;simp_all;done)|(simp_all;omega)) rfl
  have hb1':=of_decide_eq_false hb1
  refine ab aa 3 rfl ?_
  refine ae ?_
  exact aD.bG 7 rfl rfl (by first|(simp [hb1];done)|(simp_all;done)|(exfalso;simp_all;done)|(simp_all;omega)) rfl
 refine ag rfl (fun hc2=>?_) (fun hc2=>?_)
 ·
  have hc2':=hc2;try simp only [bm,bM] at hc2'
  refine ad aa 3 rfl ?_
  refine ar ?_
  refine ao ?_
  refine cf 0 1 3 1 rfl rfl rfl ?_
  refine cf 0 2 107 4 rfl rfl rfl ?_
  have hX:dx limit aj=((⟨0,([]:List Int),([]:List ca)⟩:cw),5):=by
    exact tX (by omega)
  rw [hX] at hr;clear hX
  simp only [Prod.mk.injEq] at hr;obtain ⟨rfl,rfl⟩:=hr
  refine ah aa [1,2,0] 2 rfl rfl rfl rfl rfl rfl ?_ ?_
  all_goals first|rfl|(simp [au];done)|(simp [au];omega)
 have hc2':=hc2;try simp only [bm,bM] at hc2'
 refine aP ?_
 refine af ?_
 refine cq 18 ((decide (limit < 0))||(decide (limit > 1000000))) ?_ ?_
 ·
  refine aw ?_
  refine ab aa 3 rfl ?_
  refine bA (t:=15) rfl (fun hb3=>?_) (fun hb3=>?_)
  ·
   have hb3':=of_decide_eq_true hb3
   refine ab aa 3 rfl ?_
   refine ae ?_
   exact aD.bG 7 rfl rfl (by first|(simp [hb3];done)|(simp_all;done)|(exfalso;simp_all;done)|(simp_all;omega)) rfl
  have hb3':=of_decide_eq_false hb3
  refine ab aa 3 rfl ?_
  refine ae ?_
  exact aD.bG 7 rfl rfl (by first|(simp [hb3];done)|(simp_all;done)|(exfalso;simp_all;done)|(simp_all;omega)) rfl
 refine ag rfl (fun hc4=>?_) (fun hc4=>?_)
 ·
  have hc4':=hc4;try simp only [bm,bM] at hc4'
  refine ad aa 3 rfl ?_
  refine ar ?_
  refine ao ?_
  refine cf 0 1 3 1 rfl rfl rfl ?_
  refine cf 0 2 107 4 rfl rfl rfl ?_
  have hX:dx limit aj=((⟨0,([]:List Int),([]:List ca)⟩:cw),3):=by
    exact sm (by omega) (by first|omega|(simp_all [bm];done)|(simp_all [bm];omega))
  rw [hX] at hr;clear hX
  simp only [Prod.mk.injEq] at hr;obtain ⟨rfl,rfl⟩:=hr
  refine ah aa [1,2,0] 2 rfl rfl rfl rfl rfl rfl ?_ ?_
  all_goals first|rfl|(simp [au];done)|(simp [au];omega)
 have hc4':=hc4;try simp only [bm,bM] at hc4'
 refine aP ?_
 refine az aa 2 rfl ?_
 refine aL 2 [1,0] (pe 1 ml CD rfl rfl rfl (n:=Int.toNat (aj)) (by first|omega|(simp;done)|(simp;omega)) (by first|omega|(simp;done)|(simp;omega)) (by first|omega|(simp;done)|(simp;omega)) (by first|omega|(simp;done)|(simp;omega))) rfl ?_
 refine ab aa 3 rfl ?_
 refine ae ?_
 refine ar ?_
 refine cf 0 2 107 4 rfl rfl rfl ?_
 have hX:dx limit aj=((⟨limit,List.replicate (Int.toNat (aj)) 0,([]:List ca)⟩:cw),0):=by
   unfold dx;rw [if_neg (by omega),if_neg (by simp only [gb,decide_eq_true_eq];first|omega|(simp_all [bm];done)|(simp_all [bm];omega))]
 rw [hX] at hr;clear hX
 simp only [Prod.mk.injEq] at hr;obtain ⟨rfl,rfl⟩:=hr
 refine ah aa [1,2,0] 2 rfl rfl rfl rfl rfl rfl ?_ ?_
 all_goals first|rfl|(simp [au];done)|(simp [au];omega)
theorem ud (s:cw) (x:cw) (l:List ca) (e:Int) (hr:cW s=(x,l,e)):Fn Try.prog 90 [(.g [(cI s.cap),(fC s.used),(gz s.aX)])] (.t [(.g [(cI x.cap),(.s 0 0 1 x.used.length),(.s 1 0 4 x.aX.length)]),(.c (.s 2 0 4 l.length)),(.c (cI e))]) [(0,(dL x.used)),(1,(AK x.aX)),(2,(AK l))]:=by
 refine Fn.mk' 22 [(0,(aG [(cI s.cap),(fC s.used),(gz s.aX)]))] Try.func90 rfl rfl rfl rfl ?_
 intro W0 T0
 refine fl 0 1 rfl rfl (fun hlen0_1=>?_)
 refine fl 0 2 rfl rfl (fun hlen0_2=>?_)
 have hrp:=@gM s
 refine ad aa 4 rfl ?_
 refine af ?_
 refine az aa 1 rfl ?_
 obtain ⟨e0,hr0⟩:∃ (e0:Int),bU s=e0:=⟨_,rfl⟩
 refine aL 2 [1,0] (bJ 2 (iS s e0 hr0) yD rfl rfl ⟨⟨_,rfl,.g ⟨.d _,.d _,.d _,trivial⟩⟩,trivial⟩ trivial trivial rfl rfl rfl rfl) rfl ?_
 refine ab aa 1 rfl ?_
 refine ae ?_
 refine ad aa 2 rfl ?_
 refine ag rfl (fun hc1=>?_) (fun hc1=>?_)
 ·
  have hc1':=of_decide_eq_true hc1
  refine ad aa 5 rfl ?_
  refine ar ?_
  refine ao ?_
  refine cf 1 1 3 1 rfl rfl rfl ?_
  refine cf 1 2 107 4 rfl rfl rfl ?_
  refine cV (aD.nil 3 107 4 (by decide) rfl) ?_
  have hX:cW s=((⟨0,([]:List Int),([]:List ca)⟩:cw),([]:List ca),e0):=by
    unfold cW;rw [if_pos (by omega),hr0];rfl
  rw [hX] at hr;clear hX
  simp only [Prod.mk.injEq] at hr;obtain ⟨rfl,rfl,rfl⟩:=hr
  refine ah aa [2,3,4,1] 3 rfl rfl rfl rfl rfl rfl ?_ ?_
  all_goals first|rfl|(simp [au];done)|(simp [au];omega)
 have hc1':=of_decide_eq_false hc1
 refine aP ?_
 refine af ?_
 refine bb [1,2] [1,0] mixed rfl rfl ?_
 refine aA (kn:=[]) aa 4 rfl trivial ?_
 refine aT (n':=2) [15] [] rfl rfl (.inl ⟨(ak.plain rfl),aK.cast (cT rfl rfl rfl rfl rfl Try.underlying30) rfl⟩) rfl ?_
 refine aT (n':=3) [16] [] rfl rfl (.inl ⟨(ak.plain rfl),aK.cast (pe 2 ml CD rfl rfl rfl (n:=s.used.length) (by first|omega|(simp;done)|(simp;omega)) (by first|omega|(simp;done)|(simp;omega)) (by first|omega|(simp;done)|(simp;omega)) (by first|omega|(simp;done)|(simp;omega))) rfl⟩) rfl ?_
 refine aA (kn:=[]) aa 3 rfl trivial ?_
 refine aT (n':=4) [20] [] rfl rfl (.inl ⟨(ak.plain rfl),aK.cast (bJ 3 (mN s.aX (by first|omega|(simp;done)|(simp;omega))) EA rfl rfl ⟨⟨_,rfl,.c (.d _)⟩,trivial⟩ trivial ⟨(fun _ _ _ _=>trivial),trivial⟩ rfl rfl rfl rfl) rfl⟩) rfl ?_
 refine bB [3,2,1,0] rfl rfl rfl rfl (by kernel_rfl) ?_
 refine ab aa 3 rfl ?_
 refine ae ?_
 refine ar ?_
 refine cf 1 2 107 4 rfl rfl rfl ?_
 have hX:cW s=((⟨s.cap,List.replicate s.used.length 0,([]:List ca)⟩:cw),s.aX,0):=by
   unfold cW;rw [if_neg (by omega)]
 rw [hX] at hr;clear hX
 simp only [Prod.mk.injEq] at hr;obtain ⟨rfl,rfl,rfl⟩:=hr
 refine ah aa [2,4,3,1] 3 rfl rfl rfl rfl rfl rfl ?_ ?_
 all_goals first|rfl|(simp [au];done)|(simp [au];omega)

theorem vM (s:cw) (a:ca) (x:cw) (e:Int) (hr:cj s a=(x,e)):Fn Try.prog 78 [(.g [(cI s.cap),(fC s.used),(gz s.aX)]),(.g [(cI a.aJ),(cI a.ax),(cI a.sum),(cI a.time)])] (.t [(.g [(cI x.cap),(.s 0 0 1 x.used.length),(.s 1 0 4 x.aX.length)]),(.c (cI e))]) [(0,(dL x.used)),(1,(AK x.aX))]:=by
 refine Fn.mk' 74 [(0,(aG [(cI s.cap),(fC s.used),(gz s.aX)])),(1,(aG [(cI a.aJ),(cI a.ax),(cI a.sum),(cI a.time)]))] Try.func78 rfl rfl rfl rfl ?_
 intro W0 T0
 refine fl 0 1 rfl rfl (fun hlen0_1=>?_)
 refine fl 0 2 rfl rfl (fun hlen0_2=>?_)
 have hub:=@qK s
 have hrp:=@gM s
 refine ad aa 4 rfl ?_
 refine af ?_
 refine az aa 1 rfl ?_
 obtain ⟨e0,hr0⟩:∃ (e0:Int),bU s=e0:=⟨_,rfl⟩
 refine aL 3 [2,1,0] (bJ 3 (iS s e0 hr0) yD rfl rfl ⟨⟨_,rfl,.g ⟨.d _,.d _,.d _,trivial⟩⟩,trivial⟩ trivial trivial rfl rfl rfl rfl) rfl ?_
 refine ab aa 1 rfl ?_
 refine ae ?_
 refine ad aa 2 rfl ?_
 refine ag rfl (fun hc1=>?_) (fun hc1=>?_)
 ·
  have hc1':=of_decide_eq_true hc1
  refine ad aa 4 rfl ?_
  refine ar ?_
  refine ao ?_
  refine cf 2 1 3 1 rfl rfl rfl ?_
  refine cf 2 2 107 4 rfl rfl rfl ?_
  have hX:cj s a=((⟨0,([]:List Int),([]:List ca)⟩:cw),e0):=by
    rw [yr (by omega),hr0];rfl
  rw [hX] at hr;clear hX
  simp only [Prod.mk.injEq] at hr;obtain ⟨rfl,rfl⟩:=hr
  refine ah aa [3,4,2] 2 rfl rfl rfl rfl rfl rfl ?_ ?_
  all_goals first|rfl|(simp [au];done)|(simp [au];omega)
 have hc1':=of_decide_eq_false hc1
 refine aP ?_
 refine af ?_
 refine az aa 2 rfl ?_
 refine ay (cT rfl rfl rfl rfl rfl Try.underlying39) rfl ?_
 refine ab aa 1 rfl ?_
 refine ae ?_
 refine ag rfl (fun hc2=>?_) (fun hc2=>?_)
 ·
  have hc2':=of_decide_eq_true hc2
  refine ad aa 3 rfl ?_
  refine ar ?_
  refine ao ?_
  refine cf 2 1 3 1 rfl rfl rfl ?_
  refine cf 2 2 107 4 rfl rfl rfl ?_
  have hX:cj s a=((⟨0,([]:List Int),([]:List ca)⟩:cw),5):=by
    exact tD (by omega) (by omega)
  rw [hX] at hr;clear hX
  simp only [Prod.mk.injEq] at hr;obtain ⟨rfl,rfl⟩:=hr
  refine ah aa [3,4,2] 2 rfl rfl rfl rfl rfl rfl ?_ ?_
  all_goals first|rfl|(simp [au];done)|(simp [au];omega)
 have hc2':=of_decide_eq_false hc2
 refine aP ?_
 refine af ?_
 refine bb [2,3,4] [2,1,0] mixed rfl rfl ?_
 refine aA (kn:=[]) aa 4 rfl trivial ?_
 refine aT (n':=4) [23] [] rfl rfl (.inl ⟨(ak.plain rfl),aK.cast (bJ 3 (pP s.used (by first|omega|(simp;done)|(simp;omega))) EB rfl rfl ⟨⟨_,rfl,.c (.d _)⟩,trivial⟩ trivial ⟨(fun _ _ _ _=>trivial),trivial⟩ rfl rfl rfl rfl) rfl⟩) rfl ?_
 refine aA (kn:=[]) aa 2 rfl trivial ?_
 refine aT (n':=5) [26] [] rfl rfl (.inl ⟨(ak.plain rfl),aK.cast (bJ 4 (mN s.aX (by first|omega|(simp;done)|(simp;omega))) EA rfl rfl ⟨⟨_,rfl,.c (.d _)⟩,trivial⟩ trivial ⟨(fun _ _ _ _=>trivial),trivial⟩ rfl rfl rfl rfl) rfl⟩) rfl ?_
 refine aA (kn:=[]) aa 1 rfl trivial ?_
 refine aT (n':=6) [28] [] rfl rfl (.inl ⟨(ak.plain rfl),aK.cast (dz (ys:=[(0,(.g [(cI a.aJ),(cI a.ax),(cI a.sum),(cI a.time)]))]) (rows:=([a]).map iq) 5 xZ rfl (by decide) ⟨⟨rfl,rfl⟩,trivial⟩ rfl rfl rfl rfl) rfl⟩) rfl ?_
 refine aT (n':=7) [27,29] [5,4] rfl rfl (.inl ⟨(ak.plain rfl),aK.cast (da (m:=1) (N:=s.aX.length+1) (k2:=6) (ys:=([a]).map iq) xZ rfl rfl rfl rfl rfl rfl (by first|omega|(simp;done)|(simp;omega)) rfl (.s rfl (by first|omega|(simp;done)|(simp;omega))) (by first|omega|(simp;done)|(simp;omega)) (by first|omega|(simp;done)|(simp;omega)) eP (by decide) (by first|omega|(simp;done)|(simp;omega)) (by first|omega|(simp;done)|(simp;omega))) rfl⟩) rfl ?_
 refine aA (n':=8) (kn:=[]) aa 2 rfl trivial ?_
 refine bB [7,6,3,2,1,0] rfl rfl rfl rfl (by kernel_rfl) ?_
 refine ab aa 1 rfl ?_
 refine ae ?_
 refine af ?_
 refine cq 52 ((((decide (a.aJ>=0)) && (decide (a.aJ < (↑s.used.length:Int)))) && (decide (a.sum>=1))) && (decide (a.sum<=1000000))) ?_ ?_
 ·
  refine aw ?_
  refine ab aa 4 rfl ?_
  refine bA (t:=35) rfl (fun hb3=>?_) (fun hb3=>?_)
  ·
   have hb3':=of_decide_eq_true hb3
   refine ab aa 4 rfl ?_
   refine dF (ak.yes rfl rfl rfl) (dr rfl rfl rfl rfl rfl Try.underlying30) rfl rfl ?_
   refine ab aa 3 rfl ?_
   refine bA (t:=43) rfl (fun hb4=>?_) (fun hb4=>?_)
   ·
    have hb4':=of_decide_eq_true hb4
    refine ab aa 5 rfl ?_
    refine bA (t:=48) rfl (fun hb5=>?_) (fun hb5=>?_)
    ·
     have hb5':=of_decide_eq_true hb5
     refine ab aa 4 rfl ?_
     refine ae ?_
     exact aD.bG 24 rfl rfl (by first|(simp [hb3,hb4,hb5];done)|(simp_all;done)|(exfalso;simp_all;done)|(simp_all;omega)) rfl
    have hb5':=of_decide_eq_false hb5
    refine ab aa 4 rfl ?_
    refine ae ?_
    exact aD.bG 24 rfl rfl (by first|(simp [hb3,hb4,hb5];done)|(simp_all;done)|(exfalso;simp_all;done)|(simp_all;omega)) rfl
   have hb4':=of_decide_eq_false hb4
   refine ab aa 9 rfl ?_
   refine ae ?_
   exact aD.bG 23 rfl rfl (by first|(simp [hb3,hb4];done)|(simp_all;done)|(exfalso;simp_all;done)|(simp_all;omega)) rfl
  have hb3':=of_decide_eq_false hb3
  refine ab aa 17 rfl ?_
  refine ae ?_
  exact aD.bG 22 rfl rfl (by first|(simp [hb3];done)|(simp_all;done)|(exfalso;simp_all;done)|(simp_all;omega)) rfl
 refine ag rfl (fun hc6=>?_) (fun hc6=>?_)
 ·
  have hc6':=hc6;try simp only [bm,bM] at hc6'
  obtain ⟨x1,hx1⟩:=ch (xs:=s.used) (i:=Int.toNat (a.aJ)) (by first|omega|(simp;done)|(simp;omega))
  have hx1b:=qK (s:=s) (by omega) hx1
  refine bb [3,4,7] [7,6,3,2,1] mixed rfl rfl ?_
  refine aA (kn:=[]) aa 4 rfl trivial ?_
  refine aT (n':=8) [54,56] [3] rfl rfl (.inl ⟨(ak.plain rfl),aK.cast (bq (i:=Int.toNat (a.aJ)) rfl rfl rfl Try.underlying30 fK (by first|omega|(simp;done)|(simp;omega)) (by first|omega|(simp;done)|(simp;omega))) rfl⟩) rfl ?_
  refine aT (n':=8) [57] [3] rfl rfl (.inl ⟨(ak.plain rfl),aK.cast (eG rfl rfl rfl Try.underlying3 rfl (bw hx1) rfl) rfl⟩) rfl ?_
  refine aA (kn:=[]) aa 2 rfl trivial ?_
  refine aT (n':=8) [58,60] [] rfl rfl (.inl ⟨(ak.plain rfl),aK.cast (aM rfl rfl rfl (aH (by first|omega|(simp;done)|(simp;omega)))) rfl⟩) rfl ?_
  refine aT (n':=8) [54,56] [3] rfl rfl (.inl ⟨(ak.plain rfl),aK.cast (bq (i:=Int.toNat (a.aJ)) rfl rfl rfl Try.underlying30 fK (by first|omega|(simp;done)|(simp;omega)) (by first|omega|(simp;done)|(simp;omega))) rfl⟩) rfl ?_
  refine bB [7,6,3,2,1] rfl rfl rfl rfl (by kernel_rfl) ?_
  refine gf [7,6,3,2,1] (dP (ds:=[(dI (x1+a.sum))]) rfl rfl rfl rfl rfl fK rfl (Nat.le_of_ble_eq_true rfl) (bw hx1) rfl (eL (x':=x1+a.sum) rfl)) rfl ?_
  refine ae ?_
  refine az aa 1 rfl ?_
  obtain ⟨e1,hr1⟩:∃ (e1:Int),bU (⟨s.cap,(s.used).set (Int.toNat (a.aJ)) (x1+a.sum),s.aX++([a])⟩:cw)=e1:=⟨_,rfl⟩
  refine aL 8 [7,6,3,2,1] (fP 8 [3,6] (iS (⟨s.cap,(s.used).set (Int.toNat (a.aJ)) (x1+a.sum),s.aX++([a])⟩:cw) e1 hr1) yD rfl rfl ⟨⟨_,rfl,.g ⟨.d _,.s rfl (by decide) (by first|omega|(simp;done)|(simp;omega)),.s rfl (by decide) (by first|omega|(simp;done)|(simp;omega)),trivial⟩⟩,trivial⟩ rfl trivial rfl rfl rfl rfl) rfl ?_
  refine ab aa 1 rfl ?_
  refine ae ?_
  refine ad aa 1 rfl ?_
  refine aV ?_
  refine ad aa 2 rfl ?_
  refine ag rfl (fun hc7=>?_) (fun hc7=>?_)
  ·
   have hc7':=of_decide_eq_true hc7
   refine ad aa 3 rfl ?_
   refine ar ?_
   refine bg ?_
   have hX:cj s a=((⟨s.cap,(s.used).set (Int.toNat (a.aJ)) (x1+a.sum),s.aX++([a])⟩:cw),0):=by
     have hx:s.used.getD a.aJ.toNat 0=x1:=by rw [List.getD_eq_getElem?_getD,hx1];rfl
     have hg:=kY (a:=a) (show bU s=0 by omega) (show s.aX.length < 20 by omega)
     rw [hx,hr1] at hg
     rcases hg with ⟨p1,p2⟩|⟨p1,p2⟩|⟨p1,p2⟩<;>first|(exfalso;omega)|exact p2|(subst p1;exact p2)
   rw [hX] at hr;clear hX
   simp only [Prod.mk.injEq] at hr;obtain ⟨rfl,rfl⟩:=hr
   refine ah aa [3,6,2] 2 rfl rfl rfl rfl rfl rfl ?_ ?_
   all_goals first|rfl|(simp [au];done)|(simp [au];omega)
  have hc7':=of_decide_eq_false hc7
  refine ad aa 2 rfl ?_
  refine ag rfl (fun hc8=>?_) (fun hc8=>?_)
  ·
   have hc8':=of_decide_eq_true hc8
   refine ad aa 3 rfl ?_
   refine ar ?_
   refine bg ?_
   refine cf 2 1 3 1 rfl rfl rfl ?_
   refine cf 2 2 107 4 rfl rfl rfl ?_
   have hX:cj s a=((⟨0,([]:List Int),([]:List ca)⟩:cw),10):=by
     have hx:s.used.getD a.aJ.toNat 0=x1:=by rw [List.getD_eq_getElem?_getD,hx1];rfl
     have hg:=kY (a:=a) (show bU s=0 by omega) (show s.aX.length < 20 by omega)
     rw [hx,hr1] at hg
     rcases hg with ⟨p1,p2⟩|⟨p1,p2⟩|⟨p1,p2⟩<;>first|(exfalso;omega)|exact p2|(subst p1;exact p2)
   rw [hX] at hr;clear hX
   simp only [Prod.mk.injEq] at hr;obtain ⟨rfl,rfl⟩:=hr
   refine ah aa [8,9,2] 2 rfl rfl rfl rfl rfl rfl ?_ ?_
   all_goals first|rfl|(simp [au];done)|(simp [au];omega)
  have hc8':=of_decide_eq_false hc8
  refine ad aa 4 rfl ?_
  refine ar ?_
  refine bg ?_
  refine cf 2 1 3 1 rfl rfl rfl ?_
  refine cf 2 2 107 4 rfl rfl rfl ?_
  have hX:cj s a=((⟨0,([]:List Int),([]:List ca)⟩:cw),e1):=by
    have hx:s.used.getD a.aJ.toNat 0=x1:=by rw [List.getD_eq_getElem?_getD,hx1];rfl
    have hg:=kY (a:=a) (show bU s=0 by omega) (show s.aX.length < 20 by omega)
    rw [hx,hr1] at hg
    rcases hg with ⟨p1,p2⟩|⟨p1,p2⟩|⟨p1,p2⟩<;>first|(exfalso;omega)|exact p2|(subst p1;exact p2)
  rw [hX] at hr;clear hX
  simp only [Prod.mk.injEq] at hr;obtain ⟨rfl,rfl⟩:=hr
  refine ah aa [8,9,2] 2 rfl rfl rfl rfl rfl rfl ?_ ?_
  all_goals first|rfl|(simp [au];done)|(simp [au];omega)
 have hc6':=hc6;try simp only [bm,bM] at hc6'
 refine aP ?_
 refine az aa 1 rfl ?_
 obtain ⟨e2,hr2⟩:∃ (e2:Int),bU (⟨s.cap,s.used,s.aX++([a])⟩:cw)=e2:=⟨_,rfl⟩
 refine aL 8 [7,6,3,2,1,0] (fP 8 [3,6] (iS (⟨s.cap,s.used,s.aX++([a])⟩:cw) e2 hr2) yD rfl rfl ⟨⟨_,rfl,.g ⟨.d _,.s rfl (by decide) (by first|omega|(simp;done)|(simp;omega)),.s rfl (by decide) (by first|omega|(simp;done)|(simp;omega)),trivial⟩⟩,trivial⟩ rfl trivial rfl rfl rfl rfl) rfl ?_
 refine ab aa 1 rfl ?_
 refine ae ?_
 refine ad aa 1 rfl ?_
 refine aV ?_
 refine ad aa 2 rfl ?_
 refine ag rfl (fun hc9=>?_) (fun hc9=>?_)
 ·
  have hc9':=of_decide_eq_true hc9
  refine ad aa 3 rfl ?_
  refine ar ?_
  refine bg ?_
  have hX:cj s a=((⟨s.cap,s.used,s.aX++([a])⟩:cw),0):=by
    have hg:=ql (a:=a) (show bU s=0 by omega) (show s.aX.length < 20 by omega) (by omega)
    rw [hr2] at hg
    obtain ⟨p1,p2⟩:=hg
    first|(exfalso;omega)|(subst p1;exact p2)
  rw [hX] at hr;clear hX
  simp only [Prod.mk.injEq] at hr;obtain ⟨rfl,rfl⟩:=hr
  refine ah aa [3,6,2] 2 rfl rfl rfl rfl rfl rfl ?_ ?_
  all_goals first|rfl|(simp [au];done)|(simp [au];omega)
 have hc9':=of_decide_eq_false hc9
 refine ad aa 2 rfl ?_
 refine ag rfl (fun hc10=>?_) (fun hc10=>?_)
 ·
  have hc10':=of_decide_eq_true hc10
  refine ad aa 3 rfl ?_
  refine ar ?_
  refine bg ?_
  refine cf 2 1 3 1 rfl rfl rfl ?_
  refine cf 2 2 107 4 rfl rfl rfl ?_
  have hX:cj s a=((⟨0,([]:List Int),([]:List ca)⟩:cw),10):=by
    have hg:=ql (a:=a) (show bU s=0 by omega) (show s.aX.length < 20 by omega) (by omega)
    rw [hr2] at hg
    obtain ⟨p1,p2⟩:=hg
    first|(exfalso;omega)|(subst p1;exact p2)
  rw [hX] at hr;clear hX
  simp only [Prod.mk.injEq] at hr;obtain ⟨rfl,rfl⟩:=hr
  refine ah aa [8,9,2] 2 rfl rfl rfl rfl rfl rfl ?_ ?_
  all_goals first|rfl|(simp [au];done)|(simp [au];omega)
 have hc10':=of_decide_eq_false hc10
 refine ad aa 4 rfl ?_
 refine ar ?_
 refine bg ?_
 refine cf 2 1 3 1 rfl rfl rfl ?_
 refine cf 2 2 107 4 rfl rfl rfl ?_
 have hX:cj s a=((⟨0,([]:List Int),([]:List ca)⟩:cw),e2):=by
   have hg:=ql (a:=a) (show bU s=0 by omega) (show s.aX.length < 20 by omega) (by omega)
   rw [hr2] at hg
   obtain ⟨p1,p2⟩:=hg
   first|(exfalso;omega)|(subst p1;exact p2)
 rw [hX] at hr;clear hX
 simp only [Prod.mk.injEq] at hr;obtain ⟨rfl,rfl⟩:=hr
 refine ah aa [8,9,2] 2 rfl rfl rfl rfl rfl rfl ?_ ?_
 all_goals first|rfl|(simp [au];done)|(simp [au];omega)


def eY:List Int->Int
  |[]=>0
  |x::l=>if x=0 then eY l else x
def gY (a b:an):Int:=eY [ej a.ax b.ax,ej a.ba b.ba]
theorem Aj {l:List Int} {i:Nat} {x:Int} (hx:l[i]?=some x) (h:x=0):eY (l.drop i)=eY (l.drop (i+1)):=by
  obtain ⟨hi,rfl⟩:=List.getElem?_eq_some_iff.1 hx
  rw [List.drop_eq_getElem_cons hi,eY,if_pos h]
theorem tG {l:List Int} {i:Nat} {x:Int} (hx:l[i]?=some x) (h:¬x=0):eY (l.drop i)=x:=by
  obtain ⟨hi,rfl⟩:=List.getElem?_eq_some_iff.1 hx
  rw [List.drop_eq_getElem_cons hi,eY,if_neg h]
theorem lg {a b:an}:gY a b < 0↔gu a b=true:=by
  rw [rl]
  have h1:=qA (a:=a.ax) (b:=b.ax)
  have h2:=oM (a:=a.ax) (b:=b.ax)
  have h3:=qA (a:=a.ba) (b:=b.ba)
  have h4:=oM (a:=a.ba) (b:=b.ba)
  unfold gY eY eY eY
  split
  ·split<;>omega
  ·omega
theorem lh {a b:an} (h:¬gY a b < 0):gu a b=false:=by
  cases hb:gu a b with
  |false=>rfl
  |true=>exact absurd (lg.2 hb) h
theorem cJ {l:List (Nat×AV)} {t:Nat} {x y:Int} {ρ:Nat->Nat} (h:look l t=some (aI x)) (e:x=y):look l t=some (AV.map ρ (aI y)):=by subst e;exact h

theorem Hm (l:List Int) (r:Int) (hr:eY l=r):Fn Try.prog 59 [(.c (fC l))] (.v (.c (cI r))) []:=by
 refine Fn.mk' 18 [(0,(aC (fC l)))] Try.func59 rfl rfl rfl rfl ?_
 intro W0 T0
 refine dG 0 rfl (fun hlen0=>?_)
 refine ad aa 1 rfl ?_
 refine ad aa 1 rfl ?_
 refine af ?_
 refine az aa 1 rfl ?_
 refine ay (cT rfl rfl rfl rfl rfl Try.underlying30) rfl ?_
 refine ab aa 1 rfl ?_
 refine ae ?_
 refine aV ?_
 refine cx (β:=Nat) (fun (i:Nat)=>⟨[(3,(aI 0)),(6,(aC (fC l))),(7,(aI (↑l.length:Int))),(8,(aI (↑i:Int)))],[],0⟩) (fun (i:Nat)=>i<=l.length/\eY (l.drop i)=eY l) (fun (i:Nat)=>l.length - i) 0 ?_ ?_ ?_
 ·exact ⟨by omega,rfl⟩
 ·exact aD.bY id (by refine ⟨?_,?_,?_,?_,trivial⟩<;>first|rfl|(simp only [bn];done)|(congr 3;omega)|(congr 4;omega)|(simp only [bo];rfl)) (trivial) rfl
 rintro i ⟨hi0_0,hi0_1⟩
 refine ad aa 1 rfl ?_
 refine af ?_
 refine ag rfl (fun hc1=>?_) (fun hc1=>?_)
 ·
  have hc1':=of_decide_eq_true hc1
  refine aP ?_
  refine af ?_
  refine aV ?_
  refine eE ?_
  obtain ⟨x1,hx1⟩:=ch (xs:=l) (i:=i) (by first|omega|(simp;done)|(simp;omega))
  refine ay (cQ (i:=i) rfl rfl rfl Try.underlying30 fK (by first|omega|(simp;done)|(simp;omega)) (bw hx1)) rfl ?_
  refine ab aa 2 rfl ?_
  refine ae ?_
  refine ad aa 3 rfl ?_
  refine ag rfl (fun hc2=>?_) (fun hc2=>?_)
  ·
   have hc2':=of_decide_eq_true hc2
   refine ad aa 2 rfl ?_
   refine ar ?_
   refine bg ?_
   refine ao ?_
   refine ao ?_
   refine bg ?_
   refine ao ?_
   have hX:eY l=x1:=by
     rw [<-hi0_1];first|exact tG hx1 (by omega)|(rw [List.drop_of_length_le (by omega)];rfl)
   rw [hX] at hr;clear hX
   subst hr
   refine ah aa [] 0 rfl rfl rfl rfl rfl rfl ?_ ?_
   all_goals first|rfl|(simp [au];done)|(simp [au];omega)
  have hc2':=of_decide_eq_false hc2
  refine cU ?_
  refine bp ?_
  refine then_ok ?_
  refine aw ?_
  refine ay (aM rfl rfl rfl (aH (by first|omega|(simp;done)|(simp;omega)))) rfl ?_
  refine ab aa 1 rfl ?_
  refine ae ?_
  refine ⟨i+1,⟨by omega,by rw [<-Aj hx1 (by omega)];exact hi0_1⟩,by first|omega|(simp;done)|(simp;omega),aD.bY id (by refine ⟨?_,?_,?_,?_,trivial⟩<;>first|rfl|(simp only [bn];done)|(congr 3;omega)|(congr 4;omega)|(simp only [bo];rfl)) (trivial) rfl⟩
 have hc1':=of_decide_eq_false hc1
 refine cp ?_
 refine aR ?_
 refine aR ?_
 refine bQ ?_
 refine then_ok ?_
 refine ad aa 2 rfl ?_
 refine ar ?_
 have hX:eY l=0:=by
   rw [<-hi0_1];first|exact tG hx1 (by omega)|(rw [List.drop_of_length_le (by omega)];rfl)
 rw [hX] at hr;clear hX
 subst hr
 refine ah aa [] 0 rfl rfl rfl rfl rfl rfl ?_ ?_
 all_goals first|rfl|(simp [au];done)|(simp [au];omega)
theorem xH (x y:an):Fn Try.prog 53 [(.g [(cI x.ax),(cI x.ba),(cI x.kind),(cI x.sum)]),(.g [(cI y.ax),(cI y.ba),(cI y.kind),(cI y.sum)])] (aI (gY x y)) []:=by
 refine Fn.mk' 17 [(0,(aG [(cI x.ax),(cI x.ba),(cI x.kind),(cI x.sum)])),(1,(aG [(cI y.ax),(cI y.ba),(cI y.kind),(cI y.sum)]))] Try.func53 rfl rfl rfl rfl ?_
 intro W0 T0
 refine ad aa 3 rfl ?_
 refine af ?_
 have hr0:ej x.ax y.ax=ej x.ax y.ax:=rfl
 have hr1:ej x.ba y.ba=ej x.ba y.ba:=rfl
 have hr2:eY ([ej x.ax y.ax,ej x.ba y.ba])=eY ([ej x.ax y.ax,ej x.ba y.ba]):=rfl
 refine bb [2,3] [1,0] mixed rfl rfl ?_
 refine aA (kn:=[]) aa 4 rfl trivial ?_
 refine aT (n':=2) [6,8] [] rfl rfl (.inl ⟨(ak.plain rfl),aK.cast (bJ 2 (oR x.ax y.ax (ej x.ax y.ax) hr0) BU rfl rfl ⟨⟨_,rfl,.c (.d _)⟩,⟨_,rfl,.c (.d _)⟩,trivial⟩ trivial trivial rfl rfl rfl rfl) rfl⟩) rfl ?_
 refine aA (kn:=[]) aa 4 rfl trivial ?_
 refine aT (n':=2) [11,13] [] rfl rfl (.inl ⟨(ak.plain rfl),aK.cast (bJ 2 (oR x.ba y.ba (ej x.ba y.ba) hr1) BU rfl rfl ⟨⟨_,rfl,.c (.d _)⟩,⟨_,rfl,.c (.d _)⟩,trivial⟩ trivial trivial rfl rfl rfl rfl) rfl⟩) rfl ?_
 refine aT (n':=3) [9,14] [] rfl rfl (.inl ⟨(ak.plain rfl),aK.cast (dz (ys:=[(0,(.c (cI (ej x.ax y.ax)))),(1,(.c (cI (ej x.ba y.ba))))]) (rows:=([ej x.ax y.ax,ej x.ba y.ba]).map rI) 2 ml rfl (by decide) ⟨⟨rfl,rfl⟩,⟨rfl,rfl⟩,trivial⟩ rfl rfl rfl rfl) rfl⟩) rfl ?_
 refine aT (n':=3) [15] [2] rfl rfl (.inl ⟨(ak.plain rfl),aK.cast (fP 3 [2] (Hm ([ej x.ax y.ax,ej x.ba y.ba]) (eY ([ej x.ax y.ax,ej x.ba y.ba])) hr2) Ha rfl rfl ⟨⟨_,rfl,.c (.s rfl (by decide) (by first|omega|(simp;done)|(simp;omega)))⟩,trivial⟩ rfl trivial rfl rfl rfl rfl) rfl⟩) rfl ?_
 refine aA (kn:=[]) aa 1 rfl trivial ?_
 refine bB [1,0] rfl rfl rfl rfl (by kernel_rfl) ?_
 refine ae ?_
 refine ar ?_
 refine ah aa [] 0 rfl rfl rfl rfl rfl rfl ?_ ?_
 all_goals first|rfl|(simp [au];done)|(simp [au];omega)

theorem wJ (d:List an) (N a b n:Nat) (fn:FuncId) (bc:List (List D)) (hp:∀ x y:an,Fn Try.prog fn ([.g [cI x.ax,cI x.ba,cI x.kind,cI x.sum],.g [cI y.ax,cI y.ba,cI y.kind,cI y.sum]]++bc.map fun r=>GV.c (.q r 0)) (aI (gY x y)) []) (hen:bf Try.prog fn) (hl:d.length * 32<=140737488355328) (hN:N=d.length) (h0_:a+n<=d.length) (h1_:b+n<=d.length) (r:List an) (hr:fX a b n d=r):cA Try.prog 110 [(.c (.s 0 0 4 N)),(.c (cI (↑a:Int))),(.c (cI (↑b:Int))),(.c (cI (↑n:Int))),(.c (.d (.f fn bc)))] [(0,(cH d))] [0] (.t []) [(0,(cH r))]:=by
 refine cA.mk 38 [(0,(aC (.s 0 0 4 N))),(1,(aI (↑a:Int))),(2,(aI (↑b:Int))),(3,(aI (↑n:Int))),(4,(aC (.d (.f fn bc))))] 1 Try.func110 rfl rfl rfl rfl rfl rfl rfl rfl rfl ?_
 intro W0 F0 T0 pg
 refine fQ 0 rfl (fun hlen0=>?_)
 refine ad aa 1 rfl ?_
 refine aV ?_
 refine cx (β:=Nat×List an) (fun (p:Nat×List an)=>match p with|(i,d1)=>⟨[(0,(aC (.s 0 0 4 N))),(1,(aI (↑a:Int))),(2,(aI (↑b:Int))),(3,(aI (↑n:Int))),(10,(aI (↑i:Int)))],[(0,(cH d1))],1⟩) (fun (p:Nat×List an)=>match p with|(i,d1)=>i<=n/\d1=fX a b i d/\d1.length=d.length) (fun (p:Nat×List an)=>match p with|(i,d1)=>n - i) (0,d) ?_ ?_ ?_
 ·exact ⟨by omega,rfl,rfl⟩
 ·exact aD.bY id (by refine ⟨?_,?_,?_,?_,?_,trivial⟩<;>first|rfl|(simp only [bn];done)|(congr 3;omega)|(congr 4;omega)|(simp only [bo];rfl)|(exact cJ rfl (by omega))) (⟨by first|rfl|(simp only [bn];done)|(congr 3;omega)|(congr 4;omega)|(simp only [bo];rfl),trivial⟩) rfl
 rintro ⟨i,d1⟩ ⟨hi0_0,hi0_1,hi0_2⟩
 refine af ?_
 refine ad aa 3 rfl ?_
 refine ag rfl (fun hc1=>?_) (fun hc1=>?_)
 ·
  have hc1':=of_decide_eq_true hc1
  refine aP ?_
  refine af ?_
  refine aV ?_
  obtain ⟨x1,hx1⟩:=ch (xs:=d1) (i:=(b)+(i)) (by first|omega|(simp;done)|(simp;omega))
  obtain ⟨x2,hx2⟩:=ch (xs:=d1) (i:=(a)+(i)) (by first|omega|(simp;done)|(simp;omega))
  obtain ⟨x3,hx3⟩:=ch (xs:=((d1).set ((a)+(i)) x1)) (i:=(b)+(i)) (by first|omega|(simp;done)|(simp;omega))
  refine db [0,1,2,3,10] [0] mixed rfl rfl ?_
  refine bT (kn:=[]) aa 3 rfl trivial ?_
  refine bW (n':=1) [17,18] [] rfl rfl (.inl ⟨(ak.plain rfl),aK.cast (aM rfl rfl rfl (aH (by first|omega|(simp;done)|(simp;omega)))) rfl⟩) rfl ?_
  refine bT (kn:=[]) aa 3 rfl trivial ?_
  refine bW (n':=1) [21,22] [] rfl rfl (.inl ⟨(ak.plain rfl),aK.cast (aM rfl rfl rfl (aH (by first|omega|(simp;done)|(simp;omega)))) rfl⟩) rfl ?_
  refine bT (kn:=[]) aa 3 rfl trivial ?_
  refine bW (n':=1) [25,26] [] rfl rfl (.inl ⟨(ak.plain rfl),aK.cast (aM rfl rfl rfl (aH (by first|omega|(simp;done)|(simp;omega)))) rfl⟩) rfl ?_
  refine bW (n':=1) [24,27] [0] rfl rfl (.inl ⟨(ak.plain rfl),aK.cast (bq (i:=(b)+(i)) rfl rfl rfl Try.underlying42 dq (by first|omega|(simp;done)|(simp;omega)) (by first|omega|(simp;done)|(simp;omega))) rfl⟩) rfl ?_
  refine bW (n':=1) [28] [0] rfl rfl (.inl ⟨(ak.plain rfl),aK.cast (dg rfl rfl rfl Try.underlying83 rfl dq (bw hx1) rfl) rfl⟩) rfl ?_
  refine bT (kn:=[]) aa 3 rfl trivial ?_
  refine bW (n':=1) [31,32] [] rfl rfl (.inl ⟨(ak.plain rfl),aK.cast (aM rfl rfl rfl (aH (by first|omega|(simp;done)|(simp;omega)))) rfl⟩) rfl ?_
  refine bW (n':=1) [30,33] [0] rfl rfl (.inl ⟨(ak.plain rfl),aK.cast (bq (i:=(a)+(i)) rfl rfl rfl Try.underlying42 dq (by first|omega|(simp;done)|(simp;omega)) (by first|omega|(simp;done)|(simp;omega))) rfl⟩) rfl ?_
  refine bW (n':=1) [34] [0] rfl rfl (.inl ⟨(ak.plain rfl),aK.cast (dg rfl rfl rfl Try.underlying83 rfl dq (bw hx2) rfl) rfl⟩) rfl ?_
  refine bW (n':=1) [16,19] [0] rfl rfl (.inl ⟨(ak.plain rfl),aK.cast (bq (i:=(a)+(i)) rfl rfl rfl Try.underlying42 dq (by first|omega|(simp;done)|(simp;omega)) (by first|omega|(simp;done)|(simp;omega))) rfl⟩) rfl ?_
  refine bW (n':=1) [36,29] [0] rfl rfl (.inl ⟨(ak.plain rfl),aK.cast (dP (ds:=[(dI x1.ax),(dI x1.ba),(dI x1.kind),(dI x1.sum)]) rfl rfl rfl rfl rfl dq rfl (Nat.le_of_ble_eq_true rfl) (bw hx2) rfl (eL (x':=x1) rfl)) rfl⟩) rfl ?_
  refine bW (n':=1) [20,23] [0] rfl rfl (.inl ⟨(ak.plain rfl),aK.cast (bq (i:=(b)+(i)) rfl rfl rfl Try.underlying42 dq (by first|omega|(simp;done)|(simp;omega)) (by first|omega|(simp;done)|(simp;omega))) rfl⟩) rfl ?_
  refine bW (n':=1) [37,35] [0] rfl rfl (.inl ⟨(ak.plain rfl),aK.cast (dP (ds:=[(dI x2.ax),(dI x2.ba),(dI x2.kind),(dI x2.sum)]) rfl rfl rfl rfl rfl dq rfl (Nat.le_of_ble_eq_true rfl) (bw hx3) rfl (eL (x':=x2) rfl)) rfl⟩) rfl ?_
  refine dS [0,1,2,3,10] [0] rfl rfl (by kernel_rfl) ?_
  refine bp ?_
  refine then_ok ?_
  refine aw ?_
  refine ab aa 1 rfl ?_
  refine ay (aM rfl rfl rfl (aH (by first|omega|(simp;done)|(simp;omega)))) rfl ?_
  refine ab aa 1 rfl ?_
  refine ae ?_
  refine ⟨(i+1,((d1).set ((a)+(i)) x1).set ((b)+(i)) x2),⟨by omega,by rw [fX,<-hi0_1];exact (ln hx2 hx1).symm,by simp only [List.length_set];exact hi0_2⟩,by first|omega|(simp;done)|(simp;omega),aD.bY id (by refine ⟨?_,?_,?_,?_,?_,trivial⟩<;>first|rfl|(simp only [bn];done)|(congr 3;omega)|(congr 4;omega)|(simp only [bo];rfl)|(exact cJ rfl (by omega))) (⟨by first|rfl|(simp only [bn];done)|(congr 3;omega)|(congr 4;omega)|(simp only [bo];rfl),trivial⟩) rfl⟩
 have hc1':=of_decide_eq_false hc1
 refine cp ?_
 refine aR ?_
 refine aR ?_
 refine bQ ?_
 have hX:fX a b n d=d1:=by
   have:i=n:=by omega
   subst this;exact hi0_1.symm
 rw [hX] at hr;clear hX
 subst hr
 refine cE aa [0] 1 rfl rfl rfl rfl rfl rfl ?_ ?_
 all_goals first|rfl|(simp [au];done)|(simp [au];omega)
theorem lz (ai bi ni:Int) (d:List an) (N a b n:Nat) (fn:FuncId) (bc:List (List D)) (hp:∀ x y:an,Fn Try.prog fn ([.g [cI x.ax,cI x.ba,cI x.kind,cI x.sum],.g [cI y.ax,cI y.ba,cI y.kind,cI y.sum]]++bc.map fun r=>GV.c (.q r 0)) (aI (gY x y)) []) (hen:bf Try.prog fn) (ea_:ai=(↑a:Int)) (eb_:bi=(↑b:Int)) (en_:ni=(↑n:Int)) (hl:d.length * 32<=140737488355328) (hN:N=d.length) (h0_:a+n<=d.length) (h1_:b+n<=d.length) (r:List an) (hr:fX a b n d=r):cA Try.prog 110 [(.c (.s 0 0 4 N)),(.c (cI ai)),(.c (cI bi)),(.c (cI ni)),(.c (.d (.f fn bc)))] [(0,(cH d))] [0] (.t []) [(0,(cH r))]:=by
  subst ea_ eb_ en_
  exact wJ d N a b n fn bc hp hen hl hN h0_ h1_ r hr

theorem Cj (d:List an) (N a m b:Nat) (fn:FuncId) (bc:List (List D)) (hp:∀ x y:an,Fn Try.prog fn ([.g [cI x.ax,cI x.ba,cI x.kind,cI x.sum],.g [cI y.ax,cI y.ba,cI y.kind,cI y.sum]]++bc.map fun r=>GV.c (.q r 0)) (aI (gY x y)) []) (hen:bf Try.prog fn) (hl:d.length * 32<=140737488355328) (hN:N=d.length) (h0_:a < m) (h1_:m < b) (h2_:b<=d.length) (r:List an) (hr:iW m (m - a) (b - m) d=r):cA Try.prog 93 [(.c (.s 0 0 4 N)),(.c (cI (↑a:Int))),(.c (cI (↑m:Int))),(.c (cI (↑b:Int))),(.c (.d (.f fn bc)))] [(0,(cH d))] [0] (.t []) [(0,(cH r))]:=by
 refine cA.mk 58 [(0,(aC (.s 0 0 4 N))),(1,(aI (↑a:Int))),(2,(aI (↑m:Int))),(3,(aI (↑b:Int))),(4,(aC (.d (.f fn bc))))] 1 Try.func93 rfl rfl rfl rfl rfl rfl rfl rfl rfl ?_
 intro W0 F0 T0 pg
 refine fQ 0 rfl (fun hlen0=>?_)
 refine az aa 2 rfl ?_
 refine ay (aM rfl rfl rfl (aH (by first|omega|(simp;done)|(simp;omega)))) rfl ?_
 refine ab aa 1 rfl ?_
 refine ae ?_
 refine az aa 2 rfl ?_
 refine ay (aM rfl rfl rfl (aH (by first|omega|(simp;done)|(simp;omega)))) rfl ?_
 refine ab aa 1 rfl ?_
 refine ae ?_
 refine af ?_
 refine aV ?_
 refine cx (β:=Nat×Nat×List an) (fun (p:Nat×Nat×List an)=>match p with|(i,j,d1)=>⟨[(0,(aC (.s 0 0 4 N))),(2,(aI (↑m:Int))),(4,(aC (.d (.f fn bc)))),(10,(aI (↑i:Int))),(11,(aI (↑j:Int)))],[(0,(cH d1))],1⟩) (fun (p:Nat×Nat×List an)=>match p with|(i,j,d1)=>0 < i/\0 < j/\i+a<=m/\m+j<=b/\iW m i j d1=iW m (m - a) (b - m) d/\d1.length=d.length) (fun (p:Nat×Nat×List an)=>match p with|(i,j,d1)=>i+j) (m - a,b - m,d) ?_ ?_ ?_
 ·exact ⟨by omega,by omega,by omega,by omega,rfl,rfl⟩
 ·exact aD.bY id (by refine ⟨?_,?_,?_,?_,?_,trivial⟩<;>first|rfl|(simp only [bn];done)|(congr 3;omega)|(congr 4;omega)|(simp only [bo];rfl)|(exact cJ rfl (by omega))) (⟨by first|rfl|(simp only [bn];done)|(congr 3;omega)|(congr 4;omega)|(simp only [bo];rfl),trivial⟩) rfl
 rintro ⟨i,j,d1⟩ ⟨hi0_0,hi0_1,hi0_2,hi0_3,hi0_4,hi0_5⟩
 refine af ?_
 refine ad aa 3 rfl ?_
 refine ag rfl (fun hc1=>?_) (fun hc1=>?_)
 ·
  have hc1':=of_decide_eq_true hc1
  refine aP ?_
  refine aV ?_
  refine ad aa 3 rfl ?_
  refine ag rfl (fun hc2=>?_) (fun hc2=>?_)
  ·
   have hc2':=of_decide_eq_true hc2
   refine az aa 3 rfl ?_
   refine ay (aM rfl rfl rfl (aH (by first|omega|(simp;done)|(simp;omega)))) rfl ?_
   refine ab aa 3 rfl ?_
   obtain ⟨r0,hr0⟩:∃ (r0:List an),fX ((m) - (i)) m j d1=r0:=⟨_,rfl⟩
   have hlr0:r0.length=d1.length:=by rw [<-hr0];exact iF _ _ _ _
   refine aL 1 [0] (dQ id id (lz ((↑m:Int) - (↑i:Int)) (↑m:Int) (↑j:Int) d1 N ((m) - (i)) m j fn bc hp hen (by first|omega|(simp;done)|(simp;omega)) (by first|omega|(simp;done)|(simp;omega)) (by first|omega|(simp;done)|(simp;omega)) (by first|omega|(simp;done)|(simp;omega)) (by first|omega|(simp;done)|(simp;omega)) (by first|omega|(simp;done)|(simp;omega)) (by first|omega|(simp;done)|(simp;omega)) r0 hr0) yJ rfl rfl ⟨⟨_,rfl,.inl ⟨rfl,rfl⟩⟩,⟨_,rfl,.inr (.c (.d _))⟩,⟨_,rfl,.inr (.c (.d _))⟩,⟨_,rfl,.inr (.c (.d _))⟩,⟨_,rfl,.inr (.c (.d _))⟩,trivial⟩ ⟨rfl,trivial⟩ rfl rfl ⟨.inr ⟨_,_,_,rfl,by first|(simp;omega)|(simp only [List.length_map];omega)⟩,trivial⟩ rfl rfl rfl trivial ⟨(fun _ _ _ _=>trivial),trivial⟩ rfl rfl rfl rfl) rfl ?_
   refine ae ?_
   refine aw ?_
   refine ab aa 2 rfl ?_
   refine ay (aM rfl rfl rfl (aH (by first|omega|(simp;done)|(simp;omega)))) rfl ?_
   refine ab aa 1 rfl ?_
   refine bZ ?_
   refine bp ?_
   refine then_ok ?_
   refine ⟨((i) - (j),j,r0),⟨by omega,by omega,by omega,by omega,by rw [<-hr0,<-zx (by omega) (by omega)];exact hi0_4,by omega⟩,by first|omega|(simp;done)|(simp;omega),aD.bY id (by refine ⟨?_,?_,?_,?_,?_,trivial⟩<;>first|rfl|(simp only [bn];done)|(congr 3;omega)|(congr 4;omega)|(simp only [bo];rfl)|(exact cJ rfl (by omega))) (⟨by first|rfl|(simp only [bn];done)|(congr 3;omega)|(congr 4;omega)|(simp only [bo];rfl),trivial⟩) rfl⟩
  have hc2':=of_decide_eq_false hc2
  refine az aa 3 rfl ?_
  refine ay (aM rfl rfl rfl (aH (by first|omega|(simp;done)|(simp;omega)))) rfl ?_
  refine ab aa 2 rfl ?_
  refine ay (aM rfl rfl rfl (aH (by first|omega|(simp;done)|(simp;omega)))) rfl ?_
  refine ab aa 1 rfl ?_
  refine ay (aM rfl rfl rfl (aH (by first|omega|(simp;done)|(simp;omega)))) rfl ?_
  refine ab aa 2 rfl ?_
  obtain ⟨r1,hr1⟩:∃ (r1:List an),fX ((m) - (i)) (((m)+(j)) - (i)) i d1=r1:=⟨_,rfl⟩
  have hlr1:r1.length=d1.length:=by rw [<-hr1];exact iF _ _ _ _
  refine aL 1 [0] (dQ id id (lz ((↑m:Int) - (↑i:Int)) (((↑m:Int)+(↑j:Int)) - (↑i:Int)) (↑i:Int) d1 N ((m) - (i)) (((m)+(j)) - (i)) i fn bc hp hen (by first|omega|(simp;done)|(simp;omega)) (by first|omega|(simp;done)|(simp;omega)) (by first|omega|(simp;done)|(simp;omega)) (by first|omega|(simp;done)|(simp;omega)) (by first|omega|(simp;done)|(simp;omega)) (by first|omega|(simp;done)|(simp;omega)) (by first|omega|(simp;done)|(simp;omega)) r1 hr1) yJ rfl rfl ⟨⟨_,rfl,.inl ⟨rfl,rfl⟩⟩,⟨_,rfl,.inr (.c (.d _))⟩,⟨_,rfl,.inr (.c (.d _))⟩,⟨_,rfl,.inr (.c (.d _))⟩,⟨_,rfl,.inr (.c (.d _))⟩,trivial⟩ ⟨rfl,trivial⟩ rfl rfl ⟨.inr ⟨_,_,_,rfl,by first|(simp;omega)|(simp only [List.length_map];omega)⟩,trivial⟩ rfl rfl rfl trivial ⟨(fun _ _ _ _=>trivial),trivial⟩ rfl rfl rfl rfl) rfl ?_
  refine ae ?_
  refine aw ?_
  refine ab aa 2 rfl ?_
  refine ay (aM rfl rfl rfl (aH (by first|omega|(simp;done)|(simp;omega)))) rfl ?_
  refine ab aa 1 rfl ?_
  refine bZ ?_
  refine bp ?_
  refine then_ok ?_
  refine ⟨(i,(j) - (i),r1),⟨by omega,by omega,by omega,by omega,by rw [<-hr1,<-zw (by omega) (by omega)];exact hi0_4,by omega⟩,by first|omega|(simp;done)|(simp;omega),aD.bY id (by refine ⟨?_,?_,?_,?_,?_,trivial⟩<;>first|rfl|(simp only [bn];done)|(congr 3;omega)|(congr 4;omega)|(simp only [bo];rfl)|(exact cJ rfl (by omega))) (⟨by first|rfl|(simp only [bn];done)|(congr 3;omega)|(congr 4;omega)|(simp only [bo];rfl),trivial⟩) rfl⟩
 have hc1':=of_decide_eq_false hc1
 refine cp ?_
 refine aR ?_
 refine aR ?_
 refine bQ ?_
 refine then_ok ?_
 refine aw ?_
 refine ab aa 3 rfl ?_
 refine ay (aM rfl rfl rfl (aH (by first|omega|(simp;done)|(simp;omega)))) rfl ?_
 refine ab aa 3 rfl ?_
 obtain ⟨r2,hr2⟩:∃ (r2:List an),fX ((m) - (i)) m i d1=r2:=⟨_,rfl⟩
 have hlr2:r2.length=d1.length:=by rw [<-hr2];exact iF _ _ _ _
 refine aL 1 [0] (dQ id id (lz ((↑m:Int) - (↑i:Int)) (↑m:Int) (↑i:Int) d1 N ((m) - (i)) m i fn bc hp hen (by first|omega|(simp;done)|(simp;omega)) (by first|omega|(simp;done)|(simp;omega)) (by first|omega|(simp;done)|(simp;omega)) (by first|omega|(simp;done)|(simp;omega)) (by first|omega|(simp;done)|(simp;omega)) (by first|omega|(simp;done)|(simp;omega)) (by first|omega|(simp;done)|(simp;omega)) r2 hr2) yJ rfl rfl ⟨⟨_,rfl,.inl ⟨rfl,rfl⟩⟩,⟨_,rfl,.inr (.c (.d _))⟩,⟨_,rfl,.inr (.c (.d _))⟩,⟨_,rfl,.inr (.c (.d _))⟩,⟨_,rfl,.inr (.c (.d _))⟩,trivial⟩ ⟨rfl,trivial⟩ rfl rfl ⟨.inr ⟨_,_,_,rfl,by first|(simp;omega)|(simp only [List.length_map];omega)⟩,trivial⟩ rfl rfl rfl trivial ⟨(fun _ _ _ _=>trivial),trivial⟩ rfl rfl rfl rfl) rfl ?_
 refine bZ ?_
 have hX:iW m (m - a) (b - m) d=r2:=by
   have hij:i=j:=by omega
   subst hij;rw [<-hi0_4,zy (by omega)];exact hr2
 rw [hX] at hr;clear hX
 subst hr
 refine cE aa [0] 1 rfl rfl rfl rfl rfl rfl ?_ ?_
 all_goals first|rfl|(simp [au];done)|(simp [au];omega)
theorem tM (ai mi bi:Int) (d:List an) (N a m b:Nat) (fn:FuncId) (bc:List (List D)) (hp:∀ x y:an,Fn Try.prog fn ([.g [cI x.ax,cI x.ba,cI x.kind,cI x.sum],.g [cI y.ax,cI y.ba,cI y.kind,cI y.sum]]++bc.map fun r=>GV.c (.q r 0)) (aI (gY x y)) []) (hen:bf Try.prog fn) (ea_:ai=(↑a:Int)) (em_:mi=(↑m:Int)) (eb_:bi=(↑b:Int)) (hl:d.length * 32<=140737488355328) (hN:N=d.length) (h0_:a < m) (h1_:m < b) (h2_:b<=d.length) (r:List an) (hr:iW m (m - a) (b - m) d=r):cA Try.prog 93 [(.c (.s 0 0 4 N)),(.c (cI ai)),(.c (cI mi)),(.c (cI bi)),(.c (.d (.f fn bc)))] [(0,(cH d))] [0] (.t []) [(0,(cH r))]:=by
  subst ea_ em_ eb_
  exact Cj d N a m b fn bc hp hen hl hN h0_ h1_ h2_ r hr
end Go.Proofs.Ytegepioggeggaaa.Dev
