/- A part of the proof: Stand1, Stand2, Stand3, Stand4, Stand5, Sort1, Sort2, Sort3. No condition. -/
import Derived.Test.YtegepioggeggaaaD06
set_option linter.unusedVariables false
set_option linter.unusedSimpArgs false
set_option maxHeartbeats 1000000
set_option maxRecDepth 100000
namespace Go.Proofs.Ytegepioggeggaaa.Dev
open Go.RowKit

theorem tK (cap:Int) (used:List Int) (advs:List ca):Fn Try.prog 30 [(.g [(cI cap),(fG used),(gM advs)])] (aI (bT ⟨cap,used,advs⟩)) []:=by
 refine Fn.mk' 109 [(0,(aG [(cI cap),(fG used),(gM advs)]))] Try.func30 rfl rfl rfl rfl ?_
 intro W0 T0
 refine fg 0 1 rfl rfl (fun hlen0_1=>?_)
 refine fg 0 2 rfl rfl (fun hlen0_2=>?_)
 refine ad aa 2 rfl ?_
 refine af ?_
 refine cp 17 ((decide ((↑used.length:Int) > 8))||(decide ((↑advs.length:Int) > 20))) ?_ ?_
 ·
  refine aw ?_
  refine ab aa 2 rfl ?_
  refine ax (cM rfl rfl rfl rfl rfl Try.underlying30) rfl ?_
  refine ab aa 2 rfl ?_
  refine bz (t:=12) rfl (fun hb1=>?_) (fun hb1=>?_)
  ·
   have hb1':=of_decide_eq_true hb1
   refine ab aa 5 rfl ?_
   refine ae ?_
   exact aD.bD 11 rfl rfl (by first|(simp [hb1];done)|(simp_all;done)|(exfalso;simp_all;done)|(simp_all;omega)) rfl
  have hb1':=of_decide_eq_false hb1
  refine ab aa 2 rfl ?_
  refine dP (aj.yes rfl rfl rfl) (cM rfl rfl rfl rfl rfl Try.underlying39) rfl rfl ?_
  refine ab aa 2 rfl ?_
  refine ae ?_
  exact aD.bD 11 rfl rfl (by first|(simp [hb1];done)|(simp_all;done)|(exfalso;simp_all;done)|(simp_all;omega)) rfl
 refine ag rfl (fun hc2=>?_) (fun hc2=>?_)
 ·
  have hc2':=hc2;try simp only [bj,bL] at hc2'
  refine ad aa 1 rfl ?_
  refine ar ?_
  refine ao ?_
  refine ah aa [] 0 rfl rfl rfl rfl rfl rfl ?_ ?_
  ·(have h:=nJ (s:=⟨cap,used,advs⟩) (show 8 < used.length\/20 < advs.length by omega));show aI _=aI _;rw [h]
  ·rfl
 have hc2':=hc2;try simp only [bj,bL] at hc2'
 refine aN ?_
 refine af ?_
 refine cp 25 ((decide (cap < 0))||(decide (cap > 1000000))) ?_ ?_
 ·
  refine aw ?_
  refine ab aa 4 rfl ?_
  refine bz (t:=21) rfl (fun hb3=>?_) (fun hb3=>?_)
  ·
   have hb3':=of_decide_eq_true hb3
   refine ab aa 4 rfl ?_
   refine ae ?_
   exact aD.bD 9 rfl rfl (by first|(simp [hb3];done)|(simp_all;done)|(exfalso;simp_all;done)|(simp_all;omega)) rfl
  have hb3':=of_decide_eq_false hb3
  refine ab aa 4 rfl ?_
  refine ae ?_
  exact aD.bD 9 rfl rfl (by first|(simp [hb3];done)|(simp_all;done)|(exfalso;simp_all;done)|(simp_all;omega)) rfl
 refine ag rfl (fun hc4=>?_) (fun hc4=>?_)
 ·
  have hc4':=hc4;try simp only [bj,bL] at hc4'
  refine ad aa 1 rfl ?_
  refine ar ?_
  refine ao ?_
  refine ah aa [] 0 rfl rfl rfl rfl rfl rfl ?_ ?_
  ·(have h:=ml (s:=⟨cap,used,advs⟩) (show ¬(8 < (⟨cap,used,advs⟩:cr).used.length\/20 < (⟨cap,used,advs⟩:cr).aZ.length) by simp only;omega) (show fW cap=false by simp only [fW,decide_eq_false_iff_not];omega));show aI _=aI _;rw [h]
  ·rfl
 have hc4':=hc4;try simp only [bj,bL] at hc4'
 refine aN ?_
 refine aA aa 2 rfl ?_
 refine ax (cM rfl rfl rfl rfl rfl Try.underlying30) rfl ?_
 refine aL 2 [1,0] (oU 1 lZ BZ rfl rfl rfl (n:=used.length) (by first|omega|(simp;omega)|(simp [dd];omega)) (by first|omega|(simp;omega)|(simp [dd];omega)) (by first|omega|(simp;omega)|(simp [dd];omega)) (by first|omega|(simp;omega)|(simp [dd];omega))) rfl ?_
 refine ab aa 1 rfl ?_
 refine ae ?_
 refine af ?_
 refine aA aa 2 rfl ?_
 refine ax (cM rfl rfl rfl rfl rfl Try.underlying39) rfl ?_
 refine ab aa 1 rfl ?_
 refine ae ?_
 refine aU ?_
 refine ct (β:=Nat) (fun (q:Nat)=>⟨[(1,(aC (.p 0 0 0 0))),(3,(aC (.s 1 0 1 used.length))),(31,(aC (gM advs))),(32,(aI (↑advs.length:Int))),(33,(aI (↑q:Int)))],[(1,(dF (iI used.length (advs.take q)))),(0,(.box 41 [(cI cap),(fG used),(gM advs)]))],2⟩) (fun (q:Nat)=>q<=advs.length/\(advs.take q).all (gk used.length)=true) (fun (q:Nat)=>advs.length - q) 0 ?_ ?_ ?_
 ·exact ⟨by omega,by simp⟩
 ·exact aD.bW id (by refine ⟨?_,?_,?_,?_,?_,trivial⟩<;>first|rfl|(simp only [bm];done)|(congr 3;omega)|(congr 4;omega)|(simp only [bn];rfl)) (by refine ⟨?_,?_,trivial⟩<;>first|rfl|(simp only [bm];done)|(congr 3;omega)|(congr 4;omega)|(simp only [bn];rfl)|((rw [List.take_zero,<-yH];rfl))) rfl
 rintro q ⟨hi0_0,hi0_1⟩
 refine ad aa 1 rfl ?_
 refine af ?_
 refine ag rfl (fun hc5=>?_) (fun hc5=>?_)
 ·
  have hc5':=of_decide_eq_true hc5
  refine aN ?_
  refine af ?_
  refine aU ?_
  refine eC ?_
  obtain ⟨x1,hx1⟩:=ck (xs:=advs) (i:=q) (by first|omega|(simp [dd];omega))
  refine ax (cP (i:=q) rfl rfl rfl Try.underlying39 Cc (by first|omega|(simp;omega)|(simp [dd];omega)) (bu hx1)) rfl ?_
  refine ab aa 3 rfl ?_
  refine ae ?_
  refine af ?_
  refine cp 77 ((((((((decide (x1.aK < 0))||(decide (x1.aK>=(↑used.length:Int))))||(decide (x1.ay < 0)))||(decide (x1.ay>=8)))||(decide (x1.sum < 1)))||(decide (x1.sum > 1000000)))||(decide (x1.time < 0)))||(decide (x1.time > 1000000))) ?_ ?_
  ·
   refine aw ?_
   refine ab aa 4 rfl ?_
   refine bz (t:=40) rfl (fun hb6=>?_) (fun hb6=>?_)
   ·
    have hb6':=of_decide_eq_true hb6
    refine ab aa 37 rfl ?_
    refine ae ?_
    exact aD.bD 42 rfl rfl (by first|(simp [hb6];done)|(simp_all;done)|(exfalso;simp_all;done)|(simp_all;omega)) rfl
   have hb6':=of_decide_eq_false hb6
   refine ab aa 4 rfl ?_
   refine dP (aj.yes rfl rfl rfl) (cM rfl rfl rfl rfl rfl Try.underlying30) rfl rfl ?_
   refine ab aa 3 rfl ?_
   refine bz (t:=48) rfl (fun hb7=>?_) (fun hb7=>?_)
   ·
    have hb7':=of_decide_eq_true hb7
    refine ab aa 29 rfl ?_
    refine ae ?_
    exact aD.bD 43 rfl rfl (by first|(simp [hb6,hb7];done)|(simp_all;done)|(exfalso;simp_all;done)|(simp_all;omega)) rfl
   have hb7':=of_decide_eq_false hb7
   refine ab aa 5 rfl ?_
   refine bz (t:=53) rfl (fun hb8=>?_) (fun hb8=>?_)
   ·
    have hb8':=of_decide_eq_true hb8
    refine ab aa 24 rfl ?_
    refine ae ?_
    exact aD.bD 44 rfl rfl (by first|(simp [hb6,hb7,hb8];done)|(simp_all;done)|(exfalso;simp_all;done)|(simp_all;omega)) rfl
   have hb8':=of_decide_eq_false hb8
   refine ab aa 5 rfl ?_
   refine bz (t:=58) rfl (fun hb9=>?_) (fun hb9=>?_)
   ·
    have hb9':=of_decide_eq_true hb9
    refine ab aa 19 rfl ?_
    refine ae ?_
    exact aD.bD 45 rfl rfl (by first|(simp [hb6,hb7,hb8,hb9];done)|(simp_all;done)|(exfalso;simp_all;done)|(simp_all;omega)) rfl
   have hb9':=of_decide_eq_false hb9
   refine ab aa 5 rfl ?_
   refine bz (t:=63) rfl (fun hb10=>?_) (fun hb10=>?_)
   ·
    have hb10':=of_decide_eq_true hb10
    refine ab aa 14 rfl ?_
    refine ae ?_
    exact aD.bD 46 rfl rfl (by first|(simp [hb6,hb7,hb8,hb9,hb10];done)|(simp_all;done)|(exfalso;simp_all;done)|(simp_all;omega)) rfl
   have hb10':=of_decide_eq_false hb10
   refine ab aa 5 rfl ?_
   refine bz (t:=68) rfl (fun hb11=>?_) (fun hb11=>?_)
   ·
    have hb11':=of_decide_eq_true hb11
    refine ab aa 9 rfl ?_
    refine ae ?_
    exact aD.bD 47 rfl rfl (by first|(simp [hb6,hb7,hb8,hb9,hb10,hb11];done)|(simp_all;done)|(exfalso;simp_all;done)|(simp_all;omega)) rfl
   have hb11':=of_decide_eq_false hb11
   refine ab aa 5 rfl ?_
   refine bz (t:=73) rfl (fun hb12=>?_) (fun hb12=>?_)
   ·
    have hb12':=of_decide_eq_true hb12
    refine ab aa 4 rfl ?_
    refine ae ?_
    exact aD.bD 48 rfl rfl (by first|(simp [hb6,hb7,hb8,hb9,hb10,hb11,hb12];done)|(simp_all;done)|(exfalso;simp_all;done)|(simp_all;omega)) rfl
   have hb12':=of_decide_eq_false hb12
   refine ab aa 4 rfl ?_
   refine ae ?_
   exact aD.bD 48 rfl rfl (by first|(simp [hb6,hb7,hb8,hb9,hb10,hb11,hb12];done)|(simp_all;done)|(exfalso;simp_all;done)|(simp_all;omega)) rfl
  refine ag rfl (fun hc13=>?_) (fun hc13=>?_)
  ·
   have hc13':=hc13;try simp only [bj,bL] at hc13'
   refine ad aa 1 rfl ?_
   refine ar ?_
   refine ao ?_
   refine bf ?_
   refine ao ?_
   refine ao ?_
   refine bf ?_
   refine ao ?_
   refine ah aa [] 0 rfl rfl rfl rfl rfl rfl ?_ ?_
   ·(have h:=jK (s:=⟨cap,used,advs⟩) (show ¬(8 < (⟨cap,used,advs⟩:cr).used.length\/20 < (⟨cap,used,advs⟩:cr).aZ.length) by simp only;omega) (show fW (⟨cap,used,advs⟩:cr).cap=true by simp only [fW,decide_eq_true_eq];omega) (EH hx1 (by simp only [gk,decide_eq_false_iff_not];omega)));show aI _=aI _;rw [h]
   ·rfl
  have hc13':=hc13;try simp only [bj,bL] at hc13'
  refine aN ?_
  obtain ⟨x2,hx2⟩:=ck (xs:=(iI used.length (advs.take q))) (i:=Int.toNat (x1.aK)) (by first|omega|(simp [dd];omega))
  have hx2v:=sw hx2
  have hgb:=pz used.length (x1.aK) (advs.take q) hi0_1
  have hgl:(advs.take q).length<=q:=List.length_take_le _ _
  rw [Int.toNat_of_nonneg (by omega)] at hx2v
  refine bb [1,3,31,32,33,5] [2,1,0] mixed rfl rfl ?_
  refine az (kn:=[]) aa 3 rfl trivial ?_
  refine aT (n':=3) [78,80] [1] rfl rfl (.inl ⟨(aj.plain rfl),aH.cast (bo (i:=Int.toNat (x1.aK)) rfl rfl rfl Try.underlying30 fH (by first|omega|(simp;omega)|(simp [dd];omega)) (by first|omega|(simp;omega)|(simp [dd];omega))) rfl⟩) rfl ?_
  refine aT (n':=3) [81] [1] rfl rfl (.inl ⟨(aj.plain rfl),aH.cast (eD rfl rfl rfl Try.underlying3 rfl (bu hx2) rfl) rfl⟩) rfl ?_
  refine az (kn:=[]) aa 2 rfl trivial ?_
  refine aT (n':=3) [82,84] [] rfl rfl (.inl ⟨(aj.plain rfl),aH.cast (aJ rfl rfl rfl (aF (by first|omega|(simp;omega)|(simp [dd];omega)))) rfl⟩) rfl ?_
  refine aT (n':=3) [78,80] [1] rfl rfl (.inl ⟨(aj.plain rfl),aH.cast (bo (i:=Int.toNat (x1.aK)) rfl rfl rfl Try.underlying30 fH (by first|omega|(simp;omega)|(simp [dd];omega)) (by first|omega|(simp;omega)|(simp [dd];omega))) rfl⟩) rfl ?_
  refine bA [2,1,0] rfl rfl rfl rfl (by kernel_rfl) ?_
  refine fY [2,1,0] (dL (ds:=[(dI (x2+x1.sum))]) rfl rfl rfl rfl rfl fH rfl (Nat.le_of_ble_eq_true rfl) (bu hx2) rfl (eH (x':=x2+x1.sum) rfl)) rfl ?_
  refine bY ?_
  refine bl ?_
  refine then_ok ?_
  refine aw ?_
  refine ax (aJ rfl rfl rfl (aF (by first|omega|(simp;omega)|(simp [dd];omega)))) rfl ?_
  refine ab aa 1 rfl ?_
  refine ae ?_
  refine ⟨q+1,⟨by omega,xm hi0_1 hx1 (by simp only [gk,decide_eq_true_eq];omega)⟩,by first|omega|(simp;done)|(simp;omega),aD.bW id (by refine ⟨?_,?_,?_,?_,?_,trivial⟩<;>first|rfl|(simp only [bm];done)|(congr 3;omega)|(congr 4;omega)|(simp only [bn];rfl)) (by refine ⟨?_,?_,trivial⟩<;>first|rfl|(simp only [bm];done)|(congr 3;omega)|(congr 4;omega)|(simp only [bn];rfl)|((rw [iy hx1,<-yG (i:=Int.toNat x1.aK) (v:=x2+x1.sum) (by omega) (by omega) (by rw [hx2v])];rfl))) rfl⟩
 have hc5':=of_decide_eq_false hc5
 refine cm ?_
 refine aP ?_
 refine aP ?_
 refine bN ?_
 refine then_ok ?_
 refine af ?_
 refine aA aa 2 rfl ?_
 refine ax (cM rfl rfl rfl rfl rfl Try.underlying30) rfl ?_
 refine ab aa 1 rfl ?_
 refine ae ?_
 refine aU ?_
 have hta:advs.take q=advs:=List.take_of_length_le (by omega)
 have hall:advs.all (gk used.length)=true:=by rw [<-hta];exact hi0_1
 rw [hta]
 refine ct (β:=Nat) (fun (p:Nat)=>⟨[(1,(aC (.p 0 0 0 0))),(3,(aC (.s 1 0 1 used.length))),(31,(aC (gM advs))),(32,(aI (↑advs.length:Int))),(33,(aI (↑q:Int))),(89,(aC (fG used))),(90,(aI (↑used.length:Int))),(91,(aI (↑p:Int)))],[(1,(dF (iI used.length advs))),(0,(.box 41 [(cI cap),(fG used),(gM advs)]))],2⟩) (fun (p:Nat)=>p<=used.length/\eL cap advs 0 used=eL cap advs p (used.drop p)) (fun (p:Nat)=>used.length - p) 0 ?_ ?_ ?_
 ·exact ⟨by omega,rfl⟩
 ·exact aD.bW id (by refine ⟨?_,?_,?_,?_,?_,?_,?_,?_,trivial⟩<;>first|rfl|(simp only [bm];done)|(congr 3;omega)|(congr 4;omega)|(simp only [bn];rfl)) (by refine ⟨?_,?_,trivial⟩<;>first|rfl|(simp only [bm];done)|(congr 3;omega)|(congr 4;omega)|(simp only [bn];rfl)) rfl
 rintro p ⟨hi1_0,hi1_1⟩
 refine ad aa 1 rfl ?_
 refine af ?_
 refine ag rfl (fun hc14=>?_) (fun hc14=>?_)
 ·
  have hc14':=of_decide_eq_true hc14
  refine aN ?_
  refine af ?_
  refine aU ?_
  refine aA aa 1 rfl ?_
  obtain ⟨x1,hx1⟩:=ck (xs:=used) (i:=p) (by first|omega|(simp [dd];omega))
  refine ax (cP (i:=p) rfl rfl rfl Try.underlying30 fH (by first|omega|(simp;omega)|(simp [dd];omega)) (bu hx1)) rfl ?_
  refine ab aa 3 rfl ?_
  refine ae ?_
  refine aA aa 3 rfl ?_
  refine ax (bo (i:=p) rfl rfl rfl Try.underlying30 fH (by first|omega|(simp;omega)|(simp [dd];omega)) (by first|omega|(simp;omega)|(simp [dd];omega))) rfl ?_
  obtain ⟨x2,hx2⟩:=ck (xs:=(iI used.length advs)) (i:=p) (by first|omega|(simp [dd];omega))
  have hx2v:=sw hx2
  refine ax (eD rfl rfl rfl Try.underlying3 rfl (bu hx2) rfl) rfl ?_
  refine ab aa 2 rfl ?_
  refine bz (t:=102) rfl (fun hb15=>?_) (fun hb15=>?_)
  ·
   have hb15':=of_decide_eq_true hb15
   refine ab aa 5 rfl ?_
   refine ae ?_
   refine ag rfl (fun _=>?_) (fun hno=>by cases hno)
   refine ad aa 1 rfl ?_
   refine ar ?_
   refine bf ?_
   refine ao ?_
   refine ao ?_
   refine bf ?_
   refine ao ?_
   refine ah aa [] 0 rfl rfl rfl rfl rfl rfl ?_ ?_
   ·(have h:=gb (s:=⟨cap,used,advs⟩) (show ¬(8 < (⟨cap,used,advs⟩:cr).used.length\/20 < (⟨cap,used,advs⟩:cr).aZ.length) by simp only;omega) (show fW (⟨cap,used,advs⟩:cr).cap=true by simp only [fW,decide_eq_true_eq];omega) hall);show aI _=aI _;rw [h];show aI _=aI (eL cap advs 0 used);rw [hi1_1,qk hx1,eL,if_neg (by omega)]
   ·rfl
  have hb15':=of_decide_eq_false hb15
  refine ab aa 5 rfl ?_
  refine ae ?_
  refine ag rfl (fun hc17=>?_) (fun hc17=>?_)
  ·
   have hc17':=of_decide_eq_true hc17
   refine ad aa 1 rfl ?_
   refine ar ?_
   refine bf ?_
   refine ao ?_
   refine ao ?_
   refine bf ?_
   refine ao ?_
   refine ah aa [] 0 rfl rfl rfl rfl rfl rfl ?_ ?_
   ·(have h:=gb (s:=⟨cap,used,advs⟩) (show ¬(8 < (⟨cap,used,advs⟩:cr).used.length\/20 < (⟨cap,used,advs⟩:cr).aZ.length) by simp only;omega) (show fW (⟨cap,used,advs⟩:cr).cap=true by simp only [fW,decide_eq_true_eq];omega) hall);show aI _=aI _;rw [h];show aI _=aI (eL cap advs 0 used);rw [hi1_1,qk hx1,eL,if_neg (by omega)]
   ·rfl
  have hc17':=of_decide_eq_false hc17
  refine cU ?_
  refine bl ?_
  refine then_ok ?_
  refine aw ?_
  refine ax (aJ rfl rfl rfl (aF (by first|omega|(simp;omega)|(simp [dd];omega)))) rfl ?_
  refine ab aa 1 rfl ?_
  refine ae ?_
  refine ⟨p+1,⟨by omega,by rw [hi1_1,qk hx1,eL,if_pos (by omega),Int.natCast_add];rfl⟩,by first|omega|(simp;done)|(simp;omega),aD.bW id (by refine ⟨?_,?_,?_,?_,?_,?_,?_,?_,trivial⟩<;>first|rfl|(simp only [bm];done)|(congr 3;omega)|(congr 4;omega)|(simp only [bn];rfl)) (by refine ⟨?_,?_,trivial⟩<;>first|rfl|(simp only [bm];done)|(congr 3;omega)|(congr 4;omega)|(simp only [bn];rfl)) rfl⟩
 have hc14':=of_decide_eq_false hc14
 refine cm ?_
 refine aP ?_
 refine aP ?_
 refine bN ?_
 refine then_ok ?_
 refine ad aa 1 rfl ?_
 refine ar ?_
 refine ah aa [] 0 rfl rfl rfl rfl rfl rfl ?_ ?_
 ·(have h:=gb (s:=⟨cap,used,advs⟩) (show ¬(8 < (⟨cap,used,advs⟩:cr).used.length\/20 < (⟨cap,used,advs⟩:cr).aZ.length) by simp only;omega) (show fW (⟨cap,used,advs⟩:cr).cap=true by simp only [fW,decide_eq_true_eq];omega) hall);show aI _=aI _;rw [h];show aI _=aI (eL cap advs 0 used);rw [hi1_1,List.drop_of_length_le (by omega)];rfl
 ·rfl


theorem iM (s:cr) (e:Int) (hr:bT s=e):Fn Try.prog 30 [(.g [cI s.cap,cR 1 (s.used.map rI),cR 4 (s.aZ.map ic)])] (.v (.c (cI e))) []:=hr▸tK s.cap s.used s.aZ
section
open Go.RowKit
end

theorem wg (limit an:Int) (x:cr) (e:Int) (hr:dt limit an=(x,e)):Fn Try.prog 41 [(.c (cI limit)),(.c (cI an))] (.t [(.g [(cI x.cap),(.s 0 0 1 x.used.length),(.s 1 0 4 x.aZ.length)]),(.c (cI e))]) [(0,(dF x.used)),(1,(Ae x.aZ))]:=by
 refine Fn.mk' 24 [(0,(aI limit)),(1,(aI an))] Try.func41 rfl rfl rfl rfl ?_
 intro W0 T0
 refine ad aa 2 rfl ?_
 refine af ?_
 refine cp 11 ((decide (an < 0))||(decide (an > 8))) ?_ ?_
 ·
  refine aw ?_
  refine ab aa 3 rfl ?_
  refine bz (t:=8) rfl (fun hb1=>?_) (fun hb1=>?_)
  ·
   have hb1':=of_decide_eq_true hb1
   refine ab aa 3 rfl ?_
   refine ae ?_
   exact aD.bD 7 rfl rfl (by first|(simp [hb1];done)|(simp_all;done)|(exfalso;simp_all;done)|(simp_all;omega)) rfl
  have hb1':=of_decide_eq_false hb1
  refine ab aa 3 rfl ?_
  refine ae ?_
  exact aD.bD 7 rfl rfl (by first|(simp [hb1];done)|(simp_all;done)|(exfalso;simp_all;done)|(simp_all;omega)) rfl
 refine ag rfl (fun hc2=>?_) (fun hc2=>?_)
 ·
  have hc2':=hc2;try simp only [bj,bL] at hc2'
  refine ad aa 3 rfl ?_
  refine ar ?_
  refine ao ?_
  refine cb 0 1 3 1 rfl rfl rfl ?_
  refine cb 0 2 107 4 rfl rfl rfl ?_
  have hX:dt limit an=((⟨0,([]:List Int),([]:List ca)⟩:cr),5):=by
    exact tF (by omega)
  rw [hX] at hr;clear hX
  simp only [Prod.mk.injEq] at hr;obtain ⟨rfl,rfl⟩:=hr
  refine ah aa [1,2,0] 2 rfl rfl rfl rfl rfl rfl ?_ ?_
  all_goals first|rfl|(simp [au];done)|(simp [au];omega)
 have hc2':=hc2;try simp only [bj,bL] at hc2'
 refine aN ?_
 refine af ?_
 refine cp 18 ((decide (limit < 0))||(decide (limit > 1000000))) ?_ ?_
 ·
  refine aw ?_
  refine ab aa 3 rfl ?_
  refine bz (t:=15) rfl (fun hb3=>?_) (fun hb3=>?_)
  ·
   have hb3':=of_decide_eq_true hb3
   refine ab aa 3 rfl ?_
   refine ae ?_
   exact aD.bD 7 rfl rfl (by first|(simp [hb3];done)|(simp_all;done)|(exfalso;simp_all;done)|(simp_all;omega)) rfl
  have hb3':=of_decide_eq_false hb3
  refine ab aa 3 rfl ?_
  refine ae ?_
  exact aD.bD 7 rfl rfl (by first|(simp [hb3];done)|(simp_all;done)|(exfalso;simp_all;done)|(simp_all;omega)) rfl
 refine ag rfl (fun hc4=>?_) (fun hc4=>?_)
 ·
  have hc4':=hc4;try simp only [bj,bL] at hc4'
  refine ad aa 3 rfl ?_
  refine ar ?_
  refine ao ?_
  refine cb 0 1 3 1 rfl rfl rfl ?_
  refine cb 0 2 107 4 rfl rfl rfl ?_
  have hX:dt limit an=((⟨0,([]:List Int),([]:List ca)⟩:cr),3):=by
    exact rS (by omega) (by first|omega|(simp_all [bj];done)|(simp_all [bj];omega))
  rw [hX] at hr;clear hX
  simp only [Prod.mk.injEq] at hr;obtain ⟨rfl,rfl⟩:=hr
  refine ah aa [1,2,0] 2 rfl rfl rfl rfl rfl rfl ?_ ?_
  all_goals first|rfl|(simp [au];done)|(simp [au];omega)
 have hc4':=hc4;try simp only [bj,bL] at hc4'
 refine aN ?_
 refine aA aa 2 rfl ?_
 refine aL 2 [1,0] (oU 1 lZ BZ rfl rfl rfl (n:=Int.toNat (an)) (by first|omega|(simp;done)|(simp;omega)) (by first|omega|(simp;done)|(simp;omega)) (by first|omega|(simp;done)|(simp;omega)) (by first|omega|(simp;done)|(simp;omega))) rfl ?_
 refine ab aa 3 rfl ?_
 refine ae ?_
 refine ar ?_
 refine cb 0 2 107 4 rfl rfl rfl ?_
 have hX:dt limit an=((⟨limit,List.replicate (Int.toNat (an)) 0,([]:List ca)⟩:cr),0):=by
   unfold dt;rw [if_neg (by omega),if_neg (by simp only [fW,decide_eq_true_eq];first|omega|(simp_all [bj];done)|(simp_all [bj];omega))]
 rw [hX] at hr;clear hX
 simp only [Prod.mk.injEq] at hr;obtain ⟨rfl,rfl⟩:=hr
 refine ah aa [1,2,0] 2 rfl rfl rfl rfl rfl rfl ?_ ?_
 all_goals first|rfl|(simp [au];done)|(simp [au];omega)
theorem tL (s:cr) (x:cr) (l:List ca) (e:Int) (hr:cS s=(x,l,e)):Fn Try.prog 90 [(.g [(cI s.cap),(fG s.used),(gM s.aZ)])] (.t [(.g [(cI x.cap),(.s 0 0 1 x.used.length),(.s 1 0 4 x.aZ.length)]),(.c (.s 2 0 4 l.length)),(.c (cI e))]) [(0,(dF x.used)),(1,(Ae x.aZ)),(2,(Ae l))]:=by
 refine Fn.mk' 22 [(0,(aG [(cI s.cap),(fG s.used),(gM s.aZ)]))] Try.func90 rfl rfl rfl rfl ?_
 intro W0 T0
 refine fg 0 1 rfl rfl (fun hlen0_1=>?_)
 refine fg 0 2 rfl rfl (fun hlen0_2=>?_)
 have hrp:=@gF s
 refine ad aa 4 rfl ?_
 refine af ?_
 refine aA aa 1 rfl ?_
 obtain ⟨e0,hr0⟩:∃ (e0:Int),bT s=e0:=⟨_,rfl⟩
 refine aL 2 [1,0] (bO 2 (iM s e0 hr0) yd rfl rfl ⟨⟨_,rfl,.g ⟨.d _,.d _,.d _,trivial⟩⟩,trivial⟩ trivial trivial rfl rfl rfl rfl) rfl ?_
 refine ab aa 1 rfl ?_
 refine ae ?_
 refine ad aa 2 rfl ?_
 refine ag rfl (fun hc1=>?_) (fun hc1=>?_)
 ·
  have hc1':=of_decide_eq_true hc1
  refine ad aa 5 rfl ?_
  refine ar ?_
  refine ao ?_
  refine cb 1 1 3 1 rfl rfl rfl ?_
  refine cb 1 2 107 4 rfl rfl rfl ?_
  refine cQ (aD.nil 3 107 4 (by decide) rfl) ?_
  have hX:cS s=((⟨0,([]:List Int),([]:List ca)⟩:cr),([]:List ca),e0):=by
    unfold cS;rw [if_pos (by omega),hr0];rfl
  rw [hX] at hr;clear hX
  simp only [Prod.mk.injEq] at hr;obtain ⟨rfl,rfl,rfl⟩:=hr
  refine ah aa [2,3,4,1] 3 rfl rfl rfl rfl rfl rfl ?_ ?_
  all_goals first|rfl|(simp [au];done)|(simp [au];omega)
 have hc1':=of_decide_eq_false hc1
 refine aN ?_
 refine af ?_
 refine bb [1,2] [1,0] mixed rfl rfl ?_
 refine az (kn:=[]) aa 4 rfl trivial ?_
 refine aT (n':=2) [15] [] rfl rfl (.inl ⟨(aj.plain rfl),aH.cast (cM rfl rfl rfl rfl rfl Try.underlying30) rfl⟩) rfl ?_
 refine aT (n':=3) [16] [] rfl rfl (.inl ⟨(aj.plain rfl),aH.cast (oU 2 lZ BZ rfl rfl rfl (n:=s.used.length) (by first|omega|(simp;done)|(simp;omega)) (by first|omega|(simp;done)|(simp;omega)) (by first|omega|(simp;done)|(simp;omega)) (by first|omega|(simp;done)|(simp;omega))) rfl⟩) rfl ?_
 refine az (kn:=[]) aa 3 rfl trivial ?_
 refine aT (n':=4) [20] [] rfl rfl (.inl ⟨(aj.plain rfl),aH.cast (bO 3 (mD s.aZ (by first|omega|(simp;done)|(simp;omega))) DY rfl rfl ⟨⟨_,rfl,.c (.d _)⟩,trivial⟩ trivial ⟨(fun _ _ _ _=>trivial),trivial⟩ rfl rfl rfl rfl) rfl⟩) rfl ?_
 refine bA [3,2,1,0] rfl rfl rfl rfl (by kernel_rfl) ?_
 refine ab aa 3 rfl ?_
 refine ae ?_
 refine ar ?_
 refine cb 1 2 107 4 rfl rfl rfl ?_
 have hX:cS s=((⟨s.cap,List.replicate s.used.length 0,([]:List ca)⟩:cr),s.aZ,0):=by
   unfold cS;rw [if_neg (by omega)]
 rw [hX] at hr;clear hX
 simp only [Prod.mk.injEq] at hr;obtain ⟨rfl,rfl,rfl⟩:=hr
 refine ah aa [2,4,3,1] 3 rfl rfl rfl rfl rfl rfl ?_ ?_
 all_goals first|rfl|(simp [au];done)|(simp [au];omega)

theorem vr (s:cr) (a:ca) (x:cr) (e:Int) (hr:cf s a=(x,e)):Fn Try.prog 78 [(.g [(cI s.cap),(fG s.used),(gM s.aZ)]),(.g [(cI a.aK),(cI a.ay),(cI a.sum),(cI a.time)])] (.t [(.g [(cI x.cap),(.s 0 0 1 x.used.length),(.s 1 0 4 x.aZ.length)]),(.c (cI e))]) [(0,(dF x.used)),(1,(Ae x.aZ))]:=by
 refine Fn.mk' 74 [(0,(aG [(cI s.cap),(fG s.used),(gM s.aZ)])),(1,(aG [(cI a.aK),(cI a.ay),(cI a.sum),(cI a.time)]))] Try.func78 rfl rfl rfl rfl ?_
 intro W0 T0
 refine fg 0 1 rfl rfl (fun hlen0_1=>?_)
 refine fg 0 2 rfl rfl (fun hlen0_2=>?_)
 have hub:=@qx s
 have hrp:=@gF s
 refine ad aa 4 rfl ?_
 refine af ?_
 refine aA aa 1 rfl ?_
 obtain ⟨e0,hr0⟩:∃ (e0:Int),bT s=e0:=⟨_,rfl⟩
 refine aL 3 [2,1,0] (bO 3 (iM s e0 hr0) yd rfl rfl ⟨⟨_,rfl,.g ⟨.d _,.d _,.d _,trivial⟩⟩,trivial⟩ trivial trivial rfl rfl rfl rfl) rfl ?_
 refine ab aa 1 rfl ?_
 refine ae ?_
 refine ad aa 2 rfl ?_
 refine ag rfl (fun hc1=>?_) (fun hc1=>?_)
 ·
  have hc1':=of_decide_eq_true hc1
  refine ad aa 4 rfl ?_
  refine ar ?_
  refine ao ?_
  refine cb 2 1 3 1 rfl rfl rfl ?_
  refine cb 2 2 107 4 rfl rfl rfl ?_
  have hX:cf s a=((⟨0,([]:List Int),([]:List ca)⟩:cr),e0):=by
    rw [xT (by omega),hr0];rfl
  rw [hX] at hr;clear hX
  simp only [Prod.mk.injEq] at hr;obtain ⟨rfl,rfl⟩:=hr
  refine ah aa [3,4,2] 2 rfl rfl rfl rfl rfl rfl ?_ ?_
  all_goals first|rfl|(simp [au];done)|(simp [au];omega)
 have hc1':=of_decide_eq_false hc1
 refine aN ?_
 refine af ?_
 refine aA aa 2 rfl ?_
 refine ax (cM rfl rfl rfl rfl rfl Try.underlying39) rfl ?_
 refine ab aa 1 rfl ?_
 refine ae ?_
 refine ag rfl (fun hc2=>?_) (fun hc2=>?_)
 ·
  have hc2':=of_decide_eq_true hc2
  refine ad aa 3 rfl ?_
  refine ar ?_
  refine ao ?_
  refine cb 2 1 3 1 rfl rfl rfl ?_
  refine cb 2 2 107 4 rfl rfl rfl ?_
  have hX:cf s a=((⟨0,([]:List Int),([]:List ca)⟩:cr),5):=by
    exact td (by omega) (by omega)
  rw [hX] at hr;clear hX
  simp only [Prod.mk.injEq] at hr;obtain ⟨rfl,rfl⟩:=hr
  refine ah aa [3,4,2] 2 rfl rfl rfl rfl rfl rfl ?_ ?_
  all_goals first|rfl|(simp [au];done)|(simp [au];omega)
 have hc2':=of_decide_eq_false hc2
 refine aN ?_
 refine af ?_
 refine bb [2,3,4] [2,1,0] mixed rfl rfl ?_
 refine az (kn:=[]) aa 4 rfl trivial ?_
 refine aT (n':=4) [23] [] rfl rfl (.inl ⟨(aj.plain rfl),aH.cast (bO 3 (pF s.used (by first|omega|(simp;done)|(simp;omega))) DZ rfl rfl ⟨⟨_,rfl,.c (.d _)⟩,trivial⟩ trivial ⟨(fun _ _ _ _=>trivial),trivial⟩ rfl rfl rfl rfl) rfl⟩) rfl ?_
 refine az (kn:=[]) aa 2 rfl trivial ?_
 refine aT (n':=5) [26] [] rfl rfl (.inl ⟨(aj.plain rfl),aH.cast (bO 4 (mD s.aZ (by first|omega|(simp;done)|(simp;omega))) DY rfl rfl ⟨⟨_,rfl,.c (.d _)⟩,trivial⟩ trivial ⟨(fun _ _ _ _=>trivial),trivial⟩ rfl rfl rfl rfl) rfl⟩) rfl ?_
 refine az (kn:=[]) aa 1 rfl trivial ?_
 refine aT (n':=6) [28] [] rfl rfl (.inl ⟨(aj.plain rfl),aH.cast (dA (ys:=[(0,(.g [(cI a.aK),(cI a.ay),(cI a.sum),(cI a.time)]))]) (rows:=([a]).map ic) 5 xB rfl (by decide) ⟨⟨rfl,rfl⟩,trivial⟩ rfl rfl rfl rfl) rfl⟩) rfl ?_
 refine aT (n':=7) [27,29] [5,4] rfl rfl (.inl ⟨(aj.plain rfl),aH.cast (de (m:=1) (N:=s.aZ.length+1) (k2:=6) (ys:=([a]).map ic) xB rfl rfl rfl rfl rfl rfl (by first|omega|(simp;done)|(simp;omega)) rfl (.s rfl (by first|omega|(simp;done)|(simp;omega))) (by first|omega|(simp;done)|(simp;omega)) (by first|omega|(simp;done)|(simp;omega)) eY (by decide) (by first|omega|(simp;done)|(simp;omega)) (by first|omega|(simp;done)|(simp;omega))) rfl⟩) rfl ?_
 refine az (n':=8) (kn:=[]) aa 2 rfl trivial ?_
 refine bA [7,6,3,2,1,0] rfl rfl rfl rfl (by kernel_rfl) ?_
 refine ab aa 1 rfl ?_
 refine ae ?_
 refine af ?_
 refine cp 52 ((((decide (a.aK>=0)) && (decide (a.aK < (↑s.used.length:Int)))) && (decide (a.sum>=1))) && (decide (a.sum<=1000000))) ?_ ?_
 ·
  refine aw ?_
  refine ab aa 4 rfl ?_
  refine bz (t:=35) rfl (fun hb3=>?_) (fun hb3=>?_)
  ·
   have hb3':=of_decide_eq_true hb3
   refine ab aa 4 rfl ?_
   refine dP (aj.yes rfl rfl rfl) (dn rfl rfl rfl rfl rfl Try.underlying30) rfl rfl ?_
   refine ab aa 3 rfl ?_
   refine bz (t:=43) rfl (fun hb4=>?_) (fun hb4=>?_)
   ·
    have hb4':=of_decide_eq_true hb4
    refine ab aa 5 rfl ?_
    refine bz (t:=48) rfl (fun hb5=>?_) (fun hb5=>?_)
    ·
     have hb5':=of_decide_eq_true hb5
     refine ab aa 4 rfl ?_
     refine ae ?_
     exact aD.bD 24 rfl rfl (by first|(simp [hb3,hb4,hb5];done)|(simp_all;done)|(exfalso;simp_all;done)|(simp_all;omega)) rfl
    have hb5':=of_decide_eq_false hb5
    refine ab aa 4 rfl ?_
    refine ae ?_
    exact aD.bD 24 rfl rfl (by first|(simp [hb3,hb4,hb5];done)|(simp_all;done)|(exfalso;simp_all;done)|(simp_all;omega)) rfl
   have hb4':=of_decide_eq_false hb4
   refine ab aa 9 rfl ?_
   refine ae ?_
   exact aD.bD 23 rfl rfl (by first|(simp [hb3,hb4];done)|(simp_all;done)|(exfalso;simp_all;done)|(simp_all;omega)) rfl
  have hb3':=of_decide_eq_false hb3
  refine ab aa 17 rfl ?_
  refine ae ?_
  exact aD.bD 22 rfl rfl (by first|(simp [hb3];done)|(simp_all;done)|(exfalso;simp_all;done)|(simp_all;omega)) rfl
 refine ag rfl (fun hc6=>?_) (fun hc6=>?_)
 ·
  have hc6':=hc6;try simp only [bj,bL] at hc6'
  obtain ⟨x1,hx1⟩:=ck (xs:=s.used) (i:=Int.toNat (a.aK)) (by first|omega|(simp;done)|(simp;omega))
  have hx1b:=qx (s:=s) (by omega) hx1
  refine bb [3,4,7] [7,6,3,2,1] mixed rfl rfl ?_
  refine az (kn:=[]) aa 4 rfl trivial ?_
  refine aT (n':=8) [54,56] [3] rfl rfl (.inl ⟨(aj.plain rfl),aH.cast (bo (i:=Int.toNat (a.aK)) rfl rfl rfl Try.underlying30 fH (by first|omega|(simp;done)|(simp;omega)) (by first|omega|(simp;done)|(simp;omega))) rfl⟩) rfl ?_
  refine aT (n':=8) [57] [3] rfl rfl (.inl ⟨(aj.plain rfl),aH.cast (eD rfl rfl rfl Try.underlying3 rfl (bu hx1) rfl) rfl⟩) rfl ?_
  refine az (kn:=[]) aa 2 rfl trivial ?_
  refine aT (n':=8) [58,60] [] rfl rfl (.inl ⟨(aj.plain rfl),aH.cast (aJ rfl rfl rfl (aF (by first|omega|(simp;done)|(simp;omega)))) rfl⟩) rfl ?_
  refine aT (n':=8) [54,56] [3] rfl rfl (.inl ⟨(aj.plain rfl),aH.cast (bo (i:=Int.toNat (a.aK)) rfl rfl rfl Try.underlying30 fH (by first|omega|(simp;done)|(simp;omega)) (by first|omega|(simp;done)|(simp;omega))) rfl⟩) rfl ?_
  refine bA [7,6,3,2,1] rfl rfl rfl rfl (by kernel_rfl) ?_
  refine fY [7,6,3,2,1] (dL (ds:=[(dI (x1+a.sum))]) rfl rfl rfl rfl rfl fH rfl (Nat.le_of_ble_eq_true rfl) (bu hx1) rfl (eH (x':=x1+a.sum) rfl)) rfl ?_
  refine ae ?_
  refine aA aa 1 rfl ?_
  obtain ⟨e1,hr1⟩:∃ (e1:Int),bT (⟨s.cap,(s.used).set (Int.toNat (a.aK)) (x1+a.sum),s.aZ++([a])⟩:cr)=e1:=⟨_,rfl⟩
  refine aL 8 [7,6,3,2,1] (fM 8 [3,6] (iM (⟨s.cap,(s.used).set (Int.toNat (a.aK)) (x1+a.sum),s.aZ++([a])⟩:cr) e1 hr1) yd rfl rfl ⟨⟨_,rfl,.g ⟨.d _,.s rfl (by decide) (by first|omega|(simp;done)|(simp;omega)),.s rfl (by decide) (by first|omega|(simp;done)|(simp;omega)),trivial⟩⟩,trivial⟩ rfl trivial rfl rfl rfl rfl) rfl ?_
  refine ab aa 1 rfl ?_
  refine ae ?_
  refine ad aa 1 rfl ?_
  refine aU ?_
  refine ad aa 2 rfl ?_
  refine ag rfl (fun hc7=>?_) (fun hc7=>?_)
  ·
   have hc7':=of_decide_eq_true hc7
   refine ad aa 3 rfl ?_
   refine ar ?_
   refine bf ?_
   have hX:cf s a=((⟨s.cap,(s.used).set (Int.toNat (a.aK)) (x1+a.sum),s.aZ++([a])⟩:cr),0):=by
     have hx:s.used.getD a.aK.toNat 0=x1:=by rw [List.getD_eq_getElem?_getD,hx1];rfl
     have hg:=kR (a:=a) (show bT s=0 by omega) (show s.aZ.length < 20 by omega)
     rw [hx,hr1] at hg
     rcases hg with ⟨p1,p2⟩|⟨p1,p2⟩|⟨p1,p2⟩<;>first|(exfalso;omega)|exact p2|(subst p1;exact p2)
   rw [hX] at hr;clear hX
   simp only [Prod.mk.injEq] at hr;obtain ⟨rfl,rfl⟩:=hr
   refine ah aa [3,6,2] 2 rfl rfl rfl rfl rfl rfl ?_ ?_
   all_goals first|rfl|(simp [au];done)|(simp [au];omega)
  have hc7':=of_decide_eq_false hc7
  refine ad aa 2 rfl ?_
  refine ag rfl (fun hc8=>?_) (fun hc8=>?_)
  ·
   have hc8':=of_decide_eq_true hc8
   refine ad aa 3 rfl ?_
   refine ar ?_
   refine bf ?_
   refine cb 2 1 3 1 rfl rfl rfl ?_
   refine cb 2 2 107 4 rfl rfl rfl ?_
   have hX:cf s a=((⟨0,([]:List Int),([]:List ca)⟩:cr),10):=by
     have hx:s.used.getD a.aK.toNat 0=x1:=by rw [List.getD_eq_getElem?_getD,hx1];rfl
     have hg:=kR (a:=a) (show bT s=0 by omega) (show s.aZ.length < 20 by omega)
     rw [hx,hr1] at hg
     rcases hg with ⟨p1,p2⟩|⟨p1,p2⟩|⟨p1,p2⟩<;>first|(exfalso;omega)|exact p2|(subst p1;exact p2)
   rw [hX] at hr;clear hX
   simp only [Prod.mk.injEq] at hr;obtain ⟨rfl,rfl⟩:=hr
   refine ah aa [8,9,2] 2 rfl rfl rfl rfl rfl rfl ?_ ?_
   all_goals first|rfl|(simp [au];done)|(simp [au];omega)
  have hc8':=of_decide_eq_false hc8
  refine ad aa 4 rfl ?_
  refine ar ?_
  refine bf ?_
  refine cb 2 1 3 1 rfl rfl rfl ?_
  refine cb 2 2 107 4 rfl rfl rfl ?_
  have hX:cf s a=((⟨0,([]:List Int),([]:List ca)⟩:cr),e1):=by
    have hx:s.used.getD a.aK.toNat 0=x1:=by rw [List.getD_eq_getElem?_getD,hx1];rfl
    have hg:=kR (a:=a) (show bT s=0 by omega) (show s.aZ.length < 20 by omega)
    rw [hx,hr1] at hg
    rcases hg with ⟨p1,p2⟩|⟨p1,p2⟩|⟨p1,p2⟩<;>first|(exfalso;omega)|exact p2|(subst p1;exact p2)
  rw [hX] at hr;clear hX
  simp only [Prod.mk.injEq] at hr;obtain ⟨rfl,rfl⟩:=hr
  refine ah aa [8,9,2] 2 rfl rfl rfl rfl rfl rfl ?_ ?_
  all_goals first|rfl|(simp [au];done)|(simp [au];omega)
 have hc6':=hc6;try simp only [bj,bL] at hc6'
 refine aN ?_
 refine aA aa 1 rfl ?_
 obtain ⟨e2,hr2⟩:∃ (e2:Int),bT (⟨s.cap,s.used,s.aZ++([a])⟩:cr)=e2:=⟨_,rfl⟩
 refine aL 8 [7,6,3,2,1,0] (fM 8 [3,6] (iM (⟨s.cap,s.used,s.aZ++([a])⟩:cr) e2 hr2) yd rfl rfl ⟨⟨_,rfl,.g ⟨.d _,.s rfl (by decide) (by first|omega|(simp;done)|(simp;omega)),.s rfl (by decide) (by first|omega|(simp;done)|(simp;omega)),trivial⟩⟩,trivial⟩ rfl trivial rfl rfl rfl rfl) rfl ?_
 refine ab aa 1 rfl ?_
 refine ae ?_
 refine ad aa 1 rfl ?_
 refine aU ?_
 refine ad aa 2 rfl ?_
 refine ag rfl (fun hc9=>?_) (fun hc9=>?_)
 ·
  have hc9':=of_decide_eq_true hc9
  refine ad aa 3 rfl ?_
  refine ar ?_
  refine bf ?_
  have hX:cf s a=((⟨s.cap,s.used,s.aZ++([a])⟩:cr),0):=by
    have hg:=qb (a:=a) (show bT s=0 by omega) (show s.aZ.length < 20 by omega) (by omega)
    rw [hr2] at hg
    obtain ⟨p1,p2⟩:=hg
    first|(exfalso;omega)|(subst p1;exact p2)
  rw [hX] at hr;clear hX
  simp only [Prod.mk.injEq] at hr;obtain ⟨rfl,rfl⟩:=hr
  refine ah aa [3,6,2] 2 rfl rfl rfl rfl rfl rfl ?_ ?_
  all_goals first|rfl|(simp [au];done)|(simp [au];omega)
 have hc9':=of_decide_eq_false hc9
 refine ad aa 2 rfl ?_
 refine ag rfl (fun hc10=>?_) (fun hc10=>?_)
 ·
  have hc10':=of_decide_eq_true hc10
  refine ad aa 3 rfl ?_
  refine ar ?_
  refine bf ?_
  refine cb 2 1 3 1 rfl rfl rfl ?_
  refine cb 2 2 107 4 rfl rfl rfl ?_
  have hX:cf s a=((⟨0,([]:List Int),([]:List ca)⟩:cr),10):=by
    have hg:=qb (a:=a) (show bT s=0 by omega) (show s.aZ.length < 20 by omega) (by omega)
    rw [hr2] at hg
    obtain ⟨p1,p2⟩:=hg
    first|(exfalso;omega)|(subst p1;exact p2)
  rw [hX] at hr;clear hX
  simp only [Prod.mk.injEq] at hr;obtain ⟨rfl,rfl⟩:=hr
  refine ah aa [8,9,2] 2 rfl rfl rfl rfl rfl rfl ?_ ?_
  all_goals first|rfl|(simp [au];done)|(simp [au];omega)
 have hc10':=of_decide_eq_false hc10
 refine ad aa 4 rfl ?_
 refine ar ?_
 refine bf ?_
 refine cb 2 1 3 1 rfl rfl rfl ?_
 refine cb 2 2 107 4 rfl rfl rfl ?_
 have hX:cf s a=((⟨0,([]:List Int),([]:List ca)⟩:cr),e2):=by
   have hg:=qb (a:=a) (show bT s=0 by omega) (show s.aZ.length < 20 by omega) (by omega)
   rw [hr2] at hg
   obtain ⟨p1,p2⟩:=hg
   first|(exfalso;omega)|(subst p1;exact p2)
 rw [hX] at hr;clear hX
 simp only [Prod.mk.injEq] at hr;obtain ⟨rfl,rfl⟩:=hr
 refine ah aa [8,9,2] 2 rfl rfl rfl rfl rfl rfl ?_ ?_
 all_goals first|rfl|(simp [au];done)|(simp [au];omega)


def eT:List Int->Int
  |[]=>0
  |x::l=>if x=0 then eT l else x
def gQ (a b:al):Int:=eT [ef a.ay b.ay,ef a.ba b.ba]
theorem zE {l:List Int} {i:Nat} {x:Int} (hx:l[i]?=some x) (h:x=0):eT (l.drop i)=eT (l.drop (i+1)):=by
  obtain ⟨hi,rfl⟩:=List.getElem?_eq_some_iff.1 hx
  rw [List.drop_eq_getElem_cons hi,eT,if_pos h]
theorem tg {l:List Int} {i:Nat} {x:Int} (hx:l[i]?=some x) (h:¬x=0):eT (l.drop i)=x:=by
  obtain ⟨hi,rfl⟩:=List.getElem?_eq_some_iff.1 hx
  rw [List.drop_eq_getElem_cons hi,eT,if_neg h]
theorem kX {a b:al}:gQ a b < 0↔gl a b=true:=by
  rw [qR]
  have h1:=qm (a:=a.ay) (b:=b.ay)
  have h2:=oB (a:=a.ay) (b:=b.ay)
  have h3:=qm (a:=a.ba) (b:=b.ba)
  have h4:=oB (a:=a.ba) (b:=b.ba)
  unfold gQ eT eT eT
  split
  ·split<;>omega
  ·omega
theorem kY {a b:al} (h:¬gQ a b < 0):gl a b=false:=by
  cases hb:gl a b with
  |false=>rfl
  |true=>exact absurd (kX.2 hb) h
theorem cG {l:List (Nat×AV)} {t:Nat} {x y:Int} {ρ:Nat->Nat} (h:look l t=some (aI x)) (e:x=y):look l t=some (AV.map ρ (aI y)):=by subst e;exact h

theorem GM (l:List Int) (r:Int) (hr:eT l=r):Fn Try.prog 59 [(.c (fG l))] (.v (.c (cI r))) []:=by
 refine Fn.mk' 18 [(0,(aC (fG l)))] Try.func59 rfl rfl rfl rfl ?_
 intro W0 T0
 refine dz 0 rfl (fun hlen0=>?_)
 refine ad aa 1 rfl ?_
 refine ad aa 1 rfl ?_
 refine af ?_
 refine aA aa 1 rfl ?_
 refine ax (cM rfl rfl rfl rfl rfl Try.underlying30) rfl ?_
 refine ab aa 1 rfl ?_
 refine ae ?_
 refine aU ?_
 refine ct (β:=Nat) (fun (i:Nat)=>⟨[(3,(aI 0)),(6,(aC (fG l))),(7,(aI (↑l.length:Int))),(8,(aI (↑i:Int)))],[],0⟩) (fun (i:Nat)=>i<=l.length/\eT (l.drop i)=eT l) (fun (i:Nat)=>l.length - i) 0 ?_ ?_ ?_
 ·exact ⟨by omega,rfl⟩
 ·exact aD.bW id (by refine ⟨?_,?_,?_,?_,trivial⟩<;>first|rfl|(simp only [bm];done)|(congr 3;omega)|(congr 4;omega)|(simp only [bn];rfl)) (trivial) rfl
 rintro i ⟨hi0_0,hi0_1⟩
 refine ad aa 1 rfl ?_
 refine af ?_
 refine ag rfl (fun hc1=>?_) (fun hc1=>?_)
 ·
  have hc1':=of_decide_eq_true hc1
  refine aN ?_
  refine af ?_
  refine aU ?_
  refine eC ?_
  obtain ⟨x1,hx1⟩:=ck (xs:=l) (i:=i) (by first|omega|(simp;done)|(simp;omega))
  refine ax (cP (i:=i) rfl rfl rfl Try.underlying30 fH (by first|omega|(simp;done)|(simp;omega)) (bu hx1)) rfl ?_
  refine ab aa 2 rfl ?_
  refine ae ?_
  refine ad aa 3 rfl ?_
  refine ag rfl (fun hc2=>?_) (fun hc2=>?_)
  ·
   have hc2':=of_decide_eq_true hc2
   refine ad aa 2 rfl ?_
   refine ar ?_
   refine bf ?_
   refine ao ?_
   refine ao ?_
   refine bf ?_
   refine ao ?_
   have hX:eT l=x1:=by
     rw [<-hi0_1];first|exact tg hx1 (by omega)|(rw [List.drop_of_length_le (by omega)];rfl)
   rw [hX] at hr;clear hX
   subst hr
   refine ah aa [] 0 rfl rfl rfl rfl rfl rfl ?_ ?_
   all_goals first|rfl|(simp [au];done)|(simp [au];omega)
  have hc2':=of_decide_eq_false hc2
  refine cU ?_
  refine bl ?_
  refine then_ok ?_
  refine aw ?_
  refine ax (aJ rfl rfl rfl (aF (by first|omega|(simp;done)|(simp;omega)))) rfl ?_
  refine ab aa 1 rfl ?_
  refine ae ?_
  refine ⟨i+1,⟨by omega,by rw [<-zE hx1 (by omega)];exact hi0_1⟩,by first|omega|(simp;done)|(simp;omega),aD.bW id (by refine ⟨?_,?_,?_,?_,trivial⟩<;>first|rfl|(simp only [bm];done)|(congr 3;omega)|(congr 4;omega)|(simp only [bn];rfl)) (trivial) rfl⟩
 have hc1':=of_decide_eq_false hc1
 refine cm ?_
 refine aP ?_
 refine aP ?_
 refine bN ?_
 refine then_ok ?_
 refine ad aa 2 rfl ?_
 refine ar ?_
 have hX:eT l=0:=by
   rw [<-hi0_1];first|exact tg hx1 (by omega)|(rw [List.drop_of_length_le (by omega)];rfl)
 rw [hX] at hr;clear hX
 subst hr
 refine ah aa [] 0 rfl rfl rfl rfl rfl rfl ?_ ?_
 all_goals first|rfl|(simp [au];done)|(simp [au];omega)
theorem xg (x y:al):Fn Try.prog 53 [(.g [(cI x.ay),(cI x.ba),(cI x.kind),(cI x.sum)]),(.g [(cI y.ay),(cI y.ba),(cI y.kind),(cI y.sum)])] (aI (gQ x y)) []:=by
 refine Fn.mk' 17 [(0,(aG [(cI x.ay),(cI x.ba),(cI x.kind),(cI x.sum)])),(1,(aG [(cI y.ay),(cI y.ba),(cI y.kind),(cI y.sum)]))] Try.func53 rfl rfl rfl rfl ?_
 intro W0 T0
 refine ad aa 3 rfl ?_
 refine af ?_
 have hr0:ef x.ay y.ay=ef x.ay y.ay:=rfl
 have hr1:ef x.ba y.ba=ef x.ba y.ba:=rfl
 have hr2:eT ([ef x.ay y.ay,ef x.ba y.ba])=eT ([ef x.ay y.ay,ef x.ba y.ba]):=rfl
 refine bb [2,3] [1,0] mixed rfl rfl ?_
 refine az (kn:=[]) aa 4 rfl trivial ?_
 refine aT (n':=2) [6,8] [] rfl rfl (.inl ⟨(aj.plain rfl),aH.cast (bO 2 (oG x.ay y.ay (ef x.ay y.ay) hr0) Bp rfl rfl ⟨⟨_,rfl,.c (.d _)⟩,⟨_,rfl,.c (.d _)⟩,trivial⟩ trivial trivial rfl rfl rfl rfl) rfl⟩) rfl ?_
 refine az (kn:=[]) aa 4 rfl trivial ?_
 refine aT (n':=2) [11,13] [] rfl rfl (.inl ⟨(aj.plain rfl),aH.cast (bO 2 (oG x.ba y.ba (ef x.ba y.ba) hr1) Bp rfl rfl ⟨⟨_,rfl,.c (.d _)⟩,⟨_,rfl,.c (.d _)⟩,trivial⟩ trivial trivial rfl rfl rfl rfl) rfl⟩) rfl ?_
 refine aT (n':=3) [9,14] [] rfl rfl (.inl ⟨(aj.plain rfl),aH.cast (dA (ys:=[(0,(.c (cI (ef x.ay y.ay)))),(1,(.c (cI (ef x.ba y.ba))))]) (rows:=([ef x.ay y.ay,ef x.ba y.ba]).map rI) 2 lZ rfl (by decide) ⟨⟨rfl,rfl⟩,⟨rfl,rfl⟩,trivial⟩ rfl rfl rfl rfl) rfl⟩) rfl ?_
 refine aT (n':=3) [15] [2] rfl rfl (.inl ⟨(aj.plain rfl),aH.cast (fM 3 [2] (GM ([ef x.ay y.ay,ef x.ba y.ba]) (eT ([ef x.ay y.ay,ef x.ba y.ba])) hr2) Gz rfl rfl ⟨⟨_,rfl,.c (.s rfl (by decide) (by first|omega|(simp;done)|(simp;omega)))⟩,trivial⟩ rfl trivial rfl rfl rfl rfl) rfl⟩) rfl ?_
 refine az (kn:=[]) aa 1 rfl trivial ?_
 refine bA [1,0] rfl rfl rfl rfl (by kernel_rfl) ?_
 refine ae ?_
 refine ar ?_
 refine ah aa [] 0 rfl rfl rfl rfl rfl rfl ?_ ?_
 all_goals first|rfl|(simp [au];done)|(simp [au];omega)

theorem we (d:List al) (N a b n:Nat) (fn:FuncId) (bc:List (List D)) (hp:∀ x y:al,Fn Try.prog fn ([.g [cI x.ay,cI x.ba,cI x.kind,cI x.sum],.g [cI y.ay,cI y.ba,cI y.kind,cI y.sum]]++bc.map fun r=>GV.c (.q r 0)) (aI (gQ x y)) []) (hen:bd Try.prog fn) (hl:d.length * 32<=140737488355328) (hN:N=d.length) (h0_:a+n<=d.length) (h1_:b+n<=d.length) (r:List al) (hr:fT a b n d=r):cz Try.prog 110 [(.c (.s 0 0 4 N)),(.c (cI (↑a:Int))),(.c (cI (↑b:Int))),(.c (cI (↑n:Int))),(.c (.d (.f fn bc)))] [(0,(cF d))] [0] (.t []) [(0,(cF r))]:=by
 refine cz.mk 38 [(0,(aC (.s 0 0 4 N))),(1,(aI (↑a:Int))),(2,(aI (↑b:Int))),(3,(aI (↑n:Int))),(4,(aC (.d (.f fn bc))))] 1 Try.func110 rfl rfl rfl rfl rfl rfl rfl rfl rfl ?_
 intro W0 F0 T0 pg
 refine fN 0 rfl (fun hlen0=>?_)
 refine ad aa 1 rfl ?_
 refine aU ?_
 refine ct (β:=Nat×List al) (fun (p:Nat×List al)=>match p with|(i,d1)=>⟨[(0,(aC (.s 0 0 4 N))),(1,(aI (↑a:Int))),(2,(aI (↑b:Int))),(3,(aI (↑n:Int))),(10,(aI (↑i:Int)))],[(0,(cF d1))],1⟩) (fun (p:Nat×List al)=>match p with|(i,d1)=>i<=n/\d1=fT a b i d/\d1.length=d.length) (fun (p:Nat×List al)=>match p with|(i,d1)=>n - i) (0,d) ?_ ?_ ?_
 ·exact ⟨by omega,rfl,rfl⟩
 ·exact aD.bW id (by refine ⟨?_,?_,?_,?_,?_,trivial⟩<;>first|rfl|(simp only [bm];done)|(congr 3;omega)|(congr 4;omega)|(simp only [bn];rfl)|(exact cG rfl (by omega))) (⟨by first|rfl|(simp only [bm];done)|(congr 3;omega)|(congr 4;omega)|(simp only [bn];rfl),trivial⟩) rfl
 rintro ⟨i,d1⟩ ⟨hi0_0,hi0_1,hi0_2⟩
 refine af ?_
 refine ad aa 3 rfl ?_
 refine ag rfl (fun hc1=>?_) (fun hc1=>?_)
 ·
  have hc1':=of_decide_eq_true hc1
  refine aN ?_
  refine af ?_
  refine aU ?_
  obtain ⟨x1,hx1⟩:=ck (xs:=d1) (i:=(b)+(i)) (by first|omega|(simp;done)|(simp;omega))
  obtain ⟨x2,hx2⟩:=ck (xs:=d1) (i:=(a)+(i)) (by first|omega|(simp;done)|(simp;omega))
  obtain ⟨x3,hx3⟩:=ck (xs:=((d1).set ((a)+(i)) x1)) (i:=(b)+(i)) (by first|omega|(simp;done)|(simp;omega))
  refine cW [0,1,2,3,10] [0] mixed rfl rfl ?_
  refine bQ (kn:=[]) aa 3 rfl trivial ?_
  refine bV (n':=1) [17,18] [] rfl rfl (.inl ⟨(aj.plain rfl),aH.cast (aJ rfl rfl rfl (aF (by first|omega|(simp;done)|(simp;omega)))) rfl⟩) rfl ?_
  refine bQ (kn:=[]) aa 3 rfl trivial ?_
  refine bV (n':=1) [21,22] [] rfl rfl (.inl ⟨(aj.plain rfl),aH.cast (aJ rfl rfl rfl (aF (by first|omega|(simp;done)|(simp;omega)))) rfl⟩) rfl ?_
  refine bQ (kn:=[]) aa 3 rfl trivial ?_
  refine bV (n':=1) [25,26] [] rfl rfl (.inl ⟨(aj.plain rfl),aH.cast (aJ rfl rfl rfl (aF (by first|omega|(simp;done)|(simp;omega)))) rfl⟩) rfl ?_
  refine bV (n':=1) [24,27] [0] rfl rfl (.inl ⟨(aj.plain rfl),aH.cast (bo (i:=(b)+(i)) rfl rfl rfl Try.underlying42 dm (by first|omega|(simp;done)|(simp;omega)) (by first|omega|(simp;done)|(simp;omega))) rfl⟩) rfl ?_
  refine bV (n':=1) [28] [0] rfl rfl (.inl ⟨(aj.plain rfl),aH.cast (da rfl rfl rfl Try.underlying83 rfl dm (bu hx1) rfl) rfl⟩) rfl ?_
  refine bQ (kn:=[]) aa 3 rfl trivial ?_
  refine bV (n':=1) [31,32] [] rfl rfl (.inl ⟨(aj.plain rfl),aH.cast (aJ rfl rfl rfl (aF (by first|omega|(simp;done)|(simp;omega)))) rfl⟩) rfl ?_
  refine bV (n':=1) [30,33] [0] rfl rfl (.inl ⟨(aj.plain rfl),aH.cast (bo (i:=(a)+(i)) rfl rfl rfl Try.underlying42 dm (by first|omega|(simp;done)|(simp;omega)) (by first|omega|(simp;done)|(simp;omega))) rfl⟩) rfl ?_
  refine bV (n':=1) [34] [0] rfl rfl (.inl ⟨(aj.plain rfl),aH.cast (da rfl rfl rfl Try.underlying83 rfl dm (bu hx2) rfl) rfl⟩) rfl ?_
  refine bV (n':=1) [16,19] [0] rfl rfl (.inl ⟨(aj.plain rfl),aH.cast (bo (i:=(a)+(i)) rfl rfl rfl Try.underlying42 dm (by first|omega|(simp;done)|(simp;omega)) (by first|omega|(simp;done)|(simp;omega))) rfl⟩) rfl ?_
  refine bV (n':=1) [36,29] [0] rfl rfl (.inl ⟨(aj.plain rfl),aH.cast (dL (ds:=[(dI x1.ay),(dI x1.ba),(dI x1.kind),(dI x1.sum)]) rfl rfl rfl rfl rfl dm rfl (Nat.le_of_ble_eq_true rfl) (bu hx2) rfl (eH (x':=x1) rfl)) rfl⟩) rfl ?_
  refine bV (n':=1) [20,23] [0] rfl rfl (.inl ⟨(aj.plain rfl),aH.cast (bo (i:=(b)+(i)) rfl rfl rfl Try.underlying42 dm (by first|omega|(simp;done)|(simp;omega)) (by first|omega|(simp;done)|(simp;omega))) rfl⟩) rfl ?_
  refine bV (n':=1) [37,35] [0] rfl rfl (.inl ⟨(aj.plain rfl),aH.cast (dL (ds:=[(dI x2.ay),(dI x2.ba),(dI x2.kind),(dI x2.sum)]) rfl rfl rfl rfl rfl dm rfl (Nat.le_of_ble_eq_true rfl) (bu hx3) rfl (eH (x':=x2) rfl)) rfl⟩) rfl ?_
  refine dO [0,1,2,3,10] [0] rfl rfl (by kernel_rfl) ?_
  refine bl ?_
  refine then_ok ?_
  refine aw ?_
  refine ab aa 1 rfl ?_
  refine ax (aJ rfl rfl rfl (aF (by first|omega|(simp;done)|(simp;omega)))) rfl ?_
  refine ab aa 1 rfl ?_
  refine ae ?_
  refine ⟨(i+1,((d1).set ((a)+(i)) x1).set ((b)+(i)) x2),⟨by omega,by rw [fT,<-hi0_1];exact (ld hx2 hx1).symm,by simp only [List.length_set];exact hi0_2⟩,by first|omega|(simp;done)|(simp;omega),aD.bW id (by refine ⟨?_,?_,?_,?_,?_,trivial⟩<;>first|rfl|(simp only [bm];done)|(congr 3;omega)|(congr 4;omega)|(simp only [bn];rfl)|(exact cG rfl (by omega))) (⟨by first|rfl|(simp only [bm];done)|(congr 3;omega)|(congr 4;omega)|(simp only [bn];rfl),trivial⟩) rfl⟩
 have hc1':=of_decide_eq_false hc1
 refine cm ?_
 refine aP ?_
 refine aP ?_
 refine bN ?_
 have hX:fT a b n d=d1:=by
   have:i=n:=by omega
   subst this;exact hi0_1.symm
 rw [hX] at hr;clear hX
 subst hr
 refine cC aa [0] 1 rfl rfl rfl rfl rfl rfl ?_ ?_
 all_goals first|rfl|(simp [au];done)|(simp [au];omega)
theorem ln (ai bi ni:Int) (d:List al) (N a b n:Nat) (fn:FuncId) (bc:List (List D)) (hp:∀ x y:al,Fn Try.prog fn ([.g [cI x.ay,cI x.ba,cI x.kind,cI x.sum],.g [cI y.ay,cI y.ba,cI y.kind,cI y.sum]]++bc.map fun r=>GV.c (.q r 0)) (aI (gQ x y)) []) (hen:bd Try.prog fn) (ea_:ai=(↑a:Int)) (eb_:bi=(↑b:Int)) (en_:ni=(↑n:Int)) (hl:d.length * 32<=140737488355328) (hN:N=d.length) (h0_:a+n<=d.length) (h1_:b+n<=d.length) (r:List al) (hr:fT a b n d=r):cz Try.prog 110 [(.c (.s 0 0 4 N)),(.c (cI ai)),(.c (cI bi)),(.c (cI ni)),(.c (.d (.f fn bc)))] [(0,(cF d))] [0] (.t []) [(0,(cF r))]:=by
  subst ea_ eb_ en_
  exact we d N a b n fn bc hp hen hl hN h0_ h1_ r hr

theorem BE (d:List al) (N a m b:Nat) (fn:FuncId) (bc:List (List D)) (hp:∀ x y:al,Fn Try.prog fn ([.g [cI x.ay,cI x.ba,cI x.kind,cI x.sum],.g [cI y.ay,cI y.ba,cI y.kind,cI y.sum]]++bc.map fun r=>GV.c (.q r 0)) (aI (gQ x y)) []) (hen:bd Try.prog fn) (hl:d.length * 32<=140737488355328) (hN:N=d.length) (h0_:a < m) (h1_:m < b) (h2_:b<=d.length) (r:List al) (hr:iP m (m - a) (b - m) d=r):cz Try.prog 93 [(.c (.s 0 0 4 N)),(.c (cI (↑a:Int))),(.c (cI (↑m:Int))),(.c (cI (↑b:Int))),(.c (.d (.f fn bc)))] [(0,(cF d))] [0] (.t []) [(0,(cF r))]:=by
 refine cz.mk 58 [(0,(aC (.s 0 0 4 N))),(1,(aI (↑a:Int))),(2,(aI (↑m:Int))),(3,(aI (↑b:Int))),(4,(aC (.d (.f fn bc))))] 1 Try.func93 rfl rfl rfl rfl rfl rfl rfl rfl rfl ?_
 intro W0 F0 T0 pg
 refine fN 0 rfl (fun hlen0=>?_)
 refine aA aa 2 rfl ?_
 refine ax (aJ rfl rfl rfl (aF (by first|omega|(simp;done)|(simp;omega)))) rfl ?_
 refine ab aa 1 rfl ?_
 refine ae ?_
 refine aA aa 2 rfl ?_
 refine ax (aJ rfl rfl rfl (aF (by first|omega|(simp;done)|(simp;omega)))) rfl ?_
 refine ab aa 1 rfl ?_
 refine ae ?_
 refine af ?_
 refine aU ?_
 refine ct (β:=Nat×Nat×List al) (fun (p:Nat×Nat×List al)=>match p with|(i,j,d1)=>⟨[(0,(aC (.s 0 0 4 N))),(2,(aI (↑m:Int))),(4,(aC (.d (.f fn bc)))),(10,(aI (↑i:Int))),(11,(aI (↑j:Int)))],[(0,(cF d1))],1⟩) (fun (p:Nat×Nat×List al)=>match p with|(i,j,d1)=>0 < i/\0 < j/\i+a<=m/\m+j<=b/\iP m i j d1=iP m (m - a) (b - m) d/\d1.length=d.length) (fun (p:Nat×Nat×List al)=>match p with|(i,j,d1)=>i+j) (m - a,b - m,d) ?_ ?_ ?_
 ·exact ⟨by omega,by omega,by omega,by omega,rfl,rfl⟩
 ·exact aD.bW id (by refine ⟨?_,?_,?_,?_,?_,trivial⟩<;>first|rfl|(simp only [bm];done)|(congr 3;omega)|(congr 4;omega)|(simp only [bn];rfl)|(exact cG rfl (by omega))) (⟨by first|rfl|(simp only [bm];done)|(congr 3;omega)|(congr 4;omega)|(simp only [bn];rfl),trivial⟩) rfl
 rintro ⟨i,j,d1⟩ ⟨hi0_0,hi0_1,hi0_2,hi0_3,hi0_4,hi0_5⟩
 refine af ?_
 refine ad aa 3 rfl ?_
 refine ag rfl (fun hc1=>?_) (fun hc1=>?_)
 ·
  have hc1':=of_decide_eq_true hc1
  refine aN ?_
  refine aU ?_
  refine ad aa 3 rfl ?_
  refine ag rfl (fun hc2=>?_) (fun hc2=>?_)
  ·
   have hc2':=of_decide_eq_true hc2
   refine aA aa 3 rfl ?_
   refine ax (aJ rfl rfl rfl (aF (by first|omega|(simp;done)|(simp;omega)))) rfl ?_
   refine ab aa 3 rfl ?_
   obtain ⟨r0,hr0⟩:∃ (r0:List al),fT ((m) - (i)) m j d1=r0:=⟨_,rfl⟩
   have hlr0:r0.length=d1.length:=by rw [<-hr0];exact iz _ _ _ _
   refine aL 1 [0] (dM id id (ln ((↑m:Int) - (↑i:Int)) (↑m:Int) (↑j:Int) d1 N ((m) - (i)) m j fn bc hp hen (by first|omega|(simp;done)|(simp;omega)) (by first|omega|(simp;done)|(simp;omega)) (by first|omega|(simp;done)|(simp;omega)) (by first|omega|(simp;done)|(simp;omega)) (by first|omega|(simp;done)|(simp;omega)) (by first|omega|(simp;done)|(simp;omega)) (by first|omega|(simp;done)|(simp;omega)) r0 hr0) yg rfl rfl ⟨⟨_,rfl,.inl ⟨rfl,rfl⟩⟩,⟨_,rfl,.inr (.c (.d _))⟩,⟨_,rfl,.inr (.c (.d _))⟩,⟨_,rfl,.inr (.c (.d _))⟩,⟨_,rfl,.inr (.c (.d _))⟩,trivial⟩ ⟨rfl,trivial⟩ rfl rfl ⟨.inr ⟨_,_,_,rfl,by first|(simp;omega)|(simp only [List.length_map];omega)⟩,trivial⟩ rfl rfl rfl trivial ⟨(fun _ _ _ _=>trivial),trivial⟩ rfl rfl rfl rfl) rfl ?_
   refine ae ?_
   refine aw ?_
   refine ab aa 2 rfl ?_
   refine ax (aJ rfl rfl rfl (aF (by first|omega|(simp;done)|(simp;omega)))) rfl ?_
   refine ab aa 1 rfl ?_
   refine bY ?_
   refine bl ?_
   refine then_ok ?_
   refine ⟨((i) - (j),j,r0),⟨by omega,by omega,by omega,by omega,by rw [<-hr0,<-yT (by omega) (by omega)];exact hi0_4,by omega⟩,by first|omega|(simp;done)|(simp;omega),aD.bW id (by refine ⟨?_,?_,?_,?_,?_,trivial⟩<;>first|rfl|(simp only [bm];done)|(congr 3;omega)|(congr 4;omega)|(simp only [bn];rfl)|(exact cG rfl (by omega))) (⟨by first|rfl|(simp only [bm];done)|(congr 3;omega)|(congr 4;omega)|(simp only [bn];rfl),trivial⟩) rfl⟩
  have hc2':=of_decide_eq_false hc2
  refine aA aa 3 rfl ?_
  refine ax (aJ rfl rfl rfl (aF (by first|omega|(simp;done)|(simp;omega)))) rfl ?_
  refine ab aa 2 rfl ?_
  refine ax (aJ rfl rfl rfl (aF (by first|omega|(simp;done)|(simp;omega)))) rfl ?_
  refine ab aa 1 rfl ?_
  refine ax (aJ rfl rfl rfl (aF (by first|omega|(simp;done)|(simp;omega)))) rfl ?_
  refine ab aa 2 rfl ?_
  obtain ⟨r1,hr1⟩:∃ (r1:List al),fT ((m) - (i)) (((m)+(j)) - (i)) i d1=r1:=⟨_,rfl⟩
  have hlr1:r1.length=d1.length:=by rw [<-hr1];exact iz _ _ _ _
  refine aL 1 [0] (dM id id (ln ((↑m:Int) - (↑i:Int)) (((↑m:Int)+(↑j:Int)) - (↑i:Int)) (↑i:Int) d1 N ((m) - (i)) (((m)+(j)) - (i)) i fn bc hp hen (by first|omega|(simp;done)|(simp;omega)) (by first|omega|(simp;done)|(simp;omega)) (by first|omega|(simp;done)|(simp;omega)) (by first|omega|(simp;done)|(simp;omega)) (by first|omega|(simp;done)|(simp;omega)) (by first|omega|(simp;done)|(simp;omega)) (by first|omega|(simp;done)|(simp;omega)) r1 hr1) yg rfl rfl ⟨⟨_,rfl,.inl ⟨rfl,rfl⟩⟩,⟨_,rfl,.inr (.c (.d _))⟩,⟨_,rfl,.inr (.c (.d _))⟩,⟨_,rfl,.inr (.c (.d _))⟩,⟨_,rfl,.inr (.c (.d _))⟩,trivial⟩ ⟨rfl,trivial⟩ rfl rfl ⟨.inr ⟨_,_,_,rfl,by first|(simp;omega)|(simp only [List.length_map];omega)⟩,trivial⟩ rfl rfl rfl trivial ⟨(fun _ _ _ _=>trivial),trivial⟩ rfl rfl rfl rfl) rfl ?_
  refine ae ?_
  refine aw ?_
  refine ab aa 2 rfl ?_
  refine ax (aJ rfl rfl rfl (aF (by first|omega|(simp;done)|(simp;omega)))) rfl ?_
  refine ab aa 1 rfl ?_
  refine bY ?_
  refine bl ?_
  refine then_ok ?_
  refine ⟨(i,(j) - (i),r1),⟨by omega,by omega,by omega,by omega,by rw [<-hr1,<-yS (by omega) (by omega)];exact hi0_4,by omega⟩,by first|omega|(simp;done)|(simp;omega),aD.bW id (by refine ⟨?_,?_,?_,?_,?_,trivial⟩<;>first|rfl|(simp only [bm];done)|(congr 3;omega)|(congr 4;omega)|(simp only [bn];rfl)|(exact cG rfl (by omega))) (⟨by first|rfl|(simp only [bm];done)|(congr 3;omega)|(congr 4;omega)|(simp only [bn];rfl),trivial⟩) rfl⟩
 have hc1':=of_decide_eq_false hc1
 refine cm ?_
 refine aP ?_
 refine aP ?_
 refine bN ?_
 refine then_ok ?_
 refine aw ?_
 refine ab aa 3 rfl ?_
 refine ax (aJ rfl rfl rfl (aF (by first|omega|(simp;done)|(simp;omega)))) rfl ?_
 refine ab aa 3 rfl ?_
 obtain ⟨r2,hr2⟩:∃ (r2:List al),fT ((m) - (i)) m i d1=r2:=⟨_,rfl⟩
 have hlr2:r2.length=d1.length:=by rw [<-hr2];exact iz _ _ _ _
 refine aL 1 [0] (dM id id (ln ((↑m:Int) - (↑i:Int)) (↑m:Int) (↑i:Int) d1 N ((m) - (i)) m i fn bc hp hen (by first|omega|(simp;done)|(simp;omega)) (by first|omega|(simp;done)|(simp;omega)) (by first|omega|(simp;done)|(simp;omega)) (by first|omega|(simp;done)|(simp;omega)) (by first|omega|(simp;done)|(simp;omega)) (by first|omega|(simp;done)|(simp;omega)) (by first|omega|(simp;done)|(simp;omega)) r2 hr2) yg rfl rfl ⟨⟨_,rfl,.inl ⟨rfl,rfl⟩⟩,⟨_,rfl,.inr (.c (.d _))⟩,⟨_,rfl,.inr (.c (.d _))⟩,⟨_,rfl,.inr (.c (.d _))⟩,⟨_,rfl,.inr (.c (.d _))⟩,trivial⟩ ⟨rfl,trivial⟩ rfl rfl ⟨.inr ⟨_,_,_,rfl,by first|(simp;omega)|(simp only [List.length_map];omega)⟩,trivial⟩ rfl rfl rfl trivial ⟨(fun _ _ _ _=>trivial),trivial⟩ rfl rfl rfl rfl) rfl ?_
 refine bY ?_
 have hX:iP m (m - a) (b - m) d=r2:=by
   have hij:i=j:=by omega
   subst hij;rw [<-hi0_4,yU (by omega)];exact hr2
 rw [hX] at hr;clear hX
 subst hr
 refine cC aa [0] 1 rfl rfl rfl rfl rfl rfl ?_ ?_
 all_goals first|rfl|(simp [au];done)|(simp [au];omega)
theorem tp (ai mi bi:Int) (d:List al) (N a m b:Nat) (fn:FuncId) (bc:List (List D)) (hp:∀ x y:al,Fn Try.prog fn ([.g [cI x.ay,cI x.ba,cI x.kind,cI x.sum],.g [cI y.ay,cI y.ba,cI y.kind,cI y.sum]]++bc.map fun r=>GV.c (.q r 0)) (aI (gQ x y)) []) (hen:bd Try.prog fn) (ea_:ai=(↑a:Int)) (em_:mi=(↑m:Int)) (eb_:bi=(↑b:Int)) (hl:d.length * 32<=140737488355328) (hN:N=d.length) (h0_:a < m) (h1_:m < b) (h2_:b<=d.length) (r:List al) (hr:iP m (m - a) (b - m) d=r):cz Try.prog 93 [(.c (.s 0 0 4 N)),(.c (cI ai)),(.c (cI mi)),(.c (cI bi)),(.c (.d (.f fn bc)))] [(0,(cF d))] [0] (.t []) [(0,(cF r))]:=by
  subst ea_ em_ eb_
  exact BE d N a m b fn bc hp hen hl hN h0_ h1_ h2_ r hr
end Go.Proofs.Ytegepioggeggaaa.Dev
