/- paytop.TopReturn. -/
import Derived.Test.YtegepioggeggaaaD15
set_option linter.unusedVariables false
set_option linter.unusedSimpArgs false
set_option maxHeartbeats 16000000
set_option maxRecDepth 100000
namespace Go.Proofs.Ytegepioggeggaaa.Dev
open Go.RowKit


theorem la {m:List aS} {q left n:Int} {P i:Nat} (hi:i < P) (hn:n=if P - (i+1)=0 then left else q):m++[⟨0,3,0,0,5,n⟩]++(eF q (left - n) (P - (i+1))).map mJ=m++(eF q left (P - i)).map mJ:=by
  rw [show P - i=P - (i+1)+1 by omega,eF,<-hn];simp [mJ]

theorem wY (has paid parts:Int):Fn Try.prog 3 [(.c (cI has)),(.c (cI paid)),(.c (cI parts))] (aB true) []:=by
 refine Fn.mk' 111 [(0,(aI has)),(1,(aI paid)),(2,(aI parts))] Try.func3 rfl rfl rfl rfl ?_
 intro W0 T0
 refine ad aa 1 rfl ?_
 refine af ?_
 refine eJ ?_
 refine aL 0 [] (bM 0 (Ct) Hr rfl rfl trivial trivial trivial rfl rfl rfl rfl) rfl ?_
 refine ab aa 1 rfl ?_
 refine ae ?_
 refine ag rfl (fun hno=>by cases hno) (fun _=>?_)
 refine aP ?_
 refine af ?_
 refine az aa 2 rfl ?_
 refine aL 1 [0] (dC (ys:=[(0,(.c (cI has))),(1,(.c (cI paid)))]) (rows:=([has,paid]).map rI) 0 mq rfl (by decide) ⟨⟨rfl,rfl⟩,⟨rfl,rfl⟩,trivial⟩ rfl rfl rfl rfl) rfl ?_
 refine mf (s':=[(0,(aI has)),(1,(aI paid)),(2,(aI parts)),(6,(aB false)),(14,(aB true)),(15,(aB false)),(16,(aI has)),(17,(aI paid)),(18,(aC (fV ([has,paid]))))]) (h':=[]) 0 rfl ⟨⟨_,rfl,.inl ⟨rfl,rfl⟩⟩,⟨_,rfl,.inl ⟨rfl,rfl⟩⟩,⟨_,rfl,.inl ⟨rfl,rfl⟩⟩,⟨_,rfl,.inl ⟨rfl,rfl⟩⟩,⟨_,rfl,.inl ⟨rfl,rfl⟩⟩,⟨_,rfl,.inl ⟨rfl,rfl⟩⟩,⟨_,rfl,.inl ⟨rfl,rfl⟩⟩,⟨_,rfl,.inl ⟨rfl,rfl⟩⟩,⟨_,rfl,.inr ⟨_,_,rfl,rfl,.s rfl (by decide) (by first|omega|(simp;done)|(simp;omega))⟩⟩,trivial⟩ trivial rfl ?_
 obtain ⟨r0,hr0⟩:∃ (r0:Bool),mG ([has,paid])=r0:=⟨_,rfl⟩
 refine aL 1 [] (bM 1 (DF ([has,paid]) r0 hr0) Hq rfl rfl ⟨⟨_,rfl,.c (.d _)⟩,trivial⟩ trivial trivial rfl rfl rfl rfl) rfl ?_
 refine ab aa 2 rfl ?_
 refine bA (t:=21) rfl (fun hb2=>?_) (fun hb2=>?_)
 ·
  have hb2':=hb2;try simp only [bm,bL] at hb2'
  refine ab aa 17 rfl ?_
  refine ae ?_
  refine ag rfl (fun _=>?_) (fun hno=>by cases hno)
  refine ad aa 1 rfl ?_
  refine ar ?_
  refine ao ?_
  refine ah aa [] 0 rfl rfl rfl rfl rfl rfl ?_ ?_
  ·rfl
  ·rfl
 have hb2':=hb2;try simp only [bm,bL] at hb2'
 refine ab aa 5 rfl ?_
 refine bA (t:=26) rfl (fun hb4=>?_) (fun hb4=>?_)
 ·
  have hb4':=of_decide_eq_true hb4
  refine ab aa 12 rfl ?_
  refine ae ?_
  refine ag rfl (fun _=>?_) (fun hno=>by cases hno)
  refine ad aa 1 rfl ?_
  refine ar ?_
  refine ao ?_
  refine ah aa [] 0 rfl rfl rfl rfl rfl rfl ?_ ?_
  ·rfl
  ·rfl
 have hb4':=of_decide_eq_false hb4
 refine ab aa 4 rfl ?_
 refine bA (t:=30) rfl (fun hb6=>?_) (fun hb6=>?_)
 ·
  have hb6':=of_decide_eq_true hb6
  refine ab aa 8 rfl ?_
  refine ae ?_
  refine ag rfl (fun _=>?_) (fun hno=>by cases hno)
  refine ad aa 1 rfl ?_
  refine ar ?_
  refine ao ?_
  refine ah aa [] 0 rfl rfl rfl rfl rfl rfl ?_ ?_
  ·rfl
  ·rfl
 have hb6':=of_decide_eq_false hb6
 refine ab aa 4 rfl ?_
 refine bA (t:=34) rfl (fun hb8=>?_) (fun hb8=>?_)
 ·
  have hb8':=of_decide_eq_true hb8
  refine ab aa 4 rfl ?_
  refine ae ?_
  refine ag rfl (fun _=>?_) (fun hno=>by cases hno)
  refine ad aa 1 rfl ?_
  refine ar ?_
  refine ao ?_
  refine ah aa [] 0 rfl rfl rfl rfl rfl rfl ?_ ?_
  ·rfl
  ·rfl
 have hb8':=of_decide_eq_false hb8
 refine ab aa 4 rfl ?_
 refine ae ?_
 refine ag rfl (fun hc10=>?_) (fun hc10=>?_)
 ·
  have hc10':=of_decide_eq_true hc10
  refine ad aa 1 rfl ?_
  refine ar ?_
  refine ao ?_
  refine ah aa [] 0 rfl rfl rfl rfl rfl rfl ?_ ?_
  ·rfl
  ·rfl
 have hc10':=of_decide_eq_false hc10
 refine aP ?_
 have hsm:=DT hr0 (by assumption)
 obtain ⟨np,hnp⟩:∃ z:Nat,z=parts.toNat:=⟨_,rfl⟩
 refine hY (i:=2) (v:=(aI (↑np:Int))) (cA (ρ:=id) rfl (by omega)) ?_
 refine az aa 1 rfl ?_
 refine aL 1 [] (bM 1 (nI 1 0 has) qC rfl rfl ⟨⟨_,rfl,.c (.d _)⟩,⟨_,rfl,.c (.d _)⟩,⟨_,rfl,.c (.d _)⟩,trivial⟩ ⟨trivial,trivial,trivial,trivial,trivial,trivial,trivial⟩ trivial rfl rfl rfl rfl) rfl ?_
 refine ab aa 1 rfl ?_
 refine aL 1 [] (bM 1 (nI 2 0 paid) qC rfl rfl ⟨⟨_,rfl,.c (.d _)⟩,⟨_,rfl,.c (.d _)⟩,⟨_,rfl,.c (.d _)⟩,trivial⟩ ⟨trivial,trivial,trivial,trivial,trivial,trivial,trivial⟩ trivial rfl rfl rfl rfl) rfl ?_
 refine ab aa 1 rfl ?_
 refine aL 1 [] (bM 1 (pw 2 0 paid) yM rfl rfl ⟨⟨_,rfl,.c (.d _)⟩,⟨_,rfl,.c (.d _)⟩,⟨_,rfl,.c (.d _)⟩,trivial⟩ ⟨trivial,trivial,trivial,trivial,trivial,trivial,trivial⟩ trivial rfl rfl rfl rfl) rfl ?_
 refine aL 2 [1] (dC (ys:=[(0,(.g [(cI 0),(cI 1),(cI 0),(cI 0),(cI 0),(cI has)])),(1,(.g [(cI 0),(cI 2),(cI 0),(cI 0),(cI 0),(cI paid)])),(2,(.g [(cI 0),(cI 3),(cI 0),(cI 0),(cI 2),(cI paid)]))]) (rows:=([(⟨0,1,0,0,0,has⟩:aS),(⟨0,2,0,0,0,paid⟩:aS),(⟨0,3,0,0,2,paid⟩:aS)]).map cL) 1 mr rfl (by decide) ⟨⟨rfl,rfl⟩,⟨rfl,rfl⟩,⟨rfl,rfl⟩,trivial⟩ rfl rfl rfl rfl) rfl ?_
 have hr1:dR ([(⟨0,1,0,0,0,has⟩:aS),(⟨0,2,0,0,0,paid⟩:aS),(⟨0,3,0,0,2,paid⟩:aS)])=(dR ([(⟨0,1,0,0,0,has⟩:aS),(⟨0,2,0,0,0,paid⟩:aS),(⟨0,3,0,0,2,paid⟩:aS)])):=rfl
 refine aL 3 [2] (cw (aW [1]) (aW [2]) (vU ([(⟨0,1,0,0,0,has⟩:aS),(⟨0,2,0,0,0,paid⟩:aS),(⟨0,3,0,0,2,paid⟩:aS)]) 3 (by first|omega|(simp;done)|(simp;omega)) (by first|omega|(simp;done)|(simp;omega)) (dR ([(⟨0,1,0,0,0,has⟩:aS),(⟨0,2,0,0,0,paid⟩:aS),(⟨0,3,0,0,2,paid⟩:aS)])) hr1) Ce rfl rfl ⟨⟨_,rfl,.inl ⟨rfl,rfl⟩⟩,trivial⟩ ⟨rfl,trivial⟩ rfl rfl rfl rfl rfl rfl trivial ⟨(fun _ _ _ _=>trivial),trivial⟩ rfl rfl rfl rfl) rfl ?_
 refine ab aa 1 rfl ?_
 refine ae ?_
 have hcl:(dR ([(⟨0,1,0,0,0,has⟩:aS),(⟨0,2,0,0,0,paid⟩:aS),(⟨0,3,0,0,2,paid⟩:aS)])).length=27:=by rw [qF];rfl
 refine ad aa 2 rfl ?_
 refine af ?_
 refine ad aa 2 rfl ?_
 refine aV ?_
 refine cv (β:=Nat×Int×List aS) (fun (p:Nat×Int×List aS)=>match p with|(i,left,m0)=>⟨[(0,(aI has)),(1,(aI paid)),(2,(aI (↑np:Int))),(6,(aB false)),(7,(aC (.s 2 0 6 m0.length))),(8,(aI left)),(48,(aI (↑np:Int))),(49,(aI (↑i:Int)))],[(2,(wu m0))],3⟩) (fun (p:Nat×Int×List aS)=>match p with|(i,left,m0)=>i<=np/\m0++(eF (paid / np) left (np - i)).map mJ=dR [⟨0,1,0,0,0,has⟩,⟨0,2,0,0,0,paid⟩,⟨0,3,0,0,2,paid⟩]++(eF (paid / np) paid np).map mJ/\m0.length=27+i/\left<=100000/\- 100000 * i<=left) (fun (p:Nat×Int×List aS)=>match p with|(i,left,m0)=>np - i) (0,paid,(dR ([(⟨0,1,0,0,0,has⟩:aS),(⟨0,2,0,0,0,paid⟩:aS),(⟨0,3,0,0,2,paid⟩:aS)]))) ?_ ?_ ?_
 ·exact ⟨by omega,rfl,by omega,by omega,by omega⟩
 ·exact aD.bZ id (by refine ⟨?_,?_,?_,?_,?_,?_,?_,?_,trivial⟩<;>first|rfl|(simp only [bn];done)|(congr 3;omega)|(congr 4;omega)|(simp only [bo];rfl)|(first|exact cA rfl (by omega)|exact gy rfl (by first|omega|(simp only [List.length_append,List.length_cons,List.length_nil] at *;omega)))) (⟨by first|rfl|(simp only [bn];done)|(congr 3;omega)|(congr 4;omega)|(simp only [bo];rfl),trivial⟩) rfl
 rintro ⟨i,left,m0⟩ ⟨hi0_0,hi0_1,hi0_2,hi0_3,hi0_4⟩
 have hq0:0<=paid / np/\paid / np<=paid:=⟨Int.ediv_nonneg (by omega) (by omega),Int.ediv_le_self _ (by omega)⟩
 refine ad aa 1 rfl ?_
 refine af ?_
 refine ag rfl (fun hc11=>?_) (fun hc11=>?_)
 ·
  have hc11':=of_decide_eq_true hc11
  refine aP ?_
  refine af ?_
  refine aV ?_
  refine ad aa 2 rfl ?_
  refine az aa 2 rfl ?_
  refine ay (FQ rfl rfl rfl (by first|omega|(simp;done)|(simp;omega)) (by first|omega|(simp;done)|(simp;omega)) rfl) rfl ?_
  refine ab aa 1 rfl ?_
  refine ae ?_
  refine af ?_
  refine az aa 2 rfl ?_
  refine ay (aK rfl rfl rfl (aF (by first|omega|(simp;done)|(simp;omega)))) rfl ?_
  refine ab aa 1 rfl ?_
  refine ae ?_
  refine ag rfl (fun hc12=>?_) (fun hc12=>?_)
  ·
   have hc12':=of_decide_eq_true hc12
   refine aw ?_
   refine ab aa 2 rfl ?_
   refine ae ?_
   refine az aa 2 rfl ?_
   refine aL 3 [2] (bM 3 (pw 5 0 left) yM rfl rfl ⟨⟨_,rfl,.c (.d _)⟩,⟨_,rfl,.c (.d _)⟩,⟨_,rfl,.c (.d _)⟩,trivial⟩ ⟨trivial,trivial,trivial,trivial,trivial,trivial,trivial⟩ trivial rfl rfl rfl rfl) rfl ?_
   refine aL 4 [3,2] (dC (ys:=[(0,(.g [(cI 0),(cI 3),(cI 0),(cI 0),(cI 5),(cI left)]))]) (rows:=([(⟨0,3,0,0,5,left⟩:aS)]).map cL) 3 mr rfl (by decide) ⟨⟨rfl,rfl⟩,trivial⟩ rfl rfl rfl rfl) rfl ?_
   refine aL 5 [4,3] (db (m:=1) (N:=m0.length+1) (k2:=4) (ys:=([(⟨0,3,0,0,5,left⟩:aS)]).map cL) mr rfl rfl rfl rfl rfl rfl (by first|omega|(simp;done)|(simp;omega)) rfl (.s rfl (by first|omega|(simp;done)|(simp;omega))) (by first|omega|(simp;done)|(simp;omega)) (by first|omega|(simp;done)|(simp;omega)) eT (by decide) (by first|omega|(simp;done)|(simp;omega)) (by first|omega|(simp;done)|(simp;omega))) rfl ?_
   refine ab aa 1 rfl ?_
   refine ae ?_
   refine aw ?_
   refine ab aa 2 rfl ?_
   refine ay (aK rfl rfl rfl (aF (by first|omega|(simp;done)|(simp;omega)))) rfl ?_
   refine ab aa 1 rfl ?_
   refine bX ?_
   refine bl ?_
   refine then_ok ?_
   refine aw ?_
   refine ay (aK rfl rfl rfl (aF (by first|omega|(simp;done)|(simp;omega)))) rfl ?_
   refine ab aa 1 rfl ?_
   refine ae ?_
   refine ⟨(i+1,left - left,m0++([(⟨0,3,0,0,5,left⟩:aS)])),⟨by omega,by rw [<-hi0_1];first|exact la (by omega) (by rw [if_pos (by omega)])|exact la (by omega) (by rw [if_neg (by omega)]),(by first|omega|(simp only [List.length_append,List.length_cons,List.length_nil] at *;omega)),by omega,by omega⟩,by first|omega|(simp;done)|(simp;omega),aD.bZ (fun k=>if k=2 then 4 else k) (by refine ⟨?_,?_,?_,?_,?_,?_,?_,?_,trivial⟩<;>first|rfl|(simp only [bn];done)|(congr 3;omega)|(congr 4;omega)|(simp only [bo];rfl)|(first|exact cA rfl (by omega)|exact gy rfl (by first|omega|(simp only [List.length_append,List.length_cons,List.length_nil] at *;omega)))) (⟨by first|rfl|(simp only [bn];done)|(congr 3;omega)|(congr 4;omega)|(simp only [bo];rfl),trivial⟩) rfl⟩
  have hc12':=of_decide_eq_false hc12
  refine aP ?_
  refine az aa 2 rfl ?_
  refine aL 3 [2] (bM 3 (pw 5 0 (paid / (↑np:Int))) yM rfl rfl ⟨⟨_,rfl,.c (.d _)⟩,⟨_,rfl,.c (.d _)⟩,⟨_,rfl,.c (.d _)⟩,trivial⟩ ⟨trivial,trivial,trivial,trivial,trivial,trivial,trivial⟩ trivial rfl rfl rfl rfl) rfl ?_
  refine aL 4 [3,2] (dC (ys:=[(0,(.g [(cI 0),(cI 3),(cI 0),(cI 0),(cI 5),(cI (paid / (↑np:Int)))]))]) (rows:=([(⟨0,3,0,0,5,paid / (↑np:Int)⟩:aS)]).map cL) 3 mr rfl (by decide) ⟨⟨rfl,rfl⟩,trivial⟩ rfl rfl rfl rfl) rfl ?_
  refine aL 5 [4,3] (db (m:=1) (N:=m0.length+1) (k2:=4) (ys:=([(⟨0,3,0,0,5,paid / (↑np:Int)⟩:aS)]).map cL) mr rfl rfl rfl rfl rfl rfl (by first|omega|(simp;done)|(simp;omega)) rfl (.s rfl (by first|omega|(simp;done)|(simp;omega))) (by first|omega|(simp;done)|(simp;omega)) (by first|omega|(simp;done)|(simp;omega)) eT (by decide) (by first|omega|(simp;done)|(simp;omega)) (by first|omega|(simp;done)|(simp;omega))) rfl ?_
  refine ab aa 1 rfl ?_
  refine ae ?_
  refine aw ?_
  refine ab aa 2 rfl ?_
  refine ay (aK rfl rfl rfl (aF (by first|omega|(simp;done)|(simp;omega)))) rfl ?_
  refine ab aa 1 rfl ?_
  refine bX ?_
  refine bl ?_
  refine then_ok ?_
  refine aw ?_
  refine ay (aK rfl rfl rfl (aF (by first|omega|(simp;done)|(simp;omega)))) rfl ?_
  refine ab aa 1 rfl ?_
  refine ae ?_
  refine ⟨(i+1,left - (paid / (↑np:Int)),m0++([(⟨0,3,0,0,5,paid / (↑np:Int)⟩:aS)])),⟨by omega,by rw [<-hi0_1];first|exact la (by omega) (by rw [if_pos (by omega)])|exact la (by omega) (by rw [if_neg (by omega)]),(by first|omega|(simp only [List.length_append,List.length_cons,List.length_nil] at *;omega)),by omega,by omega⟩,by first|omega|(simp;done)|(simp;omega),aD.bZ (fun k=>if k=2 then 4 else k) (by refine ⟨?_,?_,?_,?_,?_,?_,?_,?_,trivial⟩<;>first|rfl|(simp only [bn];done)|(congr 3;omega)|(congr 4;omega)|(simp only [bo];rfl)|(first|exact cA rfl (by omega)|exact gy rfl (by first|omega|(simp only [List.length_append,List.length_cons,List.length_nil] at *;omega)))) (⟨by first|rfl|(simp only [bn];done)|(congr 3;omega)|(congr 4;omega)|(simp only [bo];rfl),trivial⟩) rfl⟩
 have hc11':=of_decide_eq_false hc11
 refine cm ?_
 refine aQ ?_
 refine aQ ?_
 refine bO ?_
 refine then_ok ?_
 have hml:m0=dR [⟨0,1,0,0,0,has⟩,⟨0,2,0,0,0,paid⟩,⟨0,3,0,0,2,paid⟩]++(eF (paid / np) paid np).map mJ:=by
  have:np - i=0:=by omega
  rw [this] at hi0_1;simpa [eF] using hi0_1
 refine eJ ?_
 refine aL 3 [2] (bM 3 (Fn.frozen (av':=(aG [(cR 3 (([(⟨1000,30,1000000000000⟩:dk),(⟨1000,30,1000000000000⟩:dk)]).map ig)),(cI 2),(cI 0)])) (vR 0) ⟨.inr ⟨_,_,_,_,_,rfl,rfl,rfl,by simp⟩,.inl ⟨_,rfl,rfl⟩,.inl ⟨_,rfl,rfl⟩,trivial⟩) Fa rfl rfl ⟨⟨_,rfl,.c (.d _)⟩,trivial⟩ ⟨trivial,trivial,trivial,trivial⟩ trivial rfl rfl rfl rfl) rfl ?_
 refine ab aa 1 rfl ?_
 have hr2:dR m0=(dR m0):=rfl
 refine aL 4 [3] (cw (aW [2]) (aW [3]) (vU m0 m0.length (by first|omega|(simp;done)|(simp;omega)) (by first|omega|(simp;done)|(simp;omega)) (dR m0) hr2) Ce rfl rfl ⟨⟨_,rfl,.inl ⟨rfl,rfl⟩⟩,trivial⟩ ⟨rfl,trivial⟩ rfl rfl rfl rfl rfl rfl trivial ⟨(fun _ _ _ _=>trivial),trivial⟩ rfl rfl rfl rfl) rfl ?_
 refine mf (s':=[(0,(aI has)),(1,(aI paid)),(2,(aI (↑np:Int))),(6,(aB false)),(8,(aI left)),(48,(aI (↑np:Int))),(49,(aI (↑i:Int))),(50,(aB (decide ((↑i:Int) < (↑np:Int))))),(70,(aG [(cR 3 (([(⟨1000,30,1000000000000⟩:dk),(⟨1000,30,1000000000000⟩:dk)]).map ig)),(cI 2),(cI 0)])),(72,(aC (uA (dR m0))))]) (h':=[]) 3 rfl ⟨⟨_,rfl,.inl ⟨rfl,rfl⟩⟩,⟨_,rfl,.inl ⟨rfl,rfl⟩⟩,⟨_,rfl,.inl ⟨rfl,rfl⟩⟩,⟨_,rfl,.inl ⟨rfl,rfl⟩⟩,⟨_,rfl,.inl ⟨rfl,rfl⟩⟩,⟨_,rfl,.inl ⟨rfl,rfl⟩⟩,⟨_,rfl,.inl ⟨rfl,rfl⟩⟩,⟨_,rfl,.inl ⟨rfl,rfl⟩⟩,⟨_,rfl,.inl ⟨rfl,rfl⟩⟩,⟨_,rfl,.inr ⟨_,_,rfl,rfl,.s rfl (by decide) (by first|omega|(simp;done)|(simp;omega))⟩⟩,trivial⟩ trivial rfl ?_
 obtain ⟨b23,y23,o23,f23,hr3⟩:∃ (b23:Bk) (y23:List (List Int)) (o23:List Answer) (f23:cT),ik (⟨[(⟨1000,30,1000000000000⟩:dk),(⟨1000,30,1000000000000⟩:dk)],2,0⟩:Setup) (dR m0)=(b23,y23,o23,f23):=⟨_,_,_,_,rfl⟩
 obtain ⟨ho1,ho2,ho3,ho4,ho5,ho6⟩:=yk (has:=has) (paid:=paid) (q:=paid / np) (P:=np) (by omega) (by omega) (by omega) (by omega) (by omega) (by omega) rfl (b:=b23) (y:=y23) (o:=o23) (f:=f23) (by rw [<-hml];exact hr3)
 refine aL 4 [] (bM 4 (Fn.frozen (av':=(.t [(.g [(cI b23.time),(cB b23.down),(DO b23.an),(fV b23.due),(zg b23.aq),(cI b23.s0.bF),(dd b23.s0.kept),(cI b23.s1.bF),(dd b23.s1.kept),(cI b23.n0),(cI b23.n1),(eo b23.w0),(eo b23.w1),(cI b23.bG.cap),(fV b23.bG.used),(gR b23.bG.aZ),(jf b23.aO),(DM y23),(dT b23.book)]),(.c (DN o23)),(.g [(cI f23.err),(cI f23.at_)])])) (AG (⟨[(⟨1000,30,1000000000000⟩:dk),(⟨1000,30,1000000000000⟩:dk)],2,0⟩:Setup) (dR m0) b23 y23 o23 f23 hr3) ⟨⟨.inl ⟨_,rfl,rfl⟩,.inl ⟨_,rfl,rfl⟩,.inr ⟨_,_,_,_,_,rfl,rfl,rfl,by simp⟩,.inr ⟨_,_,_,_,_,rfl,rfl,rfl,by simp⟩,.inr ⟨_,_,_,_,_,rfl,rfl,rfl,by simp⟩,.inl ⟨_,rfl,rfl⟩,.inl ⟨_,rfl,rfl⟩,.inl ⟨_,rfl,rfl⟩,.inl ⟨_,rfl,rfl⟩,.inl ⟨_,rfl,rfl⟩,.inl ⟨_,rfl,rfl⟩,.inl ⟨_,rfl,rfl⟩,.inl ⟨_,rfl,rfl⟩,.inl ⟨_,rfl,rfl⟩,.inl ⟨_,rfl,rfl⟩,.inl ⟨_,rfl,rfl⟩,.inr ⟨_,_,_,_,_,rfl,rfl,rfl,by simp⟩,.inr ⟨_,_,_,_,_,rfl,rfl,rfl,by simp⟩,.inl ⟨_,rfl,rfl⟩,trivial⟩,.inr ⟨_,_,_,_,_,rfl,rfl,rfl,by simp⟩,⟨.inl ⟨_,rfl,rfl⟩,.inl ⟨_,rfl,rfl⟩,trivial⟩,trivial⟩) Fb rfl rfl ⟨⟨_,rfl,.g ⟨.d _,.d _,.d _,trivial⟩⟩,⟨_,rfl,.c (.d _)⟩,trivial⟩ ⟨⟨trivial,trivial,trivial,trivial,trivial,trivial,trivial,trivial,trivial,trivial,trivial,trivial,trivial,trivial,trivial,trivial,trivial,trivial,trivial,trivial⟩,trivial,⟨trivial,trivial,trivial⟩,trivial⟩ trivial rfl rfl rfl rfl) rfl ?_
 refine ab aa 9 rfl ?_
 refine ae ?_
 refine az aa 4 rfl ?_
 refine bA (t:=80) rfl (fun hb13=>?_) (fun hb13=>?_)
 ·
  have hb13':=of_decide_eq_true hb13
  refine ab aa 2 rfl ?_
  obtain ⟨x1,hx1⟩:=cp (xs:=b23.an) (i:=0) (by first|omega|(simp;done)|(simp;omega))
  have hx1K:=ho4 x1 hx1
  refine dW (al.yes rfl rfl rfl) (cU (i:=0) rfl rfl rfl Try.underlying29 iB (by first|omega|(simp;done)|(simp;omega)) (bw hx1)) rfl rfl ?_
  refine ab aa 6 rfl ?_
  refine bA (t:=89) rfl (fun hb14=>?_) (fun hb14=>?_)
  ·
   have hb14':=of_decide_eq_true hb14
   refine ab aa 2 rfl ?_
   refine dW (al.yes rfl rfl rfl) (cU (i:=0) rfl rfl rfl Try.underlying29 iB (by first|omega|(simp;done)|(simp;omega)) (bw hx1)) rfl rfl ?_
   refine ab aa 1 rfl ?_
   refine Dd 6 [5,4] (al.yes rfl rfl rfl) (bM 6 (mA x1 (by first|assumption|omega|(constructor<;>decide)|(have hz:=fW (by first|assumption|omega);omega))) Cd rfl rfl ⟨⟨_,rfl,.g ⟨.d _,.d _,.d _,.d _,.d _,.d _,trivial⟩⟩,trivial⟩ trivial trivial rfl rfl rfl rfl) rfl ?_
   refine ab aa 4 rfl ?_
   refine bA (t:=98) rfl (fun hb15=>?_) (fun hb15=>?_)
   ·
    have hb15':=of_decide_eq_true hb15
    refine ab aa 2 rfl ?_
    obtain ⟨x2,hx2⟩:=cp (xs:=b23.due) (i:=0) (by first|omega|(simp;done)|(simp;omega))
    have hx2K:=ho5 x2 hx2
    refine dW (al.yes rfl rfl rfl) (cU (i:=0) rfl rfl rfl Try.underlying30 fJ (by first|omega|(simp;done)|(simp;omega)) (bw hx2)) rfl rfl ?_
    refine ab aa 4 rfl ?_
    refine bA (t:=105) rfl (fun hb16=>?_) (fun hb16=>?_)
    ·
     have hb16':=of_decide_eq_true hb16
     refine ab aa 2 rfl ?_
     refine dW (al.yes rfl rfl rfl) (cO rfl rfl rfl rfl rfl Try.underlying44) rfl rfl ?_
     refine ab aa 3 rfl ?_
     refine ae ?_
     refine ar ?_
     refine ah aa [] 0 rfl rfl rfl rfl rfl rfl ?_ ?_
     ·exact congrArg aB (show (decide ((↑b23.book.length:Int)=2))=true by (first|(exfalso;omega)|exact decide_eq_true (by omega)))
     ·rfl
    have hb16':=of_decide_eq_false hb16
    refine ab aa 6 rfl ?_
    refine ae ?_
    refine ar ?_
    refine ah aa [] 0 rfl rfl rfl rfl rfl rfl ?_ ?_
    ·exact congrArg aB (show (false)=true by (first|(exfalso;omega)|exact decide_eq_true (by omega)))
    ·rfl
   have hb15':=of_decide_eq_false hb15
   refine ab aa 13 rfl ?_
   refine ae ?_
   refine ar ?_
   refine ah aa [] 0 rfl rfl rfl rfl rfl rfl ?_ ?_
   ·exact congrArg aB (show (false)=true by (first|(exfalso;omega)|exact decide_eq_true (by omega)))
   ·rfl
  have hb14':=of_decide_eq_false hb14
  refine ab aa 22 rfl ?_
  refine ae ?_
  refine ar ?_
  refine ah aa [] 0 rfl rfl rfl rfl rfl rfl ?_ ?_
  ·exact congrArg aB (show (false)=true by (first|(exfalso;omega)|exact decide_eq_true (by omega)))
  ·rfl
 have hb13':=of_decide_eq_false hb13
 refine ab aa 31 rfl ?_
 refine ae ?_
 refine ar ?_
 refine ah aa [] 0 rfl rfl rfl rfl rfl rfl ?_ ?_
 ·exact congrArg aB (show (false)=true by (first|(exfalso;omega)|exact decide_eq_true (by omega)))
 ·rfl
end Go.Proofs.Ytegepioggeggaaa.Dev
