/- A part of the proof: Bank6, Bank8, Bank9. No condition. -/
import Derived.Test.YtegepioggeggaaaD11
set_option linter.unusedVariables false
set_option linter.unusedSimpArgs false
set_option maxHeartbeats 8000000
set_option maxRecDepth 100000
namespace Go.Proofs.Ytegepioggeggaaa.Dev
open Go.RowKit

theorem Bm (x:Nat->Value) (hx:∀ i,(x i).oneCell'=true) (b:Bk) (ok:cu b) (b2:Bk) (hr:gD b=b2):cJ Try.prog 84 [(.c (.p 0 0 0 0))] [(0,(.box 98 (aW b 1 2 3 4 (.d (.v (x 17))) (.d (.v (x 19)))))),(1,(dT b.ay)),(2,(dM b.due)),(3,(ea b.au)),(4,(cM b.aP))] [0] (.t []) [(0,(.box 98 (aW b2 1 2 3 4 (.d (.v (x 17))) (.d (.v (x 19)))))),(1,(dT b2.ay)),(2,(dM b2.due)),(3,(ea b2.au)),(4,(cM b2.aP))]:=by
 refine cJ.mk 47 [(0,(aC (.p 0 0 0 0)))] 5 Try.func84 rfl rfl rfl rfl rfl rfl rfl rfl rfl ?_
 intro W0 F0 T0 pg
 obtain ⟨okt,okc,okd,oka,oky,okw0,okw1,okp,okv,okk0,okk1,okg,okl0,okl1,okp0,okp1,okn0,okn1,okq⟩:=id ok
 refine aF aa 1 rfl ?_
 refine aQ 14 [0,5,6,7,8,9,10,11,12,13] (cL id (bf [0,5,6,7,8,9,10,11,12,13]) (kK (x 17) (x 19) b (by first|omega|(simp;done)|(simp;omega)) (by first|omega|(simp;done)|(simp;omega)) (by first|omega|(simp;done)|(simp;omega)) (by first|omega|(simp;done)|(simp;omega))) ra rfl rfl ⟨⟨_,rfl,.inl ⟨rfl,rfl⟩⟩,trivial⟩ ⟨rfl,rfl,rfl,rfl,rfl,trivial⟩ rfl rfl rfl rfl rfl rfl trivial ⟨⟨trivial,trivial,trivial,trivial,trivial,trivial,trivial,trivial,trivial,trivial,trivial,trivial,trivial,trivial,trivial,trivial,trivial,trivial,trivial,trivial,trivial⟩,⟨trivial,trivial,trivial,trivial,trivial,trivial,trivial,trivial,trivial,trivial,trivial,trivial,trivial,trivial,trivial,trivial,trivial,trivial,trivial,trivial,trivial⟩,(fun _ _ _ _=>trivial),(fun _ _ _ _=>trivial),(fun _ _ _ _=>trivial),(fun _ _ _ _=>trivial),(fun _ _ _ _=>trivial),(fun _ _ _ _=>trivial),(fun _ _ _ _=>trivial),(fun _ _ _ _=>trivial),trivial⟩ rfl rfl rfl rfl) rfl ?_
 refine ad aa 1 rfl ?_
 refine af ?_
 refine ag ?_
 refine aF aa 5 rfl ?_
 refine aA (dz rfl rfl rfl rfl rfl Try.underlying31) rfl ?_
 refine ad aa 1 rfl ?_
 refine af ?_
 refine aY ?_
 refine cE (β:=Nat×List bI×List bC×Int) (fun (p:Nat×List bI×List bC×Int)=>match p with|(q,cs,xs,e)=>⟨[(0,(aC (.p 0 0 0 0))),(2,(aC (.p 5 0 0 0))),(12,(aC (.s 12 0 8 xs.length))),(13,(aI (↑b.au.length:Int))),(14,(aI (↑q:Int)))],[(0,(.box 98 (aW b 6 7 8 9 (.d (.v (x 17))) (.d (.v (x 19)))))),(5,(.box 147 (((aW b 10 11 12 13 (.d (.v (x 17))) (cI e)).set 2 (.s 10 0 6 cs.length)).set 4 (.s 12 0 8 xs.length)))),(6,(dT b.ay)),(7,(dM b.due)),(8,(ea b.au)),(9,(cM b.aP)),(10,(dT cs)),(11,(dM b.due)),(12,(ea xs)),(13,(cM b.aP))],14⟩) (fun (p:Nat×List bI×List bC×Int)=>match p with|(q,cs,xs,e)=>q<=b.au.length/\fG b.time b.au 0 b.ay b.au 0=fG b.time (b.au.drop q) q cs xs e/\cs.length=b.ay.length/\xs.length=b.au.length/\(∀ i,q<=i->xs[i]?=b.au[i]?)) (fun (p:Nat×List bI×List bC×Int)=>match p with|(q,cs,xs,e)=>b.au.length - q) (0,b.ay,b.au,0) ?_ ?_ ?_
 ·exact ⟨by omega,rfl,rfl,rfl,fun _ _=>rfl⟩
 ·exact aH.ca id (by refine ⟨?_,?_,?_,?_,?_,trivial⟩<;>first|rfl|(simp only [bu];done)|(congr 3;omega)|(congr 4;omega)|(simp only [bw];rfl)) (by refine ⟨?_,?_,?_,?_,?_,?_,?_,?_,?_,?_,trivial⟩<;>first|rfl|(simp only [bu];done)|(congr 3;omega)|(congr 4;omega)|(simp only [bw];rfl)) rfl
 rintro ⟨q,cs,xs,e⟩ ⟨hi0_0,hi0_1,hi0_2,hi0_3,hi0_4⟩
 refine ae aa 1 rfl ?_
 refine ag ?_
 refine aj rfl (fun hc1=>?_) (fun hc1=>?_)
 ·
  have hc1':=of_decide_eq_true hc1
  refine aS ?_
  refine ag ?_
  refine aY ?_
  refine aF aa 1 rfl ?_
  refine aA (bz (i:=q) rfl rfl rfl Try.underlying31 lS (by first|omega|(simp;done)|(simp;omega)) (by first|omega|(simp;done)|(simp;omega))) rfl ?_
  obtain ⟨x1,hx1⟩:=cf (xs:=xs) (i:=q) (by first|omega|(simp;done)|(simp;omega))
  have hx1w:=okp x1 (List.mem_of_getElem? (show b.au[q]?=some x1 by rw [<-hi0_4 q (by omega)];exact hx1))
  have hx1A:=hx1w.2
  replace hx1w:=hx1w.1
  refine aA (dm rfl rfl rfl Try.underlying67 rfl lS (bp hx1) rfl) rfl ?_
  refine ad aa 3 rfl ?_
  refine af ?_
  refine ag ?_
  obtain ⟨b0,hr0⟩:∃ (b0:bC),eh x1 b.time=b0:=⟨_,rfl⟩
  have hlw:bL b0=0:=by rw [<-hr0];exact ya hx1w
  refine aX [0,2,12,13,14,4,3] [14,0,5,6,7,8,9,10,11,12,13] mixed rfl rfl ?_
  refine aD (kn:=[]) aa 6 rfl trivial ?_
  refine aT (n':=15) [19,24] [] rfl rfl (.inl ⟨(ak.plain rfl),aK.cast (cb 15 (xy x1 b.time b0 hr0) He rfl rfl ⟨⟨_,rfl,.g ⟨.d _,.d _,.d _,.d _,.d _,.d _,.d _,.d _,trivial⟩⟩,⟨_,rfl,.c (.d _)⟩,trivial⟩ ⟨trivial,trivial,trivial,trivial,trivial,trivial,trivial,trivial,trivial⟩ trivial rfl rfl rfl rfl) rfl⟩) rfl ?_
  refine aD (n':=16) (kn:=[]) aa 1 rfl trivial ?_
  refine bA [15,14,0,5,6,7,8,9,10,11,12,13] rfl rfl rfl rfl (by kernel_rfl) ?_
  refine ad aa 1 rfl ?_
  refine af ?_
  refine ag ?_
  obtain ⟨e1,hr1⟩:∃ (e1:Int),bQ b0=e1:=⟨_,rfl⟩
  have hhb1:=oT (show bL b0=0 by assumption)
  rw [hr1] at hhb1
  obtain ⟨e2,hr2⟩:∃ (e2:Int),bQ x1=e2:=⟨_,rfl⟩
  have hhb2:=oT (show bL x1=0 by assumption)
  rw [hr2] at hhb2
  obtain ⟨l23,e23,hr3⟩:∃ (l23:List bI) (e23:Int),cH cs e x1.aO (e1 - e2) 0=(l23,e23):=⟨_,_,rfl⟩
  have hsl3:l23.length=cs.length:=by have h:=fv cs e x1.aO (e1 - e2) 0;rw [hr3] at h;exact h
  refine df [0,2,12,13,14,4,3,5] [15,14,0,5,6,7,8,9,10,11,12,13] mixed rfl rfl ?_
  refine bT (kn:=[]) aa 4 rfl trivial ?_
  refine bW (n':=16) [29] [] rfl rfl (.inl ⟨(ak.plain rfl),aK.cast (cb 16 (kS b0 (by first|assumption|omega|rfl|decide) e1 hr1) zl rfl rfl ⟨⟨_,rfl,.g ⟨.d _,.d _,.d _,.d _,.d _,.d _,.d _,.d _,trivial⟩⟩,trivial⟩ trivial trivial rfl rfl rfl rfl) rfl⟩) rfl ?_
  refine bT (kn:=[]) aa 1 rfl trivial ?_
  refine bW (n':=16) [31] [] rfl rfl (.inl ⟨(ak.plain rfl),aK.cast (cb 16 (kS x1 (by first|assumption|omega|rfl|decide) e2 hr2) zl rfl rfl ⟨⟨_,rfl,.g ⟨.d _,.d _,.d _,.d _,.d _,.d _,.d _,.d _,trivial⟩⟩,trivial⟩ trivial trivial rfl rfl rfl rfl) rfl⟩) rfl ?_
  refine bW (n':=16) [30,32] [] rfl rfl (.inl ⟨(ak.plain rfl),aK.cast (aM rfl rfl rfl (aL (by first|omega|(simp;done)|(simp;omega)))) rfl⟩) rfl ?_
  refine bW (n':=17) [26,28,33] [10,5] rfl rfl (.inl ⟨(ak.plain rfl),aK.cast (cr (bf [5,10]) (bf [5,16]) (ms:=((dE.set 2 (some (.s 1 0 6 cs.length))).set 19 (some (cI e)))) (ms':=((dE.set 2 (some (.s 1 0 6 l23.length))).set 19 (some (cI e23)))) (fun x hx=>jj x hx cs e x1.aO (e1 - e2) 0 (by first|omega|(simp;done)|(simp;omega)) l23 e23 hr3) nJ rfl rfl ⟨⟨_,rfl,.inl ⟨rfl,rfl⟩⟩,⟨_,rfl,.inr (.c (.d _))⟩,⟨_,rfl,.inr (.c (.d _))⟩,⟨_,rfl,.inr (.c (.d _))⟩,trivial⟩ rfl rfl rfl rfl rfl rfl rfl ⟨rfl,trivial⟩ rfl rfl rfl rfl rfl rfl rfl rfl rfl rfl rfl rfl rfl) rfl⟩) rfl ?_
  refine dU [0,2,12,13,14,3,5] [16,5,15,0,6,7,8,9,11,12,13] rfl rfl (by kernel_rfl) ?_
  refine then_ok ?_
  refine aX [0,2,12,13,14,3,5] [16,5,15,0,6,7,8,9,11,12,13] mixed rfl rfl ?_
  refine aD (kn:=[]) aa 7 rfl trivial ?_
  refine aT (n':=17) [39,40] [12] rfl rfl (.inl ⟨(ak.plain rfl),aK.cast (bz (i:=q) rfl rfl rfl Try.underlying31 lS (by first|omega|(simp;done)|(simp;omega)) (by first|omega|(simp;done)|(simp;omega))) rfl⟩) rfl ?_
  refine bA [16,5,15,0,6,7,8,9,11,12,13] rfl rfl rfl rfl (by kernel_rfl) ?_
  refine gj [16,5,15,0,6,7,8,9,11,12,13] (dR (ds:=[(dI b0.aO),(dI b0.aE),(dI b0.sum),(dI b0.captured),(dI b0.bB),(dI b0.bq),(dI b0.dc),(dB b0.shut)]) rfl rfl rfl rfl rfl lS rfl (Nat.le_of_ble_eq_true rfl) (bp hx1) rfl (eX (x':=b0) rfl)) rfl ?_
  refine bZ ?_
  refine bm ?_
  refine then_ok ?_
  refine fN (k:=5) (q:=4) (c':=(.s 12 0 8 (((xs).set q b0).length))) rfl rfl (by first|rfl|(simp;done)|(congr 1;omega)) rfl ?_
  refine ax ?_
  refine aA (aM rfl rfl rfl (aL (by first|omega|(simp;done)|(simp;omega)))) rfl ?_
  refine ad aa 1 rfl ?_
  refine af ?_
  refine ⟨(q+1,l23,(xs).set q b0,e23),⟨by omega,by rw [hi0_1,yU (a:=x1) (by rw [<-hi0_4 q (by omega)];exact hx1),hr0,hr1,hr2,hr3],by omega,by rw [List.length_set];omega,fun i hi=>by rw [List.getElem?_set_ne (by omega)];exact hi0_4 i (by omega)⟩,by first|omega|(simp;done)|(simp;omega),aH.ca (fun k=>if k=10 then 16 else k) (by refine ⟨?_,?_,?_,?_,?_,trivial⟩<;>first|rfl|(simp only [bu];done)|(congr 3;omega)|(congr 4;omega)|(simp only [bw];rfl)) (by refine ⟨?_,?_,?_,?_,?_,?_,?_,?_,?_,?_,trivial⟩<;>first|rfl|(simp only [bu];done)|(congr 3;omega)|(congr 4;omega)|(simp only [bw];rfl)) rfl⟩
 have hc1':=of_decide_eq_false hc1
 refine cv ?_
 refine aU ?_
 refine aU ?_
 refine bS ?_
 refine then_ok ?_
 rcases (show e=0\/¬e=0 from by omega) with hs2|hs2
 ·
  refine ax ?_
  refine ad aa 2 rfl ?_
  refine aQ 18 [0,14,15,16,17] (cL (bf [0,5,6,7,8,9,10,11,12,13]) (bf [0,14,15,16,17]) (fw (x 17) (x 19) b (⟨b.time,b.down,cs,b.due,xs,b.s0,b.s1,b.n0,b.n1,b.w0,b.w1,b.bG,b.aP,b.book⟩:Bk) e (by first|assumption|omega)) fW rfl rfl ⟨⟨_,rfl,.inl ⟨rfl,rfl⟩⟩,⟨_,rfl,.inl ⟨rfl,rfl⟩⟩,trivial⟩ ⟨rfl,rfl,rfl,rfl,rfl,rfl,rfl,rfl,rfl,rfl,trivial⟩ rfl rfl rfl rfl rfl rfl trivial ⟨⟨trivial,trivial,trivial,trivial,trivial,trivial,trivial,trivial,trivial,trivial,trivial,trivial,trivial,trivial,trivial,trivial,trivial,trivial,trivial,trivial,trivial⟩,(fun _ _ _ _=>trivial),(fun _ _ _ _=>trivial),(fun _ _ _ _=>trivial),(fun _ _ _ _=>trivial),trivial⟩ rfl rfl rfl rfl) rfl ?_
  refine bZ ?_
  have hX:gD b=(⟨b.time,b.down,cs,b.due,xs,b.s0,b.s1,b.n0,b.n1,b.w0,b.w1,b.bG,b.aP,b.book⟩:Bk):=by
    have hL:fG b.time b.au 0 b.ay b.au 0=(cs,xs,e):=by rw [hi0_1,List.drop_of_length_le (by omega)];rfl
    unfold gD;rw [hL];dsimp only;first|rw [if_pos (by assumption)]|rw [if_neg (by assumption)]
  rw [hX] at hr;clear hX
  subst hr
  refine cO aa [0,14,15,16,17] 5 rfl rfl rfl rfl rfl rfl ?_ ?_
  all_goals first|rfl|(simp [aw,aW,bh];done)|(simp [aw,aW,bh];omega)
 refine ax ?_
 refine ad aa 2 rfl ?_
 refine aQ 18 [0,14,15,16,17] (cL (bf [0,5,6,7,8,9,10,11,12,13]) (bf [0,14,15,16,17]) (gp (x 17) (x 19) b (⟨b.time,b.down,cs,b.due,xs,b.s0,b.s1,b.n0,b.n1,b.w0,b.w1,b.bG,b.aP,b.book⟩:Bk) e (by first|assumption|omega)) fW rfl rfl ⟨⟨_,rfl,.inl ⟨rfl,rfl⟩⟩,⟨_,rfl,.inl ⟨rfl,rfl⟩⟩,trivial⟩ ⟨rfl,rfl,rfl,rfl,rfl,rfl,rfl,rfl,rfl,rfl,trivial⟩ rfl rfl rfl rfl rfl rfl trivial ⟨⟨trivial,trivial,trivial,trivial,trivial,trivial,trivial,trivial,trivial,trivial,trivial,trivial,trivial,trivial,trivial,trivial,trivial,trivial,trivial,trivial,trivial⟩,(fun _ _ _ _=>trivial),(fun _ _ _ _=>trivial),(fun _ _ _ _=>trivial),(fun _ _ _ _=>trivial),trivial⟩ rfl rfl rfl rfl) rfl ?_
 refine bZ ?_
 have hX:gD b=b:=by
   have hL:fG b.time b.au 0 b.ay b.au 0=(cs,xs,e):=by rw [hi0_1,List.drop_of_length_le (by omega)];rfl
   unfold gD;rw [hL];dsimp only;first|rw [if_pos (by assumption)]|rw [if_neg (by assumption)]
 rw [hX] at hr;clear hX
 subst hr
 refine cO aa [0,14,15,16,17] 5 rfl rfl rfl rfl rfl rfl ?_ ?_
 all_goals first|rfl|(simp [aw,aW,bh];done)|(simp [aw,aW,bh];omega)
theorem Ew (x:Nat->Value) (hx:∀ i,(x i).oneCell'=true) (b:Bk) (d:bx) (ok:cu b) (hdn:b.down=false) (b2:Bk) (a2:Answer) (hr:eF b d=(b2,a2)):cJ Try.prog 65 [(.c (.p 0 0 0 0)),(.c (.q (dg d) 0))] [(0,(.box 98 (aW b 1 2 3 4 (.d (.v (x 17))) (.d (.v (x 19)))))),(1,(dT b.ay)),(2,(dM b.due)),(3,(ea b.au)),(4,(cM b.aP))] [0] (.v (.g [cI a2.err,cI a2.ba])) [(0,(.box 98 (aW b2 1 2 3 4 (.d (.v (x 17))) (.d (.v (x 19)))))),(1,(dT b2.ay)),(2,(dM b2.due)),(3,(ea b2.au)),(4,(cM b2.aP))]:=by
 refine cJ.mk 46 [(0,(aC (.p 0 0 0 0))),(1,(aC (.q (dg d) 0)))] 5 Try.func65 rfl rfl rfl rfl rfl rfl rfl rfl rfl ?_
 intro W0 F0 T0 pg
 obtain ⟨okt,okc,okd,oka,oky,okw0,okw1,okp,okv,okk0,okk1,okg,okl0,okl1,okp0,okp1,okn0,okn1,okq⟩:=id ok
 refine ae aa 1 rfl ?_
 refine ag ?_
 refine ag ?_
 rcases Bool.eq_false_or_eq_true (decide (d.sum < 0)) with hb1|hb1
 ·
  have hb1':=of_decide_eq_true hb1
  refine aX [0,1,4] [5,0,1,2,3,4] mixed rfl rfl ?_
  refine aD (kn:=[(9,true)]) aa 18 rfl ⟨hb1,trivial⟩ ?_
  refine bA [5,0,1,2,3,4] rfl rfl rfl rfl (by kernel_rfl) ?_
  refine af ?_
  refine aj rfl (fun _=>?_) (fun hno=>by cases hno)
  refine ae aa 2 rfl ?_
  refine az ?_
  refine an ?_
  have hX:eF b d=(b,(⟨3,0⟩:Answer)):=by
    unfold eF;(repeat' split)<;>first|rfl|omega|(exfalso;omega)|(simp_all;done)|(simp_all;omega)
  rw [hX] at hr;clear hX
  simp only [Prod.mk.injEq] at hr;obtain ⟨rfl,rfl⟩:=hr
  refine al aa [0,1,2,3,4,5] 5 rfl rfl rfl rfl rfl rfl ?_ ?_
  all_goals first|rfl|(simp [aw,aW,bh];done)|(simp [aw,aW,bh];omega)
 have hb1':=of_decide_eq_false hb1
 refine aX [0,1,4] [5,0,1,2,3,4] mixed rfl rfl ?_
 refine aD (kn:=[(9,false)]) aa 15 rfl ⟨hb1,trivial⟩ ?_
 refine aT (n':=6) [19,10] [] rfl rfl (.inl ⟨(ak.yes rfl rfl rfl),aK.cast (aM rfl rfl rfl (aL (by first|omega|(simp;done)|(simp;omega)))) rfl⟩) rfl ?_
 refine aD (kn:=[]) aa 2 rfl trivial ?_
 refine bA [5,0,1,2,3,4] rfl rfl rfl rfl (by kernel_rfl) ?_
 refine af ?_
 refine aj rfl (fun hc3=>?_) (fun hc3=>?_)
 ·
  have hc3':=of_decide_eq_true hc3
  refine ae aa 2 rfl ?_
  refine az ?_
  refine an ?_
  have hX:eF b d=(b,(⟨3,0⟩:Answer)):=by
    unfold eF;(repeat' split)<;>first|rfl|omega|(exfalso;omega)|(simp_all;done)|(simp_all;omega)
  rw [hX] at hr;clear hX
  simp only [Prod.mk.injEq] at hr;obtain ⟨rfl,rfl⟩:=hr
  refine al aa [0,1,2,3,4,5] 5 rfl rfl rfl rfl rfl rfl ?_ ?_
  all_goals first|rfl|(simp [aw,aW,bh];done)|(simp [aw,aW,bh];omega)
 have hc3':=of_decide_eq_false hc3
 refine aS ?_
 refine ag ?_
 refine aX [0,1,4] [5,0,1,2,3,4] mixed rfl rfl ?_
 refine aD (kn:=[]) aa 9 rfl trivial ?_
 refine aT (n':=6) [28,32] [] rfl rfl (.inl ⟨(ak.plain rfl),aK.cast (aM rfl rfl rfl (aL (by first|omega|(simp;done)|(simp;omega)))) rfl⟩) rfl ?_
 refine aD (kn:=[]) aa 3 rfl trivial ?_
 refine bA [5,0,1,2,3,4] rfl rfl rfl rfl (by kernel_rfl) ?_
 refine ad aa 1 rfl ?_
 refine af ?_
 refine ag ?_
 refine ae aa 6 rfl ?_
 refine aj rfl (fun _=>?_) (fun hno=>by simp [hdn] at hno)
 refine ax ?_
 refine ad aa 1 rfl ?_
 obtain ⟨b20,hr0⟩:∃ (b20:Bk),gD (⟨b.time+d.sum,b.down,b.ay,b.due,b.au,b.s0,b.s1,b.n0,b.n1,b.w0,b.w1,b.bG,b.aP,b.book⟩:Bk)=b20:=⟨_,rfl⟩
 refine aQ 10 [0,6,7,8,9,5] (cr id (bf [0,6,7,8,9]) (ms:=[some (cI (b.time+d.sum)),some (cB b.down),some (.s 1 0 6 b.ay.length),some (.s 2 0 1 b.due.length),some (.s 3 0 8 b.au.length),some (cI b.s0.bX),some (dj b.s0.kept),some (cI b.s1.bX),some (dj b.s1.kept),some (cI b.n0),some (cI b.n1),some (eu b.w0),some (eu b.w1),some (cI b.bG.cap),some (gM b.bG.used),some (iq b.bG.bd),some (.s 4 0 4 b.aP.length),none,some (dW b.book),none]) (ms':=(jo b20 1 2 3 4 none none)) (fun x hx=>Bm x hx (⟨b.time+d.sum,b.down,b.ay,b.due,b.au,b.s0,b.s1,b.n0,b.n1,b.w0,b.w1,b.bG,b.aP,b.book⟩:Bk) (by first|assumption|exact cu.tick (by assumption) (by omega) (by omega)) b20 hr0) FL rfl rfl ⟨⟨_,rfl,.inl ⟨rfl,rfl⟩⟩,trivial⟩ rfl rfl rfl rfl rfl rfl rfl ⟨rfl,rfl,rfl,rfl,trivial⟩ rfl rfl rfl rfl rfl rfl rfl rfl rfl rfl rfl rfl rfl) rfl ?_
 refine af ?_
 refine ae aa 2 rfl ?_
 refine az ?_
 have hX:eF b d=(b20,(⟨0,0⟩:Answer)):=by
   unfold eF;simp only [dd,hr0];(repeat' split)<;>first|rfl|omega|(exfalso;omega)|(simp_all;done)|(simp_all;omega)
 rw [hX] at hr;clear hX
 simp only [Prod.mk.injEq] at hr;obtain ⟨rfl,rfl⟩:=hr
 refine al aa [0,6,7,8,9,5] 5 rfl rfl rfl rfl rfl rfl ?_ ?_
 all_goals first|rfl|(simp [aw,aW,bh];done)|(simp [aw,aW,bh];omega)
theorem Ex (x:Nat->Value) (hx:∀ i,(x i).oneCell'=true) (b:Bk) (d:bx) (ok:cu b) (hdn:b.down=true) (b2:Bk) (a2:Answer) (hr:eF b d=(b2,a2)):cJ Try.prog 65 [(.c (.p 0 0 0 0)),(.c (.q (dg d) 0))] [(0,(.box 98 (aW b 1 2 3 4 (.d (.v (x 17))) (.d (.v (x 19)))))),(1,(dT b.ay)),(2,(dM b.due)),(3,(ea b.au)),(4,(cM b.aP))] [0] (.v (.g [cI a2.err,cI a2.ba])) [(0,(.box 98 (aW b2 1 2 3 4 (.d (.v (x 17))) (.d (.v (x 19)))))),(1,(dT b2.ay)),(2,(dM b2.due)),(3,(ea b2.au)),(4,(cM b2.aP))]:=by
 refine cJ.mk 46 [(0,(aC (.p 0 0 0 0))),(1,(aC (.q (dg d) 0)))] 5 Try.func65 rfl rfl rfl rfl rfl rfl rfl rfl rfl ?_
 intro W0 F0 T0 pg
 obtain ⟨okt,okc,okd,oka,oky,okw0,okw1,okp,okv,okk0,okk1,okg,okl0,okl1,okp0,okp1,okn0,okn1,okq⟩:=id ok
 refine ae aa 1 rfl ?_
 refine ag ?_
 refine ag ?_
 rcases Bool.eq_false_or_eq_true (decide (d.sum < 0)) with hb1|hb1
 ·
  have hb1':=of_decide_eq_true hb1
  refine aX [0,1,4] [5,0,1,2,3,4] mixed rfl rfl ?_
  refine aD (kn:=[(9,true)]) aa 18 rfl ⟨hb1,trivial⟩ ?_
  refine bA [5,0,1,2,3,4] rfl rfl rfl rfl (by kernel_rfl) ?_
  refine af ?_
  refine aj rfl (fun _=>?_) (fun hno=>by cases hno)
  refine ae aa 2 rfl ?_
  refine az ?_
  refine an ?_
  have hX:eF b d=(b,(⟨3,0⟩:Answer)):=by
    unfold eF;(repeat' split)<;>first|rfl|omega|(exfalso;omega)|(simp_all;done)|(simp_all;omega)
  rw [hX] at hr;clear hX
  simp only [Prod.mk.injEq] at hr;obtain ⟨rfl,rfl⟩:=hr
  refine al aa [0,1,2,3,4,5] 5 rfl rfl rfl rfl rfl rfl ?_ ?_
  all_goals first|rfl|(simp [aw,aW,bh];done)|(simp [aw,aW,bh];omega)
 have hb1':=of_decide_eq_false hb1
 refine aX [0,1,4] [5,0,1,2,3,4] mixed rfl rfl ?_
 refine aD (kn:=[(9,false)]) aa 15 rfl ⟨hb1,trivial⟩ ?_
 refine aT (n':=6) [19,10] [] rfl rfl (.inl ⟨(ak.yes rfl rfl rfl),aK.cast (aM rfl rfl rfl (aL (by first|omega|(simp;done)|(simp;omega)))) rfl⟩) rfl ?_
 refine aD (kn:=[]) aa 2 rfl trivial ?_
 refine bA [5,0,1,2,3,4] rfl rfl rfl rfl (by kernel_rfl) ?_
 refine af ?_
 refine aj rfl (fun hc3=>?_) (fun hc3=>?_)
 ·
  have hc3':=of_decide_eq_true hc3
  refine ae aa 2 rfl ?_
  refine az ?_
  refine an ?_
  have hX:eF b d=(b,(⟨3,0⟩:Answer)):=by
    unfold eF;(repeat' split)<;>first|rfl|omega|(exfalso;omega)|(simp_all;done)|(simp_all;omega)
  rw [hX] at hr;clear hX
  simp only [Prod.mk.injEq] at hr;obtain ⟨rfl,rfl⟩:=hr
  refine al aa [0,1,2,3,4,5] 5 rfl rfl rfl rfl rfl rfl ?_ ?_
  all_goals first|rfl|(simp [aw,aW,bh];done)|(simp [aw,aW,bh];omega)
 have hc3':=of_decide_eq_false hc3
 refine aS ?_
 refine ag ?_
 refine aX [0,1,4] [5,0,1,2,3,4] mixed rfl rfl ?_
 refine aD (kn:=[]) aa 9 rfl trivial ?_
 refine aT (n':=6) [28,32] [] rfl rfl (.inl ⟨(ak.plain rfl),aK.cast (aM rfl rfl rfl (aL (by first|omega|(simp;done)|(simp;omega)))) rfl⟩) rfl ?_
 refine aD (kn:=[]) aa 3 rfl trivial ?_
 refine bA [5,0,1,2,3,4] rfl rfl rfl rfl (by kernel_rfl) ?_
 refine ad aa 1 rfl ?_
 refine af ?_
 refine ag ?_
 refine ae aa 6 rfl ?_
 refine aj rfl (fun hno=>by simp [hdn] at hno) (fun _=>?_)
 refine aS ?_
 refine ae aa 2 rfl ?_
 refine az ?_
 have hX:eF b d=((⟨b.time+d.sum,b.down,b.ay,b.due,b.au,b.s0,b.s1,b.n0,b.n1,b.w0,b.w1,b.bG,b.aP,b.book⟩:Bk),(⟨0,0⟩:Answer)):=by
   unfold eF;(repeat' split)<;>first|rfl|omega|(exfalso;omega)|(simp_all;done)|(simp_all;omega)
 rw [hX] at hr;clear hX
 simp only [Prod.mk.injEq] at hr;obtain ⟨rfl,rfl⟩:=hr
 refine al aa [0,1,2,3,4,5] 5 rfl rfl rfl rfl rfl rfl ?_ ?_
 all_goals first|rfl|(simp [aw,aW,bh];done)|(simp [aw,aW,bh];omega)
theorem Gc (x:Nat->Value) (hx:∀ i,(x i).oneCell'=true) (b:Bk) (d:bx) (ok:cu b) (b2:Bk) (a2:Answer) (hr:eF b d=(b2,a2)):cJ Try.prog 65 [(.c (.p 0 0 0 0)),(.c (.q (dg d) 0))] [(0,(.box 98 (aW b 1 2 3 4 (.d (.v (x 17))) (.d (.v (x 19)))))),(1,(dT b.ay)),(2,(dM b.due)),(3,(ea b.au)),(4,(cM b.aP))] [0] (.v (.g [cI a2.err,cI a2.ba])) [(0,(.box 98 (aW b2 1 2 3 4 (.d (.v (x 17))) (.d (.v (x 19)))))),(1,(dT b2.ay)),(2,(dM b2.due)),(3,(ea b2.au)),(4,(cM b2.aP))]:=by
  cases hdn:b.down
  ·exact Ew x hx b d ok hdn b2 a2 hr
  ·exact Ex x hx b d ok hdn b2 a2 hr

theorem Gi (x:Nat->Value) (hx:∀ i,(x i).oneCell'=true) (b:Bk) (d:bx) (ok:cu b) (hdn:b.down=false) (b2:Bk) (a2:Answer) (hr:dy b d=(b2,a2)):cJ Try.prog 63 [(.c (.p 0 0 0 0)),(.c (.q (dg d) 0))] [(0,(.box 98 (aW b 1 2 3 4 (.d (.v (x 17))) (.d (.v (x 19)))))),(1,(dT b.ay)),(2,(dM b.due)),(3,(ea b.au)),(4,(cM b.aP))] [0] (.v (.g [cI a2.err,cI a2.ba])) [(0,(.box 98 (aW b2 1 2 3 4 (.d (.v (x 17))) (.d (.v (x 19)))))),(1,(dT b2.ay)),(2,(dM b2.due)),(3,(ea b2.au)),(4,(cM b2.aP))]:=by
 refine cJ.mk 214 [(0,(aC (.p 0 0 0 0))),(1,(aC (.q (dg d) 0)))] 5 Try.func63 rfl rfl rfl rfl rfl rfl rfl rfl rfl ?_
 intro W0 F0 T0 pg
 obtain ⟨okt,okc,okd,oka,oky,okw0,okw1,okp,okv,okk0,okk1,okg,okl0,okl1,okp0,okp1,okn0,okn1,okq⟩:=id ok
 refine ae aa 1 rfl ?_
 refine ag ?_
 refine ag ?_
 rcases Bool.eq_false_or_eq_true (decide (d.n < 0)) with hb1|hb1
 ·
  have hb1':=of_decide_eq_true hb1
  refine aX [0,1,4] [5,0,1,2,3,4] mixed rfl rfl ?_
  refine aD (kn:=[(14,true)]) aa 38 rfl ⟨hb1,trivial⟩ ?_
  refine bA [5,0,1,2,3,4] rfl rfl rfl rfl (by kernel_rfl) ?_
  refine af ?_
  refine aj rfl (fun _=>?_) (fun hno=>by cases hno)
  refine ae aa 2 rfl ?_
  refine az ?_
  refine an ?_
  have hX:dy b d=(b,(⟨6,0⟩:Answer)):=by
    unfold dy;(try simp only [hdn,Bool.false_eq_true,if_false]);(repeat' split)<;>first|rfl|omega|(exfalso;omega)|(simp_all;done)|(simp_all;omega)
  rw [hX] at hr;clear hX
  simp only [Prod.mk.injEq] at hr;obtain ⟨rfl,rfl⟩:=hr
  refine al aa [0,1,2,3,4,5] 5 rfl rfl rfl rfl rfl rfl ?_ ?_
  all_goals first|rfl|(simp [aw,aW,bh];done)|(simp [aw,aW,bh];omega)
 have hb1':=of_decide_eq_false hb1
 rcases Bool.eq_false_or_eq_true (decide (d.n>=(↑b.ay.length:Int))) with hb3|hb3
 ·
  have hb3':=of_decide_eq_true hb3
  refine aX [0,1,4] [5,0,1,2,3,4] mixed rfl rfl ?_
  refine aD (kn:=[(14,false)]) aa 15 rfl ⟨hb1,trivial⟩ ?_
  refine aT (n':=6) [24,15] [1] rfl rfl (.inl ⟨(ak.yes rfl rfl rfl),aK.cast (dz rfl rfl rfl rfl rfl Try.underlying29) rfl⟩) rfl ?_
  refine aD (kn:=[(26,true)]) aa 22 rfl ⟨hb3,trivial⟩ ?_
  refine bA [5,0,1,2,3,4] rfl rfl rfl rfl (by kernel_rfl) ?_
  refine af ?_
  refine aj rfl (fun _=>?_) (fun hno=>by cases hno)
  refine ae aa 2 rfl ?_
  refine az ?_
  refine an ?_
  have hX:dy b d=(b,(⟨6,0⟩:Answer)):=by
    unfold dy;(try simp only [hdn,Bool.false_eq_true,if_false]);(repeat' split)<;>first|rfl|omega|(exfalso;omega)|(simp_all;done)|(simp_all;omega)
  rw [hX] at hr;clear hX
  simp only [Prod.mk.injEq] at hr;obtain ⟨rfl,rfl⟩:=hr
  refine al aa [0,1,2,3,4,5] 5 rfl rfl rfl rfl rfl rfl ?_ ?_
  all_goals first|rfl|(simp [aw,aW,bh];done)|(simp [aw,aW,bh];omega)
 have hb3':=of_decide_eq_false hb3
 rcases Bool.eq_false_or_eq_true (decide (d.aE < 0)) with hb5|hb5
 ·
  have hb5':=of_decide_eq_true hb5
  refine aX [0,1,4] [5,0,1,2,3,4] mixed rfl rfl ?_
  refine aD (kn:=[(14,false)]) aa 15 rfl ⟨hb1,trivial⟩ ?_
  refine aT (n':=6) [24,15] [1] rfl rfl (.inl ⟨(ak.yes rfl rfl rfl),aK.cast (dz rfl rfl rfl rfl rfl Try.underlying29) rfl⟩) rfl ?_
  refine aD (kn:=[(26,false),(33,true)]) aa 22 rfl ⟨hb3,hb5,trivial⟩ ?_
  refine bA [5,0,1,2,3,4] rfl rfl rfl rfl (by kernel_rfl) ?_
  refine af ?_
  refine aj rfl (fun _=>?_) (fun hno=>by cases hno)
  refine ae aa 2 rfl ?_
  refine az ?_
  refine an ?_
  have hX:dy b d=(b,(⟨6,0⟩:Answer)):=by
    unfold dy;(try simp only [hdn,Bool.false_eq_true,if_false]);(repeat' split)<;>first|rfl|omega|(exfalso;omega)|(simp_all;done)|(simp_all;omega)
  rw [hX] at hr;clear hX
  simp only [Prod.mk.injEq] at hr;obtain ⟨rfl,rfl⟩:=hr
  refine al aa [0,1,2,3,4,5] 5 rfl rfl rfl rfl rfl rfl ?_ ?_
  all_goals first|rfl|(simp [aw,aW,bh];done)|(simp [aw,aW,bh];omega)
 have hb5':=of_decide_eq_false hb5
 refine aX [0,1,4] [5,0,1,2,3,4] mixed rfl rfl ?_
 refine aD (kn:=[(14,false)]) aa 15 rfl ⟨hb1,trivial⟩ ?_
 refine aT (n':=6) [24,15] [1] rfl rfl (.inl ⟨(ak.yes rfl rfl rfl),aK.cast (dz rfl rfl rfl rfl rfl Try.underlying29) rfl⟩) rfl ?_
 refine aD (kn:=[(26,false),(33,false)]) aa 19 rfl ⟨hb3,hb5,trivial⟩ ?_
 refine aT (n':=6) [44,35] [2] rfl rfl (.inl ⟨(ak.yes rfl rfl rfl),aK.cast (dz rfl rfl rfl rfl rfl Try.underlying30) rfl⟩) rfl ?_
 refine aD (kn:=[]) aa 2 rfl trivial ?_
 refine bA [5,0,1,2,3,4] rfl rfl rfl rfl (by kernel_rfl) ?_
 refine af ?_
 refine aj rfl (fun hc7=>?_) (fun hc7=>?_)
 ·
  have hc7':=of_decide_eq_true hc7
  refine ae aa 2 rfl ?_
  refine az ?_
  refine an ?_
  have hX:dy b d=(b,(⟨6,0⟩:Answer)):=by
    unfold dy;(try simp only [hdn,Bool.false_eq_true,if_false]);(repeat' split)<;>first|rfl|omega|(exfalso;omega)|(simp_all;done)|(simp_all;omega)
  rw [hX] at hr;clear hX
  simp only [Prod.mk.injEq] at hr;obtain ⟨rfl,rfl⟩:=hr
  refine al aa [0,1,2,3,4,5] 5 rfl rfl rfl rfl rfl rfl ?_ ?_
  all_goals first|rfl|(simp [aw,aW,bh];done)|(simp [aw,aW,bh];omega)
 have hc7':=of_decide_eq_false hc7
 refine aS ?_
 refine ag ?_
 refine ae aa 5 rfl ?_
 refine aj rfl (fun hno=>absurd (hdn.symm.trans hno) (by decide)) (fun _=>?_)
 refine aS ?_
 refine ag ?_
 obtain ⟨b0,e0,hr0⟩:∃ (b0:bC) (e0:Int),dr d.n d.aE d.sum b.time=(b0,e0):=⟨_,_,rfl⟩
 refine df [0,1,4] [5,0,1,2,3,4] mixed rfl rfl ?_
 refine bT (kn:=[]) aa 17 rfl trivial ?_
 refine bW (n':=6) [123,127,131,136] [] rfl rfl (.inl ⟨(ak.plain rfl),aK.cast (cb 6 (ss d.n d.aE d.sum b.time b0 e0 hr0) FM rfl rfl ⟨⟨_,rfl,.c (.d _)⟩,⟨_,rfl,.c (.d _)⟩,⟨_,rfl,.c (.d _)⟩,⟨_,rfl,.c (.d _)⟩,trivial⟩ ⟨⟨trivial,trivial,trivial,trivial,trivial,trivial,trivial,trivial,trivial⟩,trivial,trivial⟩ trivial rfl rfl rfl rfl) rfl⟩) rfl ?_
 refine bT (n':=7) (kn:=[]) aa 6 rfl trivial ?_
 refine dU [0,1,4,7,8] [6,5,0,1,2,3,4] rfl rfl (by kernel_rfl) ?_
 refine then_ok ?_
 refine ag ?_
 refine cw 150 ((decide (e0=0)) && (decide ((↑b.au.length:Int)=30))) ?_ ?_
 ·
  refine ax ?_
  refine ad aa 3 rfl ?_
  refine bE (t:=142) rfl (fun hb9=>?_) (fun hb9=>?_)
  ·
   have hb9':=of_decide_eq_true hb9
   refine ad aa 5 rfl ?_
   refine dA (ak.yes rfl rfl rfl) (dz rfl rfl rfl rfl rfl Try.underlying31) rfl rfl ?_
   refine ad aa 2 rfl ?_
   refine af ?_
   exact aH.bD 12 rfl rfl (by first|(simp [hb9];done)|(simp_all;done)|(exfalso;simp_all;done)|(simp_all;omega)) rfl
  have hb9':=of_decide_eq_false hb9
  refine ad aa 8 rfl ?_
  refine af ?_
  exact aH.bD 12 rfl rfl (by first|(simp [hb9];done)|(simp_all;done)|(exfalso;simp_all;done)|(simp_all;omega)) rfl
 refine aj rfl (fun hc10=>?_) (fun hc10=>?_)
 ·
  have hc10':=hc10;try simp only [br,bR] at hc10'
  refine ax ?_
  refine ad aa 1 rfl ?_
  refine af ?_
  refine ag ?_
  refine aF aa 1 rfl ?_
  refine aA (aM rfl rfl rfl (show _=some (Value.bool true) from rfl)) rfl ?_
  refine af ?_
  refine aj rfl (fun _=>?_) (fun hno=>by cases hno)
  refine ae aa 3 rfl ?_
  refine az ?_
  refine an ?_
  have hX:dy b d=(b,(⟨5,0⟩:Answer)):=by
    unfold dy;(try simp only [hdn,Bool.false_eq_true,if_false,hr0]);(repeat' split)<;>first|rfl|omega|(exfalso;omega)|(simp_all;done)|(simp_all;omega)
  rw [hX] at hr;clear hX
  simp only [Prod.mk.injEq] at hr;obtain ⟨rfl,rfl⟩:=hr
  refine al aa [0,1,2,3,4,5] 5 rfl rfl rfl rfl rfl rfl ?_ ?_
  all_goals first|rfl|(simp [aw,aW,bh];done)|(simp [aw,aW,bh];omega)
 have hc10':=hc10;try simp only [br,bR] at hc10'
 refine aS ?_
 refine ag ?_
 refine ae aa 2 rfl ?_
 refine aj rfl (fun hc12=>?_) (fun hc12=>?_)
 ·
  have hc12':=of_decide_eq_true hc12
  refine ae aa 3 rfl ?_
  refine az ?_
  refine an ?_
  have hX:dy b d=(b,(⟨e0,0⟩:Answer)):=by
    unfold dy;(try simp only [hdn,Bool.false_eq_true,if_false,hr0]);(repeat' split)<;>first|rfl|omega|(exfalso;omega)|(simp_all;done)|(simp_all;omega)
  rw [hX] at hr;clear hX
  simp only [Prod.mk.injEq] at hr;obtain ⟨rfl,rfl⟩:=hr
  refine al aa [0,1,2,3,4,5] 5 rfl rfl rfl rfl rfl rfl ?_ ?_
  all_goals first|rfl|(simp [aw,aW,bh];done)|(simp [aw,aW,bh];omega)
 have hc12':=of_decide_eq_false hc12
 refine aS ?_
 refine ag ?_
 obtain ⟨x1,hx1⟩:=cf (xs:=b.ay) (i:=Int.toNat (d.n)) (by first|omega|(simp;done)|(simp;omega))
 obtain ⟨xr1,e1,hr1⟩:∃ (xr1:bI) (e1:Int),dZ x1 d.sum b.time=(xr1,e1):=⟨_,_,rfl⟩
 refine df [0,1,4,7] [6,5,0,1,2,3,4] mixed rfl rfl ?_
 refine bT (kn:=[]) aa 9 rfl trivial ?_
 refine bW (n':=7) [160,164] [1] rfl rfl (.inl ⟨(ak.plain rfl),aK.cast (bz (i:=Int.toNat (d.n)) rfl rfl rfl Try.underlying29 jq (by first|omega|(simp;done)|(simp;omega)) (by first|omega|(simp;done)|(simp;omega))) rfl⟩) rfl ?_
 refine bW (n':=7) [165] [1] rfl rfl (.inl ⟨(ak.plain rfl),aK.cast (dm rfl rfl rfl Try.underlying61 rfl jq (bp hx1) rfl) rfl⟩) rfl ?_
 refine bT (kn:=[]) aa 9 rfl trivial ?_
 refine bW (n':=7) [166,170,175] [] rfl rfl (.inl ⟨(ak.plain rfl),aK.cast (cb 7 (Fn.frozen (av':=(.t [(.g [(cI xr1.bN),(cI xr1.held),(cI xr1.cq.cQ),(cI xr1.cq.count),(cI xr1.cq.sum),(fB xr1.cY)]),(.c (cI e1))])) (wF x1 d.sum b.time xr1 e1 hr1) ⟨⟨.inl ⟨_,rfl,rfl⟩,.inl ⟨_,rfl,rfl⟩,.inl ⟨_,rfl,rfl⟩,.inl ⟨_,rfl,rfl⟩,.inl ⟨_,rfl,rfl⟩,.inr ⟨_,_,_,_,_,rfl,rfl,rfl,by simp⟩,trivial⟩,.inl ⟨_,rfl,rfl⟩,trivial⟩) HV rfl rfl ⟨⟨_,rfl,.g ⟨.d _,.d _,.d _,.d _,.d _,.d _,trivial⟩⟩,⟨_,rfl,.c (.d _)⟩,⟨_,rfl,.c (.d _)⟩,trivial⟩ ⟨⟨trivial,trivial,trivial,trivial,trivial,trivial,trivial⟩,trivial,trivial⟩ trivial rfl rfl rfl rfl) rfl⟩) rfl ?_
 refine bT (n':=8) (kn:=[]) aa 6 rfl trivial ?_
 refine dU [0,1,4,7,9,8] [7,6,5,0,1,2,3,4] rfl rfl (by kernel_rfl) ?_
 refine then_ok ?_
 refine ag ?_
 refine ae aa 2 rfl ?_
 refine aj rfl (fun hc13=>?_) (fun hc13=>?_)
 ·
  have hc13':=of_decide_eq_true hc13
  refine ae aa 3 rfl ?_
  refine az ?_
  refine an ?_
  have hX:dy b d=(b,(⟨e1,0⟩:Answer)):=by
    unfold dy;(try simp only [hdn,Bool.false_eq_true,if_false,hr0,hr1,hx1]);(repeat' split)<;>first|rfl|omega|(exfalso;omega)|(simp_all;done)|(simp_all;omega)
  rw [hX] at hr;clear hX
  simp only [Prod.mk.injEq] at hr;obtain ⟨rfl,rfl⟩:=hr
  refine al aa [0,1,2,3,4,5] 5 rfl rfl rfl rfl rfl rfl ?_ ?_
  all_goals first|rfl|(simp [aw,aW,bh];done)|(simp [aw,aW,bh];omega)
 have hc13':=of_decide_eq_false hc13
 refine aS ?_
 refine ag ?_
 refine aX [0,1,4,7,9] [7,6,5,0,1,2,3,4] mixed rfl rfl ?_
 refine aD (kn:=[]) aa 10 rfl trivial ?_
 refine aT (n':=8) [187,191] [1] rfl rfl (.inl ⟨(ak.plain rfl),aK.cast (bz (i:=Int.toNat (d.n)) rfl rfl rfl Try.underlying29 jq (by first|omega|(simp;done)|(simp;omega)) (by first|omega|(simp;done)|(simp;omega))) rfl⟩) rfl ?_
 refine bA [7,6,5,0,1,2,3,4] rfl rfl rfl rfl (by kernel_rfl) ?_
 refine gj [7,6,5,0,1,2,3,4] (dR (ds:=[(dI xr1.bN),(dI xr1.held),(dI xr1.cq.cQ),(dI xr1.cq.count),(dI xr1.cq.sum),(Ga xr1.cY)]) rfl rfl rfl rfl rfl jq rfl (Nat.le_of_ble_eq_true rfl) (bp hx1) rfl (eX (x':=xr1) rfl)) rfl ?_
 refine af ?_
 refine fN (k:=0) (q:=2) (c':=(.s 1 0 6 (((b.ay).set (Int.toNat (d.n)) xr1).length))) rfl rfl (by first|rfl|(simp;done)|(congr 1;omega)) rfl ?_
 refine ag ?_
 refine aX [0,4,7] [6,5,0,1,2,3,4] mixed rfl rfl ?_
 refine aD (kn:=[]) aa 7 rfl trivial ?_
 refine aT (n':=9) [200] [] rfl rfl (.inl ⟨(ak.plain rfl),aK.cast (dV (ys:=[(0,(.g [(cI b0.aO),(cI b0.aE),(cI b0.sum),(cI b0.captured),(cI b0.bB),(cI b0.bq),(cI b0.dc),(cB b0.shut)]))]) (rows:=([b0]).map jg) 8 sM rfl (by decide) ⟨⟨rfl,rfl⟩,trivial⟩ rfl rfl rfl rfl) rfl⟩) rfl ?_
 refine aT (n':=10) [199,201] [8,3] rfl rfl (.inl ⟨(ak.plain rfl),aK.cast (dw (m:=1) (N:=b.au.length+1) (k2:=9) (ys:=([b0]).map jg) sM rfl rfl rfl rfl rfl rfl (by first|omega|(simp;done)|(simp;omega)) rfl (.s rfl (by first|omega|(simp;done)|(simp;omega))) (by first|omega|(simp;done)|(simp;omega)) (by first|omega|(simp;done)|(simp;omega)) fz (by decide) (by first|omega|(simp;done)|(simp;omega)) (by first|omega|(simp;done)|(simp;omega))) rfl⟩) rfl ?_
 refine aD (kn:=[]) aa 3 rfl trivial ?_
 refine bA [9,6,5,0,1,2,4] rfl rfl rfl rfl (by kernel_rfl) ?_
 refine ad aa 1 rfl ?_
 refine af ?_
 refine fN (k:=0) (q:=4) (c':=(.s 9 0 8 ((b.au++([b0])).length))) rfl rfl (by first|rfl|(simp;done)|(congr 1;omega)) rfl ?_
 refine aF aa 5 rfl ?_
 refine aA (dz rfl rfl rfl rfl rfl Try.underlying31) rfl ?_
 refine aA (aM rfl rfl rfl (aL (by first|omega|(simp;done)|(simp;omega)))) rfl ?_
 refine ad aa 2 rfl ?_
 refine af ?_
 refine az ?_
 have hX:dy b d=((⟨b.time,b.down,(b.ay).set (Int.toNat (d.n)) xr1,b.due,b.au++([b0]),b.s0,b.s1,b.n0,b.n1,b.w0,b.w1,b.bG,b.aP,b.book⟩:Bk),(⟨0,(↑((b.au++([b0])).length):Int) - 1⟩:Answer)):=by
   unfold dy;(try simp only [hdn,Bool.false_eq_true,if_false,hr0,hr1,hx1]);(repeat' split)<;>first|rfl|omega|(exfalso;omega)|(simp_all;done)|(simp_all;omega)
 rw [hX] at hr;clear hX
 simp only [Prod.mk.injEq] at hr;obtain ⟨rfl,rfl⟩:=hr
 refine al aa [0,1,2,9,4,5] 5 rfl rfl rfl rfl rfl rfl ?_ ?_
 all_goals first|rfl|(simp [aw,aW,bh];done)|(simp [aw,aW,bh];omega)
theorem Gj (x:Nat->Value) (hx:∀ i,(x i).oneCell'=true) (b:Bk) (d:bx) (ok:cu b) (hdn:b.down=true) (b2:Bk) (a2:Answer) (hr:dy b d=(b2,a2)):cJ Try.prog 63 [(.c (.p 0 0 0 0)),(.c (.q (dg d) 0))] [(0,(.box 98 (aW b 1 2 3 4 (.d (.v (x 17))) (.d (.v (x 19)))))),(1,(dT b.ay)),(2,(dM b.due)),(3,(ea b.au)),(4,(cM b.aP))] [0] (.v (.g [cI a2.err,cI a2.ba])) [(0,(.box 98 (aW b2 1 2 3 4 (.d (.v (x 17))) (.d (.v (x 19)))))),(1,(dT b2.ay)),(2,(dM b2.due)),(3,(ea b2.au)),(4,(cM b2.aP))]:=by
 refine cJ.mk 214 [(0,(aC (.p 0 0 0 0))),(1,(aC (.q (dg d) 0)))] 5 Try.func63 rfl rfl rfl rfl rfl rfl rfl rfl rfl ?_
 intro W0 F0 T0 pg
 obtain ⟨okt,okc,okd,oka,oky,okw0,okw1,okp,okv,okk0,okk1,okg,okl0,okl1,okp0,okp1,okn0,okn1,okq⟩:=id ok
 refine ae aa 1 rfl ?_
 refine ag ?_
 refine ag ?_
 rcases Bool.eq_false_or_eq_true (decide (d.n < 0)) with hb1|hb1
 ·
  have hb1':=of_decide_eq_true hb1
  refine aX [0,1,4] [5,0,1,2,3,4] mixed rfl rfl ?_
  refine aD (kn:=[(14,true)]) aa 38 rfl ⟨hb1,trivial⟩ ?_
  refine bA [5,0,1,2,3,4] rfl rfl rfl rfl (by kernel_rfl) ?_
  refine af ?_
  refine aj rfl (fun _=>?_) (fun hno=>by cases hno)
  refine ae aa 2 rfl ?_
  refine az ?_
  refine an ?_
  have hX:dy b d=(b,(⟨6,0⟩:Answer)):=by
    unfold dy hP;(try simp only [hdn,if_true]);(repeat' split)<;>first|rfl|omega|(exfalso;omega)|(simp_all;done)|(simp_all;omega)
  rw [hX] at hr;clear hX
  simp only [Prod.mk.injEq] at hr;obtain ⟨rfl,rfl⟩:=hr
  refine al aa [0,1,2,3,4,5] 5 rfl rfl rfl rfl rfl rfl ?_ ?_
  all_goals first|rfl|(simp [aw,aW,bh];done)|(simp [aw,aW,bh];omega)
 have hb1':=of_decide_eq_false hb1
 rcases Bool.eq_false_or_eq_true (decide (d.n>=(↑b.ay.length:Int))) with hb3|hb3
 ·
  have hb3':=of_decide_eq_true hb3
  refine aX [0,1,4] [5,0,1,2,3,4] mixed rfl rfl ?_
  refine aD (kn:=[(14,false)]) aa 15 rfl ⟨hb1,trivial⟩ ?_
  refine aT (n':=6) [24,15] [1] rfl rfl (.inl ⟨(ak.yes rfl rfl rfl),aK.cast (dz rfl rfl rfl rfl rfl Try.underlying29) rfl⟩) rfl ?_
  refine aD (kn:=[(26,true)]) aa 22 rfl ⟨hb3,trivial⟩ ?_
  refine bA [5,0,1,2,3,4] rfl rfl rfl rfl (by kernel_rfl) ?_
  refine af ?_
  refine aj rfl (fun _=>?_) (fun hno=>by cases hno)
  refine ae aa 2 rfl ?_
  refine az ?_
  refine an ?_
  have hX:dy b d=(b,(⟨6,0⟩:Answer)):=by
    unfold dy hP;(try simp only [hdn,if_true]);(repeat' split)<;>first|rfl|omega|(exfalso;omega)|(simp_all;done)|(simp_all;omega)
  rw [hX] at hr;clear hX
  simp only [Prod.mk.injEq] at hr;obtain ⟨rfl,rfl⟩:=hr
  refine al aa [0,1,2,3,4,5] 5 rfl rfl rfl rfl rfl rfl ?_ ?_
  all_goals first|rfl|(simp [aw,aW,bh];done)|(simp [aw,aW,bh];omega)
 have hb3':=of_decide_eq_false hb3
 rcases Bool.eq_false_or_eq_true (decide (d.aE < 0)) with hb5|hb5
 ·
  have hb5':=of_decide_eq_true hb5
  refine aX [0,1,4] [5,0,1,2,3,4] mixed rfl rfl ?_
  refine aD (kn:=[(14,false)]) aa 15 rfl ⟨hb1,trivial⟩ ?_
  refine aT (n':=6) [24,15] [1] rfl rfl (.inl ⟨(ak.yes rfl rfl rfl),aK.cast (dz rfl rfl rfl rfl rfl Try.underlying29) rfl⟩) rfl ?_
  refine aD (kn:=[(26,false),(33,true)]) aa 22 rfl ⟨hb3,hb5,trivial⟩ ?_
  refine bA [5,0,1,2,3,4] rfl rfl rfl rfl (by kernel_rfl) ?_
  refine af ?_
  refine aj rfl (fun _=>?_) (fun hno=>by cases hno)
  refine ae aa 2 rfl ?_
  refine az ?_
  refine an ?_
  have hX:dy b d=(b,(⟨6,0⟩:Answer)):=by
    unfold dy hP;(try simp only [hdn,if_true]);(repeat' split)<;>first|rfl|omega|(exfalso;omega)|(simp_all;done)|(simp_all;omega)
  rw [hX] at hr;clear hX
  simp only [Prod.mk.injEq] at hr;obtain ⟨rfl,rfl⟩:=hr
  refine al aa [0,1,2,3,4,5] 5 rfl rfl rfl rfl rfl rfl ?_ ?_
  all_goals first|rfl|(simp [aw,aW,bh];done)|(simp [aw,aW,bh];omega)
 have hb5':=of_decide_eq_false hb5
 refine aX [0,1,4] [5,0,1,2,3,4] mixed rfl rfl ?_
 refine aD (kn:=[(14,false)]) aa 15 rfl ⟨hb1,trivial⟩ ?_
 refine aT (n':=6) [24,15] [1] rfl rfl (.inl ⟨(ak.yes rfl rfl rfl),aK.cast (dz rfl rfl rfl rfl rfl Try.underlying29) rfl⟩) rfl ?_
 refine aD (kn:=[(26,false),(33,false)]) aa 19 rfl ⟨hb3,hb5,trivial⟩ ?_
 refine aT (n':=6) [44,35] [2] rfl rfl (.inl ⟨(ak.yes rfl rfl rfl),aK.cast (dz rfl rfl rfl rfl rfl Try.underlying30) rfl⟩) rfl ?_
 refine aD (kn:=[]) aa 2 rfl trivial ?_
 refine bA [5,0,1,2,3,4] rfl rfl rfl rfl (by kernel_rfl) ?_
 refine af ?_
 refine aj rfl (fun hc7=>?_) (fun hc7=>?_)
 ·
  have hc7':=of_decide_eq_true hc7
  refine ae aa 2 rfl ?_
  refine az ?_
  refine an ?_
  have hX:dy b d=(b,(⟨6,0⟩:Answer)):=by
    unfold dy hP;(try simp only [hdn,if_true]);(repeat' split)<;>first|rfl|omega|(exfalso;omega)|(simp_all;done)|(simp_all;omega)
  rw [hX] at hr;clear hX
  simp only [Prod.mk.injEq] at hr;obtain ⟨rfl,rfl⟩:=hr
  refine al aa [0,1,2,3,4,5] 5 rfl rfl rfl rfl rfl rfl ?_ ?_
  all_goals first|rfl|(simp [aw,aW,bh];done)|(simp [aw,aW,bh];omega)
 have hc7':=of_decide_eq_false hc7
 refine aS ?_
 refine ag ?_
 refine ae aa 5 rfl ?_
 refine aj rfl (fun _=>?_) (fun hno=>absurd (hdn.symm.trans hno) (by decide))
 refine ag ?_
 obtain ⟨xr0,e0,hr0⟩:∃ (xr0:cC) (e0:Int),ct b.bG (⟨d.n,d.aE,d.sum,b.time⟩:ch)=(xr0,e0):=⟨_,_,rfl⟩
 have hgl:=uJ b.bG ((⟨d.n,d.aE,d.sum,b.time⟩:ch))
 rw [hr0] at hgl;dsimp only at hgl
 refine df [0,1,4] [5,0,1,2,3,4] mixed rfl rfl ?_
 refine bT (kn:=[]) aa 23 rfl trivial ?_
 refine bW (n':=6) [59,77] [] rfl rfl (.inl ⟨(ak.plain rfl),aK.cast (cb 6 (Fn.frozen (av':=(.t [(.g [(cI xr0.cap),(gM xr0.used),(iq xr0.bd)]),(.c (cI e0))])) (wA b.bG (⟨d.n,d.aE,d.sum,b.time⟩:ch) xr0 e0 hr0) ⟨⟨.inl ⟨_,rfl,rfl⟩,.inr ⟨_,_,_,_,_,rfl,rfl,rfl,by simp⟩,.inr ⟨_,_,_,_,_,rfl,rfl,rfl,by simp⟩,trivial⟩,.inl ⟨_,rfl,rfl⟩,trivial⟩) HW rfl rfl ⟨⟨_,rfl,.g ⟨.d _,.d _,.d _,trivial⟩⟩,⟨_,rfl,.g ⟨.d _,.d _,.d _,.d _,trivial⟩⟩,trivial⟩ ⟨⟨trivial,trivial,trivial,trivial⟩,trivial,trivial⟩ trivial rfl rfl rfl rfl) rfl⟩) rfl ?_
 refine bT (n':=7) (kn:=[]) aa 6 rfl trivial ?_
 refine dU [0,1,4,5,6] [6,5,0,1,2,3,4] rfl rfl (by kernel_rfl) ?_
 refine then_ok ?_
 refine ag ?_
 refine ae aa 2 rfl ?_
 refine aj rfl (fun hc9=>?_) (fun hc9=>?_)
 ·
  have hc9':=of_decide_eq_true hc9
  refine ax ?_
  refine ad aa 1 rfl ?_
  refine af ?_
  refine ag ?_
  refine ag ?_
  refine aX [0,1,4,5,6] [6,5,0,1,2,3,4] mixed rfl rfl ?_
  refine aD (kn:=[(84,false)]) aa 15 rfl ⟨rfl,trivial⟩ ?_
  refine bA [6,5,0,1,2,3,4] rfl rfl rfl rfl (by kernel_rfl) ?_
  refine af ?_
  refine aj rfl (fun hno=>by cases hno) (fun _=>?_)
  refine aS ?_
  refine ag ?_
  refine aF aa 1 rfl ?_
  refine aA (aM rfl rfl rfl (show _=some (Value.bool true) from rfl)) rfl ?_
  refine af ?_
  refine aj rfl (fun _=>?_) (fun hno=>by cases hno)
  refine ae aa 3 rfl ?_
  refine az ?_
  refine an ?_
  refine an ?_
  have hX:dy b d=(b,(⟨12,0⟩:Answer)):=by
    unfold dy hP;(try simp only [hdn,if_true,hr0]);(repeat' split)<;>first|rfl|omega|(exfalso;omega)|(simp_all;done)|(simp_all;omega)
  rw [hX] at hr;clear hX
  simp only [Prod.mk.injEq] at hr;obtain ⟨rfl,rfl⟩:=hr
  refine al aa [0,1,2,3,4,5] 5 rfl rfl rfl rfl rfl rfl ?_ ?_
  all_goals first|rfl|(simp [aw,aW,bh];done)|(simp [aw,aW,bh];omega)
 have hc9':=of_decide_eq_false hc9
 refine aS ?_
 refine ag ?_
 refine ag ?_
 rcases Bool.eq_false_or_eq_true (decide (e0=0)) with hb12|hb12
 ·
  have hb12':=of_decide_eq_true hb12
  refine aX [0,1,4,5,6] [6,5,0,1,2,3,4] mixed rfl rfl ?_
  refine aD (kn:=[(84,true)]) aa 8 rfl ⟨hb12,trivial⟩ ?_
  refine aT (n':=7) [90,85] [3] rfl rfl (.inl ⟨(ak.yes rfl rfl rfl),aK.cast (dz rfl rfl rfl rfl rfl Try.underlying31) rfl⟩) rfl ?_
  refine aD (kn:=[]) aa 2 rfl trivial ?_
  refine aT (n':=7) [93,85] [] rfl rfl (.inl ⟨(ak.yes rfl rfl rfl),aK.cast (cF rfl rfl rfl rfl rfl Try.underlying39) rfl⟩) rfl ?_
  refine aT (n':=7) [91,94,85] [] rfl rfl (.inl ⟨(ak.yes rfl rfl rfl),aK.cast (aM rfl rfl rfl (aL (by first|omega|(simp;done)|(simp;omega)))) rfl⟩) rfl ?_
  refine aD (kn:=[]) aa 2 rfl trivial ?_
  refine bA [6,5,0,1,2,3,4] rfl rfl rfl rfl (by kernel_rfl) ?_
  refine af ?_
  refine aj rfl (fun hc13=>?_) (fun hc13=>?_)
  ·
   have hc13':=of_decide_eq_true hc13
   refine ax ?_
   refine ad aa 1 rfl ?_
   refine af ?_
   refine ag ?_
   refine aF aa 1 rfl ?_
   refine aA (aM rfl rfl rfl (show _=some (Value.bool true) from rfl)) rfl ?_
   refine af ?_
   refine aj rfl (fun _=>?_) (fun hno=>by cases hno)
   refine ae aa 3 rfl ?_
   refine az ?_
   refine an ?_
   refine an ?_
   have hX:dy b d=(b,(⟨5,0⟩:Answer)):=by
     unfold dy hP;(try simp only [hdn,if_true,hr0]);(repeat' split)<;>first|rfl|omega|(exfalso;omega)|(simp_all;done)|(simp_all;omega)
   rw [hX] at hr;clear hX
   simp only [Prod.mk.injEq] at hr;obtain ⟨rfl,rfl⟩:=hr
   refine al aa [0,1,2,3,4,5] 5 rfl rfl rfl rfl rfl rfl ?_ ?_
   all_goals first|rfl|(simp [aw,aW,bh];done)|(simp [aw,aW,bh];omega)
  have hc13':=of_decide_eq_false hc13
  refine aS ?_
  refine ag ?_
  refine ae aa 2 rfl ?_
  refine aj rfl (fun hc15=>?_) (fun hc15=>?_)
  ·
   have hc15':=of_decide_eq_true hc15
   refine ae aa 3 rfl ?_
   refine az ?_
   refine an ?_
   refine an ?_
   have hX:dy b d=(b,(⟨e0,0⟩:Answer)):=by
     unfold dy hP;(try simp only [hdn,if_true,hr0]);(repeat' split)<;>first|rfl|omega|(exfalso;omega)|(simp_all;done)|(simp_all;omega)
   rw [hX] at hr;clear hX
   simp only [Prod.mk.injEq] at hr;obtain ⟨rfl,rfl⟩:=hr
   refine al aa [0,1,2,3,4,5] 5 rfl rfl rfl rfl rfl rfl ?_ ?_
   all_goals first|rfl|(simp [aw,aW,bh];done)|(simp [aw,aW,bh];omega)
  have hc15':=of_decide_eq_false hc15
  refine aS ?_
  refine ae aa 6 rfl ?_
  refine ag ?_
  refine aX [0,1,4,5] [6,5,0,1,2,3,4] mixed rfl rfl ?_
  refine aD (kn:=[]) aa 5 rfl trivial ?_
  refine aT (n':=7) [111] [3] rfl rfl (.inl ⟨(ak.plain rfl),aK.cast (dz rfl rfl rfl rfl rfl Try.underlying31) rfl⟩) rfl ?_
  refine aD (kn:=[]) aa 2 rfl trivial ?_
  refine aT (n':=7) [114] [] rfl rfl (.inl ⟨(ak.plain rfl),aK.cast (cF rfl rfl rfl rfl rfl Try.underlying39) rfl⟩) rfl ?_
  refine aT (n':=7) [112,115] [] rfl rfl (.inl ⟨(ak.plain rfl),aK.cast (aM rfl rfl rfl (aL (by first|omega|(simp;done)|(simp;omega)))) rfl⟩) rfl ?_
  refine aT (n':=7) [116] [] rfl rfl (.inl ⟨(ak.plain rfl),aK.cast (aM rfl rfl rfl (aL (by first|omega|(simp;done)|(simp;omega)))) rfl⟩) rfl ?_
  refine aD (kn:=[]) aa 1 rfl trivial ?_
  refine bA [6,5,0,1,2,3,4] rfl rfl rfl rfl (by kernel_rfl) ?_
  refine ad aa 1 rfl ?_
  refine af ?_
  refine az ?_
  refine an ?_
  have hX:dy b d=((⟨b.time,b.down,b.ay,b.due,b.au,b.s0,b.s1,b.n0,b.n1,b.w0,b.w1,xr0,b.aP,b.book⟩:Bk),(⟨0,((↑b.au.length:Int)+(↑xr0.bd.length:Int)) - 1⟩:Answer)):=by
    unfold dy hP;(try simp only [hdn,if_true,hr0]);(repeat' split)<;>first|rfl|omega|(exfalso;omega)|(simp_all;done)|(simp_all;omega)
  rw [hX] at hr;clear hX
  simp only [Prod.mk.injEq] at hr;obtain ⟨rfl,rfl⟩:=hr
  refine al aa [0,1,2,3,4,5] 5 rfl rfl rfl rfl rfl rfl ?_ ?_
  all_goals first|rfl|(simp [aw,aW,bh];done)|(simp [aw,aW,bh];omega)
 have hb12':=of_decide_eq_false hb12
 refine aX [0,1,4,5,6] [6,5,0,1,2,3,4] mixed rfl rfl ?_
 refine aD (kn:=[(84,false)]) aa 15 rfl ⟨hb12,trivial⟩ ?_
 refine bA [6,5,0,1,2,3,4] rfl rfl rfl rfl (by kernel_rfl) ?_
 refine af ?_
 refine aj rfl (fun hno=>by cases hno) (fun _=>?_)
 refine aS ?_
 refine ag ?_
 refine ae aa 2 rfl ?_
 refine aj rfl (fun hc17=>?_) (fun hc17=>?_)
 ·
  have hc17':=of_decide_eq_true hc17
  refine ae aa 3 rfl ?_
  refine az ?_
  refine an ?_
  refine an ?_
  have hX:dy b d=(b,(⟨e0,0⟩:Answer)):=by
    unfold dy hP;(try simp only [hdn,if_true,hr0]);(repeat' split)<;>first|rfl|omega|(exfalso;omega)|(simp_all;done)|(simp_all;omega)
  rw [hX] at hr;clear hX
  simp only [Prod.mk.injEq] at hr;obtain ⟨rfl,rfl⟩:=hr
  refine al aa [0,1,2,3,4,5] 5 rfl rfl rfl rfl rfl rfl ?_ ?_
  all_goals first|rfl|(simp [aw,aW,bh];done)|(simp [aw,aW,bh];omega)
 have hc17':=of_decide_eq_false hc17
 refine aS ?_
 refine ae aa 6 rfl ?_
 refine ag ?_
 refine aX [0,1,4,5] [6,5,0,1,2,3,4] mixed rfl rfl ?_
 refine aD (kn:=[]) aa 5 rfl trivial ?_
 refine aT (n':=7) [111] [3] rfl rfl (.inl ⟨(ak.plain rfl),aK.cast (dz rfl rfl rfl rfl rfl Try.underlying31) rfl⟩) rfl ?_
 refine aD (kn:=[]) aa 2 rfl trivial ?_
 refine aT (n':=7) [114] [] rfl rfl (.inl ⟨(ak.plain rfl),aK.cast (cF rfl rfl rfl rfl rfl Try.underlying39) rfl⟩) rfl ?_
 refine aT (n':=7) [112,115] [] rfl rfl (.inl ⟨(ak.plain rfl),aK.cast (aM rfl rfl rfl (aL (by first|omega|(simp;done)|(simp;omega)))) rfl⟩) rfl ?_
 refine aT (n':=7) [116] [] rfl rfl (.inl ⟨(ak.plain rfl),aK.cast (aM rfl rfl rfl (aL (by first|omega|(simp;done)|(simp;omega)))) rfl⟩) rfl ?_
 refine aD (kn:=[]) aa 1 rfl trivial ?_
 refine bA [6,5,0,1,2,3,4] rfl rfl rfl rfl (by kernel_rfl) ?_
 refine ad aa 1 rfl ?_
 refine af ?_
 refine az ?_
 refine an ?_
 have hX:dy b d=((⟨b.time,b.down,b.ay,b.due,b.au,b.s0,b.s1,b.n0,b.n1,b.w0,b.w1,xr0,b.aP,b.book⟩:Bk),(⟨0,((↑b.au.length:Int)+(↑xr0.bd.length:Int)) - 1⟩:Answer)):=by
   unfold dy hP;(try simp only [hdn,if_true,hr0]);(repeat' split)<;>first|rfl|omega|(exfalso;omega)|(simp_all;done)|(simp_all;omega)
 rw [hX] at hr;clear hX
 simp only [Prod.mk.injEq] at hr;obtain ⟨rfl,rfl⟩:=hr
 refine al aa [0,1,2,3,4,5] 5 rfl rfl rfl rfl rfl rfl ?_ ?_
 all_goals first|rfl|(simp [aw,aW,bh];done)|(simp [aw,aW,bh];omega)
theorem Hm (x:Nat->Value) (hx:∀ i,(x i).oneCell'=true) (b:Bk) (d:bx) (ok:cu b) (b2:Bk) (a2:Answer) (hr:dy b d=(b2,a2)):cJ Try.prog 63 [(.c (.p 0 0 0 0)),(.c (.q (dg d) 0))] [(0,(.box 98 (aW b 1 2 3 4 (.d (.v (x 17))) (.d (.v (x 19)))))),(1,(dT b.ay)),(2,(dM b.due)),(3,(ea b.au)),(4,(cM b.aP))] [0] (.v (.g [cI a2.err,cI a2.ba])) [(0,(.box 98 (aW b2 1 2 3 4 (.d (.v (x 17))) (.d (.v (x 19)))))),(1,(dT b2.ay)),(2,(dM b2.due)),(3,(ea b2.au)),(4,(cM b2.aP))]:=by
  cases hdn:b.down
  ·exact Gi x hx b d ok hdn b2 a2 hr
  ·exact Gj x hx b d ok hdn b2 a2 hr

theorem Bn (x:Nat->Value) (hx:∀ i,(x i).oneCell'=true) (b:Bk) (d:bx) (ok:cu b) (hdn:b.down=false) (b2:Bk) (a2:Answer) (hr:dh b d=(b2,a2)):cJ Try.prog 64 [(.c (.p 0 0 0 0)),(.c (.q (dg d) 0))] [(0,(.box 98 (aW b 1 2 3 4 (.d (.v (x 17))) (.d (.v (x 19)))))),(1,(dT b.ay)),(2,(dM b.due)),(3,(ea b.au)),(4,(cM b.aP))] [0] (.v (.g [cI a2.err,cI a2.ba])) [(0,(.box 98 (aW b2 1 2 3 4 (.d (.v (x 17))) (.d (.v (x 19)))))),(1,(dT b2.ay)),(2,(dM b2.due)),(3,(ea b2.au)),(4,(cM b2.aP))]:=by
 refine cJ.mk 246 [(0,(aC (.p 0 0 0 0))),(1,(aC (.q (dg d) 0)))] 5 Try.func64 rfl rfl rfl rfl rfl rfl rfl rfl rfl ?_
 intro W0 F0 T0 pg
 obtain ⟨okt,okc,okd,oka,oky,okw0,okw1,okp,okv,okk0,okk1,okg,okl0,okl1,okp0,okp1,okn0,okn1,okq⟩:=id ok
 refine ae aa 1 rfl ?_
 refine ag ?_
 refine ae aa 5 rfl ?_
 refine aj rfl (fun hno=>absurd (hdn.symm.trans hno) (by decide)) (fun _=>?_)
 refine aS ?_
 refine ag ?_
 refine ag ?_
 rcases Bool.eq_false_or_eq_true (decide (d.n < 0)) with hb2|hb2
 ·
  have hb2':=of_decide_eq_true hb2
  refine aX [0,1,4] [5,0,1,2,3,4] mixed rfl rfl ?_
  refine aD (kn:=[(22,true)]) aa 18 rfl ⟨hb2,trivial⟩ ?_
  refine bA [5,0,1,2,3,4] rfl rfl rfl rfl (by kernel_rfl) ?_
  refine af ?_
  refine aj rfl (fun _=>?_) (fun hno=>by cases hno)
  refine ae aa 2 rfl ?_
  refine az ?_
  refine an ?_
  have hX:dh b d=(b,(⟨6,0⟩:Answer)):=by
    unfold dh;simp only [hdn,Bool.false_eq_true,if_false];(repeat' split)<;>first|rfl|omega|(exfalso;omega)|(simp_all;done)|(simp_all;omega)
  rw [hX] at hr;clear hX
  simp only [Prod.mk.injEq] at hr;obtain ⟨rfl,rfl⟩:=hr
  refine al aa [0,1,2,3,4,5] 5 rfl rfl rfl rfl rfl rfl ?_ ?_
  all_goals first|rfl|(simp [aw,aW,bh];done)|(simp [aw,aW,bh];omega)
 have hb2':=of_decide_eq_false hb2
 refine aX [0,1,4] [5,0,1,2,3,4] mixed rfl rfl ?_
 refine aD (kn:=[(22,false)]) aa 15 rfl ⟨hb2,trivial⟩ ?_
 refine aT (n':=6) [32,23] [3] rfl rfl (.inl ⟨(ak.yes rfl rfl rfl),aK.cast (dz rfl rfl rfl rfl rfl Try.underlying31) rfl⟩) rfl ?_
 refine aD (kn:=[]) aa 2 rfl trivial ?_
 refine bA [5,0,1,2,3,4] rfl rfl rfl rfl (by kernel_rfl) ?_
 refine af ?_
 refine aj rfl (fun hc4=>?_) (fun hc4=>?_)
 ·
  have hc4':=of_decide_eq_true hc4
  refine ae aa 2 rfl ?_
  refine az ?_
  refine an ?_
  have hX:dh b d=(b,(⟨6,0⟩:Answer)):=by
    unfold dh;simp only [hdn,Bool.false_eq_true,if_false];(repeat' split)<;>first|rfl|omega|(exfalso;omega)|(simp_all;done)|(simp_all;omega)
  rw [hX] at hr;clear hX
  simp only [Prod.mk.injEq] at hr;obtain ⟨rfl,rfl⟩:=hr
  refine al aa [0,1,2,3,4,5] 5 rfl rfl rfl rfl rfl rfl ?_ ?_
  all_goals first|rfl|(simp [aw,aW,bh];done)|(simp [aw,aW,bh];omega)
 have hc4':=of_decide_eq_false hc4
 refine aS ?_
 refine ag ?_
 obtain ⟨x1,hx1⟩:=cf (xs:=b.au) (i:=Int.toNat (d.n)) (by first|omega|(simp;done)|(simp;omega))
 refine aX [0,1,4] [5,0,1,2,3,4] mixed rfl rfl ?_
 refine aD (kn:=[]) aa 9 rfl trivial ?_
 refine aT (n':=6) [41,45] [3] rfl rfl (.inl ⟨(ak.plain rfl),aK.cast (bz (i:=Int.toNat (d.n)) rfl rfl rfl Try.underlying31 lS (by first|omega|(simp;done)|(simp;omega)) (by first|omega|(simp;done)|(simp;omega))) rfl⟩) rfl ?_
 refine aT (n':=6) [46] [3] rfl rfl (.inl ⟨(ak.plain rfl),aK.cast (dm rfl rfl rfl Try.underlying67 rfl lS (bp hx1) rfl) rfl⟩) rfl ?_
 refine aD (n':=7) (kn:=[]) aa 1 rfl trivial ?_
 refine bA [6,5,0,1,2,3,4] rfl rfl rfl rfl (by kernel_rfl) ?_
 refine ad aa 1 rfl ?_
 refine af ?_
 refine ag ?_
 obtain ⟨b0,e0,hr0⟩:∃ (b0:bC) (e0:Int),ck x1 d.move d.sum=(b0,e0):=⟨_,_,rfl⟩
 refine df [0,1,4,5] [6,5,0,1,2,3,4] mixed rfl rfl ?_
 refine bT (kn:=[]) aa 9 rfl trivial ?_
 refine bW (n':=7) [49,53,57] [] rfl rfl (.inl ⟨(ak.plain rfl),aK.cast (cb 7 (xx x1 d.move d.sum b0 e0 hr0) HU rfl rfl ⟨⟨_,rfl,.g ⟨.d _,.d _,.d _,.d _,.d _,.d _,.d _,.d _,trivial⟩⟩,⟨_,rfl,.c (.d _)⟩,⟨_,rfl,.c (.d _)⟩,trivial⟩ ⟨⟨trivial,trivial,trivial,trivial,trivial,trivial,trivial,trivial,trivial⟩,trivial,trivial⟩ trivial rfl rfl rfl rfl) rfl⟩) rfl ?_
 refine bT (n':=8) (kn:=[]) aa 6 rfl trivial ?_
 refine dU [0,1,4,5,6,7] [7,6,5,0,1,2,3,4] rfl rfl (by kernel_rfl) ?_
 refine then_ok ?_
 refine ag ?_
 refine ae aa 2 rfl ?_
 refine aj rfl (fun hc5=>?_) (fun hc5=>?_)
 ·
  have hc5':=of_decide_eq_true hc5
  refine ae aa 3 rfl ?_
  refine az ?_
  refine an ?_
  have hX:dh b d=(b,(⟨e0,0⟩:Answer)):=by
    unfold dh;simp only [hdn,Bool.false_eq_true,if_false];rw [if_neg (by omega),hx1];dsimp only;simp only [hr0];(repeat' split)<;>first|rfl|omega|(exfalso;omega)|(simp_all;done)|(simp_all;omega)
  rw [hX] at hr;clear hX
  simp only [Prod.mk.injEq] at hr;obtain ⟨rfl,rfl⟩:=hr
  refine al aa [0,1,2,3,4,5] 5 rfl rfl rfl rfl rfl rfl ?_ ?_
  all_goals first|rfl|(simp [aw,aW,bh];done)|(simp [aw,aW,bh];omega)
 have hc5':=of_decide_eq_false hc5
 refine aS ?_
 obtain ⟨mw1,mw2,mc,ms,mk1,mk2,mn1,mn2⟩:=kQ (show ck x1 d.move d.sum=(b0,0) by rw [hr0];congr 1;omega)
 have hoP:=okp x1 (List.mem_of_getElem? hx1)
 have hI0:∀ t∈b.s0.kept,fj t.number:=fun t ht=>(okk0 t ht).1
 have hI1:∀ t∈b.s1.kept,fj t.number:=fun t ht=>(okk1 t ht).1
 refine aF aa 1 rfl ?_
 refine aQ 17 [0,8,9,10,11,12,13,14,15,16,7,6,5] (cL id (bf [0,8,9,10,11,12,13,14,15,16]) (kK (x 17) (x 19) b (by first|omega|(simp;done)|(simp;omega)) (by first|omega|(simp;done)|(simp;omega)) (by first|omega|(simp;done)|(simp;omega)) (by first|omega|(simp;done)|(simp;omega))) ra rfl rfl ⟨⟨_,rfl,.inl ⟨rfl,rfl⟩⟩,trivial⟩ ⟨rfl,rfl,rfl,rfl,rfl,trivial⟩ rfl rfl rfl rfl rfl rfl trivial ⟨⟨trivial,trivial,trivial,trivial,trivial,trivial,trivial,trivial,trivial,trivial,trivial,trivial,trivial,trivial,trivial,trivial,trivial,trivial,trivial,trivial,trivial⟩,⟨trivial,trivial,trivial,trivial,trivial,trivial,trivial,trivial,trivial,trivial,trivial,trivial,trivial,trivial,trivial,trivial,trivial,trivial,trivial,trivial,trivial⟩,(fun _ _ _ _=>trivial),(fun _ _ _ _=>trivial),(fun _ _ _ _=>trivial),(fun _ _ _ _=>trivial),(fun _ _ _ _=>trivial),(fun _ _ _ _=>trivial),(fun _ _ _ _=>trivial),(fun _ _ _ _=>trivial),trivial⟩ rfl rfl rfl rfl) rfl ?_
 refine ad aa 1 rfl ?_
 refine af ?_
 refine ag ?_
 obtain ⟨e1,hr1⟩:∃ (e1:Int),bQ b0=e1:=⟨_,rfl⟩
 have hhb1:=oT (show bL b0=0 by assumption)
 rw [hr1] at hhb1
 obtain ⟨e2,hr2⟩:∃ (e2:Int),bQ x1=e2:=⟨_,rfl⟩
 have hhb2:=oT (show bL x1=0 by assumption)
 rw [hr2] at hhb2
 refine aX [0,1,4,5,6,8] [0,8,9,10,11,12,13,14,15,16,7,6,5] mixed rfl rfl ?_
 refine aD (kn:=[]) aa 1 rfl trivial ?_
 refine aT (n':=17) [67] [] rfl rfl (.inl ⟨(ak.plain rfl),aK.cast (cb 17 (kS b0 (by first|assumption|omega|rfl|decide) e1 hr1) zl rfl rfl ⟨⟨_,rfl,.g ⟨.d _,.d _,.d _,.d _,.d _,.d _,.d _,.d _,trivial⟩⟩,trivial⟩ trivial trivial rfl rfl rfl rfl) rfl⟩) rfl ?_
 refine aD (kn:=[]) aa 1 rfl trivial ?_
 refine aT (n':=17) [69] [] rfl rfl (.inl ⟨(ak.plain rfl),aK.cast (cb 17 (kS x1 (by first|assumption|omega|rfl|decide) e2 hr2) zl rfl rfl ⟨⟨_,rfl,.g ⟨.d _,.d _,.d _,.d _,.d _,.d _,.d _,.d _,trivial⟩⟩,trivial⟩ trivial trivial rfl rfl rfl rfl) rfl⟩) rfl ?_
 refine aT (n':=17) [68,70] [] rfl rfl (.inl ⟨(ak.plain rfl),aK.cast (aM rfl rfl rfl (aL (by first|omega|(simp;done)|(simp;omega)))) rfl⟩) rfl ?_
 refine aD (kn:=[]) aa 1 rfl trivial ?_
 refine bA [0,8,9,10,11,12,13,14,15,16,7,6,5] rfl rfl rfl rfl (by kernel_rfl) ?_
 refine af ?_
 refine ag ?_
 refine wX (J:=⟨[(0,(aC (.p 0 0 0 0))),(1,(aC (.q (dg d) 0))),(4,(aC (.p 5 0 0 0))),(6,(aC (.p 7 0 0 0))),(8,(aC (.p 8 0 0 0))),(9,(aI (e1 - e2))),(93,(aB (decide (d.move=1/\d.sum > lj b.ay b0.aO))))],[(0,(.box 98 (aW b 9 10 11 12 (.d (.v (x 17))) (.d (.v (x 19)))))),(8,(.box 147 (aW b 13 14 15 16 (.d (.v (x 17))) (cI 0)))),(9,(dT b.ay)),(10,(dM b.due)),(11,(ea b.au)),(12,(cM b.aP)),(13,(dT b.ay)),(14,(dM b.due)),(15,(ea b.au)),(16,(cM b.aP)),(7,(.box 67 [(cI b0.aO),(cI b0.aE),(cI b0.sum),(cI b0.captured),(cI b0.bB),(cI b0.bq),(cI b0.dc),(cB b0.shut)])),(5,(.box 65 [(cI 0),(cI 0)]))],17⟩) ?_ ?_
 ·
  rcases Bool.eq_false_or_eq_true (decide (d.move=1)) with hb6|hb6
  ·
   have hb6':=of_decide_eq_true hb6
   obtain ⟨x2,hx2⟩:=cf (xs:=b.ay) (i:=Int.toNat (b0.aO)) (by first|omega|(simp;done)|(simp;omega))
   have hx2g:=BG (okg x2 (List.mem_of_getElem? hx2))
   refine aX [0,1,4,6,8,9] [0,8,9,10,11,12,13,14,15,16,7,5] mixed rfl rfl ?_
   refine aD (kn:=[(76,true)]) aa 17 rfl ⟨hb6,trivial⟩ ?_
   refine aT (n':=17) [86,88,77] [13] rfl rfl (.inl ⟨(ak.yes rfl rfl rfl),aK.cast (bz (i:=Int.toNat (b0.aO)) rfl rfl rfl Try.underlying29 jq (by first|omega|(simp;done)|(simp;omega)) (by first|omega|(simp;done)|(simp;omega))) rfl⟩) rfl ?_
   refine aT (n':=17) [89,77] [13] rfl rfl (.inl ⟨(ak.yes rfl rfl rfl),aK.cast (dm rfl rfl rfl Try.underlying61 rfl jq (bp hx2) rfl) rfl⟩) rfl ?_
   refine aT (n':=17) [90,77] [] rfl rfl (.inl ⟨(ak.yes rfl rfl rfl),aK.cast (cb 17 (qx x2 (by first|assumption|omega|(constructor<;>decide)|(have hz:=jv (by first|assumption|omega);omega))) FY rfl rfl ⟨⟨_,rfl,.g ⟨.d _,.d _,.d _,.d _,.d _,.d _,trivial⟩⟩,trivial⟩ trivial trivial rfl rfl rfl rfl) rfl⟩) rfl ?_
   refine aD (kn:=[]) aa 2 rfl trivial ?_
   refine bA [0,8,9,10,11,12,13,14,15,16,7,5] rfl rfl rfl rfl (by kernel_rfl) ?_
   refine af ?_
   rw [show (decide (d.move=1/\d.sum > lj b.ay b0.aO))=(decide (d.sum > (x2.bN - x2.held))) by (unfold lj;rw [hx2];dsimp only;first|(simp_all;done)|(simp_all;omega))]
   exact aH.ca id (⟨rfl,rfl,rfl,rfl,rfl,rfl,rfl,trivial⟩) (⟨rfl,rfl,rfl,rfl,rfl,rfl,rfl,rfl,rfl,rfl,rfl,rfl,trivial⟩) rfl
  have hb6':=of_decide_eq_false hb6
  refine aX [0,1,4,6,8,9] [0,8,9,10,11,12,13,14,15,16,7,5] mixed rfl rfl ?_
  refine aD (kn:=[(76,false)]) aa 22 rfl ⟨hb6,trivial⟩ ?_
  refine bA [0,8,9,10,11,12,13,14,15,16,7,5] rfl rfl rfl rfl (by kernel_rfl) ?_
  refine af ?_
  rw [show (decide (d.move=1/\d.sum > lj b.ay b0.aO))=(false) by (unfold lj;first|(simp_all;done)|(simp_all;omega))]
  exact aH.ca id (⟨rfl,rfl,rfl,rfl,rfl,rfl,rfl,trivial⟩) (⟨rfl,rfl,rfl,rfl,rfl,rfl,rfl,rfl,rfl,rfl,rfl,rfl,trivial⟩) rfl
 refine aj rfl (fun hc7=>?_) (fun hc7=>?_)
 ·
  have hc7':=of_decide_eq_true hc7
  refine ae aa 2 rfl ?_
  refine az ?_
  refine an ?_
  have hX:dh b d=(b,(⟨10,0⟩:Answer)):=by
    unfold dh;simp only [hdn,Bool.false_eq_true,if_false];rw [if_neg (by omega),hx1];dsimp only;simp only [hr0];(repeat' split)<;>first|rfl|omega|(exfalso;omega)|(simp_all;done)|(simp_all;omega)
  rw [hX] at hr;clear hX
  simp only [Prod.mk.injEq] at hr;obtain ⟨rfl,rfl⟩:=hr
  refine al aa [0,9,10,11,12,5] 5 rfl rfl rfl rfl rfl rfl ?_ ?_
  all_goals first|rfl|(simp [aw,aW,bh];done)|(simp [aw,aW,bh];omega)
 have hc7':=of_decide_eq_false hc7
 refine aS ?_
 refine ag ?_
 refine aX [0,1,4,6,8,9] [0,8,9,10,11,12,13,14,15,16,7,5] mixed rfl rfl ?_
 refine aD (kn:=[]) aa 2 rfl trivial ?_
 refine aT (n':=17) [96] [] rfl rfl (.inl ⟨(ak.plain rfl),aK.cast (aM rfl rfl rfl (aL (by first|omega|(simp;done)|(simp;omega)))) rfl⟩) rfl ?_
 refine aD (n':=18) (kn:=[]) aa 11 rfl trivial ?_
 refine bA [17,0,8,9,10,11,12,13,14,15,16,7,5] rfl rfl rfl rfl (by kernel_rfl) ?_
 refine ad aa 1 rfl ?_
 refine af ?_
 obtain ⟨jcards,jdue,jbook,js0,js1,je,hj⟩:∃ (jcards:List bI) (jdue:List Int) (jbook:List Entry) (js0:bY) (js1:bY) (je:Int),ec b b0 x1 d=(jcards,jdue,jbook,js0,js1,je):=⟨_,_,_,_,_,_,rfl⟩
 have hj0:=hj
 refine wX (J:=⟨[(0,(aC (.p 0 0 0 0))),(1,(aC (.q (dg d) 0))),(4,(aC (.p 5 0 0 0))),(6,(aC (.p 7 0 0 0))),(8,(aC (.p 8 0 0 0)))],[(0,(.box 98 (aW b 9 10 11 12 (.d (.v (x 17))) (.d (.v (x 19)))))),(8,(.box 147 ((((((((aW b 13 14 15 16 (.d (.v (x 17))) (cI je)).set 2 (.s 13 0 6 jcards.length)).set 3 (.s 14 0 1 jdue.length)).set 5 (cI js0.bX)).set 6 (dj js0.kept)).set 7 (cI js1.bX)).set 8 (dj js1.kept)).set 18 (dW jbook)))),(9,(dT b.ay)),(10,(dM b.due)),(11,(ea b.au)),(12,(cM b.aP)),(13,(dT jcards)),(14,(dM jdue)),(15,(ea b.au)),(16,(cM b.aP)),(7,(.box 67 [(cI b0.aO),(cI b0.aE),(cI b0.sum),(cI b0.captured),(cI b0.bB),(cI b0.bq),(cI b0.dc),(cB b0.shut)])),(5,(.box 65 [(cI 0),(cI 0)]))],17⟩) ?_ ?_
 ·
  refine ae aa 4 rfl ?_
  refine aY ?_
  refine ag ?_
  refine ae aa 2 rfl ?_
  refine aj rfl (fun hc8=>?_) (fun hc8=>?_)
  ·
   have hc8':=of_decide_eq_true hc8
   refine aS ?_
   refine aj rfl (fun _=>?_) (fun hno=>absurd (hc8.symm.trans hno) (by decide))
   refine ax ?_
   refine ad aa 4 rfl ?_
   obtain ⟨l23,e23,hr3⟩:∃ (l23:List bI) (e23:Int),cH b.ay 0 b0.aO (e1 - e2) 0=(l23,e23):=⟨_,_,rfl⟩
   refine aQ 19 [8,18,17,0,9,10,11,12,14,15,16,7,5] (cr (bf [8,13]) (bf [8,18]) (ms:=((dE.set 2 (some (.s 1 0 6 b.ay.length))).set 19 (some (cI 0)))) (ms':=((dE.set 2 (some (.s 1 0 6 l23.length))).set 19 (some (cI e23)))) (fun x hx=>jj x hx b.ay 0 b0.aO (e1 - e2) 0 (by first|omega|(simp;done)|(simp;omega)) l23 e23 hr3) nJ rfl rfl ⟨⟨_,rfl,.inl ⟨rfl,rfl⟩⟩,⟨_,rfl,.inr (.c (.d _))⟩,⟨_,rfl,.inr (.c (.d _))⟩,⟨_,rfl,.inr (.c (.d _))⟩,trivial⟩ rfl rfl rfl rfl rfl rfl rfl ⟨rfl,trivial⟩ rfl rfl rfl rfl rfl rfl rfl rfl rfl rfl rfl rfl rfl) rfl ?_
   refine bZ ?_
   refine bm ?_
   refine then_ok ?_
   have hX:ec b b0 x1 d=(l23,b.due,b.book,b.s0,b.s1,e23):=by
     unfold ec;(try simp only [hr1,hr2,hr3]);(repeat' split)<;>first|rfl|omega|(exfalso;omega)|(simp_all;done)|(simp_all;omega)
   rw [hX] at hj;clear hX;simp only [Prod.mk.injEq] at hj;obtain ⟨rfl,rfl,rfl,rfl,rfl,rfl⟩:=hj
   exact aH.ca (fun k=>if k=13 then 18 else k) (by refine ⟨?_,?_,?_,?_,?_,trivial⟩<;>first|rfl|(simp only [bu];done)|(congr 3;omega)|(congr 4;omega)|(simp only [bw];rfl)) (by refine ⟨?_,?_,?_,?_,?_,?_,?_,?_,?_,?_,?_,?_,trivial⟩<;>first|rfl|(simp only [bu];done)|(congr 3;omega)|(congr 4;omega)|(simp only [bw];rfl)) rfl
  have hc8':=of_decide_eq_false hc8
  refine ax ?_
  refine ad aa 2 rfl ?_
  refine af ?_
  refine aj rfl (fun hc10=>?_) (fun hc10=>?_)
  ·
   have hc10':=of_decide_eq_true hc10
   refine ax ?_
   refine ad aa 4 rfl ?_
   obtain ⟨l24,e24,hr4⟩:∃ (l24:List bI) (e24:Int),cH b.ay 0 b0.aO (e1 - e2) 0=(l24,e24):=⟨_,_,rfl⟩
   refine aQ 19 [8,18,17,0,9,10,11,12,14,15,16,7,5] (cr (bf [8,13]) (bf [8,18]) (ms:=((dE.set 2 (some (.s 1 0 6 b.ay.length))).set 19 (some (cI 0)))) (ms':=((dE.set 2 (some (.s 1 0 6 l24.length))).set 19 (some (cI e24)))) (fun x hx=>jj x hx b.ay 0 b0.aO (e1 - e2) 0 (by first|omega|(simp;done)|(simp;omega)) l24 e24 hr4) nJ rfl rfl ⟨⟨_,rfl,.inl ⟨rfl,rfl⟩⟩,⟨_,rfl,.inr (.c (.d _))⟩,⟨_,rfl,.inr (.c (.d _))⟩,⟨_,rfl,.inr (.c (.d _))⟩,trivial⟩ rfl rfl rfl rfl rfl rfl rfl ⟨rfl,trivial⟩ rfl rfl rfl rfl rfl rfl rfl rfl rfl rfl rfl rfl rfl) rfl ?_
   refine bZ ?_
   refine bm ?_
   refine then_ok ?_
   have hX:ec b b0 x1 d=(l24,b.due,b.book,b.s0,b.s1,e24):=by
     unfold ec;(try simp only [hr1,hr2,hr4]);(repeat' split)<;>first|rfl|omega|(exfalso;omega)|(simp_all;done)|(simp_all;omega)
   rw [hX] at hj;clear hX;simp only [Prod.mk.injEq] at hj;obtain ⟨rfl,rfl,rfl,rfl,rfl,rfl⟩:=hj
   exact aH.ca (fun k=>if k=13 then 18 else k) (by refine ⟨?_,?_,?_,?_,?_,trivial⟩<;>first|rfl|(simp only [bu];done)|(congr 3;omega)|(congr 4;omega)|(simp only [bw];rfl)) (by refine ⟨?_,?_,?_,?_,?_,?_,?_,?_,?_,?_,?_,?_,trivial⟩<;>first|rfl|(simp only [bu];done)|(congr 3;omega)|(congr 4;omega)|(simp only [bw];rfl)) rfl
  have hc10':=of_decide_eq_false hc10
  refine ag ?_
  refine ae aa 2 rfl ?_
  refine aj rfl (fun hc11=>?_) (fun hc11=>?_)
  ·
   have hc11':=of_decide_eq_true hc11
   refine aS ?_
   refine aj rfl (fun _=>?_) (fun hno=>absurd (hc11.symm.trans hno) (by decide))
   refine ag ?_
   obtain ⟨l25,e25,hr5⟩:∃ (l25:List bI) (e25:Int),cH b.ay 0 b0.aO (e1 - e2) (0 - d.sum)=(l25,e25):=⟨_,_,rfl⟩
   refine df [0,1,4,6,8,9,11,10] [17,0,8,9,10,11,12,13,14,15,16,7,5] mixed rfl rfl ?_
   refine bT (kn:=[]) aa 8 rfl trivial ?_
   refine bW (n':=18) [129] [] rfl rfl (.inl ⟨(ak.plain rfl),aK.cast (sf rfl rfl (aL (by first|omega|(simp;done)|(simp;omega)))) rfl⟩) rfl ?_
   refine bW (n':=19) [122,124,125,130] [13,8] rfl rfl (.inl ⟨(ak.plain rfl),aK.cast (cr (bf [8,13]) (bf [8,18]) (ms:=((dE.set 2 (some (.s 1 0 6 b.ay.length))).set 19 (some (cI 0)))) (ms':=((dE.set 2 (some (.s 1 0 6 l25.length))).set 19 (some (cI e25)))) (fun x hx=>jj x hx b.ay 0 b0.aO (e1 - e2) (0 - d.sum) (by first|omega|(simp;done)|(simp;omega)) l25 e25 hr5) nJ rfl rfl ⟨⟨_,rfl,.inl ⟨rfl,rfl⟩⟩,⟨_,rfl,.inr (.c (.d _))⟩,⟨_,rfl,.inr (.c (.d _))⟩,⟨_,rfl,.inr (.c (.d _))⟩,trivial⟩ rfl rfl rfl rfl rfl rfl rfl ⟨rfl,trivial⟩ rfl rfl rfl rfl rfl rfl rfl rfl rfl rfl rfl rfl rfl) rfl⟩) rfl ?_
   refine dU [0,1,4,6,8,11,10] [18,8,17,0,9,10,11,12,14,15,16,7,5] rfl rfl (by kernel_rfl) ?_
   refine then_ok ?_
   refine aF aa 6 rfl ?_
   obtain ⟨l26,e26,hr6⟩:∃ (l26:List Entry) (e26:Int),ed b.book e25 (10+b0.aO) 1 d.sum=(l26,e26):=⟨_,_,rfl⟩
   refine aQ 19 [8,18,17,0,9,10,11,12,14,15,16,7,5] (cr (bf [8]) (bf [8]) (ms:=((dE.set 18 (some (dW b.book))).set 19 (some (cI e25)))) (ms':=((dE.set 18 (some (dW l26))).set 19 (some (cI e26)))) (fun x hx=>jx x hx b.book e25 (10+b0.aO) 1 d.sum l26 e26 hr6) mK rfl rfl ⟨⟨_,rfl,.inl ⟨rfl,rfl⟩⟩,⟨_,rfl,.inr (.c (.d _))⟩,⟨_,rfl,.inr (.c (.d _))⟩,⟨_,rfl,.inr (.c (.d _))⟩,trivial⟩ rfl rfl rfl rfl rfl rfl rfl trivial rfl rfl rfl rfl rfl rfl rfl rfl rfl rfl rfl rfl rfl) rfl ?_
   refine af ?_
   refine ae aa 2 rfl ?_
   refine ax ?_
   refine ad aa 2 rfl ?_
   obtain ⟨s27,e27,hr7⟩:∃ (s27:bY) (e27:Int),eQ b.s0 e26 (⟨0,1,d.n,d.sum⟩:bo)=(s27,e27):=⟨_,_,rfl⟩
   refine aQ 19 [8,18,17,0,9,10,11,12,14,15,16,7,5] (cr (bf [8]) (bf [8]) (ms:=(((dE.set 5 (some (cI b.s0.bX))).set 6 (some (dj b.s0.kept))).set 19 (some (cI e26)))) (ms':=(((dE.set 5 (some (cI s27.bX))).set 6 (some (dj s27.kept))).set 19 (some (cI e27)))) (fun x hx=>th x hx b.s0 e26 (⟨0,1,d.n,d.sum⟩:bo) (by assumption) s27 e27 hr7) zi rfl rfl ⟨⟨_,rfl,.inl ⟨rfl,rfl⟩⟩,⟨_,rfl,.inr (.c (.d _))⟩,⟨_,rfl,.inr (.g ⟨.d _,.d _,.d _,.d _,trivial⟩)⟩,trivial⟩ rfl rfl rfl rfl rfl rfl rfl trivial rfl rfl rfl rfl rfl rfl rfl rfl rfl rfl rfl rfl rfl) rfl ?_
   refine bZ ?_
   refine bm ?_
   refine then_ok ?_
   have hX:ec b b0 x1 d=(l25,b.due,l26,s27,b.s1,e27):=by
     unfold ec;(try simp only [hr1,hr2,hr5,hr6,hr7]);(repeat' split)<;>first|rfl|omega|(exfalso;omega)|(simp_all;done)|(simp_all;omega)
   rw [hX] at hj;clear hX;simp only [Prod.mk.injEq] at hj;obtain ⟨rfl,rfl,rfl,rfl,rfl,rfl⟩:=hj
   exact aH.ca (fun k=>if k=13 then 18 else k) (by refine ⟨?_,?_,?_,?_,?_,trivial⟩<;>first|rfl|(simp only [bu];done)|(congr 3;omega)|(congr 4;omega)|(simp only [bw];rfl)) (by refine ⟨?_,?_,?_,?_,?_,?_,?_,?_,?_,?_,?_,?_,trivial⟩<;>first|rfl|(simp only [bu];done)|(congr 3;omega)|(congr 4;omega)|(simp only [bw];rfl)) rfl
  have hc11':=of_decide_eq_false hc11
  refine ax ?_
  refine ad aa 2 rfl ?_
  refine af ?_
  refine aj rfl (fun hc13=>?_) (fun hc13=>?_)
  ·
   have hc13':=of_decide_eq_true hc13
   refine ag ?_
   obtain ⟨l28,e28,hr8⟩:∃ (l28:List bI) (e28:Int),cH b.ay 0 b0.aO (e1 - e2) (0 - d.sum)=(l28,e28):=⟨_,_,rfl⟩
   refine df [0,1,4,6,8,9,11,10] [17,0,8,9,10,11,12,13,14,15,16,7,5] mixed rfl rfl ?_
   refine bT (kn:=[]) aa 8 rfl trivial ?_
   refine bW (n':=18) [129] [] rfl rfl (.inl ⟨(ak.plain rfl),aK.cast (sf rfl rfl (aL (by first|omega|(simp;done)|(simp;omega)))) rfl⟩) rfl ?_
   refine bW (n':=19) [122,124,125,130] [13,8] rfl rfl (.inl ⟨(ak.plain rfl),aK.cast (cr (bf [8,13]) (bf [8,18]) (ms:=((dE.set 2 (some (.s 1 0 6 b.ay.length))).set 19 (some (cI 0)))) (ms':=((dE.set 2 (some (.s 1 0 6 l28.length))).set 19 (some (cI e28)))) (fun x hx=>jj x hx b.ay 0 b0.aO (e1 - e2) (0 - d.sum) (by first|omega|(simp;done)|(simp;omega)) l28 e28 hr8) nJ rfl rfl ⟨⟨_,rfl,.inl ⟨rfl,rfl⟩⟩,⟨_,rfl,.inr (.c (.d _))⟩,⟨_,rfl,.inr (.c (.d _))⟩,⟨_,rfl,.inr (.c (.d _))⟩,trivial⟩ rfl rfl rfl rfl rfl rfl rfl ⟨rfl,trivial⟩ rfl rfl rfl rfl rfl rfl rfl rfl rfl rfl rfl rfl rfl) rfl⟩) rfl ?_
   refine dU [0,1,4,6,8,11,10] [18,8,17,0,9,10,11,12,14,15,16,7,5] rfl rfl (by kernel_rfl) ?_
   refine then_ok ?_
   refine aF aa 6 rfl ?_
   obtain ⟨l29,e29,hr9⟩:∃ (l29:List Entry) (e29:Int),ed b.book e28 (10+b0.aO) 1 d.sum=(l29,e29):=⟨_,_,rfl⟩
   refine aQ 19 [8,18,17,0,9,10,11,12,14,15,16,7,5] (cr (bf [8]) (bf [8]) (ms:=((dE.set 18 (some (dW b.book))).set 19 (some (cI e28)))) (ms':=((dE.set 18 (some (dW l29))).set 19 (some (cI e29)))) (fun x hx=>jx x hx b.book e28 (10+b0.aO) 1 d.sum l29 e29 hr9) mK rfl rfl ⟨⟨_,rfl,.inl ⟨rfl,rfl⟩⟩,⟨_,rfl,.inr (.c (.d _))⟩,⟨_,rfl,.inr (.c (.d _))⟩,⟨_,rfl,.inr (.c (.d _))⟩,trivial⟩ rfl rfl rfl rfl rfl rfl rfl trivial rfl rfl rfl rfl rfl rfl rfl rfl rfl rfl rfl rfl rfl) rfl ?_
   refine af ?_
   refine ae aa 2 rfl ?_
   refine ax ?_
   refine ad aa 2 rfl ?_
   obtain ⟨s210,e210,hr10⟩:∃ (s210:bY) (e210:Int),eQ b.s0 e29 (⟨0,1,d.n,d.sum⟩:bo)=(s210,e210):=⟨_,_,rfl⟩
   refine aQ 19 [8,18,17,0,9,10,11,12,14,15,16,7,5] (cr (bf [8]) (bf [8]) (ms:=(((dE.set 5 (some (cI b.s0.bX))).set 6 (some (dj b.s0.kept))).set 19 (some (cI e29)))) (ms':=(((dE.set 5 (some (cI s210.bX))).set 6 (some (dj s210.kept))).set 19 (some (cI e210)))) (fun x hx=>th x hx b.s0 e29 (⟨0,1,d.n,d.sum⟩:bo) (by assumption) s210 e210 hr10) zi rfl rfl ⟨⟨_,rfl,.inl ⟨rfl,rfl⟩⟩,⟨_,rfl,.inr (.c (.d _))⟩,⟨_,rfl,.inr (.g ⟨.d _,.d _,.d _,.d _,trivial⟩)⟩,trivial⟩ rfl rfl rfl rfl rfl rfl rfl trivial rfl rfl rfl rfl rfl rfl rfl rfl rfl rfl rfl rfl rfl) rfl ?_
   refine bZ ?_
   refine bm ?_
   refine then_ok ?_
   have hX:ec b b0 x1 d=(l28,b.due,l29,s210,b.s1,e210):=by
     unfold ec;(try simp only [hr1,hr2,hr8,hr9,hr10]);(repeat' split)<;>first|rfl|omega|(exfalso;omega)|(simp_all;done)|(simp_all;omega)
   rw [hX] at hj;clear hX;simp only [Prod.mk.injEq] at hj;obtain ⟨rfl,rfl,rfl,rfl,rfl,rfl⟩:=hj
   exact aH.ca (fun k=>if k=13 then 18 else k) (by refine ⟨?_,?_,?_,?_,?_,trivial⟩<;>first|rfl|(simp only [bu];done)|(congr 3;omega)|(congr 4;omega)|(simp only [bw];rfl)) (by refine ⟨?_,?_,?_,?_,?_,?_,?_,?_,?_,?_,?_,?_,trivial⟩<;>first|rfl|(simp only [bu];done)|(congr 3;omega)|(congr 4;omega)|(simp only [bw];rfl)) rfl
  have hc13':=of_decide_eq_false hc13
  refine ae aa 2 rfl ?_
  refine aj rfl (fun hc14=>?_) (fun hc14=>?_)
  ·
   have hc14':=of_decide_eq_true hc14
   refine ag ?_
   obtain ⟨x2,hx2⟩:=cf (xs:=b.due) (i:=Int.toNat (b0.aE)) (by first|omega|(simp;done)|(simp;omega))
   refine aX [0,1,4,6,8,11] [17,0,8,9,10,11,12,13,14,15,16,7,5] mixed rfl rfl ?_
   refine aD (kn:=[]) aa 7 rfl trivial ?_
   refine aT (n':=18) [149,151] [14] rfl rfl (.inl ⟨(ak.plain rfl),aK.cast (bz (i:=Int.toNat (b0.aE)) rfl rfl rfl Try.underlying30 gF (by first|omega|(simp;done)|(simp;omega)) (by first|omega|(simp;done)|(simp;omega))) rfl⟩) rfl ?_
   refine aT (n':=18) [152] [14] rfl rfl (.inl ⟨(ak.plain rfl),aK.cast (eS rfl rfl rfl Try.underlying3 rfl (bp hx2) rfl) rfl⟩) rfl ?_
   refine aD (kn:=[]) aa 5 rfl trivial ?_
   refine aT (n':=18) [149,151] [14] rfl rfl (.inl ⟨(ak.plain rfl),aK.cast (bz (i:=Int.toNat (b0.aE)) rfl rfl rfl Try.underlying30 gF (by first|omega|(simp;done)|(simp;omega)) (by first|omega|(simp;done)|(simp;omega))) rfl⟩) rfl ?_
   refine bA [17,0,8,9,10,11,12,13,14,15,16,7,5] rfl rfl rfl rfl (by kernel_rfl) ?_
   refine gj [17,0,8,9,10,11,12,13,14,15,16,7,5] (dR (ds:=[(dI (IntKind.i64.wrap (x2 - d.sum)))]) rfl rfl rfl rfl rfl gF rfl (Nat.le_of_ble_eq_true rfl) (bp hx2) rfl (eX (x':=(IntKind.i64.wrap (x2 - d.sum))) rfl)) rfl ?_
   refine af ?_
   refine fN (k:=8) (q:=3) (c':=(.s 14 0 1 (((b.due).set (Int.toNat (b0.aE)) (IntKind.i64.wrap (x2 - d.sum))).length))) rfl rfl (by first|rfl|(simp;done)|(congr 1;omega)) rfl ?_
   refine ag ?_
   obtain ⟨l211,e211,hr11⟩:∃ (l211:List Entry) (e211:Int),ed b.book 0 (50+b0.aE) 1 d.sum=(l211,e211):=⟨_,_,rfl⟩
   refine df [0,1,4,6,8,11] [17,0,8,9,10,11,12,13,14,15,16,7,5] mixed rfl rfl ?_
   refine bT (kn:=[]) aa 3 rfl trivial ?_
   refine bW (n':=18) [162] [] rfl rfl (.inl ⟨(ak.plain rfl),aK.cast (aM rfl rfl rfl (aL (by first|omega|(simp;done)|(simp;omega)))) rfl⟩) rfl ?_
   refine bT (kn:=[]) aa 4 rfl trivial ?_
   refine bW (n':=18) [160,163,167] [8] rfl rfl (.inl ⟨(ak.plain rfl),aK.cast (cr (bf [8]) (bf [8]) (ms:=((dE.set 18 (some (dW b.book))).set 19 (some (cI 0)))) (ms':=((dE.set 18 (some (dW l211))).set 19 (some (cI e211)))) (fun x hx=>jx x hx b.book 0 (50+b0.aE) 1 d.sum l211 e211 hr11) mK rfl rfl ⟨⟨_,rfl,.inl ⟨rfl,rfl⟩⟩,⟨_,rfl,.inr (.c (.d _))⟩,⟨_,rfl,.inr (.c (.d _))⟩,⟨_,rfl,.inr (.c (.d _))⟩,trivial⟩ rfl rfl rfl rfl rfl rfl rfl trivial rfl rfl rfl rfl rfl rfl rfl rfl rfl rfl rfl rfl rfl) rfl⟩) rfl ?_
   refine dU [0,1,4,6,8,11] [8,17,0,9,10,11,12,13,14,15,16,7,5] rfl rfl (by kernel_rfl) ?_
   refine then_ok ?_
   refine ae aa 2 rfl ?_
   refine ax ?_
   refine ad aa 2 rfl ?_
   obtain ⟨s212,e212,hr12⟩:∃ (s212:bY) (e212:Int),eQ b.s1 e211 (⟨0,2,d.n,d.sum⟩:bo)=(s212,e212):=⟨_,_,rfl⟩
   refine aQ 18 [8,17,0,9,10,11,12,13,14,15,16,7,5] (cr (bf [8]) (bf [8]) (ms:=(((dE.set 7 (some (cI b.s1.bX))).set 8 (some (dj b.s1.kept))).set 19 (some (cI e211)))) (ms':=(((dE.set 7 (some (cI s212.bX))).set 8 (some (dj s212.kept))).set 19 (some (cI e212)))) (fun x hx=>Ey x hx b.s1 e211 (⟨0,2,d.n,d.sum⟩:bo) (by assumption) s212 e212 hr12) zi rfl rfl ⟨⟨_,rfl,.inl ⟨rfl,rfl⟩⟩,⟨_,rfl,.inr (.c (.d _))⟩,⟨_,rfl,.inr (.g ⟨.d _,.d _,.d _,.d _,trivial⟩)⟩,trivial⟩ rfl rfl rfl rfl rfl rfl rfl trivial rfl rfl rfl rfl rfl rfl rfl rfl rfl rfl rfl rfl rfl) rfl ?_
   refine bZ ?_
   refine bm ?_
   refine then_ok ?_
   have hX:ec b b0 x1 d=(b.ay,(b.due).set (Int.toNat (b0.aE)) (IntKind.i64.wrap (x2 - d.sum)),l211,b.s0,s212,e212):=by
     unfold ec;simp only [List.getD_eq_getElem?_getD,hx2,Option.getD_some];(try simp only [hr1,hr2,hr11,hr12,hx2]);(repeat' split)<;>first|rfl|omega|(exfalso;omega)|(simp_all;done)|(simp_all;omega)
   rw [hX] at hj;clear hX;simp only [Prod.mk.injEq] at hj;obtain ⟨rfl,rfl,rfl,rfl,rfl,rfl⟩:=hj
   exact aH.ca id (by refine ⟨?_,?_,?_,?_,?_,trivial⟩<;>first|rfl|(simp only [bu];done)|(congr 3;omega)|(congr 4;omega)|(simp only [bw];rfl)) (by refine ⟨?_,?_,?_,?_,?_,?_,?_,?_,?_,?_,?_,?_,trivial⟩<;>first|rfl|(simp only [bu];done)|(congr 3;omega)|(congr 4;omega)|(simp only [bw];rfl)) rfl
  have hc14':=of_decide_eq_false hc14
  refine ae aa 2 rfl ?_
  refine aj rfl (fun hc15=>?_) (fun hc15=>?_)
  ·
   have hc15':=of_decide_eq_true hc15
   refine ag ?_
   obtain ⟨l213,e213,hr13⟩:∃ (l213:List bI) (e213:Int),cH b.ay 0 b0.aO 0 d.sum=(l213,e213):=⟨_,_,rfl⟩
   refine df [0,1,4,6,8,10] [0,8,9,10,11,12,13,14,15,16,7,5] mixed rfl rfl ?_
   refine bT (kn:=[]) aa 7 rfl trivial ?_
   refine bW (n':=19) [175,177,181] [13,8] rfl rfl (.inl ⟨(ak.plain rfl),aK.cast (cr (bf [8,13]) (bf [8,18]) (ms:=((dE.set 2 (some (.s 1 0 6 b.ay.length))).set 19 (some (cI 0)))) (ms':=((dE.set 2 (some (.s 1 0 6 l213.length))).set 19 (some (cI e213)))) (fun x hx=>jj x hx b.ay 0 b0.aO 0 d.sum (by first|omega|(simp;done)|(simp;omega)) l213 e213 hr13) nJ rfl rfl ⟨⟨_,rfl,.inl ⟨rfl,rfl⟩⟩,⟨_,rfl,.inr (.c (.d _))⟩,⟨_,rfl,.inr (.c (.d _))⟩,⟨_,rfl,.inr (.c (.d _))⟩,trivial⟩ rfl rfl rfl rfl rfl rfl rfl ⟨rfl,trivial⟩ rfl rfl rfl rfl rfl rfl rfl rfl rfl rfl rfl rfl rfl) rfl⟩) rfl ?_
   refine dU [0,1,4,6,8,10] [18,8,0,9,10,11,12,14,15,16,7,5] rfl rfl (by kernel_rfl) ?_
   refine then_ok ?_
   refine ax ?_
   refine ad aa 6 rfl ?_
   obtain ⟨l214,e214,hr14⟩:∃ (l214:List Entry) (e214:Int),ed b.book e213 2 (10+b0.aO) d.sum=(l214,e214):=⟨_,_,rfl⟩
   refine aQ 19 [8,18,0,9,10,11,12,14,15,16,7,5] (cr (bf [8]) (bf [8]) (ms:=((dE.set 18 (some (dW b.book))).set 19 (some (cI e213)))) (ms':=((dE.set 18 (some (dW l214))).set 19 (some (cI e214)))) (fun x hx=>jx x hx b.book e213 2 (10+b0.aO) d.sum l214 e214 hr14) mK rfl rfl ⟨⟨_,rfl,.inl ⟨rfl,rfl⟩⟩,⟨_,rfl,.inr (.c (.d _))⟩,⟨_,rfl,.inr (.c (.d _))⟩,⟨_,rfl,.inr (.c (.d _))⟩,trivial⟩ rfl rfl rfl rfl rfl rfl rfl trivial rfl rfl rfl rfl rfl rfl rfl rfl rfl rfl rfl rfl rfl) rfl ?_
   refine bZ ?_
   refine bm ?_
   refine then_ok ?_
   have hX:ec b b0 x1 d=(l213,b.due,l214,b.s0,b.s1,e214):=by
     unfold ec;(try simp only [hr1,hr2,hr13,hr14]);(repeat' split)<;>first|rfl|omega|(exfalso;omega)|(simp_all;done)|(simp_all;omega)
   rw [hX] at hj;clear hX;simp only [Prod.mk.injEq] at hj;obtain ⟨rfl,rfl,rfl,rfl,rfl,rfl⟩:=hj
   exact aH.ca (fun k=>if k=13 then 18 else k) (by refine ⟨?_,?_,?_,?_,?_,trivial⟩<;>first|rfl|(simp only [bu];done)|(congr 3;omega)|(congr 4;omega)|(simp only [bw];rfl)) (by refine ⟨?_,?_,?_,?_,?_,?_,?_,?_,?_,?_,?_,?_,trivial⟩<;>first|rfl|(simp only [bu];done)|(congr 3;omega)|(congr 4;omega)|(simp only [bw];rfl)) rfl
  have hc15':=of_decide_eq_false hc15
  refine ae aa 2 rfl ?_
  refine aj rfl (fun hc16=>?_) (fun hc16=>?_)
  ·
   have hc16':=of_decide_eq_true hc16
   refine ae aa 2 rfl ?_
   refine ax ?_
   refine ad aa 2 rfl ?_
   obtain ⟨s215,e215,hr15⟩:∃ (s215:bY) (e215:Int),eQ b.s0 0 (⟨0,3,d.n,d.sum⟩:bo)=(s215,e215):=⟨_,_,rfl⟩
   refine aQ 18 [8,17,0,9,10,11,12,13,14,15,16,7,5] (cr (bf [8]) (bf [8]) (ms:=(((dE.set 5 (some (cI b.s0.bX))).set 6 (some (dj b.s0.kept))).set 19 (some (cI 0)))) (ms':=(((dE.set 5 (some (cI s215.bX))).set 6 (some (dj s215.kept))).set 19 (some (cI e215)))) (fun x hx=>th x hx b.s0 0 (⟨0,3,d.n,d.sum⟩:bo) (by assumption) s215 e215 hr15) zi rfl rfl ⟨⟨_,rfl,.inl ⟨rfl,rfl⟩⟩,⟨_,rfl,.inr (.c (.d _))⟩,⟨_,rfl,.inr (.g ⟨.d _,.d _,.d _,.d _,trivial⟩)⟩,trivial⟩ rfl rfl rfl rfl rfl rfl rfl trivial rfl rfl rfl rfl rfl rfl rfl rfl rfl rfl rfl rfl rfl) rfl ?_
   refine bZ ?_
   refine bm ?_
   refine then_ok ?_
   have hX:ec b b0 x1 d=(b.ay,b.due,b.book,s215,b.s1,e215):=by
     unfold ec;(try simp only [hr1,hr2,hr15]);(repeat' split)<;>first|rfl|omega|(exfalso;omega)|(simp_all;done)|(simp_all;omega)
   rw [hX] at hj;clear hX;simp only [Prod.mk.injEq] at hj;obtain ⟨rfl,rfl,rfl,rfl,rfl,rfl⟩:=hj
   exact aH.ca id (by refine ⟨?_,?_,?_,?_,?_,trivial⟩<;>first|rfl|(simp only [bu];done)|(congr 3;omega)|(congr 4;omega)|(simp only [bw];rfl)) (by refine ⟨?_,?_,?_,?_,?_,?_,?_,?_,?_,?_,?_,?_,trivial⟩<;>first|rfl|(simp only [bu];done)|(congr 3;omega)|(congr 4;omega)|(simp only [bw];rfl)) rfl
  have hc16':=of_decide_eq_false hc16
  refine ae aa 2 rfl ?_
  refine aj rfl (fun hc17=>?_) (fun hc17=>?_)
  ·
   have hc17':=of_decide_eq_true hc17
   refine ag ?_
   obtain ⟨l216,e216,hr16⟩:∃ (l216:List bI) (e216:Int),cH b.ay 0 b0.aO 0 (0 - d.sum)=(l216,e216):=⟨_,_,rfl⟩
   refine df [0,1,4,6,8,10] [0,8,9,10,11,12,13,14,15,16,7,5] mixed rfl rfl ?_
   refine bT (kn:=[]) aa 7 rfl trivial ?_
   refine bW (n':=18) [204] [] rfl rfl (.inl ⟨(ak.plain rfl),aK.cast (sf rfl rfl (aL (by first|omega|(simp;done)|(simp;omega)))) rfl⟩) rfl ?_
   refine bW (n':=19) [198,200,205] [13,8] rfl rfl (.inl ⟨(ak.plain rfl),aK.cast (cr (bf [8,13]) (bf [8,18]) (ms:=((dE.set 2 (some (.s 1 0 6 b.ay.length))).set 19 (some (cI 0)))) (ms':=((dE.set 2 (some (.s 1 0 6 l216.length))).set 19 (some (cI e216)))) (fun x hx=>jj x hx b.ay 0 b0.aO 0 (0 - d.sum) (by first|omega|(simp;done)|(simp;omega)) l216 e216 hr16) nJ rfl rfl ⟨⟨_,rfl,.inl ⟨rfl,rfl⟩⟩,⟨_,rfl,.inr (.c (.d _))⟩,⟨_,rfl,.inr (.c (.d _))⟩,⟨_,rfl,.inr (.c (.d _))⟩,trivial⟩ rfl rfl rfl rfl rfl rfl rfl ⟨rfl,trivial⟩ rfl rfl rfl rfl rfl rfl rfl rfl rfl rfl rfl rfl rfl) rfl⟩) rfl ?_
   refine dU [0,1,4,6,8,10] [18,8,0,9,10,11,12,14,15,16,7,5] rfl rfl (by kernel_rfl) ?_
   refine then_ok ?_
   refine ax ?_
   refine ad aa 6 rfl ?_
   obtain ⟨l217,e217,hr17⟩:∃ (l217:List Entry) (e217:Int),ed b.book e216 (10+b0.aO) 2 d.sum=(l217,e217):=⟨_,_,rfl⟩
   refine aQ 19 [8,18,0,9,10,11,12,14,15,16,7,5] (cr (bf [8]) (bf [8]) (ms:=((dE.set 18 (some (dW b.book))).set 19 (some (cI e216)))) (ms':=((dE.set 18 (some (dW l217))).set 19 (some (cI e217)))) (fun x hx=>jx x hx b.book e216 (10+b0.aO) 2 d.sum l217 e217 hr17) mK rfl rfl ⟨⟨_,rfl,.inl ⟨rfl,rfl⟩⟩,⟨_,rfl,.inr (.c (.d _))⟩,⟨_,rfl,.inr (.c (.d _))⟩,⟨_,rfl,.inr (.c (.d _))⟩,trivial⟩ rfl rfl rfl rfl rfl rfl rfl trivial rfl rfl rfl rfl rfl rfl rfl rfl rfl rfl rfl rfl rfl) rfl ?_
   refine bZ ?_
   refine bm ?_
   refine then_ok ?_
   have hX:ec b b0 x1 d=(l216,b.due,l217,b.s0,b.s1,e217):=by
     unfold ec;(try simp only [hr1,hr2,hr16,hr17]);(repeat' split)<;>first|rfl|omega|(exfalso;omega)|(simp_all;done)|(simp_all;omega)
   rw [hX] at hj;clear hX;simp only [Prod.mk.injEq] at hj;obtain ⟨rfl,rfl,rfl,rfl,rfl,rfl⟩:=hj
   exact aH.ca (fun k=>if k=13 then 18 else k) (by refine ⟨?_,?_,?_,?_,?_,trivial⟩<;>first|rfl|(simp only [bu];done)|(congr 3;omega)|(congr 4;omega)|(simp only [bw];rfl)) (by refine ⟨?_,?_,?_,?_,?_,?_,?_,?_,?_,?_,?_,?_,trivial⟩<;>first|rfl|(simp only [bu];done)|(congr 3;omega)|(congr 4;omega)|(simp only [bw];rfl)) rfl
  have hc17':=of_decide_eq_false hc17
  refine da ?_
  refine bm ?_
  refine then_ok ?_
  have hX:ec b b0 x1 d=(b.ay,b.due,b.book,b.s0,b.s1,0):=by
    unfold ec;(try simp only [hr1,hr2]);(repeat' split)<;>first|rfl|omega|(exfalso;omega)|(simp_all;done)|(simp_all;omega)
  rw [hX] at hj;clear hX;simp only [Prod.mk.injEq] at hj;obtain ⟨rfl,rfl,rfl,rfl,rfl,rfl⟩:=hj
  exact aH.ca id (by refine ⟨?_,?_,?_,?_,?_,trivial⟩<;>first|rfl|(simp only [bu];done)|(congr 3;omega)|(congr 4;omega)|(simp only [bw];rfl)) (by refine ⟨?_,?_,?_,?_,?_,?_,?_,?_,?_,?_,?_,?_,trivial⟩<;>first|rfl|(simp only [bu];done)|(congr 3;omega)|(congr 4;omega)|(simp only [bw];rfl)) rfl
 refine ag ?_
 obtain ⟨l218,e218,hr18⟩:∃ (l218:List ah) (e218:Int),jh b.aP je (⟨b0.aE,d.n,d.move,d.sum⟩:ah)=(l218,e218):=⟨_,_,rfl⟩
 refine df [0,1,4,6,8] [0,8,9,10,11,12,13,14,15,16,7,5] mixed rfl rfl ?_
 refine bT (kn:=[]) aa 16 rfl trivial ?_
 refine bW (n':=18) [214,229] [16,8] rfl rfl (.inl ⟨(ak.plain rfl),aK.cast (cr (bf [8,16]) (bf [8,17]) (ms:=((dE.set 16 (some (.s 1 0 4 b.aP.length))).set 19 (some (cI je)))) (ms':=((dE.set 16 (some (.s 1 0 4 l218.length))).set 19 (some (cI e218)))) (fun x hx=>Gg x hx b.aP je (⟨b0.aE,d.n,d.move,d.sum⟩:ah) (by first|omega|(simp;done)|(simp;omega)) l218 e218 hr18) HT rfl rfl ⟨⟨_,rfl,.inl ⟨rfl,rfl⟩⟩,⟨_,rfl,.inr (.g ⟨.d _,.d _,.d _,.d _,trivial⟩)⟩,trivial⟩ rfl rfl rfl rfl rfl rfl rfl ⟨rfl,trivial⟩ rfl rfl rfl rfl rfl rfl rfl rfl rfl rfl rfl rfl rfl) rfl⟩) rfl ?_
 refine dU [0,1,4,6,8] [17,8,0,9,10,11,12,13,14,15,7,5] rfl rfl (by kernel_rfl) ?_
 refine then_ok ?_
 refine ag ?_
 refine aX [0,1,4,6,8] [17,8,0,9,10,11,12,13,14,15,7,5] mixed rfl rfl ?_
 refine aD (kn:=[]) aa 10 rfl trivial ?_
 refine aT (n':=18) [235,239] [15] rfl rfl (.inl ⟨(ak.plain rfl),aK.cast (bz (i:=Int.toNat (d.n)) rfl rfl rfl Try.underlying31 lS (by first|omega|(simp;done)|(simp;omega)) (by first|omega|(simp;done)|(simp;omega))) rfl⟩) rfl ?_
 refine bA [17,8,0,9,10,11,12,13,14,15,7,5] rfl rfl rfl rfl (by kernel_rfl) ?_
 refine gj [17,8,0,9,10,11,12,13,14,15,7,5] (dR (ds:=[(dI b0.aO),(dI b0.aE),(dI b0.sum),(dI b0.captured),(dI b0.bB),(dI b0.bq),(dI b0.dc),(dB b0.shut)]) rfl rfl rfl rfl rfl lS rfl (Nat.le_of_ble_eq_true rfl) (bp hx1) rfl (eX (x':=b0) rfl)) rfl ?_
 refine af ?_
 rcases (show e218=0\/¬e218=0 from by omega) with hs18|hs18
 ·
  refine fN (k:=8) (q:=4) (c':=(.s 15 0 8 (((b.au).set (Int.toNat (d.n)) b0).length))) rfl rfl (by first|rfl|(simp;done)|(congr 1;omega)) rfl ?_
  refine aF aa 2 rfl ?_
  refine aQ 22 [0,18,19,20,21,7,5] (cL (bf [0,8,9,10,11,12,13,14,15,17]) (bf [0,18,19,20,21]) (fw (x 17) (x 19) b (⟨b.time,b.down,jcards,jdue,(b.au).set (Int.toNat (d.n)) b0,js0,js1,b.n0,b.n1,b.w0,b.w1,b.bG,l218,jbook⟩:Bk) e218 (by first|assumption|omega)) fW rfl rfl ⟨⟨_,rfl,.inl ⟨rfl,rfl⟩⟩,⟨_,rfl,.inl ⟨rfl,rfl⟩⟩,trivial⟩ ⟨rfl,rfl,rfl,rfl,rfl,rfl,rfl,rfl,rfl,rfl,trivial⟩ rfl rfl rfl rfl rfl rfl trivial ⟨⟨trivial,trivial,trivial,trivial,trivial,trivial,trivial,trivial,trivial,trivial,trivial,trivial,trivial,trivial,trivial,trivial,trivial,trivial,trivial,trivial,trivial⟩,(fun _ _ _ _=>trivial),(fun _ _ _ _=>trivial),(fun _ _ _ _=>trivial),(fun _ _ _ _=>trivial),trivial⟩ rfl rfl rfl rfl) rfl ?_
  refine ad aa 2 rfl ?_
  refine af ?_
  refine az ?_
  have hX:dh b d=((⟨b.time,b.down,jcards,jdue,(b.au).set (Int.toNat (d.n)) b0,js0,js1,b.n0,b.n1,b.w0,b.w1,b.bG,l218,jbook⟩:Bk),(⟨e218,0⟩:Answer)):=by
    unfold dh;simp only [hdn,Bool.false_eq_true,if_false];rw [if_neg (by omega),hx1];dsimp only;simp only [hr0,hj0];unfold nK dd;simp only [hr18];(repeat' split)<;>first|rfl|omega|(exfalso;omega)|(simp_all;done)|(simp_all;omega)
  rw [hX] at hr;clear hX
  simp only [Prod.mk.injEq] at hr;obtain ⟨rfl,rfl⟩:=hr
  refine al aa [0,18,19,20,21,5] 5 rfl rfl rfl rfl rfl rfl ?_ ?_
  all_goals first|rfl|(simp [aw,aW,bh];done)|(simp [aw,aW,bh];omega)
 refine fN (k:=8) (q:=4) (c':=(.s 15 0 8 (((b.au).set (Int.toNat (d.n)) b0).length))) rfl rfl (by first|rfl|(simp;done)|(congr 1;omega)) rfl ?_
 refine aF aa 2 rfl ?_
 refine aQ 22 [0,18,19,20,21,7,5] (cL (bf [0,8,9,10,11,12,13,14,15,17]) (bf [0,18,19,20,21]) (gp (x 17) (x 19) b (⟨b.time,b.down,jcards,jdue,(b.au).set (Int.toNat (d.n)) b0,js0,js1,b.n0,b.n1,b.w0,b.w1,b.bG,l218,jbook⟩:Bk) e218 (by first|assumption|omega)) fW rfl rfl ⟨⟨_,rfl,.inl ⟨rfl,rfl⟩⟩,⟨_,rfl,.inl ⟨rfl,rfl⟩⟩,trivial⟩ ⟨rfl,rfl,rfl,rfl,rfl,rfl,rfl,rfl,rfl,rfl,trivial⟩ rfl rfl rfl rfl rfl rfl trivial ⟨⟨trivial,trivial,trivial,trivial,trivial,trivial,trivial,trivial,trivial,trivial,trivial,trivial,trivial,trivial,trivial,trivial,trivial,trivial,trivial,trivial,trivial⟩,(fun _ _ _ _=>trivial),(fun _ _ _ _=>trivial),(fun _ _ _ _=>trivial),(fun _ _ _ _=>trivial),trivial⟩ rfl rfl rfl rfl) rfl ?_
 refine ad aa 2 rfl ?_
 refine af ?_
 refine az ?_
 have hX:dh b d=(b,(⟨e218,0⟩:Answer)):=by
   unfold dh;simp only [hdn,Bool.false_eq_true,if_false];rw [if_neg (by omega),hx1];dsimp only;simp only [hr0,hj0];unfold nK dd;simp only [hr18];(repeat' split)<;>first|rfl|omega|(exfalso;omega)|(simp_all;done)|(simp_all;omega)
 rw [hX] at hr;clear hX
 simp only [Prod.mk.injEq] at hr;obtain ⟨rfl,rfl⟩:=hr
 refine al aa [0,18,19,20,21,5] 5 rfl rfl rfl rfl rfl rfl ?_ ?_
 all_goals first|rfl|(simp [aw,aW,bh];done)|(simp [aw,aW,bh];omega)
theorem Bo (x:Nat->Value) (hx:∀ i,(x i).oneCell'=true) (b:Bk) (d:bx) (ok:cu b) (hdn:b.down=true) (b2:Bk) (a2:Answer) (hr:dh b d=(b2,a2)):cJ Try.prog 64 [(.c (.p 0 0 0 0)),(.c (.q (dg d) 0))] [(0,(.box 98 (aW b 1 2 3 4 (.d (.v (x 17))) (.d (.v (x 19)))))),(1,(dT b.ay)),(2,(dM b.due)),(3,(ea b.au)),(4,(cM b.aP))] [0] (.v (.g [cI a2.err,cI a2.ba])) [(0,(.box 98 (aW b2 1 2 3 4 (.d (.v (x 17))) (.d (.v (x 19)))))),(1,(dT b2.ay)),(2,(dM b2.due)),(3,(ea b2.au)),(4,(cM b2.aP))]:=by
 refine cJ.mk 246 [(0,(aC (.p 0 0 0 0))),(1,(aC (.q (dg d) 0)))] 5 Try.func64 rfl rfl rfl rfl rfl rfl rfl rfl rfl ?_
 intro W0 F0 T0 pg
 obtain ⟨okt,okc,okd,oka,oky,okw0,okw1,okp,okv,okk0,okk1,okg,okl0,okl1,okp0,okp1,okn0,okn1,okq⟩:=id ok
 refine ae aa 1 rfl ?_
 refine ag ?_
 refine ae aa 5 rfl ?_
 refine aj rfl (fun _=>?_) (fun hno=>absurd (hdn.symm.trans hno) (by decide))
 refine ae aa 2 rfl ?_
 refine az ?_
 refine an ?_
 have hX:dh b d=(b,(⟨12,0⟩:Answer)):=by
   unfold dh;rw [if_pos hdn]
 rw [hX] at hr;clear hX
 simp only [Prod.mk.injEq] at hr;obtain ⟨rfl,rfl⟩:=hr
 refine al aa [0,1,2,3,4,5] 5 rfl rfl rfl rfl rfl rfl ?_ ?_
 all_goals first|rfl|(simp [aw,aW,bh];done)|(simp [aw,aW,bh];omega)
theorem Df (x:Nat->Value) (hx:∀ i,(x i).oneCell'=true) (b:Bk) (d:bx) (ok:cu b) (b2:Bk) (a2:Answer) (hr:dh b d=(b2,a2)):cJ Try.prog 64 [(.c (.p 0 0 0 0)),(.c (.q (dg d) 0))] [(0,(.box 98 (aW b 1 2 3 4 (.d (.v (x 17))) (.d (.v (x 19)))))),(1,(dT b.ay)),(2,(dM b.due)),(3,(ea b.au)),(4,(cM b.aP))] [0] (.v (.g [cI a2.err,cI a2.ba])) [(0,(.box 98 (aW b2 1 2 3 4 (.d (.v (x 17))) (.d (.v (x 19)))))),(1,(dT b2.ay)),(2,(dM b2.due)),(3,(ea b2.au)),(4,(cM b2.aP))]:=by
  cases hdn:b.down
  ·exact Bn x hx b d ok hdn b2 a2 hr
  ·exact Bo x hx b d ok hdn b2 a2 hr
end Go.Proofs.Ytegepioggeggaaa.Dev
