/- A part of the proof: PlRef, LBankRefused. No condition. -/
import Derived.Test.YtegepioggeggaaaD15
set_option linter.unusedVariables false
set_option linter.unusedSimpArgs false
set_option maxHeartbeats 8000000
set_option maxRecDepth 100000
namespace Go.Proofs.Ytegepioggeggaaa.Dev
open Go.RowKit
theorem nh {b c:Bk} {e:Int} (h:(dt b c e).2.err≠0):(dt b c e).1=b:=by
 unfold dt at *
 split
 ·rename_i he;rw [if_pos he] at h;exact absurd rfl h
 ·rfl
theorem AM {b:Bk} {d:bB} (h:(fr b d).2.err≠0):(fr b d).1=b:=by
 unfold fr at *
 split
 ·rfl
 ·rename_i h1;rw [if_neg h1] at h
  split
  ·rfl
  ·rename_i h2;rw [if_neg h2] at h;exact nh h
theorem Cu {b:Bk} {d:bB} (h:(gk b d).2.err≠0):(gk b d).1=b:=by
 unfold gk at *
 split
 ·rfl
 ·rename_i h1;rw [if_neg h1] at h
  split
  ·rfl
  ·rename_i h2;rw [if_neg h2] at h;exact nh h
theorem Al {b:Bk} {d:bB} (h:(eQ b d).2.err≠0):(eQ b d).1=b:=by
 unfold eQ at *
 split
 ·rfl
 ·rename_i h1;rw [if_neg h1] at h;exact absurd rfl h
theorem CO {b:Bk} {d:bB} (h:(dD b d).2.err≠0):(dD b d).1=b:=by
 revert h
 unfold dD
 (repeat' split)<;>intro h<;>first|rfl|exact absurd rfl h
theorem yl {b:Bk} {d:bB} (h:(dA b d).2.err≠0):(dA b d).1=b:=by
 revert h
 unfold dA
 (repeat' split)<;>intro h<;>first|rfl|exact nh h
theorem CW {b:Bk} (h:(iv b).2.err≠0):(iv b).1=b:=by
 revert h
 unfold iv
 (repeat' split)<;>intro h<;>first|rfl|exact absurd rfl h
theorem yn {b:Bk} {d:bB} (h:(cv b d).2.err≠0):(cv b d).1=b:=by
 revert h
 unfold cv fE fD
 (repeat' split)<;>intro h<;>first|rfl|exact absurd rfl h|exact nh h
theorem An {b:Bk} {d:bB} (h:(ew b.s0 b.s1 b.n0 b.n1 b.w0 b.w1 d).2.2.err≠0):(ew b.s0 b.s1 b.n0 b.n1 b.w0 b.w1 d).1=b.w0/\(ew b.s0 b.s1 b.n0 b.n1 b.w0 b.w1 d).2.1=b.w1:=by
 revert h
 unfold ew ja
 (repeat' split)<;>intro h<;>first|exact ⟨rfl,rfl⟩|exact absurd rfl h
theorem AE {t:List al} {y:List (List Int)} (h:(gC t y).2.2.err≠0):(gC t y).1=t/\(gC t y).2.1=y:=by
 revert h
 unfold gC
 split<;>intro h
 ·exact ⟨rfl,rfl⟩
 ·exact absurd rfl h
theorem El {b:Bk} {y:List (List Int)} {d:bB} (h:(ff b y d).2.2.err≠0):(ff b y d).1=b/\(ff b y d).2.1=y:=by
 revert h
 unfold ff
 split
 ·exact fun h=>⟨AM h,rfl⟩
 split
 ·exact fun h=>⟨CO h,rfl⟩
 split
 ·exact fun h=>⟨yl h,rfl⟩
 split
 ·exact fun h=>⟨Al h,rfl⟩
 split
 ·intro h
  obtain ⟨h1,h2⟩:=An h
  refine ⟨?_,rfl⟩
  dsimp only
  rw [h1,h2]
 split
 ·exact fun h=>⟨yn h,rfl⟩
 split
 ·split
  ·exact fun _=>⟨rfl,rfl⟩
  ·exact fun h=>absurd rfl h
 split
 ·exact fun h=>⟨CW h,rfl⟩
 split
 ·intro h
  obtain ⟨h1,h2⟩:=AE h
  refine ⟨?_,h2⟩
  dsimp only
  rw [h1]
 split
 ·exact fun h=>⟨Cu h,rfl⟩
 ·exact fun _=>⟨rfl,rfl⟩
theorem AG {b:Bk} {y:List (List Int)} {told:List (Int×Answer)} {cl:Nat} {d:bB} (h:(eG b y told cl d).2.2.2.2.err≠0):(eG b y told cl d).1=b/\(eG b y told cl d).2.1=y:=by
 revert h
 unfold eG
 split
 ·exact fun _=>⟨rfl,rfl⟩
 ·exact fun h=>El h
theorem lJ:∀ (l:List bB) (b:Bk) (y:List (List Int)) (told:List (Int×Answer)) (cl:Nat) (out:List Answer),(jc l b y told cl out).2.2.length=out.length+l.length
 |[],_,_,_,_,_=>rfl
 |d::l,b,y,told,cl,out=>by
  unfold jc
  rw [lJ l];simp;omega
def gz:List bB->Bk->List (List Int)->List (Int×Answer)->Nat->List Answer->Bk×List (List Int)×List (Int×Answer)×Nat×List Answer
 |[],b,y,told,cl,out=>(b,y,told,cl,out)
 |d::l,b,y,told,cl,out=>gz l (eG b y told cl d).1 (eG b y told cl d).2.1 (eG b y told cl d).2.2.1 (eG b y told cl d).2.2.2.1 (out++[(eG b y told cl d).2.2.2.2])
theorem oL:∀ (l:List bB) (b:Bk) (y:List (List Int)) (told:List (Int×Answer)) (cl:Nat) (out:List Answer),jc l b y told cl out=((gz l b y told cl out).1,(gz l b y told cl out).2.1,(gz l b y told cl out).2.2.2.2)
 |[],_,_,_,_,_=>rfl
 |d::l,b,y,told,cl,out=>by
  unfold jc gz
  exact oL l _ _ _ _ _
theorem sy:∀ (l m:List bB) (b:Bk) (y:List (List Int)) (told:List (Int×Answer)) (cl:Nat) (out:List Answer),gz (l++m) b y told cl out=gz m (gz l b y told cl out).1 (gz l b y told cl out).2.1 (gz l b y told cl out).2.2.1 (gz l b y told cl out).2.2.2.1 (gz l b y told cl out).2.2.2.2
 |[],_,_,_,_,_,_=>rfl
 |d::l,m,b,y,told,cl,out=>by
  simp only [List.cons_append,gz]
  exact sy l m _ _ _ _ _
theorem vJ {s:Setup} {l:List bB} {b c:Bk} {y z:List (List Int)} {o p:List Answer} {f g:cY} {k:Nat} (hr:fH s l=(b,y,o,f)) (hf:f.err=0) (hk:l.length=k+1) (hs:fH s (l.take k)=(c,z,p,g)):
  o.length=l.length/\g.err=0/\∀ x,o[k]?=some x->x.err≠0->c=b/\z=y:=by
 unfold fH at hr hs
 by_cases hw:(eu s).err≠0
 ·rw [if_pos hw] at hr
  simp only [Prod.mk.injEq] at hr
  rw [<-hr.2.2.2] at hf;exact absurd hf hw
 ·rw [if_neg hw] at hr hs
  by_cases hl:l.length > 150
  ·rw [if_pos hl] at hr
   simp only [Prod.mk.injEq] at hr
   rw [<-hr.2.2.2] at hf;cases hf
  ·rw [if_neg hl] at hr
   rw [if_neg (by rw [List.length_take];omega)] at hs
   simp only [Prod.mk.injEq] at hr hs
   obtain ⟨h1,h2,h3,h4⟩:=hr
   obtain ⟨g1,g2,g3,g4⟩:=hs
   refine ⟨by rw [<-h3,lJ];simp,by rw [<-g4],fun x hx hne=>?_⟩
   obtain ⟨d,hd⟩:∃ d,l[k]?=some d:=⟨l[k]'(by omega),List.getElem?_eq_getElem (by omega)⟩
   have hsplit:l=l.take k++[d]:=by
    rw [<-hO hd,show k+1=l.length by omega,List.take_length]
   rw [hsplit] at h1 h2 h3
   rw [oL,sy] at h1 h2 h3
   rw [oL] at g1 g2 g3
   have hlen:(gz (l.take k) (gS s) [] [] 0 []).2.2.2.2.length=k:=by
    have:=lJ (l.take k) (gS s) [] [] 0 []
    rw [oL] at this
    rw [this,List.length_take];simp;omega
   dsimp only at h1 h2 h3 g1 g2 g3
   generalize gz (l.take k) (gS s) [] [] 0 []=q at h1 h2 h3 g1 g2 g3 hlen
   obtain ⟨q1,q2,q3,q4,q5⟩:=q
   dsimp only at h1 h2 h3 g1 g2 g3 hlen
   unfold gz at h1 h2 h3
   unfold gz at h1 h2 h3
   dsimp only at h1 h2 h3
   have hx':x=(eG q1 q2 q3 q4 d).2.2.2.2:=by
    rw [<-h3,List.getElem?_append_right (by omega),hlen,Nat.sub_self] at hx
    simpa using hx.symm
   obtain ⟨r1,r2⟩:=AG (b:=q1) (y:=q2) (told:=q3) (cl:=q4) (d:=d) (by rw [<-hx'];exact hne)
   rw [r1] at h1;rw [r2] at h2
   exact ⟨g1.symm.trans h1,g2.symm.trans h2⟩
theorem AA {s:Setup} {l:List bB} {b:Bk} {y:List (List Int)} {o:List Answer} {f:cY} (hr:fH s l=(b,y,o,f)) (hf:f.err=0):o.length=l.length/\l.length<=150:=by
 unfold fH at hr
 by_cases hw:(eu s).err≠0
 ·rw [if_pos hw] at hr
  simp only [Prod.mk.injEq] at hr
  rw [<-hr.2.2.2] at hf;exact absurd hf hw
 ·rw [if_neg hw] at hr
  by_cases hl:l.length > 150
  ·rw [if_pos hl] at hr
   simp only [Prod.mk.injEq] at hr
   rw [<-hr.2.2.2] at hf;cases hf
  ·rw [if_neg hl] at hr
   simp only [Prod.mk.injEq] at hr
   exact ⟨by rw [<-hr.2.2.1,lJ];simp,by omega⟩
theorem xB {s:Setup} {l:List bB} {b:Bk} {y:List (List Int)} {o:List Answer} {f:cY} {x:Answer} (hr:fH s l=(b,y,o,f)) (hf:f.err=0) (h0:1<=l.length) (hx:o[l.length - 1]?=some x) (hne:¬x.err=0):∃ p g,fH s (l.take (l.length - 1))=(b,y,p,g)/\g.err=0:=by
 obtain ⟨h1,h2,h3⟩:=vJ (k:=l.length - 1) hr hf (by omega) (c:=(fH s (l.take (l.length - 1))).1) (z:=(fH s (l.take (l.length - 1))).2.1) (p:=(fH s (l.take (l.length - 1))).2.2.1) (g:=(fH s (l.take (l.length - 1))).2.2.2) rfl
 obtain ⟨h4,h5⟩:=h3 x hx hne
 exact ⟨_,_,by rw [<-h4,<-h5],h2⟩

theorem tF (s:Setup) (l:List bB):Fn Try.prog 8 [(.g [(cR 3 ((s.cX).map gy)),(cI s.gn),(cI s.cap)]),(.c (sa l))] (aB true) []:=by
 refine Fn.mk' 55 [(0,(aG [(cR 3 ((s.cX).map gy)),(cI s.gn),(cI s.cap)])),(1,(aC (sa l)))] Try.func8 rfl rfl rfl rfl ?_
 intro W0 T0
 refine cz 0 0 rfl rfl (fun hlen0_0=>?_)
 refine dj 1 rfl (fun hlen1=>?_)
 refine ae aa 2 rfl ?_
 refine ag ?_
 refine fa ?_
 refine aQ 1 [0] (bX 1 (BD) GQ rfl rfl trivial trivial trivial rfl rfl rfl rfl) rfl ?_
 refine ad aa 1 rfl ?_
 refine af ?_
 refine aj rfl (fun hno=>by cases hno) (fun _=>?_)
 refine aP ?_
 refine aF aa 2 rfl ?_
 obtain ⟨b20,y20,o20,f20,hr0⟩:∃ (b20:Bk) (y20:List (List Int)) (o20:List Answer) (f20:cY),fH s l=(b20,y20,o20,f20):=⟨_,_,_,_,rfl⟩
 have hlo:f20.err=0->o20.length=l.length:=fun h=>(AA hr0 h).1
 refine aQ 1 [0] (bX 1 (Fn.frozen (av':=(.t [(.g [(cI b20.time),(cB b20.down),(iN b20.aq),(dr b20.due),(iu b20.ax),(cI b20.s0.bz),(cw b20.s0.kept),(cI b20.s1.bz),(cw b20.s1.kept),(cI b20.n0),(cI b20.n1),(cW b20.w0),(cW b20.w1),(cI b20.ba.cap),(dr b20.ba.used),(ei b20.ba.aT),(eP b20.aR),(iM y20),(de b20.book)]),(.c (BR o20)),(.g [(cI f20.err),(cI f20.at_)])])) (vu s l b20 y20 o20 f20 hr0) ⟨⟨.inl ⟨_,rfl,rfl⟩,.inl ⟨_,rfl,rfl⟩,.inr ⟨_,_,_,_,_,rfl,rfl,rfl,by simp⟩,.inr ⟨_,_,_,_,_,rfl,rfl,rfl,by simp⟩,.inr ⟨_,_,_,_,_,rfl,rfl,rfl,by simp⟩,.inl ⟨_,rfl,rfl⟩,.inl ⟨_,rfl,rfl⟩,.inl ⟨_,rfl,rfl⟩,.inl ⟨_,rfl,rfl⟩,.inl ⟨_,rfl,rfl⟩,.inl ⟨_,rfl,rfl⟩,.inl ⟨_,rfl,rfl⟩,.inl ⟨_,rfl,rfl⟩,.inl ⟨_,rfl,rfl⟩,.inl ⟨_,rfl,rfl⟩,.inl ⟨_,rfl,rfl⟩,.inr ⟨_,_,_,_,_,rfl,rfl,rfl,by simp⟩,.inr ⟨_,_,_,_,_,rfl,rfl,rfl,by simp⟩,.inl ⟨_,rfl,rfl⟩,trivial⟩,.inr ⟨_,_,_,_,_,rfl,rfl,rfl,by simp⟩,⟨.inl ⟨_,rfl,rfl⟩,.inl ⟨_,rfl,rfl⟩,trivial⟩,trivial⟩) Bo rfl rfl ⟨⟨_,rfl,.g ⟨.d _,.d _,.d _,trivial⟩⟩,⟨_,rfl,.c (.d _)⟩,trivial⟩ ⟨⟨trivial,trivial,trivial,trivial,trivial,trivial,trivial,trivial,trivial,trivial,trivial,trivial,trivial,trivial,trivial,trivial,trivial,trivial,trivial,trivial⟩,trivial,⟨trivial,trivial,trivial⟩,trivial⟩ trivial rfl rfl rfl rfl) rfl ?_
 refine ad aa 9 rfl ?_
 refine af ?_
 refine aF aa 1 rfl ?_
 refine aA (bQ rfl rfl rfl rfl rfl Try.underlying24) rfl ?_
 refine aA (aK rfl rfl rfl (aL (by first|omega|(simp;done)|(simp;omega)))) rfl ?_
 refine ad aa 1 rfl ?_
 refine af ?_
 refine ag ?_
 refine aF aa 4 rfl ?_
 refine bE (t:=26) rfl (fun hb2=>?_) (fun hb2=>?_)
 ·
  have hb2':=of_decide_eq_true hb2
  refine ad aa 11 rfl ?_
  refine af ?_
  refine aj rfl (fun _=>?_) (fun hno=>by cases hno)
  refine ae aa 1 rfl ?_
  refine ay ?_
  refine ar ?_
  refine an aa [] 0 rfl rfl rfl rfl rfl rfl ?_ ?_
  ·rfl
  ·rfl
 have hb2':=of_decide_eq_false hb2
 refine ad aa 4 rfl ?_
 refine bE (t:=30) rfl (fun hb4=>?_) (fun hb4=>?_)
 ·
  have hb4':=of_decide_eq_true hb4
  refine ad aa 7 rfl ?_
  refine af ?_
  refine aj rfl (fun _=>?_) (fun hno=>by cases hno)
  refine ae aa 1 rfl ?_
  refine ay ?_
  refine ar ?_
  refine an aa [] 0 rfl rfl rfl rfl rfl rfl ?_ ?_
  ·rfl
  ·rfl
 have hb4':=of_decide_eq_false hb4
 refine ad aa 2 rfl ?_
 obtain ⟨x1,hx1⟩:=cb (xs:=o20) (i:=(l.length) - 1) (by first|omega|(simp;done)|(simp;omega))
 refine cC (ah.yes rfl rfl rfl) (ca (i:=(l.length) - 1) rfl rfl rfl Try.underlying47 CZ (by first|omega|(simp;done)|(simp;omega)) (bf hx1)) rfl rfl ?_
 refine ad aa 4 rfl ?_
 refine af ?_
 refine aj rfl (fun hc6=>?_) (fun hc6=>?_)
 ·
  have hc6':=of_decide_eq_true hc6
  refine ae aa 1 rfl ?_
  refine ay ?_
  refine ar ?_
  refine an aa [] 0 rfl rfl rfl rfl rfl rfl ?_ ?_
  ·rfl
  ·rfl
 have hc6':=of_decide_eq_false hc6
 refine aP ?_
 obtain ⟨p9,g9,hp9,hg9⟩:=xB hr0 (by omega) (by omega) hx1 (by omega)
 refine ag ?_
 have hr1:fH s (((l).drop 0).take (((l.length) - 1) - 0))=(b20,y20,p9,g9):=(by simpa using hp9)
 refine dd [1,2,5,7,8] [2,1,0] mixed rfl rfl ?_
 refine bP (kn:=[]) aa 3 rfl trivial ?_
 refine bU (n':=3) [40,41] [] rfl rfl (.inl ⟨(ah.plain rfl),aE.cast (pZ (l:=0) (h:=(l.length) - 1) (ys:=(((l).drop 0).take (((l.length) - 1) - 0)).map df) rfl Try.underlying24 Dc rfl (.inl ⟨rfl,rfl⟩) (.inr ⟨_,rfl,(vc rfl (by first|omega|(simp;done)|(simp;omega)))⟩) (by first|omega|(simp;done)|(simp;omega)) (by first|omega|(simp;done)|(simp;omega)) (by simp)) rfl⟩) rfl ?_
 refine bU (n':=3) [39,42] [] rfl rfl (.inl ⟨(ah.plain rfl),aE.cast (bX 3 (Fn.frozen (av':=(.t [(.g [(cI b20.time),(cB b20.down),(iN b20.aq),(dr b20.due),(iu b20.ax),(cI b20.s0.bz),(cw b20.s0.kept),(cI b20.s1.bz),(cw b20.s1.kept),(cI b20.n0),(cI b20.n1),(cW b20.w0),(cW b20.w1),(cI b20.ba.cap),(dr b20.ba.used),(ei b20.ba.aT),(eP b20.aR),(iM y20),(de b20.book)]),(.c (BR p9)),(.g [(cI g9.err),(cI g9.at_)])])) (vu s (((l).drop 0).take (((l.length) - 1) - 0)) b20 y20 p9 g9 hr1) ⟨⟨.inl ⟨_,rfl,rfl⟩,.inl ⟨_,rfl,rfl⟩,.inr ⟨_,_,_,_,_,rfl,rfl,rfl,by simp⟩,.inr ⟨_,_,_,_,_,rfl,rfl,rfl,by simp⟩,.inr ⟨_,_,_,_,_,rfl,rfl,rfl,by simp⟩,.inl ⟨_,rfl,rfl⟩,.inl ⟨_,rfl,rfl⟩,.inl ⟨_,rfl,rfl⟩,.inl ⟨_,rfl,rfl⟩,.inl ⟨_,rfl,rfl⟩,.inl ⟨_,rfl,rfl⟩,.inl ⟨_,rfl,rfl⟩,.inl ⟨_,rfl,rfl⟩,.inl ⟨_,rfl,rfl⟩,.inl ⟨_,rfl,rfl⟩,.inl ⟨_,rfl,rfl⟩,.inr ⟨_,_,_,_,_,rfl,rfl,rfl,by simp⟩,.inr ⟨_,_,_,_,_,rfl,rfl,rfl,by simp⟩,.inl ⟨_,rfl,rfl⟩,trivial⟩,.inr ⟨_,_,_,_,_,rfl,rfl,rfl,by simp⟩,⟨.inl ⟨_,rfl,rfl⟩,.inl ⟨_,rfl,rfl⟩,trivial⟩,trivial⟩) Bo rfl rfl ⟨⟨_,rfl,.g ⟨.d _,.d _,.d _,trivial⟩⟩,⟨_,rfl,.c (.d _)⟩,trivial⟩ ⟨⟨trivial,trivial,trivial,trivial,trivial,trivial,trivial,trivial,trivial,trivial,trivial,trivial,trivial,trivial,trivial,trivial,trivial,trivial,trivial,trivial⟩,trivial,⟨trivial,trivial,trivial⟩,trivial⟩ trivial rfl rfl rfl rfl) rfl⟩) rfl ?_
 refine bP (n':=4) (kn:=[]) aa 8 rfl trivial ?_
 refine dJ [5,7,9] [2,3,1] rfl rfl (by kernel_rfl) ?_
 refine then_ok ?_
 refine ck 4 ((decide (g9.err=0))||false) ?_ ?_
 ·
  refine aw ?_
  refine ad aa 4 rfl ?_
  refine bE (t:=50) rfl (fun hb7=>?_) (fun hb7=>?_)
  ·
   have hb7':=of_decide_eq_true hb7
   refine ad aa 2 rfl ?_
   refine oX 4 [2,3,1] (ah.yes rfl rfl rfl) (bX 4 (EA b20 y20) GO rfl rfl ⟨⟨_,rfl,.g ⟨.d _,.d _,.d _,.d _,.d _,.d _,.d _,.d _,.d _,.d _,.d _,.d _,.d _,.d _,.d _,.d _,.d _,.d _,.d _,trivial⟩⟩,⟨_,rfl,.g ⟨.d _,.d _,.d _,.d _,.d _,.d _,.d _,.d _,.d _,.d _,.d _,.d _,.d _,.d _,.d _,.d _,.d _,.d _,.d _,trivial⟩⟩,trivial⟩ trivial trivial rfl rfl rfl rfl) rfl ?_
   refine ad aa 2 rfl ?_
   refine af ?_
   exact aH.bA 10 rfl rfl (by first|(simp [hb7];done)|(simp_all;done)|(exfalso;simp_all;done)|(simp_all;omega)) rfl
  have hb7':=of_decide_eq_false hb7
  refine ad aa 5 rfl ?_
  refine af ?_
  exact aH.bA 10 rfl rfl (by first|(simp [hb7];done)|(simp_all;done)|(exfalso;simp_all;done)|(simp_all;omega)) rfl
 refine ay ?_
 refine an aa [] 0 rfl rfl rfl rfl rfl rfl ?_ ?_
 ·exact congrArg aB (show ((decide (g9.err=0))||false)=true by (simp [hg9]))
 ·rfl
end Go.Proofs.Ytegepioggeggaaa.Dev
