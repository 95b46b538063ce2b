/- A part of the proof: Same1, Same2, PlLaw1, PlLaw2. No condition. -/
import Derived.Test.YtegepioggeggaaaD14
set_option linter.unusedVariables false
set_option linter.unusedSimpArgs false
set_option maxHeartbeats 8000000
set_option maxRecDepth 100000
namespace Go.Proofs.Ytegepioggeggaaa.Dev
open Go.RowKit


theorem Ff {P:Program} {st:aJ} {o:Oper} {t yt:TypeId} {x y:Operand} {a b:Bool} (hu:P.underlying t=some .bool) (ho:o.op=.binOp .neq t x y yt) (hx:ev st x (.v (.c (.d (.v (.bool a)))))) (hy:ev st y (.v (.c (.d (.v (.bool b)))))):aE P o st (.v (.c (.d (.v (.bool (!(a==b))))))) [] []:=
  aE.val fun σ T ac w C=>by
    have h1:=bm.inv (bD C hx)
    have h2:=bm.inv (bD C hy)
    refine ⟨_,?_,bm.v _ rfl⟩
    unfold execOp
    simp [ho,h1,h2,binOp,eqGuard,Op.equal,Op.maxDepth,run_equalIn_bool w 9999 t a b hu]
theorem DF {P:Program} {st:aJ} {o:Oper} {t yt:TypeId} {x y:Operand} {a:Bool} (hu:P.underlying t=some .bool) (ho:o.op=.binOp .neq t x y yt) (hx:ev st x (.v (.c (.d (.v (.bool a)))))) (hy:ev st y (.v (.c (.d (.v (.bool a)))))):aE P o st (aB false) [] []:=by
  have h:=Ff hu ho hx hy
  rw [show (!(a==a))=false by cases a<;>rfl] at h
  exact h
theorem FV (a b:Int) (w:World):(Op.equalIn 10000 36 (.agg #[.int .i64 a,.int .i64 b]) (.agg #[.int .i64 a,.int .i64 b])).run Try.prog w=.ok true w:=
  mN 9998 2 36 _ (.inr (.inr (.inr ⟨2,3,1,_,Try.underlying36,by kernel_rfl,rfl,fun j hj=>by
    rcases j with _|_|j
    ·exact ⟨.int .i64 a,mU Try.underlying3 rfl rfl,.inl ⟨_,_,_,Try.underlying3,rfl⟩⟩
    ·exact ⟨.int .i64 b,mU Try.underlying3 rfl rfl,.inl ⟨_,_,_,Try.underlying3,rfl⟩⟩
    ·omega⟩))) w


theorem BS (a b c d e : Int) (w : World) : (Op.equalIn 10000 113 (.agg #[.int .i64 a, .int .i64 b, .int .i64 c, .int .i64 d, .int .i64 e]) (.agg #[.int .i64 a, .int .i64 b, .int .i64 c, .int .i64 d, .int .i64 e])).run Try.prog w = .ok true w :=
  mN 9997 3 113 _ (.inr (.inr (.inl ⟨_, _, Try.underlying113, by kernel_rfl, rfl, fun f hf => by
    simp only [List.mem_cons, List.not_mem_nil, or_false] at hf
    rcases hf with rfl | rfl
    · refine ⟨by decide, .agg #[.int .i64 a, .int .i64 b, .int .i64 c, .int .i64 d], AD Try.underlying80 rfl jP rfl, .inr (.inr (.inl ⟨_, _, Try.underlying80, by kernel_rfl, rfl, fun f hf => ?_⟩))⟩
      simp only [List.mem_cons, List.not_mem_nil, or_false] at hf
      rcases hf with rfl | rfl | rfl | rfl <;> exact ⟨by decide, _, mU Try.underlying3 rfl rfl, .inl ⟨_, _, _, Try.underlying3, rfl⟩⟩
    · exact ⟨by decide, _, mU Try.underlying3 rfl rfl, .inl ⟨_, _, _, Try.underlying3, rfl⟩⟩⟩))) w

theorem yg (l:List dc):Fn Try.prog 57 [(.c (eC l)),(.c (eC l))] (aB true) []:=by
 refine Fn.mk' 26 [(0,(aC (eC l))),(1,(aC (eC l)))] Try.func57 rfl rfl rfl rfl ?_
 intro W0 T0
 refine dj 0 rfl (fun hlen0=>?_)
 refine dj 1 rfl (fun hlen1=>?_)
 refine ae aa 1 rfl ?_
 refine ag ?_
 refine aF aa 1 rfl ?_
 refine aA (bQ rfl rfl rfl rfl rfl Try.underlying59) rfl ?_
 refine ad aa 1 rfl ?_
 refine aA (bQ rfl rfl rfl rfl rfl Try.underlying59) rfl ?_
 refine aA (aK rfl rfl rfl (congrArg (fun b=>some (Value.bool b)) (decide_eq_false (fun h=>h rfl)))) rfl ?_
 refine af ?_
 refine aj rfl (fun hno=>by cases hno) (fun _=>?_)
 refine aP ?_
 refine ag ?_
 refine aF aa 1 rfl ?_
 refine aA (bQ rfl rfl rfl rfl rfl Try.underlying59) rfl ?_
 refine ad aa 1 rfl ?_
 refine af ?_
 refine aU ?_
 refine cj (β:=Nat) (fun (q:Nat)=>⟨[(0,(aC (eC l))),(1,(aC (eC l))),(12,(aI (↑l.length:Int))),(13,(aI (↑q:Int)))],[],0⟩) (fun (q:Nat)=>q<=l.length) (fun (q:Nat)=>l.length - q) 0 ?_ ?_ ?_
 ·exact (by first|omega|simp)
 ·exact aH.bS id (by refine ⟨?_,?_,?_,?_,trivial⟩<;>first|rfl|(simp only [bh];done)|(congr 3;omega)|(congr 4;omega)|(simp only [bj];rfl)) (trivial) rfl
 rintro q hi0_0
 refine ae aa 1 rfl ?_
 refine ag ?_
 refine aj rfl (fun hc2=>?_) (fun hc2=>?_)
 ·
  have hc2':=of_decide_eq_true hc2
  refine aP ?_
  refine ag ?_
  refine aU ?_
  refine ae aa 2 rfl ?_
  refine ag ?_
  obtain ⟨x1,hx1⟩:=cb (xs:=l) (i:=q) (by first|omega|(simp;done)|(simp;omega))
  refine aW [0,1,12,13,5] [] mixed rfl rfl ?_
  refine au (kn:=[]) aa 2 rfl trivial ?_
  refine aM (n':=0) [16,17] [] rfl rfl (.inl ⟨(ah.plain rfl),aE.cast (ca (i:=q) rfl rfl rfl Try.underlying59 gO (by first|omega|(simp;done)|(simp;omega)) (bf hx1)) rfl⟩) rfl ?_
  refine au (kn:=[]) aa 3 rfl trivial ?_
  refine aM (n':=0) [20,21] [] rfl rfl (.inl ⟨(ah.plain rfl),aE.cast (ca (i:=q) rfl rfl rfl Try.underlying59 gO (by first|omega|(simp;done)|(simp;omega)) (bf hx1)) rfl⟩) rfl ?_
  refine au (kn:=[]) aa 1 rfl trivial ?_
  refine aM (n':=0) [19,23] [] rfl rfl (.inl ⟨(ah.plain rfl),aE.cast (aE.cast (oN (Eo _ _ _ _) rfl rfl rfl rfl rfl rfl) (congrArg aB (show (!(eY [.int .i64 x1.time,.int .i64 x1.sum] [.int .i64 x1.time,.int .i64 x1.sum]))=false by simp [eY,jb]))) rfl⟩) rfl ?_
  refine br [] rfl rfl rfl rfl (by kernel_rfl) ?_
  refine af ?_
  refine aj rfl (fun hno=>by cases hno) (fun _=>?_)
  refine cG ?_
  refine bl ?_
  refine then_ok ?_
  refine aw ?_
  refine aA (aK rfl rfl rfl (aL (by first|omega|(simp;done)|(simp;omega)))) rfl ?_
  refine ad aa 1 rfl ?_
  refine af ?_
  refine ⟨q+1,by omega,by first|omega|(simp;done)|(simp;omega),aH.bS id (by refine ⟨?_,?_,?_,?_,trivial⟩<;>first|rfl|(simp only [bh];done)|(congr 3;omega)|(congr 4;omega)|(simp only [bj];rfl)) (trivial) rfl⟩
 have hc2':=of_decide_eq_false hc2
 refine bZ ?_
 refine aO ?_
 refine aO ?_
 refine bF ?_
 refine then_ok ?_
 refine ae aa 1 rfl ?_
 refine ay ?_
 refine an aa [] 0 rfl rfl rfl rfl rfl rfl ?_ ?_
 ·rfl
 ·rfl
theorem tD (l:List al):Fn Try.prog 36 [(.c (eP l)),(.c (eP l))] (aB true) []:=by
 refine Fn.mk' 26 [(0,(aC (eP l))),(1,(aC (eP l)))] Try.func36 rfl rfl rfl rfl ?_
 intro W0 T0
 refine dj 0 rfl (fun hlen0=>?_)
 refine dj 1 rfl (fun hlen1=>?_)
 refine ae aa 1 rfl ?_
 refine ag ?_
 refine aF aa 1 rfl ?_
 refine aA (bQ rfl rfl rfl rfl rfl Try.underlying42) rfl ?_
 refine ad aa 1 rfl ?_
 refine aA (bQ rfl rfl rfl rfl rfl Try.underlying42) rfl ?_
 refine aA (aK rfl rfl rfl (congrArg (fun b=>some (Value.bool b)) (decide_eq_false (fun h=>h rfl)))) rfl ?_
 refine af ?_
 refine aj rfl (fun hno=>by cases hno) (fun _=>?_)
 refine aP ?_
 refine ag ?_
 refine aF aa 1 rfl ?_
 refine aA (bQ rfl rfl rfl rfl rfl Try.underlying42) rfl ?_
 refine ad aa 1 rfl ?_
 refine af ?_
 refine aU ?_
 refine cj (β:=Nat) (fun (q:Nat)=>⟨[(0,(aC (eP l))),(1,(aC (eP l))),(12,(aI (↑l.length:Int))),(13,(aI (↑q:Int)))],[],0⟩) (fun (q:Nat)=>q<=l.length) (fun (q:Nat)=>l.length - q) 0 ?_ ?_ ?_
 ·exact (by first|omega|simp)
 ·exact aH.bS id (by refine ⟨?_,?_,?_,?_,trivial⟩<;>first|rfl|(simp only [bh];done)|(congr 3;omega)|(congr 4;omega)|(simp only [bj];rfl)) (trivial) rfl
 rintro q hi0_0
 refine ae aa 1 rfl ?_
 refine ag ?_
 refine aj rfl (fun hc2=>?_) (fun hc2=>?_)
 ·
  have hc2':=of_decide_eq_true hc2
  refine aP ?_
  refine ag ?_
  refine aU ?_
  refine ae aa 2 rfl ?_
  refine ag ?_
  obtain ⟨x1,hx1⟩:=cb (xs:=l) (i:=q) (by first|omega|(simp;done)|(simp;omega))
  refine aW [0,1,12,13,5] [] mixed rfl rfl ?_
  refine au (kn:=[]) aa 2 rfl trivial ?_
  refine aM (n':=0) [16,17] [] rfl rfl (.inl ⟨(ah.plain rfl),aE.cast (ca (i:=q) rfl rfl rfl Try.underlying42 dp (by first|omega|(simp;done)|(simp;omega)) (bf hx1)) rfl⟩) rfl ?_
  refine au (kn:=[]) aa 3 rfl trivial ?_
  refine aM (n':=0) [20,21] [] rfl rfl (.inl ⟨(ah.plain rfl),aE.cast (ca (i:=q) rfl rfl rfl Try.underlying42 dp (by first|omega|(simp;done)|(simp;omega)) (bf hx1)) rfl⟩) rfl ?_
  refine au (kn:=[]) aa 1 rfl trivial ?_
  refine aM (n':=0) [19,23] [] rfl rfl (.inl ⟨(ah.plain rfl),aE.cast (aE.cast (oN (Fz _ _ _ _ _ _ _ _) rfl rfl rfl rfl rfl rfl) (congrArg aB (show (!(eY [.int .i64 x1.aD,.int .i64 x1.aZ,.int .i64 x1.kind,.int .i64 x1.sum] [.int .i64 x1.aD,.int .i64 x1.aZ,.int .i64 x1.kind,.int .i64 x1.sum]))=false by simp [eY,jb]))) rfl⟩) rfl ?_
  refine br [] rfl rfl rfl rfl (by kernel_rfl) ?_
  refine af ?_
  refine aj rfl (fun hno=>by cases hno) (fun _=>?_)
  refine cG ?_
  refine bl ?_
  refine then_ok ?_
  refine aw ?_
  refine aA (aK rfl rfl rfl (aL (by first|omega|(simp;done)|(simp;omega)))) rfl ?_
  refine ad aa 1 rfl ?_
  refine af ?_
  refine ⟨q+1,by omega,by first|omega|(simp;done)|(simp;omega),aH.bS id (by refine ⟨?_,?_,?_,?_,trivial⟩<;>first|rfl|(simp only [bh];done)|(congr 3;omega)|(congr 4;omega)|(simp only [bj];rfl)) (trivial) rfl⟩
 have hc2':=of_decide_eq_false hc2
 refine bZ ?_
 refine aO ?_
 refine aO ?_
 refine bF ?_
 refine then_ok ?_
 refine ae aa 1 rfl ?_
 refine ay ?_
 refine an aa [] 0 rfl rfl rfl rfl rfl rfl ?_ ?_
 ·rfl
 ·rfl
theorem yi (l:List Entry):Fn Try.prog 47 [(.c (de l)),(.c (de l))] (aB true) []:=by
 refine Fn.mk' 26 [(0,(aC (de l))),(1,(aC (de l)))] Try.func47 rfl rfl rfl rfl ?_
 intro W0 T0
 refine dj 0 rfl (fun hlen0=>?_)
 refine dj 1 rfl (fun hlen1=>?_)
 refine ae aa 1 rfl ?_
 refine ag ?_
 refine aF aa 1 rfl ?_
 refine aA (bQ rfl rfl rfl rfl rfl Try.underlying44) rfl ?_
 refine ad aa 1 rfl ?_
 refine aA (bQ rfl rfl rfl rfl rfl Try.underlying44) rfl ?_
 refine aA (aK rfl rfl rfl (congrArg (fun b=>some (Value.bool b)) (decide_eq_false (fun h=>h rfl)))) rfl ?_
 refine af ?_
 refine aj rfl (fun hno=>by cases hno) (fun _=>?_)
 refine aP ?_
 refine ag ?_
 refine aF aa 1 rfl ?_
 refine aA (bQ rfl rfl rfl rfl rfl Try.underlying44) rfl ?_
 refine ad aa 1 rfl ?_
 refine af ?_
 refine aU ?_
 refine cj (β:=Nat) (fun (q:Nat)=>⟨[(0,(aC (de l))),(1,(aC (de l))),(12,(aI (↑l.length:Int))),(13,(aI (↑q:Int)))],[],0⟩) (fun (q:Nat)=>q<=l.length) (fun (q:Nat)=>l.length - q) 0 ?_ ?_ ?_
 ·exact (by first|omega|simp)
 ·exact aH.bS id (by refine ⟨?_,?_,?_,?_,trivial⟩<;>first|rfl|(simp only [bh];done)|(congr 3;omega)|(congr 4;omega)|(simp only [bj];rfl)) (trivial) rfl
 rintro q hi0_0
 refine ae aa 1 rfl ?_
 refine ag ?_
 refine aj rfl (fun hc2=>?_) (fun hc2=>?_)
 ·
  have hc2':=of_decide_eq_true hc2
  refine aP ?_
  refine ag ?_
  refine aU ?_
  refine ae aa 2 rfl ?_
  refine ag ?_
  obtain ⟨x1,hx1⟩:=cb (xs:=l) (i:=q) (by first|omega|(simp;done)|(simp;omega))
  refine aW [0,1,12,13,5] [] mixed rfl rfl ?_
  refine au (kn:=[]) aa 2 rfl trivial ?_
  refine aM (n':=0) [16,17] [] rfl rfl (.inl ⟨(ah.plain rfl),aE.cast (ca (i:=q) rfl rfl rfl Try.underlying44 dU (by first|omega|(simp;done)|(simp;omega)) (bf hx1)) rfl⟩) rfl ?_
  refine au (kn:=[]) aa 3 rfl trivial ?_
  refine aM (n':=0) [20,21] [] rfl rfl (.inl ⟨(ah.plain rfl),aE.cast (ca (i:=q) rfl rfl rfl Try.underlying44 dU (by first|omega|(simp;done)|(simp;omega)) (bf hx1)) rfl⟩) rfl ?_
  refine au (kn:=[]) aa 1 rfl trivial ?_
  refine aM (n':=0) [19,23] [] rfl rfl (.inl ⟨(ah.plain rfl),aE.cast (aE.cast (oN (Ep _ _ _ _) rfl rfl rfl rfl rfl rfl) (congrArg aB (show (!(eY [.int .i64 x1.aV,.int .i64 x1.sum] [.int .i64 x1.aV,.int .i64 x1.sum]))=false by simp [eY,jb]))) rfl⟩) rfl ?_
  refine br [] rfl rfl rfl rfl (by kernel_rfl) ?_
  refine af ?_
  refine aj rfl (fun hno=>by cases hno) (fun _=>?_)
  refine cG ?_
  refine bl ?_
  refine then_ok ?_
  refine aw ?_
  refine aA (aK rfl rfl rfl (aL (by first|omega|(simp;done)|(simp;omega)))) rfl ?_
  refine ad aa 1 rfl ?_
  refine af ?_
  refine ⟨q+1,by omega,by first|omega|(simp;done)|(simp;omega),aH.bS id (by refine ⟨?_,?_,?_,?_,trivial⟩<;>first|rfl|(simp only [bh];done)|(congr 3;omega)|(congr 4;omega)|(simp only [bj];rfl)) (trivial) rfl⟩
 have hc2':=of_decide_eq_false hc2
 refine bZ ?_
 refine aO ?_
 refine aO ?_
 refine bF ?_
 refine then_ok ?_
 refine ae aa 1 rfl ?_
 refine ay ?_
 refine an aa [] 0 rfl rfl rfl rfl rfl rfl ?_ ?_
 ·rfl
 ·rfl
theorem yh (c:bI):Fn Try.prog 48 [(.g [(cI c.bJ),(cI c.held),(cI c.bV.cD),(cI c.bV.count),(cI c.bV.sum),(eC c.cT)]),(.g [(cI c.bJ),(cI c.held),(cI c.bV.cD),(cI c.bV.count),(cI c.bV.sum),(eC c.cT)])] (aB true) []:=by
 refine Fn.mk' 31 [(0,(aG [(cI c.bJ),(cI c.held),(cI c.bV.cD),(cI c.bV.count),(cI c.bV.sum),(eC c.cT)])),(1,(aG [(cI c.bJ),(cI c.held),(cI c.bV.cD),(cI c.bV.count),(cI c.bV.sum),(eC c.cT)]))] Try.func48 rfl rfl rfl rfl ?_
 intro W0 T0
 refine cz 0 5 rfl rfl (fun hlen0_5=>?_)
 refine cz 1 5 rfl rfl (fun hlen1_5=>?_)
 refine ae aa 3 rfl ?_
 refine ck 4 (true) ?_ ?_
 ·
  refine aw ?_
  refine ad aa 4 rfl ?_
  refine aA (aK rfl rfl rfl (congrArg (fun b=>some (Value.bool b)) (decide_eq_true rfl))) rfl ?_
  refine ad aa 5 rfl ?_
  refine cC (ah.yes rfl rfl rfl) (aK rfl rfl rfl (congrArg (fun b=>some (Value.bool b)) (decide_eq_true rfl))) rfl rfl ?_
  refine ad aa 6 rfl ?_
  refine cC (ah.yes rfl rfl rfl) (aE.cast (Fg (FC _ _ _ _ _ _) rfl rfl rfl rfl rfl rfl) (congrArg aB (show ((eY [.int .i64 c.bV.cD,.int .i64 c.bV.count,.int .i64 c.bV.sum] [.int .i64 c.bV.cD,.int .i64 c.bV.count,.int .i64 c.bV.sum]))=true by simp [eY,jb]))) rfl rfl ?_
  refine ad aa 6 rfl ?_
  refine oX 2 [1,0] (ah.yes rfl rfl rfl) (bX 2 (yg c.cT) GB rfl rfl ⟨⟨_,rfl,.c (.d _)⟩,⟨_,rfl,.c (.d _)⟩,trivial⟩ trivial trivial rfl rfl rfl rfl) rfl ?_
  refine ad aa 2 rfl ?_
  refine af ?_
  exact aH.bA 27 rfl rfl (by first|(simp [];done)|(simp_all;done)|(exfalso;simp_all;done)|(simp_all;omega)) rfl
 refine ay ?_
 refine an aa [] 0 rfl rfl rfl rfl rfl rfl ?_ ?_
 ·rfl
 ·rfl
theorem oy (s:bY):Fn Try.prog 49 [(.g [(cI s.bz),(cw s.kept)]),(.g [(cI s.bz),(cw s.kept)])] (aB true) []:=by
 refine Fn.mk' 38 [(0,(aG [(cI s.bz),(cw s.kept)])),(1,(aG [(cI s.bz),(cw s.kept)]))] Try.func49 rfl rfl rfl rfl ?_
 intro W0 T0
 refine cz 0 1 rfl rfl (fun hlen0_1=>?_)
 refine cz 1 1 rfl rfl (fun hlen1_1=>?_)
 refine ae aa 3 rfl ?_
 refine ag ?_
 refine ck 19 (false) ?_ ?_
 ·
  refine aw ?_
  refine ad aa 4 rfl ?_
  refine aA (aK rfl rfl rfl (congrArg (fun b=>some (Value.bool b)) (decide_eq_false (fun h=>h rfl)))) rfl ?_
  refine ad aa 3 rfl ?_
  refine cC (ah.yes rfl rfl rfl) (bQ rfl rfl rfl rfl rfl Try.underlying32) rfl rfl ?_
  refine ad aa 2 rfl ?_
  refine cC (ah.yes rfl rfl rfl) (bQ rfl rfl rfl rfl rfl Try.underlying32) rfl rfl ?_
  refine cC (ah.yes rfl rfl rfl) (aK rfl rfl rfl (congrArg (fun b=>some (Value.bool b)) (decide_eq_false (fun h=>h rfl)))) rfl rfl ?_
  refine ad aa 1 rfl ?_
  refine af ?_
  exact aH.bA 14 rfl rfl (by first|(simp [];done)|(simp_all;done)|(exfalso;simp_all;done)|(simp_all;omega)) rfl
 refine aj rfl (fun hno=>by cases hno) (fun _=>?_)
 refine aP ?_
 refine ag ?_
 refine aF aa 2 rfl ?_
 refine aA (bQ rfl rfl rfl rfl rfl Try.underlying32) rfl ?_
 refine ad aa 1 rfl ?_
 refine af ?_
 refine aU ?_
 refine cj (β:=Nat) (fun (q:Nat)=>⟨[(2,(aC (.p 0 0 0 0))),(3,(aC (.p 1 0 0 0))),(22,(aI (↑s.kept.length:Int))),(23,(aI (↑q:Int)))],[(1,(.box 34 [(cI s.bz),(cw s.kept)])),(0,(.box 34 [(cI s.bz),(cw s.kept)]))],2⟩) (fun (q:Nat)=>q<=s.kept.length) (fun (q:Nat)=>s.kept.length - q) 0 ?_ ?_ ?_
 ·exact (by first|omega|simp)
 ·exact aH.bS id (by refine ⟨?_,?_,?_,?_,trivial⟩<;>first|rfl|(simp only [bh];done)|(congr 3;omega)|(congr 4;omega)|(simp only [bj];rfl)) (by refine ⟨?_,?_,trivial⟩<;>first|rfl|(simp only [bh];done)|(congr 3;omega)|(congr 4;omega)|(simp only [bj];rfl)) rfl
 rintro q hi0_0
 refine ae aa 1 rfl ?_
 refine ag ?_
 refine aj rfl (fun hc2=>?_) (fun hc2=>?_)
 ·
  have hc2':=of_decide_eq_true hc2
  refine aP ?_
  refine ag ?_
  refine aU ?_
  refine ae aa 2 rfl ?_
  refine ag ?_
  obtain ⟨x1,hx1⟩:=cb (xs:=s.kept) (i:=q) (by first|omega|(simp;done)|(simp;omega))
  refine aW [2,3,22,23,5] [1,0] mixed rfl rfl ?_
  refine au (kn:=[]) aa 3 rfl trivial ?_
  refine aM (n':=2) [27,28] [] rfl rfl (.inl ⟨(ah.plain rfl),aE.cast (ca (i:=q) rfl rfl rfl Try.underlying32 jP (by first|omega|(simp;done)|(simp;omega)) (bf hx1)) rfl⟩) rfl ?_
  refine au (kn:=[]) aa 4 rfl trivial ?_
  refine aM (n':=2) [32,33] [] rfl rfl (.inl ⟨(ah.plain rfl),aE.cast (ca (i:=q) rfl rfl rfl Try.underlying32 jP (by first|omega|(simp;done)|(simp;omega)) (bf hx1)) rfl⟩) rfl ?_
  refine au (kn:=[]) aa 1 rfl trivial ?_
  refine aM (n':=2) [30,35] [] rfl rfl (.inl ⟨(ah.plain rfl),aE.cast (aE.cast (oN (FA _ _ _ _ _ _ _ _) rfl rfl rfl rfl rfl rfl) (congrArg aB (show (!(eY [.int .i64 x1.number,.int .i64 x1.kind,.int .i64 x1.aZ,.int .i64 x1.sum] [.int .i64 x1.number,.int .i64 x1.kind,.int .i64 x1.aZ,.int .i64 x1.sum]))=false by simp [eY,jb]))) rfl⟩) rfl ?_
  refine br [1,0] rfl rfl rfl rfl (by kernel_rfl) ?_
  refine af ?_
  refine aj rfl (fun hno=>by cases hno) (fun _=>?_)
  refine cG ?_
  refine bl ?_
  refine then_ok ?_
  refine aw ?_
  refine aA (aK rfl rfl rfl (aL (by first|omega|(simp;done)|(simp;omega)))) rfl ?_
  refine ad aa 1 rfl ?_
  refine af ?_
  refine ⟨q+1,by omega,by first|omega|(simp;done)|(simp;omega),aH.bS id (by refine ⟨?_,?_,?_,?_,trivial⟩<;>first|rfl|(simp only [bh];done)|(congr 3;omega)|(congr 4;omega)|(simp only [bj];rfl)) (by refine ⟨?_,?_,trivial⟩<;>first|rfl|(simp only [bh];done)|(congr 3;omega)|(congr 4;omega)|(simp only [bj];rfl)) rfl⟩
 have hc2':=of_decide_eq_false hc2
 refine bZ ?_
 refine aO ?_
 refine aO ?_
 refine bF ?_
 refine then_ok ?_
 refine ae aa 1 rfl ?_
 refine ay ?_
 refine an aa [] 0 rfl rfl rfl rfl rfl rfl ?_ ?_
 ·rfl
 ·rfl
theorem wg (s:cA):Fn Try.prog 46 [(.g [(cI s.cap),(dr s.used),(ei s.aT)]),(.g [(cI s.cap),(dr s.used),(ei s.aT)])] (aB true) []:=by
 refine Fn.mk' 66 [(0,(aG [(cI s.cap),(dr s.used),(ei s.aT)])),(1,(aG [(cI s.cap),(dr s.used),(ei s.aT)]))] Try.func46 rfl rfl rfl rfl ?_
 intro W0 T0
 refine cz 0 1 rfl rfl (fun hlen0_1=>?_)
 refine cz 0 2 rfl rfl (fun hlen0_2=>?_)
 refine cz 1 1 rfl rfl (fun hlen1_1=>?_)
 refine cz 1 2 rfl rfl (fun hlen1_2=>?_)
 refine ae aa 3 rfl ?_
 refine ag ?_
 refine ck 29 (false) ?_ ?_
 ·
  refine aw ?_
  refine ad aa 4 rfl ?_
  refine aA (aK rfl rfl rfl (congrArg (fun b=>some (Value.bool b)) (decide_eq_false (fun h=>h rfl)))) rfl ?_
  refine ad aa 3 rfl ?_
  refine cC (ah.yes rfl rfl rfl) (bQ rfl rfl rfl rfl rfl Try.underlying30) rfl rfl ?_
  refine ad aa 2 rfl ?_
  refine cC (ah.yes rfl rfl rfl) (bQ rfl rfl rfl rfl rfl Try.underlying30) rfl rfl ?_
  refine cC (ah.yes rfl rfl rfl) (aK rfl rfl rfl (congrArg (fun b=>some (Value.bool b)) (decide_eq_false (fun h=>h rfl)))) rfl rfl ?_
  refine ad aa 4 rfl ?_
  refine cC (ah.yes rfl rfl rfl) (bQ rfl rfl rfl rfl rfl Try.underlying39) rfl rfl ?_
  refine ad aa 2 rfl ?_
  refine cC (ah.yes rfl rfl rfl) (bQ rfl rfl rfl rfl rfl Try.underlying39) rfl rfl ?_
  refine cC (ah.yes rfl rfl rfl) (aK rfl rfl rfl (congrArg (fun b=>some (Value.bool b)) (decide_eq_false (fun h=>h rfl)))) rfl rfl ?_
  refine ad aa 1 rfl ?_
  refine af ?_
  exact aH.bA 23 rfl rfl (by first|(simp [];done)|(simp_all;done)|(exfalso;simp_all;done)|(simp_all;omega)) rfl
 refine aj rfl (fun hno=>by cases hno) (fun _=>?_)
 refine aP ?_
 refine ag ?_
 refine aF aa 2 rfl ?_
 refine aA (bQ rfl rfl rfl rfl rfl Try.underlying30) rfl ?_
 refine ad aa 1 rfl ?_
 refine af ?_
 refine aU ?_
 refine cj (β:=Nat) (fun (q:Nat)=>⟨[(2,(aC (.p 0 0 0 0))),(3,(aC (.p 1 0 0 0))),(32,(aI (↑s.used.length:Int))),(33,(aI (↑q:Int)))],[(1,(.box 41 [(cI s.cap),(dr s.used),(ei s.aT)])),(0,(.box 41 [(cI s.cap),(dr s.used),(ei s.aT)]))],2⟩) (fun (q:Nat)=>q<=s.used.length) (fun (q:Nat)=>s.used.length - q) 0 ?_ ?_ ?_
 ·exact (by first|omega|simp)
 ·exact aH.bS id (by refine ⟨?_,?_,?_,?_,trivial⟩<;>first|rfl|(simp only [bh];done)|(congr 3;omega)|(congr 4;omega)|(simp only [bj];rfl)) (by refine ⟨?_,?_,trivial⟩<;>first|rfl|(simp only [bh];done)|(congr 3;omega)|(congr 4;omega)|(simp only [bj];rfl)) rfl
 rintro q hi0_0
 refine ae aa 1 rfl ?_
 refine ag ?_
 refine aj rfl (fun hc2=>?_) (fun hc2=>?_)
 ·
  have hc2':=of_decide_eq_true hc2
  refine aP ?_
  refine ag ?_
  refine aU ?_
  refine ae aa 2 rfl ?_
  refine ag ?_
  obtain ⟨x1,hx1⟩:=cb (xs:=s.used) (i:=q) (by first|omega|(simp;done)|(simp;omega))
  refine aW [2,3,32,33,5] [1,0] mixed rfl rfl ?_
  refine au (kn:=[]) aa 3 rfl trivial ?_
  refine aM (n':=2) [37,38] [] rfl rfl (.inl ⟨(ah.plain rfl),aE.cast (ca (i:=q) rfl rfl rfl Try.underlying30 fF (by first|omega|(simp;done)|(simp;omega)) (bf hx1)) rfl⟩) rfl ?_
  refine au (kn:=[]) aa 4 rfl trivial ?_
  refine aM (n':=2) [42,43] [] rfl rfl (.inl ⟨(ah.plain rfl),aE.cast (ca (i:=q) rfl rfl rfl Try.underlying30 fF (by first|omega|(simp;done)|(simp;omega)) (bf hx1)) rfl⟩) rfl ?_
  refine au (kn:=[(46,false)]) aa 2 rfl ⟨(decide_eq_false (fun h=>h rfl)),trivial⟩ ?_
  refine br [1,0] rfl rfl rfl rfl (by kernel_rfl) ?_
  refine af ?_
  refine aj rfl (fun hno=>by cases hno) (fun _=>?_)
  refine cG ?_
  refine bl ?_
  refine then_ok ?_
  refine aw ?_
  refine aA (aK rfl rfl rfl (aL (by first|omega|(simp;done)|(simp;omega)))) rfl ?_
  refine ad aa 1 rfl ?_
  refine af ?_
  refine ⟨q+1,by omega,by first|omega|(simp;done)|(simp;omega),aH.bS id (by refine ⟨?_,?_,?_,?_,trivial⟩<;>first|rfl|(simp only [bh];done)|(congr 3;omega)|(congr 4;omega)|(simp only [bj];rfl)) (by refine ⟨?_,?_,trivial⟩<;>first|rfl|(simp only [bh];done)|(congr 3;omega)|(congr 4;omega)|(simp only [bj];rfl)) rfl⟩
 have hc2':=of_decide_eq_false hc2
 refine bZ ?_
 refine aO ?_
 refine aO ?_
 refine bF ?_
 refine then_ok ?_
 refine ag ?_
 refine aF aa 2 rfl ?_
 refine aA (bQ rfl rfl rfl rfl rfl Try.underlying39) rfl ?_
 refine ad aa 1 rfl ?_
 refine af ?_
 refine aU ?_
 refine cj (β:=Nat) (fun (q1:Nat)=>⟨[(2,(aC (.p 0 0 0 0))),(3,(aC (.p 1 0 0 0))),(32,(aI (↑s.used.length:Int))),(33,(aI (↑q:Int))),(50,(aI (↑s.aT.length:Int))),(51,(aI (↑q1:Int)))],[(1,(.box 41 [(cI s.cap),(dr s.used),(ei s.aT)])),(0,(.box 41 [(cI s.cap),(dr s.used),(ei s.aT)]))],2⟩) (fun (q1:Nat)=>q1<=s.aT.length) (fun (q1:Nat)=>s.aT.length - q1) 0 ?_ ?_ ?_
 ·exact (by first|omega|simp)
 ·exact aH.bS id (by refine ⟨?_,?_,?_,?_,?_,?_,trivial⟩<;>first|rfl|(simp only [bh];done)|(congr 3;omega)|(congr 4;omega)|(simp only [bj];rfl)) (by refine ⟨?_,?_,trivial⟩<;>first|rfl|(simp only [bh];done)|(congr 3;omega)|(congr 4;omega)|(simp only [bj];rfl)) rfl
 rintro q1 hi1_0
 refine ae aa 1 rfl ?_
 refine ag ?_
 refine aj rfl (fun hc4=>?_) (fun hc4=>?_)
 ·
  have hc4':=of_decide_eq_true hc4
  refine aP ?_
  refine ag ?_
  refine aU ?_
  refine ae aa 2 rfl ?_
  refine ag ?_
  obtain ⟨x1,hx1⟩:=cb (xs:=s.aT) (i:=q1) (by first|omega|(simp;done)|(simp;omega))
  refine aW [2,3,32,33,50,51,6] [1,0] mixed rfl rfl ?_
  refine au (kn:=[]) aa 3 rfl trivial ?_
  refine aM (n':=2) [55,56] [] rfl rfl (.inl ⟨(ah.plain rfl),aE.cast (ca (i:=q1) rfl rfl rfl Try.underlying39 tH (by first|omega|(simp;done)|(simp;omega)) (bf hx1)) rfl⟩) rfl ?_
  refine au (kn:=[]) aa 4 rfl trivial ?_
  refine aM (n':=2) [60,61] [] rfl rfl (.inl ⟨(ah.plain rfl),aE.cast (ca (i:=q1) rfl rfl rfl Try.underlying39 tH (by first|omega|(simp;done)|(simp;omega)) (bf hx1)) rfl⟩) rfl ?_
  refine au (kn:=[]) aa 1 rfl trivial ?_
  refine aM (n':=2) [58,63] [] rfl rfl (.inl ⟨(ah.plain rfl),aE.cast (aE.cast (oN (Er _ _ _ _ _ _ _ _) rfl rfl rfl rfl rfl rfl) (congrArg aB (show (!(eY [.int .i64 x1.aN,.int .i64 x1.aD,.int .i64 x1.sum,.int .i64 x1.time] [.int .i64 x1.aN,.int .i64 x1.aD,.int .i64 x1.sum,.int .i64 x1.time]))=false by simp [eY,jb]))) rfl⟩) rfl ?_
  refine br [1,0] rfl rfl rfl rfl (by kernel_rfl) ?_
  refine af ?_
  refine aj rfl (fun hno=>by cases hno) (fun _=>?_)
  refine cG ?_
  refine bl ?_
  refine then_ok ?_
  refine aw ?_
  refine aA (aK rfl rfl rfl (aL (by first|omega|(simp;done)|(simp;omega)))) rfl ?_
  refine ad aa 1 rfl ?_
  refine af ?_
  refine ⟨q1+1,by omega,by first|omega|(simp;done)|(simp;omega),aH.bS id (by refine ⟨?_,?_,?_,?_,?_,?_,trivial⟩<;>first|rfl|(simp only [bh];done)|(congr 3;omega)|(congr 4;omega)|(simp only [bj];rfl)) (by refine ⟨?_,?_,trivial⟩<;>first|rfl|(simp only [bh];done)|(congr 3;omega)|(congr 4;omega)|(simp only [bj];rfl)) rfl⟩
 have hc4':=of_decide_eq_false hc4
 refine bZ ?_
 refine aO ?_
 refine aO ?_
 refine bF ?_
 refine then_ok ?_
 refine ae aa 1 rfl ?_
 refine ay ?_
 refine an aa [] 0 rfl rfl rfl rfl rfl rfl ?_ ?_
 ·rfl
 ·rfl

theorem EA (b:Bk) (y:List (List Int)):Fn Try.prog 32 [(.g [(cI b.time),(cB b.down),(iN b.aq),(dr b.due),(iu b.ax),(cI b.s0.bz),(cw b.s0.kept),(cI b.s1.bz),(cw b.s1.kept),(cI b.n0),(cI b.n1),(cW b.w0),(cW b.w1),(cI b.ba.cap),(dr b.ba.used),(ei b.ba.aT),(eP b.aR),(iM y),(de b.book)]),(.g [(cI b.time),(cB b.down),(iN b.aq),(dr b.due),(iu b.ax),(cI b.s0.bz),(cw b.s0.kept),(cI b.s1.bz),(cw b.s1.kept),(cI b.n0),(cI b.n1),(cW b.w0),(cW b.w1),(cI b.ba.cap),(dr b.ba.used),(ei b.ba.aT),(eP b.aR),(iM y),(de b.book)])] (aB true) []:=by
 refine Fn.mk' 216 [(0,(aG [(cI b.time),(cB b.down),(iN b.aq),(dr b.due),(iu b.ax),(cI b.s0.bz),(cw b.s0.kept),(cI b.s1.bz),(cw b.s1.kept),(cI b.n0),(cI b.n1),(cW b.w0),(cW b.w1),(cI b.ba.cap),(dr b.ba.used),(ei b.ba.aT),(eP b.aR),(iM y),(de b.book)])),(1,(aG [(cI b.time),(cB b.down),(iN b.aq),(dr b.due),(iu b.ax),(cI b.s0.bz),(cw b.s0.kept),(cI b.s1.bz),(cw b.s1.kept),(cI b.n0),(cI b.n1),(cW b.w0),(cW b.w1),(cI b.ba.cap),(dr b.ba.used),(ei b.ba.aT),(eP b.aR),(iM y),(de b.book)]))] Try.func32 rfl rfl rfl rfl ?_
 intro W0 T0
 refine cz 0 2 rfl rfl (fun hlen0_2=>?_)
 refine cz 0 3 rfl rfl (fun hlen0_3=>?_)
 refine cz 0 4 rfl rfl (fun hlen0_4=>?_)
 refine cz 0 6 rfl rfl (fun hlen0_6=>?_)
 refine cz 0 8 rfl rfl (fun hlen0_8=>?_)
 refine cz 0 11 rfl rfl (fun hlen0_11=>?_)
 refine cz 0 12 rfl rfl (fun hlen0_12=>?_)
 refine cz 0 14 rfl rfl (fun hlen0_14=>?_)
 refine cz 0 15 rfl rfl (fun hlen0_15=>?_)
 refine cz 0 16 rfl rfl (fun hlen0_16=>?_)
 refine cz 0 17 rfl rfl (fun hlen0_17=>?_)
 refine cz 0 18 rfl rfl (fun hlen0_18=>?_)
 refine cz 1 2 rfl rfl (fun hlen1_2=>?_)
 refine cz 1 3 rfl rfl (fun hlen1_3=>?_)
 refine cz 1 4 rfl rfl (fun hlen1_4=>?_)
 refine cz 1 6 rfl rfl (fun hlen1_6=>?_)
 refine cz 1 8 rfl rfl (fun hlen1_8=>?_)
 refine cz 1 11 rfl rfl (fun hlen1_11=>?_)
 refine cz 1 12 rfl rfl (fun hlen1_12=>?_)
 refine cz 1 14 rfl rfl (fun hlen1_14=>?_)
 refine cz 1 15 rfl rfl (fun hlen1_15=>?_)
 refine cz 1 16 rfl rfl (fun hlen1_16=>?_)
 refine cz 1 17 rfl rfl (fun hlen1_17=>?_)
 refine cz 1 18 rfl rfl (fun hlen1_18=>?_)
 refine ae aa 3 rfl ?_
 refine ag ?_
 refine ck 89 (false) ?_ ?_
 ·
  refine Ae rfl ?_
  refine ad aa 4 rfl ?_
  refine aA (aK rfl rfl rfl (congrArg (fun b=>some (Value.bool b)) (decide_eq_false (fun h=>h rfl)))) rfl ?_
  refine ad aa 5 rfl ?_
  refine cC (ah.yes rfl rfl rfl) (DF Try.underlying4 rfl rfl rfl) rfl rfl ?_
  refine ad aa 3 rfl ?_
  refine cC (ah.yes rfl rfl rfl) (qa rfl rfl rfl Try.underlying36 rfl Db rfl rfl) rfl rfl ?_
  refine ad aa 1 rfl ?_
  refine cC (ah.yes rfl rfl rfl) (qa rfl rfl rfl Try.underlying36 rfl Db rfl rfl) rfl rfl ?_
  refine cC (ah.yes rfl rfl rfl) (uU (xs:=[.int .i64 b.n0,.int .i64 b.n1]) (by kernel_rfl) (FV _ _) rfl rfl rfl rfl) rfl rfl ?_
  refine ad aa 4 rfl ?_
  refine cC (ah.yes rfl rfl rfl) (bQ rfl rfl rfl rfl rfl Try.underlying29) rfl rfl ?_
  refine ad aa 2 rfl ?_
  refine cC (ah.yes rfl rfl rfl) (bQ rfl rfl rfl rfl rfl Try.underlying29) rfl rfl ?_
  refine cC (ah.yes rfl rfl rfl) (aK rfl rfl rfl (congrArg (fun b=>some (Value.bool b)) (decide_eq_false (fun h=>h rfl)))) rfl rfl ?_
  refine ad aa 4 rfl ?_
  refine cC (ah.yes rfl rfl rfl) (bQ rfl rfl rfl rfl rfl Try.underlying30) rfl rfl ?_
  refine ad aa 2 rfl ?_
  refine cC (ah.yes rfl rfl rfl) (bQ rfl rfl rfl rfl rfl Try.underlying30) rfl rfl ?_
  refine cC (ah.yes rfl rfl rfl) (aK rfl rfl rfl (congrArg (fun b=>some (Value.bool b)) (decide_eq_false (fun h=>h rfl)))) rfl rfl ?_
  refine ad aa 4 rfl ?_
  refine cC (ah.yes rfl rfl rfl) (bQ rfl rfl rfl rfl rfl Try.underlying31) rfl rfl ?_
  refine ad aa 2 rfl ?_
  refine cC (ah.yes rfl rfl rfl) (bQ rfl rfl rfl rfl rfl Try.underlying31) rfl rfl ?_
  refine cC (ah.yes rfl rfl rfl) (aK rfl rfl rfl (congrArg (fun b=>some (Value.bool b)) (decide_eq_false (fun h=>h rfl)))) rfl rfl ?_
  refine ad aa 4 rfl ?_
  refine cC (ah.yes rfl rfl rfl) (bQ rfl rfl rfl rfl rfl Try.underlying43) rfl rfl ?_
  refine ad aa 2 rfl ?_
  refine cC (ah.yes rfl rfl rfl) (bQ rfl rfl rfl rfl rfl Try.underlying43) rfl rfl ?_
  refine cC (ah.yes rfl rfl rfl) (aK rfl rfl rfl (congrArg (fun b=>some (Value.bool b)) (decide_eq_false (fun h=>h rfl)))) rfl rfl ?_
  refine ad aa 6 rfl ?_
  refine oX 2 [1,0] (ah.yes rfl rfl rfl) (bX 2 (wg b.ba) GG rfl rfl ⟨⟨_,rfl,.g ⟨.d _,.d _,.d _,trivial⟩⟩,⟨_,rfl,.g ⟨.d _,.d _,.d _,trivial⟩⟩,trivial⟩ trivial trivial rfl rfl rfl rfl) rfl ?_
  refine ad aa 7 rfl ?_
  refine oX 2 [1,0] (ah.yes rfl rfl rfl) (bX 2 (tD b.aR) GM rfl rfl ⟨⟨_,rfl,.c (.d _)⟩,⟨_,rfl,.c (.d _)⟩,trivial⟩ trivial trivial rfl rfl rfl rfl) rfl ?_
  refine ad aa 7 rfl ?_
  refine oX 2 [1,0] (ah.yes rfl rfl rfl) (bX 2 (yi b.book) GF rfl rfl ⟨⟨_,rfl,.c (.d _)⟩,⟨_,rfl,.c (.d _)⟩,trivial⟩ trivial trivial rfl rfl rfl rfl) rfl ?_
  refine ad aa 2 rfl ?_
  refine af ?_
  exact aH.bA 79 rfl rfl (by first|(simp [];done)|(simp_all;done)|(exfalso;simp_all;done)|(simp_all;omega)) rfl
 refine aj rfl (fun hno=>by cases hno) (fun _=>?_)
 refine aP ?_
 refine ag ?_
 refine aF aa 2 rfl ?_
 refine aA (bQ rfl rfl rfl rfl rfl Try.underlying29) rfl ?_
 refine ad aa 1 rfl ?_
 refine af ?_
 refine aU ?_
 refine cj (β:=Nat) (fun (q:Nat)=>⟨[(2,(aC (.p 0 0 0 0))),(3,(aC (.p 1 0 0 0))),(92,(aI (↑b.aq.length:Int))),(93,(aI (↑q:Int)))],[(1,(.box 46 [(cI b.time),(cB b.down),(iN b.aq),(dr b.due),(iu b.ax),(cI b.s0.bz),(cw b.s0.kept),(cI b.s1.bz),(cw b.s1.kept),(cI b.n0),(cI b.n1),(cW b.w0),(cW b.w1),(cI b.ba.cap),(dr b.ba.used),(ei b.ba.aT),(eP b.aR),(iM y),(de b.book)])),(0,(.box 46 [(cI b.time),(cB b.down),(iN b.aq),(dr b.due),(iu b.ax),(cI b.s0.bz),(cw b.s0.kept),(cI b.s1.bz),(cw b.s1.kept),(cI b.n0),(cI b.n1),(cW b.w0),(cW b.w1),(cI b.ba.cap),(dr b.ba.used),(ei b.ba.aT),(eP b.aR),(iM y),(de b.book)]))],2⟩) (fun (q:Nat)=>q<=b.aq.length) (fun (q:Nat)=>b.aq.length - q) 0 ?_ ?_ ?_
 ·exact (by first|omega|simp)
 ·exact aH.bS id (by refine ⟨?_,?_,?_,?_,trivial⟩<;>first|rfl|(simp only [bh];done)|(congr 3;omega)|(congr 4;omega)|(simp only [bj];rfl)) (by refine ⟨?_,?_,trivial⟩<;>first|rfl|(simp only [bh];done)|(congr 3;omega)|(congr 4;omega)|(simp only [bj];rfl)) rfl
 rintro q hi0_0
 refine ae aa 1 rfl ?_
 refine ag ?_
 refine aj rfl (fun hc2=>?_) (fun hc2=>?_)
 ·
  have hc2':=of_decide_eq_true hc2
  refine aP ?_
  refine ag ?_
  refine aU ?_
  refine ae aa 2 rfl ?_
  refine ag ?_
  obtain ⟨x1,hx1⟩:=cb (xs:=b.aq) (i:=q) (by first|omega|(simp;done)|(simp;omega))
  refine aW [2,3,92,93,5] [1,0] mixed rfl rfl ?_
  refine au (kn:=[]) aa 3 rfl trivial ?_
  refine aM (n':=2) [97,98] [] rfl rfl (.inl ⟨(ah.plain rfl),aE.cast (ca (i:=q) rfl rfl rfl Try.underlying29 iq (by first|omega|(simp;done)|(simp;omega)) (bf hx1)) rfl⟩) rfl ?_
  refine au (kn:=[]) aa 4 rfl trivial ?_
  refine aM (n':=2) [102,103] [] rfl rfl (.inl ⟨(ah.plain rfl),aE.cast (ca (i:=q) rfl rfl rfl Try.underlying29 iq (by first|omega|(simp;done)|(simp;omega)) (bf hx1)) rfl⟩) rfl ?_
  refine au (kn:=[]) aa 1 rfl trivial ?_
  refine aM (n':=2) [100,105] [] rfl rfl (.inl ⟨(ah.plain rfl),aE.cast (bX 2 (yh x1) GD rfl rfl ⟨⟨_,rfl,.g ⟨.d _,.d _,.d _,.d _,.d _,.d _,trivial⟩⟩,⟨_,rfl,.g ⟨.d _,.d _,.d _,.d _,.d _,.d _,trivial⟩⟩,trivial⟩ trivial trivial rfl rfl rfl rfl) rfl⟩) rfl ?_
  refine au (kn:=[]) aa 1 rfl trivial ?_
  refine br [1,0] rfl rfl rfl rfl (by kernel_rfl) ?_
  refine af ?_
  refine aj rfl (fun hno=>by cases hno) (fun _=>?_)
  refine cG ?_
  refine bl ?_
  refine then_ok ?_
  refine aw ?_
  refine aA (aK rfl rfl rfl (aL (by first|omega|(simp;done)|(simp;omega)))) rfl ?_
  refine ad aa 1 rfl ?_
  refine af ?_
  refine ⟨q+1,by omega,by first|omega|(simp;done)|(simp;omega),aH.bS id (by refine ⟨?_,?_,?_,?_,trivial⟩<;>first|rfl|(simp only [bh];done)|(congr 3;omega)|(congr 4;omega)|(simp only [bj];rfl)) (by refine ⟨?_,?_,trivial⟩<;>first|rfl|(simp only [bh];done)|(congr 3;omega)|(congr 4;omega)|(simp only [bj];rfl)) rfl⟩
 have hc2':=of_decide_eq_false hc2
 refine bZ ?_
 refine aO ?_
 refine aO ?_
 refine bF ?_
 refine then_ok ?_
 refine ag ?_
 refine aF aa 2 rfl ?_
 refine aA (bQ rfl rfl rfl rfl rfl Try.underlying30) rfl ?_
 refine ad aa 1 rfl ?_
 refine af ?_
 refine aU ?_
 refine cj (β:=Nat) (fun (q1:Nat)=>⟨[(2,(aC (.p 0 0 0 0))),(3,(aC (.p 1 0 0 0))),(92,(aI (↑b.aq.length:Int))),(93,(aI (↑q:Int))),(111,(aI (↑b.due.length:Int))),(112,(aI (↑q1:Int)))],[(1,(.box 46 [(cI b.time),(cB b.down),(iN b.aq),(dr b.due),(iu b.ax),(cI b.s0.bz),(cw b.s0.kept),(cI b.s1.bz),(cw b.s1.kept),(cI b.n0),(cI b.n1),(cW b.w0),(cW b.w1),(cI b.ba.cap),(dr b.ba.used),(ei b.ba.aT),(eP b.aR),(iM y),(de b.book)])),(0,(.box 46 [(cI b.time),(cB b.down),(iN b.aq),(dr b.due),(iu b.ax),(cI b.s0.bz),(cw b.s0.kept),(cI b.s1.bz),(cw b.s1.kept),(cI b.n0),(cI b.n1),(cW b.w0),(cW b.w1),(cI b.ba.cap),(dr b.ba.used),(ei b.ba.aT),(eP b.aR),(iM y),(de b.book)]))],2⟩) (fun (q1:Nat)=>q1<=b.due.length) (fun (q1:Nat)=>b.due.length - q1) 0 ?_ ?_ ?_
 ·exact (by first|omega|simp)
 ·exact aH.bS id (by refine ⟨?_,?_,?_,?_,?_,?_,trivial⟩<;>first|rfl|(simp only [bh];done)|(congr 3;omega)|(congr 4;omega)|(simp only [bj];rfl)) (by refine ⟨?_,?_,trivial⟩<;>first|rfl|(simp only [bh];done)|(congr 3;omega)|(congr 4;omega)|(simp only [bj];rfl)) rfl
 rintro q1 hi1_0
 refine ae aa 1 rfl ?_
 refine ag ?_
 refine aj rfl (fun hc4=>?_) (fun hc4=>?_)
 ·
  have hc4':=of_decide_eq_true hc4
  refine aP ?_
  refine ag ?_
  refine aU ?_
  refine ae aa 2 rfl ?_
  refine ag ?_
  obtain ⟨x1,hx1⟩:=cb (xs:=b.due) (i:=q1) (by first|omega|(simp;done)|(simp;omega))
  refine aW [2,3,92,93,111,112,6] [1,0] mixed rfl rfl ?_
  refine au (kn:=[]) aa 3 rfl trivial ?_
  refine aM (n':=2) [116,117] [] rfl rfl (.inl ⟨(ah.plain rfl),aE.cast (ca (i:=q1) rfl rfl rfl Try.underlying30 fF (by first|omega|(simp;done)|(simp;omega)) (bf hx1)) rfl⟩) rfl ?_
  refine au (kn:=[]) aa 4 rfl trivial ?_
  refine aM (n':=2) [121,122] [] rfl rfl (.inl ⟨(ah.plain rfl),aE.cast (ca (i:=q1) rfl rfl rfl Try.underlying30 fF (by first|omega|(simp;done)|(simp;omega)) (bf hx1)) rfl⟩) rfl ?_
  refine au (kn:=[(125,false)]) aa 2 rfl ⟨(decide_eq_false (fun h=>h rfl)),trivial⟩ ?_
  refine br [1,0] rfl rfl rfl rfl (by kernel_rfl) ?_
  refine af ?_
  refine aj rfl (fun hno=>by cases hno) (fun _=>?_)
  refine cG ?_
  refine bl ?_
  refine then_ok ?_
  refine aw ?_
  refine aA (aK rfl rfl rfl (aL (by first|omega|(simp;done)|(simp;omega)))) rfl ?_
  refine ad aa 1 rfl ?_
  refine af ?_
  refine ⟨q1+1,by omega,by first|omega|(simp;done)|(simp;omega),aH.bS id (by refine ⟨?_,?_,?_,?_,?_,?_,trivial⟩<;>first|rfl|(simp only [bh];done)|(congr 3;omega)|(congr 4;omega)|(simp only [bj];rfl)) (by refine ⟨?_,?_,trivial⟩<;>first|rfl|(simp only [bh];done)|(congr 3;omega)|(congr 4;omega)|(simp only [bj];rfl)) rfl⟩
 have hc4':=of_decide_eq_false hc4
 refine bZ ?_
 refine aO ?_
 refine aO ?_
 refine bF ?_
 refine then_ok ?_
 refine ag ?_
 refine aF aa 2 rfl ?_
 refine aA (bQ rfl rfl rfl rfl rfl Try.underlying31) rfl ?_
 refine ad aa 1 rfl ?_
 refine af ?_
 refine aU ?_
 refine cj (β:=Nat) (fun (q2:Nat)=>⟨[(2,(aC (.p 0 0 0 0))),(3,(aC (.p 1 0 0 0))),(92,(aI (↑b.aq.length:Int))),(93,(aI (↑q:Int))),(111,(aI (↑b.due.length:Int))),(112,(aI (↑q1:Int))),(129,(aI (↑b.ax.length:Int))),(130,(aI (↑q2:Int)))],[(1,(.box 46 [(cI b.time),(cB b.down),(iN b.aq),(dr b.due),(iu b.ax),(cI b.s0.bz),(cw b.s0.kept),(cI b.s1.bz),(cw b.s1.kept),(cI b.n0),(cI b.n1),(cW b.w0),(cW b.w1),(cI b.ba.cap),(dr b.ba.used),(ei b.ba.aT),(eP b.aR),(iM y),(de b.book)])),(0,(.box 46 [(cI b.time),(cB b.down),(iN b.aq),(dr b.due),(iu b.ax),(cI b.s0.bz),(cw b.s0.kept),(cI b.s1.bz),(cw b.s1.kept),(cI b.n0),(cI b.n1),(cW b.w0),(cW b.w1),(cI b.ba.cap),(dr b.ba.used),(ei b.ba.aT),(eP b.aR),(iM y),(de b.book)]))],2⟩) (fun (q2:Nat)=>q2<=b.ax.length) (fun (q2:Nat)=>b.ax.length - q2) 0 ?_ ?_ ?_
 ·exact (by first|omega|simp)
 ·exact aH.bS id (by refine ⟨?_,?_,?_,?_,?_,?_,?_,?_,trivial⟩<;>first|rfl|(simp only [bh];done)|(congr 3;omega)|(congr 4;omega)|(simp only [bj];rfl)) (by refine ⟨?_,?_,trivial⟩<;>first|rfl|(simp only [bh];done)|(congr 3;omega)|(congr 4;omega)|(simp only [bj];rfl)) rfl
 rintro q2 hi2_0
 refine ae aa 1 rfl ?_
 refine ag ?_
 refine aj rfl (fun hc6=>?_) (fun hc6=>?_)
 ·
  have hc6':=of_decide_eq_true hc6
  refine aP ?_
  refine ag ?_
  refine aU ?_
  refine ae aa 2 rfl ?_
  refine ag ?_
  obtain ⟨x1,hx1⟩:=cb (xs:=b.ax) (i:=q2) (by first|omega|(simp;done)|(simp;omega))
  refine aW [2,3,92,93,111,112,129,130,7] [1,0] mixed rfl rfl ?_
  refine au (kn:=[]) aa 3 rfl trivial ?_
  refine aM (n':=2) [134,135] [] rfl rfl (.inl ⟨(ah.plain rfl),aE.cast (ca (i:=q2) rfl rfl rfl Try.underlying31 kG (by first|omega|(simp;done)|(simp;omega)) (bf hx1)) rfl⟩) rfl ?_
  refine au (kn:=[]) aa 4 rfl trivial ?_
  refine aM (n':=2) [139,140] [] rfl rfl (.inl ⟨(ah.plain rfl),aE.cast (ca (i:=q2) rfl rfl rfl Try.underlying31 kG (by first|omega|(simp;done)|(simp;omega)) (bf hx1)) rfl⟩) rfl ?_
  refine au (kn:=[]) aa 1 rfl trivial ?_
  refine aM (n':=2) [137,142] [] rfl rfl (.inl ⟨(ah.plain rfl),aE.cast (aE.cast (oN (FB _ _ _ _ _ _ _ _ _ _ _ _ _ _ _ _) rfl rfl rfl rfl rfl rfl) (congrArg aB (show (!(eY [.int .i64 x1.aN,.int .i64 x1.aD,.int .i64 x1.sum,.int .i64 x1.captured,.int .i64 x1.bx,.int .i64 x1.bn,.int .i64 x1.cZ,.bool x1.shut] [.int .i64 x1.aN,.int .i64 x1.aD,.int .i64 x1.sum,.int .i64 x1.captured,.int .i64 x1.bx,.int .i64 x1.bn,.int .i64 x1.cZ,.bool x1.shut]))=false by simp [eY,jb]))) rfl⟩) rfl ?_
  refine br [1,0] rfl rfl rfl rfl (by kernel_rfl) ?_
  refine af ?_
  refine aj rfl (fun hno=>by cases hno) (fun _=>?_)
  refine cG ?_
  refine bl ?_
  refine then_ok ?_
  refine aw ?_
  refine aA (aK rfl rfl rfl (aL (by first|omega|(simp;done)|(simp;omega)))) rfl ?_
  refine ad aa 1 rfl ?_
  refine af ?_
  refine ⟨q2+1,by omega,by first|omega|(simp;done)|(simp;omega),aH.bS id (by refine ⟨?_,?_,?_,?_,?_,?_,?_,?_,trivial⟩<;>first|rfl|(simp only [bh];done)|(congr 3;omega)|(congr 4;omega)|(simp only [bj];rfl)) (by refine ⟨?_,?_,trivial⟩<;>first|rfl|(simp only [bh];done)|(congr 3;omega)|(congr 4;omega)|(simp only [bj];rfl)) rfl⟩
 have hc6':=of_decide_eq_false hc6
 refine bZ ?_
 refine aO ?_
 refine aO ?_
 refine bF ?_
 refine then_ok ?_
 refine ag ?_
 refine aF aa 2 rfl ?_
 refine aA (bQ rfl rfl rfl rfl rfl Try.underlying43) rfl ?_
 refine ad aa 1 rfl ?_
 refine af ?_
 refine aU ?_
 refine cj (β:=Nat) (fun (q3:Nat)=>⟨[(2,(aC (.p 0 0 0 0))),(3,(aC (.p 1 0 0 0))),(92,(aI (↑b.aq.length:Int))),(93,(aI (↑q:Int))),(111,(aI (↑b.due.length:Int))),(112,(aI (↑q1:Int))),(129,(aI (↑b.ax.length:Int))),(130,(aI (↑q2:Int))),(147,(aI (↑y.length:Int))),(148,(aI (↑q3:Int)))],[(1,(.box 46 [(cI b.time),(cB b.down),(iN b.aq),(dr b.due),(iu b.ax),(cI b.s0.bz),(cw b.s0.kept),(cI b.s1.bz),(cw b.s1.kept),(cI b.n0),(cI b.n1),(cW b.w0),(cW b.w1),(cI b.ba.cap),(dr b.ba.used),(ei b.ba.aT),(eP b.aR),(iM y),(de b.book)])),(0,(.box 46 [(cI b.time),(cB b.down),(iN b.aq),(dr b.due),(iu b.ax),(cI b.s0.bz),(cw b.s0.kept),(cI b.s1.bz),(cw b.s1.kept),(cI b.n0),(cI b.n1),(cW b.w0),(cW b.w1),(cI b.ba.cap),(dr b.ba.used),(ei b.ba.aT),(eP b.aR),(iM y),(de b.book)]))],2⟩) (fun (q3:Nat)=>q3<=y.length) (fun (q3:Nat)=>y.length - q3) 0 ?_ ?_ ?_
 ·exact (by first|omega|simp)
 ·exact aH.bS id (by refine ⟨?_,?_,?_,?_,?_,?_,?_,?_,?_,?_,trivial⟩<;>first|rfl|(simp only [bh];done)|(congr 3;omega)|(congr 4;omega)|(simp only [bj];rfl)) (by refine ⟨?_,?_,trivial⟩<;>first|rfl|(simp only [bh];done)|(congr 3;omega)|(congr 4;omega)|(simp only [bj];rfl)) rfl
 rintro q3 hi3_0
 refine ae aa 1 rfl ?_
 refine ag ?_
 refine aj rfl (fun hc8=>?_) (fun hc8=>?_)
 ·
  have hc8':=of_decide_eq_true hc8
  refine aP ?_
  refine ag ?_
  refine aU ?_
  refine ae aa 2 rfl ?_
  refine ag ?_
  obtain ⟨x1,hx1⟩:=cb (xs:=y) (i:=q3) (by first|omega|(simp;done)|(simp;omega))
  refine aW [2,3,92,93,111,112,129,130,147,148,8] [1,0] mixed rfl rfl ?_
  refine au (kn:=[]) aa 3 rfl trivial ?_
  refine aM (n':=2) [152,153] [] rfl rfl (.inl ⟨(ah.plain rfl),aE.cast (ca (i:=q3) rfl rfl rfl Try.underlying43 CY (by first|omega|(simp;done)|(simp;omega)) (bf hx1)) rfl⟩) rfl ?_
  refine au (kn:=[]) aa 1 rfl trivial ?_
  refine aM (n':=2) [155] [] rfl rfl (.inl ⟨(ah.plain rfl),aE.cast (qT (n:=x1.length) (l:=x1) rfl Try.underlying86 Try.underlying5 Try.underlying9 rfl (.d (by first|(simp;done)|rfl) (Nat.le_refl _) (by first|(simp;done)|exact List.take_of_length_le (by simp))) (by first|omega|(simp;done)|(simp;omega))) rfl⟩) rfl ?_
  refine au (kn:=[]) aa 3 rfl trivial ?_
  refine aM (n':=2) [158,159] [] rfl rfl (.inl ⟨(ah.plain rfl),aE.cast (ca (i:=q3) rfl rfl rfl Try.underlying43 CY (by first|omega|(simp;done)|(simp;omega)) (bf hx1)) rfl⟩) rfl ?_
  refine au (kn:=[]) aa 1 rfl trivial ?_
  refine aM (n':=2) [161] [] rfl rfl (.inl ⟨(ah.plain rfl),aE.cast (qT (n:=x1.length) (l:=x1) rfl Try.underlying86 Try.underlying5 Try.underlying9 rfl (.d (by first|(simp;done)|rfl) (Nat.le_refl _) (by first|(simp;done)|exact List.take_of_length_le (by simp))) (by first|omega|(simp;done)|(simp;omega))) rfl⟩) rfl ?_
  refine aM (n':=2) [156,162] [] rfl rfl (.inl ⟨(ah.plain rfl),aE.cast (aE.cast (AY rfl rfl rfl) (congrArg aB (by first|(rw [sf];done)|(rw [sf];rfl)))) rfl⟩) rfl ?_
  refine br [1,0] rfl rfl rfl rfl (by kernel_rfl) ?_
  refine af ?_
  refine aj rfl (fun hno=>by cases hno) (fun _=>?_)
  refine cG ?_
  refine bl ?_
  refine then_ok ?_
  refine aw ?_
  refine aA (aK rfl rfl rfl (aL (by first|omega|(simp;done)|(simp;omega)))) rfl ?_
  refine ad aa 1 rfl ?_
  refine af ?_
  refine ⟨q3+1,by omega,by first|omega|(simp;done)|(simp;omega),aH.bS id (by refine ⟨?_,?_,?_,?_,?_,?_,?_,?_,?_,?_,trivial⟩<;>first|rfl|(simp only [bh];done)|(congr 3;omega)|(congr 4;omega)|(simp only [bj];rfl)) (by refine ⟨?_,?_,trivial⟩<;>first|rfl|(simp only [bh];done)|(congr 3;omega)|(congr 4;omega)|(simp only [bj];rfl)) rfl⟩
 have hc8':=of_decide_eq_false hc8
 refine bZ ?_
 refine aO ?_
 refine aO ?_
 refine bF ?_
 refine then_ok ?_
 refine ag ?_
 refine ae aa 1 rfl ?_
 refine aU ?_
 refine cj (β:=Nat) (fun (i:Nat)=>⟨[(2,(aC (.p 0 0 0 0))),(3,(aC (.p 1 0 0 0))),(92,(aI (↑b.aq.length:Int))),(93,(aI (↑q:Int))),(111,(aI (↑b.due.length:Int))),(112,(aI (↑q1:Int))),(129,(aI (↑b.ax.length:Int))),(130,(aI (↑q2:Int))),(147,(aI (↑y.length:Int))),(148,(aI (↑q3:Int))),(165,(aI (↑i:Int)))],[(1,(.box 46 [(cI b.time),(cB b.down),(iN b.aq),(dr b.due),(iu b.ax),(cI b.s0.bz),(cw b.s0.kept),(cI b.s1.bz),(cw b.s1.kept),(cI b.n0),(cI b.n1),(cW b.w0),(cW b.w1),(cI b.ba.cap),(dr b.ba.used),(ei b.ba.aT),(eP b.aR),(iM y),(de b.book)])),(0,(.box 46 [(cI b.time),(cB b.down),(iN b.aq),(dr b.due),(iu b.ax),(cI b.s0.bz),(cw b.s0.kept),(cI b.s1.bz),(cw b.s1.kept),(cI b.n0),(cI b.n1),(cW b.w0),(cW b.w1),(cI b.ba.cap),(dr b.ba.used),(ei b.ba.aT),(eP b.aR),(iM y),(de b.book)]))],2⟩) (fun (i:Nat)=>i<=2) (fun (i:Nat)=>2 - i) 0 ?_ ?_ ?_
 ·exact (by omega)
 ·exact aH.bS id (by refine ⟨?_,?_,?_,?_,?_,?_,?_,?_,?_,?_,?_,trivial⟩<;>first|rfl|(simp only [bh];done)|(congr 3;omega)|(congr 4;omega)|(simp only [bj];rfl)) (by refine ⟨?_,?_,trivial⟩<;>first|rfl|(simp only [bh];done)|(congr 3;omega)|(congr 4;omega)|(simp only [bj];rfl)) rfl
 rintro i hi4_0
 refine ae aa 1 rfl ?_
 refine ag ?_
 refine aj rfl (fun hc10=>?_) (fun hc10=>?_)
 ·
  have hc10':=of_decide_eq_true hc10
  refine aP ?_
  refine ag ?_
  refine aU ?_
  rcases (show i=0\/i=1 from by omega) with hs11|hs11
  ·
   refine ae aa 2 rfl ?_
   refine ag ?_
   refine gF (i:=9) (v:=(aI 0)) (cU (ρ:=id) rfl (by omega)) ?_
   refine ag ?_
   refine aW [2,3,92,93,111,112,129,130,147,148,165,9] [1,0] mixed rfl rfl ?_
   refine au (kn:=[]) aa 2 rfl trivial ?_
   refine aM (n':=2) [169,168] [0] rfl rfl (.inl ⟨(ah.plain rfl),aE.cast (cE (i:=0) rfl rfl rfl Try.underlying35 ju rfl (by decide)) rfl⟩) rfl ?_
   refine au (kn:=[]) aa 3 rfl trivial ?_
   refine aM (n':=2) [173,172] [1] rfl rfl (.inl ⟨(ah.plain rfl),aE.cast (cE (i:=0) rfl rfl rfl Try.underlying35 ju rfl (by decide)) rfl⟩) rfl ?_
   refine au (kn:=[]) aa 1 rfl trivial ?_
   refine aM (n':=2) [171,175] [] rfl rfl (.inl ⟨(ah.plain rfl),aE.cast (bX 2 (oy b.s0) Eg rfl rfl ⟨⟨_,rfl,.g ⟨.d _,.d _,trivial⟩⟩,⟨_,rfl,.g ⟨.d _,.d _,trivial⟩⟩,trivial⟩ trivial trivial rfl rfl rfl rfl) rfl⟩) rfl ?_
   refine au (kn:=[]) aa 4 rfl trivial ?_
   refine aM (n':=2) [180,179,178] [0] rfl rfl (.inl ⟨(ah.yes rfl rfl rfl),aE.cast (cE (i:=0) rfl rfl rfl Try.underlying38 gr rfl (by decide)) rfl⟩) rfl ?_
   refine au (kn:=[]) aa 1 rfl trivial ?_
   refine aM (n':=2) [182,178] [] rfl rfl (.inl ⟨(ah.yes rfl rfl rfl),aE.cast (bQ rfl rfl rfl rfl rfl Try.underlying37) rfl⟩) rfl ?_
   refine au (kn:=[]) aa 2 rfl trivial ?_
   refine aM (n':=2) [185,184,178] [1] rfl rfl (.inl ⟨(ah.yes rfl rfl rfl),aE.cast (cE (i:=0) rfl rfl rfl Try.underlying38 gr rfl (by decide)) rfl⟩) rfl ?_
   refine au (kn:=[]) aa 1 rfl trivial ?_
   refine aM (n':=2) [187,178] [] rfl rfl (.inl ⟨(ah.yes rfl rfl rfl),aE.cast (bQ rfl rfl rfl rfl rfl Try.underlying37) rfl⟩) rfl ?_
   refine au (kn:=[(189,false)]) aa 2 rfl ⟨(decide_eq_false (fun h=>h rfl)),trivial⟩ ?_
   refine br [1,0] rfl rfl rfl rfl (by kernel_rfl) ?_
   refine af ?_
   refine aj rfl (fun hno=>by cases hno) (fun _=>?_)
   refine aP ?_
   refine aF aa 2 rfl ?_
   refine aA (cE (i:=0) rfl rfl rfl Try.underlying38 gr rfl (by decide)) rfl ?_
   refine ad aa 1 rfl ?_
   refine aA (bQ rfl rfl rfl rfl rfl Try.underlying37) rfl ?_
   refine ad aa 1 rfl ?_
   refine af ?_
   refine aU ?_
   refine cj (β:=Nat) (fun (q5:Nat)=>⟨[(2,(aC (.p 0 0 0 0))),(3,(aC (.p 1 0 0 0))),(92,(aI (↑b.aq.length:Int))),(93,(aI (↑q:Int))),(111,(aI (↑b.due.length:Int))),(112,(aI (↑q1:Int))),(129,(aI (↑b.ax.length:Int))),(130,(aI (↑q2:Int))),(147,(aI (↑y.length:Int))),(148,(aI (↑q3:Int))),(165,(aI (↑i:Int))),(9,(aI 0)),(195,(aI (↑b.w0.length:Int))),(196,(aI (↑q5:Int)))],[(1,(.box 46 [(cI b.time),(cB b.down),(iN b.aq),(dr b.due),(iu b.ax),(cI b.s0.bz),(cw b.s0.kept),(cI b.s1.bz),(cw b.s1.kept),(cI b.n0),(cI b.n1),(cW b.w0),(cW b.w1),(cI b.ba.cap),(dr b.ba.used),(ei b.ba.aT),(eP b.aR),(iM y),(de b.book)])),(0,(.box 46 [(cI b.time),(cB b.down),(iN b.aq),(dr b.due),(iu b.ax),(cI b.s0.bz),(cw b.s0.kept),(cI b.s1.bz),(cw b.s1.kept),(cI b.n0),(cI b.n1),(cW b.w0),(cW b.w1),(cI b.ba.cap),(dr b.ba.used),(ei b.ba.aT),(eP b.aR),(iM y),(de b.book)]))],2⟩) (fun (q5:Nat)=>q5<=b.w0.length) (fun (q5:Nat)=>b.w0.length - q5) 0 ?_ ?_ ?_
   ·exact (by first|omega|simp)
   ·exact aH.bS id (by refine ⟨?_,?_,?_,?_,?_,?_,?_,?_,?_,?_,?_,?_,?_,?_,trivial⟩<;>first|rfl|(simp only [bh];done)|(congr 3;omega)|(congr 4;omega)|(simp only [bj];rfl)) (by refine ⟨?_,?_,trivial⟩<;>first|rfl|(simp only [bh];done)|(congr 3;omega)|(congr 4;omega)|(simp only [bj];rfl)) rfl
   rintro q5 hi5_0
   refine ae aa 1 rfl ?_
   refine ag ?_
   refine aj rfl (fun hc13=>?_) (fun hc13=>?_)
   ·
    have hc13':=of_decide_eq_true hc13
    refine aP ?_
    refine ag ?_
    refine aU ?_
    refine ae aa 2 rfl ?_
    refine ag ?_
    obtain ⟨x1,hx1⟩:=cb (xs:=b.w0) (i:=q5) (by first|omega|(simp;done)|(simp;omega))
    refine aW [2,3,92,93,111,112,129,130,147,148,165,9,195,196,10] [1,0] mixed rfl rfl ?_
    refine au (kn:=[]) aa 2 rfl trivial ?_
    refine aM (n':=2) [200,199] [0] rfl rfl (.inl ⟨(ah.plain rfl),aE.cast (cE (i:=0) rfl rfl rfl Try.underlying38 gr rfl (by decide)) rfl⟩) rfl ?_
    refine au (kn:=[]) aa 2 rfl trivial ?_
    refine aM (n':=2) [202,203] [] rfl rfl (.inl ⟨(ah.plain rfl),aE.cast (ca (i:=q5) rfl rfl rfl Try.underlying37 lE (by first|omega|(simp;done)|(simp;omega)) (bf hx1)) rfl⟩) rfl ?_
    refine au (kn:=[]) aa 3 rfl trivial ?_
    refine aM (n':=2) [207,206] [1] rfl rfl (.inl ⟨(ah.plain rfl),aE.cast (cE (i:=0) rfl rfl rfl Try.underlying38 gr rfl (by decide)) rfl⟩) rfl ?_
    refine au (kn:=[]) aa 2 rfl trivial ?_
    refine aM (n':=2) [209,210] [] rfl rfl (.inl ⟨(ah.plain rfl),aE.cast (ca (i:=q5) rfl rfl rfl Try.underlying37 lE (by first|omega|(simp;done)|(simp;omega)) (bf hx1)) rfl⟩) rfl ?_
    refine au (kn:=[]) aa 1 rfl trivial ?_
    refine aM (n':=2) [205,212] [] rfl rfl (.inl ⟨(ah.plain rfl),aE.cast (uU (xs:=[.int .i64 x1.ch.number,.int .i64 x1.ch.kind,.int .i64 x1.ch.aZ,.int .i64 x1.ch.sum,.int .i64 x1.seen]) (by kernel_rfl) (BS _ _ _ _ _) rfl rfl rfl rfl) rfl⟩) rfl ?_
    refine br [1,0] rfl rfl rfl rfl (by kernel_rfl) ?_
    refine af ?_
    refine aj rfl (fun hno=>by cases hno) (fun _=>?_)
    refine cG ?_
    refine bl ?_
    refine then_ok ?_
    refine aw ?_
    refine aA (aK rfl rfl rfl (aL (by first|omega|(simp;done)|(simp;omega)))) rfl ?_
    refine ad aa 1 rfl ?_
    refine af ?_
    refine ⟨q5+1,by omega,by first|omega|(simp;done)|(simp;omega),aH.bS id (by refine ⟨?_,?_,?_,?_,?_,?_,?_,?_,?_,?_,?_,?_,?_,?_,trivial⟩<;>first|rfl|(simp only [bh];done)|(congr 3;omega)|(congr 4;omega)|(simp only [bj];rfl)) (by refine ⟨?_,?_,trivial⟩<;>first|rfl|(simp only [bh];done)|(congr 3;omega)|(congr 4;omega)|(simp only [bj];rfl)) rfl⟩
   have hc13':=of_decide_eq_false hc13
   refine bZ ?_
   refine aO ?_
   refine aO ?_
   refine bF ?_
   refine bl ?_
   refine then_ok ?_
   refine aw ?_
   refine aA (aK rfl rfl rfl (aL (by first|omega|(simp;done)|(simp;omega)))) rfl ?_
   refine ad aa 1 rfl ?_
   refine af ?_
   refine ⟨i+1,by omega,by first|omega|(simp;done)|(simp;omega),aH.bS id (by refine ⟨?_,?_,?_,?_,?_,?_,?_,?_,?_,?_,?_,trivial⟩<;>first|rfl|(simp only [bh];done)|(congr 3;omega)|(congr 4;omega)|(simp only [bj];rfl)) (by refine ⟨?_,?_,trivial⟩<;>first|rfl|(simp only [bh];done)|(congr 3;omega)|(congr 4;omega)|(simp only [bj];rfl)) rfl⟩
  refine ae aa 2 rfl ?_
  refine ag ?_
  refine gF (i:=9) (v:=(aI 1)) (cU (ρ:=id) rfl (by omega)) ?_
  refine ag ?_
  refine aW [2,3,92,93,111,112,129,130,147,148,165,9] [1,0] mixed rfl rfl ?_
  refine au (kn:=[]) aa 2 rfl trivial ?_
  refine aM (n':=2) [169,168] [0] rfl rfl (.inl ⟨(ah.plain rfl),aE.cast (cE (i:=1) rfl rfl rfl Try.underlying35 ju rfl (by decide)) rfl⟩) rfl ?_
  refine au (kn:=[]) aa 3 rfl trivial ?_
  refine aM (n':=2) [173,172] [1] rfl rfl (.inl ⟨(ah.plain rfl),aE.cast (cE (i:=1) rfl rfl rfl Try.underlying35 ju rfl (by decide)) rfl⟩) rfl ?_
  refine au (kn:=[]) aa 1 rfl trivial ?_
  refine aM (n':=2) [171,175] [] rfl rfl (.inl ⟨(ah.plain rfl),aE.cast (bX 2 (oy b.s1) Eg rfl rfl ⟨⟨_,rfl,.g ⟨.d _,.d _,trivial⟩⟩,⟨_,rfl,.g ⟨.d _,.d _,trivial⟩⟩,trivial⟩ trivial trivial rfl rfl rfl rfl) rfl⟩) rfl ?_
  refine au (kn:=[]) aa 4 rfl trivial ?_
  refine aM (n':=2) [180,179,178] [0] rfl rfl (.inl ⟨(ah.yes rfl rfl rfl),aE.cast (cE (i:=1) rfl rfl rfl Try.underlying38 gr rfl (by decide)) rfl⟩) rfl ?_
  refine au (kn:=[]) aa 1 rfl trivial ?_
  refine aM (n':=2) [182,178] [] rfl rfl (.inl ⟨(ah.yes rfl rfl rfl),aE.cast (bQ rfl rfl rfl rfl rfl Try.underlying37) rfl⟩) rfl ?_
  refine au (kn:=[]) aa 2 rfl trivial ?_
  refine aM (n':=2) [185,184,178] [1] rfl rfl (.inl ⟨(ah.yes rfl rfl rfl),aE.cast (cE (i:=1) rfl rfl rfl Try.underlying38 gr rfl (by decide)) rfl⟩) rfl ?_
  refine au (kn:=[]) aa 1 rfl trivial ?_
  refine aM (n':=2) [187,178] [] rfl rfl (.inl ⟨(ah.yes rfl rfl rfl),aE.cast (bQ rfl rfl rfl rfl rfl Try.underlying37) rfl⟩) rfl ?_
  refine au (kn:=[(189,false)]) aa 2 rfl ⟨(decide_eq_false (fun h=>h rfl)),trivial⟩ ?_
  refine br [1,0] rfl rfl rfl rfl (by kernel_rfl) ?_
  refine af ?_
  refine aj rfl (fun hno=>by cases hno) (fun _=>?_)
  refine aP ?_
  refine aF aa 2 rfl ?_
  refine aA (cE (i:=1) rfl rfl rfl Try.underlying38 gr rfl (by decide)) rfl ?_
  refine ad aa 1 rfl ?_
  refine aA (bQ rfl rfl rfl rfl rfl Try.underlying37) rfl ?_
  refine ad aa 1 rfl ?_
  refine af ?_
  refine aU ?_
  refine cj (β:=Nat) (fun (q5:Nat)=>⟨[(2,(aC (.p 0 0 0 0))),(3,(aC (.p 1 0 0 0))),(92,(aI (↑b.aq.length:Int))),(93,(aI (↑q:Int))),(111,(aI (↑b.due.length:Int))),(112,(aI (↑q1:Int))),(129,(aI (↑b.ax.length:Int))),(130,(aI (↑q2:Int))),(147,(aI (↑y.length:Int))),(148,(aI (↑q3:Int))),(165,(aI (↑i:Int))),(9,(aI 1)),(195,(aI (↑b.w1.length:Int))),(196,(aI (↑q5:Int)))],[(1,(.box 46 [(cI b.time),(cB b.down),(iN b.aq),(dr b.due),(iu b.ax),(cI b.s0.bz),(cw b.s0.kept),(cI b.s1.bz),(cw b.s1.kept),(cI b.n0),(cI b.n1),(cW b.w0),(cW b.w1),(cI b.ba.cap),(dr b.ba.used),(ei b.ba.aT),(eP b.aR),(iM y),(de b.book)])),(0,(.box 46 [(cI b.time),(cB b.down),(iN b.aq),(dr b.due),(iu b.ax),(cI b.s0.bz),(cw b.s0.kept),(cI b.s1.bz),(cw b.s1.kept),(cI b.n0),(cI b.n1),(cW b.w0),(cW b.w1),(cI b.ba.cap),(dr b.ba.used),(ei b.ba.aT),(eP b.aR),(iM y),(de b.book)]))],2⟩) (fun (q5:Nat)=>q5<=b.w1.length) (fun (q5:Nat)=>b.w1.length - q5) 0 ?_ ?_ ?_
  ·exact (by first|omega|simp)
  ·exact aH.bS id (by refine ⟨?_,?_,?_,?_,?_,?_,?_,?_,?_,?_,?_,?_,?_,?_,trivial⟩<;>first|rfl|(simp only [bh];done)|(congr 3;omega)|(congr 4;omega)|(simp only [bj];rfl)) (by refine ⟨?_,?_,trivial⟩<;>first|rfl|(simp only [bh];done)|(congr 3;omega)|(congr 4;omega)|(simp only [bj];rfl)) rfl
  rintro q5 hi5_0
  refine ae aa 1 rfl ?_
  refine ag ?_
  refine aj rfl (fun hc16=>?_) (fun hc16=>?_)
  ·
   have hc16':=of_decide_eq_true hc16
   refine aP ?_
   refine ag ?_
   refine aU ?_
   refine ae aa 2 rfl ?_
   refine ag ?_
   obtain ⟨x1,hx1⟩:=cb (xs:=b.w1) (i:=q5) (by first|omega|(simp;done)|(simp;omega))
   refine aW [2,3,92,93,111,112,129,130,147,148,165,9,195,196,10] [1,0] mixed rfl rfl ?_
   refine au (kn:=[]) aa 2 rfl trivial ?_
   refine aM (n':=2) [200,199] [0] rfl rfl (.inl ⟨(ah.plain rfl),aE.cast (cE (i:=1) rfl rfl rfl Try.underlying38 gr rfl (by decide)) rfl⟩) rfl ?_
   refine au (kn:=[]) aa 2 rfl trivial ?_
   refine aM (n':=2) [202,203] [] rfl rfl (.inl ⟨(ah.plain rfl),aE.cast (ca (i:=q5) rfl rfl rfl Try.underlying37 lE (by first|omega|(simp;done)|(simp;omega)) (bf hx1)) rfl⟩) rfl ?_
   refine au (kn:=[]) aa 3 rfl trivial ?_
   refine aM (n':=2) [207,206] [1] rfl rfl (.inl ⟨(ah.plain rfl),aE.cast (cE (i:=1) rfl rfl rfl Try.underlying38 gr rfl (by decide)) rfl⟩) rfl ?_
   refine au (kn:=[]) aa 2 rfl trivial ?_
   refine aM (n':=2) [209,210] [] rfl rfl (.inl ⟨(ah.plain rfl),aE.cast (ca (i:=q5) rfl rfl rfl Try.underlying37 lE (by first|omega|(simp;done)|(simp;omega)) (bf hx1)) rfl⟩) rfl ?_
   refine au (kn:=[]) aa 1 rfl trivial ?_
   refine aM (n':=2) [205,212] [] rfl rfl (.inl ⟨(ah.plain rfl),aE.cast (uU (xs:=[.int .i64 x1.ch.number,.int .i64 x1.ch.kind,.int .i64 x1.ch.aZ,.int .i64 x1.ch.sum,.int .i64 x1.seen]) (by kernel_rfl) (BS _ _ _ _ _) rfl rfl rfl rfl) rfl⟩) rfl ?_
   refine br [1,0] rfl rfl rfl rfl (by kernel_rfl) ?_
   refine af ?_
   refine aj rfl (fun hno=>by cases hno) (fun _=>?_)
   refine cG ?_
   refine bl ?_
   refine then_ok ?_
   refine aw ?_
   refine aA (aK rfl rfl rfl (aL (by first|omega|(simp;done)|(simp;omega)))) rfl ?_
   refine ad aa 1 rfl ?_
   refine af ?_
   refine ⟨q5+1,by omega,by first|omega|(simp;done)|(simp;omega),aH.bS id (by refine ⟨?_,?_,?_,?_,?_,?_,?_,?_,?_,?_,?_,?_,?_,?_,trivial⟩<;>first|rfl|(simp only [bh];done)|(congr 3;omega)|(congr 4;omega)|(simp only [bj];rfl)) (by refine ⟨?_,?_,trivial⟩<;>first|rfl|(simp only [bh];done)|(congr 3;omega)|(congr 4;omega)|(simp only [bj];rfl)) rfl⟩
  have hc16':=of_decide_eq_false hc16
  refine bZ ?_
  refine aO ?_
  refine aO ?_
  refine bF ?_
  refine bl ?_
  refine then_ok ?_
  refine aw ?_
  refine aA (aK rfl rfl rfl (aL (by first|omega|(simp;done)|(simp;omega)))) rfl ?_
  refine ad aa 1 rfl ?_
  refine af ?_
  refine ⟨i+1,by omega,by first|omega|(simp;done)|(simp;omega),aH.bS id (by refine ⟨?_,?_,?_,?_,?_,?_,?_,?_,?_,?_,?_,trivial⟩<;>first|rfl|(simp only [bh];done)|(congr 3;omega)|(congr 4;omega)|(simp only [bj];rfl)) (by refine ⟨?_,?_,trivial⟩<;>first|rfl|(simp only [bh];done)|(congr 3;omega)|(congr 4;omega)|(simp only [bj];rfl)) rfl⟩
 have hc10':=of_decide_eq_false hc10
 refine bZ ?_
 refine aO ?_
 refine aO ?_
 refine bF ?_
 refine then_ok ?_
 refine ae aa 1 rfl ?_
 refine ay ?_
 refine an aa [] 0 rfl rfl rfl rfl rfl rfl ?_ ?_
 ·rfl
 ·rfl
def ko (l:List bI):Prop:=∀ c∈l,0<=c.bJ - c.held
theorem pe {l:List bI} {e k h m:Int} (hl:ko l) (hc:∀ c,l[k.toNat]?=some c->h - m<=c.bJ - c.held):ko (cH l e k h m).1:=by
 unfold cH
 split
 ·exact hl
 ·rename_i c hk
  split
  ·rename_i h0
   intro z hz
   rcases fX hz with hz|rfl
   ·exact hl z hz
   ·have he:=(fJ h0).2
    rcases pP (show eb c h m=((eb c h m).1,(eb c h m).2) from rfl) with ⟨h1,_⟩|h1
    ·exact absurd he h1
    ·have h2:=h1.2.2.2.2.2.2.1
     have h3:=hc c hk
     rw [h2];dsimp only;omega
  ·exact hl
theorem iT {l:List bI} {e k h m:Int} (hl:ko l) (hm:h<=m):ko (cH l e k h m).1:=pe hl fun c hc=>by have:=hl c (List.mem_of_getElem? hc);omega
theorem zq {a:bH} {t:Int} (h:bK a=0):bN (eg a t) - bN a<=0:=by
 have:=eM h
 unfold bN eg
 cases hs:a.shut<;>cases ht:decide (a.cZ<=t)<;>simp<;>omega
theorem qM {time:Int}:∀ (l:List bH) (i:Nat) (aq:List bI) (ax:List bH) (e:Int),(∀ a∈l,bK a=0)->ko aq->ko (fI time l i aq ax e).1
 |[],_,_,_,_,_,h=>h
 |a::l,i,aq,ax,e,hw,h=>qM l (i+1) _ _ _ (fun x hx=>hw x (List.mem_cons_of_mem _ hx)) (iT h (zq (hw a List.mem_cons_self)))
theorem qN {time:Int} {n:Int}:∀ (l:List bH) (i:Nat) (aq:List bI) (ax:List bH) (e:Int),(∀ a∈l,a.bn=n)->(∀ a∈ax,a.bn=n)->∀ a∈(fI time l i aq ax e).2.1,a.bn=n
 |[],_,_,_,_,_,h=>h
 |a::l,i,aq,ax,e,hl,h=>qN l (i+1) _ _ _ (fun x hx=>hl x (List.mem_cons_of_mem _ hx)) fun x hx=>by
  rcases fX hx with hx|rfl
  ·exact h x hx
  ·exact hl a List.mem_cons_self
structure eU (b:Bk):Prop where
 ok:ct b
 up:b.down=false
 ir:∀ a∈b.ax,a.bn=0
 free:ko b.aq
 k0:∀ t∈b.s0.kept,0<=t.sum
 k1:∀ t∈b.s1.kept,0<=t.sum
 p0:∀ p∈b.w0,0<=p.ch.sum
 p1:∀ p∈b.w1,0<=p.ch.sum
theorem eU.dt {b c:Bk} {e:Int} (h:eU b) (hc:e=0->eU c):eU (dt b c e).1:=by
 unfold Dev.dt;split
 ·exact hc (by assumption)
 ·exact h
theorem eU.late {b:Bk} (h:eU b):eU (gQ b):=by
 have hok:=h.ok.late
 unfold gQ at hok ⊢
 split
 ·rename_i h0
  rw [if_pos h0] at hok
  exact ⟨hok,h.up,qN _ _ _ _ _ h.ir h.ir,qM _ _ _ _ _ (fun a ha=>(h.ok.perm a ha).1) h.free,h.k0,h.k1,h.p0,h.p1⟩
 ·exact h
theorem eU.start {s:Setup} (h:(eu s).err=0):eU (gS s):=
 ⟨ct.start h,rfl,fun a ha=>(by cases ha),fun c hc=>(by
  obtain ⟨p,_,rfl⟩:=List.mem_map.1 (show c∈s.cX.map oT from hc)
  exact Int.le_refl _),fun a ha=>(by cases ha),fun a ha=>(by cases ha),fun a ha=>(by cases ha),fun a ha=>(by cases ha)⟩
theorem yq {c:bI} {n t:Int} (h:(dQ c n t).2=0):0<=(dQ c n t).1.bJ - (dQ c n t).1.held:=by
 rcases ql (show dQ c n t=((dQ c n t).1,(dQ c n t).2) from rfl) with ⟨h5,_⟩|⟨h5,h6,h7,h8,h9,h10,h11,l,h12,h13⟩
 ·exact absurd h h5
 ·rw [h13];dsimp only;omega
theorem eU.asks {b:Bk} (h:eU b) (d:bB):eU (dD b d).1:=by
 have hok:=h.ok.asks d
 unfold dD at hok ⊢
 rw [h.up] at hok ⊢
 simp only [Bool.false_eq_true,if_false] at hok ⊢
 split
 ·exact h
 rename_i c1
 rw [if_neg c1] at hok
 split
 ·exact h
 rename_i c2
 rw [if_neg c2] at hok
 split
 ·exact h
 rename_i c3
 rw [if_neg c3] at hok
 obtain ⟨_,w2,_⟩:=nT (show (dm d.n d.aD d.sum b.time).2=0 by omega)
 split
 ·exact h
 rename_i c hc
 rw [hc] at hok
 dsimp only at hok
 split
 ·exact h
 rename_i c4
 rw [if_neg c4] at hok
 refine ⟨hok,rfl,fun a ha=>?_,fun z hz=>?_,h.k0,h.k1,h.p0,h.p1⟩
 ·rcases List.mem_append.1 ha with ha|ha
  ·exact h.ir a ha
  ·obtain rfl:=List.mem_singleton.1 ha;rw [w2]
 ·rcases fX hz with hz|rfl
  ·exact h.free z hz
  ·exact yq (by omega)
theorem xJ {a b:bH} {k n:Int} (hw:bK a=0) (h1:1<=n) (hm:jN a k n b):(k=1->bN b - bN a=n)/\(k=2\/k=3->bN b - bN a<=0 - n)/\(k=4->bN b - bN a<=0)/\(k=6\/b.bn<=a.bn):=by
 have hr:=eM hw
 cases hm with
 |more h hs hn=>subst h;unfold bN;rw [hs];simp;omega
 |take h hs hn=>
  unfold bN;rw [hs];dsimp only
  refine ⟨fun h=>by omega,fun _=>?_,fun h=>by omega,.inr (Int.le_refl _)⟩
  split<;>simp at *<;>omega
 |less h hs hn=>
  subst h;unfold bN;rw [hs];dsimp only
  refine ⟨fun h=>by omega,fun h=>by omega,fun _=>?_,.inr (Int.le_refl _)⟩
  split<;>simp at *<;>omega
 |uq h hn=>subst h;exact ⟨fun h=>by omega,fun h=>by omega,fun h=>by omega,.inr (Int.le_refl _)⟩
 |rP h hn=>subst h;exact ⟨fun h=>by omega,fun h=>by omega,fun h=>by omega,.inl rfl⟩
 |rM h hn=>subst h;exact ⟨fun h=>by omega,fun h=>by omega,fun h=>by omega,.inr (by dsimp only;omega)⟩
 |rL h hn=>subst h;exact ⟨fun h=>by omega,fun h=>by omega,fun h=>by omega,.inr (by dsimp only;omega)⟩
theorem xI {a b:bH} {k n:Int} (hm:jN a k n b) (h1:1<=n) (hk:k=7\/k=8):1<=a.bn:=by
 cases hm<;>omega
theorem nK {s:bY} {e:Int} {t:bq} (h:∀ t∈s.kept,0<=t.sum) (ht:0<=t.sum):∀ u∈(eF s e t).1.kept,0<=u.sum:=by
 unfold eF
 split
 ·rename_i h0
  have he:=(fJ h0).2
  unfold gj at he
  split at he
  ·rename_i h1;exact absurd he h1
  split at he
  ·rename_i h1;exact absurd he h1
  ·rename_i h1 h2
   have hp:(gj s t).1=ll s t:=by unfold gj;rw [if_neg h1,if_neg h2]
   dsimp only
   rw [hp]
   intro u hu
   rcases List.mem_append.1 hu with hu|hu
   ·exact h u hu
   ·obtain rfl:=List.mem_singleton.1 hu;exact ht
 ·exact h
theorem eU.lx {b:Bk} (h:eU b) (d:bB) (hd:¬d.move=6):eU (dA b d).1:=by
 have hok:=h.ok.lx d
 unfold dA at hok ⊢
 rw [h.up] at hok ⊢
 simp only [Bool.false_eq_true,if_false] at hok ⊢
 split
 ·exact h
 rename_i c1
 rw [if_neg c1] at hok
 split
 ·exact h
 rename_i cF ho
 rw [ho] at hok
 dsimp only at hok
 split
 ·exact h
 rename_i c2
 rw [if_neg c2] at hok
 split
 ·exact h
 rename_i c3
 rw [if_neg c3] at hok
 have hmv:cu cF d.move d.sum=((cu cF d.move d.sum).1,0):=Prod.ext rfl (by dsimp only;omega)
 generalize (cu cF d.move d.sum).1=a at *
 rcases pV hmv with ⟨h4,_⟩|⟨_,hw,hn1,hn2,hm⟩
 ·exact absurd rfl h4
 have hold:=h.ir cF (List.mem_of_getElem? ho)
 have hr:=eM hw
 obtain ⟨m1,m2,m3,m4⟩:=xJ hw hn1 hm
 have hcard:a.aN=cF.aN:=(pn hmv).2.1
 have hra:=eM (pn hmv).1
 unfold oS at hok ⊢
 have hcards:ko (dS b a cF d).1:=by
  unfold dS
  split
  ·rename_i hk
   rcases hk with hk|hk
   ·refine pe h.free fun c hc=>?_
    have hf:¬d.sum > kB b.aq a.aN:=fun hf=>c3 ⟨hk,hf⟩
    unfold kB at hf;rw [hc] at hf;dsimp only at hf
    have:=m1 hk;omega
   ·exact iT h.free (m3 hk)
  split
  ·rename_i hk;exact iT h.free (m2 hk)
  split
  ·exact h.free
  split
  ·exact h.free
  split
  ·rename_i hk;have:=xI hm hn1 (.inr hk);omega
  ·exact h.free
 unfold Dev.dt at hok ⊢
 split
 ·rename_i h0
  rw [if_pos h0] at hok
  have hks:(∀ t∈(dS b a cF d).2.2.2.1.kept,0<=t.sum)/\∀ t∈(dS b a cF d).2.2.2.2.1.kept,0<=t.sum:=by
   unfold dS
   split
   ·exact ⟨h.k0,h.k1⟩
   split
   ·exact ⟨nK h.k0 (by dsimp only;omega),h.k1⟩
   split
   ·exact ⟨h.k0,nK h.k1 (by dsimp only;omega)⟩
   split
   ·exact ⟨nK h.k0 (by dsimp only;omega),h.k1⟩
   split
   ·exact ⟨h.k0,h.k1⟩
   ·exact ⟨h.k0,h.k1⟩
  refine ⟨hok,h.up,fun x hx=>?_,hcards,hks.1,hks.2,h.p0,h.p1⟩
  rcases fX hx with hx|rfl
  ·exact h.ir x hx
  ·rcases m4 with h6|h6
   ·exact absurd h6 hd
   ·omega
 ·exact h
theorem qy {ax:List bH} {due:List Int} {aq:List bI} {book:List Entry} {e:Int} {t:bq} (h:ko aq) (ht:0<=t.sum):ko (eE ax due aq book e t).2.1:=by
 unfold eE
 split
 ·exact h
 split
 ·exact h
 split
 ·exact iT h ht
 split
 ·exact h
 ·exact h
theorem eU.load {b:Bk} (h:eU b) (d:bB):eU (fr b d).1:=by
 have hok:=h.ok.load d
 unfold fr at hok ⊢
 split
 ·exact h
 rename_i c1
 rw [if_neg c1] at hok
 split
 ·exact h
 rename_i c2
 rw [if_neg c2] at hok
 unfold Dev.dt at hok ⊢
 split
 ·rename_i h0;rw [if_pos h0] at hok;exact ⟨hok,h.up,h.ir,iT h.free (by omega),h.k0,h.k1,h.p0,h.p1⟩
 ·exact h
theorem eU.ux {b:Bk} (h:eU b) (d:bB):eU (gk b d).1:=by
 have hok:=h.ok.ux d
 unfold gk at hok ⊢
 split
 ·exact h
 rename_i c1
 rw [if_neg c1] at hok
 split
 ·exact h
 rename_i c2
 rw [if_neg c2] at hok
 unfold Dev.dt at hok ⊢
 split
 ·rename_i h0;rw [if_pos h0] at hok;exact ⟨hok,h.up,h.ir,h.free,h.k0,h.k1,h.p0,h.p1⟩
 ·exact h
theorem eU.cD {b:Bk} (h:eU b) (d:bB):eU (eQ b d).1:=by
 unfold eQ
 split
 ·exact h
 ·rw [h.up]
  simp only [Bool.false_eq_true,if_false]
  have h1:eU {b with time:=b.time+d.sum}:=⟨h.ok.tick (by have:=h.ok.time;omega) (by have:=h.ok.time;omega),h.up,h.ir,h.free,h.k0,h.k1,h.p0,h.p1⟩
  have h2:=h1.late
  rwa [show ({b with time:=b.time+d.sum}:Bk)={b with time:=b.time+d.sum,down:=false} by rw [<-h.up]] at h2
theorem sq {w:List cp} {ks:List bq} {n:Int} (h:∀ p∈w,0<=p.ch.sum) (hk:∀ t∈ks,0<=t.sum):∀ p∈(ja w ks n).1,0<=p.ch.sum:=by
 unfold ja
 split
 ·exact h
 ·intro p hp
  rcases sE hp with hp|⟨t,ht,rfl⟩|rfl
  ·exact h p hp
  ·exact hk t ht
  ·exact Int.le_refl _
theorem eU.send {b:Bk} (h:eU b) (d:bB):eU {b with w0:=(ew b.s0 b.s1 b.n0 b.n1 b.w0 b.w1 d).1,w1:=(ew b.s0 b.s1 b.n0 b.n1 b.w0 b.w1 d).2.1}:=by
 refine ⟨h.ok.send d,h.up,h.ir,h.free,h.k0,h.k1,?_,?_⟩
 ·dsimp only;unfold ew
  split
  ·exact h.p0
  split
  ·exact sq h.p0 h.k1
  ·exact h.p0
 ·dsimp only;unfold ew
  split
  ·exact sq h.p1 h.k0
  split
  ·exact h.p1
  ·exact h.p1
theorem tg {s:bY} {n:Int} (h:∀ t∈s.kept,0<=t.sum) (hb:(dZ s n).2=0):∀ t∈(dZ s n).1.kept,0<=t.sum:=by
 rcases oV (show dZ s n=((dZ s n).1,(dZ s n).2) from rfl) with ⟨h1,_⟩|⟨_,_,_,_,h2⟩
 ·exact absurd hb h1
 ·rw [h2];exact fun t ht=>h t (sM ht)
theorem eU.ly {b:Bk} (h:eU b) (d:bB):eU (cv b d).1:=by
 have hok:=h.ok.ly d
 unfold cv at hok ⊢
 split
 ·rename_i c0
  rw [if_pos c0] at hok
  unfold fE at hok ⊢
  split
  ·exact h
  rename_i p hp
  rw [hp] at hok
  dsimp only at hok
  have hps:=h.p0 p (List.mem_of_getElem? hp)
  have hd:∀ p∈b.w0.drop 1,0<=p.ch.sum:=fun p hp=>h.p0 p (List.mem_of_mem_drop hp)
  split
  ·rename_i c1;rw [if_pos c1] at hok;exact ⟨hok,h.up,h.ir,h.free,h.k0,h.k1,hd,h.p1⟩
  rename_i c1
  rw [if_neg c1] at hok
  split
  ·rename_i c2
   rw [if_pos c2] at hok
   split
   ·rename_i c3;rw [if_pos c3] at hok;exact ⟨hok,h.up,h.ir,h.free,tg h.k0 c3,h.k1,hd,h.p1⟩
   ·exact h
  rename_i c2
  rw [if_neg c2] at hok
  split
  ·rename_i c3
   rw [if_pos c3] at hok
   unfold Dev.dt at hok ⊢
   split
   ·rename_i c4;rw [if_pos c4] at hok;exact ⟨hok,h.up,h.ir,qy h.free hps,h.k0,h.k1,hd,h.p1⟩
   ·exact h
  ·rename_i c3;rw [if_neg c3] at hok;exact ⟨hok,h.up,h.ir,h.free,h.k0,h.k1,hd,h.p1⟩
 rename_i c0
 rw [if_neg c0] at hok
 split
 ·rename_i c01
  rw [if_pos c01] at hok
  unfold fD at hok ⊢
  split
  ·exact h
  rename_i p hp
  rw [hp] at hok
  dsimp only at hok
  have hps:=h.p1 p (List.mem_of_getElem? hp)
  have hd:∀ p∈b.w1.drop 1,0<=p.ch.sum:=fun p hp=>h.p1 p (List.mem_of_mem_drop hp)
  split
  ·rename_i c1;rw [if_pos c1] at hok;exact ⟨hok,h.up,h.ir,h.free,h.k0,h.k1,h.p0,hd⟩
  rename_i c1
  rw [if_neg c1] at hok
  split
  ·rename_i c2
   rw [if_pos c2] at hok
   split
   ·rename_i c3;rw [if_pos c3] at hok;exact ⟨hok,h.up,h.ir,h.free,h.k0,tg h.k1 c3,h.p0,hd⟩
   ·exact h
  rename_i c2
  rw [if_neg c2] at hok
  split
  ·rename_i c3
   rw [if_pos c3] at hok
   unfold Dev.dt at hok ⊢
   split
   ·rename_i c4;rw [if_pos c4] at hok;exact ⟨hok,h.up,h.ir,qy h.free hps,h.k0,h.k1,h.p0,hd⟩
   ·exact h
  ·rename_i c3;rw [if_neg c3] at hok;exact ⟨hok,h.up,h.ir,h.free,h.k0,h.k1,h.p0,hd⟩
 ·exact h
theorem eU.Br {b:Bk} (h:eU b) (y:List (List Int)) (d:bB) (h8:¬d.kind=8) (h6:¬(d.kind=3/\d.move=6)):eU (ff b y d).1:=by
 unfold ff
 split
 ·exact h.load d
 split
 ·exact h.asks d
 split
 ·rename_i h3;exact h.lx d fun e=>h6 ⟨h3,e⟩
 split
 ·exact h.cD d
 split
 ·exact h.send d
 split
 ·exact h.ly d
 split
 ·have:(iv b).1=b:=by unfold iv;rw [if_pos h.up]
  rw [this];exact h
 split
 ·exact ⟨h.ok.pQ (lL (y:=y) h.ok.aR).1,h.up,h.ir,h.free,h.k0,h.k1,h.p0,h.p1⟩
 split
 ·exact h.ux d
 ·exact h
section
def en (k:Int):List bH->Int
 |[]=>0
 |a::l=>(if a.aN=k then bN a else 0)+en k l
theorem qQ (k:Int) (u v:List bH):en k (u++v)=en k u+en k v:=by
 induction u with
 |nil=>simp [en]
 |cons a u ih=>simp only [List.cons_append,en,ih];omega
theorem na (k:Int) (b:bH):∀ {l:List bH} {i:Nat} {a:bH},l[i]?=some a->en k (l.set i b)=en k l - (if a.aN=k then bN a else 0)+(if b.aN=k then bN b else 0)
 |x::l,0,a,h=>by
  have:x=a:=by simpa using h
  subst this
  simp only [List.set_cons_zero,en];omega
 |x::l,i+1,a,h=>by
  have h:l[i]?=some a:=by simpa using h
  simp only [List.set_cons_succ,en,na k b h];omega
def gE (aq:List bI) (ax:List bH):Prop:=∀ (k:Nat) (c:bI),aq[k]?=some c->c.held=en k ax
theorem pd {l:List bI} {e k h m:Int} (hz:(cH l e k h m).2=0):e=0/\((l[k.toNat]?=none/\(cH l e k h m).1=l)\/∃ c,l[k.toNat]?=some c/\(cH l e k h m).1=l.set k.toNat ⟨c.bJ+m,c.held+h,c.bV,c.cT⟩):=by
 unfold cH at hz ⊢
 cases hc:l[k.toNat]? with
 |none=>rw [hc] at hz;exact ⟨hz,.inl ⟨rfl,rfl⟩⟩
 |some c=>
  rw [hc] at hz
  dsimp only at hz ⊢
  split at hz
  ·rename_i h0
   obtain ⟨h1,h2⟩:=fJ h0
   rcases pP (show eb c h m=((eb c h m).1,(eb c h m).2) from rfl) with ⟨h3,_⟩|h3
   ·exact absurd h2 h3
   ·rw [if_pos h0]
    exact ⟨h1,.inr ⟨c,rfl,by dsimp only;rw [h3.2.2.2.2.2.2.1]⟩⟩
  ·rename_i h0;exact absurd hz h0
theorem gE.shift {aq:List bI} {ax auths':List bH} {e k h m:Int} (hh:gE aq ax) (hz:(cH aq e k h m).2=0) (ha:∀ j:Nat,en j auths'=en j ax+if j=k.toNat then h else 0):gE (cH aq e k h m).1 auths':=by
 obtain ⟨_,hz⟩:=pd hz
 intro j c hc
 rcases hz with ⟨h1,h2⟩|⟨c0,h1,h2⟩
 ·rw [h2] at hc
  have:j≠k.toNat:=fun e=>by subst e;rw [h1] at hc;cases hc
  rw [hh j c hc,ha j,if_neg this];omega
 ·rw [h2,List.getElem?_set] at hc
  split at hc
  ·rename_i e
   split at hc
   ·injection hc with hc;subst hc
    have:=hh _ c0 h1
    rw [ha j,if_pos e.symm,<-e];dsimp only;omega
   ·cases hc
  ·rename_i e
   rw [hh j c hc,ha j,if_neg (Ne.symm e)];omega
theorem gE.same {aq:List bI} {ax:List bH} {e k m:Int} (hh:gE aq ax) (hz:(cH aq e k 0 m).2=0):gE (cH aq e k 0 m).1 ax:=hh.shift hz fun j=>by split<;>omega
theorem mK {s:bY} {e:Int} {t:bq} (h:(eF s e t).2=0):e=0/\(gj s t).2=0/\(eF s e t).1=(gj s t).1:=by
 unfold eF at h ⊢
 split at h
 ·rename_i h0;obtain ⟨h1,h2⟩:=fJ h0;rw [if_pos h0];exact ⟨h1,h2,rfl⟩
 ·rename_i h0;exact absurd h h0
theorem uv {s:bY} {t:bq} (h:(gj s t).2=0):(cO s).err=0/\(cO (ll s t)).err=0/\(gj s t).1=ll s t:=by
 unfold gj at h ⊢
 split at h
 ·rename_i h1;exact absurd h h1
 split at h
 ·rename_i h1;exact absurd h h1
 ·rename_i h1 h2;rw [if_neg h1,if_neg h2];exact ⟨by omega,by omega,rfl⟩
theorem xb {s:bY} {n:Int} (h:(dZ s n).2=0):(cO s).err=0/\0<=n/\n<=s.bz/\(dZ s n).1=⟨s.bz,dK (came n) s.kept⟩/\(cO (dZ s n).1).err=0:=by
 rcases oV (show dZ s n=((dZ s n).1,(dZ s n).2) from rfl) with ⟨h1,_⟩|⟨_,h1,h2,h3,h4⟩
 ·exact absurd h h1
 ·exact ⟨h1,h2,h3,h4,by rw [h4];exact ym h1 h2 h3⟩
structure ea (b:Bk):Prop where
 ok:ct b
 held:gE b.aq b.ax
 s0:(cO b.s0).err=0
 s1:(cO b.s1).err=0
 st:bW b.ba=0
 used:b.ba.used.length=b.aq.length
 aR:∀ x∈b.aR,wF x
theorem qK {time:Int}:∀ (l:List bH) (i:Nat) (aq:List bI) (ax:List bH) (e:Int),(fI time l i aq ax e).2.2=0->e=0
 |[],_,_,_,_,h=>h
 |a::l,i,aq,ax,e,h=>(pd (qK l _ _ _ _ h)).1
theorem qL {time:Int}:∀ (l:List bH) (i:Nat) (aq:List bI) (ax:List bH) (e:Int),(fI time l i aq ax e).2.2=0->ax.drop i=l->(∀ a∈l,0<=a.aN)->gE aq ax->gE (fI time l i aq ax e).1 (fI time l i aq ax e).2.1
 |[],_,_,_,_,_,_,_,h=>h
 |a::l,i,aq,ax,e,hz,hd,hp,h=>by
  have hat:ax[i]?=some a:=by
   have:(ax.drop i)[0]?=some a:=by rw [hd];rfl
   rwa [List.getElem?_drop,Nat.add_zero] at this
  have hilt:=(List.getElem?_eq_some_iff.1 hat).1
  refine qL l (i+1) _ _ _ hz ?_ (fun x hx=>hp x (List.mem_cons_of_mem _ hx)) (h.shift (qK l _ _ _ _ hz) fun j=>?_)
  ·rw [List.drop_set_of_lt (by omega)]
   have:ax.drop (i+1)=(ax.drop i).drop 1:=by rw [List.drop_drop]
   rw [this,hd];rfl
  ·have hc:=hp a List.mem_cons_self
   rw [na _ _ hat]
   have:(eg a time).aN=a.aN:=rfl
   rw [this]
   by_cases e:a.aN=(j:Int)
   ·rw [if_pos e,if_pos e,if_pos (by omega)];omega
   ·rw [if_neg e,if_neg e,if_neg (by omega)];omega
theorem zj {time:Int} (l:List bH) (i:Nat) (aq:List bI) (ax:List bH) (e:Int):(fI time l i aq ax e).1.length=aq.length:=by
 induction l generalizing i aq ax e with
 |nil=>rfl
 |cons a l ih=>exact (ih (i+1) _ _ _).trans (fg _ _ _ _ _)
theorem ea.late {b:Bk} (h:ea b):ea (gQ b):=by
 have hok:=h.ok.late
 unfold gQ at hok ⊢
 split
 ·rename_i h0
  rw [if_pos h0] at hok
  exact ⟨hok,qL _ _ _ _ _ h0 rfl (fun a ha=>(h.ok.perm a ha).2.1) h.held,h.s0,h.s1,h.st,by dsimp only;rw [zj];exact h.used,h.aR⟩
 ·exact h
theorem ea.start {s:Setup} (h:(eu s).err=0):ea (gS s):=by
 obtain ⟨h1,h2,h3,h4,h5,h6⟩:=kD h
 have hn:dC s.cap s.cX.length=({cap:=s.cap,used:=List.replicate s.cX.length 0,aT:=[]},0):=pq h1 ⟨h4,h5⟩
 refine ⟨ct.start h,fun k c hc=>?_,rfl,rfl,?_,?_,fun x hx=>by cases hx⟩
 ·have hc:(s.cX.map oT)[k]?=some c:=hc
  rw [List.getElem?_map] at hc
  cases hp:s.cX[k]? with
  |none=>rw [hp] at hc;cases hc
  |some p=>rw [hp] at hc;injection hc with hc;subst hc;rfl
 ·show bW (dC s.cap s.cX.length).1=0
  rw [hn];exact sI _ _ h1 h4 h5
 ·show (dC s.cap s.cX.length).1.used.length=(s.cX.map oT).length
  rw [hn];simp
theorem ea.load {b:Bk} (h:ea b) (d:bB):ea (fr b d).1:=by
 have hok:=h.ok.load d
 unfold fr at hok ⊢
 split
 ·exact h
 rename_i c1
 rw [if_neg c1] at hok
 split
 ·exact h
 rename_i c2
 rw [if_neg c2] at hok
 unfold Dev.dt at hok ⊢
 split
 ·rename_i h0
  rw [if_pos h0] at hok
  exact ⟨hok,h.held.same (jD h0).1,h.s0,h.s1,h.st,by dsimp only;rw [fg];exact h.used,h.aR⟩
 ·exact h
theorem ea.ux {b:Bk} (h:ea b) (d:bB):ea (gk b d).1:=by
 have hok:=h.ok.ux d
 unfold gk at hok ⊢
 split
 ·exact h
 rename_i c1
 rw [if_neg c1] at hok
 split
 ·exact h
 rename_i c2
 rw [if_neg c2] at hok
 unfold Dev.dt at hok ⊢
 split
 ·rename_i h0;rw [if_pos h0] at hok;exact ⟨hok,h.held,h.s0,h.s1,h.st,h.used,h.aR⟩
 ·exact h
theorem ea.cD {b:Bk} (h:ea b) (d:bB):ea (eQ b d).1:=by
 unfold eQ
 split
 ·exact h
 ·have h1:ea {b with time:=b.time+d.sum}:=⟨h.ok.tick (by have:=h.ok.time;omega) (by have:=h.ok.time;omega),h.held,h.s0,h.s1,h.st,h.used,h.aR⟩
  dsimp only
  split
  ·exact h1
  ·exact h1.late
theorem ea.send {b:Bk} (h:ea b) (d:bB):ea {b with w0:=(ew b.s0 b.s1 b.n0 b.n1 b.w0 b.w1 d).1,w1:=(ew b.s0 b.s1 b.n0 b.n1 b.w0 b.w1 d).2.1}:=
 ⟨h.ok.send d,h.held,h.s0,h.s1,h.st,h.used,h.aR⟩
theorem qx {ax:List bH} {due:List Int} {aq:List bI} {book:List Entry} {e:Int} {t:bq} (h:gE aq ax) (hz:(eE ax due aq book e t).2.2.2=0):gE (eE ax due aq book e t).2.1 ax/\(eE ax due aq book e t).2.1.length=aq.length:=by
 unfold eE at hz ⊢
 split
 ·exact ⟨h,rfl⟩
 rename_i a ha
 rw [ha] at hz
 dsimp only at hz
 split
 ·exact ⟨h,rfl⟩
 rename_i c1
 rw [if_neg c1] at hz
 split
 ·rename_i c2;rw [if_pos c2] at hz;exact ⟨h.same (jD hz).1,fg _ _ _ _ _⟩
 split
 ·exact ⟨h,rfl⟩
 ·exact ⟨h,rfl⟩
theorem ea.ly {b:Bk} (h:ea b) (d:bB):ea (cv b d).1:=by
 have hok:=h.ok.ly d
 unfold cv at hok ⊢
 split
 ·rename_i c0
  rw [if_pos c0] at hok
  unfold fE at hok ⊢
  split
  ·exact h
  rename_i p hp
  rw [hp] at hok
  dsimp only at hok
  split
  ·rename_i c1;rw [if_pos c1] at hok;exact ⟨hok,h.held,h.s0,h.s1,h.st,h.used,h.aR⟩
  rename_i c1
  rw [if_neg c1] at hok
  split
  ·rename_i c2
   rw [if_pos c2] at hok
   split
   ·rename_i c3;rw [if_pos c3] at hok;exact ⟨hok,h.held,(xb c3).2.2.2.2,h.s1,h.st,h.used,h.aR⟩
   ·exact h
  rename_i c2
  rw [if_neg c2] at hok
  split
  ·rename_i c3
   rw [if_pos c3] at hok
   unfold Dev.dt at hok ⊢
   split
   ·rename_i c4;rw [if_pos c4] at hok;obtain ⟨r1,r2⟩:=qx h.held c4;exact ⟨hok,r1,h.s0,h.s1,h.st,h.used.trans r2.symm,h.aR⟩
   ·exact h
  ·rename_i c3;rw [if_neg c3] at hok;exact ⟨hok,h.held,h.s0,h.s1,h.st,h.used,h.aR⟩
 rename_i c0
 rw [if_neg c0] at hok
 split
 ·rename_i c01
  rw [if_pos c01] at hok
  unfold fD at hok ⊢
  split
  ·exact h
  rename_i p hp
  rw [hp] at hok
  dsimp only at hok
  split
  ·rename_i c1;rw [if_pos c1] at hok;exact ⟨hok,h.held,h.s0,h.s1,h.st,h.used,h.aR⟩
  rename_i c1
  rw [if_neg c1] at hok
  split
  ·rename_i c2
   rw [if_pos c2] at hok
   split
   ·rename_i c3;rw [if_pos c3] at hok;exact ⟨hok,h.held,h.s0,(xb c3).2.2.2.2,h.st,h.used,h.aR⟩
   ·exact h
  rename_i c2
  rw [if_neg c2] at hok
  split
  ·rename_i c3
   rw [if_pos c3] at hok
   unfold Dev.dt at hok ⊢
   split
   ·rename_i c4;rw [if_pos c4] at hok;obtain ⟨r1,r2⟩:=qx h.held c4;exact ⟨hok,r1,h.s0,h.s1,h.st,h.used.trans r2.symm,h.aR⟩
   ·exact h
  ·rename_i c3;rw [if_neg c3] at hok;exact ⟨hok,h.held,h.s0,h.s1,h.st,h.used,h.aR⟩
 ·exact h
theorem zx {s:cA} {a:cg} (h:(cr s a).2=0):(cr s a).1.used.length=s.used.length:=by
 unfold cr at h ⊢
 split at h
 ·rename_i h1;exact absurd h h1
 split at h
 ·cases h
 split at h
 ·cases h
 split at h
 ·cases h
 ·rename_i h1 h2 h3 h4;rw [if_neg h1,if_neg h2,if_neg h3,if_neg h4];exact List.length_set ..
theorem gE.new {aq:List bI} {ax:List bH} {k:Int} {c c':bI} {a:bH} (hh:gE aq ax) (hk:0<=k) (hc:aq[k.toNat]?=some c) (ha:a.aN=k) (h':c'.held=c.held+bN a):gE (aq.set k.toNat c') (ax++[a]):=by
 intro j z hz
 rw [qQ]
 have h1:en j [a]=if a.aN=j then bN a else 0:=by simp [en]
 rw [h1]
 rw [List.getElem?_set] at hz
 split at hz
 ·rename_i e
  split at hz
  ·injection hz with hz;subst hz
   have:=hh _ c hc
   rw [if_pos (by omega),<-e];omega
  ·cases hz
 ·rename_i e
  rw [hh j z hz,if_neg (by omega)];omega
theorem ea.asks {b:Bk} (h:ea b) (d:bB):ea (dD b d).1:=by
 have hok:=h.ok.asks d
 unfold dD at hok ⊢
 split
 ·exact h
 rename_i c0
 rw [if_neg c0] at hok
 split
 ·rename_i cd
  rw [if_pos cd] at hok
  split
  ·exact h
  rename_i c1
  rw [if_neg c1] at hok
  split
  ·exact h
  rename_i c2
  rw [if_neg c2] at hok
  have he:=qW (show gD (cr b.ba ⟨d.n,d.aD,d.sum,b.time⟩).2=0 by omega)
  exact ⟨hok,h.held,h.s0,h.s1,(xP h.st he).1,(zx he).trans h.used,h.aR⟩
 rename_i cd
 rw [if_neg cd] at hok
 split
 ·exact h
 rename_i c2
 rw [if_neg c2] at hok
 split
 ·exact h
 rename_i c3
 rw [if_neg c3] at hok
 obtain ⟨_,w2,_⟩:=nT (show (dm d.n d.aD d.sum b.time).2=0 by omega)
 split
 ·exact h
 rename_i c hc
 rw [hc] at hok
 dsimp only at hok
 split
 ·exact h
 rename_i c4
 rw [if_neg c4] at hok
 refine ⟨hok,h.held.new (by omega) hc (by rw [w2]) ?_,h.s0,h.s1,h.st,by dsimp only;rw [List.length_set];exact h.used,h.aR⟩
 rcases ql (show dQ c d.sum b.time=((dQ c d.sum b.time).1,(dQ c d.sum b.time).2) from rfl) with ⟨h5,_⟩|⟨h5,h6,h7,h8,h9,h10,h11,l,h12,h13⟩
 ·omega
 ·rw [h13,w2];simp [bN]
theorem tQ:∀ (l:List cg) (cs:List bI) (xs:List bH),(ga l cs xs).2.2=0->gE cs xs->(∀ a∈l,0<=a.aN/\a.aN < cs.length)->gE (ga l cs xs).1 (ga l cs xs).2.1/\(ga l cs xs).1.length=cs.length
 |[],cs,xs,_,h,_=>⟨h,rfl⟩
 |x::l,cs,xs,hz,h,hl=>by
  unfold ga at hz ⊢
  split at hz
  ·rename_i h1;exact absurd hz h1
  rename_i h1
  rw [if_neg h1]
  have hx:=hl x List.mem_cons_self
  cases hc:cs[x.aN.toNat]? with
  |none=>have:=List.getElem?_eq_none_iff.1 hc;omega
  |some c=>
   rw [hc] at hz
   dsimp only at hz ⊢
   split at hz
   ·rename_i h2;exact absurd hz h2
   rename_i h2
   rw [if_neg h2]
   obtain ⟨_,w2,_⟩:=nT (show (dm x.aN x.aD x.sum x.time).2=0 by omega)
   obtain ⟨_,f2,_⟩:=oe (show (eN c x.sum).2=0 by omega)
   have:=tQ l _ _ hz (h.new hx.1 hc (by rw [w2]) (by rw [f2,w2];simp [bN])) (fun a ha=>by rw [List.length_set];exact hl a (List.mem_cons_of_mem _ ha))
   rw [List.length_set] at this
   exact this
theorem ea.CU {b:Bk} (h:ea b):ea (iv b).1:=by
 unfold iv
 split
 ·exact h
 split
 ·exact h
 split
 ·exact h
 rename_i c1 c2 c3
 have h0:(db b.ba).2.2=0:=by omega
 obtain ⟨r1,r2,r3⟩:=qj h0
 have hu:=h.ok.Ah h0
 have hz:(ga (db b.ba).2.1 b.aq b.ax).2.2=0:=by omega
 obtain ⟨u1,u2⟩:=tQ _ _ _ hz h.held (fun a ha=>by rw [r3] at ha;have:=h.ok.jr a ha;omega)
 have hp:=gI h.st
 refine ea.late ⟨hu,u1,h.s0,h.s1,?_,?_,h.aR⟩
 ·dsimp only;rw [r2]
  have hc:0<=b.ba.cap/\b.ba.cap<=1000000:=by simpa [gl] using hp.2.2.1
  exact sI _ _ hp.1 hc.1 hc.2
 ·dsimp only;rw [r2,u2];simp [h.used]
theorem ea.lx {b:Bk} (h:ea b) (d:bB):ea (dA b d).1:=by
 have hok:=h.ok.lx d
 unfold dA at hok ⊢
 split
 ·exact h
 rename_i cd
 rw [if_neg cd] at hok
 split
 ·exact h
 rename_i c1
 rw [if_neg c1] at hok
 split
 ·exact h
 rename_i cF ho
 rw [ho] at hok
 dsimp only at hok
 split
 ·exact h
 rename_i c2
 rw [if_neg c2] at hok
 split
 ·exact h
 rename_i c3
 rw [if_neg c3] at hok
 have hmv:cu cF d.move d.sum=((cu cF d.move d.sum).1,0):=Prod.ext rfl (by dsimp only;omega)
 generalize (cu cF d.move d.sum).1=a at *
 obtain ⟨_,hwa,hcard,hshop,hk1,hk2,hn1,hn2⟩:=mb hmv
 rcases pV hmv with ⟨h4,_⟩|⟨_,hw,_,_,hm⟩
 ·exact absurd rfl h4
 have hp:=h.ok.perm cF (List.mem_of_getElem? ho)
 have hra:=eM hwa
 have hset:∀ j:Nat,en j (b.ax.set d.n.toNat a)=en j b.ax+if j=a.aN.toNat then bN a - bN cF else 0:=fun j=>by
  rw [na _ _ ho,hcard]
  by_cases e:cF.aN=(j:Int)
  ·rw [if_pos e,if_pos e,if_pos (by omega)];omega
  ·rw [if_neg e,if_neg e,if_neg (by omega)];omega
 have hsame:bN a=bN cF->∀ j:Nat,en j (b.ax.set d.n.toNat a)=en j b.ax:=fun e j=>by rw [hset j];split<;>omega
 have hh:d.move=5\/d.move=6\/d.move=7\/d.move=8->bN a=bN cF:=fun e=>by
  cases hm with
  |uq _ _=>rfl
  |rP _ _=>rfl
  |rM _ _=>rfl
  |rL _ _=>rfl
  |more h _ _=>omega
  |take h _ _=>omega
  |less h _ _=>omega
 unfold oS Dev.dt at hok ⊢
 split
 rotate_left
 ·exact h
 rename_i h0
 rw [if_pos h0] at hok
 obtain ⟨e0,hl0,hnote⟩:=xF h0
 have key:gE (dS b a cF d).1 (b.ax.set d.n.toNat a)/\(cO (dS b a cF d).2.2.2.1).err=0/\(cO (dS b a cF d).2.2.2.2.1).err=0/\(dS b a cF d).1.length=b.aq.length:=by
  unfold dS at e0 ⊢
  split at e0
  ·rename_i hk;rw [if_pos hk];exact ⟨h.held.shift e0 hset,h.s0,h.s1,fg _ _ _ _ _⟩
  rename_i k1
  rw [if_neg k1]
  split at e0
  ·rename_i hk;rw [if_pos hk]
   obtain ⟨e1,e2,e3⟩:=mK e0
   obtain ⟨_,p2,p3⟩:=uv e2
   exact ⟨h.held.shift (jD e1).1 hset,by dsimp only;rw [e3,p3];exact p2,h.s1,fg _ _ _ _ _⟩
  rename_i k2
  rw [if_neg k2]
  split at e0
  ·rename_i hk;rw [if_pos hk]
   obtain ⟨e1,e2,e3⟩:=mK e0
   obtain ⟨_,p2,p3⟩:=uv e2
   exact ⟨fun j c hc=>by rw [hsame (hh (.inl hk)) j];exact h.held j c hc,h.s0,by dsimp only;rw [e3,p3];exact p2,rfl⟩
  rename_i k3
  rw [if_neg k3]
  split at e0
  ·rename_i hk;rw [if_pos hk]
   exact ⟨h.held.shift (jD e0).1 fun j=>by rw [hsame (hh (.inr (.inl hk))) j];split<;>omega,h.s0,h.s1,fg _ _ _ _ _⟩
  rename_i k4
  rw [if_neg k4]
  split at e0
  ·rename_i hk;rw [if_pos hk]
   obtain ⟨e1,e2,e3⟩:=mK e0
   obtain ⟨_,p2,p3⟩:=uv e2
   exact ⟨fun j c hc=>by rw [hsame (hh (.inr (.inr (.inl hk)))) j];exact h.held j c hc,by dsimp only;rw [e3,p3];exact p2,h.s1,rfl⟩
  rename_i k5
  rw [if_neg k5]
  split at e0
  ·rename_i hk;rw [if_pos hk]
   exact ⟨h.held.shift (jD e0).1 fun j=>by rw [hsame (hh (.inr (.inr (.inr hk)))) j];split<;>omega,h.s0,h.s1,fg _ _ _ _ _⟩
  ·omega
 refine ⟨hok,key.1,key.2.1,key.2.2.1,h.st,h.used.trans key.2.2.2.symm,fun x hx=>?_⟩
 dsimp only at hx
 rw [hnote] at hx
 rcases List.mem_append.1 hx with hx|hx
 ·exact h.aR x hx
 ·obtain rfl:=List.mem_singleton.1 hx
  have hlen:=h.ok.ax
  constructor
  ·unfold mf;dsimp only;omega
  ·unfold nr;dsimp only;omega
theorem ea.Br {b:Bk} (h:ea b) (y:List (List Int)) (d:bB):ea (ff b y d).1:=by
 unfold ff
 split
 ·exact h.load d
 split
 ·exact h.asks d
 split
 ·exact h.lx d
 split
 ·exact h.cD d
 split
 ·exact h.send d
 split
 ·exact h.ly d
 split
 ·split
  ·exact h
  ·exact ⟨⟨h.ok.time,h.ok.aq,h.ok.due,h.ok.ax,h.ok.aR,h.ok.w0,h.ok.w1,h.ok.perm,h.ok.jr,h.ok.k0,h.ok.k1,h.ok.right,h.ok.l0,h.ok.l1,h.ok.p0,h.ok.p1,h.ok.n0,h.ok.n1,fun h=>by cases h⟩,h.held,h.s0,h.s1,h.st,h.used,h.aR⟩
 split
 ·exact h.CU
 split
 ·refine ⟨h.ok.pQ (lL (y:=y) h.ok.aR).1,h.held,h.s0,h.s1,h.st,h.used,?_⟩
  unfold gC
  split
  ·exact h.aR
  ·exact fun x hx=>by cases hx
 split
 ·exact h.ux d
 ·exact h
end
section
structure HL (n:Nat) (ax:List bH) (hl:List Int):Prop where
 len:hl.length=n
 at_:∀ k:Nat,k < n->hl[k]?=some (en k ax)
theorem HL.start (n:Nat):HL n [] (List.replicate n 0):=⟨List.length_replicate,fun k hk=>by rw [List.getElem?_replicate,if_pos hk];rfl⟩
theorem HL.step {n:Nat} {u:List bH} {hl:List Int} {a:bH} {x v:Int} (h:HL n u hl) (ha:0<=a.aN/\a.aN < n) (hx:hl[a.aN.toNat]?=some x) (hv:v=x+bN a):HL n (u++[a]) (hl.set a.aN.toNat v):=by
 refine ⟨(List.length_set ..).trans h.len,fun k hk=>?_⟩
 rw [qQ]
 have h1:en k [a]=if a.aN=k then bN a else 0:=by simp [en]
 rw [h1,List.getElem?_set]
 have h2:=h.at_ k hk
 split
 ·rename_i e
  rw [e] at hx
  rw [hx] at h2
  injection h2 with h2
  rw [if_pos (by rw [h.len];omega),if_pos (by omega),hv,h2]
 ·rename_i e
  rw [if_neg (by omega),h2];simp
theorem uO (k:Int):∀ {l:List bH},(∀ a∈l,bK a=0)->0<=en k l/\en k l<=1000000 * l.length
 |[],_=>by simp [en]
 |a::l,h=>by
  have:=uO k (l:=l) fun x hx=>h x (List.mem_cons_of_mem _ hx)
  have h2:=oa (h a List.mem_cons_self)
  simp only [en,List.length_cons]
  split<;>omega
theorem HL.b {n:Nat} {u:List bH} {hl:List Int} {k:Nat} {x:Int} (h:HL n u hl) (hx:hl[k]?=some x) (hu:∀ a∈u,bK a=0) (hl':u.length<=30):0<=x/\x<=30000000:=by
 have hk:=(List.getElem?_eq_some_iff.1 hx).1
 have h2:=h.at_ k (by rw [<-h.len];exact hk)
 rw [hx] at h2;injection h2 with h2
 have:=uO k hu
 omega
end
end Go.Proofs.Ytegepioggeggaaa.Dev
