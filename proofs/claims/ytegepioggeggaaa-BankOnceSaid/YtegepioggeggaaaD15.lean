/- A part of the proof: Same1, Same2, PlLaw1, PlLaw2, PlRef. No condition. -/
import Derived.Test.YtegepioggeggaaaD14
set_option linter.unusedVariables false
set_option linter.unusedSimpArgs false
set_option maxHeartbeats 8000000
set_option maxRecDepth 100000
namespace Go.Proofs.Ytegepioggeggaaa.Dev
open Go.RowKit


theorem Fq {P:Program} {st:aK} {o:Oper} {t yt:TypeId} {x y:Operand} {a b:Bool} (hu:P.underlying t=some .bool) (ho:o.op=.binOp .neq t x y yt) (hx:ev st x (.v (.c (.d (.v (.bool a)))))) (hy:ev st y (.v (.c (.d (.v (.bool b)))))):aF P o st (.v (.c (.d (.v (.bool (!(a==b))))))) [] []:=
  aF.val fun σ T ac w C=>by
    have h1:=bn.inv (bD C hx)
    have h2:=bn.inv (bD C hy)
    refine ⟨_,?_,bn.v _ rfl⟩
    unfold execOp
    simp [ho,h1,h2,binOp,eqGuard,Op.equal,Op.maxDepth,run_equalIn_bool w 9999 t a b hu]
theorem DQ {P:Program} {st:aK} {o:Oper} {t yt:TypeId} {x y:Operand} {a:Bool} (hu:P.underlying t=some .bool) (ho:o.op=.binOp .neq t x y yt) (hx:ev st x (.v (.c (.d (.v (.bool a)))))) (hy:ev st y (.v (.c (.d (.v (.bool a)))))):aF P o st (aB false) [] []:=by
  have h:=Fq hu ho hx hy
  rw [show (!(a==a))=false by cases a<;>rfl] at h
  exact h
theorem Gg (a b:Int) (w:World):(Op.equalIn 10000 36 (.agg #[.int .i64 a,.int .i64 b]) (.agg #[.int .i64 a,.int .i64 b])).run Try.prog w=.ok true w:=
  na 9998 2 36 _ (.inr (.inr (.inr ⟨2,3,1,_,Try.underlying36,by kernel_rfl,rfl,fun j hj=>by
    rcases j with _|_|j
    ·exact ⟨.int .i64 a,nk Try.underlying3 rfl rfl,.inl ⟨_,_,_,Try.underlying3,rfl⟩⟩
    ·exact ⟨.int .i64 b,nk Try.underlying3 rfl rfl,.inl ⟨_,_,_,Try.underlying3,rfl⟩⟩
    ·omega⟩))) w


theorem Cg (a b c d e : Int) (w : World) : (Op.equalIn 10000 113 (.agg #[.int .i64 a, .int .i64 b, .int .i64 c, .int .i64 d, .int .i64 e]) (.agg #[.int .i64 a, .int .i64 b, .int .i64 c, .int .i64 d, .int .i64 e])).run Try.prog w = .ok true w :=
  na 9997 3 113 _ (.inr (.inr (.inl ⟨_, _, Try.underlying113, by kernel_rfl, rfl, fun f hf => by
    simp only [List.mem_cons, List.not_mem_nil, or_false] at hf
    rcases hf with rfl | rfl
    · refine ⟨by decide, .agg #[.int .i64 a, .int .i64 b, .int .i64 c, .int .i64 d], AW Try.underlying80 rfl jS rfl, .inr (.inr (.inl ⟨_, _, Try.underlying80, by kernel_rfl, rfl, fun f hf => ?_⟩))⟩
      simp only [List.mem_cons, List.not_mem_nil, or_false] at hf
      rcases hf with rfl | rfl | rfl | rfl <;> exact ⟨by decide, _, nk Try.underlying3 rfl rfl, .inl ⟨_, _, _, Try.underlying3, rfl⟩⟩
    · exact ⟨by decide, _, nk Try.underlying3 rfl rfl, .inl ⟨_, _, _, Try.underlying3, rfl⟩⟩⟩))) w

theorem yx (l:List de):Fn Try.prog 57 [(.c (eD l)),(.c (eD l))] (aB true) []:=by
 refine Fn.mk' 26 [(0,(aC (eD l))),(1,(aC (eD l)))] Try.func57 rfl rfl rfl rfl ?_
 intro W0 T0
 refine dk 0 rfl (fun hlen0=>?_)
 refine dk 1 rfl (fun hlen1=>?_)
 refine ae aa 1 rfl ?_
 refine ag ?_
 refine aH aa 1 rfl ?_
 refine ay (bN rfl rfl rfl rfl rfl Try.underlying59) rfl ?_
 refine ad aa 1 rfl ?_
 refine ay (bN rfl rfl rfl rfl rfl Try.underlying59) rfl ?_
 refine ay (aJ rfl rfl rfl (congrArg (fun b=>some (Value.bool b)) (decide_eq_false (fun h=>h rfl)))) rfl ?_
 refine af ?_
 refine aj rfl (fun hno=>by cases hno) (fun _=>?_)
 refine aP ?_
 refine ag ?_
 refine aH aa 1 rfl ?_
 refine ay (bN rfl rfl rfl rfl rfl Try.underlying59) rfl ?_
 refine ad aa 1 rfl ?_
 refine af ?_
 refine aU ?_
 refine cg (β:=Nat) (fun (q:Nat)=>⟨[(0,(aC (eD l))),(1,(aC (eD l))),(12,(aI (↑l.length:Int))),(13,(aI (↑q:Int)))],[],0⟩) (fun (q:Nat)=>q<=l.length) (fun (q:Nat)=>l.length - q) 0 ?_ ?_ ?_
 ·exact (by first|omega|simp)
 ·exact aE.bR id (by refine ⟨?_,?_,?_,?_,trivial⟩<;>first|rfl|(simp only [bc];done)|(congr 3;omega)|(congr 4;omega)|(simp only [bd];rfl)) (trivial) rfl
 rintro q hi0_0
 refine ae aa 1 rfl ?_
 refine ag ?_
 refine aj rfl (fun hc2=>?_) (fun hc2=>?_)
 ·
  have hc2':=of_decide_eq_true hc2
  refine aP ?_
  refine ag ?_
  refine aU ?_
  refine ae aa 2 rfl ?_
  refine ag ?_
  obtain ⟨x1,hx1⟩:=cb (xs:=l) (i:=q) (by first|omega|(simp;done)|(simp;omega))
  refine aW [0,1,12,13,5] [] mixed rfl rfl ?_
  refine aw (kn:=[]) aa 2 rfl trivial ?_
  refine aM (n':=0) [16,17] [] rfl rfl (.inl ⟨(ah.plain rfl),aF.cast (bV (i:=q) rfl rfl rfl Try.underlying59 gT (by first|omega|(simp;done)|(simp;omega)) (bf hx1)) rfl⟩) rfl ?_
  refine aw (kn:=[]) aa 3 rfl trivial ?_
  refine aM (n':=0) [20,21] [] rfl rfl (.inl ⟨(ah.plain rfl),aF.cast (bV (i:=q) rfl rfl rfl Try.underlying59 gT (by first|omega|(simp;done)|(simp;omega)) (bf hx1)) rfl⟩) rfl ?_
  refine aw (kn:=[]) aa 1 rfl trivial ?_
  refine aM (n':=0) [19,23] [] rfl rfl (.inl ⟨(ah.plain rfl),aF.cast (aF.cast (nw (Ez _ _ _ _) rfl rfl rfl rfl rfl rfl) (congrArg aB (show (!(eB [.int .i64 x1.time,.int .i64 x1.sum] [.int .i64 x1.time,.int .i64 x1.sum]))=false by simp [eB,iw]))) rfl⟩) rfl ?_
  refine bw [] rfl rfl rfl rfl (by kernel_rfl) ?_
  refine af ?_
  refine aj rfl (fun hno=>by cases hno) (fun _=>?_)
  refine cD ?_
  refine bl ?_
  refine then_ok ?_
  refine au ?_
  refine ay (aJ rfl rfl rfl (aL (by first|omega|(simp;done)|(simp;omega)))) rfl ?_
  refine ad aa 1 rfl ?_
  refine af ?_
  refine ⟨q+1,by omega,by first|omega|(simp;done)|(simp;omega),aE.bR id (by refine ⟨?_,?_,?_,?_,trivial⟩<;>first|rfl|(simp only [bc];done)|(congr 3;omega)|(congr 4;omega)|(simp only [bd];rfl)) (trivial) rfl⟩
 have hc2':=of_decide_eq_false hc2
 refine bZ ?_
 refine aN ?_
 refine aN ?_
 refine bC ?_
 refine then_ok ?_
 refine ae aa 1 rfl ?_
 refine az ?_
 refine an aa [] 0 rfl rfl rfl rfl rfl rfl ?_ ?_
 ·rfl
 ·rfl
theorem tN (l:List al):Fn Try.prog 36 [(.c (ew l)),(.c (ew l))] (aB true) []:=by
 refine Fn.mk' 26 [(0,(aC (ew l))),(1,(aC (ew l)))] Try.func36 rfl rfl rfl rfl ?_
 intro W0 T0
 refine dk 0 rfl (fun hlen0=>?_)
 refine dk 1 rfl (fun hlen1=>?_)
 refine ae aa 1 rfl ?_
 refine ag ?_
 refine aH aa 1 rfl ?_
 refine ay (bN rfl rfl rfl rfl rfl Try.underlying42) rfl ?_
 refine ad aa 1 rfl ?_
 refine ay (bN rfl rfl rfl rfl rfl Try.underlying42) rfl ?_
 refine ay (aJ rfl rfl rfl (congrArg (fun b=>some (Value.bool b)) (decide_eq_false (fun h=>h rfl)))) rfl ?_
 refine af ?_
 refine aj rfl (fun hno=>by cases hno) (fun _=>?_)
 refine aP ?_
 refine ag ?_
 refine aH aa 1 rfl ?_
 refine ay (bN rfl rfl rfl rfl rfl Try.underlying42) rfl ?_
 refine ad aa 1 rfl ?_
 refine af ?_
 refine aU ?_
 refine cg (β:=Nat) (fun (q:Nat)=>⟨[(0,(aC (ew l))),(1,(aC (ew l))),(12,(aI (↑l.length:Int))),(13,(aI (↑q:Int)))],[],0⟩) (fun (q:Nat)=>q<=l.length) (fun (q:Nat)=>l.length - q) 0 ?_ ?_ ?_
 ·exact (by first|omega|simp)
 ·exact aE.bR id (by refine ⟨?_,?_,?_,?_,trivial⟩<;>first|rfl|(simp only [bc];done)|(congr 3;omega)|(congr 4;omega)|(simp only [bd];rfl)) (trivial) rfl
 rintro q hi0_0
 refine ae aa 1 rfl ?_
 refine ag ?_
 refine aj rfl (fun hc2=>?_) (fun hc2=>?_)
 ·
  have hc2':=of_decide_eq_true hc2
  refine aP ?_
  refine ag ?_
  refine aU ?_
  refine ae aa 2 rfl ?_
  refine ag ?_
  obtain ⟨x1,hx1⟩:=cb (xs:=l) (i:=q) (by first|omega|(simp;done)|(simp;omega))
  refine aW [0,1,12,13,5] [] mixed rfl rfl ?_
  refine aw (kn:=[]) aa 2 rfl trivial ?_
  refine aM (n':=0) [16,17] [] rfl rfl (.inl ⟨(ah.plain rfl),aF.cast (bV (i:=q) rfl rfl rfl Try.underlying42 dt (by first|omega|(simp;done)|(simp;omega)) (bf hx1)) rfl⟩) rfl ?_
  refine aw (kn:=[]) aa 3 rfl trivial ?_
  refine aM (n':=0) [20,21] [] rfl rfl (.inl ⟨(ah.plain rfl),aF.cast (bV (i:=q) rfl rfl rfl Try.underlying42 dt (by first|omega|(simp;done)|(simp;omega)) (bf hx1)) rfl⟩) rfl ?_
  refine aw (kn:=[]) aa 1 rfl trivial ?_
  refine aM (n':=0) [19,23] [] rfl rfl (.inl ⟨(ah.plain rfl),aF.cast (aF.cast (nw (FI _ _ _ _ _ _ _ _) rfl rfl rfl rfl rfl rfl) (congrArg aB (show (!(eB [.int .i64 x1.aD,.int .i64 x1.ba,.int .i64 x1.kind,.int .i64 x1.sum] [.int .i64 x1.aD,.int .i64 x1.ba,.int .i64 x1.kind,.int .i64 x1.sum]))=false by simp [eB,iw]))) rfl⟩) rfl ?_
  refine bw [] rfl rfl rfl rfl (by kernel_rfl) ?_
  refine af ?_
  refine aj rfl (fun hno=>by cases hno) (fun _=>?_)
  refine cD ?_
  refine bl ?_
  refine then_ok ?_
  refine au ?_
  refine ay (aJ rfl rfl rfl (aL (by first|omega|(simp;done)|(simp;omega)))) rfl ?_
  refine ad aa 1 rfl ?_
  refine af ?_
  refine ⟨q+1,by omega,by first|omega|(simp;done)|(simp;omega),aE.bR id (by refine ⟨?_,?_,?_,?_,trivial⟩<;>first|rfl|(simp only [bc];done)|(congr 3;omega)|(congr 4;omega)|(simp only [bd];rfl)) (trivial) rfl⟩
 have hc2':=of_decide_eq_false hc2
 refine bZ ?_
 refine aN ?_
 refine aN ?_
 refine bC ?_
 refine then_ok ?_
 refine ae aa 1 rfl ?_
 refine az ?_
 refine an aa [] 0 rfl rfl rfl rfl rfl rfl ?_ ?_
 ·rfl
 ·rfl
theorem yz (l:List Entry):Fn Try.prog 47 [(.c (da l)),(.c (da l))] (aB true) []:=by
 refine Fn.mk' 26 [(0,(aC (da l))),(1,(aC (da l)))] Try.func47 rfl rfl rfl rfl ?_
 intro W0 T0
 refine dk 0 rfl (fun hlen0=>?_)
 refine dk 1 rfl (fun hlen1=>?_)
 refine ae aa 1 rfl ?_
 refine ag ?_
 refine aH aa 1 rfl ?_
 refine ay (bN rfl rfl rfl rfl rfl Try.underlying44) rfl ?_
 refine ad aa 1 rfl ?_
 refine ay (bN rfl rfl rfl rfl rfl Try.underlying44) rfl ?_
 refine ay (aJ rfl rfl rfl (congrArg (fun b=>some (Value.bool b)) (decide_eq_false (fun h=>h rfl)))) rfl ?_
 refine af ?_
 refine aj rfl (fun hno=>by cases hno) (fun _=>?_)
 refine aP ?_
 refine ag ?_
 refine aH aa 1 rfl ?_
 refine ay (bN rfl rfl rfl rfl rfl Try.underlying44) rfl ?_
 refine ad aa 1 rfl ?_
 refine af ?_
 refine aU ?_
 refine cg (β:=Nat) (fun (q:Nat)=>⟨[(0,(aC (da l))),(1,(aC (da l))),(12,(aI (↑l.length:Int))),(13,(aI (↑q:Int)))],[],0⟩) (fun (q:Nat)=>q<=l.length) (fun (q:Nat)=>l.length - q) 0 ?_ ?_ ?_
 ·exact (by first|omega|simp)
 ·exact aE.bR id (by refine ⟨?_,?_,?_,?_,trivial⟩<;>first|rfl|(simp only [bc];done)|(congr 3;omega)|(congr 4;omega)|(simp only [bd];rfl)) (trivial) rfl
 rintro q hi0_0
 refine ae aa 1 rfl ?_
 refine ag ?_
 refine aj rfl (fun hc2=>?_) (fun hc2=>?_)
 ·
  have hc2':=of_decide_eq_true hc2
  refine aP ?_
  refine ag ?_
  refine aU ?_
  refine ae aa 2 rfl ?_
  refine ag ?_
  obtain ⟨x1,hx1⟩:=cb (xs:=l) (i:=q) (by first|omega|(simp;done)|(simp;omega))
  refine aW [0,1,12,13,5] [] mixed rfl rfl ?_
  refine aw (kn:=[]) aa 2 rfl trivial ?_
  refine aM (n':=0) [16,17] [] rfl rfl (.inl ⟨(ah.plain rfl),aF.cast (bV (i:=q) rfl rfl rfl Try.underlying44 dW (by first|omega|(simp;done)|(simp;omega)) (bf hx1)) rfl⟩) rfl ?_
  refine aw (kn:=[]) aa 3 rfl trivial ?_
  refine aM (n':=0) [20,21] [] rfl rfl (.inl ⟨(ah.plain rfl),aF.cast (bV (i:=q) rfl rfl rfl Try.underlying44 dW (by first|omega|(simp;done)|(simp;omega)) (bf hx1)) rfl⟩) rfl ?_
  refine aw (kn:=[]) aa 1 rfl trivial ?_
  refine aM (n':=0) [19,23] [] rfl rfl (.inl ⟨(ah.plain rfl),aF.cast (aF.cast (nw (EA _ _ _ _) rfl rfl rfl rfl rfl rfl) (congrArg aB (show (!(eB [.int .i64 x1.aV,.int .i64 x1.sum] [.int .i64 x1.aV,.int .i64 x1.sum]))=false by simp [eB,iw]))) rfl⟩) rfl ?_
  refine bw [] rfl rfl rfl rfl (by kernel_rfl) ?_
  refine af ?_
  refine aj rfl (fun hno=>by cases hno) (fun _=>?_)
  refine cD ?_
  refine bl ?_
  refine then_ok ?_
  refine au ?_
  refine ay (aJ rfl rfl rfl (aL (by first|omega|(simp;done)|(simp;omega)))) rfl ?_
  refine ad aa 1 rfl ?_
  refine af ?_
  refine ⟨q+1,by omega,by first|omega|(simp;done)|(simp;omega),aE.bR id (by refine ⟨?_,?_,?_,?_,trivial⟩<;>first|rfl|(simp only [bc];done)|(congr 3;omega)|(congr 4;omega)|(simp only [bd];rfl)) (trivial) rfl⟩
 have hc2':=of_decide_eq_false hc2
 refine bZ ?_
 refine aN ?_
 refine aN ?_
 refine bC ?_
 refine then_ok ?_
 refine ae aa 1 rfl ?_
 refine az ?_
 refine an aa [] 0 rfl rfl rfl rfl rfl rfl ?_ ?_
 ·rfl
 ·rfl
theorem yy (c:bI):Fn Try.prog 48 [(.g [(cI c.bJ),(cI c.held),(cI c.bU.cE),(cI c.bU.count),(cI c.bU.sum),(eD c.cW)]),(.g [(cI c.bJ),(cI c.held),(cI c.bU.cE),(cI c.bU.count),(cI c.bU.sum),(eD c.cW)])] (aB true) []:=by
 refine Fn.mk' 31 [(0,(aG [(cI c.bJ),(cI c.held),(cI c.bU.cE),(cI c.bU.count),(cI c.bU.sum),(eD c.cW)])),(1,(aG [(cI c.bJ),(cI c.held),(cI c.bU.cE),(cI c.bU.count),(cI c.bU.sum),(eD c.cW)]))] Try.func48 rfl rfl rfl rfl ?_
 intro W0 T0
 refine cA 0 5 rfl rfl (fun hlen0_5=>?_)
 refine cA 1 5 rfl rfl (fun hlen1_5=>?_)
 refine ae aa 3 rfl ?_
 refine ch 4 (true) ?_ ?_
 ·
  refine au ?_
  refine ad aa 4 rfl ?_
  refine ay (aJ rfl rfl rfl (congrArg (fun b=>some (Value.bool b)) (decide_eq_true rfl))) rfl ?_
  refine ad aa 5 rfl ?_
  refine cz (ah.yes rfl rfl rfl) (aJ rfl rfl rfl (congrArg (fun b=>some (Value.bool b)) (decide_eq_true rfl))) rfl rfl ?_
  refine ad aa 6 rfl ?_
  refine cz (ah.yes rfl rfl rfl) (aF.cast (Cm (FM _ _ _ _ _ _) rfl rfl rfl rfl rfl rfl) (congrArg aB (show ((eB [.int .i64 c.bU.cE,.int .i64 c.bU.count,.int .i64 c.bU.sum] [.int .i64 c.bU.cE,.int .i64 c.bU.count,.int .i64 c.bU.sum]))=true by simp [eB,iw]))) rfl rfl ?_
  refine ad aa 6 rfl ?_
  refine rF 2 [1,0] (ah.yes rfl rfl rfl) (bX 2 (yx c.cW) GM rfl rfl ⟨⟨_,rfl,.c (.d _)⟩,⟨_,rfl,.c (.d _)⟩,trivial⟩ trivial trivial rfl rfl rfl rfl) rfl ?_
  refine ad aa 2 rfl ?_
  refine af ?_
  exact aE.bB 27 rfl rfl (by first|(simp [];done)|(simp_all;done)|(exfalso;simp_all;done)|(simp_all;omega)) rfl
 refine az ?_
 refine an aa [] 0 rfl rfl rfl rfl rfl rfl ?_ ?_
 ·rfl
 ·rfl
theorem oK (s:ca):Fn Try.prog 49 [(.g [(cI s.bz),(cm s.kept)]),(.g [(cI s.bz),(cm s.kept)])] (aB true) []:=by
 refine Fn.mk' 38 [(0,(aG [(cI s.bz),(cm s.kept)])),(1,(aG [(cI s.bz),(cm s.kept)]))] Try.func49 rfl rfl rfl rfl ?_
 intro W0 T0
 refine cA 0 1 rfl rfl (fun hlen0_1=>?_)
 refine cA 1 1 rfl rfl (fun hlen1_1=>?_)
 refine ae aa 3 rfl ?_
 refine ag ?_
 refine ch 19 (false) ?_ ?_
 ·
  refine au ?_
  refine ad aa 4 rfl ?_
  refine ay (aJ rfl rfl rfl (congrArg (fun b=>some (Value.bool b)) (decide_eq_false (fun h=>h rfl)))) rfl ?_
  refine ad aa 3 rfl ?_
  refine cz (ah.yes rfl rfl rfl) (bN rfl rfl rfl rfl rfl Try.underlying32) rfl rfl ?_
  refine ad aa 2 rfl ?_
  refine cz (ah.yes rfl rfl rfl) (bN rfl rfl rfl rfl rfl Try.underlying32) rfl rfl ?_
  refine cz (ah.yes rfl rfl rfl) (aJ rfl rfl rfl (congrArg (fun b=>some (Value.bool b)) (decide_eq_false (fun h=>h rfl)))) rfl rfl ?_
  refine ad aa 1 rfl ?_
  refine af ?_
  exact aE.bB 14 rfl rfl (by first|(simp [];done)|(simp_all;done)|(exfalso;simp_all;done)|(simp_all;omega)) rfl
 refine aj rfl (fun hno=>by cases hno) (fun _=>?_)
 refine aP ?_
 refine ag ?_
 refine aH aa 2 rfl ?_
 refine ay (bN rfl rfl rfl rfl rfl Try.underlying32) rfl ?_
 refine ad aa 1 rfl ?_
 refine af ?_
 refine aU ?_
 refine cg (β:=Nat) (fun (q:Nat)=>⟨[(2,(aC (.p 0 0 0 0))),(3,(aC (.p 1 0 0 0))),(22,(aI (↑s.kept.length:Int))),(23,(aI (↑q:Int)))],[(1,(.box 34 [(cI s.bz),(cm s.kept)])),(0,(.box 34 [(cI s.bz),(cm s.kept)]))],2⟩) (fun (q:Nat)=>q<=s.kept.length) (fun (q:Nat)=>s.kept.length - q) 0 ?_ ?_ ?_
 ·exact (by first|omega|simp)
 ·exact aE.bR id (by refine ⟨?_,?_,?_,?_,trivial⟩<;>first|rfl|(simp only [bc];done)|(congr 3;omega)|(congr 4;omega)|(simp only [bd];rfl)) (by refine ⟨?_,?_,trivial⟩<;>first|rfl|(simp only [bc];done)|(congr 3;omega)|(congr 4;omega)|(simp only [bd];rfl)) rfl
 rintro q hi0_0
 refine ae aa 1 rfl ?_
 refine ag ?_
 refine aj rfl (fun hc2=>?_) (fun hc2=>?_)
 ·
  have hc2':=of_decide_eq_true hc2
  refine aP ?_
  refine ag ?_
  refine aU ?_
  refine ae aa 2 rfl ?_
  refine ag ?_
  obtain ⟨x1,hx1⟩:=cb (xs:=s.kept) (i:=q) (by first|omega|(simp;done)|(simp;omega))
  refine aW [2,3,22,23,5] [1,0] mixed rfl rfl ?_
  refine aw (kn:=[]) aa 3 rfl trivial ?_
  refine aM (n':=2) [27,28] [] rfl rfl (.inl ⟨(ah.plain rfl),aF.cast (bV (i:=q) rfl rfl rfl Try.underlying32 jS (by first|omega|(simp;done)|(simp;omega)) (bf hx1)) rfl⟩) rfl ?_
  refine aw (kn:=[]) aa 4 rfl trivial ?_
  refine aM (n':=2) [32,33] [] rfl rfl (.inl ⟨(ah.plain rfl),aF.cast (bV (i:=q) rfl rfl rfl Try.underlying32 jS (by first|omega|(simp;done)|(simp;omega)) (bf hx1)) rfl⟩) rfl ?_
  refine aw (kn:=[]) aa 1 rfl trivial ?_
  refine aM (n':=2) [30,35] [] rfl rfl (.inl ⟨(ah.plain rfl),aF.cast (aF.cast (nw (FJ _ _ _ _ _ _ _ _) rfl rfl rfl rfl rfl rfl) (congrArg aB (show (!(eB [.int .i64 x1.number,.int .i64 x1.kind,.int .i64 x1.ba,.int .i64 x1.sum] [.int .i64 x1.number,.int .i64 x1.kind,.int .i64 x1.ba,.int .i64 x1.sum]))=false by simp [eB,iw]))) rfl⟩) rfl ?_
  refine bw [1,0] rfl rfl rfl rfl (by kernel_rfl) ?_
  refine af ?_
  refine aj rfl (fun hno=>by cases hno) (fun _=>?_)
  refine cD ?_
  refine bl ?_
  refine then_ok ?_
  refine au ?_
  refine ay (aJ rfl rfl rfl (aL (by first|omega|(simp;done)|(simp;omega)))) rfl ?_
  refine ad aa 1 rfl ?_
  refine af ?_
  refine ⟨q+1,by omega,by first|omega|(simp;done)|(simp;omega),aE.bR id (by refine ⟨?_,?_,?_,?_,trivial⟩<;>first|rfl|(simp only [bc];done)|(congr 3;omega)|(congr 4;omega)|(simp only [bd];rfl)) (by refine ⟨?_,?_,trivial⟩<;>first|rfl|(simp only [bc];done)|(congr 3;omega)|(congr 4;omega)|(simp only [bd];rfl)) rfl⟩
 have hc2':=of_decide_eq_false hc2
 refine bZ ?_
 refine aN ?_
 refine aN ?_
 refine bC ?_
 refine then_ok ?_
 refine ae aa 1 rfl ?_
 refine az ?_
 refine an aa [] 0 rfl rfl rfl rfl rfl rfl ?_ ?_
 ·rfl
 ·rfl
theorem wx (s:cC):Fn Try.prog 46 [(.g [(cI s.cap),(cX s.used),(dV s.aQ)]),(.g [(cI s.cap),(cX s.used),(dV s.aQ)])] (aB true) []:=by
 refine Fn.mk' 66 [(0,(aG [(cI s.cap),(cX s.used),(dV s.aQ)])),(1,(aG [(cI s.cap),(cX s.used),(dV s.aQ)]))] Try.func46 rfl rfl rfl rfl ?_
 intro W0 T0
 refine cA 0 1 rfl rfl (fun hlen0_1=>?_)
 refine cA 0 2 rfl rfl (fun hlen0_2=>?_)
 refine cA 1 1 rfl rfl (fun hlen1_1=>?_)
 refine cA 1 2 rfl rfl (fun hlen1_2=>?_)
 refine ae aa 3 rfl ?_
 refine ag ?_
 refine ch 29 (false) ?_ ?_
 ·
  refine au ?_
  refine ad aa 4 rfl ?_
  refine ay (aJ rfl rfl rfl (congrArg (fun b=>some (Value.bool b)) (decide_eq_false (fun h=>h rfl)))) rfl ?_
  refine ad aa 3 rfl ?_
  refine cz (ah.yes rfl rfl rfl) (bN rfl rfl rfl rfl rfl Try.underlying30) rfl rfl ?_
  refine ad aa 2 rfl ?_
  refine cz (ah.yes rfl rfl rfl) (bN rfl rfl rfl rfl rfl Try.underlying30) rfl rfl ?_
  refine cz (ah.yes rfl rfl rfl) (aJ rfl rfl rfl (congrArg (fun b=>some (Value.bool b)) (decide_eq_false (fun h=>h rfl)))) rfl rfl ?_
  refine ad aa 4 rfl ?_
  refine cz (ah.yes rfl rfl rfl) (bN rfl rfl rfl rfl rfl Try.underlying39) rfl rfl ?_
  refine ad aa 2 rfl ?_
  refine cz (ah.yes rfl rfl rfl) (bN rfl rfl rfl rfl rfl Try.underlying39) rfl rfl ?_
  refine cz (ah.yes rfl rfl rfl) (aJ rfl rfl rfl (congrArg (fun b=>some (Value.bool b)) (decide_eq_false (fun h=>h rfl)))) rfl rfl ?_
  refine ad aa 1 rfl ?_
  refine af ?_
  exact aE.bB 23 rfl rfl (by first|(simp [];done)|(simp_all;done)|(exfalso;simp_all;done)|(simp_all;omega)) rfl
 refine aj rfl (fun hno=>by cases hno) (fun _=>?_)
 refine aP ?_
 refine ag ?_
 refine aH aa 2 rfl ?_
 refine ay (bN rfl rfl rfl rfl rfl Try.underlying30) rfl ?_
 refine ad aa 1 rfl ?_
 refine af ?_
 refine aU ?_
 refine cg (β:=Nat) (fun (q:Nat)=>⟨[(2,(aC (.p 0 0 0 0))),(3,(aC (.p 1 0 0 0))),(32,(aI (↑s.used.length:Int))),(33,(aI (↑q:Int)))],[(1,(.box 41 [(cI s.cap),(cX s.used),(dV s.aQ)])),(0,(.box 41 [(cI s.cap),(cX s.used),(dV s.aQ)]))],2⟩) (fun (q:Nat)=>q<=s.used.length) (fun (q:Nat)=>s.used.length - q) 0 ?_ ?_ ?_
 ·exact (by first|omega|simp)
 ·exact aE.bR id (by refine ⟨?_,?_,?_,?_,trivial⟩<;>first|rfl|(simp only [bc];done)|(congr 3;omega)|(congr 4;omega)|(simp only [bd];rfl)) (by refine ⟨?_,?_,trivial⟩<;>first|rfl|(simp only [bc];done)|(congr 3;omega)|(congr 4;omega)|(simp only [bd];rfl)) rfl
 rintro q hi0_0
 refine ae aa 1 rfl ?_
 refine ag ?_
 refine aj rfl (fun hc2=>?_) (fun hc2=>?_)
 ·
  have hc2':=of_decide_eq_true hc2
  refine aP ?_
  refine ag ?_
  refine aU ?_
  refine ae aa 2 rfl ?_
  refine ag ?_
  obtain ⟨x1,hx1⟩:=cb (xs:=s.used) (i:=q) (by first|omega|(simp;done)|(simp;omega))
  refine aW [2,3,32,33,5] [1,0] mixed rfl rfl ?_
  refine aw (kn:=[]) aa 3 rfl trivial ?_
  refine aM (n':=2) [37,38] [] rfl rfl (.inl ⟨(ah.plain rfl),aF.cast (bV (i:=q) rfl rfl rfl Try.underlying30 fE (by first|omega|(simp;done)|(simp;omega)) (bf hx1)) rfl⟩) rfl ?_
  refine aw (kn:=[]) aa 4 rfl trivial ?_
  refine aM (n':=2) [42,43] [] rfl rfl (.inl ⟨(ah.plain rfl),aF.cast (bV (i:=q) rfl rfl rfl Try.underlying30 fE (by first|omega|(simp;done)|(simp;omega)) (bf hx1)) rfl⟩) rfl ?_
  refine aw (kn:=[(46,false)]) aa 2 rfl ⟨(decide_eq_false (fun h=>h rfl)),trivial⟩ ?_
  refine bw [1,0] rfl rfl rfl rfl (by kernel_rfl) ?_
  refine af ?_
  refine aj rfl (fun hno=>by cases hno) (fun _=>?_)
  refine cD ?_
  refine bl ?_
  refine then_ok ?_
  refine au ?_
  refine ay (aJ rfl rfl rfl (aL (by first|omega|(simp;done)|(simp;omega)))) rfl ?_
  refine ad aa 1 rfl ?_
  refine af ?_
  refine ⟨q+1,by omega,by first|omega|(simp;done)|(simp;omega),aE.bR id (by refine ⟨?_,?_,?_,?_,trivial⟩<;>first|rfl|(simp only [bc];done)|(congr 3;omega)|(congr 4;omega)|(simp only [bd];rfl)) (by refine ⟨?_,?_,trivial⟩<;>first|rfl|(simp only [bc];done)|(congr 3;omega)|(congr 4;omega)|(simp only [bd];rfl)) rfl⟩
 have hc2':=of_decide_eq_false hc2
 refine bZ ?_
 refine aN ?_
 refine aN ?_
 refine bC ?_
 refine then_ok ?_
 refine ag ?_
 refine aH aa 2 rfl ?_
 refine ay (bN rfl rfl rfl rfl rfl Try.underlying39) rfl ?_
 refine ad aa 1 rfl ?_
 refine af ?_
 refine aU ?_
 refine cg (β:=Nat) (fun (q1:Nat)=>⟨[(2,(aC (.p 0 0 0 0))),(3,(aC (.p 1 0 0 0))),(32,(aI (↑s.used.length:Int))),(33,(aI (↑q:Int))),(50,(aI (↑s.aQ.length:Int))),(51,(aI (↑q1:Int)))],[(1,(.box 41 [(cI s.cap),(cX s.used),(dV s.aQ)])),(0,(.box 41 [(cI s.cap),(cX s.used),(dV s.aQ)]))],2⟩) (fun (q1:Nat)=>q1<=s.aQ.length) (fun (q1:Nat)=>s.aQ.length - q1) 0 ?_ ?_ ?_
 ·exact (by first|omega|simp)
 ·exact aE.bR id (by refine ⟨?_,?_,?_,?_,?_,?_,trivial⟩<;>first|rfl|(simp only [bc];done)|(congr 3;omega)|(congr 4;omega)|(simp only [bd];rfl)) (by refine ⟨?_,?_,trivial⟩<;>first|rfl|(simp only [bc];done)|(congr 3;omega)|(congr 4;omega)|(simp only [bd];rfl)) rfl
 rintro q1 hi1_0
 refine ae aa 1 rfl ?_
 refine ag ?_
 refine aj rfl (fun hc4=>?_) (fun hc4=>?_)
 ·
  have hc4':=of_decide_eq_true hc4
  refine aP ?_
  refine ag ?_
  refine aU ?_
  refine ae aa 2 rfl ?_
  refine ag ?_
  obtain ⟨x1,hx1⟩:=cb (xs:=s.aQ) (i:=q1) (by first|omega|(simp;done)|(simp;omega))
  refine aW [2,3,32,33,50,51,6] [1,0] mixed rfl rfl ?_
  refine aw (kn:=[]) aa 3 rfl trivial ?_
  refine aM (n':=2) [55,56] [] rfl rfl (.inl ⟨(ah.plain rfl),aF.cast (bV (i:=q1) rfl rfl rfl Try.underlying39 tQ (by first|omega|(simp;done)|(simp;omega)) (bf hx1)) rfl⟩) rfl ?_
  refine aw (kn:=[]) aa 4 rfl trivial ?_
  refine aM (n':=2) [60,61] [] rfl rfl (.inl ⟨(ah.plain rfl),aF.cast (bV (i:=q1) rfl rfl rfl Try.underlying39 tQ (by first|omega|(simp;done)|(simp;omega)) (bf hx1)) rfl⟩) rfl ?_
  refine aw (kn:=[]) aa 1 rfl trivial ?_
  refine aM (n':=2) [58,63] [] rfl rfl (.inl ⟨(ah.plain rfl),aF.cast (aF.cast (nw (EB _ _ _ _ _ _ _ _) rfl rfl rfl rfl rfl rfl) (congrArg aB (show (!(eB [.int .i64 x1.aO,.int .i64 x1.aD,.int .i64 x1.sum,.int .i64 x1.time] [.int .i64 x1.aO,.int .i64 x1.aD,.int .i64 x1.sum,.int .i64 x1.time]))=false by simp [eB,iw]))) rfl⟩) rfl ?_
  refine bw [1,0] rfl rfl rfl rfl (by kernel_rfl) ?_
  refine af ?_
  refine aj rfl (fun hno=>by cases hno) (fun _=>?_)
  refine cD ?_
  refine bl ?_
  refine then_ok ?_
  refine au ?_
  refine ay (aJ rfl rfl rfl (aL (by first|omega|(simp;done)|(simp;omega)))) rfl ?_
  refine ad aa 1 rfl ?_
  refine af ?_
  refine ⟨q1+1,by omega,by first|omega|(simp;done)|(simp;omega),aE.bR id (by refine ⟨?_,?_,?_,?_,?_,?_,trivial⟩<;>first|rfl|(simp only [bc];done)|(congr 3;omega)|(congr 4;omega)|(simp only [bd];rfl)) (by refine ⟨?_,?_,trivial⟩<;>first|rfl|(simp only [bc];done)|(congr 3;omega)|(congr 4;omega)|(simp only [bd];rfl)) rfl⟩
 have hc4':=of_decide_eq_false hc4
 refine bZ ?_
 refine aN ?_
 refine aN ?_
 refine bC ?_
 refine then_ok ?_
 refine ae aa 1 rfl ?_
 refine az ?_
 refine an aa [] 0 rfl rfl rfl rfl rfl rfl ?_ ?_
 ·rfl
 ·rfl

theorem EL (b:Bk) (y:List (List Int)):Fn Try.prog 32 [(.g [(cI b.time),(cB b.down),(gS b.aq),(cX b.due),(gy b.ax),(cI b.s0.bz),(cm b.s0.kept),(cI b.s1.bz),(cm b.s1.kept),(cI b.n0),(cI b.n1),(cT b.w0),(cT b.w1),(cI b.aX.cap),(cX b.aX.used),(dV b.aX.aQ),(ew b.aS),(gR y),(da b.book)]),(.g [(cI b.time),(cB b.down),(gS b.aq),(cX b.due),(gy b.ax),(cI b.s0.bz),(cm b.s0.kept),(cI b.s1.bz),(cm b.s1.kept),(cI b.n0),(cI b.n1),(cT b.w0),(cT b.w1),(cI b.aX.cap),(cX b.aX.used),(dV b.aX.aQ),(ew b.aS),(gR y),(da b.book)])] (aB true) []:=by
 refine Fn.mk' 216 [(0,(aG [(cI b.time),(cB b.down),(gS b.aq),(cX b.due),(gy b.ax),(cI b.s0.bz),(cm b.s0.kept),(cI b.s1.bz),(cm b.s1.kept),(cI b.n0),(cI b.n1),(cT b.w0),(cT b.w1),(cI b.aX.cap),(cX b.aX.used),(dV b.aX.aQ),(ew b.aS),(gR y),(da b.book)])),(1,(aG [(cI b.time),(cB b.down),(gS b.aq),(cX b.due),(gy b.ax),(cI b.s0.bz),(cm b.s0.kept),(cI b.s1.bz),(cm b.s1.kept),(cI b.n0),(cI b.n1),(cT b.w0),(cT b.w1),(cI b.aX.cap),(cX b.aX.used),(dV b.aX.aQ),(ew b.aS),(gR y),(da b.book)]))] Try.func32 rfl rfl rfl rfl ?_
 intro W0 T0
 refine cA 0 2 rfl rfl (fun hlen0_2=>?_)
 refine cA 0 3 rfl rfl (fun hlen0_3=>?_)
 refine cA 0 4 rfl rfl (fun hlen0_4=>?_)
 refine cA 0 6 rfl rfl (fun hlen0_6=>?_)
 refine cA 0 8 rfl rfl (fun hlen0_8=>?_)
 refine cA 0 11 rfl rfl (fun hlen0_11=>?_)
 refine cA 0 12 rfl rfl (fun hlen0_12=>?_)
 refine cA 0 14 rfl rfl (fun hlen0_14=>?_)
 refine cA 0 15 rfl rfl (fun hlen0_15=>?_)
 refine cA 0 16 rfl rfl (fun hlen0_16=>?_)
 refine cA 0 17 rfl rfl (fun hlen0_17=>?_)
 refine cA 0 18 rfl rfl (fun hlen0_18=>?_)
 refine cA 1 2 rfl rfl (fun hlen1_2=>?_)
 refine cA 1 3 rfl rfl (fun hlen1_3=>?_)
 refine cA 1 4 rfl rfl (fun hlen1_4=>?_)
 refine cA 1 6 rfl rfl (fun hlen1_6=>?_)
 refine cA 1 8 rfl rfl (fun hlen1_8=>?_)
 refine cA 1 11 rfl rfl (fun hlen1_11=>?_)
 refine cA 1 12 rfl rfl (fun hlen1_12=>?_)
 refine cA 1 14 rfl rfl (fun hlen1_14=>?_)
 refine cA 1 15 rfl rfl (fun hlen1_15=>?_)
 refine cA 1 16 rfl rfl (fun hlen1_16=>?_)
 refine cA 1 17 rfl rfl (fun hlen1_17=>?_)
 refine cA 1 18 rfl rfl (fun hlen1_18=>?_)
 refine ae aa 3 rfl ?_
 refine ag ?_
 refine ch 89 (false) ?_ ?_
 ·
  refine At rfl ?_
  refine ad aa 4 rfl ?_
  refine ay (aJ rfl rfl rfl (congrArg (fun b=>some (Value.bool b)) (decide_eq_false (fun h=>h rfl)))) rfl ?_
  refine ad aa 5 rfl ?_
  refine cz (ah.yes rfl rfl rfl) (DQ Try.underlying4 rfl rfl rfl) rfl rfl ?_
  refine ad aa 3 rfl ?_
  refine cz (ah.yes rfl rfl rfl) (qk rfl rfl rfl Try.underlying36 rfl Dl rfl rfl) rfl rfl ?_
  refine ad aa 1 rfl ?_
  refine cz (ah.yes rfl rfl rfl) (qk rfl rfl rfl Try.underlying36 rfl Dl rfl rfl) rfl rfl ?_
  refine cz (ah.yes rfl rfl rfl) (vh (xs:=[.int .i64 b.n0,.int .i64 b.n1]) (by kernel_rfl) (Gg _ _) rfl rfl rfl rfl) rfl rfl ?_
  refine ad aa 4 rfl ?_
  refine cz (ah.yes rfl rfl rfl) (bN rfl rfl rfl rfl rfl Try.underlying29) rfl rfl ?_
  refine ad aa 2 rfl ?_
  refine cz (ah.yes rfl rfl rfl) (bN rfl rfl rfl rfl rfl Try.underlying29) rfl rfl ?_
  refine cz (ah.yes rfl rfl rfl) (aJ rfl rfl rfl (congrArg (fun b=>some (Value.bool b)) (decide_eq_false (fun h=>h rfl)))) rfl rfl ?_
  refine ad aa 4 rfl ?_
  refine cz (ah.yes rfl rfl rfl) (bN rfl rfl rfl rfl rfl Try.underlying30) rfl rfl ?_
  refine ad aa 2 rfl ?_
  refine cz (ah.yes rfl rfl rfl) (bN rfl rfl rfl rfl rfl Try.underlying30) rfl rfl ?_
  refine cz (ah.yes rfl rfl rfl) (aJ rfl rfl rfl (congrArg (fun b=>some (Value.bool b)) (decide_eq_false (fun h=>h rfl)))) rfl rfl ?_
  refine ad aa 4 rfl ?_
  refine cz (ah.yes rfl rfl rfl) (bN rfl rfl rfl rfl rfl Try.underlying31) rfl rfl ?_
  refine ad aa 2 rfl ?_
  refine cz (ah.yes rfl rfl rfl) (bN rfl rfl rfl rfl rfl Try.underlying31) rfl rfl ?_
  refine cz (ah.yes rfl rfl rfl) (aJ rfl rfl rfl (congrArg (fun b=>some (Value.bool b)) (decide_eq_false (fun h=>h rfl)))) rfl rfl ?_
  refine ad aa 4 rfl ?_
  refine cz (ah.yes rfl rfl rfl) (bN rfl rfl rfl rfl rfl Try.underlying43) rfl rfl ?_
  refine ad aa 2 rfl ?_
  refine cz (ah.yes rfl rfl rfl) (bN rfl rfl rfl rfl rfl Try.underlying43) rfl rfl ?_
  refine cz (ah.yes rfl rfl rfl) (aJ rfl rfl rfl (congrArg (fun b=>some (Value.bool b)) (decide_eq_false (fun h=>h rfl)))) rfl rfl ?_
  refine ad aa 6 rfl ?_
  refine rF 2 [1,0] (ah.yes rfl rfl rfl) (bX 2 (wx b.aX) GQ rfl rfl ⟨⟨_,rfl,.g ⟨.d _,.d _,.d _,trivial⟩⟩,⟨_,rfl,.g ⟨.d _,.d _,.d _,trivial⟩⟩,trivial⟩ trivial trivial rfl rfl rfl rfl) rfl ?_
  refine ad aa 7 rfl ?_
  refine rF 2 [1,0] (ah.yes rfl rfl rfl) (bX 2 (tN b.aS) GY rfl rfl ⟨⟨_,rfl,.c (.d _)⟩,⟨_,rfl,.c (.d _)⟩,trivial⟩ trivial trivial rfl rfl rfl rfl) rfl ?_
  refine ad aa 7 rfl ?_
  refine rF 2 [1,0] (ah.yes rfl rfl rfl) (bX 2 (yz b.book) GP rfl rfl ⟨⟨_,rfl,.c (.d _)⟩,⟨_,rfl,.c (.d _)⟩,trivial⟩ trivial trivial rfl rfl rfl rfl) rfl ?_
  refine ad aa 2 rfl ?_
  refine af ?_
  exact aE.bB 79 rfl rfl (by first|(simp [];done)|(simp_all;done)|(exfalso;simp_all;done)|(simp_all;omega)) rfl
 refine aj rfl (fun hno=>by cases hno) (fun _=>?_)
 refine aP ?_
 refine ag ?_
 refine aH aa 2 rfl ?_
 refine ay (bN rfl rfl rfl rfl rfl Try.underlying29) rfl ?_
 refine ad aa 1 rfl ?_
 refine af ?_
 refine aU ?_
 refine cg (β:=Nat) (fun (q:Nat)=>⟨[(2,(aC (.p 0 0 0 0))),(3,(aC (.p 1 0 0 0))),(92,(aI (↑b.aq.length:Int))),(93,(aI (↑q:Int)))],[(1,(.box 46 [(cI b.time),(cB b.down),(gS b.aq),(cX b.due),(gy b.ax),(cI b.s0.bz),(cm b.s0.kept),(cI b.s1.bz),(cm b.s1.kept),(cI b.n0),(cI b.n1),(cT b.w0),(cT b.w1),(cI b.aX.cap),(cX b.aX.used),(dV b.aX.aQ),(ew b.aS),(gR y),(da b.book)])),(0,(.box 46 [(cI b.time),(cB b.down),(gS b.aq),(cX b.due),(gy b.ax),(cI b.s0.bz),(cm b.s0.kept),(cI b.s1.bz),(cm b.s1.kept),(cI b.n0),(cI b.n1),(cT b.w0),(cT b.w1),(cI b.aX.cap),(cX b.aX.used),(dV b.aX.aQ),(ew b.aS),(gR y),(da b.book)]))],2⟩) (fun (q:Nat)=>q<=b.aq.length) (fun (q:Nat)=>b.aq.length - q) 0 ?_ ?_ ?_
 ·exact (by first|omega|simp)
 ·exact aE.bR id (by refine ⟨?_,?_,?_,?_,trivial⟩<;>first|rfl|(simp only [bc];done)|(congr 3;omega)|(congr 4;omega)|(simp only [bd];rfl)) (by refine ⟨?_,?_,trivial⟩<;>first|rfl|(simp only [bc];done)|(congr 3;omega)|(congr 4;omega)|(simp only [bd];rfl)) rfl
 rintro q hi0_0
 refine ae aa 1 rfl ?_
 refine ag ?_
 refine aj rfl (fun hc2=>?_) (fun hc2=>?_)
 ·
  have hc2':=of_decide_eq_true hc2
  refine aP ?_
  refine ag ?_
  refine aU ?_
  refine ae aa 2 rfl ?_
  refine ag ?_
  obtain ⟨x1,hx1⟩:=cb (xs:=b.aq) (i:=q) (by first|omega|(simp;done)|(simp;omega))
  refine aW [2,3,92,93,5] [1,0] mixed rfl rfl ?_
  refine aw (kn:=[]) aa 3 rfl trivial ?_
  refine aM (n':=2) [97,98] [] rfl rfl (.inl ⟨(ah.plain rfl),aF.cast (bV (i:=q) rfl rfl rfl Try.underlying29 iu (by first|omega|(simp;done)|(simp;omega)) (bf hx1)) rfl⟩) rfl ?_
  refine aw (kn:=[]) aa 4 rfl trivial ?_
  refine aM (n':=2) [102,103] [] rfl rfl (.inl ⟨(ah.plain rfl),aF.cast (bV (i:=q) rfl rfl rfl Try.underlying29 iu (by first|omega|(simp;done)|(simp;omega)) (bf hx1)) rfl⟩) rfl ?_
  refine aw (kn:=[]) aa 1 rfl trivial ?_
  refine aM (n':=2) [100,105] [] rfl rfl (.inl ⟨(ah.plain rfl),aF.cast (bX 2 (yy x1) GO rfl rfl ⟨⟨_,rfl,.g ⟨.d _,.d _,.d _,.d _,.d _,.d _,trivial⟩⟩,⟨_,rfl,.g ⟨.d _,.d _,.d _,.d _,.d _,.d _,trivial⟩⟩,trivial⟩ trivial trivial rfl rfl rfl rfl) rfl⟩) rfl ?_
  refine aw (kn:=[]) aa 1 rfl trivial ?_
  refine bw [1,0] rfl rfl rfl rfl (by kernel_rfl) ?_
  refine af ?_
  refine aj rfl (fun hno=>by cases hno) (fun _=>?_)
  refine cD ?_
  refine bl ?_
  refine then_ok ?_
  refine au ?_
  refine ay (aJ rfl rfl rfl (aL (by first|omega|(simp;done)|(simp;omega)))) rfl ?_
  refine ad aa 1 rfl ?_
  refine af ?_
  refine ⟨q+1,by omega,by first|omega|(simp;done)|(simp;omega),aE.bR id (by refine ⟨?_,?_,?_,?_,trivial⟩<;>first|rfl|(simp only [bc];done)|(congr 3;omega)|(congr 4;omega)|(simp only [bd];rfl)) (by refine ⟨?_,?_,trivial⟩<;>first|rfl|(simp only [bc];done)|(congr 3;omega)|(congr 4;omega)|(simp only [bd];rfl)) rfl⟩
 have hc2':=of_decide_eq_false hc2
 refine bZ ?_
 refine aN ?_
 refine aN ?_
 refine bC ?_
 refine then_ok ?_
 refine ag ?_
 refine aH aa 2 rfl ?_
 refine ay (bN rfl rfl rfl rfl rfl Try.underlying30) rfl ?_
 refine ad aa 1 rfl ?_
 refine af ?_
 refine aU ?_
 refine cg (β:=Nat) (fun (q1:Nat)=>⟨[(2,(aC (.p 0 0 0 0))),(3,(aC (.p 1 0 0 0))),(92,(aI (↑b.aq.length:Int))),(93,(aI (↑q:Int))),(111,(aI (↑b.due.length:Int))),(112,(aI (↑q1:Int)))],[(1,(.box 46 [(cI b.time),(cB b.down),(gS b.aq),(cX b.due),(gy b.ax),(cI b.s0.bz),(cm b.s0.kept),(cI b.s1.bz),(cm b.s1.kept),(cI b.n0),(cI b.n1),(cT b.w0),(cT b.w1),(cI b.aX.cap),(cX b.aX.used),(dV b.aX.aQ),(ew b.aS),(gR y),(da b.book)])),(0,(.box 46 [(cI b.time),(cB b.down),(gS b.aq),(cX b.due),(gy b.ax),(cI b.s0.bz),(cm b.s0.kept),(cI b.s1.bz),(cm b.s1.kept),(cI b.n0),(cI b.n1),(cT b.w0),(cT b.w1),(cI b.aX.cap),(cX b.aX.used),(dV b.aX.aQ),(ew b.aS),(gR y),(da b.book)]))],2⟩) (fun (q1:Nat)=>q1<=b.due.length) (fun (q1:Nat)=>b.due.length - q1) 0 ?_ ?_ ?_
 ·exact (by first|omega|simp)
 ·exact aE.bR id (by refine ⟨?_,?_,?_,?_,?_,?_,trivial⟩<;>first|rfl|(simp only [bc];done)|(congr 3;omega)|(congr 4;omega)|(simp only [bd];rfl)) (by refine ⟨?_,?_,trivial⟩<;>first|rfl|(simp only [bc];done)|(congr 3;omega)|(congr 4;omega)|(simp only [bd];rfl)) rfl
 rintro q1 hi1_0
 refine ae aa 1 rfl ?_
 refine ag ?_
 refine aj rfl (fun hc4=>?_) (fun hc4=>?_)
 ·
  have hc4':=of_decide_eq_true hc4
  refine aP ?_
  refine ag ?_
  refine aU ?_
  refine ae aa 2 rfl ?_
  refine ag ?_
  obtain ⟨x1,hx1⟩:=cb (xs:=b.due) (i:=q1) (by first|omega|(simp;done)|(simp;omega))
  refine aW [2,3,92,93,111,112,6] [1,0] mixed rfl rfl ?_
  refine aw (kn:=[]) aa 3 rfl trivial ?_
  refine aM (n':=2) [116,117] [] rfl rfl (.inl ⟨(ah.plain rfl),aF.cast (bV (i:=q1) rfl rfl rfl Try.underlying30 fE (by first|omega|(simp;done)|(simp;omega)) (bf hx1)) rfl⟩) rfl ?_
  refine aw (kn:=[]) aa 4 rfl trivial ?_
  refine aM (n':=2) [121,122] [] rfl rfl (.inl ⟨(ah.plain rfl),aF.cast (bV (i:=q1) rfl rfl rfl Try.underlying30 fE (by first|omega|(simp;done)|(simp;omega)) (bf hx1)) rfl⟩) rfl ?_
  refine aw (kn:=[(125,false)]) aa 2 rfl ⟨(decide_eq_false (fun h=>h rfl)),trivial⟩ ?_
  refine bw [1,0] rfl rfl rfl rfl (by kernel_rfl) ?_
  refine af ?_
  refine aj rfl (fun hno=>by cases hno) (fun _=>?_)
  refine cD ?_
  refine bl ?_
  refine then_ok ?_
  refine au ?_
  refine ay (aJ rfl rfl rfl (aL (by first|omega|(simp;done)|(simp;omega)))) rfl ?_
  refine ad aa 1 rfl ?_
  refine af ?_
  refine ⟨q1+1,by omega,by first|omega|(simp;done)|(simp;omega),aE.bR id (by refine ⟨?_,?_,?_,?_,?_,?_,trivial⟩<;>first|rfl|(simp only [bc];done)|(congr 3;omega)|(congr 4;omega)|(simp only [bd];rfl)) (by refine ⟨?_,?_,trivial⟩<;>first|rfl|(simp only [bc];done)|(congr 3;omega)|(congr 4;omega)|(simp only [bd];rfl)) rfl⟩
 have hc4':=of_decide_eq_false hc4
 refine bZ ?_
 refine aN ?_
 refine aN ?_
 refine bC ?_
 refine then_ok ?_
 refine ag ?_
 refine aH aa 2 rfl ?_
 refine ay (bN rfl rfl rfl rfl rfl Try.underlying31) rfl ?_
 refine ad aa 1 rfl ?_
 refine af ?_
 refine aU ?_
 refine cg (β:=Nat) (fun (q2:Nat)=>⟨[(2,(aC (.p 0 0 0 0))),(3,(aC (.p 1 0 0 0))),(92,(aI (↑b.aq.length:Int))),(93,(aI (↑q:Int))),(111,(aI (↑b.due.length:Int))),(112,(aI (↑q1:Int))),(129,(aI (↑b.ax.length:Int))),(130,(aI (↑q2:Int)))],[(1,(.box 46 [(cI b.time),(cB b.down),(gS b.aq),(cX b.due),(gy b.ax),(cI b.s0.bz),(cm b.s0.kept),(cI b.s1.bz),(cm b.s1.kept),(cI b.n0),(cI b.n1),(cT b.w0),(cT b.w1),(cI b.aX.cap),(cX b.aX.used),(dV b.aX.aQ),(ew b.aS),(gR y),(da b.book)])),(0,(.box 46 [(cI b.time),(cB b.down),(gS b.aq),(cX b.due),(gy b.ax),(cI b.s0.bz),(cm b.s0.kept),(cI b.s1.bz),(cm b.s1.kept),(cI b.n0),(cI b.n1),(cT b.w0),(cT b.w1),(cI b.aX.cap),(cX b.aX.used),(dV b.aX.aQ),(ew b.aS),(gR y),(da b.book)]))],2⟩) (fun (q2:Nat)=>q2<=b.ax.length) (fun (q2:Nat)=>b.ax.length - q2) 0 ?_ ?_ ?_
 ·exact (by first|omega|simp)
 ·exact aE.bR id (by refine ⟨?_,?_,?_,?_,?_,?_,?_,?_,trivial⟩<;>first|rfl|(simp only [bc];done)|(congr 3;omega)|(congr 4;omega)|(simp only [bd];rfl)) (by refine ⟨?_,?_,trivial⟩<;>first|rfl|(simp only [bc];done)|(congr 3;omega)|(congr 4;omega)|(simp only [bd];rfl)) rfl
 rintro q2 hi2_0
 refine ae aa 1 rfl ?_
 refine ag ?_
 refine aj rfl (fun hc6=>?_) (fun hc6=>?_)
 ·
  have hc6':=of_decide_eq_true hc6
  refine aP ?_
  refine ag ?_
  refine aU ?_
  refine ae aa 2 rfl ?_
  refine ag ?_
  obtain ⟨x1,hx1⟩:=cb (xs:=b.ax) (i:=q2) (by first|omega|(simp;done)|(simp;omega))
  refine aW [2,3,92,93,111,112,129,130,7] [1,0] mixed rfl rfl ?_
  refine aw (kn:=[]) aa 3 rfl trivial ?_
  refine aM (n':=2) [134,135] [] rfl rfl (.inl ⟨(ah.plain rfl),aF.cast (bV (i:=q2) rfl rfl rfl Try.underlying31 kM (by first|omega|(simp;done)|(simp;omega)) (bf hx1)) rfl⟩) rfl ?_
  refine aw (kn:=[]) aa 4 rfl trivial ?_
  refine aM (n':=2) [139,140] [] rfl rfl (.inl ⟨(ah.plain rfl),aF.cast (bV (i:=q2) rfl rfl rfl Try.underlying31 kM (by first|omega|(simp;done)|(simp;omega)) (bf hx1)) rfl⟩) rfl ?_
  refine aw (kn:=[]) aa 1 rfl trivial ?_
  refine aM (n':=2) [137,142] [] rfl rfl (.inl ⟨(ah.plain rfl),aF.cast (aF.cast (nw (FK _ _ _ _ _ _ _ _ _ _ _ _ _ _ _ _) rfl rfl rfl rfl rfl rfl) (congrArg aB (show (!(eB [.int .i64 x1.aO,.int .i64 x1.aD,.int .i64 x1.sum,.int .i64 x1.captured,.int .i64 x1.bA,.int .i64 x1.bp,.int .i64 x1.db,.bool x1.shut] [.int .i64 x1.aO,.int .i64 x1.aD,.int .i64 x1.sum,.int .i64 x1.captured,.int .i64 x1.bA,.int .i64 x1.bp,.int .i64 x1.db,.bool x1.shut]))=false by simp [eB,iw]))) rfl⟩) rfl ?_
  refine bw [1,0] rfl rfl rfl rfl (by kernel_rfl) ?_
  refine af ?_
  refine aj rfl (fun hno=>by cases hno) (fun _=>?_)
  refine cD ?_
  refine bl ?_
  refine then_ok ?_
  refine au ?_
  refine ay (aJ rfl rfl rfl (aL (by first|omega|(simp;done)|(simp;omega)))) rfl ?_
  refine ad aa 1 rfl ?_
  refine af ?_
  refine ⟨q2+1,by omega,by first|omega|(simp;done)|(simp;omega),aE.bR id (by refine ⟨?_,?_,?_,?_,?_,?_,?_,?_,trivial⟩<;>first|rfl|(simp only [bc];done)|(congr 3;omega)|(congr 4;omega)|(simp only [bd];rfl)) (by refine ⟨?_,?_,trivial⟩<;>first|rfl|(simp only [bc];done)|(congr 3;omega)|(congr 4;omega)|(simp only [bd];rfl)) rfl⟩
 have hc6':=of_decide_eq_false hc6
 refine bZ ?_
 refine aN ?_
 refine aN ?_
 refine bC ?_
 refine then_ok ?_
 refine ag ?_
 refine aH aa 2 rfl ?_
 refine ay (bN rfl rfl rfl rfl rfl Try.underlying43) rfl ?_
 refine ad aa 1 rfl ?_
 refine af ?_
 refine aU ?_
 refine cg (β:=Nat) (fun (q3:Nat)=>⟨[(2,(aC (.p 0 0 0 0))),(3,(aC (.p 1 0 0 0))),(92,(aI (↑b.aq.length:Int))),(93,(aI (↑q:Int))),(111,(aI (↑b.due.length:Int))),(112,(aI (↑q1:Int))),(129,(aI (↑b.ax.length:Int))),(130,(aI (↑q2:Int))),(147,(aI (↑y.length:Int))),(148,(aI (↑q3:Int)))],[(1,(.box 46 [(cI b.time),(cB b.down),(gS b.aq),(cX b.due),(gy b.ax),(cI b.s0.bz),(cm b.s0.kept),(cI b.s1.bz),(cm b.s1.kept),(cI b.n0),(cI b.n1),(cT b.w0),(cT b.w1),(cI b.aX.cap),(cX b.aX.used),(dV b.aX.aQ),(ew b.aS),(gR y),(da b.book)])),(0,(.box 46 [(cI b.time),(cB b.down),(gS b.aq),(cX b.due),(gy b.ax),(cI b.s0.bz),(cm b.s0.kept),(cI b.s1.bz),(cm b.s1.kept),(cI b.n0),(cI b.n1),(cT b.w0),(cT b.w1),(cI b.aX.cap),(cX b.aX.used),(dV b.aX.aQ),(ew b.aS),(gR y),(da b.book)]))],2⟩) (fun (q3:Nat)=>q3<=y.length) (fun (q3:Nat)=>y.length - q3) 0 ?_ ?_ ?_
 ·exact (by first|omega|simp)
 ·exact aE.bR id (by refine ⟨?_,?_,?_,?_,?_,?_,?_,?_,?_,?_,trivial⟩<;>first|rfl|(simp only [bc];done)|(congr 3;omega)|(congr 4;omega)|(simp only [bd];rfl)) (by refine ⟨?_,?_,trivial⟩<;>first|rfl|(simp only [bc];done)|(congr 3;omega)|(congr 4;omega)|(simp only [bd];rfl)) rfl
 rintro q3 hi3_0
 refine ae aa 1 rfl ?_
 refine ag ?_
 refine aj rfl (fun hc8=>?_) (fun hc8=>?_)
 ·
  have hc8':=of_decide_eq_true hc8
  refine aP ?_
  refine ag ?_
  refine aU ?_
  refine ae aa 2 rfl ?_
  refine ag ?_
  obtain ⟨x1,hx1⟩:=cb (xs:=y) (i:=q3) (by first|omega|(simp;done)|(simp;omega))
  refine aW [2,3,92,93,111,112,129,130,147,148,8] [1,0] mixed rfl rfl ?_
  refine aw (kn:=[]) aa 3 rfl trivial ?_
  refine aM (n':=2) [152,153] [] rfl rfl (.inl ⟨(ah.plain rfl),aF.cast (bV (i:=q3) rfl rfl rfl Try.underlying43 Dj (by first|omega|(simp;done)|(simp;omega)) (bf hx1)) rfl⟩) rfl ?_
  refine aw (kn:=[]) aa 1 rfl trivial ?_
  refine aM (n':=2) [155] [] rfl rfl (.inl ⟨(ah.plain rfl),aF.cast (rf (n:=x1.length) (l:=x1) rfl Try.underlying86 Try.underlying5 Try.underlying9 rfl (.d (by first|(simp;done)|rfl) (Nat.le_refl _) (by first|(simp;done)|exact List.take_of_length_le (by simp))) (by first|omega|(simp;done)|(simp;omega))) rfl⟩) rfl ?_
  refine aw (kn:=[]) aa 3 rfl trivial ?_
  refine aM (n':=2) [158,159] [] rfl rfl (.inl ⟨(ah.plain rfl),aF.cast (bV (i:=q3) rfl rfl rfl Try.underlying43 Dj (by first|omega|(simp;done)|(simp;omega)) (bf hx1)) rfl⟩) rfl ?_
  refine aw (kn:=[]) aa 1 rfl trivial ?_
  refine aM (n':=2) [161] [] rfl rfl (.inl ⟨(ah.plain rfl),aF.cast (rf (n:=x1.length) (l:=x1) rfl Try.underlying86 Try.underlying5 Try.underlying9 rfl (.d (by first|(simp;done)|rfl) (Nat.le_refl _) (by first|(simp;done)|exact List.take_of_length_le (by simp))) (by first|omega|(simp;done)|(simp;omega))) rfl⟩) rfl ?_
  refine aM (n':=2) [156,162] [] rfl rfl (.inl ⟨(ah.plain rfl),aF.cast (aF.cast (Bl rfl rfl rfl) (congrArg aB (by first|(rw [sy];done)|(rw [sy];rfl)))) rfl⟩) rfl ?_
  refine bw [1,0] rfl rfl rfl rfl (by kernel_rfl) ?_
  refine af ?_
  refine aj rfl (fun hno=>by cases hno) (fun _=>?_)
  refine cD ?_
  refine bl ?_
  refine then_ok ?_
  refine au ?_
  refine ay (aJ rfl rfl rfl (aL (by first|omega|(simp;done)|(simp;omega)))) rfl ?_
  refine ad aa 1 rfl ?_
  refine af ?_
  refine ⟨q3+1,by omega,by first|omega|(simp;done)|(simp;omega),aE.bR id (by refine ⟨?_,?_,?_,?_,?_,?_,?_,?_,?_,?_,trivial⟩<;>first|rfl|(simp only [bc];done)|(congr 3;omega)|(congr 4;omega)|(simp only [bd];rfl)) (by refine ⟨?_,?_,trivial⟩<;>first|rfl|(simp only [bc];done)|(congr 3;omega)|(congr 4;omega)|(simp only [bd];rfl)) rfl⟩
 have hc8':=of_decide_eq_false hc8
 refine bZ ?_
 refine aN ?_
 refine aN ?_
 refine bC ?_
 refine then_ok ?_
 refine ag ?_
 refine ae aa 1 rfl ?_
 refine aU ?_
 refine cg (β:=Nat) (fun (i:Nat)=>⟨[(2,(aC (.p 0 0 0 0))),(3,(aC (.p 1 0 0 0))),(92,(aI (↑b.aq.length:Int))),(93,(aI (↑q:Int))),(111,(aI (↑b.due.length:Int))),(112,(aI (↑q1:Int))),(129,(aI (↑b.ax.length:Int))),(130,(aI (↑q2:Int))),(147,(aI (↑y.length:Int))),(148,(aI (↑q3:Int))),(165,(aI (↑i:Int)))],[(1,(.box 46 [(cI b.time),(cB b.down),(gS b.aq),(cX b.due),(gy b.ax),(cI b.s0.bz),(cm b.s0.kept),(cI b.s1.bz),(cm b.s1.kept),(cI b.n0),(cI b.n1),(cT b.w0),(cT b.w1),(cI b.aX.cap),(cX b.aX.used),(dV b.aX.aQ),(ew b.aS),(gR y),(da b.book)])),(0,(.box 46 [(cI b.time),(cB b.down),(gS b.aq),(cX b.due),(gy b.ax),(cI b.s0.bz),(cm b.s0.kept),(cI b.s1.bz),(cm b.s1.kept),(cI b.n0),(cI b.n1),(cT b.w0),(cT b.w1),(cI b.aX.cap),(cX b.aX.used),(dV b.aX.aQ),(ew b.aS),(gR y),(da b.book)]))],2⟩) (fun (i:Nat)=>i<=2) (fun (i:Nat)=>2 - i) 0 ?_ ?_ ?_
 ·exact (by omega)
 ·exact aE.bR id (by refine ⟨?_,?_,?_,?_,?_,?_,?_,?_,?_,?_,?_,trivial⟩<;>first|rfl|(simp only [bc];done)|(congr 3;omega)|(congr 4;omega)|(simp only [bd];rfl)) (by refine ⟨?_,?_,trivial⟩<;>first|rfl|(simp only [bc];done)|(congr 3;omega)|(congr 4;omega)|(simp only [bd];rfl)) rfl
 rintro i hi4_0
 refine ae aa 1 rfl ?_
 refine ag ?_
 refine aj rfl (fun hc10=>?_) (fun hc10=>?_)
 ·
  have hc10':=of_decide_eq_true hc10
  refine aP ?_
  refine ag ?_
  refine aU ?_
  rcases (show i=0\/i=1 from by omega) with hs11|hs11
  ·
   refine ae aa 2 rfl ?_
   refine ag ?_
   refine gH (i:=9) (v:=(aI 0)) (cM (ρ:=id) rfl (by omega)) ?_
   refine ag ?_
   refine aW [2,3,92,93,111,112,129,130,147,148,165,9] [1,0] mixed rfl rfl ?_
   refine aw (kn:=[]) aa 2 rfl trivial ?_
   refine aM (n':=2) [169,168] [0] rfl rfl (.inl ⟨(ah.plain rfl),aF.cast (cF (i:=0) rfl rfl rfl Try.underlying35 jv rfl (by decide)) rfl⟩) rfl ?_
   refine aw (kn:=[]) aa 3 rfl trivial ?_
   refine aM (n':=2) [173,172] [1] rfl rfl (.inl ⟨(ah.plain rfl),aF.cast (cF (i:=0) rfl rfl rfl Try.underlying35 jv rfl (by decide)) rfl⟩) rfl ?_
   refine aw (kn:=[]) aa 1 rfl trivial ?_
   refine aM (n':=2) [171,175] [] rfl rfl (.inl ⟨(ah.plain rfl),aF.cast (bX 2 (oK b.s0) Es rfl rfl ⟨⟨_,rfl,.g ⟨.d _,.d _,trivial⟩⟩,⟨_,rfl,.g ⟨.d _,.d _,trivial⟩⟩,trivial⟩ trivial trivial rfl rfl rfl rfl) rfl⟩) rfl ?_
   refine aw (kn:=[]) aa 4 rfl trivial ?_
   refine aM (n':=2) [180,179,178] [0] rfl rfl (.inl ⟨(ah.yes rfl rfl rfl),aF.cast (cF (i:=0) rfl rfl rfl Try.underlying38 gC rfl (by decide)) rfl⟩) rfl ?_
   refine aw (kn:=[]) aa 1 rfl trivial ?_
   refine aM (n':=2) [182,178] [] rfl rfl (.inl ⟨(ah.yes rfl rfl rfl),aF.cast (bN rfl rfl rfl rfl rfl Try.underlying37) rfl⟩) rfl ?_
   refine aw (kn:=[]) aa 2 rfl trivial ?_
   refine aM (n':=2) [185,184,178] [1] rfl rfl (.inl ⟨(ah.yes rfl rfl rfl),aF.cast (cF (i:=0) rfl rfl rfl Try.underlying38 gC rfl (by decide)) rfl⟩) rfl ?_
   refine aw (kn:=[]) aa 1 rfl trivial ?_
   refine aM (n':=2) [187,178] [] rfl rfl (.inl ⟨(ah.yes rfl rfl rfl),aF.cast (bN rfl rfl rfl rfl rfl Try.underlying37) rfl⟩) rfl ?_
   refine aw (kn:=[(189,false)]) aa 2 rfl ⟨(decide_eq_false (fun h=>h rfl)),trivial⟩ ?_
   refine bw [1,0] rfl rfl rfl rfl (by kernel_rfl) ?_
   refine af ?_
   refine aj rfl (fun hno=>by cases hno) (fun _=>?_)
   refine aP ?_
   refine aH aa 2 rfl ?_
   refine ay (cF (i:=0) rfl rfl rfl Try.underlying38 gC rfl (by decide)) rfl ?_
   refine ad aa 1 rfl ?_
   refine ay (bN rfl rfl rfl rfl rfl Try.underlying37) rfl ?_
   refine ad aa 1 rfl ?_
   refine af ?_
   refine aU ?_
   refine cg (β:=Nat) (fun (q5:Nat)=>⟨[(2,(aC (.p 0 0 0 0))),(3,(aC (.p 1 0 0 0))),(92,(aI (↑b.aq.length:Int))),(93,(aI (↑q:Int))),(111,(aI (↑b.due.length:Int))),(112,(aI (↑q1:Int))),(129,(aI (↑b.ax.length:Int))),(130,(aI (↑q2:Int))),(147,(aI (↑y.length:Int))),(148,(aI (↑q3:Int))),(165,(aI (↑i:Int))),(9,(aI 0)),(195,(aI (↑b.w0.length:Int))),(196,(aI (↑q5:Int)))],[(1,(.box 46 [(cI b.time),(cB b.down),(gS b.aq),(cX b.due),(gy b.ax),(cI b.s0.bz),(cm b.s0.kept),(cI b.s1.bz),(cm b.s1.kept),(cI b.n0),(cI b.n1),(cT b.w0),(cT b.w1),(cI b.aX.cap),(cX b.aX.used),(dV b.aX.aQ),(ew b.aS),(gR y),(da b.book)])),(0,(.box 46 [(cI b.time),(cB b.down),(gS b.aq),(cX b.due),(gy b.ax),(cI b.s0.bz),(cm b.s0.kept),(cI b.s1.bz),(cm b.s1.kept),(cI b.n0),(cI b.n1),(cT b.w0),(cT b.w1),(cI b.aX.cap),(cX b.aX.used),(dV b.aX.aQ),(ew b.aS),(gR y),(da b.book)]))],2⟩) (fun (q5:Nat)=>q5<=b.w0.length) (fun (q5:Nat)=>b.w0.length - q5) 0 ?_ ?_ ?_
   ·exact (by first|omega|simp)
   ·exact aE.bR id (by refine ⟨?_,?_,?_,?_,?_,?_,?_,?_,?_,?_,?_,?_,?_,?_,trivial⟩<;>first|rfl|(simp only [bc];done)|(congr 3;omega)|(congr 4;omega)|(simp only [bd];rfl)) (by refine ⟨?_,?_,trivial⟩<;>first|rfl|(simp only [bc];done)|(congr 3;omega)|(congr 4;omega)|(simp only [bd];rfl)) rfl
   rintro q5 hi5_0
   refine ae aa 1 rfl ?_
   refine ag ?_
   refine aj rfl (fun hc13=>?_) (fun hc13=>?_)
   ·
    have hc13':=of_decide_eq_true hc13
    refine aP ?_
    refine ag ?_
    refine aU ?_
    refine ae aa 2 rfl ?_
    refine ag ?_
    obtain ⟨x1,hx1⟩:=cb (xs:=b.w0) (i:=q5) (by first|omega|(simp;done)|(simp;omega))
    refine aW [2,3,92,93,111,112,129,130,147,148,165,9,195,196,10] [1,0] mixed rfl rfl ?_
    refine aw (kn:=[]) aa 2 rfl trivial ?_
    refine aM (n':=2) [200,199] [0] rfl rfl (.inl ⟨(ah.plain rfl),aF.cast (cF (i:=0) rfl rfl rfl Try.underlying38 gC rfl (by decide)) rfl⟩) rfl ?_
    refine aw (kn:=[]) aa 2 rfl trivial ?_
    refine aM (n':=2) [202,203] [] rfl rfl (.inl ⟨(ah.plain rfl),aF.cast (bV (i:=q5) rfl rfl rfl Try.underlying37 lO (by first|omega|(simp;done)|(simp;omega)) (bf hx1)) rfl⟩) rfl ?_
    refine aw (kn:=[]) aa 3 rfl trivial ?_
    refine aM (n':=2) [207,206] [1] rfl rfl (.inl ⟨(ah.plain rfl),aF.cast (cF (i:=0) rfl rfl rfl Try.underlying38 gC rfl (by decide)) rfl⟩) rfl ?_
    refine aw (kn:=[]) aa 2 rfl trivial ?_
    refine aM (n':=2) [209,210] [] rfl rfl (.inl ⟨(ah.plain rfl),aF.cast (bV (i:=q5) rfl rfl rfl Try.underlying37 lO (by first|omega|(simp;done)|(simp;omega)) (bf hx1)) rfl⟩) rfl ?_
    refine aw (kn:=[]) aa 1 rfl trivial ?_
    refine aM (n':=2) [205,212] [] rfl rfl (.inl ⟨(ah.plain rfl),aF.cast (vh (xs:=[.int .i64 x1.ck.number,.int .i64 x1.ck.kind,.int .i64 x1.ck.ba,.int .i64 x1.ck.sum,.int .i64 x1.seen]) (by kernel_rfl) (Cg _ _ _ _ _) rfl rfl rfl rfl) rfl⟩) rfl ?_
    refine bw [1,0] rfl rfl rfl rfl (by kernel_rfl) ?_
    refine af ?_
    refine aj rfl (fun hno=>by cases hno) (fun _=>?_)
    refine cD ?_
    refine bl ?_
    refine then_ok ?_
    refine au ?_
    refine ay (aJ rfl rfl rfl (aL (by first|omega|(simp;done)|(simp;omega)))) rfl ?_
    refine ad aa 1 rfl ?_
    refine af ?_
    refine ⟨q5+1,by omega,by first|omega|(simp;done)|(simp;omega),aE.bR id (by refine ⟨?_,?_,?_,?_,?_,?_,?_,?_,?_,?_,?_,?_,?_,?_,trivial⟩<;>first|rfl|(simp only [bc];done)|(congr 3;omega)|(congr 4;omega)|(simp only [bd];rfl)) (by refine ⟨?_,?_,trivial⟩<;>first|rfl|(simp only [bc];done)|(congr 3;omega)|(congr 4;omega)|(simp only [bd];rfl)) rfl⟩
   have hc13':=of_decide_eq_false hc13
   refine bZ ?_
   refine aN ?_
   refine aN ?_
   refine bC ?_
   refine bl ?_
   refine then_ok ?_
   refine au ?_
   refine ay (aJ rfl rfl rfl (aL (by first|omega|(simp;done)|(simp;omega)))) rfl ?_
   refine ad aa 1 rfl ?_
   refine af ?_
   refine ⟨i+1,by omega,by first|omega|(simp;done)|(simp;omega),aE.bR id (by refine ⟨?_,?_,?_,?_,?_,?_,?_,?_,?_,?_,?_,trivial⟩<;>first|rfl|(simp only [bc];done)|(congr 3;omega)|(congr 4;omega)|(simp only [bd];rfl)) (by refine ⟨?_,?_,trivial⟩<;>first|rfl|(simp only [bc];done)|(congr 3;omega)|(congr 4;omega)|(simp only [bd];rfl)) rfl⟩
  refine ae aa 2 rfl ?_
  refine ag ?_
  refine gH (i:=9) (v:=(aI 1)) (cM (ρ:=id) rfl (by omega)) ?_
  refine ag ?_
  refine aW [2,3,92,93,111,112,129,130,147,148,165,9] [1,0] mixed rfl rfl ?_
  refine aw (kn:=[]) aa 2 rfl trivial ?_
  refine aM (n':=2) [169,168] [0] rfl rfl (.inl ⟨(ah.plain rfl),aF.cast (cF (i:=1) rfl rfl rfl Try.underlying35 jv rfl (by decide)) rfl⟩) rfl ?_
  refine aw (kn:=[]) aa 3 rfl trivial ?_
  refine aM (n':=2) [173,172] [1] rfl rfl (.inl ⟨(ah.plain rfl),aF.cast (cF (i:=1) rfl rfl rfl Try.underlying35 jv rfl (by decide)) rfl⟩) rfl ?_
  refine aw (kn:=[]) aa 1 rfl trivial ?_
  refine aM (n':=2) [171,175] [] rfl rfl (.inl ⟨(ah.plain rfl),aF.cast (bX 2 (oK b.s1) Es rfl rfl ⟨⟨_,rfl,.g ⟨.d _,.d _,trivial⟩⟩,⟨_,rfl,.g ⟨.d _,.d _,trivial⟩⟩,trivial⟩ trivial trivial rfl rfl rfl rfl) rfl⟩) rfl ?_
  refine aw (kn:=[]) aa 4 rfl trivial ?_
  refine aM (n':=2) [180,179,178] [0] rfl rfl (.inl ⟨(ah.yes rfl rfl rfl),aF.cast (cF (i:=1) rfl rfl rfl Try.underlying38 gC rfl (by decide)) rfl⟩) rfl ?_
  refine aw (kn:=[]) aa 1 rfl trivial ?_
  refine aM (n':=2) [182,178] [] rfl rfl (.inl ⟨(ah.yes rfl rfl rfl),aF.cast (bN rfl rfl rfl rfl rfl Try.underlying37) rfl⟩) rfl ?_
  refine aw (kn:=[]) aa 2 rfl trivial ?_
  refine aM (n':=2) [185,184,178] [1] rfl rfl (.inl ⟨(ah.yes rfl rfl rfl),aF.cast (cF (i:=1) rfl rfl rfl Try.underlying38 gC rfl (by decide)) rfl⟩) rfl ?_
  refine aw (kn:=[]) aa 1 rfl trivial ?_
  refine aM (n':=2) [187,178] [] rfl rfl (.inl ⟨(ah.yes rfl rfl rfl),aF.cast (bN rfl rfl rfl rfl rfl Try.underlying37) rfl⟩) rfl ?_
  refine aw (kn:=[(189,false)]) aa 2 rfl ⟨(decide_eq_false (fun h=>h rfl)),trivial⟩ ?_
  refine bw [1,0] rfl rfl rfl rfl (by kernel_rfl) ?_
  refine af ?_
  refine aj rfl (fun hno=>by cases hno) (fun _=>?_)
  refine aP ?_
  refine aH aa 2 rfl ?_
  refine ay (cF (i:=1) rfl rfl rfl Try.underlying38 gC rfl (by decide)) rfl ?_
  refine ad aa 1 rfl ?_
  refine ay (bN rfl rfl rfl rfl rfl Try.underlying37) rfl ?_
  refine ad aa 1 rfl ?_
  refine af ?_
  refine aU ?_
  refine cg (β:=Nat) (fun (q5:Nat)=>⟨[(2,(aC (.p 0 0 0 0))),(3,(aC (.p 1 0 0 0))),(92,(aI (↑b.aq.length:Int))),(93,(aI (↑q:Int))),(111,(aI (↑b.due.length:Int))),(112,(aI (↑q1:Int))),(129,(aI (↑b.ax.length:Int))),(130,(aI (↑q2:Int))),(147,(aI (↑y.length:Int))),(148,(aI (↑q3:Int))),(165,(aI (↑i:Int))),(9,(aI 1)),(195,(aI (↑b.w1.length:Int))),(196,(aI (↑q5:Int)))],[(1,(.box 46 [(cI b.time),(cB b.down),(gS b.aq),(cX b.due),(gy b.ax),(cI b.s0.bz),(cm b.s0.kept),(cI b.s1.bz),(cm b.s1.kept),(cI b.n0),(cI b.n1),(cT b.w0),(cT b.w1),(cI b.aX.cap),(cX b.aX.used),(dV b.aX.aQ),(ew b.aS),(gR y),(da b.book)])),(0,(.box 46 [(cI b.time),(cB b.down),(gS b.aq),(cX b.due),(gy b.ax),(cI b.s0.bz),(cm b.s0.kept),(cI b.s1.bz),(cm b.s1.kept),(cI b.n0),(cI b.n1),(cT b.w0),(cT b.w1),(cI b.aX.cap),(cX b.aX.used),(dV b.aX.aQ),(ew b.aS),(gR y),(da b.book)]))],2⟩) (fun (q5:Nat)=>q5<=b.w1.length) (fun (q5:Nat)=>b.w1.length - q5) 0 ?_ ?_ ?_
  ·exact (by first|omega|simp)
  ·exact aE.bR id (by refine ⟨?_,?_,?_,?_,?_,?_,?_,?_,?_,?_,?_,?_,?_,?_,trivial⟩<;>first|rfl|(simp only [bc];done)|(congr 3;omega)|(congr 4;omega)|(simp only [bd];rfl)) (by refine ⟨?_,?_,trivial⟩<;>first|rfl|(simp only [bc];done)|(congr 3;omega)|(congr 4;omega)|(simp only [bd];rfl)) rfl
  rintro q5 hi5_0
  refine ae aa 1 rfl ?_
  refine ag ?_
  refine aj rfl (fun hc16=>?_) (fun hc16=>?_)
  ·
   have hc16':=of_decide_eq_true hc16
   refine aP ?_
   refine ag ?_
   refine aU ?_
   refine ae aa 2 rfl ?_
   refine ag ?_
   obtain ⟨x1,hx1⟩:=cb (xs:=b.w1) (i:=q5) (by first|omega|(simp;done)|(simp;omega))
   refine aW [2,3,92,93,111,112,129,130,147,148,165,9,195,196,10] [1,0] mixed rfl rfl ?_
   refine aw (kn:=[]) aa 2 rfl trivial ?_
   refine aM (n':=2) [200,199] [0] rfl rfl (.inl ⟨(ah.plain rfl),aF.cast (cF (i:=1) rfl rfl rfl Try.underlying38 gC rfl (by decide)) rfl⟩) rfl ?_
   refine aw (kn:=[]) aa 2 rfl trivial ?_
   refine aM (n':=2) [202,203] [] rfl rfl (.inl ⟨(ah.plain rfl),aF.cast (bV (i:=q5) rfl rfl rfl Try.underlying37 lO (by first|omega|(simp;done)|(simp;omega)) (bf hx1)) rfl⟩) rfl ?_
   refine aw (kn:=[]) aa 3 rfl trivial ?_
   refine aM (n':=2) [207,206] [1] rfl rfl (.inl ⟨(ah.plain rfl),aF.cast (cF (i:=1) rfl rfl rfl Try.underlying38 gC rfl (by decide)) rfl⟩) rfl ?_
   refine aw (kn:=[]) aa 2 rfl trivial ?_
   refine aM (n':=2) [209,210] [] rfl rfl (.inl ⟨(ah.plain rfl),aF.cast (bV (i:=q5) rfl rfl rfl Try.underlying37 lO (by first|omega|(simp;done)|(simp;omega)) (bf hx1)) rfl⟩) rfl ?_
   refine aw (kn:=[]) aa 1 rfl trivial ?_
   refine aM (n':=2) [205,212] [] rfl rfl (.inl ⟨(ah.plain rfl),aF.cast (vh (xs:=[.int .i64 x1.ck.number,.int .i64 x1.ck.kind,.int .i64 x1.ck.ba,.int .i64 x1.ck.sum,.int .i64 x1.seen]) (by kernel_rfl) (Cg _ _ _ _ _) rfl rfl rfl rfl) rfl⟩) rfl ?_
   refine bw [1,0] rfl rfl rfl rfl (by kernel_rfl) ?_
   refine af ?_
   refine aj rfl (fun hno=>by cases hno) (fun _=>?_)
   refine cD ?_
   refine bl ?_
   refine then_ok ?_
   refine au ?_
   refine ay (aJ rfl rfl rfl (aL (by first|omega|(simp;done)|(simp;omega)))) rfl ?_
   refine ad aa 1 rfl ?_
   refine af ?_
   refine ⟨q5+1,by omega,by first|omega|(simp;done)|(simp;omega),aE.bR id (by refine ⟨?_,?_,?_,?_,?_,?_,?_,?_,?_,?_,?_,?_,?_,?_,trivial⟩<;>first|rfl|(simp only [bc];done)|(congr 3;omega)|(congr 4;omega)|(simp only [bd];rfl)) (by refine ⟨?_,?_,trivial⟩<;>first|rfl|(simp only [bc];done)|(congr 3;omega)|(congr 4;omega)|(simp only [bd];rfl)) rfl⟩
  have hc16':=of_decide_eq_false hc16
  refine bZ ?_
  refine aN ?_
  refine aN ?_
  refine bC ?_
  refine bl ?_
  refine then_ok ?_
  refine au ?_
  refine ay (aJ rfl rfl rfl (aL (by first|omega|(simp;done)|(simp;omega)))) rfl ?_
  refine ad aa 1 rfl ?_
  refine af ?_
  refine ⟨i+1,by omega,by first|omega|(simp;done)|(simp;omega),aE.bR id (by refine ⟨?_,?_,?_,?_,?_,?_,?_,?_,?_,?_,?_,trivial⟩<;>first|rfl|(simp only [bc];done)|(congr 3;omega)|(congr 4;omega)|(simp only [bd];rfl)) (by refine ⟨?_,?_,trivial⟩<;>first|rfl|(simp only [bc];done)|(congr 3;omega)|(congr 4;omega)|(simp only [bd];rfl)) rfl⟩
 have hc10':=of_decide_eq_false hc10
 refine bZ ?_
 refine aN ?_
 refine aN ?_
 refine bC ?_
 refine then_ok ?_
 refine ae aa 1 rfl ?_
 refine az ?_
 refine an aa [] 0 rfl rfl rfl rfl rfl rfl ?_ ?_
 ·rfl
 ·rfl
def kv (l:List bI):Prop:=∀ c∈l,0<=c.bJ - c.held
theorem pw {l:List bI} {e k h m:Int} (hl:kv l) (hc:∀ c,l[k.toNat]?=some c->h - m<=c.bJ - c.held):kv (cH l e k h m).1:=by
 unfold cH
 split
 ·exact hl
 ·rename_i c hk
  split
  ·rename_i h0
   intro z hz
   rcases gd hz with hz|rfl
   ·exact hl z hz
   ·have he:=(fL h0).2
    rcases qa (show ec c h m=((ec c h m).1,(ec c h m).2) from rfl) with ⟨h1,_⟩|h1
    ·exact absurd he h1
    ·have h2:=h1.2.2.2.2.2.2.1
     have h3:=hc c hk
     rw [h2];dsimp only;omega
  ·exact hl
theorem iW {l:List bI} {e k h m:Int} (hl:kv l) (hm:h<=m):kv (cH l e k h m).1:=pw hl fun c hc=>by have:=hl c (List.mem_of_getElem? hc);omega
theorem zH {a:bH} {t:Int} (h:bK a=0):bP (eh a t) - bP a<=0:=by
 have:=eN h
 unfold bP eh
 cases hs:a.shut<;>cases ht:decide (a.db<=t)<;>simp<;>omega
theorem qW {time:Int}:∀ (l:List bH) (i:Nat) (aq:List bI) (ax:List bH) (e:Int),(∀ a∈l,bK a=0)->kv aq->kv (fK time l i aq ax e).1
 |[],_,_,_,_,_,h=>h
 |a::l,i,aq,ax,e,hw,h=>qW l (i+1) _ _ _ (fun x hx=>hw x (List.mem_cons_of_mem _ hx)) (iW h (zH (hw a List.mem_cons_self)))
theorem qX {time:Int} {n:Int}:∀ (l:List bH) (i:Nat) (aq:List bI) (ax:List bH) (e:Int),(∀ a∈l,a.bp=n)->(∀ a∈ax,a.bp=n)->∀ a∈(fK time l i aq ax e).2.1,a.bp=n
 |[],_,_,_,_,_,h=>h
 |a::l,i,aq,ax,e,hl,h=>qX l (i+1) _ _ _ (fun x hx=>hl x (List.mem_cons_of_mem _ hx)) fun x hx=>by
  rcases gd hx with hx|rfl
  ·exact h x hx
  ·exact hl a List.mem_cons_self
structure eU (b:Bk):Prop where
 ok:cu b
 up:b.down=false
 iv:∀ a∈b.ax,a.bp=0
 free:kv b.aq
 k0:∀ t∈b.s0.kept,0<=t.sum
 k1:∀ t∈b.s1.kept,0<=t.sum
 p0:∀ p∈b.w0,0<=p.ck.sum
 p1:∀ p∈b.w1,0<=p.ck.sum
theorem eU.dy {b c:Bk} {e:Int} (h:eU b) (hc:e=0->eU c):eU (dy b c e).1:=by
 unfold Dev.dy;split
 ·exact hc (by assumption)
 ·exact h
theorem eU.late {b:Bk} (h:eU b):eU (gV b):=by
 have hok:=h.ok.late
 unfold gV at hok ⊢
 split
 ·rename_i h0
  rw [if_pos h0] at hok
  exact ⟨hok,h.up,qX _ _ _ _ _ h.iv h.iv,qW _ _ _ _ _ (fun a ha=>(h.ok.perm a ha).1) h.free,h.k0,h.k1,h.p0,h.p1⟩
 ·exact h
theorem eU.start {s:Setup} (h:(eE s).err=0):eU (iB s):=
 ⟨cu.start h,rfl,fun a ha=>(by cases ha),fun c hc=>(by
  obtain ⟨p,_,rfl⟩:=List.mem_map.1 (show c∈s.cQ.map pd from hc)
  exact Int.le_refl _),fun a ha=>(by cases ha),fun a ha=>(by cases ha),fun a ha=>(by cases ha),fun a ha=>(by cases ha)⟩
theorem yG {c:bI} {n t:Int} (h:(dR c n t).2=0):0<=(dR c n t).1.bJ - (dR c n t).1.held:=by
 rcases qx (show dR c n t=((dR c n t).1,(dR c n t).2) from rfl) with ⟨h5,_⟩|⟨h5,h6,h7,h8,h9,h10,h11,l,h12,h13⟩
 ·exact absurd h h5
 ·rw [h13];dsimp only;omega
theorem eU.asks {b:Bk} (h:eU b) (d:bh):eU (dG b d).1:=by
 have hok:=h.ok.asks d
 unfold dG at hok ⊢
 rw [h.up] at hok ⊢
 simp only [Bool.false_eq_true,if_false] at hok ⊢
 split
 ·exact h
 rename_i c1
 rw [if_neg c1] at hok
 split
 ·exact h
 rename_i c2
 rw [if_neg c2] at hok
 split
 ·exact h
 rename_i c3
 rw [if_neg c3] at hok
 obtain ⟨_,w2,_⟩:=oo (show (dq d.n d.aD d.sum b.time).2=0 by omega)
 split
 ·exact h
 rename_i c hc
 rw [hc] at hok
 dsimp only at hok
 split
 ·exact h
 rename_i c4
 rw [if_neg c4] at hok
 refine ⟨hok,rfl,fun a ha=>?_,fun z hz=>?_,h.k0,h.k1,h.p0,h.p1⟩
 ·rcases List.mem_append.1 ha with ha|ha
  ·exact h.iv a ha
  ·obtain rfl:=List.mem_singleton.1 ha;rw [w2]
 ·rcases gd hz with hz|rfl
  ·exact h.free z hz
  ·exact yG (by omega)
theorem xY {a b:bH} {k n:Int} (hw:bK a=0) (h1:1<=n) (hm:jQ a k n b):(k=1->bP b - bP a=n)/\(k=2\/k=3->bP b - bP a<=0 - n)/\(k=4->bP b - bP a<=0)/\(k=6\/b.bp<=a.bp):=by
 have hr:=eN hw
 cases hm with
 |more h hs hn=>subst h;unfold bP;rw [hs];simp;omega
 |take h hs hn=>
  unfold bP;rw [hs];dsimp only
  refine ⟨fun h=>by omega,fun _=>?_,fun h=>by omega,.inr (Int.le_refl _)⟩
  split<;>simp at *<;>omega
 |less h hs hn=>
  subst h;unfold bP;rw [hs];dsimp only
  refine ⟨fun h=>by omega,fun h=>by omega,fun _=>?_,.inr (Int.le_refl _)⟩
  split<;>simp at *<;>omega
 |uD h hn=>subst h;exact ⟨fun h=>by omega,fun h=>by omega,fun h=>by omega,.inr (Int.le_refl _)⟩
 |sb h hn=>subst h;exact ⟨fun h=>by omega,fun h=>by omega,fun h=>by omega,.inl rfl⟩
 |rY h hn=>subst h;exact ⟨fun h=>by omega,fun h=>by omega,fun h=>by omega,.inr (by dsimp only;omega)⟩
 |rX h hn=>subst h;exact ⟨fun h=>by omega,fun h=>by omega,fun h=>by omega,.inr (by dsimp only;omega)⟩
theorem xX {a b:bH} {k n:Int} (hm:jQ a k n b) (h1:1<=n) (hk:k=7\/k=8):1<=a.bp:=by
 cases hm<;>omega
theorem nY {s:ca} {e:Int} {t:bu} (h:∀ t∈s.kept,0<=t.sum) (ht:0<=t.sum):∀ u∈(eH s e t).1.kept,0<=u.sum:=by
 unfold eH
 split
 ·rename_i h0
  have he:=(fL h0).2
  unfold gq at he
  split at he
  ·rename_i h1;exact absurd he h1
  split at he
  ·rename_i h1;exact absurd he h1
  ·rename_i h1 h2
   have hp:(gq s t).1=lA s t:=by unfold gq;rw [if_neg h1,if_neg h2]
   dsimp only
   rw [hp]
   intro u hu
   rcases List.mem_append.1 hu with hu|hu
   ·exact h u hu
   ·obtain rfl:=List.mem_singleton.1 hu;exact ht
 ·exact h
theorem eU.lG {b:Bk} (h:eU b) (d:bh) (hd:¬d.move=6):eU (dP b d).1:=by
 have hok:=h.ok.lG d
 unfold dP at hok ⊢
 rw [h.up] at hok ⊢
 simp only [Bool.false_eq_true,if_false] at hok ⊢
 split
 ·exact h
 rename_i c1
 rw [if_neg c1] at hok
 split
 ·exact h
 rename_i cG ho
 rw [ho] at hok
 dsimp only at hok
 split
 ·exact h
 rename_i c2
 rw [if_neg c2] at hok
 split
 ·exact h
 rename_i c3
 rw [if_neg c3] at hok
 have hmv:cv cG d.move d.sum=((cv cG d.move d.sum).1,0):=Prod.ext rfl (by dsimp only;omega)
 generalize (cv cG d.move d.sum).1=a at *
 rcases qg hmv with ⟨h4,_⟩|⟨_,hw,hn1,hn2,hm⟩
 ·exact absurd rfl h4
 have hold:=h.iv cG (List.mem_of_getElem? ho)
 have hr:=eN hw
 obtain ⟨m1,m2,m3,m4⟩:=xY hw hn1 hm
 have hcard:a.aO=cG.aO:=(pB hmv).2.1
 have hra:=eN (pB hmv).1
 unfold pc at hok ⊢
 have hcards:kv (dU b a cG d).1:=by
  unfold dU
  split
  ·rename_i hk
   rcases hk with hk|hk
   ·refine pw h.free fun c hc=>?_
    have hf:¬d.sum > kH b.aq a.aO:=fun hf=>c3 ⟨hk,hf⟩
    unfold kH at hf;rw [hc] at hf;dsimp only at hf
    have:=m1 hk;omega
   ·exact iW h.free (m3 hk)
  split
  ·rename_i hk;exact iW h.free (m2 hk)
  split
  ·exact h.free
  split
  ·exact h.free
  split
  ·rename_i hk;have:=xX hm hn1 (.inr hk);omega
  ·exact h.free
 unfold Dev.dy at hok ⊢
 split
 ·rename_i h0
  rw [if_pos h0] at hok
  have hks:(∀ t∈(dU b a cG d).2.2.2.1.kept,0<=t.sum)/\∀ t∈(dU b a cG d).2.2.2.2.1.kept,0<=t.sum:=by
   unfold dU
   split
   ·exact ⟨h.k0,h.k1⟩
   split
   ·exact ⟨nY h.k0 (by dsimp only;omega),h.k1⟩
   split
   ·exact ⟨h.k0,nY h.k1 (by dsimp only;omega)⟩
   split
   ·exact ⟨nY h.k0 (by dsimp only;omega),h.k1⟩
   split
   ·exact ⟨h.k0,h.k1⟩
   ·exact ⟨h.k0,h.k1⟩
  refine ⟨hok,h.up,fun x hx=>?_,hcards,hks.1,hks.2,h.p0,h.p1⟩
  rcases gd hx with hx|rfl
  ·exact h.iv x hx
  ·rcases m4 with h6|h6
   ·exact absurd h6 hd
   ·omega
 ·exact h
theorem qI {ax:List bH} {due:List Int} {aq:List bI} {book:List Entry} {e:Int} {t:bu} (h:kv aq) (ht:0<=t.sum):kv (eG ax due aq book e t).2.1:=by
 unfold eG
 split
 ·exact h
 split
 ·exact h
 split
 ·exact iW h ht
 split
 ·exact h
 ·exact h
theorem eU.load {b:Bk} (h:eU b) (d:bh):eU (fP b d).1:=by
 have hok:=h.ok.load d
 unfold fP at hok ⊢
 split
 ·exact h
 rename_i c1
 rw [if_neg c1] at hok
 split
 ·exact h
 rename_i c2
 rw [if_neg c2] at hok
 unfold Dev.dy at hok ⊢
 split
 ·rename_i h0;rw [if_pos h0] at hok;exact ⟨hok,h.up,h.iv,iW h.free (by omega),h.k0,h.k1,h.p0,h.p1⟩
 ·exact h
theorem eU.uI {b:Bk} (h:eU b) (d:bh):eU (gZ b d).1:=by
 have hok:=h.ok.uI d
 unfold gZ at hok ⊢
 split
 ·exact h
 rename_i c1
 rw [if_neg c1] at hok
 split
 ·exact h
 rename_i c2
 rw [if_neg c2] at hok
 unfold Dev.dy at hok ⊢
 split
 ·rename_i h0;rw [if_pos h0] at hok;exact ⟨hok,h.up,h.iv,h.free,h.k0,h.k1,h.p0,h.p1⟩
 ·exact h
theorem eU.cE {b:Bk} (h:eU b) (d:bh):eU (fo b d).1:=by
 unfold fo
 split
 ·exact h
 ·rw [h.up]
  simp only [Bool.false_eq_true,if_false]
  have h1:eU {b with time:=b.time+d.sum}:=⟨h.ok.tick (by have:=h.ok.time;omega) (by have:=h.ok.time;omega),h.up,h.iv,h.free,h.k0,h.k1,h.p0,h.p1⟩
  have h2:=h1.late
  rwa [show ({b with time:=b.time+d.sum}:Bk)={b with time:=b.time+d.sum,down:=false} by rw [<-h.up]] at h2
theorem sI {w:List cq} {ks:List bu} {n:Int} (h:∀ p∈w,0<=p.ck.sum) (hk:∀ t∈ks,0<=t.sum):∀ p∈(jy w ks n).1,0<=p.ck.sum:=by
 unfold jy
 split
 ·exact h
 ·intro p hp
  rcases sO hp with hp|⟨t,ht,rfl⟩|rfl
  ·exact h p hp
  ·exact hk t ht
  ·exact Int.le_refl _
theorem eU.send {b:Bk} (h:eU b) (d:bh):eU {b with w0:=(eR b.s0 b.s1 b.n0 b.n1 b.w0 b.w1 d).1,w1:=(eR b.s0 b.s1 b.n0 b.n1 b.w0 b.w1 d).2.1}:=by
 refine ⟨h.ok.send d,h.up,h.iv,h.free,h.k0,h.k1,?_,?_⟩
 ·dsimp only;unfold eR
  split
  ·exact h.p0
  split
  ·exact sI h.p0 h.k1
  ·exact h.p0
 ·dsimp only;unfold eR
  split
  ·exact sI h.p1 h.k0
  split
  ·exact h.p1
  ·exact h.p1
theorem tw {s:ca} {n:Int} (h:∀ t∈s.kept,0<=t.sum) (hb:(ea s n).2=0):∀ t∈(ea s n).1.kept,0<=t.sum:=by
 rcases pf (show ea s n=((ea s n).1,(ea s n).2) from rfl) with ⟨h1,_⟩|⟨_,_,_,_,h2⟩
 ·exact absurd hb h1
 ·rw [h2];exact fun t ht=>h t (sX ht)
theorem eU.lH {b:Bk} (h:eU b) (d:bh):eU (cw b d).1:=by
 have hok:=h.ok.lH d
 unfold cw at hok ⊢
 split
 ·rename_i c0
  rw [if_pos c0] at hok
  unfold fT at hok ⊢
  split
  ·exact h
  rename_i p hp
  rw [hp] at hok
  dsimp only at hok
  have hps:=h.p0 p (List.mem_of_getElem? hp)
  have hd:∀ p∈b.w0.drop 1,0<=p.ck.sum:=fun p hp=>h.p0 p (List.mem_of_mem_drop hp)
  split
  ·rename_i c1;rw [if_pos c1] at hok;exact ⟨hok,h.up,h.iv,h.free,h.k0,h.k1,hd,h.p1⟩
  rename_i c1
  rw [if_neg c1] at hok
  split
  ·rename_i c2
   rw [if_pos c2] at hok
   split
   ·rename_i c3;rw [if_pos c3] at hok;exact ⟨hok,h.up,h.iv,h.free,tw h.k0 c3,h.k1,hd,h.p1⟩
   ·exact h
  rename_i c2
  rw [if_neg c2] at hok
  split
  ·rename_i c3
   rw [if_pos c3] at hok
   unfold Dev.dy at hok ⊢
   split
   ·rename_i c4;rw [if_pos c4] at hok;exact ⟨hok,h.up,h.iv,qI h.free hps,h.k0,h.k1,hd,h.p1⟩
   ·exact h
  ·rename_i c3;rw [if_neg c3] at hok;exact ⟨hok,h.up,h.iv,h.free,h.k0,h.k1,hd,h.p1⟩
 rename_i c0
 rw [if_neg c0] at hok
 split
 ·rename_i c01
  rw [if_pos c01] at hok
  unfold fS at hok ⊢
  split
  ·exact h
  rename_i p hp
  rw [hp] at hok
  dsimp only at hok
  have hps:=h.p1 p (List.mem_of_getElem? hp)
  have hd:∀ p∈b.w1.drop 1,0<=p.ck.sum:=fun p hp=>h.p1 p (List.mem_of_mem_drop hp)
  split
  ·rename_i c1;rw [if_pos c1] at hok;exact ⟨hok,h.up,h.iv,h.free,h.k0,h.k1,h.p0,hd⟩
  rename_i c1
  rw [if_neg c1] at hok
  split
  ·rename_i c2
   rw [if_pos c2] at hok
   split
   ·rename_i c3;rw [if_pos c3] at hok;exact ⟨hok,h.up,h.iv,h.free,h.k0,tw h.k1 c3,h.p0,hd⟩
   ·exact h
  rename_i c2
  rw [if_neg c2] at hok
  split
  ·rename_i c3
   rw [if_pos c3] at hok
   unfold Dev.dy at hok ⊢
   split
   ·rename_i c4;rw [if_pos c4] at hok;exact ⟨hok,h.up,h.iv,qI h.free hps,h.k0,h.k1,h.p0,hd⟩
   ·exact h
  ·rename_i c3;rw [if_neg c3] at hok;exact ⟨hok,h.up,h.iv,h.free,h.k0,h.k1,h.p0,hd⟩
 ·exact h
theorem eU.BE {b:Bk} (h:eU b) (y:List (List Int)) (d:bh) (h8:¬d.kind=8) (h6:¬(d.kind=3/\d.move=6)):eU (fv b y d).1:=by
 unfold fv
 split
 ·exact h.load d
 split
 ·exact h.asks d
 split
 ·rename_i h3;exact h.lG d fun e=>h6 ⟨h3,e⟩
 split
 ·exact h.cE d
 split
 ·exact h.send d
 split
 ·exact h.lH d
 split
 ·have:(iV b).1=b:=by unfold iV;rw [if_pos h.up]
  rw [this];exact h
 split
 ·exact ⟨h.ok.qb (lV (y:=y) h.ok.aS).1,h.up,h.iv,h.free,h.k0,h.k1,h.p0,h.p1⟩
 split
 ·exact h.uI d
 ·exact h
section
def ek (k:Int):List bH->Int
 |[]=>0
 |a::l=>(if a.aO=k then bP a else 0)+ek k l
theorem ra (k:Int) (u v:List bH):ek k (u++v)=ek k u+ek k v:=by
 induction u with
 |nil=>simp [ek]
 |cons a u ih=>simp only [List.cons_append,ek,ih];omega
theorem nt (k:Int) (b:bH):∀ {l:List bH} {i:Nat} {a:bH},l[i]?=some a->ek k (l.set i b)=ek k l - (if a.aO=k then bP a else 0)+(if b.aO=k then bP b else 0)
 |x::l,0,a,h=>by
  have:x=a:=by simpa using h
  subst this
  simp only [List.set_cons_zero,ek];omega
 |x::l,i+1,a,h=>by
  have h:l[i]?=some a:=by simpa using h
  simp only [List.set_cons_succ,ek,nt k b h];omega
def gG (aq:List bI) (ax:List bH):Prop:=∀ (k:Nat) (c:bI),aq[k]?=some c->c.held=ek k ax
theorem pv {l:List bI} {e k h m:Int} (hz:(cH l e k h m).2=0):e=0/\((l[k.toNat]?=none/\(cH l e k h m).1=l)\/∃ c,l[k.toNat]?=some c/\(cH l e k h m).1=l.set k.toNat ⟨c.bJ+m,c.held+h,c.bU,c.cW⟩):=by
 unfold cH at hz ⊢
 cases hc:l[k.toNat]? with
 |none=>rw [hc] at hz;exact ⟨hz,.inl ⟨rfl,rfl⟩⟩
 |some c=>
  rw [hc] at hz
  dsimp only at hz ⊢
  split at hz
  ·rename_i h0
   obtain ⟨h1,h2⟩:=fL h0
   rcases qa (show ec c h m=((ec c h m).1,(ec c h m).2) from rfl) with ⟨h3,_⟩|h3
   ·exact absurd h2 h3
   ·rw [if_pos h0]
    exact ⟨h1,.inr ⟨c,rfl,by dsimp only;rw [h3.2.2.2.2.2.2.1]⟩⟩
  ·rename_i h0;exact absurd hz h0
theorem gG.shift {aq:List bI} {ax auths':List bH} {e k h m:Int} (hh:gG aq ax) (hz:(cH aq e k h m).2=0) (ha:∀ j:Nat,ek j auths'=ek j ax+if j=k.toNat then h else 0):gG (cH aq e k h m).1 auths':=by
 obtain ⟨_,hz⟩:=pv hz
 intro j c hc
 rcases hz with ⟨h1,h2⟩|⟨c0,h1,h2⟩
 ·rw [h2] at hc
  have:j≠k.toNat:=fun e=>by subst e;rw [h1] at hc;cases hc
  rw [hh j c hc,ha j,if_neg this];omega
 ·rw [h2,List.getElem?_set] at hc
  split at hc
  ·rename_i e
   split at hc
   ·injection hc with hc;subst hc
    have:=hh _ c0 h1
    rw [ha j,if_pos e.symm,<-e];dsimp only;omega
   ·cases hc
  ·rename_i e
   rw [hh j c hc,ha j,if_neg (Ne.symm e)];omega
theorem gG.same {aq:List bI} {ax:List bH} {e k m:Int} (hh:gG aq ax) (hz:(cH aq e k 0 m).2=0):gG (cH aq e k 0 m).1 ax:=hh.shift hz fun j=>by split<;>omega
theorem mX {s:ca} {e:Int} {t:bu} (h:(eH s e t).2=0):e=0/\(gq s t).2=0/\(eH s e t).1=(gq s t).1:=by
 unfold eH at h ⊢
 split at h
 ·rename_i h0;obtain ⟨h1,h2⟩:=fL h0;rw [if_pos h0];exact ⟨h1,h2,rfl⟩
 ·rename_i h0;exact absurd h h0
theorem uG {s:ca} {t:bu} (h:(gq s t).2=0):(cP s).err=0/\(cP (lA s t)).err=0/\(gq s t).1=lA s t:=by
 unfold gq at h ⊢
 split at h
 ·rename_i h1;exact absurd h h1
 split at h
 ·rename_i h1;exact absurd h h1
 ·rename_i h1 h2;rw [if_neg h1,if_neg h2];exact ⟨by omega,by omega,rfl⟩
theorem xo {s:ca} {n:Int} (h:(ea s n).2=0):(cP s).err=0/\0<=n/\n<=s.bz/\(ea s n).1=⟨s.bz,dH (came n) s.kept⟩/\(cP (ea s n).1).err=0:=by
 rcases pf (show ea s n=((ea s n).1,(ea s n).2) from rfl) with ⟨h1,_⟩|⟨_,h1,h2,h3,h4⟩
 ·exact absurd h h1
 ·exact ⟨h1,h2,h3,h4,by rw [h4];exact yD h1 h2 h3⟩
structure eb (b:Bk):Prop where
 ok:cu b
 held:gG b.aq b.ax
 s0:(cP b.s0).err=0
 s1:(cP b.s1).err=0
 st:bW b.aX=0
 used:b.aX.used.length=b.aq.length
 aS:∀ x∈b.aS,wQ x
theorem qU {time:Int}:∀ (l:List bH) (i:Nat) (aq:List bI) (ax:List bH) (e:Int),(fK time l i aq ax e).2.2=0->e=0
 |[],_,_,_,_,h=>h
 |a::l,i,aq,ax,e,h=>(pv (qU l _ _ _ _ h)).1
theorem qV {time:Int}:∀ (l:List bH) (i:Nat) (aq:List bI) (ax:List bH) (e:Int),(fK time l i aq ax e).2.2=0->ax.drop i=l->(∀ a∈l,0<=a.aO)->gG aq ax->gG (fK time l i aq ax e).1 (fK time l i aq ax e).2.1
 |[],_,_,_,_,_,_,_,h=>h
 |a::l,i,aq,ax,e,hz,hd,hp,h=>by
  have hat:ax[i]?=some a:=by
   have:(ax.drop i)[0]?=some a:=by rw [hd];rfl
   rwa [List.getElem?_drop,Nat.add_zero] at this
  have hilt:=(List.getElem?_eq_some_iff.1 hat).1
  refine qV l (i+1) _ _ _ hz ?_ (fun x hx=>hp x (List.mem_cons_of_mem _ hx)) (h.shift (qU l _ _ _ _ hz) fun j=>?_)
  ·rw [List.drop_set_of_lt (by omega)]
   have:ax.drop (i+1)=(ax.drop i).drop 1:=by rw [List.drop_drop]
   rw [this,hd];rfl
  ·have hc:=hp a List.mem_cons_self
   rw [nt _ _ hat]
   have:(eh a time).aO=a.aO:=rfl
   rw [this]
   by_cases e:a.aO=(j:Int)
   ·rw [if_pos e,if_pos e,if_pos (by omega)];omega
   ·rw [if_neg e,if_neg e,if_neg (by omega)];omega
theorem zA {time:Int} (l:List bH) (i:Nat) (aq:List bI) (ax:List bH) (e:Int):(fK time l i aq ax e).1.length=aq.length:=by
 induction l generalizing i aq ax e with
 |nil=>rfl
 |cons a l ih=>exact (ih (i+1) _ _ _).trans (fg _ _ _ _ _)
theorem eb.late {b:Bk} (h:eb b):eb (gV b):=by
 have hok:=h.ok.late
 unfold gV at hok ⊢
 split
 ·rename_i h0
  rw [if_pos h0] at hok
  exact ⟨hok,qV _ _ _ _ _ h0 rfl (fun a ha=>(h.ok.perm a ha).2.1) h.held,h.s0,h.s1,h.st,by dsimp only;rw [zA];exact h.used,h.aS⟩
 ·exact h
theorem eb.start {s:Setup} (h:(eE s).err=0):eb (iB s):=by
 obtain ⟨h1,h2,h3,h4,h5,h6⟩:=kJ h
 have hn:dA s.cap s.cQ.length=({cap:=s.cap,used:=List.replicate s.cQ.length 0,aQ:=[]},0):=pD h1 ⟨h4,h5⟩
 refine ⟨cu.start h,fun k c hc=>?_,rfl,rfl,?_,?_,fun x hx=>by cases hx⟩
 ·have hc:(s.cQ.map pd)[k]?=some c:=hc
  rw [List.getElem?_map] at hc
  cases hp:s.cQ[k]? with
  |none=>rw [hp] at hc;cases hc
  |some p=>rw [hp] at hc;injection hc with hc;subst hc;rfl
 ·show bW (dA s.cap s.cQ.length).1=0
  rw [hn];exact sS _ _ h1 h4 h5
 ·show (dA s.cap s.cQ.length).1.used.length=(s.cQ.map pd).length
  rw [hn];simp
theorem eb.load {b:Bk} (h:eb b) (d:bh):eb (fP b d).1:=by
 have hok:=h.ok.load d
 unfold fP at hok ⊢
 split
 ·exact h
 rename_i c1
 rw [if_neg c1] at hok
 split
 ·exact h
 rename_i c2
 rw [if_neg c2] at hok
 unfold Dev.dy at hok ⊢
 split
 ·rename_i h0
  rw [if_pos h0] at hok
  exact ⟨hok,h.held.same (jF h0).1,h.s0,h.s1,h.st,by dsimp only;rw [fg];exact h.used,h.aS⟩
 ·exact h
theorem eb.uI {b:Bk} (h:eb b) (d:bh):eb (gZ b d).1:=by
 have hok:=h.ok.uI d
 unfold gZ at hok ⊢
 split
 ·exact h
 rename_i c1
 rw [if_neg c1] at hok
 split
 ·exact h
 rename_i c2
 rw [if_neg c2] at hok
 unfold Dev.dy at hok ⊢
 split
 ·rename_i h0;rw [if_pos h0] at hok;exact ⟨hok,h.held,h.s0,h.s1,h.st,h.used,h.aS⟩
 ·exact h
theorem eb.cE {b:Bk} (h:eb b) (d:bh):eb (fo b d).1:=by
 unfold fo
 split
 ·exact h
 ·have h1:eb {b with time:=b.time+d.sum}:=⟨h.ok.tick (by have:=h.ok.time;omega) (by have:=h.ok.time;omega),h.held,h.s0,h.s1,h.st,h.used,h.aS⟩
  dsimp only
  split
  ·exact h1
  ·exact h1.late
theorem eb.send {b:Bk} (h:eb b) (d:bh):eb {b with w0:=(eR b.s0 b.s1 b.n0 b.n1 b.w0 b.w1 d).1,w1:=(eR b.s0 b.s1 b.n0 b.n1 b.w0 b.w1 d).2.1}:=
 ⟨h.ok.send d,h.held,h.s0,h.s1,h.st,h.used,h.aS⟩
theorem qH {ax:List bH} {due:List Int} {aq:List bI} {book:List Entry} {e:Int} {t:bu} (h:gG aq ax) (hz:(eG ax due aq book e t).2.2.2=0):gG (eG ax due aq book e t).2.1 ax/\(eG ax due aq book e t).2.1.length=aq.length:=by
 unfold eG at hz ⊢
 split
 ·exact ⟨h,rfl⟩
 rename_i a ha
 rw [ha] at hz
 dsimp only at hz
 split
 ·exact ⟨h,rfl⟩
 rename_i c1
 rw [if_neg c1] at hz
 split
 ·rename_i c2;rw [if_pos c2] at hz;exact ⟨h.same (jF hz).1,fg _ _ _ _ _⟩
 split
 ·exact ⟨h,rfl⟩
 ·exact ⟨h,rfl⟩
theorem eb.lH {b:Bk} (h:eb b) (d:bh):eb (cw b d).1:=by
 have hok:=h.ok.lH d
 unfold cw at hok ⊢
 split
 ·rename_i c0
  rw [if_pos c0] at hok
  unfold fT at hok ⊢
  split
  ·exact h
  rename_i p hp
  rw [hp] at hok
  dsimp only at hok
  split
  ·rename_i c1;rw [if_pos c1] at hok;exact ⟨hok,h.held,h.s0,h.s1,h.st,h.used,h.aS⟩
  rename_i c1
  rw [if_neg c1] at hok
  split
  ·rename_i c2
   rw [if_pos c2] at hok
   split
   ·rename_i c3;rw [if_pos c3] at hok;exact ⟨hok,h.held,(xo c3).2.2.2.2,h.s1,h.st,h.used,h.aS⟩
   ·exact h
  rename_i c2
  rw [if_neg c2] at hok
  split
  ·rename_i c3
   rw [if_pos c3] at hok
   unfold Dev.dy at hok ⊢
   split
   ·rename_i c4;rw [if_pos c4] at hok;obtain ⟨r1,r2⟩:=qH h.held c4;exact ⟨hok,r1,h.s0,h.s1,h.st,h.used.trans r2.symm,h.aS⟩
   ·exact h
  ·rename_i c3;rw [if_neg c3] at hok;exact ⟨hok,h.held,h.s0,h.s1,h.st,h.used,h.aS⟩
 rename_i c0
 rw [if_neg c0] at hok
 split
 ·rename_i c01
  rw [if_pos c01] at hok
  unfold fS at hok ⊢
  split
  ·exact h
  rename_i p hp
  rw [hp] at hok
  dsimp only at hok
  split
  ·rename_i c1;rw [if_pos c1] at hok;exact ⟨hok,h.held,h.s0,h.s1,h.st,h.used,h.aS⟩
  rename_i c1
  rw [if_neg c1] at hok
  split
  ·rename_i c2
   rw [if_pos c2] at hok
   split
   ·rename_i c3;rw [if_pos c3] at hok;exact ⟨hok,h.held,h.s0,(xo c3).2.2.2.2,h.st,h.used,h.aS⟩
   ·exact h
  rename_i c2
  rw [if_neg c2] at hok
  split
  ·rename_i c3
   rw [if_pos c3] at hok
   unfold Dev.dy at hok ⊢
   split
   ·rename_i c4;rw [if_pos c4] at hok;obtain ⟨r1,r2⟩:=qH h.held c4;exact ⟨hok,r1,h.s0,h.s1,h.st,h.used.trans r2.symm,h.aS⟩
   ·exact h
  ·rename_i c3;rw [if_neg c3] at hok;exact ⟨hok,h.held,h.s0,h.s1,h.st,h.used,h.aS⟩
 ·exact h
theorem zN {s:cC} {a:cj} (h:(ct s a).2=0):(ct s a).1.used.length=s.used.length:=by
 unfold ct at h ⊢
 split at h
 ·rename_i h1;exact absurd h h1
 split at h
 ·cases h
 split at h
 ·cases h
 split at h
 ·cases h
 ·rename_i h1 h2 h3 h4;rw [if_neg h1,if_neg h2,if_neg h3,if_neg h4];exact List.length_set ..
theorem gG.new {aq:List bI} {ax:List bH} {k:Int} {c c':bI} {a:bH} (hh:gG aq ax) (hk:0<=k) (hc:aq[k.toNat]?=some c) (ha:a.aO=k) (h':c'.held=c.held+bP a):gG (aq.set k.toNat c') (ax++[a]):=by
 intro j z hz
 rw [ra]
 have h1:ek j [a]=if a.aO=j then bP a else 0:=by simp [ek]
 rw [h1]
 rw [List.getElem?_set] at hz
 split at hz
 ·rename_i e
  split at hz
  ·injection hz with hz;subst hz
   have:=hh _ c hc
   rw [if_pos (by omega),<-e];omega
  ·cases hz
 ·rename_i e
  rw [hh j z hz,if_neg (by omega)];omega
theorem eb.asks {b:Bk} (h:eb b) (d:bh):eb (dG b d).1:=by
 have hok:=h.ok.asks d
 unfold dG at hok ⊢
 split
 ·exact h
 rename_i c0
 rw [if_neg c0] at hok
 split
 ·rename_i cd
  rw [if_pos cd] at hok
  split
  ·exact h
  rename_i c1
  rw [if_neg c1] at hok
  split
  ·exact h
  rename_i c2
  rw [if_neg c2] at hok
  have he:=rl (show gF (ct b.aX ⟨d.n,d.aD,d.sum,b.time⟩).2=0 by omega)
  exact ⟨hok,h.held,h.s0,h.s1,(ye h.st he).1,(zN he).trans h.used,h.aS⟩
 rename_i cd
 rw [if_neg cd] at hok
 split
 ·exact h
 rename_i c2
 rw [if_neg c2] at hok
 split
 ·exact h
 rename_i c3
 rw [if_neg c3] at hok
 obtain ⟨_,w2,_⟩:=oo (show (dq d.n d.aD d.sum b.time).2=0 by omega)
 split
 ·exact h
 rename_i c hc
 rw [hc] at hok
 dsimp only at hok
 split
 ·exact h
 rename_i c4
 rw [if_neg c4] at hok
 refine ⟨hok,h.held.new (by omega) hc (by rw [w2]) ?_,h.s0,h.s1,h.st,by dsimp only;rw [List.length_set];exact h.used,h.aS⟩
 rcases qx (show dR c d.sum b.time=((dR c d.sum b.time).1,(dR c d.sum b.time).2) from rfl) with ⟨h5,_⟩|⟨h5,h6,h7,h8,h9,h10,h11,l,h12,h13⟩
 ·omega
 ·rw [h13,w2];simp [bP]
theorem ua:∀ (l:List cj) (cs:List bI) (xs:List bH),(gi l cs xs).2.2=0->gG cs xs->(∀ a∈l,0<=a.aO/\a.aO < cs.length)->gG (gi l cs xs).1 (gi l cs xs).2.1/\(gi l cs xs).1.length=cs.length
 |[],cs,xs,_,h,_=>⟨h,rfl⟩
 |x::l,cs,xs,hz,h,hl=>by
  unfold gi at hz ⊢
  split at hz
  ·rename_i h1;exact absurd hz h1
  rename_i h1
  rw [if_neg h1]
  have hx:=hl x List.mem_cons_self
  cases hc:cs[x.aO.toNat]? with
  |none=>have:=List.getElem?_eq_none_iff.1 hc;omega
  |some c=>
   rw [hc] at hz
   dsimp only at hz ⊢
   split at hz
   ·rename_i h2;exact absurd hz h2
   rename_i h2
   rw [if_neg h2]
   obtain ⟨_,w2,_⟩:=oo (show (dq x.aO x.aD x.sum x.time).2=0 by omega)
   obtain ⟨_,f2,_⟩:=oA (show (eP c x.sum).2=0 by omega)
   have:=ua l _ _ hz (h.new hx.1 hc (by rw [w2]) (by rw [f2,w2];simp [bP])) (fun a ha=>by rw [List.length_set];exact hl a (List.mem_cons_of_mem _ ha))
   rw [List.length_set] at this
   exact this
theorem eb.Dh {b:Bk} (h:eb b):eb (iV b).1:=by
 unfold iV
 split
 ·exact h
 split
 ·exact h
 split
 ·exact h
 rename_i c1 c2 c3
 have h0:(dd b.aX).2.2=0:=by omega
 obtain ⟨r1,r2,r3⟩:=qv h0
 have hu:=h.ok.Aw h0
 have hz:(gi (dd b.aX).2.1 b.aq b.ax).2.2=0:=by omega
 obtain ⟨u1,u2⟩:=ua _ _ _ hz h.held (fun a ha=>by rw [r3] at ha;have:=h.ok.js a ha;omega)
 have hp:=gL h.st
 refine eb.late ⟨hu,u1,h.s0,h.s1,?_,?_,h.aS⟩
 ·dsimp only;rw [r2]
  have hc:0<=b.aX.cap/\b.aX.cap<=1000000:=by simpa [gr] using hp.2.2.1
  exact sS _ _ hp.1 hc.1 hc.2
 ·dsimp only;rw [r2,u2];simp [h.used]
theorem eb.lG {b:Bk} (h:eb b) (d:bh):eb (dP b d).1:=by
 have hok:=h.ok.lG d
 unfold dP at hok ⊢
 split
 ·exact h
 rename_i cd
 rw [if_neg cd] at hok
 split
 ·exact h
 rename_i c1
 rw [if_neg c1] at hok
 split
 ·exact h
 rename_i cG ho
 rw [ho] at hok
 dsimp only at hok
 split
 ·exact h
 rename_i c2
 rw [if_neg c2] at hok
 split
 ·exact h
 rename_i c3
 rw [if_neg c3] at hok
 have hmv:cv cG d.move d.sum=((cv cG d.move d.sum).1,0):=Prod.ext rfl (by dsimp only;omega)
 generalize (cv cG d.move d.sum).1=a at *
 obtain ⟨_,hwa,hcard,hshop,hk1,hk2,hn1,hn2⟩:=mv hmv
 rcases qg hmv with ⟨h4,_⟩|⟨_,hw,_,_,hm⟩
 ·exact absurd rfl h4
 have hp:=h.ok.perm cG (List.mem_of_getElem? ho)
 have hra:=eN hwa
 have hset:∀ j:Nat,ek j (b.ax.set d.n.toNat a)=ek j b.ax+if j=a.aO.toNat then bP a - bP cG else 0:=fun j=>by
  rw [nt _ _ ho,hcard]
  by_cases e:cG.aO=(j:Int)
  ·rw [if_pos e,if_pos e,if_pos (by omega)];omega
  ·rw [if_neg e,if_neg e,if_neg (by omega)];omega
 have hsame:bP a=bP cG->∀ j:Nat,ek j (b.ax.set d.n.toNat a)=ek j b.ax:=fun e j=>by rw [hset j];split<;>omega
 have hh:d.move=5\/d.move=6\/d.move=7\/d.move=8->bP a=bP cG:=fun e=>by
  cases hm with
  |uD _ _=>rfl
  |sb _ _=>rfl
  |rY _ _=>rfl
  |rX _ _=>rfl
  |more h _ _=>omega
  |take h _ _=>omega
  |less h _ _=>omega
 unfold pc Dev.dy at hok ⊢
 split
 rotate_left
 ·exact h
 rename_i h0
 rw [if_pos h0] at hok
 obtain ⟨e0,hl0,hnote⟩:=xU h0
 have key:gG (dU b a cG d).1 (b.ax.set d.n.toNat a)/\(cP (dU b a cG d).2.2.2.1).err=0/\(cP (dU b a cG d).2.2.2.2.1).err=0/\(dU b a cG d).1.length=b.aq.length:=by
  unfold dU at e0 ⊢
  split at e0
  ·rename_i hk;rw [if_pos hk];exact ⟨h.held.shift e0 hset,h.s0,h.s1,fg _ _ _ _ _⟩
  rename_i k1
  rw [if_neg k1]
  split at e0
  ·rename_i hk;rw [if_pos hk]
   obtain ⟨e1,e2,e3⟩:=mX e0
   obtain ⟨_,p2,p3⟩:=uG e2
   exact ⟨h.held.shift (jF e1).1 hset,by dsimp only;rw [e3,p3];exact p2,h.s1,fg _ _ _ _ _⟩
  rename_i k2
  rw [if_neg k2]
  split at e0
  ·rename_i hk;rw [if_pos hk]
   obtain ⟨e1,e2,e3⟩:=mX e0
   obtain ⟨_,p2,p3⟩:=uG e2
   exact ⟨fun j c hc=>by rw [hsame (hh (.inl hk)) j];exact h.held j c hc,h.s0,by dsimp only;rw [e3,p3];exact p2,rfl⟩
  rename_i k3
  rw [if_neg k3]
  split at e0
  ·rename_i hk;rw [if_pos hk]
   exact ⟨h.held.shift (jF e0).1 fun j=>by rw [hsame (hh (.inr (.inl hk))) j];split<;>omega,h.s0,h.s1,fg _ _ _ _ _⟩
  rename_i k4
  rw [if_neg k4]
  split at e0
  ·rename_i hk;rw [if_pos hk]
   obtain ⟨e1,e2,e3⟩:=mX e0
   obtain ⟨_,p2,p3⟩:=uG e2
   exact ⟨fun j c hc=>by rw [hsame (hh (.inr (.inr (.inl hk)))) j];exact h.held j c hc,by dsimp only;rw [e3,p3];exact p2,h.s1,rfl⟩
  rename_i k5
  rw [if_neg k5]
  split at e0
  ·rename_i hk;rw [if_pos hk]
   exact ⟨h.held.shift (jF e0).1 fun j=>by rw [hsame (hh (.inr (.inr (.inr hk)))) j];split<;>omega,h.s0,h.s1,fg _ _ _ _ _⟩
  ·omega
 refine ⟨hok,key.1,key.2.1,key.2.2.1,h.st,h.used.trans key.2.2.2.symm,fun x hx=>?_⟩
 dsimp only at hx
 rw [hnote] at hx
 rcases List.mem_append.1 hx with hx|hx
 ·exact h.aS x hx
 ·obtain rfl:=List.mem_singleton.1 hx
  have hlen:=h.ok.ax
  constructor
  ·unfold my;dsimp only;omega
  ·unfold nF;dsimp only;omega
theorem eb.BE {b:Bk} (h:eb b) (y:List (List Int)) (d:bh):eb (fv b y d).1:=by
 unfold fv
 split
 ·exact h.load d
 split
 ·exact h.asks d
 split
 ·exact h.lG d
 split
 ·exact h.cE d
 split
 ·exact h.send d
 split
 ·exact h.lH d
 split
 ·split
  ·exact h
  ·exact ⟨⟨h.ok.time,h.ok.aq,h.ok.due,h.ok.ax,h.ok.aS,h.ok.w0,h.ok.w1,h.ok.perm,h.ok.js,h.ok.k0,h.ok.k1,h.ok.right,h.ok.l0,h.ok.l1,h.ok.p0,h.ok.p1,h.ok.n0,h.ok.n1,fun h=>by cases h⟩,h.held,h.s0,h.s1,h.st,h.used,h.aS⟩
 split
 ·exact h.Dh
 split
 ·refine ⟨h.ok.qb (lV (y:=y) h.ok.aS).1,h.held,h.s0,h.s1,h.st,h.used,?_⟩
  unfold iL
  split
  ·exact h.aS
  ·exact fun x hx=>by cases hx
 split
 ·exact h.uI d
 ·exact h
end
section
structure HL (n:Nat) (ax:List bH) (hl:List Int):Prop where
 len:hl.length=n
 at_:∀ k:Nat,k < n->hl[k]?=some (ek k ax)
theorem HL.start (n:Nat):HL n [] (List.replicate n 0):=⟨List.length_replicate,fun k hk=>by rw [List.getElem?_replicate,if_pos hk];rfl⟩
theorem HL.step {n:Nat} {u:List bH} {hl:List Int} {a:bH} {x v:Int} (h:HL n u hl) (ha:0<=a.aO/\a.aO < n) (hx:hl[a.aO.toNat]?=some x) (hv:v=x+bP a):HL n (u++[a]) (hl.set a.aO.toNat v):=by
 refine ⟨(List.length_set ..).trans h.len,fun k hk=>?_⟩
 rw [ra]
 have h1:ek k [a]=if a.aO=k then bP a else 0:=by simp [ek]
 rw [h1,List.getElem?_set]
 have h2:=h.at_ k hk
 split
 ·rename_i e
  rw [e] at hx
  rw [hx] at h2
  injection h2 with h2
  rw [if_pos (by rw [h.len];omega),if_pos (by omega),hv,h2]
 ·rename_i e
  rw [if_neg (by omega),h2];simp
theorem va (k:Int):∀ {l:List bH},(∀ a∈l,bK a=0)->0<=ek k l/\ek k l<=1000000 * l.length
 |[],_=>by simp [ek]
 |a::l,h=>by
  have:=va k (l:=l) fun x hx=>h x (List.mem_cons_of_mem _ hx)
  have h2:=ox (h a List.mem_cons_self)
  simp only [ek,List.length_cons]
  split<;>omega
theorem HL.b {n:Nat} {u:List bH} {hl:List Int} {k:Nat} {x:Int} (h:HL n u hl) (hx:hl[k]?=some x) (hu:∀ a∈u,bK a=0) (hl':u.length<=30):0<=x/\x<=30000000:=by
 have hk:=(List.getElem?_eq_some_iff.1 hx).1
 have h2:=h.at_ k (by rw [<-h.len];exact hk)
 rw [hx] at h2;injection h2 with h2
 have:=va k hu
 omega
end
def fr:List bh->Bk->List (List Int)->List (Int×Answer)->Nat->List Answer->Bk×List (List Int)×List (Int×Answer)×Nat×List Answer
 |[],b,y,told,cl,out=>(b,y,told,cl,out)
 |d::l,b,y,told,cl,out=>fr l (eC b y told cl d).1 (eC b y told cl d).2.1 (eC b y told cl d).2.2.1 (eC b y told cl d).2.2.2.1 (out++[(eC b y told cl d).2.2.2.2])
theorem wO:∀ (l:List bh) (b:Bk) (y:List (List Int)) (told:List (Int×Answer)) (cl:Nat) (out:List Answer),ko l b y told cl out=((fr l b y told cl out).1,(fr l b y told cl out).2.1,(fr l b y told cl out).2.2.2.2)
 |[],_,_,_,_,_=>rfl
 |d::l,b,y,told,cl,out=>by
  unfold ko fr
  exact wO l _ _ _ _ _
theorem kC:∀ (l m:List bh) (b:Bk) (y:List (List Int)) (told:List (Int×Answer)) (cl:Nat) (out:List Answer),fr (l++m) b y told cl out=fr m (fr l b y told cl out).1 (fr l b y told cl out).2.1 (fr l b y told cl out).2.2.1 (fr l b y told cl out).2.2.2.1 (fr l b y told cl out).2.2.2.2
 |[],_,_,_,_,_,_=>rfl
 |d::l,m,b,y,told,cl,out=>by
  simp only [List.cons_append,fr]
  exact kC l m _ _ _ _ _
end Go.Proofs.Ytegepioggeggaaa.Dev
