/- A part of the proof: Same1, Same2, Sh37, PlLaw1, PlLaw2. No condition. -/
import Derived.Test.YtegepioggeggaaaD14
set_option linter.unusedVariables false
set_option linter.unusedSimpArgs false
set_option maxHeartbeats 8000000
set_option maxRecDepth 100000
namespace Go.Proofs.Ytegepioggeggaaa.Dev
open Go.RowKit


theorem FR {P:Program} {st:aM} {o:Oper} {t yt:TypeId} {x y:Operand} {a b:Bool} (hu:P.underlying t=some .bool) (ho:o.op=.binOp .neq t x y yt) (hx:ev st x (.v (.c (.d (.v (.bool a)))))) (hy:ev st y (.v (.c (.d (.v (.bool b)))))):aJ P o st (.v (.c (.d (.v (.bool (!(a==b))))))) [] []:=
  aJ.val fun σ T ac w C=>by
    have h1:=br.inv (bG C hx)
    have h2:=br.inv (bG C hy)
    refine ⟨_,?_,br.v _ rfl⟩
    unfold execOp
    simp [ho,h1,h2,binOp,eqGuard,Op.equal,Op.maxDepth,run_equalIn_bool w 9999 t a b hu]
theorem Eo {P:Program} {st:aM} {o:Oper} {t yt:TypeId} {x y:Operand} {a:Bool} (hu:P.underlying t=some .bool) (ho:o.op=.binOp .neq t x y yt) (hx:ev st x (.v (.c (.d (.v (.bool a)))))) (hy:ev st y (.v (.c (.d (.v (.bool a)))))):aJ P o st (aB false) [] []:=by
  have h:=FR hu ho hx hy
  rw [show (!(a==a))=false by cases a<;>rfl] at h
  exact h
theorem GK (a b:Int) (w:World):(Op.equalIn 10000 36 (.agg #[.int .i64 a,.int .i64 b]) (.agg #[.int .i64 a,.int .i64 b])).run Try.prog w=.ok true w:=
  ny 9998 2 36 _ (.inr (.inr (.inr ⟨2,3,1,_,Try.underlying36,by kernel_rfl,rfl,fun j hj=>by
    rcases j with _|_|j
    ·exact ⟨.int .i64 a,nF Try.underlying3 rfl rfl,.inl ⟨_,_,_,Try.underlying3,rfl⟩⟩
    ·exact ⟨.int .i64 b,nF Try.underlying3 rfl rfl,.inl ⟨_,_,_,Try.underlying3,rfl⟩⟩
    ·omega⟩))) w


theorem CJ (a b c d e : Int) (w : World) : (Op.equalIn 10000 113 (.agg #[.int .i64 a, .int .i64 b, .int .i64 c, .int .i64 d, .int .i64 e]) (.agg #[.int .i64 a, .int .i64 b, .int .i64 c, .int .i64 d, .int .i64 e])).run Try.prog w = .ok true w :=
  ny 9997 3 113 _ (.inr (.inr (.inl ⟨_, _, Try.underlying113, by kernel_rfl, rfl, fun f hf => by
    simp only [List.mem_cons, List.not_mem_nil, or_false] at hf
    rcases hf with rfl | rfl
    · refine ⟨by decide, .agg #[.int .i64 a, .int .i64 b, .int .i64 c, .int .i64 d], vk Try.underlying80 rfl jE rfl, .inr (.inr (.inl ⟨_, _, Try.underlying80, by kernel_rfl, rfl, fun f hf => ?_⟩))⟩
      simp only [List.mem_cons, List.not_mem_nil, or_false] at hf
      rcases hf with rfl | rfl | rfl | rfl <;> exact ⟨by decide, _, nF Try.underlying3 rfl rfl, .inl ⟨_, _, _, Try.underlying3, rfl⟩⟩
    · exact ⟨by decide, _, nF Try.underlying3 rfl rfl, .inl ⟨_, _, _, Try.underlying3, rfl⟩⟩⟩))) w

theorem za (l:List de):Fn Try.prog 57 [(.c (eL l)),(.c (eL l))] (aB true) []:=by
 refine Fn.mk' 26 [(0,(aC (eL l))),(1,(aC (eL l)))] Try.func57 rfl rfl rfl rfl ?_
 intro W0 T0
 refine dq 0 rfl (fun hlen0=>?_)
 refine dq 1 rfl (fun hlen1=>?_)
 refine ae aa 1 rfl ?_
 refine ag ?_
 refine aH aa 1 rfl ?_
 refine az (bP rfl rfl rfl rfl rfl Try.underlying59) rfl ?_
 refine ad aa 1 rfl ?_
 refine az (bP rfl rfl rfl rfl rfl Try.underlying59) rfl ?_
 refine az (aK rfl rfl rfl (congrArg (fun b=>some (Value.bool b)) (decide_eq_false (fun h=>h rfl)))) rfl ?_
 refine af ?_
 refine aj rfl (fun hno=>by cases hno) (fun _=>?_)
 refine aQ ?_
 refine ag ?_
 refine aH aa 1 rfl ?_
 refine az (bP rfl rfl rfl rfl rfl Try.underlying59) rfl ?_
 refine ad aa 1 rfl ?_
 refine af ?_
 refine aR ?_
 refine ch (β:=Nat) (fun (q:Nat)=>⟨[(0,(aC (eL l))),(1,(aC (eL l))),(12,(aI (↑l.length:Int))),(13,(aI (↑q:Int)))],[],0⟩) (fun (q:Nat)=>q<=l.length) (fun (q:Nat)=>l.length - q) 0 ?_ ?_ ?_
 ·exact (by first|omega|simp)
 ·exact aF.bL id (by refine ⟨?_,?_,?_,?_,trivial⟩<;>first|rfl|(simp only [ba];done)|(congr 3;omega)|(congr 4;omega)|(simp only [bb];rfl)) (trivial) rfl
 rintro q hi0_0
 refine ae aa 1 rfl ?_
 refine ag ?_
 refine aj rfl (fun hc2=>?_) (fun hc2=>?_)
 ·
  have hc2':=of_decide_eq_true hc2
  refine aQ ?_
  refine ag ?_
  refine aR ?_
  refine ae aa 2 rfl ?_
  refine ag ?_
  obtain ⟨x1,hx1⟩:=cg (xs:=l) (i:=q) (by first|omega|(simp;done)|(simp;omega))
  refine aX [0,1,12,13,5] [] mixed rfl rfl ?_
  refine ay (kn:=[]) aa 2 rfl trivial ?_
  refine aP (n':=0) [16,17] [] rfl rfl (.inl ⟨(ah.plain rfl),aJ.cast (bX (i:=q) rfl rfl rfl Try.underlying59 hM (by first|omega|(simp;done)|(simp;omega)) (bj hx1)) rfl⟩) rfl ?_
  refine ay (kn:=[]) aa 3 rfl trivial ?_
  refine aP (n':=0) [20,21] [] rfl rfl (.inl ⟨(ah.plain rfl),aJ.cast (bX (i:=q) rfl rfl rfl Try.underlying59 hM (by first|omega|(simp;done)|(simp;omega)) (bj hx1)) rfl⟩) rfl ?_
  refine ay (kn:=[]) aa 1 rfl trivial ?_
  refine aP (n':=0) [19,23] [] rfl rfl (.inl ⟨(ah.plain rfl),aJ.cast (aJ.cast (pJ (Fb _ _ _ _) rfl rfl rfl rfl rfl rfl) (congrArg aB (show (!(fl [.int .i64 x1.time,.int .i64 x1.sum] [.int .i64 x1.time,.int .i64 x1.sum]))=false by simp [fl,jz]))) rfl⟩) rfl ?_
  refine bw [] rfl rfl rfl rfl (by kernel_rfl) ?_
  refine af ?_
  refine aj rfl (fun hno=>by cases hno) (fun _=>?_)
  refine cE ?_
  refine bf ?_
  refine then_ok ?_
  refine aw ?_
  refine az (aK rfl rfl rfl (aL (by first|omega|(simp;done)|(simp;omega)))) rfl ?_
  refine ad aa 1 rfl ?_
  refine af ?_
  refine ⟨q+1,by omega,by first|omega|(simp;done)|(simp;omega),aF.bL id (by refine ⟨?_,?_,?_,?_,trivial⟩<;>first|rfl|(simp only [ba];done)|(congr 3;omega)|(congr 4;omega)|(simp only [bb];rfl)) (trivial) rfl⟩
 have hc2':=of_decide_eq_false hc2
 refine bT ?_
 refine aN ?_
 refine aN ?_
 refine bA ?_
 refine then_ok ?_
 refine ae aa 1 rfl ?_
 refine aA ?_
 refine aq aa [] 0 rfl rfl rfl rfl rfl rfl ?_ ?_
 ·rfl
 ·rfl
theorem uC (l:List ar):Fn Try.prog 36 [(.c (eG l)),(.c (eG l))] (aB true) []:=by
 refine Fn.mk' 26 [(0,(aC (eG l))),(1,(aC (eG l)))] Try.func36 rfl rfl rfl rfl ?_
 intro W0 T0
 refine dq 0 rfl (fun hlen0=>?_)
 refine dq 1 rfl (fun hlen1=>?_)
 refine ae aa 1 rfl ?_
 refine ag ?_
 refine aH aa 1 rfl ?_
 refine az (bP rfl rfl rfl rfl rfl Try.underlying42) rfl ?_
 refine ad aa 1 rfl ?_
 refine az (bP rfl rfl rfl rfl rfl Try.underlying42) rfl ?_
 refine az (aK rfl rfl rfl (congrArg (fun b=>some (Value.bool b)) (decide_eq_false (fun h=>h rfl)))) rfl ?_
 refine af ?_
 refine aj rfl (fun hno=>by cases hno) (fun _=>?_)
 refine aQ ?_
 refine ag ?_
 refine aH aa 1 rfl ?_
 refine az (bP rfl rfl rfl rfl rfl Try.underlying42) rfl ?_
 refine ad aa 1 rfl ?_
 refine af ?_
 refine aR ?_
 refine ch (β:=Nat) (fun (q:Nat)=>⟨[(0,(aC (eG l))),(1,(aC (eG l))),(12,(aI (↑l.length:Int))),(13,(aI (↑q:Int)))],[],0⟩) (fun (q:Nat)=>q<=l.length) (fun (q:Nat)=>l.length - q) 0 ?_ ?_ ?_
 ·exact (by first|omega|simp)
 ·exact aF.bL id (by refine ⟨?_,?_,?_,?_,trivial⟩<;>first|rfl|(simp only [ba];done)|(congr 3;omega)|(congr 4;omega)|(simp only [bb];rfl)) (trivial) rfl
 rintro q hi0_0
 refine ae aa 1 rfl ?_
 refine ag ?_
 refine aj rfl (fun hc2=>?_) (fun hc2=>?_)
 ·
  have hc2':=of_decide_eq_true hc2
  refine aQ ?_
  refine ag ?_
  refine aR ?_
  refine ae aa 2 rfl ?_
  refine ag ?_
  obtain ⟨x1,hx1⟩:=cg (xs:=l) (i:=q) (by first|omega|(simp;done)|(simp;omega))
  refine aX [0,1,12,13,5] [] mixed rfl rfl ?_
  refine ay (kn:=[]) aa 2 rfl trivial ?_
  refine aP (n':=0) [16,17] [] rfl rfl (.inl ⟨(ah.plain rfl),aJ.cast (bX (i:=q) rfl rfl rfl Try.underlying42 dv (by first|omega|(simp;done)|(simp;omega)) (bj hx1)) rfl⟩) rfl ?_
  refine ay (kn:=[]) aa 3 rfl trivial ?_
  refine aP (n':=0) [20,21] [] rfl rfl (.inl ⟨(ah.plain rfl),aJ.cast (bX (i:=q) rfl rfl rfl Try.underlying42 dv (by first|omega|(simp;done)|(simp;omega)) (bj hx1)) rfl⟩) rfl ?_
  refine ay (kn:=[]) aa 1 rfl trivial ?_
  refine aP (n':=0) [19,23] [] rfl rfl (.inl ⟨(ah.plain rfl),aJ.cast (aJ.cast (pJ (Gk _ _ _ _ _ _ _ _) rfl rfl rfl rfl rfl rfl) (congrArg aB (show (!(fl [.int .i64 x1.aE,.int .i64 x1.bd,.int .i64 x1.kind,.int .i64 x1.sum] [.int .i64 x1.aE,.int .i64 x1.bd,.int .i64 x1.kind,.int .i64 x1.sum]))=false by simp [fl,jz]))) rfl⟩) rfl ?_
  refine bw [] rfl rfl rfl rfl (by kernel_rfl) ?_
  refine af ?_
  refine aj rfl (fun hno=>by cases hno) (fun _=>?_)
  refine cE ?_
  refine bf ?_
  refine then_ok ?_
  refine aw ?_
  refine az (aK rfl rfl rfl (aL (by first|omega|(simp;done)|(simp;omega)))) rfl ?_
  refine ad aa 1 rfl ?_
  refine af ?_
  refine ⟨q+1,by omega,by first|omega|(simp;done)|(simp;omega),aF.bL id (by refine ⟨?_,?_,?_,?_,trivial⟩<;>first|rfl|(simp only [ba];done)|(congr 3;omega)|(congr 4;omega)|(simp only [bb];rfl)) (trivial) rfl⟩
 have hc2':=of_decide_eq_false hc2
 refine bT ?_
 refine aN ?_
 refine aN ?_
 refine bA ?_
 refine then_ok ?_
 refine ae aa 1 rfl ?_
 refine aA ?_
 refine aq aa [] 0 rfl rfl rfl rfl rfl rfl ?_ ?_
 ·rfl
 ·rfl
theorem zc (l:List Entry):Fn Try.prog 47 [(.c (cZ l)),(.c (cZ l))] (aB true) []:=by
 refine Fn.mk' 26 [(0,(aC (cZ l))),(1,(aC (cZ l)))] Try.func47 rfl rfl rfl rfl ?_
 intro W0 T0
 refine dq 0 rfl (fun hlen0=>?_)
 refine dq 1 rfl (fun hlen1=>?_)
 refine ae aa 1 rfl ?_
 refine ag ?_
 refine aH aa 1 rfl ?_
 refine az (bP rfl rfl rfl rfl rfl Try.underlying44) rfl ?_
 refine ad aa 1 rfl ?_
 refine az (bP rfl rfl rfl rfl rfl Try.underlying44) rfl ?_
 refine az (aK rfl rfl rfl (congrArg (fun b=>some (Value.bool b)) (decide_eq_false (fun h=>h rfl)))) rfl ?_
 refine af ?_
 refine aj rfl (fun hno=>by cases hno) (fun _=>?_)
 refine aQ ?_
 refine ag ?_
 refine aH aa 1 rfl ?_
 refine az (bP rfl rfl rfl rfl rfl Try.underlying44) rfl ?_
 refine ad aa 1 rfl ?_
 refine af ?_
 refine aR ?_
 refine ch (β:=Nat) (fun (q:Nat)=>⟨[(0,(aC (cZ l))),(1,(aC (cZ l))),(12,(aI (↑l.length:Int))),(13,(aI (↑q:Int)))],[],0⟩) (fun (q:Nat)=>q<=l.length) (fun (q:Nat)=>l.length - q) 0 ?_ ?_ ?_
 ·exact (by first|omega|simp)
 ·exact aF.bL id (by refine ⟨?_,?_,?_,?_,trivial⟩<;>first|rfl|(simp only [ba];done)|(congr 3;omega)|(congr 4;omega)|(simp only [bb];rfl)) (trivial) rfl
 rintro q hi0_0
 refine ae aa 1 rfl ?_
 refine ag ?_
 refine aj rfl (fun hc2=>?_) (fun hc2=>?_)
 ·
  have hc2':=of_decide_eq_true hc2
  refine aQ ?_
  refine ag ?_
  refine aR ?_
  refine ae aa 2 rfl ?_
  refine ag ?_
  obtain ⟨x1,hx1⟩:=cg (xs:=l) (i:=q) (by first|omega|(simp;done)|(simp;omega))
  refine aX [0,1,12,13,5] [] mixed rfl rfl ?_
  refine ay (kn:=[]) aa 2 rfl trivial ?_
  refine aP (n':=0) [16,17] [] rfl rfl (.inl ⟨(ah.plain rfl),aJ.cast (bX (i:=q) rfl rfl rfl Try.underlying44 dZ (by first|omega|(simp;done)|(simp;omega)) (bj hx1)) rfl⟩) rfl ?_
  refine ay (kn:=[]) aa 3 rfl trivial ?_
  refine aP (n':=0) [20,21] [] rfl rfl (.inl ⟨(ah.plain rfl),aJ.cast (bX (i:=q) rfl rfl rfl Try.underlying44 dZ (by first|omega|(simp;done)|(simp;omega)) (bj hx1)) rfl⟩) rfl ?_
  refine ay (kn:=[]) aa 1 rfl trivial ?_
  refine aP (n':=0) [19,23] [] rfl rfl (.inl ⟨(ah.plain rfl),aJ.cast (aJ.cast (pJ (Fc _ _ _ _) rfl rfl rfl rfl rfl rfl) (congrArg aB (show (!(fl [.int .i64 x1.aW,.int .i64 x1.sum] [.int .i64 x1.aW,.int .i64 x1.sum]))=false by simp [fl,jz]))) rfl⟩) rfl ?_
  refine bw [] rfl rfl rfl rfl (by kernel_rfl) ?_
  refine af ?_
  refine aj rfl (fun hno=>by cases hno) (fun _=>?_)
  refine cE ?_
  refine bf ?_
  refine then_ok ?_
  refine aw ?_
  refine az (aK rfl rfl rfl (aL (by first|omega|(simp;done)|(simp;omega)))) rfl ?_
  refine ad aa 1 rfl ?_
  refine af ?_
  refine ⟨q+1,by omega,by first|omega|(simp;done)|(simp;omega),aF.bL id (by refine ⟨?_,?_,?_,?_,trivial⟩<;>first|rfl|(simp only [ba];done)|(congr 3;omega)|(congr 4;omega)|(simp only [bb];rfl)) (trivial) rfl⟩
 have hc2':=of_decide_eq_false hc2
 refine bT ?_
 refine aN ?_
 refine aN ?_
 refine bA ?_
 refine then_ok ?_
 refine ae aa 1 rfl ?_
 refine aA ?_
 refine aq aa [] 0 rfl rfl rfl rfl rfl rfl ?_ ?_
 ·rfl
 ·rfl
theorem zb (c:bD):Fn Try.prog 48 [(.g [(cI c.bE),(cI c.held),(cI c.bZ.cG),(cI c.bZ.count),(cI c.bZ.sum),(eL c.cW)]),(.g [(cI c.bE),(cI c.held),(cI c.bZ.cG),(cI c.bZ.count),(cI c.bZ.sum),(eL c.cW)])] (aB true) []:=by
 refine Fn.mk' 31 [(0,(aG [(cI c.bE),(cI c.held),(cI c.bZ.cG),(cI c.bZ.count),(cI c.bZ.sum),(eL c.cW)])),(1,(aG [(cI c.bE),(cI c.held),(cI c.bZ.cG),(cI c.bZ.count),(cI c.bZ.sum),(eL c.cW)]))] Try.func48 rfl rfl rfl rfl ?_
 intro W0 T0
 refine cF 0 5 rfl rfl (fun hlen0_5=>?_)
 refine cF 1 5 rfl rfl (fun hlen1_5=>?_)
 refine ae aa 3 rfl ?_
 refine cr 4 (true) ?_ ?_
 ·
  refine aw ?_
  refine ad aa 4 rfl ?_
  refine az (aK rfl rfl rfl (congrArg (fun b=>some (Value.bool b)) (decide_eq_true rfl))) rfl ?_
  refine ad aa 5 rfl ?_
  refine cD (ah.yes rfl rfl rfl) (aK rfl rfl rfl (congrArg (fun b=>some (Value.bool b)) (decide_eq_true rfl))) rfl rfl ?_
  refine ad aa 6 rfl ?_
  refine cD (ah.yes rfl rfl rfl) (aJ.cast (FT (Gn _ _ _ _ _ _) rfl rfl rfl rfl rfl rfl) (congrArg aB (show ((fl [.int .i64 c.bZ.cG,.int .i64 c.bZ.count,.int .i64 c.bZ.sum] [.int .i64 c.bZ.cG,.int .i64 c.bZ.count,.int .i64 c.bZ.sum]))=true by simp [fl,jz]))) rfl rfl ?_
  refine ad aa 6 rfl ?_
  refine pV 2 [1,0] (ah.yes rfl rfl rfl) (bU 2 (za c.cW) Hr rfl rfl ⟨⟨_,rfl,.c (.d _)⟩,⟨_,rfl,.c (.d _)⟩,trivial⟩ trivial trivial rfl rfl rfl rfl) rfl ?_
  refine ad aa 2 rfl ?_
  refine af ?_
  exact aF.bF 27 rfl rfl (by first|(simp [];done)|(simp_all;done)|(exfalso;simp_all;done)|(simp_all;omega)) rfl
 refine aA ?_
 refine aq aa [] 0 rfl rfl rfl rfl rfl rfl ?_ ?_
 ·rfl
 ·rfl
theorem px (s:bS):Fn Try.prog 49 [(.g [(cI s.bq),(ck s.kept)]),(.g [(cI s.bq),(ck s.kept)])] (aB true) []:=by
 refine Fn.mk' 38 [(0,(aG [(cI s.bq),(ck s.kept)])),(1,(aG [(cI s.bq),(ck s.kept)]))] Try.func49 rfl rfl rfl rfl ?_
 intro W0 T0
 refine cF 0 1 rfl rfl (fun hlen0_1=>?_)
 refine cF 1 1 rfl rfl (fun hlen1_1=>?_)
 refine ae aa 3 rfl ?_
 refine ag ?_
 refine cr 19 (false) ?_ ?_
 ·
  refine aw ?_
  refine ad aa 4 rfl ?_
  refine az (aK rfl rfl rfl (congrArg (fun b=>some (Value.bool b)) (decide_eq_false (fun h=>h rfl)))) rfl ?_
  refine ad aa 3 rfl ?_
  refine cD (ah.yes rfl rfl rfl) (bP rfl rfl rfl rfl rfl Try.underlying32) rfl rfl ?_
  refine ad aa 2 rfl ?_
  refine cD (ah.yes rfl rfl rfl) (bP rfl rfl rfl rfl rfl Try.underlying32) rfl rfl ?_
  refine cD (ah.yes rfl rfl rfl) (aK rfl rfl rfl (congrArg (fun b=>some (Value.bool b)) (decide_eq_false (fun h=>h rfl)))) rfl rfl ?_
  refine ad aa 1 rfl ?_
  refine af ?_
  exact aF.bF 14 rfl rfl (by first|(simp [];done)|(simp_all;done)|(exfalso;simp_all;done)|(simp_all;omega)) rfl
 refine aj rfl (fun hno=>by cases hno) (fun _=>?_)
 refine aQ ?_
 refine ag ?_
 refine aH aa 2 rfl ?_
 refine az (bP rfl rfl rfl rfl rfl Try.underlying32) rfl ?_
 refine ad aa 1 rfl ?_
 refine af ?_
 refine aR ?_
 refine ch (β:=Nat) (fun (q:Nat)=>⟨[(2,(aC (.p 0 0 0 0))),(3,(aC (.p 1 0 0 0))),(22,(aI (↑s.kept.length:Int))),(23,(aI (↑q:Int)))],[(1,(.box 34 [(cI s.bq),(ck s.kept)])),(0,(.box 34 [(cI s.bq),(ck s.kept)]))],2⟩) (fun (q:Nat)=>q<=s.kept.length) (fun (q:Nat)=>s.kept.length - q) 0 ?_ ?_ ?_
 ·exact (by first|omega|simp)
 ·exact aF.bL id (by refine ⟨?_,?_,?_,?_,trivial⟩<;>first|rfl|(simp only [ba];done)|(congr 3;omega)|(congr 4;omega)|(simp only [bb];rfl)) (by refine ⟨?_,?_,trivial⟩<;>first|rfl|(simp only [ba];done)|(congr 3;omega)|(congr 4;omega)|(simp only [bb];rfl)) rfl
 rintro q hi0_0
 refine ae aa 1 rfl ?_
 refine ag ?_
 refine aj rfl (fun hc2=>?_) (fun hc2=>?_)
 ·
  have hc2':=of_decide_eq_true hc2
  refine aQ ?_
  refine ag ?_
  refine aR ?_
  refine ae aa 2 rfl ?_
  refine ag ?_
  obtain ⟨x1,hx1⟩:=cg (xs:=s.kept) (i:=q) (by first|omega|(simp;done)|(simp;omega))
  refine aX [2,3,22,23,5] [1,0] mixed rfl rfl ?_
  refine ay (kn:=[]) aa 3 rfl trivial ?_
  refine aP (n':=2) [27,28] [] rfl rfl (.inl ⟨(ah.plain rfl),aJ.cast (bX (i:=q) rfl rfl rfl Try.underlying32 jE (by first|omega|(simp;done)|(simp;omega)) (bj hx1)) rfl⟩) rfl ?_
  refine ay (kn:=[]) aa 4 rfl trivial ?_
  refine aP (n':=2) [32,33] [] rfl rfl (.inl ⟨(ah.plain rfl),aJ.cast (bX (i:=q) rfl rfl rfl Try.underlying32 jE (by first|omega|(simp;done)|(simp;omega)) (bj hx1)) rfl⟩) rfl ?_
  refine ay (kn:=[]) aa 1 rfl trivial ?_
  refine aP (n':=2) [30,35] [] rfl rfl (.inl ⟨(ah.plain rfl),aJ.cast (aJ.cast (pJ (Gl _ _ _ _ _ _ _ _) rfl rfl rfl rfl rfl rfl) (congrArg aB (show (!(fl [.int .i64 x1.number,.int .i64 x1.kind,.int .i64 x1.bd,.int .i64 x1.sum] [.int .i64 x1.number,.int .i64 x1.kind,.int .i64 x1.bd,.int .i64 x1.sum]))=false by simp [fl,jz]))) rfl⟩) rfl ?_
  refine bw [1,0] rfl rfl rfl rfl (by kernel_rfl) ?_
  refine af ?_
  refine aj rfl (fun hno=>by cases hno) (fun _=>?_)
  refine cE ?_
  refine bf ?_
  refine then_ok ?_
  refine aw ?_
  refine az (aK rfl rfl rfl (aL (by first|omega|(simp;done)|(simp;omega)))) rfl ?_
  refine ad aa 1 rfl ?_
  refine af ?_
  refine ⟨q+1,by omega,by first|omega|(simp;done)|(simp;omega),aF.bL id (by refine ⟨?_,?_,?_,?_,trivial⟩<;>first|rfl|(simp only [ba];done)|(congr 3;omega)|(congr 4;omega)|(simp only [bb];rfl)) (by refine ⟨?_,?_,trivial⟩<;>first|rfl|(simp only [ba];done)|(congr 3;omega)|(congr 4;omega)|(simp only [bb];rfl)) rfl⟩
 have hc2':=of_decide_eq_false hc2
 refine bT ?_
 refine aN ?_
 refine aN ?_
 refine bA ?_
 refine then_ok ?_
 refine ae aa 1 rfl ?_
 refine aA ?_
 refine aq aa [] 0 rfl rfl rfl rfl rfl rfl ?_ ?_
 ·rfl
 ·rfl
theorem xd (s:cH):Fn Try.prog 46 [(.g [(cI s.cap),(df s.used),(eb s.aU)]),(.g [(cI s.cap),(df s.used),(eb s.aU)])] (aB true) []:=by
 refine Fn.mk' 66 [(0,(aG [(cI s.cap),(df s.used),(eb s.aU)])),(1,(aG [(cI s.cap),(df s.used),(eb s.aU)]))] Try.func46 rfl rfl rfl rfl ?_
 intro W0 T0
 refine cF 0 1 rfl rfl (fun hlen0_1=>?_)
 refine cF 0 2 rfl rfl (fun hlen0_2=>?_)
 refine cF 1 1 rfl rfl (fun hlen1_1=>?_)
 refine cF 1 2 rfl rfl (fun hlen1_2=>?_)
 refine ae aa 3 rfl ?_
 refine ag ?_
 refine cr 29 (false) ?_ ?_
 ·
  refine aw ?_
  refine ad aa 4 rfl ?_
  refine az (aK rfl rfl rfl (congrArg (fun b=>some (Value.bool b)) (decide_eq_false (fun h=>h rfl)))) rfl ?_
  refine ad aa 3 rfl ?_
  refine cD (ah.yes rfl rfl rfl) (bP rfl rfl rfl rfl rfl Try.underlying30) rfl rfl ?_
  refine ad aa 2 rfl ?_
  refine cD (ah.yes rfl rfl rfl) (bP rfl rfl rfl rfl rfl Try.underlying30) rfl rfl ?_
  refine cD (ah.yes rfl rfl rfl) (aK rfl rfl rfl (congrArg (fun b=>some (Value.bool b)) (decide_eq_false (fun h=>h rfl)))) rfl rfl ?_
  refine ad aa 4 rfl ?_
  refine cD (ah.yes rfl rfl rfl) (bP rfl rfl rfl rfl rfl Try.underlying39) rfl rfl ?_
  refine ad aa 2 rfl ?_
  refine cD (ah.yes rfl rfl rfl) (bP rfl rfl rfl rfl rfl Try.underlying39) rfl rfl ?_
  refine cD (ah.yes rfl rfl rfl) (aK rfl rfl rfl (congrArg (fun b=>some (Value.bool b)) (decide_eq_false (fun h=>h rfl)))) rfl rfl ?_
  refine ad aa 1 rfl ?_
  refine af ?_
  exact aF.bF 23 rfl rfl (by first|(simp [];done)|(simp_all;done)|(exfalso;simp_all;done)|(simp_all;omega)) rfl
 refine aj rfl (fun hno=>by cases hno) (fun _=>?_)
 refine aQ ?_
 refine ag ?_
 refine aH aa 2 rfl ?_
 refine az (bP rfl rfl rfl rfl rfl Try.underlying30) rfl ?_
 refine ad aa 1 rfl ?_
 refine af ?_
 refine aR ?_
 refine ch (β:=Nat) (fun (q:Nat)=>⟨[(2,(aC (.p 0 0 0 0))),(3,(aC (.p 1 0 0 0))),(32,(aI (↑s.used.length:Int))),(33,(aI (↑q:Int)))],[(1,(.box 41 [(cI s.cap),(df s.used),(eb s.aU)])),(0,(.box 41 [(cI s.cap),(df s.used),(eb s.aU)]))],2⟩) (fun (q:Nat)=>q<=s.used.length) (fun (q:Nat)=>s.used.length - q) 0 ?_ ?_ ?_
 ·exact (by first|omega|simp)
 ·exact aF.bL id (by refine ⟨?_,?_,?_,?_,trivial⟩<;>first|rfl|(simp only [ba];done)|(congr 3;omega)|(congr 4;omega)|(simp only [bb];rfl)) (by refine ⟨?_,?_,trivial⟩<;>first|rfl|(simp only [ba];done)|(congr 3;omega)|(congr 4;omega)|(simp only [bb];rfl)) rfl
 rintro q hi0_0
 refine ae aa 1 rfl ?_
 refine ag ?_
 refine aj rfl (fun hc2=>?_) (fun hc2=>?_)
 ·
  have hc2':=of_decide_eq_true hc2
  refine aQ ?_
  refine ag ?_
  refine aR ?_
  refine ae aa 2 rfl ?_
  refine ag ?_
  obtain ⟨x1,hx1⟩:=cg (xs:=s.used) (i:=q) (by first|omega|(simp;done)|(simp;omega))
  refine aX [2,3,32,33,5] [1,0] mixed rfl rfl ?_
  refine ay (kn:=[]) aa 3 rfl trivial ?_
  refine aP (n':=2) [37,38] [] rfl rfl (.inl ⟨(ah.plain rfl),aJ.cast (bX (i:=q) rfl rfl rfl Try.underlying30 fC (by first|omega|(simp;done)|(simp;omega)) (bj hx1)) rfl⟩) rfl ?_
  refine ay (kn:=[]) aa 4 rfl trivial ?_
  refine aP (n':=2) [42,43] [] rfl rfl (.inl ⟨(ah.plain rfl),aJ.cast (bX (i:=q) rfl rfl rfl Try.underlying30 fC (by first|omega|(simp;done)|(simp;omega)) (bj hx1)) rfl⟩) rfl ?_
  refine ay (kn:=[(46,false)]) aa 2 rfl ⟨(decide_eq_false (fun h=>h rfl)),trivial⟩ ?_
  refine bw [1,0] rfl rfl rfl rfl (by kernel_rfl) ?_
  refine af ?_
  refine aj rfl (fun hno=>by cases hno) (fun _=>?_)
  refine cE ?_
  refine bf ?_
  refine then_ok ?_
  refine aw ?_
  refine az (aK rfl rfl rfl (aL (by first|omega|(simp;done)|(simp;omega)))) rfl ?_
  refine ad aa 1 rfl ?_
  refine af ?_
  refine ⟨q+1,by omega,by first|omega|(simp;done)|(simp;omega),aF.bL id (by refine ⟨?_,?_,?_,?_,trivial⟩<;>first|rfl|(simp only [ba];done)|(congr 3;omega)|(congr 4;omega)|(simp only [bb];rfl)) (by refine ⟨?_,?_,trivial⟩<;>first|rfl|(simp only [ba];done)|(congr 3;omega)|(congr 4;omega)|(simp only [bb];rfl)) rfl⟩
 have hc2':=of_decide_eq_false hc2
 refine bT ?_
 refine aN ?_
 refine aN ?_
 refine bA ?_
 refine then_ok ?_
 refine ag ?_
 refine aH aa 2 rfl ?_
 refine az (bP rfl rfl rfl rfl rfl Try.underlying39) rfl ?_
 refine ad aa 1 rfl ?_
 refine af ?_
 refine aR ?_
 refine ch (β:=Nat) (fun (q1:Nat)=>⟨[(2,(aC (.p 0 0 0 0))),(3,(aC (.p 1 0 0 0))),(32,(aI (↑s.used.length:Int))),(33,(aI (↑q:Int))),(50,(aI (↑s.aU.length:Int))),(51,(aI (↑q1:Int)))],[(1,(.box 41 [(cI s.cap),(df s.used),(eb s.aU)])),(0,(.box 41 [(cI s.cap),(df s.used),(eb s.aU)]))],2⟩) (fun (q1:Nat)=>q1<=s.aU.length) (fun (q1:Nat)=>s.aU.length - q1) 0 ?_ ?_ ?_
 ·exact (by first|omega|simp)
 ·exact aF.bL id (by refine ⟨?_,?_,?_,?_,?_,?_,trivial⟩<;>first|rfl|(simp only [ba];done)|(congr 3;omega)|(congr 4;omega)|(simp only [bb];rfl)) (by refine ⟨?_,?_,trivial⟩<;>first|rfl|(simp only [ba];done)|(congr 3;omega)|(congr 4;omega)|(simp only [bb];rfl)) rfl
 rintro q1 hi1_0
 refine ae aa 1 rfl ?_
 refine ag ?_
 refine aj rfl (fun hc4=>?_) (fun hc4=>?_)
 ·
  have hc4':=of_decide_eq_true hc4
  refine aQ ?_
  refine ag ?_
  refine aR ?_
  refine ae aa 2 rfl ?_
  refine ag ?_
  obtain ⟨x1,hx1⟩:=cg (xs:=s.aU) (i:=q1) (by first|omega|(simp;done)|(simp;omega))
  refine aX [2,3,32,33,50,51,6] [1,0] mixed rfl rfl ?_
  refine ay (kn:=[]) aa 3 rfl trivial ?_
  refine aP (n':=2) [55,56] [] rfl rfl (.inl ⟨(ah.plain rfl),aJ.cast (bX (i:=q1) rfl rfl rfl Try.underlying39 uF (by first|omega|(simp;done)|(simp;omega)) (bj hx1)) rfl⟩) rfl ?_
  refine ay (kn:=[]) aa 4 rfl trivial ?_
  refine aP (n':=2) [60,61] [] rfl rfl (.inl ⟨(ah.plain rfl),aJ.cast (bX (i:=q1) rfl rfl rfl Try.underlying39 uF (by first|omega|(simp;done)|(simp;omega)) (bj hx1)) rfl⟩) rfl ?_
  refine ay (kn:=[]) aa 1 rfl trivial ?_
  refine aP (n':=2) [58,63] [] rfl rfl (.inl ⟨(ah.plain rfl),aJ.cast (aJ.cast (pJ (Fe _ _ _ _ _ _ _ _) rfl rfl rfl rfl rfl rfl) (congrArg aB (show (!(fl [.int .i64 x1.aO,.int .i64 x1.aE,.int .i64 x1.sum,.int .i64 x1.time] [.int .i64 x1.aO,.int .i64 x1.aE,.int .i64 x1.sum,.int .i64 x1.time]))=false by simp [fl,jz]))) rfl⟩) rfl ?_
  refine bw [1,0] rfl rfl rfl rfl (by kernel_rfl) ?_
  refine af ?_
  refine aj rfl (fun hno=>by cases hno) (fun _=>?_)
  refine cE ?_
  refine bf ?_
  refine then_ok ?_
  refine aw ?_
  refine az (aK rfl rfl rfl (aL (by first|omega|(simp;done)|(simp;omega)))) rfl ?_
  refine ad aa 1 rfl ?_
  refine af ?_
  refine ⟨q1+1,by omega,by first|omega|(simp;done)|(simp;omega),aF.bL id (by refine ⟨?_,?_,?_,?_,?_,?_,trivial⟩<;>first|rfl|(simp only [ba];done)|(congr 3;omega)|(congr 4;omega)|(simp only [bb];rfl)) (by refine ⟨?_,?_,trivial⟩<;>first|rfl|(simp only [ba];done)|(congr 3;omega)|(congr 4;omega)|(simp only [bb];rfl)) rfl⟩
 have hc4':=of_decide_eq_false hc4
 refine bT ?_
 refine aN ?_
 refine aN ?_
 refine bA ?_
 refine then_ok ?_
 refine ae aa 1 rfl ?_
 refine aA ?_
 refine aq aa [] 0 rfl rfl rfl rfl rfl rfl ?_ ?_
 ·rfl
 ·rfl

theorem Fo (b:Bk) (y:List (List Int)):Fn Try.prog 32 [(.g [(cI b.time),(cB b.down),(gj b.al),(df b.due),(gK b.au),(cI b.s0.bq),(ck b.s0.kept),(cI b.s1.bq),(ck b.s1.kept),(cI b.n0),(cI b.n1),(cV b.w0),(cV b.w1),(cI b.aY.cap),(df b.aY.used),(eb b.aY.aU),(eG b.aS),(hP y),(cZ b.book)]),(.g [(cI b.time),(cB b.down),(gj b.al),(df b.due),(gK b.au),(cI b.s0.bq),(ck b.s0.kept),(cI b.s1.bq),(ck b.s1.kept),(cI b.n0),(cI b.n1),(cV b.w0),(cV b.w1),(cI b.aY.cap),(df b.aY.used),(eb b.aY.aU),(eG b.aS),(hP y),(cZ b.book)])] (aB true) []:=by
 refine Fn.mk' 216 [(0,(aG [(cI b.time),(cB b.down),(gj b.al),(df b.due),(gK b.au),(cI b.s0.bq),(ck b.s0.kept),(cI b.s1.bq),(ck b.s1.kept),(cI b.n0),(cI b.n1),(cV b.w0),(cV b.w1),(cI b.aY.cap),(df b.aY.used),(eb b.aY.aU),(eG b.aS),(hP y),(cZ b.book)])),(1,(aG [(cI b.time),(cB b.down),(gj b.al),(df b.due),(gK b.au),(cI b.s0.bq),(ck b.s0.kept),(cI b.s1.bq),(ck b.s1.kept),(cI b.n0),(cI b.n1),(cV b.w0),(cV b.w1),(cI b.aY.cap),(df b.aY.used),(eb b.aY.aU),(eG b.aS),(hP y),(cZ b.book)]))] Try.func32 rfl rfl rfl rfl ?_
 intro W0 T0
 refine cF 0 2 rfl rfl (fun hlen0_2=>?_)
 refine cF 0 3 rfl rfl (fun hlen0_3=>?_)
 refine cF 0 4 rfl rfl (fun hlen0_4=>?_)
 refine cF 0 6 rfl rfl (fun hlen0_6=>?_)
 refine cF 0 8 rfl rfl (fun hlen0_8=>?_)
 refine cF 0 11 rfl rfl (fun hlen0_11=>?_)
 refine cF 0 12 rfl rfl (fun hlen0_12=>?_)
 refine cF 0 14 rfl rfl (fun hlen0_14=>?_)
 refine cF 0 15 rfl rfl (fun hlen0_15=>?_)
 refine cF 0 16 rfl rfl (fun hlen0_16=>?_)
 refine cF 0 17 rfl rfl (fun hlen0_17=>?_)
 refine cF 0 18 rfl rfl (fun hlen0_18=>?_)
 refine cF 1 2 rfl rfl (fun hlen1_2=>?_)
 refine cF 1 3 rfl rfl (fun hlen1_3=>?_)
 refine cF 1 4 rfl rfl (fun hlen1_4=>?_)
 refine cF 1 6 rfl rfl (fun hlen1_6=>?_)
 refine cF 1 8 rfl rfl (fun hlen1_8=>?_)
 refine cF 1 11 rfl rfl (fun hlen1_11=>?_)
 refine cF 1 12 rfl rfl (fun hlen1_12=>?_)
 refine cF 1 14 rfl rfl (fun hlen1_14=>?_)
 refine cF 1 15 rfl rfl (fun hlen1_15=>?_)
 refine cF 1 16 rfl rfl (fun hlen1_16=>?_)
 refine cF 1 17 rfl rfl (fun hlen1_17=>?_)
 refine cF 1 18 rfl rfl (fun hlen1_18=>?_)
 refine ae aa 3 rfl ?_
 refine ag ?_
 refine cr 89 (false) ?_ ?_
 ·
  refine Bi rfl ?_
  refine ad aa 4 rfl ?_
  refine az (aK rfl rfl rfl (congrArg (fun b=>some (Value.bool b)) (decide_eq_false (fun h=>h rfl)))) rfl ?_
  refine ad aa 5 rfl ?_
  refine cD (ah.yes rfl rfl rfl) (Eo Try.underlying4 rfl rfl rfl) rfl rfl ?_
  refine ad aa 3 rfl ?_
  refine cD (ah.yes rfl rfl rfl) (nP rfl rfl rfl Try.underlying36 rfl DO rfl rfl) rfl rfl ?_
  refine ad aa 1 rfl ?_
  refine cD (ah.yes rfl rfl rfl) (nP rfl rfl rfl Try.underlying36 rfl DO rfl rfl) rfl rfl ?_
  refine cD (ah.yes rfl rfl rfl) (vL (xs:=[.int .i64 b.n0,.int .i64 b.n1]) (by kernel_rfl) (GK _ _) rfl rfl rfl rfl) rfl rfl ?_
  refine ad aa 4 rfl ?_
  refine cD (ah.yes rfl rfl rfl) (bP rfl rfl rfl rfl rfl Try.underlying29) rfl rfl ?_
  refine ad aa 2 rfl ?_
  refine cD (ah.yes rfl rfl rfl) (bP rfl rfl rfl rfl rfl Try.underlying29) rfl rfl ?_
  refine cD (ah.yes rfl rfl rfl) (aK rfl rfl rfl (congrArg (fun b=>some (Value.bool b)) (decide_eq_false (fun h=>h rfl)))) rfl rfl ?_
  refine ad aa 4 rfl ?_
  refine cD (ah.yes rfl rfl rfl) (bP rfl rfl rfl rfl rfl Try.underlying30) rfl rfl ?_
  refine ad aa 2 rfl ?_
  refine cD (ah.yes rfl rfl rfl) (bP rfl rfl rfl rfl rfl Try.underlying30) rfl rfl ?_
  refine cD (ah.yes rfl rfl rfl) (aK rfl rfl rfl (congrArg (fun b=>some (Value.bool b)) (decide_eq_false (fun h=>h rfl)))) rfl rfl ?_
  refine ad aa 4 rfl ?_
  refine cD (ah.yes rfl rfl rfl) (bP rfl rfl rfl rfl rfl Try.underlying31) rfl rfl ?_
  refine ad aa 2 rfl ?_
  refine cD (ah.yes rfl rfl rfl) (bP rfl rfl rfl rfl rfl Try.underlying31) rfl rfl ?_
  refine cD (ah.yes rfl rfl rfl) (aK rfl rfl rfl (congrArg (fun b=>some (Value.bool b)) (decide_eq_false (fun h=>h rfl)))) rfl rfl ?_
  refine ad aa 4 rfl ?_
  refine cD (ah.yes rfl rfl rfl) (bP rfl rfl rfl rfl rfl Try.underlying43) rfl rfl ?_
  refine ad aa 2 rfl ?_
  refine cD (ah.yes rfl rfl rfl) (bP rfl rfl rfl rfl rfl Try.underlying43) rfl rfl ?_
  refine cD (ah.yes rfl rfl rfl) (aK rfl rfl rfl (congrArg (fun b=>some (Value.bool b)) (decide_eq_false (fun h=>h rfl)))) rfl rfl ?_
  refine ad aa 6 rfl ?_
  refine pV 2 [1,0] (ah.yes rfl rfl rfl) (bU 2 (xd b.aY) Hv rfl rfl ⟨⟨_,rfl,.g ⟨.d _,.d _,.d _,trivial⟩⟩,⟨_,rfl,.g ⟨.d _,.d _,.d _,trivial⟩⟩,trivial⟩ trivial trivial rfl rfl rfl rfl) rfl ?_
  refine ad aa 7 rfl ?_
  refine pV 2 [1,0] (ah.yes rfl rfl rfl) (bU 2 (uC b.aS) HB rfl rfl ⟨⟨_,rfl,.c (.d _)⟩,⟨_,rfl,.c (.d _)⟩,trivial⟩ trivial trivial rfl rfl rfl rfl) rfl ?_
  refine ad aa 7 rfl ?_
  refine pV 2 [1,0] (ah.yes rfl rfl rfl) (bU 2 (zc b.book) Hu rfl rfl ⟨⟨_,rfl,.c (.d _)⟩,⟨_,rfl,.c (.d _)⟩,trivial⟩ trivial trivial rfl rfl rfl rfl) rfl ?_
  refine ad aa 2 rfl ?_
  refine af ?_
  exact aF.bF 79 rfl rfl (by first|(simp [];done)|(simp_all;done)|(exfalso;simp_all;done)|(simp_all;omega)) rfl
 refine aj rfl (fun hno=>by cases hno) (fun _=>?_)
 refine aQ ?_
 refine ag ?_
 refine aH aa 2 rfl ?_
 refine az (bP rfl rfl rfl rfl rfl Try.underlying29) rfl ?_
 refine ad aa 1 rfl ?_
 refine af ?_
 refine aR ?_
 refine ch (β:=Nat) (fun (q:Nat)=>⟨[(2,(aC (.p 0 0 0 0))),(3,(aC (.p 1 0 0 0))),(92,(aI (↑b.al.length:Int))),(93,(aI (↑q:Int)))],[(1,(.box 46 [(cI b.time),(cB b.down),(gj b.al),(df b.due),(gK b.au),(cI b.s0.bq),(ck b.s0.kept),(cI b.s1.bq),(ck b.s1.kept),(cI b.n0),(cI b.n1),(cV b.w0),(cV b.w1),(cI b.aY.cap),(df b.aY.used),(eb b.aY.aU),(eG b.aS),(hP y),(cZ b.book)])),(0,(.box 46 [(cI b.time),(cB b.down),(gj b.al),(df b.due),(gK b.au),(cI b.s0.bq),(ck b.s0.kept),(cI b.s1.bq),(ck b.s1.kept),(cI b.n0),(cI b.n1),(cV b.w0),(cV b.w1),(cI b.aY.cap),(df b.aY.used),(eb b.aY.aU),(eG b.aS),(hP y),(cZ b.book)]))],2⟩) (fun (q:Nat)=>q<=b.al.length) (fun (q:Nat)=>b.al.length - q) 0 ?_ ?_ ?_
 ·exact (by first|omega|simp)
 ·exact aF.bL id (by refine ⟨?_,?_,?_,?_,trivial⟩<;>first|rfl|(simp only [ba];done)|(congr 3;omega)|(congr 4;omega)|(simp only [bb];rfl)) (by refine ⟨?_,?_,trivial⟩<;>first|rfl|(simp only [ba];done)|(congr 3;omega)|(congr 4;omega)|(simp only [bb];rfl)) rfl
 rintro q hi0_0
 refine ae aa 1 rfl ?_
 refine ag ?_
 refine aj rfl (fun hc2=>?_) (fun hc2=>?_)
 ·
  have hc2':=of_decide_eq_true hc2
  refine aQ ?_
  refine ag ?_
  refine aR ?_
  refine ae aa 2 rfl ?_
  refine ag ?_
  obtain ⟨x1,hx1⟩:=cg (xs:=b.al) (i:=q) (by first|omega|(simp;done)|(simp;omega))
  refine aX [2,3,92,93,5] [1,0] mixed rfl rfl ?_
  refine ay (kn:=[]) aa 3 rfl trivial ?_
  refine aP (n':=2) [97,98] [] rfl rfl (.inl ⟨(ah.plain rfl),aJ.cast (bX (i:=q) rfl rfl rfl Try.underlying29 iu (by first|omega|(simp;done)|(simp;omega)) (bj hx1)) rfl⟩) rfl ?_
  refine ay (kn:=[]) aa 4 rfl trivial ?_
  refine aP (n':=2) [102,103] [] rfl rfl (.inl ⟨(ah.plain rfl),aJ.cast (bX (i:=q) rfl rfl rfl Try.underlying29 iu (by first|omega|(simp;done)|(simp;omega)) (bj hx1)) rfl⟩) rfl ?_
  refine ay (kn:=[]) aa 1 rfl trivial ?_
  refine aP (n':=2) [100,105] [] rfl rfl (.inl ⟨(ah.plain rfl),aJ.cast (bU 2 (zb x1) Ht rfl rfl ⟨⟨_,rfl,.g ⟨.d _,.d _,.d _,.d _,.d _,.d _,trivial⟩⟩,⟨_,rfl,.g ⟨.d _,.d _,.d _,.d _,.d _,.d _,trivial⟩⟩,trivial⟩ trivial trivial rfl rfl rfl rfl) rfl⟩) rfl ?_
  refine ay (kn:=[]) aa 1 rfl trivial ?_
  refine bw [1,0] rfl rfl rfl rfl (by kernel_rfl) ?_
  refine af ?_
  refine aj rfl (fun hno=>by cases hno) (fun _=>?_)
  refine cE ?_
  refine bf ?_
  refine then_ok ?_
  refine aw ?_
  refine az (aK rfl rfl rfl (aL (by first|omega|(simp;done)|(simp;omega)))) rfl ?_
  refine ad aa 1 rfl ?_
  refine af ?_
  refine ⟨q+1,by omega,by first|omega|(simp;done)|(simp;omega),aF.bL id (by refine ⟨?_,?_,?_,?_,trivial⟩<;>first|rfl|(simp only [ba];done)|(congr 3;omega)|(congr 4;omega)|(simp only [bb];rfl)) (by refine ⟨?_,?_,trivial⟩<;>first|rfl|(simp only [ba];done)|(congr 3;omega)|(congr 4;omega)|(simp only [bb];rfl)) rfl⟩
 have hc2':=of_decide_eq_false hc2
 refine bT ?_
 refine aN ?_
 refine aN ?_
 refine bA ?_
 refine then_ok ?_
 refine ag ?_
 refine aH aa 2 rfl ?_
 refine az (bP rfl rfl rfl rfl rfl Try.underlying30) rfl ?_
 refine ad aa 1 rfl ?_
 refine af ?_
 refine aR ?_
 refine ch (β:=Nat) (fun (q1:Nat)=>⟨[(2,(aC (.p 0 0 0 0))),(3,(aC (.p 1 0 0 0))),(92,(aI (↑b.al.length:Int))),(93,(aI (↑q:Int))),(111,(aI (↑b.due.length:Int))),(112,(aI (↑q1:Int)))],[(1,(.box 46 [(cI b.time),(cB b.down),(gj b.al),(df b.due),(gK b.au),(cI b.s0.bq),(ck b.s0.kept),(cI b.s1.bq),(ck b.s1.kept),(cI b.n0),(cI b.n1),(cV b.w0),(cV b.w1),(cI b.aY.cap),(df b.aY.used),(eb b.aY.aU),(eG b.aS),(hP y),(cZ b.book)])),(0,(.box 46 [(cI b.time),(cB b.down),(gj b.al),(df b.due),(gK b.au),(cI b.s0.bq),(ck b.s0.kept),(cI b.s1.bq),(ck b.s1.kept),(cI b.n0),(cI b.n1),(cV b.w0),(cV b.w1),(cI b.aY.cap),(df b.aY.used),(eb b.aY.aU),(eG b.aS),(hP y),(cZ b.book)]))],2⟩) (fun (q1:Nat)=>q1<=b.due.length) (fun (q1:Nat)=>b.due.length - q1) 0 ?_ ?_ ?_
 ·exact (by first|omega|simp)
 ·exact aF.bL id (by refine ⟨?_,?_,?_,?_,?_,?_,trivial⟩<;>first|rfl|(simp only [ba];done)|(congr 3;omega)|(congr 4;omega)|(simp only [bb];rfl)) (by refine ⟨?_,?_,trivial⟩<;>first|rfl|(simp only [ba];done)|(congr 3;omega)|(congr 4;omega)|(simp only [bb];rfl)) rfl
 rintro q1 hi1_0
 refine ae aa 1 rfl ?_
 refine ag ?_
 refine aj rfl (fun hc4=>?_) (fun hc4=>?_)
 ·
  have hc4':=of_decide_eq_true hc4
  refine aQ ?_
  refine ag ?_
  refine aR ?_
  refine ae aa 2 rfl ?_
  refine ag ?_
  obtain ⟨x1,hx1⟩:=cg (xs:=b.due) (i:=q1) (by first|omega|(simp;done)|(simp;omega))
  refine aX [2,3,92,93,111,112,6] [1,0] mixed rfl rfl ?_
  refine ay (kn:=[]) aa 3 rfl trivial ?_
  refine aP (n':=2) [116,117] [] rfl rfl (.inl ⟨(ah.plain rfl),aJ.cast (bX (i:=q1) rfl rfl rfl Try.underlying30 fC (by first|omega|(simp;done)|(simp;omega)) (bj hx1)) rfl⟩) rfl ?_
  refine ay (kn:=[]) aa 4 rfl trivial ?_
  refine aP (n':=2) [121,122] [] rfl rfl (.inl ⟨(ah.plain rfl),aJ.cast (bX (i:=q1) rfl rfl rfl Try.underlying30 fC (by first|omega|(simp;done)|(simp;omega)) (bj hx1)) rfl⟩) rfl ?_
  refine ay (kn:=[(125,false)]) aa 2 rfl ⟨(decide_eq_false (fun h=>h rfl)),trivial⟩ ?_
  refine bw [1,0] rfl rfl rfl rfl (by kernel_rfl) ?_
  refine af ?_
  refine aj rfl (fun hno=>by cases hno) (fun _=>?_)
  refine cE ?_
  refine bf ?_
  refine then_ok ?_
  refine aw ?_
  refine az (aK rfl rfl rfl (aL (by first|omega|(simp;done)|(simp;omega)))) rfl ?_
  refine ad aa 1 rfl ?_
  refine af ?_
  refine ⟨q1+1,by omega,by first|omega|(simp;done)|(simp;omega),aF.bL id (by refine ⟨?_,?_,?_,?_,?_,?_,trivial⟩<;>first|rfl|(simp only [ba];done)|(congr 3;omega)|(congr 4;omega)|(simp only [bb];rfl)) (by refine ⟨?_,?_,trivial⟩<;>first|rfl|(simp only [ba];done)|(congr 3;omega)|(congr 4;omega)|(simp only [bb];rfl)) rfl⟩
 have hc4':=of_decide_eq_false hc4
 refine bT ?_
 refine aN ?_
 refine aN ?_
 refine bA ?_
 refine then_ok ?_
 refine ag ?_
 refine aH aa 2 rfl ?_
 refine az (bP rfl rfl rfl rfl rfl Try.underlying31) rfl ?_
 refine ad aa 1 rfl ?_
 refine af ?_
 refine aR ?_
 refine ch (β:=Nat) (fun (q2:Nat)=>⟨[(2,(aC (.p 0 0 0 0))),(3,(aC (.p 1 0 0 0))),(92,(aI (↑b.al.length:Int))),(93,(aI (↑q:Int))),(111,(aI (↑b.due.length:Int))),(112,(aI (↑q1:Int))),(129,(aI (↑b.au.length:Int))),(130,(aI (↑q2:Int)))],[(1,(.box 46 [(cI b.time),(cB b.down),(gj b.al),(df b.due),(gK b.au),(cI b.s0.bq),(ck b.s0.kept),(cI b.s1.bq),(ck b.s1.kept),(cI b.n0),(cI b.n1),(cV b.w0),(cV b.w1),(cI b.aY.cap),(df b.aY.used),(eb b.aY.aU),(eG b.aS),(hP y),(cZ b.book)])),(0,(.box 46 [(cI b.time),(cB b.down),(gj b.al),(df b.due),(gK b.au),(cI b.s0.bq),(ck b.s0.kept),(cI b.s1.bq),(ck b.s1.kept),(cI b.n0),(cI b.n1),(cV b.w0),(cV b.w1),(cI b.aY.cap),(df b.aY.used),(eb b.aY.aU),(eG b.aS),(hP y),(cZ b.book)]))],2⟩) (fun (q2:Nat)=>q2<=b.au.length) (fun (q2:Nat)=>b.au.length - q2) 0 ?_ ?_ ?_
 ·exact (by first|omega|simp)
 ·exact aF.bL id (by refine ⟨?_,?_,?_,?_,?_,?_,?_,?_,trivial⟩<;>first|rfl|(simp only [ba];done)|(congr 3;omega)|(congr 4;omega)|(simp only [bb];rfl)) (by refine ⟨?_,?_,trivial⟩<;>first|rfl|(simp only [ba];done)|(congr 3;omega)|(congr 4;omega)|(simp only [bb];rfl)) rfl
 rintro q2 hi2_0
 refine ae aa 1 rfl ?_
 refine ag ?_
 refine aj rfl (fun hc6=>?_) (fun hc6=>?_)
 ·
  have hc6':=of_decide_eq_true hc6
  refine aQ ?_
  refine ag ?_
  refine aR ?_
  refine ae aa 2 rfl ?_
  refine ag ?_
  obtain ⟨x1,hx1⟩:=cg (xs:=b.au) (i:=q2) (by first|omega|(simp;done)|(simp;omega))
  refine aX [2,3,92,93,111,112,129,130,7] [1,0] mixed rfl rfl ?_
  refine ay (kn:=[]) aa 3 rfl trivial ?_
  refine aP (n':=2) [134,135] [] rfl rfl (.inl ⟨(ah.plain rfl),aJ.cast (bX (i:=q2) rfl rfl rfl Try.underlying31 kj (by first|omega|(simp;done)|(simp;omega)) (bj hx1)) rfl⟩) rfl ?_
  refine ay (kn:=[]) aa 4 rfl trivial ?_
  refine aP (n':=2) [139,140] [] rfl rfl (.inl ⟨(ah.plain rfl),aJ.cast (bX (i:=q2) rfl rfl rfl Try.underlying31 kj (by first|omega|(simp;done)|(simp;omega)) (bj hx1)) rfl⟩) rfl ?_
  refine ay (kn:=[]) aa 1 rfl trivial ?_
  refine aP (n':=2) [137,142] [] rfl rfl (.inl ⟨(ah.plain rfl),aJ.cast (aJ.cast (pJ (Gm _ _ _ _ _ _ _ _ _ _ _ _ _ _ _ _) rfl rfl rfl rfl rfl rfl) (congrArg aB (show (!(fl [.int .i64 x1.aO,.int .i64 x1.aE,.int .i64 x1.sum,.int .i64 x1.captured,.int .i64 x1.bB,.int .i64 x1.bl,.int .i64 x1.dg,.bool x1.shut] [.int .i64 x1.aO,.int .i64 x1.aE,.int .i64 x1.sum,.int .i64 x1.captured,.int .i64 x1.bB,.int .i64 x1.bl,.int .i64 x1.dg,.bool x1.shut]))=false by simp [fl,jz]))) rfl⟩) rfl ?_
  refine bw [1,0] rfl rfl rfl rfl (by kernel_rfl) ?_
  refine af ?_
  refine aj rfl (fun hno=>by cases hno) (fun _=>?_)
  refine cE ?_
  refine bf ?_
  refine then_ok ?_
  refine aw ?_
  refine az (aK rfl rfl rfl (aL (by first|omega|(simp;done)|(simp;omega)))) rfl ?_
  refine ad aa 1 rfl ?_
  refine af ?_
  refine ⟨q2+1,by omega,by first|omega|(simp;done)|(simp;omega),aF.bL id (by refine ⟨?_,?_,?_,?_,?_,?_,?_,?_,trivial⟩<;>first|rfl|(simp only [ba];done)|(congr 3;omega)|(congr 4;omega)|(simp only [bb];rfl)) (by refine ⟨?_,?_,trivial⟩<;>first|rfl|(simp only [ba];done)|(congr 3;omega)|(congr 4;omega)|(simp only [bb];rfl)) rfl⟩
 have hc6':=of_decide_eq_false hc6
 refine bT ?_
 refine aN ?_
 refine aN ?_
 refine bA ?_
 refine then_ok ?_
 refine ag ?_
 refine aH aa 2 rfl ?_
 refine az (bP rfl rfl rfl rfl rfl Try.underlying43) rfl ?_
 refine ad aa 1 rfl ?_
 refine af ?_
 refine aR ?_
 refine ch (β:=Nat) (fun (q3:Nat)=>⟨[(2,(aC (.p 0 0 0 0))),(3,(aC (.p 1 0 0 0))),(92,(aI (↑b.al.length:Int))),(93,(aI (↑q:Int))),(111,(aI (↑b.due.length:Int))),(112,(aI (↑q1:Int))),(129,(aI (↑b.au.length:Int))),(130,(aI (↑q2:Int))),(147,(aI (↑y.length:Int))),(148,(aI (↑q3:Int)))],[(1,(.box 46 [(cI b.time),(cB b.down),(gj b.al),(df b.due),(gK b.au),(cI b.s0.bq),(ck b.s0.kept),(cI b.s1.bq),(ck b.s1.kept),(cI b.n0),(cI b.n1),(cV b.w0),(cV b.w1),(cI b.aY.cap),(df b.aY.used),(eb b.aY.aU),(eG b.aS),(hP y),(cZ b.book)])),(0,(.box 46 [(cI b.time),(cB b.down),(gj b.al),(df b.due),(gK b.au),(cI b.s0.bq),(ck b.s0.kept),(cI b.s1.bq),(ck b.s1.kept),(cI b.n0),(cI b.n1),(cV b.w0),(cV b.w1),(cI b.aY.cap),(df b.aY.used),(eb b.aY.aU),(eG b.aS),(hP y),(cZ b.book)]))],2⟩) (fun (q3:Nat)=>q3<=y.length) (fun (q3:Nat)=>y.length - q3) 0 ?_ ?_ ?_
 ·exact (by first|omega|simp)
 ·exact aF.bL id (by refine ⟨?_,?_,?_,?_,?_,?_,?_,?_,?_,?_,trivial⟩<;>first|rfl|(simp only [ba];done)|(congr 3;omega)|(congr 4;omega)|(simp only [bb];rfl)) (by refine ⟨?_,?_,trivial⟩<;>first|rfl|(simp only [ba];done)|(congr 3;omega)|(congr 4;omega)|(simp only [bb];rfl)) rfl
 rintro q3 hi3_0
 refine ae aa 1 rfl ?_
 refine ag ?_
 refine aj rfl (fun hc8=>?_) (fun hc8=>?_)
 ·
  have hc8':=of_decide_eq_true hc8
  refine aQ ?_
  refine ag ?_
  refine aR ?_
  refine ae aa 2 rfl ?_
  refine ag ?_
  obtain ⟨x1,hx1⟩:=cg (xs:=y) (i:=q3) (by first|omega|(simp;done)|(simp;omega))
  refine aX [2,3,92,93,111,112,129,130,147,148,8] [1,0] mixed rfl rfl ?_
  refine ay (kn:=[]) aa 3 rfl trivial ?_
  refine aP (n':=2) [152,153] [] rfl rfl (.inl ⟨(ah.plain rfl),aJ.cast (bX (i:=q3) rfl rfl rfl Try.underlying43 DM (by first|omega|(simp;done)|(simp;omega)) (bj hx1)) rfl⟩) rfl ?_
  refine ay (kn:=[]) aa 1 rfl trivial ?_
  refine aP (n':=2) [155] [] rfl rfl (.inl ⟨(ah.plain rfl),aJ.cast (rV (n:=x1.length) (l:=x1) rfl Try.underlying86 Try.underlying5 Try.underlying9 rfl (.d (by first|(simp;done)|rfl) (Nat.le_refl _) (by first|(simp;done)|exact List.take_of_length_le (by simp))) (by first|omega|(simp;done)|(simp;omega))) rfl⟩) rfl ?_
  refine ay (kn:=[]) aa 3 rfl trivial ?_
  refine aP (n':=2) [158,159] [] rfl rfl (.inl ⟨(ah.plain rfl),aJ.cast (bX (i:=q3) rfl rfl rfl Try.underlying43 DM (by first|omega|(simp;done)|(simp;omega)) (bj hx1)) rfl⟩) rfl ?_
  refine ay (kn:=[]) aa 1 rfl trivial ?_
  refine aP (n':=2) [161] [] rfl rfl (.inl ⟨(ah.plain rfl),aJ.cast (rV (n:=x1.length) (l:=x1) rfl Try.underlying86 Try.underlying5 Try.underlying9 rfl (.d (by first|(simp;done)|rfl) (Nat.le_refl _) (by first|(simp;done)|exact List.take_of_length_le (by simp))) (by first|omega|(simp;done)|(simp;omega))) rfl⟩) rfl ?_
  refine aP (n':=2) [156,162] [] rfl rfl (.inl ⟨(ah.plain rfl),aJ.cast (aJ.cast (BR rfl rfl rfl) (congrArg aB (by first|(rw [tl];done)|(rw [tl];rfl)))) rfl⟩) rfl ?_
  refine bw [1,0] rfl rfl rfl rfl (by kernel_rfl) ?_
  refine af ?_
  refine aj rfl (fun hno=>by cases hno) (fun _=>?_)
  refine cE ?_
  refine bf ?_
  refine then_ok ?_
  refine aw ?_
  refine az (aK rfl rfl rfl (aL (by first|omega|(simp;done)|(simp;omega)))) rfl ?_
  refine ad aa 1 rfl ?_
  refine af ?_
  refine ⟨q3+1,by omega,by first|omega|(simp;done)|(simp;omega),aF.bL id (by refine ⟨?_,?_,?_,?_,?_,?_,?_,?_,?_,?_,trivial⟩<;>first|rfl|(simp only [ba];done)|(congr 3;omega)|(congr 4;omega)|(simp only [bb];rfl)) (by refine ⟨?_,?_,trivial⟩<;>first|rfl|(simp only [ba];done)|(congr 3;omega)|(congr 4;omega)|(simp only [bb];rfl)) rfl⟩
 have hc8':=of_decide_eq_false hc8
 refine bT ?_
 refine aN ?_
 refine aN ?_
 refine bA ?_
 refine then_ok ?_
 refine ag ?_
 refine ae aa 1 rfl ?_
 refine aR ?_
 refine ch (β:=Nat) (fun (i:Nat)=>⟨[(2,(aC (.p 0 0 0 0))),(3,(aC (.p 1 0 0 0))),(92,(aI (↑b.al.length:Int))),(93,(aI (↑q:Int))),(111,(aI (↑b.due.length:Int))),(112,(aI (↑q1:Int))),(129,(aI (↑b.au.length:Int))),(130,(aI (↑q2:Int))),(147,(aI (↑y.length:Int))),(148,(aI (↑q3:Int))),(165,(aI (↑i:Int)))],[(1,(.box 46 [(cI b.time),(cB b.down),(gj b.al),(df b.due),(gK b.au),(cI b.s0.bq),(ck b.s0.kept),(cI b.s1.bq),(ck b.s1.kept),(cI b.n0),(cI b.n1),(cV b.w0),(cV b.w1),(cI b.aY.cap),(df b.aY.used),(eb b.aY.aU),(eG b.aS),(hP y),(cZ b.book)])),(0,(.box 46 [(cI b.time),(cB b.down),(gj b.al),(df b.due),(gK b.au),(cI b.s0.bq),(ck b.s0.kept),(cI b.s1.bq),(ck b.s1.kept),(cI b.n0),(cI b.n1),(cV b.w0),(cV b.w1),(cI b.aY.cap),(df b.aY.used),(eb b.aY.aU),(eG b.aS),(hP y),(cZ b.book)]))],2⟩) (fun (i:Nat)=>i<=2) (fun (i:Nat)=>2 - i) 0 ?_ ?_ ?_
 ·exact (by omega)
 ·exact aF.bL id (by refine ⟨?_,?_,?_,?_,?_,?_,?_,?_,?_,?_,?_,trivial⟩<;>first|rfl|(simp only [ba];done)|(congr 3;omega)|(congr 4;omega)|(simp only [bb];rfl)) (by refine ⟨?_,?_,trivial⟩<;>first|rfl|(simp only [ba];done)|(congr 3;omega)|(congr 4;omega)|(simp only [bb];rfl)) rfl
 rintro i hi4_0
 refine ae aa 1 rfl ?_
 refine ag ?_
 refine aj rfl (fun hc10=>?_) (fun hc10=>?_)
 ·
  have hc10':=of_decide_eq_true hc10
  refine aQ ?_
  refine ag ?_
  refine aR ?_
  rcases (show i=0\/i=1 from by omega) with hs11|hs11
  ·
   refine ae aa 2 rfl ?_
   refine ag ?_
   refine fU (i:=9) (v:=(aI 0)) (cL (ρ:=id) rfl (by omega)) ?_
   refine ag ?_
   refine aX [2,3,92,93,111,112,129,130,147,148,165,9] [1,0] mixed rfl rfl ?_
   refine ay (kn:=[]) aa 2 rfl trivial ?_
   refine aP (n':=2) [169,168] [0] rfl rfl (.inl ⟨(ah.plain rfl),aJ.cast (cC (i:=0) rfl rfl rfl Try.underlying35 jk rfl (by decide)) rfl⟩) rfl ?_
   refine ay (kn:=[]) aa 3 rfl trivial ?_
   refine aP (n':=2) [173,172] [1] rfl rfl (.inl ⟨(ah.plain rfl),aJ.cast (cC (i:=0) rfl rfl rfl Try.underlying35 jk rfl (by decide)) rfl⟩) rfl ?_
   refine ay (kn:=[]) aa 1 rfl trivial ?_
   refine aP (n':=2) [171,175] [] rfl rfl (.inl ⟨(ah.plain rfl),aJ.cast (bU 2 (px b.s0) ES rfl rfl ⟨⟨_,rfl,.g ⟨.d _,.d _,trivial⟩⟩,⟨_,rfl,.g ⟨.d _,.d _,trivial⟩⟩,trivial⟩ trivial trivial rfl rfl rfl rfl) rfl⟩) rfl ?_
   refine ay (kn:=[]) aa 4 rfl trivial ?_
   refine aP (n':=2) [180,179,178] [0] rfl rfl (.inl ⟨(ah.yes rfl rfl rfl),aJ.cast (cC (i:=0) rfl rfl rfl Try.underlying38 gM rfl (by decide)) rfl⟩) rfl ?_
   refine ay (kn:=[]) aa 1 rfl trivial ?_
   refine aP (n':=2) [182,178] [] rfl rfl (.inl ⟨(ah.yes rfl rfl rfl),aJ.cast (bP rfl rfl rfl rfl rfl Try.underlying37) rfl⟩) rfl ?_
   refine ay (kn:=[]) aa 2 rfl trivial ?_
   refine aP (n':=2) [185,184,178] [1] rfl rfl (.inl ⟨(ah.yes rfl rfl rfl),aJ.cast (cC (i:=0) rfl rfl rfl Try.underlying38 gM rfl (by decide)) rfl⟩) rfl ?_
   refine ay (kn:=[]) aa 1 rfl trivial ?_
   refine aP (n':=2) [187,178] [] rfl rfl (.inl ⟨(ah.yes rfl rfl rfl),aJ.cast (bP rfl rfl rfl rfl rfl Try.underlying37) rfl⟩) rfl ?_
   refine ay (kn:=[(189,false)]) aa 2 rfl ⟨(decide_eq_false (fun h=>h rfl)),trivial⟩ ?_
   refine bw [1,0] rfl rfl rfl rfl (by kernel_rfl) ?_
   refine af ?_
   refine aj rfl (fun hno=>by cases hno) (fun _=>?_)
   refine aQ ?_
   refine aH aa 2 rfl ?_
   refine az (cC (i:=0) rfl rfl rfl Try.underlying38 gM rfl (by decide)) rfl ?_
   refine ad aa 1 rfl ?_
   refine az (bP rfl rfl rfl rfl rfl Try.underlying37) rfl ?_
   refine ad aa 1 rfl ?_
   refine af ?_
   refine aR ?_
   refine ch (β:=Nat) (fun (q5:Nat)=>⟨[(2,(aC (.p 0 0 0 0))),(3,(aC (.p 1 0 0 0))),(92,(aI (↑b.al.length:Int))),(93,(aI (↑q:Int))),(111,(aI (↑b.due.length:Int))),(112,(aI (↑q1:Int))),(129,(aI (↑b.au.length:Int))),(130,(aI (↑q2:Int))),(147,(aI (↑y.length:Int))),(148,(aI (↑q3:Int))),(165,(aI (↑i:Int))),(9,(aI 0)),(195,(aI (↑b.w0.length:Int))),(196,(aI (↑q5:Int)))],[(1,(.box 46 [(cI b.time),(cB b.down),(gj b.al),(df b.due),(gK b.au),(cI b.s0.bq),(ck b.s0.kept),(cI b.s1.bq),(ck b.s1.kept),(cI b.n0),(cI b.n1),(cV b.w0),(cV b.w1),(cI b.aY.cap),(df b.aY.used),(eb b.aY.aU),(eG b.aS),(hP y),(cZ b.book)])),(0,(.box 46 [(cI b.time),(cB b.down),(gj b.al),(df b.due),(gK b.au),(cI b.s0.bq),(ck b.s0.kept),(cI b.s1.bq),(ck b.s1.kept),(cI b.n0),(cI b.n1),(cV b.w0),(cV b.w1),(cI b.aY.cap),(df b.aY.used),(eb b.aY.aU),(eG b.aS),(hP y),(cZ b.book)]))],2⟩) (fun (q5:Nat)=>q5<=b.w0.length) (fun (q5:Nat)=>b.w0.length - q5) 0 ?_ ?_ ?_
   ·exact (by first|omega|simp)
   ·exact aF.bL id (by refine ⟨?_,?_,?_,?_,?_,?_,?_,?_,?_,?_,?_,?_,?_,?_,trivial⟩<;>first|rfl|(simp only [ba];done)|(congr 3;omega)|(congr 4;omega)|(simp only [bb];rfl)) (by refine ⟨?_,?_,trivial⟩<;>first|rfl|(simp only [ba];done)|(congr 3;omega)|(congr 4;omega)|(simp only [bb];rfl)) rfl
   rintro q5 hi5_0
   refine ae aa 1 rfl ?_
   refine ag ?_
   refine aj rfl (fun hc13=>?_) (fun hc13=>?_)
   ·
    have hc13':=of_decide_eq_true hc13
    refine aQ ?_
    refine ag ?_
    refine aR ?_
    refine ae aa 2 rfl ?_
    refine ag ?_
    obtain ⟨x1,hx1⟩:=cg (xs:=b.w0) (i:=q5) (by first|omega|(simp;done)|(simp;omega))
    refine aX [2,3,92,93,111,112,129,130,147,148,165,9,195,196,10] [1,0] mixed rfl rfl ?_
    refine ay (kn:=[]) aa 2 rfl trivial ?_
    refine aP (n':=2) [200,199] [0] rfl rfl (.inl ⟨(ah.plain rfl),aJ.cast (cC (i:=0) rfl rfl rfl Try.underlying38 gM rfl (by decide)) rfl⟩) rfl ?_
    refine ay (kn:=[]) aa 2 rfl trivial ?_
    refine aP (n':=2) [202,203] [] rfl rfl (.inl ⟨(ah.plain rfl),aJ.cast (bX (i:=q5) rfl rfl rfl Try.underlying37 lZ (by first|omega|(simp;done)|(simp;omega)) (bj hx1)) rfl⟩) rfl ?_
    refine ay (kn:=[]) aa 3 rfl trivial ?_
    refine aP (n':=2) [207,206] [1] rfl rfl (.inl ⟨(ah.plain rfl),aJ.cast (cC (i:=0) rfl rfl rfl Try.underlying38 gM rfl (by decide)) rfl⟩) rfl ?_
    refine ay (kn:=[]) aa 2 rfl trivial ?_
    refine aP (n':=2) [209,210] [] rfl rfl (.inl ⟨(ah.plain rfl),aJ.cast (bX (i:=q5) rfl rfl rfl Try.underlying37 lZ (by first|omega|(simp;done)|(simp;omega)) (bj hx1)) rfl⟩) rfl ?_
    refine ay (kn:=[]) aa 1 rfl trivial ?_
    refine aP (n':=2) [205,212] [] rfl rfl (.inl ⟨(ah.plain rfl),aJ.cast (vL (xs:=[.int .i64 x1.cc.number,.int .i64 x1.cc.kind,.int .i64 x1.cc.bd,.int .i64 x1.cc.sum,.int .i64 x1.seen]) (by kernel_rfl) (CJ _ _ _ _ _) rfl rfl rfl rfl) rfl⟩) rfl ?_
    refine bw [1,0] rfl rfl rfl rfl (by kernel_rfl) ?_
    refine af ?_
    refine aj rfl (fun hno=>by cases hno) (fun _=>?_)
    refine cE ?_
    refine bf ?_
    refine then_ok ?_
    refine aw ?_
    refine az (aK rfl rfl rfl (aL (by first|omega|(simp;done)|(simp;omega)))) rfl ?_
    refine ad aa 1 rfl ?_
    refine af ?_
    refine ⟨q5+1,by omega,by first|omega|(simp;done)|(simp;omega),aF.bL id (by refine ⟨?_,?_,?_,?_,?_,?_,?_,?_,?_,?_,?_,?_,?_,?_,trivial⟩<;>first|rfl|(simp only [ba];done)|(congr 3;omega)|(congr 4;omega)|(simp only [bb];rfl)) (by refine ⟨?_,?_,trivial⟩<;>first|rfl|(simp only [ba];done)|(congr 3;omega)|(congr 4;omega)|(simp only [bb];rfl)) rfl⟩
   have hc13':=of_decide_eq_false hc13
   refine bT ?_
   refine aN ?_
   refine aN ?_
   refine bA ?_
   refine bf ?_
   refine then_ok ?_
   refine aw ?_
   refine az (aK rfl rfl rfl (aL (by first|omega|(simp;done)|(simp;omega)))) rfl ?_
   refine ad aa 1 rfl ?_
   refine af ?_
   refine ⟨i+1,by omega,by first|omega|(simp;done)|(simp;omega),aF.bL id (by refine ⟨?_,?_,?_,?_,?_,?_,?_,?_,?_,?_,?_,trivial⟩<;>first|rfl|(simp only [ba];done)|(congr 3;omega)|(congr 4;omega)|(simp only [bb];rfl)) (by refine ⟨?_,?_,trivial⟩<;>first|rfl|(simp only [ba];done)|(congr 3;omega)|(congr 4;omega)|(simp only [bb];rfl)) rfl⟩
  refine ae aa 2 rfl ?_
  refine ag ?_
  refine fU (i:=9) (v:=(aI 1)) (cL (ρ:=id) rfl (by omega)) ?_
  refine ag ?_
  refine aX [2,3,92,93,111,112,129,130,147,148,165,9] [1,0] mixed rfl rfl ?_
  refine ay (kn:=[]) aa 2 rfl trivial ?_
  refine aP (n':=2) [169,168] [0] rfl rfl (.inl ⟨(ah.plain rfl),aJ.cast (cC (i:=1) rfl rfl rfl Try.underlying35 jk rfl (by decide)) rfl⟩) rfl ?_
  refine ay (kn:=[]) aa 3 rfl trivial ?_
  refine aP (n':=2) [173,172] [1] rfl rfl (.inl ⟨(ah.plain rfl),aJ.cast (cC (i:=1) rfl rfl rfl Try.underlying35 jk rfl (by decide)) rfl⟩) rfl ?_
  refine ay (kn:=[]) aa 1 rfl trivial ?_
  refine aP (n':=2) [171,175] [] rfl rfl (.inl ⟨(ah.plain rfl),aJ.cast (bU 2 (px b.s1) ES rfl rfl ⟨⟨_,rfl,.g ⟨.d _,.d _,trivial⟩⟩,⟨_,rfl,.g ⟨.d _,.d _,trivial⟩⟩,trivial⟩ trivial trivial rfl rfl rfl rfl) rfl⟩) rfl ?_
  refine ay (kn:=[]) aa 4 rfl trivial ?_
  refine aP (n':=2) [180,179,178] [0] rfl rfl (.inl ⟨(ah.yes rfl rfl rfl),aJ.cast (cC (i:=1) rfl rfl rfl Try.underlying38 gM rfl (by decide)) rfl⟩) rfl ?_
  refine ay (kn:=[]) aa 1 rfl trivial ?_
  refine aP (n':=2) [182,178] [] rfl rfl (.inl ⟨(ah.yes rfl rfl rfl),aJ.cast (bP rfl rfl rfl rfl rfl Try.underlying37) rfl⟩) rfl ?_
  refine ay (kn:=[]) aa 2 rfl trivial ?_
  refine aP (n':=2) [185,184,178] [1] rfl rfl (.inl ⟨(ah.yes rfl rfl rfl),aJ.cast (cC (i:=1) rfl rfl rfl Try.underlying38 gM rfl (by decide)) rfl⟩) rfl ?_
  refine ay (kn:=[]) aa 1 rfl trivial ?_
  refine aP (n':=2) [187,178] [] rfl rfl (.inl ⟨(ah.yes rfl rfl rfl),aJ.cast (bP rfl rfl rfl rfl rfl Try.underlying37) rfl⟩) rfl ?_
  refine ay (kn:=[(189,false)]) aa 2 rfl ⟨(decide_eq_false (fun h=>h rfl)),trivial⟩ ?_
  refine bw [1,0] rfl rfl rfl rfl (by kernel_rfl) ?_
  refine af ?_
  refine aj rfl (fun hno=>by cases hno) (fun _=>?_)
  refine aQ ?_
  refine aH aa 2 rfl ?_
  refine az (cC (i:=1) rfl rfl rfl Try.underlying38 gM rfl (by decide)) rfl ?_
  refine ad aa 1 rfl ?_
  refine az (bP rfl rfl rfl rfl rfl Try.underlying37) rfl ?_
  refine ad aa 1 rfl ?_
  refine af ?_
  refine aR ?_
  refine ch (β:=Nat) (fun (q5:Nat)=>⟨[(2,(aC (.p 0 0 0 0))),(3,(aC (.p 1 0 0 0))),(92,(aI (↑b.al.length:Int))),(93,(aI (↑q:Int))),(111,(aI (↑b.due.length:Int))),(112,(aI (↑q1:Int))),(129,(aI (↑b.au.length:Int))),(130,(aI (↑q2:Int))),(147,(aI (↑y.length:Int))),(148,(aI (↑q3:Int))),(165,(aI (↑i:Int))),(9,(aI 1)),(195,(aI (↑b.w1.length:Int))),(196,(aI (↑q5:Int)))],[(1,(.box 46 [(cI b.time),(cB b.down),(gj b.al),(df b.due),(gK b.au),(cI b.s0.bq),(ck b.s0.kept),(cI b.s1.bq),(ck b.s1.kept),(cI b.n0),(cI b.n1),(cV b.w0),(cV b.w1),(cI b.aY.cap),(df b.aY.used),(eb b.aY.aU),(eG b.aS),(hP y),(cZ b.book)])),(0,(.box 46 [(cI b.time),(cB b.down),(gj b.al),(df b.due),(gK b.au),(cI b.s0.bq),(ck b.s0.kept),(cI b.s1.bq),(ck b.s1.kept),(cI b.n0),(cI b.n1),(cV b.w0),(cV b.w1),(cI b.aY.cap),(df b.aY.used),(eb b.aY.aU),(eG b.aS),(hP y),(cZ b.book)]))],2⟩) (fun (q5:Nat)=>q5<=b.w1.length) (fun (q5:Nat)=>b.w1.length - q5) 0 ?_ ?_ ?_
  ·exact (by first|omega|simp)
  ·exact aF.bL id (by refine ⟨?_,?_,?_,?_,?_,?_,?_,?_,?_,?_,?_,?_,?_,?_,trivial⟩<;>first|rfl|(simp only [ba];done)|(congr 3;omega)|(congr 4;omega)|(simp only [bb];rfl)) (by refine ⟨?_,?_,trivial⟩<;>first|rfl|(simp only [ba];done)|(congr 3;omega)|(congr 4;omega)|(simp only [bb];rfl)) rfl
  rintro q5 hi5_0
  refine ae aa 1 rfl ?_
  refine ag ?_
  refine aj rfl (fun hc16=>?_) (fun hc16=>?_)
  ·
   have hc16':=of_decide_eq_true hc16
   refine aQ ?_
   refine ag ?_
   refine aR ?_
   refine ae aa 2 rfl ?_
   refine ag ?_
   obtain ⟨x1,hx1⟩:=cg (xs:=b.w1) (i:=q5) (by first|omega|(simp;done)|(simp;omega))
   refine aX [2,3,92,93,111,112,129,130,147,148,165,9,195,196,10] [1,0] mixed rfl rfl ?_
   refine ay (kn:=[]) aa 2 rfl trivial ?_
   refine aP (n':=2) [200,199] [0] rfl rfl (.inl ⟨(ah.plain rfl),aJ.cast (cC (i:=1) rfl rfl rfl Try.underlying38 gM rfl (by decide)) rfl⟩) rfl ?_
   refine ay (kn:=[]) aa 2 rfl trivial ?_
   refine aP (n':=2) [202,203] [] rfl rfl (.inl ⟨(ah.plain rfl),aJ.cast (bX (i:=q5) rfl rfl rfl Try.underlying37 lZ (by first|omega|(simp;done)|(simp;omega)) (bj hx1)) rfl⟩) rfl ?_
   refine ay (kn:=[]) aa 3 rfl trivial ?_
   refine aP (n':=2) [207,206] [1] rfl rfl (.inl ⟨(ah.plain rfl),aJ.cast (cC (i:=1) rfl rfl rfl Try.underlying38 gM rfl (by decide)) rfl⟩) rfl ?_
   refine ay (kn:=[]) aa 2 rfl trivial ?_
   refine aP (n':=2) [209,210] [] rfl rfl (.inl ⟨(ah.plain rfl),aJ.cast (bX (i:=q5) rfl rfl rfl Try.underlying37 lZ (by first|omega|(simp;done)|(simp;omega)) (bj hx1)) rfl⟩) rfl ?_
   refine ay (kn:=[]) aa 1 rfl trivial ?_
   refine aP (n':=2) [205,212] [] rfl rfl (.inl ⟨(ah.plain rfl),aJ.cast (vL (xs:=[.int .i64 x1.cc.number,.int .i64 x1.cc.kind,.int .i64 x1.cc.bd,.int .i64 x1.cc.sum,.int .i64 x1.seen]) (by kernel_rfl) (CJ _ _ _ _ _) rfl rfl rfl rfl) rfl⟩) rfl ?_
   refine bw [1,0] rfl rfl rfl rfl (by kernel_rfl) ?_
   refine af ?_
   refine aj rfl (fun hno=>by cases hno) (fun _=>?_)
   refine cE ?_
   refine bf ?_
   refine then_ok ?_
   refine aw ?_
   refine az (aK rfl rfl rfl (aL (by first|omega|(simp;done)|(simp;omega)))) rfl ?_
   refine ad aa 1 rfl ?_
   refine af ?_
   refine ⟨q5+1,by omega,by first|omega|(simp;done)|(simp;omega),aF.bL id (by refine ⟨?_,?_,?_,?_,?_,?_,?_,?_,?_,?_,?_,?_,?_,?_,trivial⟩<;>first|rfl|(simp only [ba];done)|(congr 3;omega)|(congr 4;omega)|(simp only [bb];rfl)) (by refine ⟨?_,?_,trivial⟩<;>first|rfl|(simp only [ba];done)|(congr 3;omega)|(congr 4;omega)|(simp only [bb];rfl)) rfl⟩
  have hc16':=of_decide_eq_false hc16
  refine bT ?_
  refine aN ?_
  refine aN ?_
  refine bA ?_
  refine bf ?_
  refine then_ok ?_
  refine aw ?_
  refine az (aK rfl rfl rfl (aL (by first|omega|(simp;done)|(simp;omega)))) rfl ?_
  refine ad aa 1 rfl ?_
  refine af ?_
  refine ⟨i+1,by omega,by first|omega|(simp;done)|(simp;omega),aF.bL id (by refine ⟨?_,?_,?_,?_,?_,?_,?_,?_,?_,?_,?_,trivial⟩<;>first|rfl|(simp only [ba];done)|(congr 3;omega)|(congr 4;omega)|(simp only [bb];rfl)) (by refine ⟨?_,?_,trivial⟩<;>first|rfl|(simp only [ba];done)|(congr 3;omega)|(congr 4;omega)|(simp only [bb];rfl)) rfl⟩
 have hc10':=of_decide_eq_false hc10
 refine bT ?_
 refine aN ?_
 refine aN ?_
 refine bA ?_
 refine then_ok ?_
 refine ae aa 1 rfl ?_
 refine aA ?_
 refine aq aa [] 0 rfl rfl rfl rfl rfl rfl ?_ ?_
 ·rfl
 ·rfl
theorem vM {P:Program} {st:aM} {o:Oper} {t n e sz:Nat} {x y:Operand} {cx cs:List CV} {i:Nat} {j:Int} {d:TypeDesc} (ho:o.op=.index t x y) (hx:ev st x (.v (.g cx))) (hy:ev st y (.v (.c (.d (.v (.int .i64 j))))))
  (hu:P.underlying t=some (.array n e)) (hd:P.underlying e=some d) (ha:jn d=true) (hz:(P.info? e).map (·.size)=some sz) (hj:j=(i:Int)) (hi:i < n) (hc:(cx.drop (i * sz)).take sz=cs):aJ P o st (.v (.g cs)) [] []:=
 aJ.val fun σ T ac w C=>by
  obtain ⟨vs,hv,hr⟩:=bG C hx
  have h2:=br.inv (bG C hy)
  subst hj hc
  refine ⟨.agg ((vs.drop (i * sz)).take sz).toArray,?_,⟨_,rfl,(hr.drop _).take _⟩⟩
  have hp:=vk (P:=P) (t:=e) (off:=i * sz) (xs:=vs.toArray) (ys:=((vs.drop (i * sz)).take sz).toArray) hd ha hz (by simp [List.extract_toArray,List.extract_eq_take_drop])
  cases hq:P.info? e with
  |none=>simp [hq] at hz
  |some ii=>
   have hs:ii.size=sz:=by simpa [hq] using hz
   unfold execOp
   simp [ho,hv,h2,Instr.index,asIntOf,run_underlying hu,sizeOf,typeInfo,hq,hs,hi,hp]
theorem wK {I:Bk->List (List Int)->Prop} {d:bJ} (hs:∀ b y,I b y->I (eX b y d).1 (eX b y d).2.1) {b:Bk} {y:List (List Int)} (h:I b y) (told:List (Int×Answer)) (cl:Nat):I (fH b y told cl d).1 (fH b y told cl d).2.1:=by
 unfold fH
 split
 ·exact h
 ·exact hs b y h
theorem qh {I:Bk->List (List Int)->Prop}:∀ {l:List bJ},(∀ d∈l,∀ b y,I b y->I (eX b y d).1 (eX b y d).2.1)->∀ {b:Bk} {y:List (List Int)},I b y->∀ (told:List (Int×Answer)) (cl:Nat) (out:List Answer),I (kH l b y told cl out).1 (kH l b y told cl out).2.1
 |[],_,_,_,h,_,_,_=>h
 |d::l,hs,b,y,h,told,cl,out=>qh (fun x hx=>hs x (List.mem_cons_of_mem _ hx)) (wK (hs d List.mem_cons_self) h told cl) _ _ _
theorem wG {I:Bk->List (List Int)->Prop} {s:Setup} {l:List bJ} {b:Bk} {y:List (List Int)} {o:List Answer} {f:dc} (hr:iJ s l=(b,y,o,f)) (hf:f.err=0) (h0:(eC s).err=0->I (iB s) []) (hs:∀ d∈l,∀ b y,I b y->I (eX b y d).1 (eX b y d).2.1):I b y:=by
 unfold iJ at hr
 split at hr
 ·rename_i h1
  simp only [Prod.mk.injEq] at hr
  obtain ⟨_,_,_,rfl⟩:=hr
  exact absurd hf h1
 split at hr
 ·simp only [Prod.mk.injEq] at hr
  obtain ⟨_,_,_,rfl⟩:=hr
  cases hf
 ·rename_i h1 h2
  simp only [Prod.mk.injEq] at hr
  obtain ⟨rfl,rfl,_,_⟩:=hr
  exact qh hs (h0 (by omega)) _ _ _
def kM (l:List bD):Prop:=∀ c∈l,0<=c.bE - c.held
theorem qc {l:List bD} {e k h m:Int} (hl:kM l) (hc:∀ c,l[k.toNat]?=some c->h - m<=c.bE - c.held):kM (cJ l e k h m).1:=by
 unfold cJ
 split
 ·exact hl
 ·rename_i c hk
  split
  ·rename_i h0
   intro z hz
   rcases gq hz with hz|rfl
   ·exact hl z hz
   ·have he:=(fS h0).2
    rcases qK (show ei c h m=((ei c h m).1,(ei c h m).2) from rfl) with ⟨h1,_⟩|h1
    ·exact absurd he h1
    ·have h2:=h1.2.2.2.2.2.2.1
     have h3:=hc c hk
     rw [h2];dsimp only;omega
  ·exact hl
theorem jo {l:List bD} {e k h m:Int} (hl:kM l) (hm:h<=m):kM (cJ l e k h m).1:=qc hl fun c hc=>by have:=hl c (List.mem_of_getElem? hc);omega
theorem Ao {a:bC} {t:Int} (h:bM a=0):bR (ep a t) - bR a<=0:=by
 have:=eM h
 unfold bR ep
 cases hs:a.shut<;>cases ht:decide (a.dg<=t)<;>simp<;>omega
theorem rP {time:Int}:∀ (l:List bC) (i:Nat) (al:List bD) (au:List bC) (e:Int),(∀ a∈l,bM a=0)->kM al->kM (fv time l i al au e).1
 |[],_,_,_,_,_,h=>h
 |a::l,i,al,au,e,hw,h=>rP l (i+1) _ _ _ (fun x hx=>hw x (List.mem_cons_of_mem _ hx)) (jo h (Ao (hw a List.mem_cons_self)))
theorem rQ {time:Int} {n:Int}:∀ (l:List bC) (i:Nat) (al:List bD) (au:List bC) (e:Int),(∀ a∈l,a.bl=n)->(∀ a∈au,a.bl=n)->∀ a∈(fv time l i al au e).2.1,a.bl=n
 |[],_,_,_,_,_,h=>h
 |a::l,i,al,au,e,hl,h=>rQ l (i+1) _ _ _ (fun x hx=>hl x (List.mem_cons_of_mem _ hx)) fun x hx=>by
  rcases gq hx with hx|rfl
  ·exact h x hx
  ·exact hl a List.mem_cons_self
structure ff (b:Bk):Prop where
 ok:cz b
 up:b.down=false
 iI:∀ a∈b.au,a.bl=0
 free:kM b.al
 k0:∀ t∈b.s0.kept,0<=t.sum
 k1:∀ t∈b.s1.kept,0<=t.sum
 p0:∀ p∈b.w0,0<=p.cc.sum
 p1:∀ p∈b.w1,0<=p.cc.sum
theorem ff.dw {b c:Bk} {e:Int} (h:ff b) (hc:e=0->ff c):ff (dw b c e).1:=by
 unfold Dev.dw;split
 ·exact hc (by assumption)
 ·exact h
theorem ff.late {b:Bk} (h:ff b):ff (gJ b):=by
 have hok:=h.ok.late
 unfold gJ at hok ⊢
 split
 ·rename_i h0
  rw [if_pos h0] at hok
  exact ⟨hok,h.up,rQ _ _ _ _ _ h.iI h.iI,rP _ _ _ _ _ (fun a ha=>(h.ok.perm a ha).1) h.free,h.k0,h.k1,h.p0,h.p1⟩
 ·exact h
theorem ff.start {s:Setup} (h:(eC s).err=0):ff (iB s):=
 ⟨cz.start h,rfl,fun a ha=>(by cases ha),fun c hc=>(by
  obtain ⟨p,_,rfl⟩:=List.mem_map.1 (show c∈s.da.map nZ from hc)
  exact Int.le_refl _),fun a ha=>(by cases ha),fun a ha=>(by cases ha),fun a ha=>(by cases ha),fun a ha=>(by cases ha)⟩
theorem zj {c:bD} {n t:Int} (h:(dz c n t).2=0):0<=(dz c n t).1.bE - (dz c n t).1.held:=by
 rcases oe (show dz c n t=((dz c n t).1,(dz c n t).2) from rfl) with ⟨h5,_⟩|⟨h5,h6,h7,h8,h9,h10,h11,l,h12,h13⟩
 ·exact absurd h h5
 ·rw [h13];dsimp only;omega
theorem ff.asks {b:Bk} (h:ff b) (d:bJ):ff (dK b d).1:=by
 have hok:=h.ok.asks d
 unfold dK at hok ⊢
 rw [h.up] at hok ⊢
 simp only [Bool.false_eq_true,if_false] at hok ⊢
 split
 ·exact h
 rename_i c1
 rw [if_neg c1] at hok
 split
 ·exact h
 rename_i c2
 rw [if_neg c2] at hok
 split
 ·exact h
 rename_i c3
 rw [if_neg c3] at hok
 obtain ⟨_,w2,_⟩:=lM (show (dm d.n d.aE d.sum b.time).2=0 by omega)
 split
 ·exact h
 rename_i c hc
 rw [hc] at hok
 dsimp only at hok
 split
 ·exact h
 rename_i c4
 rw [if_neg c4] at hok
 refine ⟨hok,rfl,fun a ha=>?_,fun z hz=>?_,h.k0,h.k1,h.p0,h.p1⟩
 ·rcases List.mem_append.1 ha with ha|ha
  ·exact h.iI a ha
  ·obtain rfl:=List.mem_singleton.1 ha;rw [w2]
 ·rcases gq hz with hz|rfl
  ·exact h.free z hz
  ·exact zj (by omega)
theorem yA {a b:bC} {k n:Int} (hw:bM a=0) (h1:1<=n) (hm:jC a k n b):(k=1->bR b - bR a=n)/\(k=2\/k=3->bR b - bR a<=0 - n)/\(k=4->bR b - bR a<=0)/\(k=6\/b.bl<=a.bl):=by
 have hr:=eM hw
 cases hm with
 |more h hs hn=>subst h;unfold bR;rw [hs];simp;omega
 |take h hs hn=>
  unfold bR;rw [hs];dsimp only
  refine ⟨fun h=>by omega,fun _=>?_,fun h=>by omega,.inr (Int.le_refl _)⟩
  split<;>simp at *<;>omega
 |less h hs hn=>
  subst h;unfold bR;rw [hs];dsimp only
  refine ⟨fun h=>by omega,fun h=>by omega,fun _=>?_,.inr (Int.le_refl _)⟩
  split<;>simp at *<;>omega
 |rG h hn=>subst h;exact ⟨fun h=>by omega,fun h=>by omega,fun h=>by omega,.inr (Int.le_refl _)⟩
 |pQ h hn=>subst h;exact ⟨fun h=>by omega,fun h=>by omega,fun h=>by omega,.inl rfl⟩
 |pN h hn=>subst h;exact ⟨fun h=>by omega,fun h=>by omega,fun h=>by omega,.inr (by dsimp only;omega)⟩
 |pM h hn=>subst h;exact ⟨fun h=>by omega,fun h=>by omega,fun h=>by omega,.inr (by dsimp only;omega)⟩
theorem yz {a b:bC} {k n:Int} (hm:jC a k n b) (h1:1<=n) (hk:k=7\/k=8):1<=a.bl:=by
 cases hm<;>omega
theorem oI {s:bS} {e:Int} {t:bg} (h:∀ t∈s.kept,0<=t.sum) (ht:0<=t.sum):∀ u∈(eO s e t).1.kept,0<=u.sum:=by
 unfold eO
 split
 ·rename_i h0
  have he:=(fS h0).2
  unfold gG at he
  split at he
  ·rename_i h1;exact absurd he h1
  split at he
  ·rename_i h1;exact absurd he h1
  ·rename_i h1 h2
   have hp:(gG s t).1=gO s t:=by unfold gG;rw [if_neg h1,if_neg h2]
   dsimp only
   rw [hp]
   intro u hu
   rcases List.mem_append.1 hu with hu|hu
   ·exact h u hu
   ·obtain rfl:=List.mem_singleton.1 hu;exact ht
 ·exact h
theorem ff.jv {b:Bk} (h:ff b) (d:bJ) (hd:¬d.move=6):ff (dN b d).1:=by
 have hok:=h.ok.jv d
 unfold dN at hok ⊢
 rw [h.up] at hok ⊢
 simp only [Bool.false_eq_true,if_false] at hok ⊢
 split
 ·exact h
 rename_i c1
 rw [if_neg c1] at hok
 split
 ·exact h
 rename_i cw ho
 rw [ho] at hok
 dsimp only at hok
 split
 ·exact h
 rename_i c2
 rw [if_neg c2] at hok
 split
 ·exact h
 rename_i c3
 rw [if_neg c3] at hok
 have hmv:cq cw d.move d.sum=((cq cw d.move d.sum).1,0):=Prod.ext rfl (by dsimp only;omega)
 generalize (cq cw d.move d.sum).1=a at *
 rcases nI hmv with ⟨h4,_⟩|⟨_,hw,hn1,hn2,hm⟩
 ·exact absurd rfl h4
 have hold:=h.iI cw (List.mem_of_getElem? ho)
 have hr:=eM hw
 obtain ⟨m1,m2,m3,m4⟩:=yA hw hn1 hm
 have hcard:a.aO=cw.aO:=(qi hmv).2.1
 have hra:=eM (qi hmv).1
 unfold nV at hok ⊢
 have hcards:kM (dk b a cw d).1:=by
  unfold dk
  split
  ·rename_i hk
   rcases hk with hk|hk
   ·refine qc h.free fun c hc=>?_
    have hf:¬d.sum > kV b.al a.aO:=fun hf=>c3 ⟨hk,hf⟩
    unfold kV at hf;rw [hc] at hf;dsimp only at hf
    have:=m1 hk;omega
   ·exact jo h.free (m3 hk)
  split
  ·rename_i hk;exact jo h.free (m2 hk)
  split
  ·exact h.free
  split
  ·exact h.free
  split
  ·rename_i hk;have:=yz hm hn1 (.inr hk);omega
  ·exact h.free
 unfold Dev.dw at hok ⊢
 split
 ·rename_i h0
  rw [if_pos h0] at hok
  have hks:(∀ t∈(dk b a cw d).2.2.2.1.kept,0<=t.sum)/\∀ t∈(dk b a cw d).2.2.2.2.1.kept,0<=t.sum:=by
   unfold dk
   split
   ·exact ⟨h.k0,h.k1⟩
   split
   ·exact ⟨oI h.k0 (by dsimp only;omega),h.k1⟩
   split
   ·exact ⟨h.k0,oI h.k1 (by dsimp only;omega)⟩
   split
   ·exact ⟨oI h.k0 (by dsimp only;omega),h.k1⟩
   split
   ·exact ⟨h.k0,h.k1⟩
   ·exact ⟨h.k0,h.k1⟩
  refine ⟨hok,h.up,fun x hx=>?_,hcards,hks.1,hks.2,h.p0,h.p1⟩
  rcases gq hx with hx|rfl
  ·exact h.iI x hx
  ·rcases m4 with h6|h6
   ·exact absurd h6 hd
   ·omega
 ·exact h
theorem rv {au:List bC} {due:List Int} {al:List bD} {book:List Entry} {e:Int} {t:bg} (h:kM al) (ht:0<=t.sum):kM (dP au due al book e t).2.1:=by
 unfold dP
 split
 ·exact h
 split
 ·exact h
 split
 ·exact jo h ht
 split
 ·exact h
 ·exact h
theorem ff.load {b:Bk} (h:ff b) (d:bJ):ff (fI b d).1:=by
 have hok:=h.ok.load d
 unfold fI at hok ⊢
 split
 ·exact h
 rename_i c1
 rw [if_neg c1] at hok
 split
 ·exact h
 rename_i c2
 rw [if_neg c2] at hok
 unfold Dev.dw at hok ⊢
 split
 ·rename_i h0;rw [if_pos h0] at hok;exact ⟨hok,h.up,h.iI,jo h.free (by omega),h.k0,h.k1,h.p0,h.p1⟩
 ·exact h
theorem ff.qj {b:Bk} (h:ff b) (d:bJ):ff (gN b d).1:=by
 have hok:=h.ok.qj d
 unfold gN at hok ⊢
 split
 ·exact h
 rename_i c1
 rw [if_neg c1] at hok
 split
 ·exact h
 rename_i c2
 rw [if_neg c2] at hok
 unfold Dev.dw at hok ⊢
 split
 ·rename_i h0;rw [if_pos h0] at hok;exact ⟨hok,h.up,h.iI,h.free,h.k0,h.k1,h.p0,h.p1⟩
 ·exact h
theorem ff.cG {b:Bk} (h:ff b) (d:bJ):ff (fk b d).1:=by
 unfold fk
 split
 ·exact h
 ·rw [h.up]
  simp only [Bool.false_eq_true,if_false]
  have h1:ff {b with time:=b.time+d.sum}:=⟨h.ok.tick (by have:=h.ok.time;omega) (by have:=h.ok.time;omega),h.up,h.iI,h.free,h.k0,h.k1,h.p0,h.p1⟩
  have h2:=h1.late
  rwa [show ({b with time:=b.time+d.sum}:Bk)={b with time:=b.time+d.sum,down:=false} by rw [<-h.up]] at h2
theorem tv {w:List cj} {ks:List bg} {n:Int} (h:∀ p∈w,0<=p.cc.sum) (hk:∀ t∈ks,0<=t.sum):∀ p∈(iV w ks n).1,0<=p.cc.sum:=by
 unfold iV
 split
 ·exact h
 ·intro p hp
  rcases tE hp with hp|⟨t,ht,rfl⟩|rfl
  ·exact h p hp
  ·exact hk t ht
  ·exact Int.le_refl _
theorem ff.send {b:Bk} (h:ff b) (d:bJ):ff {b with w0:=(eE b.s0 b.s1 b.n0 b.n1 b.w0 b.w1 d).1,w1:=(eE b.s0 b.s1 b.n0 b.n1 b.w0 b.w1 d).2.1}:=by
 refine ⟨h.ok.send d,h.up,h.iI,h.free,h.k0,h.k1,?_,?_⟩
 ·dsimp only;unfold eE
  split
  ·exact h.p0
  split
  ·exact tv h.p0 h.k1
  ·exact h.p0
 ·dsimp only;unfold eE
  split
  ·exact tv h.p1 h.k0
  split
  ·exact h.p1
  ·exact h.p1
theorem ui {s:bS} {n:Int} (h:∀ t∈s.kept,0<=t.sum) (hb:(eh s n).2=0):∀ t∈(eh s n).1.kept,0<=t.sum:=by
 rcases pT (show eh s n=((eh s n).1,(eh s n).2) from rfl) with ⟨h1,_⟩|⟨_,_,_,_,h2⟩
 ·exact absurd hb h1
 ·rw [h2];exact fun t ht=>h t (tM ht)
theorem ff.jw {b:Bk} (h:ff b) (d:bJ):ff (cA b d).1:=by
 have hok:=h.ok.jw d
 unfold cA at hok ⊢
 split
 ·rename_i c0
  rw [if_pos c0] at hok
  unfold fQ at hok ⊢
  split
  ·exact h
  rename_i p hp
  rw [hp] at hok
  dsimp only at hok
  have hps:=h.p0 p (List.mem_of_getElem? hp)
  have hd:∀ p∈b.w0.drop 1,0<=p.cc.sum:=fun p hp=>h.p0 p (List.mem_of_mem_drop hp)
  split
  ·rename_i c1;rw [if_pos c1] at hok;exact ⟨hok,h.up,h.iI,h.free,h.k0,h.k1,hd,h.p1⟩
  rename_i c1
  rw [if_neg c1] at hok
  split
  ·rename_i c2
   rw [if_pos c2] at hok
   split
   ·rename_i c3;rw [if_pos c3] at hok;exact ⟨hok,h.up,h.iI,h.free,ui h.k0 c3,h.k1,hd,h.p1⟩
   ·exact h
  rename_i c2
  rw [if_neg c2] at hok
  split
  ·rename_i c3
   rw [if_pos c3] at hok
   unfold Dev.dw at hok ⊢
   split
   ·rename_i c4;rw [if_pos c4] at hok;exact ⟨hok,h.up,h.iI,rv h.free hps,h.k0,h.k1,hd,h.p1⟩
   ·exact h
  ·rename_i c3;rw [if_neg c3] at hok;exact ⟨hok,h.up,h.iI,h.free,h.k0,h.k1,hd,h.p1⟩
 rename_i c0
 rw [if_neg c0] at hok
 split
 ·rename_i c01
  rw [if_pos c01] at hok
  unfold fP at hok ⊢
  split
  ·exact h
  rename_i p hp
  rw [hp] at hok
  dsimp only at hok
  have hps:=h.p1 p (List.mem_of_getElem? hp)
  have hd:∀ p∈b.w1.drop 1,0<=p.cc.sum:=fun p hp=>h.p1 p (List.mem_of_mem_drop hp)
  split
  ·rename_i c1;rw [if_pos c1] at hok;exact ⟨hok,h.up,h.iI,h.free,h.k0,h.k1,h.p0,hd⟩
  rename_i c1
  rw [if_neg c1] at hok
  split
  ·rename_i c2
   rw [if_pos c2] at hok
   split
   ·rename_i c3;rw [if_pos c3] at hok;exact ⟨hok,h.up,h.iI,h.free,h.k0,ui h.k1 c3,h.p0,hd⟩
   ·exact h
  rename_i c2
  rw [if_neg c2] at hok
  split
  ·rename_i c3
   rw [if_pos c3] at hok
   unfold Dev.dw at hok ⊢
   split
   ·rename_i c4;rw [if_pos c4] at hok;exact ⟨hok,h.up,h.iI,rv h.free hps,h.k0,h.k1,h.p0,hd⟩
   ·exact h
  ·rename_i c3;rw [if_neg c3] at hok;exact ⟨hok,h.up,h.iI,h.free,h.k0,h.k1,h.p0,hd⟩
 ·exact h
theorem ff.sS {b:Bk} (h:ff b) (y:List (List Int)) (d:bJ) (h8:¬d.kind=8) (h6:¬(d.kind=3/\d.move=6)):ff (eX b y d).1:=by
 unfold eX
 split
 ·exact h.load d
 split
 ·exact h.asks d
 split
 ·rename_i h3;exact h.jv d fun e=>h6 ⟨h3,e⟩
 split
 ·exact h.cG d
 split
 ·exact h.send d
 split
 ·exact h.jw d
 split
 ·have:(iM b).1=b:=by unfold iM;rw [if_pos h.up]
  rw [this];exact h
 split
 ·exact ⟨h.ok.qL (mj (y:=y) h.ok.aS).1,h.up,h.iI,h.free,h.k0,h.k1,h.p0,h.p1⟩
 split
 ·exact h.qj d
 ·exact h
section
def ey (k:Int):List bC->Int
 |[]=>0
 |a::l=>(if a.aO=k then bR a else 0)+ey k l
theorem rT (k:Int) (u v:List bC):ey k (u++v)=ey k u+ey k v:=by
 induction u with
 |nil=>simp [ey]
 |cons a u ih=>simp only [List.cons_append,ey,ih];omega
theorem nM (k:Int) (b:bC):∀ {l:List bC} {i:Nat} {a:bC},l[i]?=some a->ey k (l.set i b)=ey k l - (if a.aO=k then bR a else 0)+(if b.aO=k then bR b else 0)
 |x::l,0,a,h=>by
  have:x=a:=by simpa using h
  subst this
  simp only [List.set_cons_zero,ey];omega
 |x::l,i+1,a,h=>by
  have h:l[i]?=some a:=by simpa using h
  simp only [List.set_cons_succ,ey,nM k b h];omega
def gT (al:List bD) (au:List bC):Prop:=∀ (k:Nat) (c:bD),al[k]?=some c->c.held=ey k au
theorem mD {l:List bD} {e k h m:Int} (hz:(cJ l e k h m).2=0):e=0/\((l[k.toNat]?=none/\(cJ l e k h m).1=l)\/∃ c,l[k.toNat]?=some c/\(cJ l e k h m).1=l.set k.toNat ⟨c.bE+m,c.held+h,c.bZ,c.cW⟩):=by
 unfold cJ at hz ⊢
 cases hc:l[k.toNat]? with
 |none=>rw [hc] at hz;exact ⟨hz,.inl ⟨rfl,rfl⟩⟩
 |some c=>
  rw [hc] at hz
  dsimp only at hz ⊢
  split at hz
  ·rename_i h0
   obtain ⟨h1,h2⟩:=fS h0
   rcases qK (show ei c h m=((ei c h m).1,(ei c h m).2) from rfl) with ⟨h3,_⟩|h3
   ·exact absurd h2 h3
   ·rw [if_pos h0]
    exact ⟨h1,.inr ⟨c,rfl,by dsimp only;rw [h3.2.2.2.2.2.2.1]⟩⟩
  ·rename_i h0;exact absurd hz h0
theorem gT.shift {al:List bD} {au auths':List bC} {e k h m:Int} (hh:gT al au) (hz:(cJ al e k h m).2=0) (ha:∀ j:Nat,ey j auths'=ey j au+if j=k.toNat then h else 0):gT (cJ al e k h m).1 auths':=by
 obtain ⟨_,hz⟩:=mD hz
 intro j c hc
 rcases hz with ⟨h1,h2⟩|⟨c0,h1,h2⟩
 ·rw [h2] at hc
  have:j≠k.toNat:=fun e=>by subst e;rw [h1] at hc;cases hc
  rw [hh j c hc,ha j,if_neg this];omega
 ·rw [h2,List.getElem?_set] at hc
  split at hc
  ·rename_i e
   split at hc
   ·injection hc with hc;subst hc
    have:=hh _ c0 h1
    rw [ha j,if_pos e.symm,<-e];dsimp only;omega
   ·cases hc
  ·rename_i e
   rw [hh j c hc,ha j,if_neg (Ne.symm e)];omega
theorem gT.same {al:List bD} {au:List bC} {e k m:Int} (hh:gT al au) (hz:(cJ al e k 0 m).2=0):gT (cJ al e k 0 m).1 au:=hh.shift hz fun j=>by split<;>omega
theorem iW {s:bS} {e:Int} {t:bg} (h:(eO s e t).2=0):e=0/\(gG s t).2=0/\(eO s e t).1=(gG s t).1:=by
 unfold eO at h ⊢
 split at h
 ·rename_i h0;obtain ⟨h1,h2⟩:=fS h0;rw [if_pos h0];exact ⟨h1,h2,rfl⟩
 ·rename_i h0;exact absurd h h0
theorem mS {s:bS} {t:bg} (h:(gG s t).2=0):(cK s).err=0/\(cK (gO s t)).err=0/\(gG s t).1=gO s t:=by
 unfold gG at h ⊢
 split at h
 ·rename_i h1;exact absurd h h1
 split at h
 ·rename_i h1;exact absurd h h1
 ·rename_i h1 h2;rw [if_neg h1,if_neg h2];exact ⟨by omega,by omega,rfl⟩
theorem pS {s:bS} {n:Int} (h:(eh s n).2=0):(cK s).err=0/\0<=n/\n<=s.bq/\(eh s n).1=⟨s.bq,dC (came n) s.kept⟩/\(cK (eh s n).1).err=0:=by
 rcases pT (show eh s n=((eh s n).1,(eh s n).2) from rfl) with ⟨h1,_⟩|⟨_,h1,h2,h3,h4⟩
 ·exact absurd h h1
 ·exact ⟨h1,h2,h3,h4,by rw [h4];exact zg h1 h2 h3⟩
structure ea (b:Bk):Prop where
 ok:cz b
 held:gT b.al b.au
 s0:(cK b.s0).err=0
 s1:(cK b.s1).err=0
 st:ca b.aY=0
 used:b.aY.used.length=b.al.length
 aS:∀ x∈b.aS,xx x
theorem nK {time:Int}:∀ (l:List bC) (i:Nat) (al:List bD) (au:List bC) (e:Int),(fv time l i al au e).2.2=0->e=0
 |[],_,_,_,_,h=>h
 |a::l,i,al,au,e,h=>(mD (nK l _ _ _ _ h)).1
theorem rO {time:Int}:∀ (l:List bC) (i:Nat) (al:List bD) (au:List bC) (e:Int),(fv time l i al au e).2.2=0->au.drop i=l->(∀ a∈l,0<=a.aO)->gT al au->gT (fv time l i al au e).1 (fv time l i al au e).2.1
 |[],_,_,_,_,_,_,_,h=>h
 |a::l,i,al,au,e,hz,hd,hp,h=>by
  have hat:au[i]?=some a:=by
   have:(au.drop i)[0]?=some a:=by rw [hd];rfl
   rwa [List.getElem?_drop,Nat.add_zero] at this
  have hilt:=(List.getElem?_eq_some_iff.1 hat).1
  refine rO l (i+1) _ _ _ hz ?_ (fun x hx=>hp x (List.mem_cons_of_mem _ hx)) (h.shift (nK l _ _ _ _ hz) fun j=>?_)
  ·rw [List.drop_set_of_lt (by omega)]
   have:au.drop (i+1)=(au.drop i).drop 1:=by rw [List.drop_drop]
   rw [this,hd];rfl
  ·have hc:=hp a List.mem_cons_self
   rw [nM _ _ hat]
   have:(ep a time).aO=a.aO:=rfl
   rw [this]
   by_cases e:a.aO=(j:Int)
   ·rw [if_pos e,if_pos e,if_pos (by omega)];omega
   ·rw [if_neg e,if_neg e,if_neg (by omega)];omega
theorem Ai {time:Int} (l:List bC) (i:Nat) (al:List bD) (au:List bC) (e:Int):(fv time l i al au e).1.length=al.length:=by
 induction l generalizing i al au e with
 |nil=>rfl
 |cons a l ih=>exact (ih (i+1) _ _ _).trans (fb _ _ _ _ _)
theorem ea.late {b:Bk} (h:ea b):ea (gJ b):=by
 have hok:=h.ok.late
 unfold gJ at hok ⊢
 split
 ·rename_i h0
  rw [if_pos h0] at hok
  exact ⟨hok,rO _ _ _ _ _ h0 rfl (fun a ha=>(h.ok.perm a ha).2.1) h.held,h.s0,h.s1,h.st,by dsimp only;rw [Ai];exact h.used,h.aS⟩
 ·exact h
theorem ea.start {s:Setup} (h:(eC s).err=0):ea (iB s):=by
 obtain ⟨h1,h2,h3,h4,h5,h6⟩:=kX h
 have hn:dH s.cap s.da.length=({cap:=s.cap,used:=List.replicate s.da.length 0,aU:=[]},0):=ql h1 ⟨h4,h5⟩
 refine ⟨cz.start h,fun k c hc=>?_,rfl,rfl,?_,?_,fun x hx=>by cases hx⟩
 ·have hc:(s.da.map nZ)[k]?=some c:=hc
  rw [List.getElem?_map] at hc
  cases hp:s.da[k]? with
  |none=>rw [hp] at hc;cases hc
  |some p=>rw [hp] at hc;injection hc with hc;subst hc;rfl
 ·show ca (dH s.cap s.da.length).1=0
  rw [hn];exact oR _ _ h1 h4 h5
 ·show (dH s.cap s.da.length).1.used.length=(s.da.map nZ).length
  rw [hn];simp
theorem ea.load {b:Bk} (h:ea b) (d:bJ):ea (fI b d).1:=by
 have hok:=h.ok.load d
 unfold fI at hok ⊢
 split
 ·exact h
 rename_i c1
 rw [if_neg c1] at hok
 split
 ·exact h
 rename_i c2
 rw [if_neg c2] at hok
 unfold Dev.dw at hok ⊢
 split
 ·rename_i h0
  rw [if_pos h0] at hok
  exact ⟨hok,h.held.same (ja h0).1,h.s0,h.s1,h.st,by dsimp only;rw [fb];exact h.used,h.aS⟩
 ·exact h
theorem ea.qj {b:Bk} (h:ea b) (d:bJ):ea (gN b d).1:=by
 have hok:=h.ok.qj d
 unfold gN at hok ⊢
 split
 ·exact h
 rename_i c1
 rw [if_neg c1] at hok
 split
 ·exact h
 rename_i c2
 rw [if_neg c2] at hok
 unfold Dev.dw at hok ⊢
 split
 ·rename_i h0;rw [if_pos h0] at hok;exact ⟨hok,h.held,h.s0,h.s1,h.st,h.used,h.aS⟩
 ·exact h
theorem ea.cG {b:Bk} (h:ea b) (d:bJ):ea (fk b d).1:=by
 unfold fk
 split
 ·exact h
 ·have h1:ea {b with time:=b.time+d.sum}:=⟨h.ok.tick (by have:=h.ok.time;omega) (by have:=h.ok.time;omega),h.held,h.s0,h.s1,h.st,h.used,h.aS⟩
  dsimp only
  split
  ·exact h1
  ·exact h1.late
theorem ea.send {b:Bk} (h:ea b) (d:bJ):ea {b with w0:=(eE b.s0 b.s1 b.n0 b.n1 b.w0 b.w1 d).1,w1:=(eE b.s0 b.s1 b.n0 b.n1 b.w0 b.w1 d).2.1}:=
 ⟨h.ok.send d,h.held,h.s0,h.s1,h.st,h.used,h.aS⟩
theorem ru {au:List bC} {due:List Int} {al:List bD} {book:List Entry} {e:Int} {t:bg} (h:gT al au) (hz:(dP au due al book e t).2.2.2=0):gT (dP au due al book e t).2.1 au/\(dP au due al book e t).2.1.length=al.length:=by
 unfold dP at hz ⊢
 split
 ·exact ⟨h,rfl⟩
 rename_i a ha
 rw [ha] at hz
 dsimp only at hz
 split
 ·exact ⟨h,rfl⟩
 rename_i c1
 rw [if_neg c1] at hz
 split
 ·rename_i c2;rw [if_pos c2] at hz;exact ⟨h.same (ja hz).1,fb _ _ _ _ _⟩
 split
 ·exact ⟨h,rfl⟩
 ·exact ⟨h,rfl⟩
theorem ea.jw {b:Bk} (h:ea b) (d:bJ):ea (cA b d).1:=by
 have hok:=h.ok.jw d
 unfold cA at hok ⊢
 split
 ·rename_i c0
  rw [if_pos c0] at hok
  unfold fQ at hok ⊢
  split
  ·exact h
  rename_i p hp
  rw [hp] at hok
  dsimp only at hok
  split
  ·rename_i c1;rw [if_pos c1] at hok;exact ⟨hok,h.held,h.s0,h.s1,h.st,h.used,h.aS⟩
  rename_i c1
  rw [if_neg c1] at hok
  split
  ·rename_i c2
   rw [if_pos c2] at hok
   split
   ·rename_i c3;rw [if_pos c3] at hok;exact ⟨hok,h.held,(pS c3).2.2.2.2,h.s1,h.st,h.used,h.aS⟩
   ·exact h
  rename_i c2
  rw [if_neg c2] at hok
  split
  ·rename_i c3
   rw [if_pos c3] at hok
   unfold Dev.dw at hok ⊢
   split
   ·rename_i c4;rw [if_pos c4] at hok;obtain ⟨r1,r2⟩:=ru h.held c4;exact ⟨hok,r1,h.s0,h.s1,h.st,h.used.trans r2.symm,h.aS⟩
   ·exact h
  ·rename_i c3;rw [if_neg c3] at hok;exact ⟨hok,h.held,h.s0,h.s1,h.st,h.used,h.aS⟩
 rename_i c0
 rw [if_neg c0] at hok
 split
 ·rename_i c01
  rw [if_pos c01] at hok
  unfold fP at hok ⊢
  split
  ·exact h
  rename_i p hp
  rw [hp] at hok
  dsimp only at hok
  split
  ·rename_i c1;rw [if_pos c1] at hok;exact ⟨hok,h.held,h.s0,h.s1,h.st,h.used,h.aS⟩
  rename_i c1
  rw [if_neg c1] at hok
  split
  ·rename_i c2
   rw [if_pos c2] at hok
   split
   ·rename_i c3;rw [if_pos c3] at hok;exact ⟨hok,h.held,h.s0,(pS c3).2.2.2.2,h.st,h.used,h.aS⟩
   ·exact h
  rename_i c2
  rw [if_neg c2] at hok
  split
  ·rename_i c3
   rw [if_pos c3] at hok
   unfold Dev.dw at hok ⊢
   split
   ·rename_i c4;rw [if_pos c4] at hok;obtain ⟨r1,r2⟩:=ru h.held c4;exact ⟨hok,r1,h.s0,h.s1,h.st,h.used.trans r2.symm,h.aS⟩
   ·exact h
  ·rename_i c3;rw [if_neg c3] at hok;exact ⟨hok,h.held,h.s0,h.s1,h.st,h.used,h.aS⟩
 ·exact h
theorem At {s:cH} {a:cp} (h:(cv s a).2=0):(cv s a).1.used.length=s.used.length:=by
 unfold cv at h ⊢
 split at h
 ·rename_i h1;exact absurd h h1
 split at h
 ·cases h
 split at h
 ·cases h
 split at h
 ·cases h
 ·rename_i h1 h2 h3 h4;rw [if_neg h1,if_neg h2,if_neg h3,if_neg h4];exact List.length_set ..
theorem gT.new {al:List bD} {au:List bC} {k:Int} {c c':bD} {a:bC} (hh:gT al au) (hk:0<=k) (hc:al[k.toNat]?=some c) (ha:a.aO=k) (h':c'.held=c.held+bR a):gT (al.set k.toNat c') (au++[a]):=by
 intro j z hz
 rw [rT]
 have h1:ey j [a]=if a.aO=j then bR a else 0:=by simp [ey]
 rw [h1]
 rw [List.getElem?_set] at hz
 split at hz
 ·rename_i e
  split at hz
  ·injection hz with hz;subst hz
   have:=hh _ c hc
   rw [if_pos (by omega),<-e];omega
  ·cases hz
 ·rename_i e
  rw [hh j z hz,if_neg (by omega)];omega
theorem ea.asks {b:Bk} (h:ea b) (d:bJ):ea (dK b d).1:=by
 have hok:=h.ok.asks d
 unfold dK at hok ⊢
 split
 ·exact h
 rename_i c0
 rw [if_neg c0] at hok
 split
 ·rename_i cd
  rw [if_pos cd] at hok
  split
  ·exact h
  rename_i c1
  rw [if_neg c1] at hok
  split
  ·exact h
  rename_i c2
  rw [if_neg c2] at hok
  have he:=rY (show gS (cv b.aY ⟨d.n,d.aE,d.sum,b.time⟩).2=0 by omega)
  exact ⟨hok,h.held,h.s0,h.s1,(yH h.st he).1,(At he).trans h.used,h.aS⟩
 rename_i cd
 rw [if_neg cd] at hok
 split
 ·exact h
 rename_i c2
 rw [if_neg c2] at hok
 split
 ·exact h
 rename_i c3
 rw [if_neg c3] at hok
 obtain ⟨_,w2,_⟩:=lM (show (dm d.n d.aE d.sum b.time).2=0 by omega)
 split
 ·exact h
 rename_i c hc
 rw [hc] at hok
 dsimp only at hok
 split
 ·exact h
 rename_i c4
 rw [if_neg c4] at hok
 refine ⟨hok,h.held.new (by omega) hc (by rw [w2]) ?_,h.s0,h.s1,h.st,by dsimp only;rw [List.length_set];exact h.used,h.aS⟩
 rcases oe (show dz c d.sum b.time=((dz c d.sum b.time).1,(dz c d.sum b.time).2) from rfl) with ⟨h5,_⟩|⟨h5,h6,h7,h8,h9,h10,h11,l,h12,h13⟩
 ·omega
 ·rw [h13,w2];simp [bR]
theorem qG:∀ (l:List cp) (cs:List bD) (xs:List bC),(fK l cs xs).2.2=0->gT cs xs->(∀ a∈l,0<=a.aO/\a.aO < cs.length)->gT (fK l cs xs).1 (fK l cs xs).2.1/\(fK l cs xs).1.length=cs.length
 |[],cs,xs,_,h,_=>⟨h,rfl⟩
 |x::l,cs,xs,hz,h,hl=>by
  unfold fK at hz ⊢
  split at hz
  ·rename_i h1;exact absurd hz h1
  rename_i h1
  rw [if_neg h1]
  have hx:=hl x List.mem_cons_self
  cases hc:cs[x.aO.toNat]? with
  |none=>have:=List.getElem?_eq_none_iff.1 hc;omega
  |some c=>
   rw [hc] at hz
   dsimp only at hz ⊢
   split at hz
   ·rename_i h2;exact absurd hz h2
   rename_i h2
   rw [if_neg h2]
   obtain ⟨_,w2,_⟩:=lM (show (dm x.aO x.aE x.sum x.time).2=0 by omega)
   obtain ⟨_,f2,_⟩:=lQ (show (eP c x.sum).2=0 by omega)
   have:=qG l _ _ hz (h.new hx.1 hc (by rw [w2]) (by rw [f2,w2];simp [bR])) (fun a ha=>by rw [List.length_set];exact hl a (List.mem_cons_of_mem _ ha))
   rw [List.length_set] at this
   exact this
theorem ea.zv {b:Bk} (h:ea b):ea (iM b).1:=by
 unfold iM
 split
 ·exact h
 split
 ·exact h
 split
 ·exact h
 rename_i c1 c2 c3
 have h0:(cX b.aY).2.2=0:=by omega
 obtain ⟨r1,r2,r3⟩:=nY h0
 have hu:=h.ok.ye h0
 have hz:(fK (cX b.aY).2.1 b.al b.au).2.2=0:=by omega
 obtain ⟨u1,u2⟩:=qG _ _ _ hz h.held (fun a ha=>by rw [r3] at ha;have:=h.ok.jx a ha;omega)
 have hp:=gy h.st
 refine ea.late ⟨hu,u1,h.s0,h.s1,?_,?_,h.aS⟩
 ·dsimp only;rw [r2]
  have hc:0<=b.aY.cap/\b.aY.cap<=1000000:=by simpa [gr] using hp.2.2.1
  exact oR _ _ hp.1 hc.1 hc.2
 ·dsimp only;rw [r2,u2];simp [h.used]
theorem ea.jv {b:Bk} (h:ea b) (d:bJ):ea (dN b d).1:=by
 have hok:=h.ok.jv d
 unfold dN at hok ⊢
 split
 ·exact h
 rename_i cd
 rw [if_neg cd] at hok
 split
 ·exact h
 rename_i c1
 rw [if_neg c1] at hok
 split
 ·exact h
 rename_i cw ho
 rw [ho] at hok
 dsimp only at hok
 split
 ·exact h
 rename_i c2
 rw [if_neg c2] at hok
 split
 ·exact h
 rename_i c3
 rw [if_neg c3] at hok
 have hmv:cq cw d.move d.sum=((cq cw d.move d.sum).1,0):=Prod.ext rfl (by dsimp only;omega)
 generalize (cq cw d.move d.sum).1=a at *
 obtain ⟨_,hwa,hcard,hshop,hk1,hk2,hn1,hn2⟩:=kJ hmv
 rcases nI hmv with ⟨h4,_⟩|⟨_,hw,_,_,hm⟩
 ·exact absurd rfl h4
 have hp:=h.ok.perm cw (List.mem_of_getElem? ho)
 have hra:=eM hwa
 have hset:∀ j:Nat,ey j (b.au.set d.n.toNat a)=ey j b.au+if j=a.aO.toNat then bR a - bR cw else 0:=fun j=>by
  rw [nM _ _ ho,hcard]
  by_cases e:cw.aO=(j:Int)
  ·rw [if_pos e,if_pos e,if_pos (by omega)];omega
  ·rw [if_neg e,if_neg e,if_neg (by omega)];omega
 have hsame:bR a=bR cw->∀ j:Nat,ey j (b.au.set d.n.toNat a)=ey j b.au:=fun e j=>by rw [hset j];split<;>omega
 have hh:d.move=5\/d.move=6\/d.move=7\/d.move=8->bR a=bR cw:=fun e=>by
  cases hm with
  |rG _ _=>rfl
  |pQ _ _=>rfl
  |pN _ _=>rfl
  |pM _ _=>rfl
  |more h _ _=>omega
  |take h _ _=>omega
  |less h _ _=>omega
 unfold nV Dev.dw at hok ⊢
 split
 rotate_left
 ·exact h
 rename_i h0
 rw [if_pos h0] at hok
 obtain ⟨e0,hl0,hnote⟩:=rL h0
 have key:gT (dk b a cw d).1 (b.au.set d.n.toNat a)/\(cK (dk b a cw d).2.2.2.1).err=0/\(cK (dk b a cw d).2.2.2.2.1).err=0/\(dk b a cw d).1.length=b.al.length:=by
  unfold dk at e0 ⊢
  split at e0
  ·rename_i hk;rw [if_pos hk];exact ⟨h.held.shift e0 hset,h.s0,h.s1,fb _ _ _ _ _⟩
  rename_i k1
  rw [if_neg k1]
  split at e0
  ·rename_i hk;rw [if_pos hk]
   obtain ⟨e1,e2,e3⟩:=iW e0
   obtain ⟨_,p2,p3⟩:=mS e2
   exact ⟨h.held.shift (ja e1).1 hset,by dsimp only;rw [e3,p3];exact p2,h.s1,fb _ _ _ _ _⟩
  rename_i k2
  rw [if_neg k2]
  split at e0
  ·rename_i hk;rw [if_pos hk]
   obtain ⟨e1,e2,e3⟩:=iW e0
   obtain ⟨_,p2,p3⟩:=mS e2
   exact ⟨fun j c hc=>by rw [hsame (hh (.inl hk)) j];exact h.held j c hc,h.s0,by dsimp only;rw [e3,p3];exact p2,rfl⟩
  rename_i k3
  rw [if_neg k3]
  split at e0
  ·rename_i hk;rw [if_pos hk]
   exact ⟨h.held.shift (ja e0).1 fun j=>by rw [hsame (hh (.inr (.inl hk))) j];split<;>omega,h.s0,h.s1,fb _ _ _ _ _⟩
  rename_i k4
  rw [if_neg k4]
  split at e0
  ·rename_i hk;rw [if_pos hk]
   obtain ⟨e1,e2,e3⟩:=iW e0
   obtain ⟨_,p2,p3⟩:=mS e2
   exact ⟨fun j c hc=>by rw [hsame (hh (.inr (.inr (.inl hk)))) j];exact h.held j c hc,by dsimp only;rw [e3,p3];exact p2,h.s1,rfl⟩
  rename_i k5
  rw [if_neg k5]
  split at e0
  ·rename_i hk;rw [if_pos hk]
   exact ⟨h.held.shift (ja e0).1 fun j=>by rw [hsame (hh (.inr (.inr (.inr hk)))) j];split<;>omega,h.s0,h.s1,fb _ _ _ _ _⟩
  ·omega
 refine ⟨hok,key.1,key.2.1,key.2.2.1,h.st,h.used.trans key.2.2.2.symm,fun x hx=>?_⟩
 dsimp only at hx
 rw [hnote] at hx
 rcases List.mem_append.1 hx with hx|hx
 ·exact h.aS x hx
 ·obtain rfl:=List.mem_singleton.1 hx
  have hlen:=h.ok.au
  constructor
  ·unfold mI;dsimp only;omega
  ·unfold od;dsimp only;omega
theorem ea.sS {b:Bk} (h:ea b) (y:List (List Int)) (d:bJ):ea (eX b y d).1:=by
 unfold eX
 split
 ·exact h.load d
 split
 ·exact h.asks d
 split
 ·exact h.jv d
 split
 ·exact h.cG d
 split
 ·exact h.send d
 split
 ·exact h.jw d
 split
 ·split
  ·exact h
  ·exact ⟨⟨h.ok.time,h.ok.al,h.ok.due,h.ok.au,h.ok.aS,h.ok.w0,h.ok.w1,h.ok.perm,h.ok.jx,h.ok.k0,h.ok.k1,h.ok.right,h.ok.l0,h.ok.l1,h.ok.p0,h.ok.p1,h.ok.n0,h.ok.n1,fun h=>by cases h⟩,h.held,h.s0,h.s1,h.st,h.used,h.aS⟩
 split
 ·exact h.zv
 split
 ·refine ⟨h.ok.qL (mj (y:=y) h.ok.aS).1,h.held,h.s0,h.s1,h.st,h.used,?_⟩
  unfold iY
  split
  ·exact h.aS
  ·exact fun x hx=>by cases hx
 split
 ·exact h.qj d
 ·exact h
end
section
structure HL (n:Nat) (au:List bC) (hl:List Int):Prop where
 len:hl.length=n
 at_:∀ k:Nat,k < n->hl[k]?=some (ey k au)
theorem HL.start (n:Nat):HL n [] (List.replicate n 0):=⟨List.length_replicate,fun k hk=>by rw [List.getElem?_replicate,if_pos hk];rfl⟩
theorem HL.step {n:Nat} {u:List bC} {hl:List Int} {a:bC} {x v:Int} (h:HL n u hl) (ha:0<=a.aO/\a.aO < n) (hx:hl[a.aO.toNat]?=some x) (hv:v=x+bR a):HL n (u++[a]) (hl.set a.aO.toNat v):=by
 refine ⟨(List.length_set ..).trans h.len,fun k hk=>?_⟩
 rw [rT]
 have h1:ey k [a]=if a.aO=k then bR a else 0:=by simp [ey]
 rw [h1,List.getElem?_set]
 have h2:=h.at_ k hk
 split
 ·rename_i e
  rw [e] at hx
  rw [hx] at h2
  injection h2 with h2
  rw [if_pos (by rw [h.len];omega),if_pos (by omega),hv,h2]
 ·rename_i e
  rw [if_neg (by omega),h2];simp
theorem vD (k:Int):∀ {l:List bC},(∀ a∈l,bM a=0)->0<=ey k l/\ey k l<=1000000 * l.length
 |[],_=>by simp [ey]
 |a::l,h=>by
  have:=vD k (l:=l) fun x hx=>h x (List.mem_cons_of_mem _ hx)
  have h2:=oY (h a List.mem_cons_self)
  simp only [ey,List.length_cons]
  split<;>omega
theorem HL.b {n:Nat} {u:List bC} {hl:List Int} {k:Nat} {x:Int} (h:HL n u hl) (hx:hl[k]?=some x) (hu:∀ a∈u,bM a=0) (hl':u.length<=30):0<=x/\x<=30000000:=by
 have hk:=(List.getElem?_eq_some_iff.1 hx).1
 have h2:=h.at_ k (by rw [<-h.len];exact hk)
 rw [hx] at h2;injection h2 with h2
 have:=vD k hu
 omega
end
end Go.Proofs.Ytegepioggeggaaa.Dev
