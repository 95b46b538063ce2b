/- A part of the proof: Same1, Same2, PlZ, Auth5, PlZ0, Auth6, Stand6, Day3. No condition. -/
import Derived.Test.YtnfopdlnboeheaaGreatD12
set_option linter.unusedVariables false
set_option linter.unusedSimpArgs false
set_option maxHeartbeats 8000000
set_option maxRecDepth 100000
namespace Go.Proofs.YtnfopdlnboeheaaGreat.Dev
open Go.RowKit


theorem JQ {P:Program} {st:aK} {o:Oper} {t yt:TypeId} {x y:Operand} {a b:Bool} (hu:P.underlying t=some .bool) (ho:o.op=.binOp .neq t x y yt) (hx:ev st x (.v (.c (.d (.v (.bool a)))))) (hy:ev st y (.v (.c (.d (.v (.bool b)))))):bU P o st (.v (.c (.d (.v (.bool (!(a==b))))))) [] []:=
  bU.val fun σ T ac w C=>by
    have h1:=bA.inv (bN C hx)
    have h2:=bA.inv (bN C hy)
    refine ⟨_,?_,bA.v _ rfl⟩
    unfold execOp
    simp [ho,h1,h2,binOp,eqGuard,Op.equal,Op.maxDepth,run_equalIn_bool w 9999 t a b hu]
theorem Ik {P:Program} {st:aK} {o:Oper} {t yt:TypeId} {x y:Operand} {a:Bool} (hu:P.underlying t=some .bool) (ho:o.op=.binOp .neq t x y yt) (hx:ev st x (.v (.c (.d (.v (.bool a)))))) (hy:ev st y (.v (.c (.d (.v (.bool a)))))):bU P o st (aB false) [] []:=by
  have h:=JQ hu ho hx hy
  rw [show (!(a==a))=false by cases a<;>rfl] at h
  exact h
theorem KN (a b:Int) (w:World):(Op.equalIn 10000 33 (.agg #[.int .i64 a,.int .i64 b]) (.agg #[.int .i64 a,.int .i64 b])).run Tryz.prog w=.ok true w:=
  qG 9998 2 33 _ (.inr (.inr (.inr ⟨2,3,1,_,Tryz.underlying33,aJ,rfl,fun j hj=>by
    rcases j with _|_|j
    ·exact ⟨.int .i64 a,qM eA rfl rfl,.inl ⟨_,_,_,Tryz.underlying3,rfl⟩⟩
    ·exact ⟨.int .i64 b,qM eA rfl rfl,.inl ⟨_,_,_,Tryz.underlying3,rfl⟩⟩
    ·omega⟩))) w


theorem HM (a b c d e : Int) (w : World) : (Op.equalIn 10000 87 (.agg #[.int .i64 a, .int .i64 b, .int .i64 c, .int .i64 d, .int .i64 e]) (.agg #[.int .i64 a, .int .i64 b, .int .i64 c, .int .i64 d, .int .i64 e])).run Tryz.prog w = .ok true w :=
  qG 9997 3 87 _ (.inr (.inr (.inl ⟨_, _, Tryz.underlying87, by kernel_rfl, rfl, fun f hf => by
    simp only [List.mem_cons, List.not_mem_nil, or_false] at hf
    rcases hf with rfl | rfl
    · refine ⟨by decide, .agg #[.int .i64 a, .int .i64 b, .int .i64 c, .int .i64 d], ET EG rfl kS rfl, .inr (.inr (.inl ⟨_, _, EG, by kernel_rfl, rfl, fun f hf => ?_⟩))⟩
      simp only [List.mem_cons, List.not_mem_nil, or_false] at hf
      rcases hf with rfl | rfl | rfl | rfl <;> exact ⟨by decide, _, qM eA rfl rfl, .inl ⟨_, _, _, eA, rfl⟩⟩
    · exact ⟨by decide, _, qM eA rfl rfl, .inl ⟨_, _, _, eA, rfl⟩⟩⟩))) w

theorem CI (l:List dh):Fn Tryz.prog 31 [(.c (eF l)),(.c (eF l))] (aB true) []:=by
 refine Fn.mk' 26 [(0,(aC (eF l))),(1,(aC (eF l)))] Tryz.func31 rfl rfl rfl rfl ?_
 intro W0 T0
 refine dE 0 rfl (fun hlen0=>?_)
 refine dE 1 rfl (fun hlen1=>?_)
 refine ag 1 rfl (af (aw 1 rfl (az (cD rfl rfl fu) rfl (ad 1 rfl (az (cD rfl rfl fu) rfl (az (bm rfl rfl rfl (congrArg (fun b=>some (Value.bool b)) (decide_eq_false (fun h=>h rfl)))) rfl (ae (ax rfl (fun hno=>by cases hno) (fun _=>?_)))))))))
 refine aD (af (aw 1 rfl (az (cD rfl rfl fu) rfl (ad 1 rfl (ae (aL (cb (β:=Nat) (fun (q:Nat)=>⟨[(0,(aC (eF l))),(1,(aC (eF l))),(12,(aI (↑l.length:Int))),(13,(aI (↑q:Int)))],[],0⟩) (fun (q:Nat)=>q<=l.length) (fun (q:Nat)=>l.length - q) 0 ?_ ?_ ?_)))))))
 ·exact (by first|omega|simp)
 ·exact aq.rz id
 rintro q hi0_0
 refine ag 1 rfl (af (aO rfl (fun hc2'=>?_) (fun hc2'=>?_)))
 ·
  refine aD (af (aL (ag 2 rfl (af ?_))))
  obtain ⟨x1,hx1⟩:=bO (xs:=l) (i:=q) aa
  refine bg [0,1,12,13,5] [] rfl (aF 2 rfl (bh 0 [16,17] [] rfl (dO (i:=q) rfl rfl rfl fu gW (aV hx1)) (aF 3 rfl (bh 0 [20,21] [] rfl (dO (i:=q) rfl rfl rfl fu gW (aV hx1)) (aF 1 rfl (bM 0 [19,23] [] rfl (bU.cast (oB (Jb _ _ _ _) rfl rfl rfl rfl rfl rfl) (congrArg aB (show (!(fI [.int .i64 x1.time,.int .i64 x1.sum] [.int .i64 x1.time,.int .i64 x1.sum]))=false by simp [fI,kv]))) rfl (bf [] rfl (ae (ax rfl (fun hno=>by cases hno) (fun _=>?_))))))))))
  refine cv (aN (then_ok (ah (bl rfl rfl rfl rfl aa (ad 1 rfl (ae (⟨q+1,aa,bT,aq.rz id⟩)))))))
 refine bR (aE (aE (bw (then_ok (ag 1 rfl (al (ct bn [] 0 rfl rfl rfl rfl rfl rfl ?_ ?_)))))))
 ·rfl
 ·rfl
theorem xG (l:List ar):Fn Tryz.prog 16 [(.c (eZ l)),(.c (eZ l))] (aB true) []:=by
 refine Fn.mk' 26 [(0,(aC (eZ l))),(1,(aC (eZ l)))] Tryz.func16 rfl rfl rfl rfl ?_
 intro W0 T0
 refine dE 0 rfl (fun hlen0=>?_)
 refine dE 1 rfl (fun hlen1=>?_)
 refine ag 1 rfl (af (aw 1 rfl (az (cD rfl rfl dQ) rfl (ad 1 rfl (az (cD rfl rfl dQ) rfl (az (bm rfl rfl rfl (congrArg (fun b=>some (Value.bool b)) (decide_eq_false (fun h=>h rfl)))) rfl (ae (ax rfl (fun hno=>by cases hno) (fun _=>?_)))))))))
 refine aD (af (aw 1 rfl (az (cD rfl rfl dQ) rfl (ad 1 rfl (ae (aL (cb (β:=Nat) (fun (q:Nat)=>⟨[(0,(aC (eZ l))),(1,(aC (eZ l))),(12,(aI (↑l.length:Int))),(13,(aI (↑q:Int)))],[],0⟩) (fun (q:Nat)=>q<=l.length) (fun (q:Nat)=>l.length - q) 0 ?_ ?_ ?_)))))))
 ·exact (by first|omega|simp)
 ·exact aq.rz id
 rintro q hi0_0
 refine ag 1 rfl (af (aO rfl (fun hc2'=>?_) (fun hc2'=>?_)))
 ·
  refine aD (af (aL (ag 2 rfl (af ?_))))
  obtain ⟨x1,hx1⟩:=bO (xs:=l) (i:=q) aa
  refine bg [0,1,12,13,5] [] rfl (aF 2 rfl (bh 0 [16,17] [] rfl (dO (i:=q) rfl rfl rfl dQ cY (aV hx1)) (aF 3 rfl (bh 0 [20,21] [] rfl (dO (i:=q) rfl rfl rfl dQ cY (aV hx1)) (aF 1 rfl (bM 0 [19,23] [] rfl (bU.cast (oB (Jd _ _ _ _ _ _ _ _) rfl rfl rfl rfl rfl rfl) (congrArg aB (show (!(fI [.int .i64 x1.au,.int .i64 x1.ba,.int .i64 x1.kind,.int .i64 x1.sum] [.int .i64 x1.au,.int .i64 x1.ba,.int .i64 x1.kind,.int .i64 x1.sum]))=false by simp [fI,kv]))) rfl (bf [] rfl (ae (ax rfl (fun hno=>by cases hno) (fun _=>?_))))))))))
  refine cv (aN (then_ok (ah (bl rfl rfl rfl rfl aa (ad 1 rfl (ae (⟨q+1,aa,bT,aq.rz id⟩)))))))
 refine bR (aE (aE (bw (then_ok (ag 1 rfl (al (ct bn [] 0 rfl rfl rfl rfl rfl rfl ?_ ?_)))))))
 ·rfl
 ·rfl
theorem CK (l:List Entry):Fn Tryz.prog 17 [(.c (cE l)),(.c (cE l))] (aB true) []:=by
 refine Fn.mk' 26 [(0,(aC (cE l))),(1,(aC (cE l)))] Tryz.func17 rfl rfl rfl rfl ?_
 intro W0 T0
 refine dE 0 rfl (fun hlen0=>?_)
 refine dE 1 rfl (fun hlen1=>?_)
 refine ag 1 rfl (af (aw 1 rfl (az (cD rfl rfl ep) rfl (ad 1 rfl (az (cD rfl rfl ep) rfl (az (bm rfl rfl rfl (congrArg (fun b=>some (Value.bool b)) (decide_eq_false (fun h=>h rfl)))) rfl (ae (ax rfl (fun hno=>by cases hno) (fun _=>?_)))))))))
 refine aD (af (aw 1 rfl (az (cD rfl rfl ep) rfl (ad 1 rfl (ae (aL (cb (β:=Nat) (fun (q:Nat)=>⟨[(0,(aC (cE l))),(1,(aC (cE l))),(12,(aI (↑l.length:Int))),(13,(aI (↑q:Int)))],[],0⟩) (fun (q:Nat)=>q<=l.length) (fun (q:Nat)=>l.length - q) 0 ?_ ?_ ?_)))))))
 ·exact (by first|omega|simp)
 ·exact aq.rz id
 rintro q hi0_0
 refine ag 1 rfl (af (aO rfl (fun hc2'=>?_) (fun hc2'=>?_)))
 ·
  refine aD (af (aL (ag 2 rfl (af ?_))))
  obtain ⟨x1,hx1⟩:=bO (xs:=l) (i:=q) aa
  refine bg [0,1,12,13,5] [] rfl (aF 2 rfl (bh 0 [16,17] [] rfl (dO (i:=q) rfl rfl rfl ep eR (aV hx1)) (aF 3 rfl (bh 0 [20,21] [] rfl (dO (i:=q) rfl rfl rfl ep eR (aV hx1)) (aF 1 rfl (bM 0 [19,23] [] rfl (bU.cast (oB (Jc _ _ _ _) rfl rfl rfl rfl rfl rfl) (congrArg aB (show (!(fI [.int .i64 x1.aW,.int .i64 x1.sum] [.int .i64 x1.aW,.int .i64 x1.sum]))=false by simp [fI,kv]))) rfl (bf [] rfl (ae (ax rfl (fun hno=>by cases hno) (fun _=>?_))))))))))
  refine cv (aN (then_ok (ah (bl rfl rfl rfl rfl aa (ad 1 rfl (ae (⟨q+1,aa,bT,aq.rz id⟩)))))))
 refine bR (aE (aE (bw (then_ok (ag 1 rfl (al (ct bn [] 0 rfl rfl rfl rfl rfl rfl ?_ ?_)))))))
 ·rfl
 ·rfl
theorem CJ (c:bF):Fn Tryz.prog 18 [(.g [(cI c.bB),(cI c.held),(cI c.bJ.cw),(cI c.bJ.count),(cI c.bJ.sum),(eF c.cO)]),(.g [(cI c.bB),(cI c.held),(cI c.bJ.cw),(cI c.bJ.count),(cI c.bJ.sum),(eF c.cO)])] (aB true) []:=by
 refine Fn.mk' 31 [(0,(aG [(cI c.bB),(cI c.held),(cI c.bJ.cw),(cI c.bJ.count),(cI c.bJ.sum),(eF c.cO)])),(1,(aG [(cI c.bB),(cI c.held),(cI c.bJ.cw),(cI c.bJ.count),(cI c.bJ.sum),(eF c.cO)]))] Tryz.func18 rfl rfl rfl rfl ?_
 intro W0 T0
 refine ck 0 5 rfl rfl (fun hlen0_5=>?_)
 refine ck 1 5 rfl rfl (fun hlen1_5=>?_)
 refine ag 3 rfl (bQ 4 (true) ?_ ?_)
 ·
  exact ah (ad 4 rfl (az (bm rfl rfl rfl (congrArg (fun b=>some (Value.bool b)) (decide_eq_true rfl))) rfl (ad 5 rfl (dg (aR.yes rfl rfl rfl) (bm rfl rfl rfl (congrArg (fun b=>some (Value.bool b)) (decide_eq_true rfl))) rfl rfl (ad 6 rfl (dg (aR.yes rfl rfl rfl) (bU.cast (JR (Kr _ _ _ _ _ _) rfl rfl rfl rfl rfl rfl) (congrArg aB (show ((fI [.int .i64 c.bJ.cw,.int .i64 c.bJ.count,.int .i64 c.bJ.sum] [.int .i64 c.bJ.cw,.int .i64 c.bJ.count,.int .i64 c.bJ.sum]))=true by simp [fI,kv]))) rfl rfl (ad 6 rfl (kb 2 [1,0] (aR.yes rfl rfl rfl) (cA 2 (CI c.cO) LF rfl) rfl (ad 2 rfl (ae (aq.pz 27 rfl)))))))))))
 refine al (ct bn [] 0 rfl rfl rfl rfl rfl rfl ?_ ?_)
 ·rfl
 ·rfl
theorem sF (s:bK):Fn Tryz.prog 19 [(.g [(cI s.bj),(bX s.kept)]),(.g [(cI s.bj),(bX s.kept)])] (aB true) []:=by
 refine Fn.mk' 38 [(0,(aG [(cI s.bj),(bX s.kept)])),(1,(aG [(cI s.bj),(bX s.kept)]))] Tryz.func19 rfl rfl rfl rfl ?_
 intro W0 T0
 refine ck 0 1 rfl rfl (fun hlen0_1=>?_)
 refine ck 1 1 rfl rfl (fun hlen1_1=>?_)
 refine ag 3 rfl (af (bQ 19 (false) ?_ ?_))
 ·
  exact ah (ad 4 rfl (az (bm rfl rfl rfl (congrArg (fun b=>some (Value.bool b)) (decide_eq_false (fun h=>h rfl)))) rfl (ad 3 rfl (dg (aR.yes rfl rfl rfl) (cD rfl rfl gK) rfl rfl (ad 2 rfl (dg (aR.yes rfl rfl rfl) (cD rfl rfl gK) rfl rfl (dg (aR.yes rfl rfl rfl) (bm rfl rfl rfl (congrArg (fun b=>some (Value.bool b)) (decide_eq_false (fun h=>h rfl)))) rfl rfl (ad 1 rfl (ae (aq.pz 14 rfl))))))))))
 refine ax rfl (fun hno=>by cases hno) (fun _=>?_)
 refine aD (af (aw 2 rfl (az (cD rfl rfl gK) rfl (ad 1 rfl (ae (aL (cb (β:=Nat) (fun (q:Nat)=>⟨[(2,(aC (.p 0 0 0 0))),(3,(aC (.p 1 0 0 0))),(22,(aI (↑s.kept.length:Int))),(23,(aI (↑q:Int)))],[(1,(.box 31 [(cI s.bj),(bX s.kept)])),(0,(.box 31 [(cI s.bj),(bX s.kept)]))],2⟩) (fun (q:Nat)=>q<=s.kept.length) (fun (q:Nat)=>s.kept.length - q) 0 ?_ ?_ ?_)))))))
 ·exact (by first|omega|simp)
 ·exact aq.rz id
 rintro q hi0_0
 refine ag 1 rfl (af (aO rfl (fun hc2'=>?_) (fun hc2'=>?_)))
 ·
  refine aD (af (aL (ag 2 rfl (af ?_))))
  obtain ⟨x1,hx1⟩:=bO (xs:=s.kept) (i:=q) aa
  refine bg [2,3,22,23,5] [1,0] rfl (aF 3 rfl (bh 2 [27,28] [] rfl (dO (i:=q) rfl rfl rfl gK kS (aV hx1)) (aF 4 rfl (bh 2 [32,33] [] rfl (dO (i:=q) rfl rfl rfl gK kS (aV hx1)) (aF 1 rfl (bM 2 [30,35] [] rfl (bU.cast (oB (Kp _ _ _ _ _ _ _ _) rfl rfl rfl rfl rfl rfl) (congrArg aB (show (!(fI [.int .i64 x1.number,.int .i64 x1.kind,.int .i64 x1.ba,.int .i64 x1.sum] [.int .i64 x1.number,.int .i64 x1.kind,.int .i64 x1.ba,.int .i64 x1.sum]))=false by simp [fI,kv]))) rfl (bf [1,0] rfl (ae (ax rfl (fun hno=>by cases hno) (fun _=>?_))))))))))
  refine cv (aN (then_ok (ah (bl rfl rfl rfl rfl aa (ad 1 rfl (ae (⟨q+1,aa,bT,aq.rz id⟩)))))))
 refine bR (aE (aE (bw (then_ok (ag 1 rfl (al (ct bn [] 0 rfl rfl rfl rfl rfl rfl ?_ ?_)))))))
 ·rfl
 ·rfl
theorem Ay (s:cT):Fn Tryz.prog 15 [(.g [(cI s.cap),(dt s.used),(eo s.aH)]),(.g [(cI s.cap),(dt s.used),(eo s.aH)])] (aB true) []:=by
 refine Fn.mk' 66 [(0,(aG [(cI s.cap),(dt s.used),(eo s.aH)])),(1,(aG [(cI s.cap),(dt s.used),(eo s.aH)]))] Tryz.func15 rfl rfl rfl rfl ?_
 intro W0 T0
 refine ck 0 1 rfl rfl (fun hlen0_1=>?_)
 refine ck 0 2 rfl rfl (fun hlen0_2=>?_)
 refine ck 1 1 rfl rfl (fun hlen1_1=>?_)
 refine ck 1 2 rfl rfl (fun hlen1_2=>?_)
 refine ag 3 rfl (af (bQ 29 (false) ?_ ?_))
 ·
  exact ah (ad 4 rfl (az (bm rfl rfl rfl (congrArg (fun b=>some (Value.bool b)) (decide_eq_false (fun h=>h rfl)))) rfl (ad 3 rfl (dg (aR.yes rfl rfl rfl) (cD rfl rfl ed) rfl rfl (ad 2 rfl (dg (aR.yes rfl rfl rfl) (cD rfl rfl ed) rfl rfl (dg (aR.yes rfl rfl rfl) (bm rfl rfl rfl (congrArg (fun b=>some (Value.bool b)) (decide_eq_false (fun h=>h rfl)))) rfl rfl (ad 4 rfl (dg (aR.yes rfl rfl rfl) (cD rfl rfl iY) rfl rfl (ad 2 rfl (dg (aR.yes rfl rfl rfl) (cD rfl rfl iY) rfl rfl (dg (aR.yes rfl rfl rfl) (bm rfl rfl rfl (congrArg (fun b=>some (Value.bool b)) (decide_eq_false (fun h=>h rfl)))) rfl rfl (ad 1 rfl (ae (aq.pz 23 rfl)))))))))))))))
 refine ax rfl (fun hno=>by cases hno) (fun _=>?_)
 refine aD (af (aw 2 rfl (az (cD rfl rfl ed) rfl (ad 1 rfl (ae (aL (cb (β:=Nat) (fun (q:Nat)=>⟨[(2,(aC (.p 0 0 0 0))),(3,(aC (.p 1 0 0 0))),(32,(aI (↑s.used.length:Int))),(33,(aI (↑q:Int)))],[(1,(.box 38 [(cI s.cap),(dt s.used),(eo s.aH)])),(0,(.box 38 [(cI s.cap),(dt s.used),(eo s.aH)]))],2⟩) (fun (q:Nat)=>q<=s.used.length) (fun (q:Nat)=>s.used.length - q) 0 ?_ ?_ ?_)))))))
 ·exact (by first|omega|simp)
 ·exact aq.rz id
 rintro q hi0_0
 refine ag 1 rfl (af (aO rfl (fun hc2'=>?_) (fun hc2'=>?_)))
 ·
  refine aD (af (aL (ag 2 rfl (af ?_))))
  obtain ⟨x1,hx1⟩:=bO (xs:=s.used) (i:=q) aa
  refine bg [2,3,32,33,5] [1,0] rfl (aF 3 rfl (bh 2 [37,38] [] rfl (dO (i:=q) rfl rfl rfl ed eu (aV hx1)) (aF 4 rfl (bh 2 [42,43] [] rfl (dO (i:=q) rfl rfl rfl ed eu (aV hx1)) (bC (kn:=[(46,false)]) bn 2 rfl ⟨(decide_eq_false (fun h=>h rfl)),trivial⟩ (bf [1,0] rfl (ae (ax rfl (fun hno=>by cases hno) (fun _=>?_)))))))))
  refine cv (aN (then_ok (ah (bl rfl rfl rfl rfl aa (ad 1 rfl (ae (⟨q+1,aa,bT,aq.rz id⟩)))))))
 refine bR (aE (aE (bw (then_ok (af (aw 2 rfl (az (cD rfl rfl iY) rfl (ad 1 rfl (ae (aL (cb (β:=Nat) (fun (q1:Nat)=>⟨[(2,(aC (.p 0 0 0 0))),(3,(aC (.p 1 0 0 0))),(32,(aI (↑s.used.length:Int))),(33,(aI (↑q:Int))),(50,(aI (↑s.aH.length:Int))),(51,(aI (↑q1:Int)))],[(1,(.box 38 [(cI s.cap),(dt s.used),(eo s.aH)])),(0,(.box 38 [(cI s.cap),(dt s.used),(eo s.aH)]))],2⟩) (fun (q1:Nat)=>q1<=s.aH.length) (fun (q1:Nat)=>s.aH.length - q1) 0 ?_ ?_ ?_)))))))))))
 ·exact (by first|omega|simp)
 ·exact aq.rz id
 rintro q1 hi1_0
 refine ag 1 rfl (af (aO rfl (fun hc4'=>?_) (fun hc4'=>?_)))
 ·
  refine aD (af (aL (ag 2 rfl (af ?_))))
  obtain ⟨x1,hx1⟩:=bO (xs:=s.aH) (i:=q1) aa
  refine bg [2,3,32,33,50,51,6] [1,0] rfl (aF 3 rfl (bh 2 [55,56] [] rfl (dO (i:=q1) rfl rfl rfl iY tL (aV hx1)) (aF 4 rfl (bh 2 [60,61] [] rfl (dO (i:=q1) rfl rfl rfl iY tL (aV hx1)) (aF 1 rfl (bM 2 [58,63] [] rfl (bU.cast (oB (Ko _ _ _ _ _ _ _ _) rfl rfl rfl rfl rfl rfl) (congrArg aB (show (!(fI [.int .i64 x1.aA,.int .i64 x1.au,.int .i64 x1.sum,.int .i64 x1.time] [.int .i64 x1.aA,.int .i64 x1.au,.int .i64 x1.sum,.int .i64 x1.time]))=false by simp [fI,kv]))) rfl (bf [1,0] rfl (ae (ax rfl (fun hno=>by cases hno) (fun _=>?_))))))))))
  refine cv (aN (then_ok (ah (bl rfl rfl rfl rfl aa (ad 1 rfl (ae (⟨q1+1,aa,bT,aq.rz id⟩)))))))
 refine bR (aE (aE (bw (then_ok (ag 1 rfl (al (ct bn [] 0 rfl rfl rfl rfl rfl rfl ?_ ?_)))))))
 ·rfl
 ·rfl

theorem Jp (b:Bk) (y:List (List Int)):Fn Tryz.prog 8 [(.g [(cI b.time),(cB b.down),(jA b.ak),(dt b.due),(iQ b.an),(cI b.s0.bj),(bX b.s0.kept),(cI b.s1.bj),(bX b.s1.kept),(cI b.n0),(cI b.n1),(dj b.w0),(dj b.w1),(cI b.aQ.cap),(dt b.aQ.used),(eo b.aQ.aH),(eZ b.aM),(js y),(cE b.book)]),(.g [(cI b.time),(cB b.down),(jA b.ak),(dt b.due),(iQ b.an),(cI b.s0.bj),(bX b.s0.kept),(cI b.s1.bj),(bX b.s1.kept),(cI b.n0),(cI b.n1),(dj b.w0),(dj b.w1),(cI b.aQ.cap),(dt b.aQ.used),(eo b.aQ.aH),(eZ b.aM),(js y),(cE b.book)])] (aB true) []:=by
 refine Fn.mk' 216 [(0,(aG [(cI b.time),(cB b.down),(jA b.ak),(dt b.due),(iQ b.an),(cI b.s0.bj),(bX b.s0.kept),(cI b.s1.bj),(bX b.s1.kept),(cI b.n0),(cI b.n1),(dj b.w0),(dj b.w1),(cI b.aQ.cap),(dt b.aQ.used),(eo b.aQ.aH),(eZ b.aM),(js y),(cE b.book)])),(1,(aG [(cI b.time),(cB b.down),(jA b.ak),(dt b.due),(iQ b.an),(cI b.s0.bj),(bX b.s0.kept),(cI b.s1.bj),(bX b.s1.kept),(cI b.n0),(cI b.n1),(dj b.w0),(dj b.w1),(cI b.aQ.cap),(dt b.aQ.used),(eo b.aQ.aH),(eZ b.aM),(js y),(cE b.book)]))] Tryz.func8 rfl rfl rfl rfl ?_
 intro W0 T0
 refine ck 0 2 rfl rfl (fun hlen0_2=>?_)
 refine ck 0 3 rfl rfl (fun hlen0_3=>?_)
 refine ck 0 4 rfl rfl (fun hlen0_4=>?_)
 refine ck 0 6 rfl rfl (fun hlen0_6=>?_)
 refine ck 0 8 rfl rfl (fun hlen0_8=>?_)
 refine ck 0 11 rfl rfl (fun hlen0_11=>?_)
 refine ck 0 12 rfl rfl (fun hlen0_12=>?_)
 refine ck 0 14 rfl rfl (fun hlen0_14=>?_)
 refine ck 0 15 rfl rfl (fun hlen0_15=>?_)
 refine ck 0 16 rfl rfl (fun hlen0_16=>?_)
 refine ck 0 17 rfl rfl (fun hlen0_17=>?_)
 refine ck 0 18 rfl rfl (fun hlen0_18=>?_)
 refine ck 1 2 rfl rfl (fun hlen1_2=>?_)
 refine ck 1 3 rfl rfl (fun hlen1_3=>?_)
 refine ck 1 4 rfl rfl (fun hlen1_4=>?_)
 refine ck 1 6 rfl rfl (fun hlen1_6=>?_)
 refine ck 1 8 rfl rfl (fun hlen1_8=>?_)
 refine ck 1 11 rfl rfl (fun hlen1_11=>?_)
 refine ck 1 12 rfl rfl (fun hlen1_12=>?_)
 refine ck 1 14 rfl rfl (fun hlen1_14=>?_)
 refine ck 1 15 rfl rfl (fun hlen1_15=>?_)
 refine ck 1 16 rfl rfl (fun hlen1_16=>?_)
 refine ck 1 17 rfl rfl (fun hlen1_17=>?_)
 refine ck 1 18 rfl rfl (fun hlen1_18=>?_)
 refine ag 3 rfl (af (bQ 89 (false) ?_ ?_))
 ·
  exact Ey rfl (ad 4 rfl (az (bm rfl rfl rfl (congrArg (fun b=>some (Value.bool b)) (decide_eq_false (fun h=>h rfl)))) rfl (ad 5 rfl (dg (aR.yes rfl rfl rfl) (Ik Tryz.underlying4 rfl rfl rfl) rfl rfl (ad 3 rfl (dg (aR.yes rfl rfl rfl) (uf rfl rfl rfl kc rfl HK rfl rfl) rfl rfl (ad 1 rfl (dg (aR.yes rfl rfl rfl) (uf rfl rfl rfl kc rfl HK rfl rfl) rfl rfl (dg (aR.yes rfl rfl rfl) (yV (xs:=[.int .i64 b.n0,.int .i64 b.n1]) aJ (KN _ _) rfl rfl rfl rfl) rfl rfl (ad 4 rfl (dg (aR.yes rfl rfl rfl) (cD rfl rfl gy) rfl rfl (ad 2 rfl (dg (aR.yes rfl rfl rfl) (cD rfl rfl gy) rfl rfl (dg (aR.yes rfl rfl rfl) (bm rfl rfl rfl (congrArg (fun b=>some (Value.bool b)) (decide_eq_false (fun h=>h rfl)))) rfl rfl (ad 4 rfl (dg (aR.yes rfl rfl rfl) (cD rfl rfl ed) rfl rfl (ad 2 rfl (dg (aR.yes rfl rfl rfl) (cD rfl rfl ed) rfl rfl (dg (aR.yes rfl rfl rfl) (bm rfl rfl rfl (congrArg (fun b=>some (Value.bool b)) (decide_eq_false (fun h=>h rfl)))) rfl rfl (ad 4 rfl (dg (aR.yes rfl rfl rfl) (cD rfl rfl hG) rfl rfl (ad 2 rfl (dg (aR.yes rfl rfl rfl) (cD rfl rfl hG) rfl rfl (dg (aR.yes rfl rfl rfl) (bm rfl rfl rfl (congrArg (fun b=>some (Value.bool b)) (decide_eq_false (fun h=>h rfl)))) rfl rfl (ad 4 rfl (dg (aR.yes rfl rfl rfl) (cD rfl rfl vJ) rfl rfl (ad 2 rfl (dg (aR.yes rfl rfl rfl) (cD rfl rfl vJ) rfl rfl (dg (aR.yes rfl rfl rfl) (bm rfl rfl rfl (congrArg (fun b=>some (Value.bool b)) (decide_eq_false (fun h=>h rfl)))) rfl rfl (ad 6 rfl (kb 2 [1,0] (aR.yes rfl rfl rfl) (cA 2 (Ay b.aQ) LO rfl) rfl (ad 7 rfl (kb 2 [1,0] (aR.yes rfl rfl rfl) (cA 2 (xG b.aM) LN rfl) rfl (ad 7 rfl (kb 2 [1,0] (aR.yes rfl rfl rfl) (cA 2 (CK b.book) LM rfl) rfl (ad 2 rfl (ae (aq.pz 79 rfl))))))))))))))))))))))))))))))))))))))
 refine ax rfl (fun hno=>by cases hno) (fun _=>?_)
 refine aD (af (aw 2 rfl (az (cD rfl rfl gy) rfl (ad 1 rfl (ae (aL (cb (β:=Nat) (fun (q:Nat)=>⟨[(2,(aC (.p 0 0 0 0))),(3,(aC (.p 1 0 0 0))),(92,(aI (↑b.ak.length:Int))),(93,(aI (↑q:Int)))],[(1,(.box 43 [(cI b.time),(cB b.down),(jA b.ak),(dt b.due),(iQ b.an),(cI b.s0.bj),(bX b.s0.kept),(cI b.s1.bj),(bX b.s1.kept),(cI b.n0),(cI b.n1),(dj b.w0),(dj b.w1),(cI b.aQ.cap),(dt b.aQ.used),(eo b.aQ.aH),(eZ b.aM),(js y),(cE b.book)])),(0,(.box 43 [(cI b.time),(cB b.down),(jA b.ak),(dt b.due),(iQ b.an),(cI b.s0.bj),(bX b.s0.kept),(cI b.s1.bj),(bX b.s1.kept),(cI b.n0),(cI b.n1),(dj b.w0),(dj b.w1),(cI b.aQ.cap),(dt b.aQ.used),(eo b.aQ.aH),(eZ b.aM),(js y),(cE b.book)]))],2⟩) (fun (q:Nat)=>q<=b.ak.length) (fun (q:Nat)=>b.ak.length - q) 0 ?_ ?_ ?_)))))))
 ·exact (by first|omega|simp)
 ·exact aq.rz id
 rintro q hi0_0
 refine ag 1 rfl (af (aO rfl (fun hc2'=>?_) (fun hc2'=>?_)))
 ·
  refine aD (af (aL (ag 2 rfl (af ?_))))
  obtain ⟨x1,hx1⟩:=bO (xs:=b.ak) (i:=q) aa
  refine bg [2,3,92,93,5] [1,0] rfl (aF 3 rfl (bh 2 [97,98] [] rfl (dO (i:=q) rfl rfl rfl gy gX (aV hx1)) (aF 4 rfl (bh 2 [102,103] [] rfl (dO (i:=q) rfl rfl rfl gy gX (aV hx1)) (aF 1 rfl (bM 2 [100,105] [] rfl (cA 2 (CJ x1) LL rfl) rfl (aF 1 rfl (bf [1,0] rfl (ae (ax rfl (fun hno=>by cases hno) (fun _=>?_)))))))))))
  refine cv (aN (then_ok (ah (bl rfl rfl rfl rfl aa (ad 1 rfl (ae (⟨q+1,aa,bT,aq.rz id⟩)))))))
 refine bR (aE (aE (bw (then_ok (af (aw 2 rfl (az (cD rfl rfl ed) rfl (ad 1 rfl (ae (aL (cb (β:=Nat) (fun (q1:Nat)=>⟨[(2,(aC (.p 0 0 0 0))),(3,(aC (.p 1 0 0 0))),(92,(aI (↑b.ak.length:Int))),(93,(aI (↑q:Int))),(111,(aI (↑b.due.length:Int))),(112,(aI (↑q1:Int)))],[(1,(.box 43 [(cI b.time),(cB b.down),(jA b.ak),(dt b.due),(iQ b.an),(cI b.s0.bj),(bX b.s0.kept),(cI b.s1.bj),(bX b.s1.kept),(cI b.n0),(cI b.n1),(dj b.w0),(dj b.w1),(cI b.aQ.cap),(dt b.aQ.used),(eo b.aQ.aH),(eZ b.aM),(js y),(cE b.book)])),(0,(.box 43 [(cI b.time),(cB b.down),(jA b.ak),(dt b.due),(iQ b.an),(cI b.s0.bj),(bX b.s0.kept),(cI b.s1.bj),(bX b.s1.kept),(cI b.n0),(cI b.n1),(dj b.w0),(dj b.w1),(cI b.aQ.cap),(dt b.aQ.used),(eo b.aQ.aH),(eZ b.aM),(js y),(cE b.book)]))],2⟩) (fun (q1:Nat)=>q1<=b.due.length) (fun (q1:Nat)=>b.due.length - q1) 0 ?_ ?_ ?_)))))))))))
 ·exact (by first|omega|simp)
 ·exact aq.rz id
 rintro q1 hi1_0
 refine ag 1 rfl (af (aO rfl (fun hc4'=>?_) (fun hc4'=>?_)))
 ·
  refine aD (af (aL (ag 2 rfl (af ?_))))
  obtain ⟨x1,hx1⟩:=bO (xs:=b.due) (i:=q1) aa
  refine bg [2,3,92,93,111,112,6] [1,0] rfl (aF 3 rfl (bh 2 [116,117] [] rfl (dO (i:=q1) rfl rfl rfl ed eu (aV hx1)) (aF 4 rfl (bh 2 [121,122] [] rfl (dO (i:=q1) rfl rfl rfl ed eu (aV hx1)) (bC (kn:=[(125,false)]) bn 2 rfl ⟨(decide_eq_false (fun h=>h rfl)),trivial⟩ (bf [1,0] rfl (ae (ax rfl (fun hno=>by cases hno) (fun _=>?_)))))))))
  refine cv (aN (then_ok (ah (bl rfl rfl rfl rfl aa (ad 1 rfl (ae (⟨q1+1,aa,bT,aq.rz id⟩)))))))
 refine bR (aE (aE (bw (then_ok (af (aw 2 rfl (az (cD rfl rfl hG) rfl (ad 1 rfl (ae (aL (cb (β:=Nat) (fun (q2:Nat)=>⟨[(2,(aC (.p 0 0 0 0))),(3,(aC (.p 1 0 0 0))),(92,(aI (↑b.ak.length:Int))),(93,(aI (↑q:Int))),(111,(aI (↑b.due.length:Int))),(112,(aI (↑q1:Int))),(129,(aI (↑b.an.length:Int))),(130,(aI (↑q2:Int)))],[(1,(.box 43 [(cI b.time),(cB b.down),(jA b.ak),(dt b.due),(iQ b.an),(cI b.s0.bj),(bX b.s0.kept),(cI b.s1.bj),(bX b.s1.kept),(cI b.n0),(cI b.n1),(dj b.w0),(dj b.w1),(cI b.aQ.cap),(dt b.aQ.used),(eo b.aQ.aH),(eZ b.aM),(js y),(cE b.book)])),(0,(.box 43 [(cI b.time),(cB b.down),(jA b.ak),(dt b.due),(iQ b.an),(cI b.s0.bj),(bX b.s0.kept),(cI b.s1.bj),(bX b.s1.kept),(cI b.n0),(cI b.n1),(dj b.w0),(dj b.w1),(cI b.aQ.cap),(dt b.aQ.used),(eo b.aQ.aH),(eZ b.aM),(js y),(cE b.book)]))],2⟩) (fun (q2:Nat)=>q2<=b.an.length) (fun (q2:Nat)=>b.an.length - q2) 0 ?_ ?_ ?_)))))))))))
 ·exact (by first|omega|simp)
 ·exact aq.rz id
 rintro q2 hi2_0
 refine ag 1 rfl (af (aO rfl (fun hc6'=>?_) (fun hc6'=>?_)))
 ·
  refine aD (af (aL (ag 2 rfl (af ?_))))
  obtain ⟨x1,hx1⟩:=bO (xs:=b.an) (i:=q2) aa
  refine bg [2,3,92,93,111,112,129,130,7] [1,0] rfl (aF 3 rfl (bh 2 [134,135] [] rfl (dO (i:=q2) rfl rfl rfl hG ji (aV hx1)) (aF 4 rfl (bh 2 [139,140] [] rfl (dO (i:=q2) rfl rfl rfl hG ji (aV hx1)) (aF 1 rfl (bM 2 [137,142] [] rfl (bU.cast (oB (Kq _ _ _ _ _ _ _ _ _ _ _ _ _ _ _ _) rfl rfl rfl rfl rfl rfl) (congrArg aB (show (!(fI [.int .i64 x1.aA,.int .i64 x1.au,.int .i64 x1.sum,.int .i64 x1.captured,.int .i64 x1.bd,.int .i64 x1.aX,.int .i64 x1.da,.bool x1.shut] [.int .i64 x1.aA,.int .i64 x1.au,.int .i64 x1.sum,.int .i64 x1.captured,.int .i64 x1.bd,.int .i64 x1.aX,.int .i64 x1.da,.bool x1.shut]))=false by simp [fI,kv]))) rfl (bf [1,0] rfl (ae (ax rfl (fun hno=>by cases hno) (fun _=>?_))))))))))
  refine cv (aN (then_ok (ah (bl rfl rfl rfl rfl aa (ad 1 rfl (ae (⟨q2+1,aa,bT,aq.rz id⟩)))))))
 refine bR (aE (aE (bw (then_ok (af (aw 2 rfl (az (cD rfl rfl vJ) rfl (ad 1 rfl (ae (aL (cb (β:=Nat) (fun (q3:Nat)=>⟨[(2,(aC (.p 0 0 0 0))),(3,(aC (.p 1 0 0 0))),(92,(aI (↑b.ak.length:Int))),(93,(aI (↑q:Int))),(111,(aI (↑b.due.length:Int))),(112,(aI (↑q1:Int))),(129,(aI (↑b.an.length:Int))),(130,(aI (↑q2:Int))),(147,(aI (↑y.length:Int))),(148,(aI (↑q3:Int)))],[(1,(.box 43 [(cI b.time),(cB b.down),(jA b.ak),(dt b.due),(iQ b.an),(cI b.s0.bj),(bX b.s0.kept),(cI b.s1.bj),(bX b.s1.kept),(cI b.n0),(cI b.n1),(dj b.w0),(dj b.w1),(cI b.aQ.cap),(dt b.aQ.used),(eo b.aQ.aH),(eZ b.aM),(js y),(cE b.book)])),(0,(.box 43 [(cI b.time),(cB b.down),(jA b.ak),(dt b.due),(iQ b.an),(cI b.s0.bj),(bX b.s0.kept),(cI b.s1.bj),(bX b.s1.kept),(cI b.n0),(cI b.n1),(dj b.w0),(dj b.w1),(cI b.aQ.cap),(dt b.aQ.used),(eo b.aQ.aH),(eZ b.aM),(js y),(cE b.book)]))],2⟩) (fun (q3:Nat)=>q3<=y.length) (fun (q3:Nat)=>y.length - q3) 0 ?_ ?_ ?_)))))))))))
 ·exact (by first|omega|simp)
 ·exact aq.rz id
 rintro q3 hi3_0
 refine ag 1 rfl (af (aO rfl (fun hc8'=>?_) (fun hc8'=>?_)))
 ·
  refine aD (af (aL (ag 2 rfl (af ?_))))
  obtain ⟨x1,hx1⟩:=bO (xs:=y) (i:=q3) aa
  refine bg [2,3,92,93,111,112,129,130,147,148,8] [1,0] rfl (aF 3 rfl (bh 2 [152,153] [] rfl (dO (i:=q3) rfl rfl rfl vJ HJ (aV hx1)) (aF 1 rfl (bM 2 [155] [] rfl (vk (n:=x1.length) (l:=x1) rfl Tryz.underlying82 mW Tryz.underlying9 rfl (.d (by first|(simp;done)|rfl) (Nat.le_refl _) (by first|(simp;done)|exact List.take_of_length_le ca)) aa) rfl (aF 3 rfl (bh 2 [158,159] [] rfl (dO (i:=q3) rfl rfl rfl vJ HJ (aV hx1)) (aF 1 rfl (bM 2 [161] [] rfl (vk (n:=x1.length) (l:=x1) rfl Tryz.underlying82 mW Tryz.underlying9 rfl (.d (by first|(simp;done)|rfl) (Nat.le_refl _) (by first|(simp;done)|exact List.take_of_length_le ca)) aa) rfl (bM 2 [156,162] [] rfl (bU.cast (Fi rfl rfl rfl) (congrArg aB (by first|(rw [wz];done)|(rw [wz];rfl)))) rfl (bf [1,0] rfl (ae (ax rfl (fun hno=>by cases hno) (fun _=>?_)))))))))))))
  refine cv (aN (then_ok (ah (bl rfl rfl rfl rfl aa (ad 1 rfl (ae (⟨q3+1,aa,bT,aq.rz id⟩)))))))
 refine bR (aE (aE (bw (then_ok (af (ag 1 rfl (aL (cb (β:=Nat) (fun (i:Nat)=>⟨[(2,(aC (.p 0 0 0 0))),(3,(aC (.p 1 0 0 0))),(92,(aI (↑b.ak.length:Int))),(93,(aI (↑q:Int))),(111,(aI (↑b.due.length:Int))),(112,(aI (↑q1:Int))),(129,(aI (↑b.an.length:Int))),(130,(aI (↑q2:Int))),(147,(aI (↑y.length:Int))),(148,(aI (↑q3:Int))),(165,(aI (↑i:Int)))],[(1,(.box 43 [(cI b.time),(cB b.down),(jA b.ak),(dt b.due),(iQ b.an),(cI b.s0.bj),(bX b.s0.kept),(cI b.s1.bj),(bX b.s1.kept),(cI b.n0),(cI b.n1),(dj b.w0),(dj b.w1),(cI b.aQ.cap),(dt b.aQ.used),(eo b.aQ.aH),(eZ b.aM),(js y),(cE b.book)])),(0,(.box 43 [(cI b.time),(cB b.down),(jA b.ak),(dt b.due),(iQ b.an),(cI b.s0.bj),(bX b.s0.kept),(cI b.s1.bj),(bX b.s1.kept),(cI b.n0),(cI b.n1),(dj b.w0),(dj b.w1),(cI b.aQ.cap),(dt b.aQ.used),(eo b.aQ.aH),(eZ b.aM),(js y),(cE b.book)]))],2⟩) (fun (i:Nat)=>i<=2) (fun (i:Nat)=>2 - i) 0 ?_ ?_ ?_))))))))
 ·exact aa
 ·exact aq.rz id
 rintro i hi4_0
 refine ag 1 rfl (af (aO rfl (fun hc10'=>?_) (fun hc10'=>?_)))
 ·
  refine aD (af (aL ?_))
  rcases (show i=0\/i=1 from aa) with hs11|hs11
  ·
   refine ag 2 rfl (af (jS (i:=9) (v:=(aI 0)) (gl (ρ:=id) rfl aa) (af (bg [2,3,92,93,111,112,129,130,147,148,165,9] [1,0] rfl (aF 2 rfl (bh 2 [169,168] [0] rfl (du (i:=0) rfl rfl rfl jh jj) (aF 3 rfl (bh 2 [173,172] [1] rfl (du (i:=0) rfl rfl rfl jh jj) (aF 1 rfl (bM 2 [171,175] [] rfl (cA 2 (sF b.s0) IX rfl) rfl (aF 4 rfl (cG (n':=2) [180,179,178] [0] rfl rfl (.inl ⟨(aR.yes rfl rfl rfl),du (i:=0) rfl rfl rfl fJ fK⟩) rfl (aF 1 rfl (cG (n':=2) [182,178] [] rfl rfl (.inl ⟨(aR.yes rfl rfl rfl),cD rfl rfl ir⟩) rfl (aF 2 rfl (cG (n':=2) [185,184,178] [1] rfl rfl (.inl ⟨(aR.yes rfl rfl rfl),du (i:=0) rfl rfl rfl fJ fK⟩) rfl (aF 1 rfl (cG (n':=2) [187,178] [] rfl rfl (.inl ⟨(aR.yes rfl rfl rfl),cD rfl rfl ir⟩) rfl (bC (kn:=[(189,false)]) bn 2 rfl ⟨(decide_eq_false (fun h=>h rfl)),trivial⟩ (bf [1,0] rfl (ae (ax rfl (fun hno=>by cases hno) (fun _=>?_)))))))))))))))))))))))
   refine aD (aw 2 rfl (az (du (i:=0) rfl rfl rfl fJ fK) rfl (ad 1 rfl (az (cD rfl rfl ir) rfl (ad 1 rfl (ae (aL (cb (β:=Nat) (fun (q5:Nat)=>⟨[(2,(aC (.p 0 0 0 0))),(3,(aC (.p 1 0 0 0))),(92,(aI (↑b.ak.length:Int))),(93,(aI (↑q:Int))),(111,(aI (↑b.due.length:Int))),(112,(aI (↑q1:Int))),(129,(aI (↑b.an.length:Int))),(130,(aI (↑q2:Int))),(147,(aI (↑y.length:Int))),(148,(aI (↑q3:Int))),(165,(aI (↑i:Int))),(9,(aI 0)),(195,(aI (↑b.w0.length:Int))),(196,(aI (↑q5:Int)))],[(1,(.box 43 [(cI b.time),(cB b.down),(jA b.ak),(dt b.due),(iQ b.an),(cI b.s0.bj),(bX b.s0.kept),(cI b.s1.bj),(bX b.s1.kept),(cI b.n0),(cI b.n1),(dj b.w0),(dj b.w1),(cI b.aQ.cap),(dt b.aQ.used),(eo b.aQ.aH),(eZ b.aM),(js y),(cE b.book)])),(0,(.box 43 [(cI b.time),(cB b.down),(jA b.ak),(dt b.due),(iQ b.an),(cI b.s0.bj),(bX b.s0.kept),(cI b.s1.bj),(bX b.s1.kept),(cI b.n0),(cI b.n1),(dj b.w0),(dj b.w1),(cI b.aQ.cap),(dt b.aQ.used),(eo b.aQ.aH),(eZ b.aM),(js y),(cE b.book)]))],2⟩) (fun (q5:Nat)=>q5<=b.w0.length) (fun (q5:Nat)=>b.w0.length - q5) 0 ?_ ?_ ?_))))))))
   ·exact (by first|omega|simp)
   ·exact aq.rz id
   rintro q5 hi5_0
   refine ag 1 rfl (af (aO rfl (fun hc13'=>?_) (fun hc13'=>?_)))
   ·
    refine aD (af (aL (ag 2 rfl (af ?_))))
    obtain ⟨x1,hx1⟩:=bO (xs:=b.w0) (i:=q5) aa
    refine bg [2,3,92,93,111,112,129,130,147,148,165,9,195,196,10] [1,0] rfl (aF 2 rfl (bh 2 [200,199] [0] rfl (du (i:=0) rfl rfl rfl fJ fK) (aF 2 rfl (bh 2 [202,203] [] rfl (dO (i:=q5) rfl rfl rfl ir nV (aV hx1)) (aF 3 rfl (bh 2 [207,206] [1] rfl (du (i:=0) rfl rfl rfl fJ fK) (aF 2 rfl (bh 2 [209,210] [] rfl (dO (i:=q5) rfl rfl rfl ir nV (aV hx1)) (aF 1 rfl (bh 2 [205,212] [] rfl (yV (xs:=[.int .i64 x1.bD.number,.int .i64 x1.bD.kind,.int .i64 x1.bD.ba,.int .i64 x1.bD.sum,.int .i64 x1.seen]) aJ (HM _ _ _ _ _) rfl rfl rfl rfl) (bf [1,0] rfl (ae (ax rfl (fun hno=>by cases hno) (fun _=>?_))))))))))))))
    refine cv (aN (then_ok (ah (bl rfl rfl rfl rfl aa (ad 1 rfl (ae (⟨q5+1,aa,bT,aq.rz id⟩)))))))
   refine bR (aE (aE (bw (aN (then_ok (ah (bl rfl rfl rfl rfl aa (ad 1 rfl (ae (⟨i+1,aa,bT,aq.rz id⟩))))))))))
  refine ag 2 rfl (af (jS (i:=9) (v:=(aI 1)) (gl (ρ:=id) rfl aa) (af (bg [2,3,92,93,111,112,129,130,147,148,165,9] [1,0] rfl (aF 2 rfl (bh 2 [169,168] [0] rfl (du (i:=1) rfl rfl rfl jh jj) (aF 3 rfl (bh 2 [173,172] [1] rfl (du (i:=1) rfl rfl rfl jh jj) (aF 1 rfl (bM 2 [171,175] [] rfl (cA 2 (sF b.s1) IX rfl) rfl (aF 4 rfl (cG (n':=2) [180,179,178] [0] rfl rfl (.inl ⟨(aR.yes rfl rfl rfl),du (i:=1) rfl rfl rfl fJ fK⟩) rfl (aF 1 rfl (cG (n':=2) [182,178] [] rfl rfl (.inl ⟨(aR.yes rfl rfl rfl),cD rfl rfl ir⟩) rfl (aF 2 rfl (cG (n':=2) [185,184,178] [1] rfl rfl (.inl ⟨(aR.yes rfl rfl rfl),du (i:=1) rfl rfl rfl fJ fK⟩) rfl (aF 1 rfl (cG (n':=2) [187,178] [] rfl rfl (.inl ⟨(aR.yes rfl rfl rfl),cD rfl rfl ir⟩) rfl (bC (kn:=[(189,false)]) bn 2 rfl ⟨(decide_eq_false (fun h=>h rfl)),trivial⟩ (bf [1,0] rfl (ae (ax rfl (fun hno=>by cases hno) (fun _=>?_)))))))))))))))))))))))
  refine aD (aw 2 rfl (az (du (i:=1) rfl rfl rfl fJ fK) rfl (ad 1 rfl (az (cD rfl rfl ir) rfl (ad 1 rfl (ae (aL (cb (β:=Nat) (fun (q5:Nat)=>⟨[(2,(aC (.p 0 0 0 0))),(3,(aC (.p 1 0 0 0))),(92,(aI (↑b.ak.length:Int))),(93,(aI (↑q:Int))),(111,(aI (↑b.due.length:Int))),(112,(aI (↑q1:Int))),(129,(aI (↑b.an.length:Int))),(130,(aI (↑q2:Int))),(147,(aI (↑y.length:Int))),(148,(aI (↑q3:Int))),(165,(aI (↑i:Int))),(9,(aI 1)),(195,(aI (↑b.w1.length:Int))),(196,(aI (↑q5:Int)))],[(1,(.box 43 [(cI b.time),(cB b.down),(jA b.ak),(dt b.due),(iQ b.an),(cI b.s0.bj),(bX b.s0.kept),(cI b.s1.bj),(bX b.s1.kept),(cI b.n0),(cI b.n1),(dj b.w0),(dj b.w1),(cI b.aQ.cap),(dt b.aQ.used),(eo b.aQ.aH),(eZ b.aM),(js y),(cE b.book)])),(0,(.box 43 [(cI b.time),(cB b.down),(jA b.ak),(dt b.due),(iQ b.an),(cI b.s0.bj),(bX b.s0.kept),(cI b.s1.bj),(bX b.s1.kept),(cI b.n0),(cI b.n1),(dj b.w0),(dj b.w1),(cI b.aQ.cap),(dt b.aQ.used),(eo b.aQ.aH),(eZ b.aM),(js y),(cE b.book)]))],2⟩) (fun (q5:Nat)=>q5<=b.w1.length) (fun (q5:Nat)=>b.w1.length - q5) 0 ?_ ?_ ?_))))))))
  ·exact (by first|omega|simp)
  ·exact aq.rz id
  rintro q5 hi5_0
  refine ag 1 rfl (af (aO rfl (fun hc16'=>?_) (fun hc16'=>?_)))
  ·
   refine aD (af (aL (ag 2 rfl (af ?_))))
   obtain ⟨x1,hx1⟩:=bO (xs:=b.w1) (i:=q5) aa
   refine bg [2,3,92,93,111,112,129,130,147,148,165,9,195,196,10] [1,0] rfl (aF 2 rfl (bh 2 [200,199] [0] rfl (du (i:=1) rfl rfl rfl fJ fK) (aF 2 rfl (bh 2 [202,203] [] rfl (dO (i:=q5) rfl rfl rfl ir nV (aV hx1)) (aF 3 rfl (bh 2 [207,206] [1] rfl (du (i:=1) rfl rfl rfl fJ fK) (aF 2 rfl (bh 2 [209,210] [] rfl (dO (i:=q5) rfl rfl rfl ir nV (aV hx1)) (aF 1 rfl (bh 2 [205,212] [] rfl (yV (xs:=[.int .i64 x1.bD.number,.int .i64 x1.bD.kind,.int .i64 x1.bD.ba,.int .i64 x1.bD.sum,.int .i64 x1.seen]) aJ (HM _ _ _ _ _) rfl rfl rfl rfl) (bf [1,0] rfl (ae (ax rfl (fun hno=>by cases hno) (fun _=>?_))))))))))))))
   refine cv (aN (then_ok (ah (bl rfl rfl rfl rfl aa (ad 1 rfl (ae (⟨q5+1,aa,bT,aq.rz id⟩)))))))
  refine bR (aE (aE (bw (aN (then_ok (ah (bl rfl rfl rfl rfl aa (ad 1 rfl (ae (⟨i+1,aa,bT,aq.rz id⟩))))))))))
 refine bR (aE (aE (bw (then_ok (ag 1 rfl (al (ct bn [] 0 rfl rfl rfl rfl rfl rfl ?_ ?_)))))))
 ·rfl
 ·rfl
def mH (b:Bk):Bk×Int:=({b with ak:=(fU b.time b.an 0 b.ak b.an 0).1,an:=(fU b.time b.an 0 b.ak b.an 0).2.1},(fU b.time b.an 0 b.ak b.an 0).2.2)
def iV (b:Bk) (a:bG) (d:bW) (cs:List bF) (e:Int):List bF×List Int×List Entry×bK×bK×Int:=
 if d.move=2\/d.move=3 then (cs,b.due,(dp b.book e (10+a.aA) 1 d.sum).1,(ej b.s0 (dp b.book e (10+a.aA) 1 d.sum).2 ⟨0,1,d.n,d.sum⟩).1,b.s1,(ej b.s0 (dp b.book e (10+a.aA) 1 d.sum).2 ⟨0,1,d.n,d.sum⟩).2)
 else if d.move=5 then (cs,b.due.set a.au.toNat (IntKind.i64.wrap (b.due.getD a.au.toNat 0 - d.sum)),(dp b.book e (50+a.au) 1 d.sum).1,b.s0,(ej b.s1 (dp b.book e (50+a.au) 1 d.sum).2 ⟨0,2,d.n,d.sum⟩).1,(ej b.s1 (dp b.book e (50+a.au) 1 d.sum).2 ⟨0,2,d.n,d.sum⟩).2)
 else if d.move=6 then (cs,b.due,(dp b.book e 2 (10+a.aA) d.sum).1,b.s0,b.s1,(dp b.book e 2 (10+a.aA) d.sum).2)
 else if d.move=7 then (cs,b.due,b.book,(ej b.s0 e ⟨0,3,d.n,d.sum⟩).1,b.s1,(ej b.s0 e ⟨0,3,d.n,d.sum⟩).2)
 else if d.move=8 then (cs,b.due,(dp b.book e (10+a.aA) 2 d.sum).1,b.s0,b.s1,(dp b.book e (10+a.aA) 2 d.sum).2)
 else (cs,b.due,b.book,b.s0,b.s1,e)
def ze (b:Bk) (a:bG) (d:bW) (r:List bF×List Int×List Entry×bK×bK×Int):Bk×Int:=
 if b.aM.length>=100 then ({b with ak:=r.1,due:=r.2.1,book:=r.2.2.1,s0:=r.2.2.2.1,s1:=r.2.2.2.2.1},cp r.2.2.2.2.2 5)
 else ({b with ak:=r.1,due:=r.2.1,book:=r.2.2.1,s0:=r.2.2.2.1,s1:=r.2.2.2.2.1,aM:=b.aM++[⟨a.au,d.n,d.move,d.sum⟩],an:=b.an.set d.n.toNat a},r.2.2.2.2.2)
def hP (b:Bk) (d:bW):Bk×Int:=
 if b.down=true then (b,12)
 else if d.n < 0\/d.n>=b.an.length then (b,6)
 else match b.an[d.n.toNat]? with
  |none=>(b,0)
  |some cu=>
   if (bV cu d.move d.sum).2≠0 then (b,(bV cu d.move d.sum).2)
   else if d.move=1/\d.sum > jE b.ak (bV cu d.move d.sum).1.aA then (b,10)
   else ze b (bV cu d.move d.sum).1 d (iV b (bV cu d.move d.sum).1 d
    (cP b.ak 0 (bV cu d.move d.sum).1.aA (bE (bV cu d.move d.sum).1 - bE cu) (gF [(2,0 - d.sum),(3,0 - d.sum),(6,d.sum),(8,0 - d.sum)] d.move)).1
    (cP b.ak 0 (bV cu d.move d.sum).1.aA (bE (bV cu d.move d.sum).1 - bE cu) (gF [(2,0 - d.sum),(3,0 - d.sum),(6,d.sum),(8,0 - d.sum)] d.move)).2)
def ma (b:Bk) (lost:Bool):Bk×Int:=
 match b.w0[0]? with
 |none=>(b,6)
 |some p=>
  if lost=true then ({b with w0:=b.w0.drop 1},0)
  else if p.seen>=0 then (if (en b.s0 p.seen).2=0 then ({b with w0:=b.w0.drop 1,s0:=(en b.s0 p.seen).1},0) else ({b with w0:=b.w0.drop 1},(en b.s0 p.seen).2))
  else if p.bD.number≠IntKind.i64.wrap (b.n0+1)\/b.n0>=1000000 then ({b with w0:=b.w0.drop 1},0)
  else ({b with w0:=b.w0.drop 1,n0:=b.n0+1,due:=(eD b.an b.due b.ak b.book 0 p.bD).1,ak:=(eD b.an b.due b.ak b.book 0 p.bD).2.1,book:=(eD b.an b.due b.ak b.book 0 p.bD).2.2.1},(eD b.an b.due b.ak b.book 0 p.bD).2.2.2)
def lZ (b:Bk) (lost:Bool):Bk×Int:=
 match b.w1[0]? with
 |none=>(b,6)
 |some p=>
  if lost=true then ({b with w1:=b.w1.drop 1},0)
  else if p.seen>=0 then (if (en b.s1 p.seen).2=0 then ({b with w1:=b.w1.drop 1,s1:=(en b.s1 p.seen).1},0) else ({b with w1:=b.w1.drop 1},(en b.s1 p.seen).2))
  else if p.bD.number≠IntKind.i64.wrap (b.n1+1)\/b.n1>=1000000 then ({b with w1:=b.w1.drop 1},0)
  else ({b with w1:=b.w1.drop 1,n1:=b.n1+1,due:=(eD b.an b.due b.ak b.book 0 p.bD).1,ak:=(eD b.an b.due b.ak b.book 0 p.bD).2.1,book:=(eD b.an b.due b.ak b.book 0 p.bD).2.2.1},(eD b.an b.due b.ak b.book 0 p.bD).2.2.2)
def ei (b:Bk) (k:Int) (lost:Bool):Bk×Int:=if k=0 then ma b lost else if k=1 then lZ b lost else (b,6)
def kJ:List ch->List bF->List bG->Int->List bF×List bG×Int
 |[],cs,xs,e=>(cs,xs,e)
 |x::l,cs,xs,e=>
  match cs[x.aA.toNat]? with
  |none=>(cs,xs,e)
  |some c=>kJ l (cs.set x.aA.toNat (eB c x.sum).1) (xs++[(dm x.aA x.au x.sum x.time).1]) (cp (cp e (dm x.aA x.au x.sum x.time).2) (eB c x.sum).2)
theorem EB {l:List ch} {q:Nat} {x:ch} {cs:List bF} {xs:List bG} {e:Int} {c:bF} (h:l[q]?=some x) (hc:cs[x.aA.toNat]?=some c):
  kJ (l.drop q) cs xs e=kJ (l.drop (q+1)) (cs.set x.aA.toNat (eB c x.sum).1) (xs++[(dm x.aA x.au x.sum x.time).1]) (cp (cp e (dm x.aA x.au x.sum x.time).2) (eB c x.sum).2):=by
 obtain ⟨hq,rfl⟩:=List.getElem?_eq_some_iff.1 h
 rw [List.drop_eq_getElem_cons hq]
 conv=>lhs;unfold kJ
 rw [hc]
def qx (b:Bk):Bk:={b with ak:=(kJ b.aQ.aH b.ak b.an 0).1,an:=(kJ b.aQ.aH b.ak b.an 0).2.1,down:=false,aQ:=⟨b.aQ.cap,List.replicate (kJ b.aQ.aH b.ak b.an 0).1.length 0,[]⟩}
def fO (b:Bk) (days:List (List Int)) (d:bW):Bk×List (List Int)×Int×Int:=
 if d.kind=1 then
  (if d.n < 0\/d.n>=b.ak.length then (b,days,6,0) else if d.sum < 1\/d.sum > 1000000 then (b,days,3,0)
  else ({b with ak:=(cP b.ak 0 d.n 0 d.sum).1,book:=(dp b.book (cP b.ak 0 d.n 0 d.sum).2 0 (10+d.n) d.sum).1},days,(dp b.book (cP b.ak 0 d.n 0 d.sum).2 0 (10+d.n) d.sum).2,0))
 else if d.kind=2 then ((dw b d).1,days,(dw b d).2.err,(dw b d).2.ba)
 else if d.kind=3 then ((hP b d).1,days,(hP b d).2,0)
 else if d.kind=4 then
  (if d.sum < 0\/d.sum > 1000000\/b.time+d.sum > 1000000 then (b,days,3,0)
  else if b.down=true then ({b with time:=b.time+d.sum},days,0,0) else ((mH {b with time:=b.time+d.sum}).1,days,0,0))
 else if d.kind=6 then ((ei b d.n false).1,days,(ei b d.n false).2,0)
 else if d.kind=7 then ((ei b d.n true).1,days,(ei b d.n true).2,0)
 else if d.kind=8 then ({b with down:=true},days,if b.down=true then 8 else 0,0)
 else if d.kind=9 then
  (if b.down=false then (b,days,8,0)
  else if (kJ b.aQ.aH b.ak b.an 0).2.2=0 then ((mH (qx b)).1,days,(mH (qx b)).2,0)
  else (qx b,days,(kJ b.aQ.aH b.ak b.an 0).2.2,0))
 else if d.kind=10 then ({b with aM:=[]},days++[(iy b.aM).1],(iy b.aM).2.err,0)
 else if d.kind=11 then
  (if d.n < 0\/d.n>=b.due.length then (b,days,6,0) else if b.due.getD d.n.toNat 0 < 1 then (b,days,10,0)
  else ({b with due:=b.due.set d.n.toNat 0,book:=(dp b.book 0 (50+d.n) 0 (b.due.getD d.n.toNat 0)).1},days,(dp b.book 0 (50+d.n) 0 (b.due.getD d.n.toNat 0)).2,0))
 else (b,days,1,0)
def jL (s0 s1:bK) (n0 n1:Int) (w0 w1:List bL) (d:bW):List bL×List bL×Int:=
 if d.n=0 then (w0,ka w1 s0.kept n0,if (ka w1 s0.kept n0).length > 60 then 5 else 0)
 else if d.n=1 then (ka w0 s1.kept n1,w1,if (ka w0 s1.kept n1).length > 60 then 5 else 0) else (w0,w1,6)

theorem pL (a:bG) (e:Int) (hr:bI a=e):Fn Tryz.prog 50 [(.g [(cI a.aA),(cI a.au),(cI a.sum),(cI a.captured),(cI a.bd),(cI a.aX),(cI a.da),(cB a.shut)])] (.v (.c (cI e))) []:=by
 refine Fn.mk' 70 [(0,(aG [(cI a.aA),(cI a.au),(cI a.sum),(cI a.captured),(cI a.bd),(cI a.aX),(cI a.da),(cB a.shut)]))] Tryz.func50 rfl rfl rfl rfl ?_
 intro W0 T0
 refine ag 2 rfl (af (bQ 54 ((((((((((!(aT a.sum))||(!(aT a.captured)))||(!(aT a.bd)))||(!(aT a.aX)))||(decide (a.aA < 0)))||(decide (a.aA > 7)))||(decide (a.au < 0)))||(decide (a.au > 7)))||(decide (a.da < 0)))||(decide (a.da > 1000100))) ?_ ?_))
 ·
  refine ah (ad 2 rfl (ay 1 [0] (cA 1 (oC a.sum) qX rfl) rfl (ad 2 rfl (iz (t:=7) rfl (fun hb1=>?_) (fun hb1=>?_)))))
  ·
   have hb1':=hb1;try simp only [aT,bx] at hb1'
   exact ad 47 rfl (ae (aq.pz 53 rfl))
  have hb1':=hb1;try simp only [aT,bx] at hb1'
  refine ad 2 rfl (kb 1 [0] (aR.yes rfl rfl rfl) (cA 1 (oC a.captured) qX rfl) rfl (ad 3 rfl (iz (t:=13) rfl (fun hb2=>?_) (fun hb2=>?_))))
  ·
   have hb2':=hb2;try simp only [aT,bx] at hb2'
   exact ad 41 rfl (ae (aq.pz 54 rfl))
  have hb2':=hb2;try simp only [aT,bx] at hb2'
  refine ad 2 rfl (kb 1 [0] (aR.yes rfl rfl rfl) (cA 1 (oC a.bd) qX rfl) rfl (ad 3 rfl (iz (t:=19) rfl (fun hb3=>?_) (fun hb3=>?_))))
  ·
   have hb3':=hb3;try simp only [aT,bx] at hb3'
   exact ad 35 rfl (ae (aq.pz 55 rfl))
  have hb3':=hb3;try simp only [aT,bx] at hb3'
  refine ad 2 rfl (kb 1 [0] (aR.yes rfl rfl rfl) (cA 1 (oC a.aX) qX rfl) rfl (ad 3 rfl (iz (t:=25) rfl (fun hb4=>?_) (fun hb4=>?_))))
  ·
   have hb4':=hb4;try simp only [aT,bx] at hb4'
   exact ad 29 rfl (ae (aq.pz 56 rfl))
  have hb4':=hb4;try simp only [aT,bx] at hb4'
  refine ad 5 rfl (bz 30 rfl (fun hb5'=>?_) (fun hb5'=>?_))
  ·
   exact ad 24 rfl (ae (aq.pz 57 rfl))
  refine ad 5 rfl (bz 35 rfl (fun hb6'=>?_) (fun hb6'=>?_))
  ·
   exact ad 19 rfl (ae (aq.pz 58 rfl))
  refine ad 5 rfl (bz 40 rfl (fun hb7'=>?_) (fun hb7'=>?_))
  ·
   exact ad 14 rfl (ae (aq.pz 59 rfl))
  refine ad 5 rfl (bz 45 rfl (fun hb8'=>?_) (fun hb8'=>?_))
  ·
   exact ad 9 rfl (ae (aq.pz 60 rfl))
  refine ad 5 rfl (bz 50 rfl (fun hb9'=>?_) (fun hb9'=>?_))
  ·
   exact ad 4 rfl (ae (aq.pz 61 rfl))
  exact ad 4 rfl (ae (aq.pz 61 rfl))
 refine ax rfl (fun hc10=>?_) (fun hc10=>?_)
 ·
  have hc10':=hc10;try simp only [aT,bx] at hc10'
  refine ag 1 rfl (al (aj ?_))
  have hX:bI a=3:=by
    (unfold bI;try dsimp only);exact sx
  rw [hX] at hr;clear hX
  subst hr
  refine ct bn [] 0 rfl rfl rfl rfl rfl rfl ?_ ?_
  all_goals first|rfl|(simp [cq,cf,cL];done)|(simp [cq,cf,cL];omega)
 have hc10':=hc10;try simp only [aT,bx] at hc10'
 refine aD (af (bQ 69 ((decide (a.sum < a.captured))||(decide (a.captured < (a.bd+a.aX)))) ?_ ?_))
 ·
  refine ah (ad 6 rfl (bz 60 rfl (fun hb11'=>?_) (fun hb11'=>?_)))
  ·
   exact ad 9 rfl (ae (aq.pz 16 rfl))
  exact ad 6 rfl (dg (aR.yes rfl rfl rfl) (bm rfl rfl rfl (bH aa)) rfl rfl (ad 2 rfl (ae (aq.pz 16 rfl))))
 refine ax rfl (fun hc12=>?_) (fun hc12=>?_)
 ·
  have hc12':=hc12;try simp only [aT,bx] at hc12'
  refine ag 1 rfl (al (aj ?_))
  have hX:bI a=8:=by
    (unfold bI;try dsimp only);exact sx
  rw [hX] at hr;clear hX
  subst hr
  refine ct bn [] 0 rfl rfl rfl rfl rfl rfl ?_ ?_
  all_goals first|rfl|(simp [cq,cf,cL];done)|(simp [cq,cf,cL];omega)
 have hc12':=hc12;try simp only [aT,bx] at hc12'
 refine aD (ag 1 rfl (al ?_))
 have hX:bI a=0:=by
   (unfold bI;try dsimp only);exact sx
 rw [hX] at hr;clear hX
 subst hr
 refine ct bn [] 0 rfl rfl rfl rfl rfl rfl ?_ ?_
 all_goals first|rfl|(simp [cq,cf,cL];done)|(simp [cq,cf,cL];omega)
theorem xm (aA au n time:Int) (b:bG) (e:Int) (hr:dm aA au n time=(b,e)):Fn Tryz.prog 28 [(.c (cI aA)),(.c (cI au)),(.c (cI n)),(.c (cI time))] (.t [(.g [(cI b.aA),(cI b.au),(cI b.sum),(cI b.captured),(cI b.bd),(cI b.aX),(cI b.da),(cB b.shut)]),(.c (cI e))]) []:=by
 refine Fn.mk' 35 [(0,(aI aA)),(1,(aI au)),(2,(aI n)),(3,(aI time))] Tryz.func28 rfl rfl rfl rfl ?_
 intro W0 T0
 refine ag 2 rfl (ag 6 rfl (af ?_))
 obtain ⟨e0,hr0⟩:∃ (e0:Int),bI (⟨aA,au,n,0,0,0,100,false⟩:bG)=e0:=⟨_,rfl⟩
 refine bQ 29 ((((decide (n < 1))||(decide (time < 0)))||(decide (time > 1000000)))||(decide (¬e0=0))) ?_ ?_
 ·
  refine ah (ad 3 rfl (bz 17 rfl (fun hb1'=>?_) (fun hb1'=>?_)))
  ·
   exact ad 12 rfl (ae (aq.pz 16 rfl))
  refine ad 4 rfl (bz 21 rfl (fun hb2'=>?_) (fun hb2'=>?_))
  ·
   exact ad 8 rfl (ae (aq.pz 17 rfl))
  refine ad 4 rfl (bz 25 rfl (fun hb3'=>?_) (fun hb3'=>?_))
  ·
   exact ad 4 rfl (ae (aq.pz 18 rfl))
  exact ad 1 rfl (kb 2 [1,0] (aR.yes rfl rfl rfl) (cA 2 (pL (⟨aA,au,n,0,0,0,100,false⟩:bG) e0 hr0) IM rfl) rfl (ad 2 rfl (ae (aq.pz 18 rfl))))
 refine ax rfl (fun hc4=>?_) (fun hc4=>?_)
 ·
  have hc4':=hc4;try simp only [aT,bx] at hc4'
  refine ag 3 rfl (al (aj ?_))
  have hX:dm aA au n time=((⟨0,0,0,0,0,0,0,false⟩:bG),3):=by
    (try (unfold bI at hr0;dsimp only at hr0;(repeat' split at hr0)))<;>((unfold dm;try dsimp only);exact sx)
  cases hX.symm.trans hr;clear hX
  refine ct bn [0] 0 rfl rfl rfl rfl rfl rfl ?_ ?_
  all_goals first|rfl|(simp [cq,cf,cL];done)|(simp [cq,cf,cL];omega)
 have hc4':=hc4;try simp only [aT,bx] at hc4'
 refine aD (aw 1 rfl (bl rfl rfl rfl rfl aa (ad 2 rfl (ae (ag 3 rfl (al ?_))))))
 have hX:dm aA au n time=((⟨aA,au,n,0,0,0,time+100,false⟩:bG),0):=by
   (try (unfold bI at hr0;dsimp only at hr0;(repeat' split at hr0)))<;>((unfold dm;try dsimp only);exact sx)
 cases hX.symm.trans hr;clear hX
 refine ct bn [0] 0 rfl rfl rfl rfl rfl rfl ?_ ?_
 all_goals first|rfl|(simp [cq,cf,cL];done)|(simp [cq,cf,cL];omega)
theorem oD (a:bG) (ha:bI a=0) (e:Int) (hr:bE a=e):Fn Tryz.prog 46 [(.g [(cI a.aA),(cI a.au),(cI a.sum),(cI a.captured),(cI a.bd),(cI a.aX),(cI a.da),(cB a.shut)])] (.v (.c (cI e))) []:=by
 refine Fn.mk' 12 [(0,(aG [(cI a.aA),(cI a.au),(cI a.sum),(cI a.captured),(cI a.bd),(cI a.aX),(cI a.da),(cB a.shut)]))] Tryz.func46 rfl rfl rfl rfl ?_
 intro W0 T0
 have hw:=dA ha
 refine ag 2 rfl (aw 4 rfl (bl rfl rfl rfl rfl aa (ad 1 rfl (ae (af (ag 2 rfl (ax rfl (fun hc1=>?_) (fun hc1=>?_))))))))
 ·
  have hc1':=hc1;try simp only [aT,bx] at hc1'
  refine ah (ad 1 rfl (ae (ag 2 rfl (al ?_))))
  have hX:bE a=0:=by
    (unfold bE;try dsimp only);exact sx
  rw [hX] at hr;clear hX
  subst hr
  refine ct bn [] 0 rfl rfl rfl rfl rfl rfl ?_ ?_
  all_goals first|rfl|(simp [cq,cf,cL];done)|(simp [cq,cf,cL];omega)
 have hc1':=hc1;try simp only [aT,bx] at hc1'
 refine aD (ag 2 rfl (al ?_))
 have hX:bE a=(a.sum - a.captured):=by
   (unfold bE;try dsimp only);exact sx
 rw [hX] at hr;clear hX
 subst hr
 refine ct bn [] 0 rfl rfl rfl rfl rfl rfl ?_ ?_
 all_goals first|rfl|(simp [cq,cf,cL];done)|(simp [cq,cf,cL];omega)
theorem CE (a:bG) (t:Int) (b:bG) (hr:dF a t=b):Fn Tryz.prog 48 [(.g [(cI a.aA),(cI a.au),(cI a.sum),(cI a.captured),(cI a.bd),(cI a.aX),(cI a.da),(cB a.shut)]),(.c (cI t))] (.v (.g [(cI b.aA),(cI b.au),(cI b.sum),(cI b.captured),(cI b.bd),(cI b.aX),(cI b.da),(cB b.shut)])) []:=by
 refine Fn.mk' 15 [(0,(aG [(cI a.aA),(cI a.au),(cI a.sum),(cI a.captured),(cI a.bd),(cI a.aX),(cI a.da),(cB a.shut)])),(1,(aI t))] Tryz.func48 rfl rfl rfl rfl ?_
 intro W0 T0
 refine ag 2 rfl (aw 3 rfl (iz (t:=7) rfl (fun hb1=>?_) (fun hb1=>?_)))
 ·
  have hb1':=hb1;try simp only [aT,bx] at hb1'
  refine ad 7 rfl (ae (ag 2 rfl (al ?_)))
  have hX:dF a t=(⟨a.aA,a.au,a.sum,a.captured,a.bd,a.aX,a.da,true⟩:bG):=by
    refine nz rfl rfl rfl rfl rfl rfl rfl ?_;by_cases hT:a.da<=t<;>first|(exfalso;omega)|(simp [dF,hT];done)|(clear hr;simp_all [dF,hT])
  rw [hX] at hr;clear hX
  subst hr
  refine ct bn [1] 0 rfl rfl rfl rfl rfl rfl ?_ ?_
  all_goals first|rfl|(simp [cq,cf,cL];done)|(simp [cq,cf,cL];omega)
 have hb1':=hb1;try simp only [aT,bx] at hb1'
 refine ad 7 rfl (ae (ag 2 rfl (al ?_)))
 have hX:dF a t=(⟨a.aA,a.au,a.sum,a.captured,a.bd,a.aX,a.da,decide (a.da<=t)⟩:bG):=by
   refine nz rfl rfl rfl rfl rfl rfl rfl ?_;by_cases hT:a.da<=t<;>first|(exfalso;omega)|(simp [dF,hT];done)|(clear hr;simp_all [dF,hT])
 rw [hX] at hr;clear hX
 subst hr
 refine ct bn [1] 0 rfl rfl rfl rfl rfl rfl ?_ ?_
 all_goals first|rfl|(simp [cq,cf,cL];done)|(simp [cq,cf,cL];omega)
def jW (a:bG) (k n:Int):Int×Int×Int×Int:=
 if k=1 then (a.sum+n,a.captured,a.bd,a.aX)
 else if k=4 then (a.sum - n,a.captured,a.bd,a.aX)
 else if k=2\/k=3 then (a.sum,a.captured+n,a.bd,a.aX)
 else if k=5 then (a.sum,a.captured,a.bd+n,a.aX)
 else if k=6 then (a.sum,a.captured,a.bd,a.aX+n)
 else if k=7 then (a.sum,a.captured,a.bd+n,a.aX - n)
 else (a.sum,a.captured,a.bd,a.aX - n)
def xK (a:bG):List (Int×Int):=[(1,1000000 - a.sum),(2,a.sum - a.captured),(3,a.sum - a.captured),(4,a.sum - a.captured),(5,a.captured - a.bd - a.aX),(6,a.captured - a.bd - a.aX),(7,a.aX),(8,a.aX)]
theorem DG {k:Int} (h:¬(k < 1\/k > 8)):k=1\/k=2\/k=3\/k=4\/k=5\/k=6\/k=7\/k=8:=aa
theorem Bj {a:bG} {k n:Int} (hw:bI a=0) (hk:¬(k < 1\/k > 8)) (hn:¬(n < 1\/n > 1000000)) (hs:k<=4->a.shut=false) (h:n > gF (xK a) k):bV a k n=(kA,if k=1 then 4 else 10):=by
 rcases DG hk with rfl|rfl|rfl|rfl|rfl|rfl|rfl|rfl<;>simp [xK,gF] at h<;>simp [bV,eK,hw,hs,h]<;>omega
theorem yD {a:bG} {k n s c r d:Int} (hw:bI a=0) (hk:¬(k < 1\/k > 8)) (hn:¬(n < 1\/n > 1000000)) (hs:k<=4->a.shut=false) (h:¬n > gF (xK a) k) (hj:jW a k n=(s,c,r,d)):
  bV a k n=(⟨a.aA,a.au,s,c,r,d,a.da,a.shut||(decide (k=3)||(decide (k=2)||decide (k=4)) && decide (s=c))⟩,0):=by
 have hq:=dA hw
 have hn':¬(n < 1\/1000000 < n):=hn
 rcases DG hk with rfl|rfl|rfl|rfl|rfl|rfl|rfl|rfl<;>simp [xK,gF] at h<;>simp [jW] at hj<;>obtain ⟨rfl,rfl,rfl,rfl⟩:=hj<;>simp [bV,eK,hw,hs,hn',Int.not_lt.2 h]
 exact eq_comm

theorem zv (a:bG) (kind n:Int) (b:bG) (e:Int) (hr:bV a kind n=(b,e)):Fn Tryz.prog 45 [(.g [(cI a.aA),(cI a.au),(cI a.sum),(cI a.captured),(cI a.bd),(cI a.aX),(cI a.da),(cB a.shut)]),(.c (cI kind)),(.c (cI n))] (.t [(.g [(cI b.aA),(cI b.au),(cI b.sum),(cI b.captured),(cI b.bd),(cI b.aX),(cI b.da),(cB b.shut)]),(.c (cI e))]) []:=by
 refine Fn.mk' 161 [(0,(aG [(cI a.aA),(cI a.au),(cI a.sum),(cI a.captured),(cI a.bd),(cI a.aX),(cI a.da),(cB a.shut)])),(1,(aI kind)),(2,(aI n))] Tryz.func45 rfl rfl rfl rfl ?_
 intro W0 T0
 refine ag 3 rfl (af (aw 1 rfl ?_))
 obtain ⟨e0,hr0⟩:∃ (e0:Int),bI a=e0:=⟨_,rfl⟩
 refine ay 2 [1,0] (cA 2 (pL a e0 hr0) IM rfl) rfl (ad 1 rfl (ae (ag 2 rfl (aO rfl (fun hc1'=>?_) (fun hc1'=>?_)))))
 ·
  refine ag 4 rfl (al (aj ?_))
  have hX:bV a kind n=((⟨0,0,0,0,0,0,0,false⟩:bG),e0):=by
    (unfold bV;rw [if_pos aa,hr0];rfl)
  cases hX.symm.trans hr;clear hX
  refine ct bn [1] 0 rfl rfl rfl rfl rfl rfl ?_ ?_
  all_goals first|rfl|(simp [cq,cf,cL];done)|(simp [cq,cf,cL];omega)
 refine aD (af (bQ 21 ((decide (kind < 1))||(decide (kind > 8))) ?_ ?_))
 ·
  refine ah (ad 3 rfl (bz 18 rfl (fun hb2'=>?_) (fun hb2'=>?_)))
  ·
   exact ad 3 rfl (ae (aq.pz 7 rfl))
  exact ad 3 rfl (ae (aq.pz 7 rfl))
 refine ax rfl (fun hc3=>?_) (fun hc3=>?_)
 ·
  have hc3':=hc3;try simp only [aT,bx] at hc3'
  refine ag 3 rfl (al (aj ?_))
  have hX:bV a kind n=((⟨0,0,0,0,0,0,0,false⟩:bG),1):=by
    (unfold bV;rw [if_neg aa,if_pos aa];rfl)
  cases hX.symm.trans hr;clear hX
  refine ct bn [1] 0 rfl rfl rfl rfl rfl rfl ?_ ?_
  all_goals first|rfl|(simp [cq,cf,cL];done)|(simp [cq,cf,cL];omega)
 have hc3':=hc3;try simp only [aT,bx] at hc3'
 refine aD (af (bQ 28 ((decide (n < 1))||(decide (n > 1000000))) ?_ ?_))
 ·
  refine ah (ad 3 rfl (bz 25 rfl (fun hb4'=>?_) (fun hb4'=>?_)))
  ·
   exact ad 3 rfl (ae (aq.pz 7 rfl))
  exact ad 3 rfl (ae (aq.pz 7 rfl))
 refine ax rfl (fun hc5=>?_) (fun hc5=>?_)
 ·
  have hc5':=hc5;try simp only [aT,bx] at hc5'
  refine ag 3 rfl (al (aj ?_))
  have hX:bV a kind n=((⟨0,0,0,0,0,0,0,false⟩:bG),3):=by
    (unfold bV;rw [if_neg aa,if_neg aa,if_pos aa];rfl)
  cases hX.symm.trans hr;clear hX
  refine ct bn [1] 0 rfl rfl rfl rfl rfl rfl ?_ ?_
  all_goals first|rfl|(simp [cq,cf,cL];done)|(simp [cq,cf,cL];omega)
 have hc5':=hc5;try simp only [aT,bx] at hc5'
 refine aD (af (bQ 35 ((decide (kind<=4)) && a.shut) ?_ ?_))
 ·
  refine ah (ad 3 rfl (bz 32 rfl (fun hb6'=>?_) (fun hb6'=>?_)))
  ·
   exact ad 3 rfl (ae (aq.pz 7 rfl))
  exact ad 3 rfl (ae (aq.pz 7 rfl))
 refine ax rfl (fun hc7=>?_) (fun hc7=>?_)
 ·
  have hc7':=hc7;try simp only [aT,bx] at hc7'
  refine ag 3 rfl (al (aj ?_))
  have hX:bV a kind n=((⟨0,0,0,0,0,0,0,false⟩:bG),9):=by
    (obtain ⟨k4,ks⟩:=hc7';unfold bV eK;(repeat' (first|rw [if_pos ks]|rw [if_pos aa]|rw [if_neg aa]|fail));simp [kA])
  cases hX.symm.trans hr;clear hX
  refine ct bn [1] 0 rfl rfl rfl rfl rfl rfl ?_ ?_
  all_goals first|rfl|(simp [cq,cf,cL];done)|(simp [cq,cf,cL];omega)
 have hc7':=hc7;try simp only [aT,bx] at hc7'
 refine aD (dq (ay 3 [2,1,0] (sg 2 rfl) rfl (ad 2 rfl (az (bm rfl rfl rfl (bH (by first|omega|(simp;done)|(simp;omega)|(have hq:=dA (hr0.trans aa);omega)))) rfl (eP [2,1,0] (jb (ps':=[(1,1000000 - a.sum)]) kL eA rfl rfl rfl rfl rfl rfl rfl) rfl (ad 4 rfl (az (bm rfl rfl rfl (bH (by first|omega|(simp;done)|(simp;omega)|(have hq:=dA (hr0.trans aa);omega)))) rfl (eP [2,1,0] (jb (ps':=[(1,1000000 - a.sum),(2,a.sum - a.captured)]) kL eA rfl rfl rfl rfl rfl rfl rfl) rfl (ad 4 rfl (az (bm rfl rfl rfl (bH (by first|omega|(simp;done)|(simp;omega)|(have hq:=dA (hr0.trans aa);omega)))) rfl (eP [2,1,0] (jb (ps':=[(1,1000000 - a.sum),(2,a.sum - a.captured),(3,a.sum - a.captured)]) kL eA rfl rfl rfl rfl rfl rfl rfl) rfl (ad 4 rfl (az (bm rfl rfl rfl (bH (by first|omega|(simp;done)|(simp;omega)|(have hq:=dA (hr0.trans aa);omega)))) rfl (eP [2,1,0] (jb (ps':=[(1,1000000 - a.sum),(2,a.sum - a.captured),(3,a.sum - a.captured),(4,a.sum - a.captured)]) kL eA rfl rfl rfl rfl rfl rfl rfl) rfl (ad 4 rfl (az (bm rfl rfl rfl (bH (by first|omega|(simp;done)|(simp;omega)|(have hq:=dA (hr0.trans aa);omega)))) rfl (ad 2 rfl (az (bm rfl rfl rfl (bH (by first|omega|(simp;done)|(simp;omega)|(have hq:=dA (hr0.trans aa);omega)))) rfl (eP [2,1,0] (jb (ps':=[(1,1000000 - a.sum),(2,a.sum - a.captured),(3,a.sum - a.captured),(4,a.sum - a.captured),(5,(a.captured - a.bd) - a.aX)]) kL eA rfl rfl rfl rfl rfl rfl rfl) rfl (ad 4 rfl (az (bm rfl rfl rfl (bH (by first|omega|(simp;done)|(simp;omega)|(have hq:=dA (hr0.trans aa);omega)))) rfl (ad 2 rfl (az (bm rfl rfl rfl (bH (by first|omega|(simp;done)|(simp;omega)|(have hq:=dA (hr0.trans aa);omega)))) rfl (eP [2,1,0] (jb (ps':=[(1,1000000 - a.sum),(2,a.sum - a.captured),(3,a.sum - a.captured),(4,a.sum - a.captured),(5,(a.captured - a.bd) - a.aX),(6,(a.captured - a.bd) - a.aX)]) kL eA rfl rfl rfl rfl rfl rfl rfl) rfl (ad 2 rfl (eP [2,1,0] (jb (ps':=[(1,1000000 - a.sum),(2,a.sum - a.captured),(3,a.sum - a.captured),(4,a.sum - a.captured),(5,(a.captured - a.bd) - a.aX),(6,(a.captured - a.bd) - a.aX),(7,a.aX)]) kL eA rfl rfl rfl rfl rfl rfl rfl) rfl (ad 2 rfl (eP [2,1,0] (jb (ps':=[(1,1000000 - a.sum),(2,a.sum - a.captured),(3,a.sum - a.captured),(4,a.sum - a.captured),(5,(a.captured - a.bd) - a.aX),(6,(a.captured - a.bd) - a.aX),(7,a.aX),(8,a.aX)]) kL eA rfl rfl rfl rfl rfl rfl rfl) rfl (ad 2 rfl (az (yW (ps:=[(1,1000000 - a.sum),(2,a.sum - a.captured),(3,a.sum - a.captured),(4,a.sum - a.captured),(5,(a.captured - a.bd) - a.aX),(6,(a.captured - a.bd) - a.aX),(7,a.aX),(8,a.aX)]) kL eA uB rfl rfl rfl rfl) rfl (ad 1 rfl (ae (af (ag 3 rfl (aO rfl (fun hc8'=>?_) (fun hc8'=>?_))))))))))))))))))))))))))))))))))))
 ·
  refine af (ag 2 rfl (aO rfl (fun hc9'=>?_) (fun hc9'=>?_)))
  ·
   refine ag 3 rfl (al (aj (aj ?_)))
   have hX:bV a kind n=((⟨0,0,0,0,0,0,0,false⟩:bG),4):=by
     rw [Bj (hr0.trans aa) aa aa hc7' hc8',if_pos aa];rfl
   cases hX.symm.trans hr;clear hX
   refine ct bn [1] 0 rfl rfl rfl rfl rfl rfl ?_ ?_
   all_goals first|rfl|(simp [cq,cf,cL];done)|(simp [cq,cf,cL];omega)
  refine aD (ag 3 rfl (al (aj ?_)))
  have hX:bV a kind n=((⟨0,0,0,0,0,0,0,false⟩:bG),10):=by
    rw [Bj (hr0.trans aa) aa aa hc7' hc8',if_neg aa];rfl
  cases hX.symm.trans hr;clear hX
  refine ct bn [1] 0 rfl rfl rfl rfl rfl rfl ?_ ?_
  all_goals first|rfl|(simp [cq,cf,cL];done)|(simp [cq,cf,cL];omega)
 refine aD ?_
 obtain ⟨j1,j2,j3,j4,hj⟩:∃ (j1 j2 j3 j4:Int),jW a kind n=(j1,j2,j3,j4):=⟨_,_,_,_,rfl⟩
 have hj0:=hj
 refine qu (J:=⟨[(1,(aI kind)),(3,(aC (.p 0 0 0 0))),(6,(aC (.p 1 0 0 0))),(7,(aI 0))],[(1,(.box 81 [(cI 0),(cI 0),(cI 0),(cI 0),(cI 0),(cI 0),(cI 0),(cB false)])),(0,(.box 81 [(cI a.aA),(cI a.au),(cI j1),(cI j2),(cI j3),(cI j4),(cI a.da),(cB a.shut)]))],2⟩) ?_ ?_
 ·
  refine ag 1 rfl (aL (ag 2 rfl (aO rfl (fun hc10'=>?_) (fun hc10'=>?_))))
  ·
   refine ah (ad 3 rfl (az (bm rfl rfl rfl (bH (by first|omega|(simp;done)|(simp;omega)|(have hq:=dA (hr0.trans aa);omega)))) rfl (ad 2 rfl (bq (aN (then_ok ?_))))))
   have hX:jW a kind n=(a.sum+n,a.captured,a.bd,a.aX):=by
     unfold jW;(repeat' split)<;>first|rfl|(exfalso;omega)
   rw [hX] at hj;clear hX;simp only [Prod.mk.injEq] at hj;obtain ⟨rfl,rfl,rfl,rfl⟩:=hj
   exact aq.rz id
  refine ag 2 rfl (aO rfl (fun hc11'=>?_) (fun hc11'=>?_))
  ·
   refine ah (ad 3 rfl (az (bm rfl rfl rfl (bH (by first|omega|(simp;done)|(simp;omega)|(have hq:=dA (hr0.trans aa);omega)))) rfl (ad 2 rfl (bq (aN (then_ok ?_))))))
   have hX:jW a kind n=(a.sum - n,a.captured,a.bd,a.aX):=by
     unfold jW;(repeat' split)<;>first|rfl|(exfalso;omega)
   rw [hX] at hj;clear hX;simp only [Prod.mk.injEq] at hj;obtain ⟨rfl,rfl,rfl,rfl⟩:=hj
   exact aq.rz id
  refine af (ag 2 rfl (ax rfl (fun hc12=>?_) (fun hc12=>?_)))
  ·
   have hc12':=of_decide_eq_true hc12
   refine aD (ax rfl (fun _=>?_) (fun hno=>absurd (hc12.symm.trans hno) cm))
   refine ah (ad 3 rfl (az (bm rfl rfl rfl (bH (by first|omega|(simp;done)|(simp;omega)|(have hq:=dA (hr0.trans aa);omega)))) rfl (ad 2 rfl (bq (aN (then_ok ?_))))))
   have hX:jW a kind n=(a.sum,a.captured+n,a.bd,a.aX):=by
     unfold jW;(repeat' split)<;>first|rfl|(exfalso;omega)
   rw [hX] at hj;clear hX;simp only [Prod.mk.injEq] at hj;obtain ⟨rfl,rfl,rfl,rfl⟩:=hj
   exact aq.rz id
  have hc12':=of_decide_eq_false hc12
  refine ah (ad 2 rfl (ae (aO rfl (fun hc14'=>?_) (fun hc14'=>?_))))
  ·
   refine ah (ad 3 rfl (az (bm rfl rfl rfl (bH (by first|omega|(simp;done)|(simp;omega)|(have hq:=dA (hr0.trans aa);omega)))) rfl (ad 2 rfl (bq (aN (then_ok ?_))))))
   have hX:jW a kind n=(a.sum,a.captured+n,a.bd,a.aX):=by
     unfold jW;(repeat' split)<;>first|rfl|(exfalso;omega)
   rw [hX] at hj;clear hX;simp only [Prod.mk.injEq] at hj;obtain ⟨rfl,rfl,rfl,rfl⟩:=hj
   exact aq.rz id
  refine ag 2 rfl (aO rfl (fun hc15'=>?_) (fun hc15'=>?_))
  ·
   refine ah (ad 3 rfl (az (bm rfl rfl rfl (bH (by first|omega|(simp;done)|(simp;omega)|(have hq:=dA (hr0.trans aa);omega)))) rfl (ad 2 rfl (bq (aN (then_ok ?_))))))
   have hX:jW a kind n=(a.sum,a.captured,a.bd+n,a.aX):=by
     unfold jW;(repeat' split)<;>first|rfl|(exfalso;omega)
   rw [hX] at hj;clear hX;simp only [Prod.mk.injEq] at hj;obtain ⟨rfl,rfl,rfl,rfl⟩:=hj
   exact aq.rz id
  refine ag 2 rfl (aO rfl (fun hc16'=>?_) (fun hc16'=>?_))
  ·
   refine ah (ad 3 rfl (az (bm rfl rfl rfl (bH (by first|omega|(simp;done)|(simp;omega)|(have hq:=dA (hr0.trans aa);omega)))) rfl (ad 2 rfl (bq (aN (then_ok ?_))))))
   have hX:jW a kind n=(a.sum,a.captured,a.bd,a.aX+n):=by
     unfold jW;(repeat' split)<;>first|rfl|(exfalso;omega)
   rw [hX] at hj;clear hX;simp only [Prod.mk.injEq] at hj;obtain ⟨rfl,rfl,rfl,rfl⟩:=hj
   exact aq.rz id
  refine ag 2 rfl (aO rfl (fun hc17'=>?_) (fun hc17'=>?_))
  ·
   refine ah (ad 3 rfl (az (bm rfl rfl rfl (bH (by first|omega|(simp;done)|(simp;omega)|(have hq:=dA (hr0.trans aa);omega)))) rfl (ad 3 rfl (az (bm rfl rfl rfl (bH (by first|omega|(simp;done)|(simp;omega)|(have hq:=dA (hr0.trans aa);omega)))) rfl (ad 4 rfl (bq (aN (then_ok ?_))))))))
   have hX:jW a kind n=(a.sum,a.captured,a.bd+n,a.aX - n):=by
     unfold jW;(repeat' split)<;>first|rfl|(exfalso;omega)
   rw [hX] at hj;clear hX;simp only [Prod.mk.injEq] at hj;obtain ⟨rfl,rfl,rfl,rfl⟩:=hj
   exact aq.rz id
  refine ag 2 rfl (aO rfl (fun hc18'=>?_) (fun hc18'=>?_))
  ·
   refine ah (ad 3 rfl (az (bm rfl rfl rfl (bH (by first|omega|(simp;done)|(simp;omega)|(have hq:=dA (hr0.trans aa);omega)))) rfl (ad 2 rfl (bq (aN (then_ok ?_))))))
   have hX:jW a kind n=(a.sum,a.captured,a.bd,a.aX - n):=by
     unfold jW;(repeat' split)<;>first|rfl|(exfalso;omega)
   rw [hX] at hj;clear hX;simp only [Prod.mk.injEq] at hj;obtain ⟨rfl,rfl,rfl,rfl⟩:=hj
   exact aq.rz id
  refine cv (aN (then_ok ?_))
  have hX:jW a kind n=(a.sum,a.captured,a.bd,a.aX):=by
    unfold jW;(repeat' split)<;>first|rfl|(exfalso;omega)
  rw [hX] at hj;clear hX;simp only [Prod.mk.injEq] at hj;obtain ⟨rfl,rfl,rfl,rfl⟩:=hj
  exact aq.rz id
 refine af (bQ 158 ((decide (kind=3))||(((decide (kind=2))||(decide (kind=4))) && (decide (j1=j2)))) ?_ ?_)
 ·
  refine ah (ad 3 rfl (bz 144 rfl (fun hb19'=>?_) (fun hb19'=>?_)))
  ·
   exact ad 14 rfl (ae (aq.pz 18 rfl))
  refine ad 3 rfl (bz 147 rfl (fun hb20'=>?_) (fun hb20'=>?_))
  ·
   exact ad 11 rfl (ae (aq.pz 19 rfl))
  refine ad 4 rfl (bz 151 rfl (fun hb21'=>?_) (fun hb21'=>?_))
  ·
   exact ad 7 rfl (ae (aq.pz 20 rfl))
  exact ad 7 rfl (ae (aq.pz 20 rfl))
 refine ax rfl (fun hc22=>?_) (fun hc22=>?_)
 ·
  have hc22':=hc22;try simp only [aT,bx] at hc22'
  refine ah (ad 2 rfl (ae (ag 3 rfl (al ?_))))
  have hX:bV a kind n=((⟨a.aA,a.au,j1,j2,j3,j4,a.da,true⟩:bG),0):=by
    rw [yD (hr0.trans aa) aa aa hc7' hc8' hj0];refine Prod.ext (nz rfl rfl rfl rfl rfl rfl rfl ?_) rfl;first|(simp_all;done)|(simp_all;omega)
  cases hX.symm.trans hr;clear hX
  refine ct bn [1] 0 rfl rfl rfl rfl rfl rfl ?_ ?_
  all_goals first|rfl|(simp [cq,cf,cL];done)|(simp [cq,cf,cL];omega)
 have hc22':=hc22;try simp only [aT,bx] at hc22'
 refine aD (ag 3 rfl (al ?_))
 have hX:bV a kind n=((⟨a.aA,a.au,j1,j2,j3,j4,a.da,a.shut⟩:bG),0):=by
   rw [yD (hr0.trans aa) aa aa hc7' hc8' hj0];refine Prod.ext (nz rfl rfl rfl rfl rfl rfl rfl ?_) rfl;first|(simp_all;done)|(simp_all;omega)
 cases hX.symm.trans hr;clear hX
 refine ct bn [1] 0 rfl rfl rfl rfl rfl rfl ?_ ?_
 all_goals first|rfl|(simp [cq,cf,cL];done)|(simp [cq,cf,cL];omega)

theorem CF (s:cT) (a:ch) (x:cT) (e:Int) (hr:cC s a=(x,e)):Fn Tryz.prog 43 [(.g [(cI s.cap),(dt s.used),(eo s.aH)]),(.g [(cI a.aA),(cI a.au),(cI a.sum),(cI a.time)])] (.t [(.g [(cI x.cap),(.s 0 0 1 x.used.length),(.s 1 0 4 x.aH.length)]),(.c (cI e))]) [(0,(dR x.used)),(1,(BB x.aH))]:=by
 refine Fn.mk' 102 [(0,(aG [(cI s.cap),(dt s.used),(eo s.aH)])),(1,(aG [(cI a.aA),(cI a.au),(cI a.sum),(cI a.time)]))] Tryz.func43 rfl rfl rfl rfl ?_
 intro W0 T0
 refine ck 0 1 rfl rfl (fun hlen0_1=>?_)
 refine ck 0 2 rfl rfl (fun hlen0_2=>?_)
 have hub:=@oo s
 have hrp:=@jt s
 refine ag 4 rfl (af (aw 1 rfl ?_))
 obtain ⟨e0,hr0⟩:∃ (e0:Int),cj s=e0:=⟨_,rfl⟩
 refine ay 3 [2,1,0] (cA 3 (uv s e0 hr0) Lf rfl) rfl (ad 1 rfl (ae (ag 2 rfl (aO rfl (fun hc1'=>?_) (fun hc1'=>?_)))))
 ·
  refine ag 4 rfl (al (aj (cc 2 1 3 1 rfl rfl rfl (cc 2 2 95 4 rfl rfl rfl ?_))))
  have hX:cC s a=((⟨0,([]:List Int),([]:List ch)⟩:cT),e0):=by
    rw [vg aa,hr0];rfl
  cases hX.symm.trans hr;clear hX
  exact aS [3,4,2] 2 rfl
 refine aD (af (aw 2 rfl (az (cD rfl rfl iY) rfl (ad 1 rfl (ae (aO rfl (fun hc2'=>?_) (fun hc2'=>?_)))))))
 ·
  refine ag 3 rfl (al (aj (cc 2 1 3 1 rfl rfl rfl (cc 2 2 95 4 rfl rfl rfl ?_))))
  have hX:cC s a=((⟨0,([]:List Int),([]:List ch)⟩:cT),5):=by
    unfold cC;rw [if_neg aa,if_pos aa];rfl
  cases hX.symm.trans hr;clear hX
  exact aS [3,4,2] 2 rfl
 refine aD (af (bQ 59 ((((((((decide (a.aA < 0))||(decide (a.aA>=(↑s.used.length:Int))))||(decide (a.au < 0)))||(decide (a.au > 7)))||(decide (a.sum < 1)))||(!(aT a.sum)))||(decide (a.time < 0)))||(decide (a.time > 1000000))) ?_ ?_))
 ·
  refine ah (ad 4 rfl (bz 21 rfl (fun hb3'=>?_) (fun hb3'=>?_)))
  ·
   exact ad 38 rfl (ae (aq.pz 43 rfl))
  refine ad 4 rfl (dg (aR.yes rfl rfl rfl) (cD rfl rfl ed) rfl rfl (ad 3 rfl (bz 29 rfl (fun hb4'=>?_) (fun hb4'=>?_))))
  ·
   exact ad 30 rfl (ae (aq.pz 44 rfl))
  refine ad 5 rfl (bz 34 rfl (fun hb5'=>?_) (fun hb5'=>?_))
  ·
   exact ad 25 rfl (ae (aq.pz 45 rfl))
  refine ad 5 rfl (bz 39 rfl (fun hb6'=>?_) (fun hb6'=>?_))
  ·
   exact ad 20 rfl (ae (aq.pz 46 rfl))
  refine ad 5 rfl (bz 44 rfl (fun hb7'=>?_) (fun hb7'=>?_))
  ·
   exact ad 15 rfl (ae (aq.pz 47 rfl))
  refine ad 2 rfl (kb 3 [2,1,0] (aR.yes rfl rfl rfl) (cA 3 (oC a.sum) qX rfl) rfl (ad 3 rfl (iz (t:=50) rfl (fun hb8=>?_) (fun hb8=>?_))))
  ·
   have hb8':=hb8;try simp only [aT,bx] at hb8'
   exact ad 9 rfl (ae (aq.pz 48 rfl))
  have hb8':=hb8;try simp only [aT,bx] at hb8'
  refine ad 5 rfl (bz 55 rfl (fun hb9'=>?_) (fun hb9'=>?_))
  ·
   exact ad 4 rfl (ae (aq.pz 49 rfl))
  exact ad 4 rfl (ae (aq.pz 49 rfl))
 refine ax rfl (fun hc10=>?_) (fun hc10=>?_)
 ·
  have hc10':=hc10;try simp only [aT,bx] at hc10'
  refine ag 3 rfl (al (aj (cc 2 1 3 1 rfl rfl rfl (cc 2 2 95 4 rfl rfl rfl ?_))))
  have hX:cC s a=((⟨0,([]:List Int),([]:List ch)⟩:cT),3):=by
    unfold cC;rw [if_neg aa,if_neg aa,if_pos (by simp only [gb,decide_eq_true_eq];simp_all [aT]<;>omega)];rfl
  cases hX.symm.trans hr;clear hX
  exact aS [3,4,2] 2 rfl
 have hc10':=hc10;try simp only [aT,bx] at hc10'
 refine aD (af (af ?_))
 obtain ⟨x1,hx1⟩:=bO (xs:=s.used) (i:=Int.toNat (a.aA)) aa
 have hx1b:=oo (s:=s) aa hx1
 have hsb:a.sum<=1000000:=by simp_all [aT]
 refine bg [2,3,4] [2,1,0] rfl (aF 4 rfl (bh 3 [62,64] [] rfl (dO (i:=Int.toNat (a.aA)) rfl rfl rfl ed eu (aV hx1)) (aF 3 rfl (bh 3 [66,68] [] rfl (bm rfl rfl rfl (bH aa)) (aF 3 rfl (bf [2,1,0] rfl (ae (aO rfl (fun hc11'=>?_) (fun hc11'=>?_)))))))))
 ·
  refine ag 3 rfl (al (aj (cc 2 1 3 1 rfl rfl rfl (cc 2 2 95 4 rfl rfl rfl ?_))))
  have hX:cC s a=((⟨0,([]:List Int),([]:List ch)⟩:cT),10):=by
    have ho:gb s.used.length a=true:=by (simp only [gb,decide_eq_true_eq];simp_all [aT]<;>omega)
    have hx:s.used.getD a.aA.toNat 0=x1:=by rw [List.getD_eq_getElem?_getD,hx1];rfl
    unfold cC;rw [if_neg aa,if_neg aa,if_neg (by simp [ho]),hx,if_pos aa];rfl
  cases hX.symm.trans hr;clear hX
  exact aS [3,4,2] 2 rfl
 refine aD (dq (ay 4 [3,2,1,0] (dM (ys:=[]) (rows:=(([]:List Int)).map rI) 3 lF rfl) rfl (ad 2 rfl (ay 5 [4,2,1,0] (dU (m:=s.used.length) (N:=s.used.length) (k2:=4) (ys:=(s.used).map rI) lF rfl rfl rfl rfl rfl) rfl (ad 2 rfl (ae (af (bg [2,3,4] [4,2,1,0] rfl (aF 8 rfl (bh 5 [84,86] [4] rfl (cU (i:=Int.toNat (a.aA)) rfl rfl rfl ed eu) (bM 5 [87] [4] rfl (dY rfl rfl rfl eA rfl (aV hx1) rfl) rfl (aF 2 rfl (bh 5 [88,90] [] rfl (bm rfl rfl rfl (bH aa)) (bh 5 [80,82] [4] rfl (cU (i:=Int.toNat (a.aA)) rfl rfl rfl ed eu) (bf [4,2,1,0] rfl (eP [4,2,1,0] (dK (ds:=[(dI (x1+a.sum))]) rfl rfl rfl rfl rfl eu rfl (Nat.le_of_ble_eq_true rfl) (aV hx1) rfl (eE (x':=x1+a.sum) rfl)) rfl (ae (af (bg [2,3,4] [4,2,1,0] rfl (bM 6 [] [] rfl (dM (ys:=[]) (rows:=(([]:List ch)).map iS) 5 rJ rfl) rfl (aF 2 rfl (bM 7 [93,95] [5] rfl (dU (m:=s.aH.length) (N:=s.aH.length) (k2:=6) (ys:=(s.aH).map iS) rJ rfl rfl rfl rfl rfl) rfl (aF 1 rfl (bM 8 [97] [] rfl (dM (ys:=[(0,(.g [(cI a.aA),(cI a.au),(cI a.sum),(cI a.time)]))]) (rows:=([a]).map iS) 7 rJ rfl) rfl (bM 9 [96,98] [7,6] rfl (dU (m:=1) (N:=s.aH.length+1) (k2:=8) (ys:=([a]).map iS) rJ rfl rfl rfl rfl dv) rfl (aF 1 rfl (bf [8,4,2,1,0] rfl (ad 1 rfl (ae (ag 3 rfl (al ?_)))))))))))))))))))))))))))))))
 have hX:cC s a=((⟨s.cap,(s.used).set (Int.toNat (a.aA)) (x1+a.sum),s.aH++([a])⟩:cT),0):=by
   have ho:gb s.used.length a=true:=by (simp only [gb,decide_eq_true_eq];simp_all [aT]<;>omega)
   have hx:s.used.getD a.aA.toNat 0=x1:=by rw [List.getD_eq_getElem?_getD,hx1];rfl
   unfold cC;rw [if_neg aa,if_neg aa,if_neg (by simp [ho]),hx,if_neg aa]
 cases hX.symm.trans hr;clear hX
 exact aS [4,8,2] 2 rfl

theorem zu (l:List ar) (hl:l.length * 32<=140737488355328) (r:List ar) (hr:iI l=r):Fn Tryz.prog 53 [(.c (eZ l))] (.v (.c (.s 0 0 4 r.length))) [(0,(cX r))]:=by
 refine Fn.mk' 66 [(0,(aC (eZ l)))] Tryz.func53 rfl rfl rfl rfl ?_
 intro W0 T0
 refine dE 0 rfl (fun hlen0=>?_)
 refine ag 1 rfl (ag 1 rfl (af (aw 1 rfl (az (cD rfl rfl dQ) rfl (ad 1 rfl (ae (aL (ie (aq.nil 3 103 4 cm rfl) (cb (β:=Nat×List ar) (fun (p:Nat×List ar)=>match p with|(q,m)=>⟨[(2,(aC cN)),(3,(aC (.s 0 0 4 m.length))),(7,(aC (eZ l))),(8,(aI (↑l.length:Int))),(9,(aI (↑q:Int)))],[(0,(cX m))],1⟩) (fun (p:Nat×List ar)=>match p with|(q,m)=>q<=l.length/\m=yK (l.take q)/\m.length=q) (fun (p:Nat×List ar)=>match p with|(q,m)=>l.length - q) (0,([]:List ar)) ?_ ?_ ?_)))))))))
 ·exact ⟨aa,rfl,rfl⟩
 ·exact aq.rz id
 rintro ⟨q,m⟩ ⟨hi0_0,hi0_1,hi0_2⟩
 refine ag 1 rfl (af (aO rfl (fun hc1'=>?_) (fun hc1'=>?_)))
 ·
  refine aD (af (aL (dq ?_)))
  obtain ⟨x1,hx1⟩:=bO (xs:=l) (i:=q) aa
  refine az (dO (i:=q) rfl rfl rfl dQ cY (aV hx1)) rfl (ad 3 rfl (ae (aw 1 rfl (az (dn rfl rfl rfl rfl rfl dQ) rfl (ad 1 rfl (ae (af (aL (cb (β:=Nat) (fun (a:Nat)=>⟨[(2,(aC cN)),(3,(aC (.s 0 0 4 m.length))),(7,(aC (eZ l))),(8,(aI (↑l.length:Int))),(9,(aI (↑q:Int))),(5,(aC (.p 1 0 0 0))),(6,(aI (↑a:Int)))],[(1,(.box 103 [(cI x1.au),(cI x1.ba),(cI x1.kind),(cI x1.sum)])),(0,(cX m))],2⟩) (fun (a:Nat)=>a<=m.length/\(∀ i y,a<=i->m[i]?=some y->ju x1 y=true)) (fun (a:Nat)=>a) m.length ?_ ?_ ?_)))))))))
  ·exact ⟨aa,fun i y h0 hy=>by have:=(List.getElem?_eq_some_iff.1 hy).1;omega⟩
  ·exact aq.rz id
  rintro a ⟨hi1_0,hi1_1⟩
  refine af (af ?_)
  rcases Bool.eq_false_or_eq_true (decide ((↑a:Int) > 0)) with hb2|hb2
  ·
   have hb2':=of_decide_eq_true hb2
   obtain ⟨x2,hx2⟩:=bO (xs:=m) (i:=(a) - 1) aa
   rcases Bool.eq_false_or_eq_true (decide (x2.au > x1.au)) with hb3|hb3
   ·
    have hb3':=of_decide_eq_true hb3
    refine bg [2,3,7,8,9,5,6] [1,0] rfl (bC (kn:=[(16,true)]) bn 5 rfl ⟨hb2,trivial⟩ (cG (n':=2) [19,17] [] rfl rfl (.inl ⟨(aR.yes rfl rfl rfl),bm rfl rfl rfl (bH aa)⟩) rfl (cG (n':=2) [18,20,17] [0] rfl rfl (.inl ⟨(aR.yes rfl rfl rfl),cU (i:=(a) - 1) rfl rfl rfl dQ cY⟩) rfl (aF 1 rfl (cG (n':=2) [22,17] [0] rfl rfl (.inl ⟨(aR.yes rfl rfl rfl),dY rfl rfl rfl eA rfl (aV hx2) rfl⟩) rfl (bC (kn:=[(26,true)]) bn 26 rfl ⟨hb3,trivial⟩ (bf [1,0] rfl (ae (ax rfl (fun _=>?_) (fun hno=>by cases hno))))))))))
    refine aD (aL (ah (ad 1 rfl (bl rfl rfl rfl rfl aa (ad 1 rfl (bq (aN (then_ok ?_))))))))
    refine ⟨a - 1,⟨aa,fun i y h0 hy=>by
                    by_cases hia:i=a - 1
                    ·subst hia;rw [hx2] at hy;injection hy with hy;subst hy;rw [qR];omega
                    ·exact hi1_1 i y aa hy⟩,bT,aq.rz id⟩
   have hb3':=of_decide_eq_false hb3
   rcases Bool.eq_false_or_eq_true (decide (x2.au=x1.au)) with hb5|hb5
   ·
    have hb5':=of_decide_eq_true hb5
    refine bg [2,3,7,8,9,5,6] [1,0] rfl (bC (kn:=[(16,true)]) bn 5 rfl ⟨hb2,trivial⟩ (cG (n':=2) [19,17] [] rfl rfl (.inl ⟨(aR.yes rfl rfl rfl),bm rfl rfl rfl (bH aa)⟩) rfl (cG (n':=2) [18,20,17] [0] rfl rfl (.inl ⟨(aR.yes rfl rfl rfl),cU (i:=(a) - 1) rfl rfl rfl dQ cY⟩) rfl (aF 1 rfl (cG (n':=2) [22,17] [0] rfl rfl (.inl ⟨(aR.yes rfl rfl rfl),dY rfl rfl rfl eA rfl (aV hx2) rfl⟩) rfl (bC (kn:=[(26,false)]) bn 6 rfl ⟨hb3,trivial⟩ (cG (n':=2) [29,27] [] rfl rfl (.inl ⟨(aR.yes rfl rfl rfl),bm rfl rfl rfl (bH aa)⟩) rfl (cG (n':=2) [28,30,27] [0] rfl rfl (.inl ⟨(aR.yes rfl rfl rfl),cU (i:=(a) - 1) rfl rfl rfl dQ cY⟩) rfl (aF 1 rfl (cG (n':=2) [32,27] [0] rfl rfl (.inl ⟨(aR.yes rfl rfl rfl),dY rfl rfl rfl eA rfl (aV hx2) rfl⟩) rfl (bC (kn:=[(36,true)]) bn 6 rfl ⟨hb5,trivial⟩ (cG (n':=2) [39,37] [] rfl rfl (.inl ⟨(aR.yes rfl rfl rfl),bm rfl rfl rfl (bH aa)⟩) rfl (cG (n':=2) [38,40,37] [0] rfl rfl (.inl ⟨(aR.yes rfl rfl rfl),cU (i:=(a) - 1) rfl rfl rfl dQ cY⟩) rfl (aF 1 rfl (cG (n':=2) [42,37] [0] rfl rfl (.inl ⟨(aR.yes rfl rfl rfl),dY rfl rfl rfl eA rfl (aV hx2) rfl⟩) rfl (aF 6 rfl (bf [1,0] rfl (ae (aO rfl (fun hc6'=>?_) (fun hc6'=>?_))))))))))))))))))))
    ·
     refine aD (aL (ah (ad 1 rfl (bl rfl rfl rfl rfl aa (ad 1 rfl (bq (aN (then_ok ?_))))))))
     refine ⟨a - 1,⟨aa,fun i y h0 hy=>by
                   by_cases hia:i=a - 1
                   ·subst hia;rw [hx2] at hy;injection hy with hy;subst hy;rw [qR];omega
                   ·exact hi1_1 i y aa hy⟩,bT,aq.rz id⟩
    refine bR (aE (aE (bw (then_ok ?_))))
    rcases (show a=m.length\/a < m.length from aa) with hs7|hs7
    ·
     refine bg [2,3,7,8,9,5,6] [1,0] rfl (bM 3 [] [] rfl (dM (ys:=[]) (rows:=(([]:List ar)).map dD) 2 fP rfl) rfl (aF 2 rfl (bh 3 [53,54] [0] rfl (iC (l:=0) (h:=a) rfl dQ cY rfl (.inl ⟨rfl,rfl⟩) (.inr ⟨_,rfl,rfl⟩) aa aa aa rfl) (bM 4 [52,55] [0,2] rfl (dU (m:=a) (N:=a) (k2:=3) (ys:=(((m).drop 0).take a).map dD) fP rfl rfl rfl rfl rfl) rfl (aF 1 rfl (bM 5 [57] [] rfl (dM (ys:=[(0,(.g [(cI x1.au),(cI x1.ba),(cI x1.kind),(cI x1.sum)]))]) (rows:=([x1]).map dD) 4 fP rfl) rfl (bM 6 [56,58] [4,3] rfl (dU (m:=1) (N:=a+1) (k2:=5) (ys:=([x1]).map dD) fP rfl rfl rfl rfl dv) rfl (aF 2 rfl (bh 6 [60,61] [0] rfl (ue rfl dQ cY rfl (vn rfl aa)) (bM 7 [59,62] [5] rfl (dU (m:=(([]:List ar)).length) (N:=(a+1)+((([]:List ar)).length)) (k2:=6) (ys:=(([]:List ar)).map dD) fP rfl rfl rfl rfl dv) rfl (bf [6,1,0] rfl (ad 1 rfl (bq (aN (then_ok (ah (bl rfl rfl rfl rfl aa (ad 1 rfl (ae ?_)))))))))))))))))))
     have hsm:fN m:=by rw [hi0_1];exact nn _
     refine ⟨(q+1,((((m).drop 0).take a)++([x1]))++([]:List ar)),⟨aa,by rw [mE hx1,<-hi0_1,nm (a:=a) aa hsm hi1_1 (fun y h0 hy=>by first|omega|(rw [hx2] at hy;injection hy with hy;subst hy;unfold gP;omega))];first|(subst hs1;simp;done)|(rw [List.drop_zero,Nat.zero_add,List.take_of_length_le (l:=m.drop a) (by rw [List.length_drop];omega)];done)|(simp;omega)|(simp_all;done),by simp only [List.length_append,List.length_take,List.length_drop,List.length_cons,List.length_nil];omega⟩,bT,aq.rz (fun k=>if k=0 then 6 else k) (by refine ⟨?_,?_,?_,?_,?_,trivial⟩<;>first|rfl|(simp only [fQ];done)|(congr 3;omega)|(congr 4;omega)|(simp only [fR];rfl)|(first|exact gl rfl aa|exact jR rfl (by simp only [List.length_append,List.length_take,List.length_drop,List.length_cons,List.length_nil];omega)))⟩
    refine bg [2,3,7,8,9,5,6] [1,0] rfl (bM 3 [] [] rfl (dM (ys:=[]) (rows:=(([]:List ar)).map dD) 2 fP rfl) rfl (aF 2 rfl (bh 3 [53,54] [0] rfl (iC (l:=0) (h:=a) rfl dQ cY rfl (.inl ⟨rfl,rfl⟩) (.inr ⟨_,rfl,rfl⟩) aa aa aa rfl) (bM 4 [52,55] [0,2] rfl (dU (m:=a) (N:=a) (k2:=3) (ys:=(((m).drop 0).take a).map dD) fP rfl rfl rfl rfl rfl) rfl (aF 1 rfl (bM 5 [57] [] rfl (dM (ys:=[(0,(.g [(cI x1.au),(cI x1.ba),(cI x1.kind),(cI x1.sum)]))]) (rows:=([x1]).map dD) 4 fP rfl) rfl (bM 6 [56,58] [4,3] rfl (dU (m:=1) (N:=a+1) (k2:=5) (ys:=([x1]).map dD) fP rfl rfl rfl rfl dv) rfl (aF 2 rfl (bh 6 [60,61] [0] rfl (iC (l:=a) (h:=m.length) rfl dQ cY rfl (.inr ⟨_,rfl,rfl⟩) (.inl ⟨rfl,rfl⟩) aa aa aa rfl) (bM 7 [59,62] [0,5] rfl (dU (m:=m.length - a) (N:=(a+1)+(m.length - a)) (k2:=6) (ys:=(((m).drop (0+a)).take (m.length - a)).map dD) fP rfl rfl rfl rfl dv) rfl (bf [6,1,0] rfl (ad 1 rfl (bq (aN (then_ok (ah (bl rfl rfl rfl rfl aa (ad 1 rfl (ae ?_)))))))))))))))))))
    have hsm:fN m:=by rw [hi0_1];exact nn _
    refine ⟨(q+1,((((m).drop 0).take a)++([x1]))++(((m).drop (0+a)).take (m.length - a))),⟨aa,by rw [mE hx1,<-hi0_1,nm (a:=a) aa hsm hi1_1 (fun y h0 hy=>by first|omega|(rw [hx2] at hy;injection hy with hy;subst hy;unfold gP;omega))];first|(subst hs1;simp;done)|(rw [List.drop_zero,Nat.zero_add,List.take_of_length_le (l:=m.drop a) (by rw [List.length_drop];omega)];done)|(simp;omega)|(simp_all;done),by simp only [List.length_append,List.length_take,List.length_drop,List.length_cons,List.length_nil];omega⟩,bT,aq.rz (fun k=>if k=0 then 6 else k) (by refine ⟨?_,?_,?_,?_,?_,trivial⟩<;>first|rfl|(simp only [fQ];done)|(congr 3;omega)|(congr 4;omega)|(simp only [fR];rfl)|(first|exact gl rfl aa|exact jR rfl (by simp only [List.length_append,List.length_take,List.length_drop,List.length_cons,List.length_nil];omega)))⟩
   have hb5':=of_decide_eq_false hb5
   refine bg [2,3,7,8,9,5,6] [1,0] rfl (bC (kn:=[(16,true)]) bn 5 rfl ⟨hb2,trivial⟩ (cG (n':=2) [19,17] [] rfl rfl (.inl ⟨(aR.yes rfl rfl rfl),bm rfl rfl rfl (bH aa)⟩) rfl (cG (n':=2) [18,20,17] [0] rfl rfl (.inl ⟨(aR.yes rfl rfl rfl),cU (i:=(a) - 1) rfl rfl rfl dQ cY⟩) rfl (aF 1 rfl (cG (n':=2) [22,17] [0] rfl rfl (.inl ⟨(aR.yes rfl rfl rfl),dY rfl rfl rfl eA rfl (aV hx2) rfl⟩) rfl (bC (kn:=[(26,false)]) bn 6 rfl ⟨hb3,trivial⟩ (cG (n':=2) [29,27] [] rfl rfl (.inl ⟨(aR.yes rfl rfl rfl),bm rfl rfl rfl (bH aa)⟩) rfl (cG (n':=2) [28,30,27] [0] rfl rfl (.inl ⟨(aR.yes rfl rfl rfl),cU (i:=(a) - 1) rfl rfl rfl dQ cY⟩) rfl (aF 1 rfl (cG (n':=2) [32,27] [0] rfl rfl (.inl ⟨(aR.yes rfl rfl rfl),dY rfl rfl rfl eA rfl (aV hx2) rfl⟩) rfl (bC (kn:=[(36,false)]) bn 16 rfl ⟨hb5,trivial⟩ (bf [1,0] rfl (ae (ax rfl (fun hno=>by cases hno) (fun _=>?_)))))))))))))))
   refine bR (aE (aE (bw (then_ok ?_))))
   rcases (show a=m.length\/a < m.length from aa) with hs9|hs9
   ·
    refine bg [2,3,7,8,9,5,6] [1,0] rfl (bM 3 [] [] rfl (dM (ys:=[]) (rows:=(([]:List ar)).map dD) 2 fP rfl) rfl (aF 2 rfl (bh 3 [53,54] [0] rfl (iC (l:=0) (h:=a) rfl dQ cY rfl (.inl ⟨rfl,rfl⟩) (.inr ⟨_,rfl,rfl⟩) aa aa aa rfl) (bM 4 [52,55] [0,2] rfl (dU (m:=a) (N:=a) (k2:=3) (ys:=(((m).drop 0).take a).map dD) fP rfl rfl rfl rfl rfl) rfl (aF 1 rfl (bM 5 [57] [] rfl (dM (ys:=[(0,(.g [(cI x1.au),(cI x1.ba),(cI x1.kind),(cI x1.sum)]))]) (rows:=([x1]).map dD) 4 fP rfl) rfl (bM 6 [56,58] [4,3] rfl (dU (m:=1) (N:=a+1) (k2:=5) (ys:=([x1]).map dD) fP rfl rfl rfl rfl dv) rfl (aF 2 rfl (bh 6 [60,61] [0] rfl (ue rfl dQ cY rfl (vn rfl aa)) (bM 7 [59,62] [5] rfl (dU (m:=(([]:List ar)).length) (N:=(a+1)+((([]:List ar)).length)) (k2:=6) (ys:=(([]:List ar)).map dD) fP rfl rfl rfl rfl dv) rfl (bf [6,1,0] rfl (ad 1 rfl (bq (aN (then_ok (ah (bl rfl rfl rfl rfl aa (ad 1 rfl (ae ?_)))))))))))))))))))
    have hsm:fN m:=by rw [hi0_1];exact nn _
    refine ⟨(q+1,((((m).drop 0).take a)++([x1]))++([]:List ar)),⟨aa,by rw [mE hx1,<-hi0_1,nm (a:=a) aa hsm hi1_1 (fun y h0 hy=>by first|omega|(rw [hx2] at hy;injection hy with hy;subst hy;unfold gP;omega))];first|(subst hs1;simp;done)|(rw [List.drop_zero,Nat.zero_add,List.take_of_length_le (l:=m.drop a) (by rw [List.length_drop];omega)];done)|(simp;omega)|(simp_all;done),by simp only [List.length_append,List.length_take,List.length_drop,List.length_cons,List.length_nil];omega⟩,bT,aq.rz (fun k=>if k=0 then 6 else k) (by refine ⟨?_,?_,?_,?_,?_,trivial⟩<;>first|rfl|(simp only [fQ];done)|(congr 3;omega)|(congr 4;omega)|(simp only [fR];rfl)|(first|exact gl rfl aa|exact jR rfl (by simp only [List.length_append,List.length_take,List.length_drop,List.length_cons,List.length_nil];omega)))⟩
   refine bg [2,3,7,8,9,5,6] [1,0] rfl (bM 3 [] [] rfl (dM (ys:=[]) (rows:=(([]:List ar)).map dD) 2 fP rfl) rfl (aF 2 rfl (bh 3 [53,54] [0] rfl (iC (l:=0) (h:=a) rfl dQ cY rfl (.inl ⟨rfl,rfl⟩) (.inr ⟨_,rfl,rfl⟩) aa aa aa rfl) (bM 4 [52,55] [0,2] rfl (dU (m:=a) (N:=a) (k2:=3) (ys:=(((m).drop 0).take a).map dD) fP rfl rfl rfl rfl rfl) rfl (aF 1 rfl (bM 5 [57] [] rfl (dM (ys:=[(0,(.g [(cI x1.au),(cI x1.ba),(cI x1.kind),(cI x1.sum)]))]) (rows:=([x1]).map dD) 4 fP rfl) rfl (bM 6 [56,58] [4,3] rfl (dU (m:=1) (N:=a+1) (k2:=5) (ys:=([x1]).map dD) fP rfl rfl rfl rfl dv) rfl (aF 2 rfl (bh 6 [60,61] [0] rfl (iC (l:=a) (h:=m.length) rfl dQ cY rfl (.inr ⟨_,rfl,rfl⟩) (.inl ⟨rfl,rfl⟩) aa aa aa rfl) (bM 7 [59,62] [0,5] rfl (dU (m:=m.length - a) (N:=(a+1)+(m.length - a)) (k2:=6) (ys:=(((m).drop (0+a)).take (m.length - a)).map dD) fP rfl rfl rfl rfl dv) rfl (bf [6,1,0] rfl (ad 1 rfl (bq (aN (then_ok (ah (bl rfl rfl rfl rfl aa (ad 1 rfl (ae ?_)))))))))))))))))))
   have hsm:fN m:=by rw [hi0_1];exact nn _
   refine ⟨(q+1,((((m).drop 0).take a)++([x1]))++(((m).drop (0+a)).take (m.length - a))),⟨aa,by rw [mE hx1,<-hi0_1,nm (a:=a) aa hsm hi1_1 (fun y h0 hy=>by first|omega|(rw [hx2] at hy;injection hy with hy;subst hy;unfold gP;omega))];first|(subst hs1;simp;done)|(rw [List.drop_zero,Nat.zero_add,List.take_of_length_le (l:=m.drop a) (by rw [List.length_drop];omega)];done)|(simp;omega)|(simp_all;done),by simp only [List.length_append,List.length_take,List.length_drop,List.length_cons,List.length_nil];omega⟩,bT,aq.rz (fun k=>if k=0 then 6 else k) (by refine ⟨?_,?_,?_,?_,?_,trivial⟩<;>first|rfl|(simp only [fQ];done)|(congr 3;omega)|(congr 4;omega)|(simp only [fR];rfl)|(first|exact gl rfl aa|exact jR rfl (by simp only [List.length_append,List.length_take,List.length_drop,List.length_cons,List.length_nil];omega)))⟩
  have hb2':=of_decide_eq_false hb2
  refine bg [2,3,7,8,9,5,6] [1,0] rfl (bC (kn:=[(16,false)]) bn 35 rfl ⟨hb2,trivial⟩ (bf [1,0] rfl (ae (ax rfl (fun hno=>by cases hno) (fun _=>?_)))))
  refine bR (aE (aE (bw (then_ok ?_))))
  rcases (show a=m.length\/a < m.length from aa) with hs11|hs11
  ·
   refine bg [2,3,7,8,9,5,6] [1,0] rfl (bM 3 [] [] rfl (dM (ys:=[]) (rows:=(([]:List ar)).map dD) 2 fP rfl) rfl (aF 2 rfl (bh 3 [53,54] [0] rfl (iC (l:=0) (h:=a) rfl dQ cY rfl (.inl ⟨rfl,rfl⟩) (.inr ⟨_,rfl,rfl⟩) aa aa aa rfl) (bM 4 [52,55] [0,2] rfl (dU (m:=a) (N:=a) (k2:=3) (ys:=(((m).drop 0).take a).map dD) fP rfl rfl rfl rfl rfl) rfl (aF 1 rfl (bM 5 [57] [] rfl (dM (ys:=[(0,(.g [(cI x1.au),(cI x1.ba),(cI x1.kind),(cI x1.sum)]))]) (rows:=([x1]).map dD) 4 fP rfl) rfl (bM 6 [56,58] [4,3] rfl (dU (m:=1) (N:=a+1) (k2:=5) (ys:=([x1]).map dD) fP rfl rfl rfl rfl dv) rfl (aF 2 rfl (bh 6 [60,61] [0] rfl (ue rfl dQ cY rfl (vn rfl aa)) (bM 7 [59,62] [5] rfl (dU (m:=(([]:List ar)).length) (N:=(a+1)+((([]:List ar)).length)) (k2:=6) (ys:=(([]:List ar)).map dD) fP rfl rfl rfl rfl dv) rfl (bf [6,1,0] rfl (ad 1 rfl (bq (aN (then_ok (ah (bl rfl rfl rfl rfl aa (ad 1 rfl (ae ?_)))))))))))))))))))
   have hsm:fN m:=by rw [hi0_1];exact nn _
   refine ⟨(q+1,((((m).drop 0).take a)++([x1]))++([]:List ar)),⟨aa,by rw [mE hx1,<-hi0_1,nm (a:=a) aa hsm hi1_1 (fun y h0 hy=>by first|omega|(rw [hx2] at hy;injection hy with hy;subst hy;unfold gP;omega))];first|(subst hs1;simp;done)|(rw [List.drop_zero,Nat.zero_add,List.take_of_length_le (l:=m.drop a) (by rw [List.length_drop];omega)];done)|(simp;omega)|(simp_all;done),by simp only [List.length_append,List.length_take,List.length_drop,List.length_cons,List.length_nil];omega⟩,bT,aq.rz (fun k=>if k=0 then 6 else k) (by refine ⟨?_,?_,?_,?_,?_,trivial⟩<;>first|rfl|(simp only [fQ];done)|(congr 3;omega)|(congr 4;omega)|(simp only [fR];rfl)|(first|exact gl rfl aa|exact jR rfl (by simp only [List.length_append,List.length_take,List.length_drop,List.length_cons,List.length_nil];omega)))⟩
  refine bg [2,3,7,8,9,5,6] [1,0] rfl (bM 3 [] [] rfl (dM (ys:=[]) (rows:=(([]:List ar)).map dD) 2 fP rfl) rfl (aF 2 rfl (bh 3 [53,54] [0] rfl (iC (l:=0) (h:=a) rfl dQ cY rfl (.inl ⟨rfl,rfl⟩) (.inr ⟨_,rfl,rfl⟩) aa aa aa rfl) (bM 4 [52,55] [0,2] rfl (dU (m:=a) (N:=a) (k2:=3) (ys:=(((m).drop 0).take a).map dD) fP rfl rfl rfl rfl rfl) rfl (aF 1 rfl (bM 5 [57] [] rfl (dM (ys:=[(0,(.g [(cI x1.au),(cI x1.ba),(cI x1.kind),(cI x1.sum)]))]) (rows:=([x1]).map dD) 4 fP rfl) rfl (bM 6 [56,58] [4,3] rfl (dU (m:=1) (N:=a+1) (k2:=5) (ys:=([x1]).map dD) fP rfl rfl rfl rfl dv) rfl (aF 2 rfl (bh 6 [60,61] [0] rfl (iC (l:=a) (h:=m.length) rfl dQ cY rfl (.inr ⟨_,rfl,rfl⟩) (.inl ⟨rfl,rfl⟩) aa aa aa rfl) (bM 7 [59,62] [0,5] rfl (dU (m:=m.length - a) (N:=(a+1)+(m.length - a)) (k2:=6) (ys:=(((m).drop (0+a)).take (m.length - a)).map dD) fP rfl rfl rfl rfl dv) rfl (bf [6,1,0] rfl (ad 1 rfl (bq (aN (then_ok (ah (bl rfl rfl rfl rfl aa (ad 1 rfl (ae ?_)))))))))))))))))))
  have hsm:fN m:=by rw [hi0_1];exact nn _
  refine ⟨(q+1,((((m).drop 0).take a)++([x1]))++(((m).drop (0+a)).take (m.length - a))),⟨aa,by rw [mE hx1,<-hi0_1,nm (a:=a) aa hsm hi1_1 (fun y h0 hy=>by first|omega|(rw [hx2] at hy;injection hy with hy;subst hy;unfold gP;omega))];first|(subst hs1;simp;done)|(rw [List.drop_zero,Nat.zero_add,List.take_of_length_le (l:=m.drop a) (by rw [List.length_drop];omega)];done)|(simp;omega)|(simp_all;done),by simp only [List.length_append,List.length_take,List.length_drop,List.length_cons,List.length_nil];omega⟩,bT,aq.rz (fun k=>if k=0 then 6 else k) (by refine ⟨?_,?_,?_,?_,?_,trivial⟩<;>first|rfl|(simp only [fQ];done)|(congr 3;omega)|(congr 4;omega)|(simp only [fR];rfl)|(first|exact gl rfl aa|exact jR rfl (by simp only [List.length_append,List.length_take,List.length_drop,List.length_cons,List.length_nil];omega)))⟩
 refine bR (aE (aE (bw (then_ok (ag 2 rfl (al ?_))))))
 have hX:iI l=m:=by
   rw [hi0_1,List.take_of_length_le aa];rfl
 rw [hX] at hr;clear hX
 subst hr
 exact aS [0] 1 rfl
end Go.Proofs.YtnfopdlnboeheaaGreat.Dev
