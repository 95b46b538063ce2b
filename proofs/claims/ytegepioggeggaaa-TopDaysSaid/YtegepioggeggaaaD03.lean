/- A part of the proof: Ty, Sh16, Sh17, Sh18, Sh21, Sh22, Sh23, Sh24, Sh25, Sh26. No condition. -/
import Derived.Test.YtegepioggeggaaaD02
import Derived.Test.YtegepioggeggaaaProg
import Derived.Lib.AppendZerosOnto
import Derived.Lib.Overlaps
import Derived.OrdersIn
import Derived.RangeFuncFrom
set_option linter.unusedVariables false
set_option linter.unusedSimpArgs false
namespace Go.Proofs.Ytegepioggeggaaa.Dev
open Go.RowKit

theorem fX:(Try.prog.info? 3).map (fun i=>i.size)=some 1:=by kernel_rfl
theorem sg:(Try.prog.info? 5).map (fun i=>i.size)=some 1:=by kernel_rfl
theorem Ix:(Try.prog.info? 27).map (fun i=>i.size)=some 6:=by kernel_rfl
theorem nd:(Try.prog.info? 34).map (fun i=>i.size)=some 2:=by kernel_rfl
theorem lE:(Try.prog.info? 37).map (fun i=>i.size)=some 1:=by kernel_rfl
theorem FJ:(Try.prog.info? 58).map (fun i=>i.size)=some 3:=by kernel_rfl
theorem Iw:(Try.prog.info? 59).map (fun i=>i.size)=some 1:=by kernel_rfl
theorem jE:(Try.prog.info? 61).map (fun i=>i.size)=some 6:=by kernel_rfl
theorem nc:(Try.prog.info? 67).map (fun i=>i.size)=some 8:=by kernel_rfl
theorem na:(Try.prog.info? 80).map (fun i=>i.size)=some 4:=by kernel_rfl
theorem dt:(Try.prog.info? 83).map (fun i=>i.size)=some 4:=by kernel_rfl
theorem Iv:(Try.prog.info? 86).map (fun i=>i.size)=some 1:=by kernel_rfl
theorem Et:(Try.prog.info? 107).map (fun i=>i.size)=some 4:=by kernel_rfl
theorem vE:(Try.prog.info? 113).map (fun i=>i.size)=some 5:=by kernel_rfl
theorem ep:(Try.prog.info? 115).map (fun i=>i.size)=some 2:=by kernel_rfl
theorem iZ:(Try.prog.info? 125).map (fun i=>i.size)=some 2:=by kernel_rfl
theorem Ep:(Try.prog.info? 3).bind (fun i=>i.zero)=some (.int .i64 0):=by kernel_rfl
theorem Ii:Ir Try.prog 61 [.int .i64 0,.int .i64 0,.int .i64 0,.int .i64 0,.int .i64 0,.slice none 0 0] [(0,1),(1,1),(2,3),(5,1)]:=⟨by kernel_rfl,by kernel_rfl⟩
theorem Iu:(Try.prog.info? 65).bind (fun i=>i.zero)=some (.agg #[.int .i64 0,.int .i64 0]):=by kernel_rfl
theorem It:(Try.prog.info? 80).bind (fun i=>i.zero)=some (.agg #[.int .i64 0,.int .i64 0,.int .i64 0,.int .i64 0]):=by kernel_rfl
theorem Er:(Try.prog.info? 115).bind (fun i=>i.zero)=some (.agg #[.int .i64 0,.int .i64 0]):=by kernel_rfl
theorem Ht:(Try.prog.info? 125).bind (fun i=>i.zero)=some (.agg #[.int .i64 0,.int .i64 0]):=by kernel_rfl
theorem HJ:(Try.prog.info? 27).map (fun i=>(i.zero,i.size,i.bytes))=some (some (.agg #[.int .i64 0,.int .i64 0,.int .i64 0,.int .i64 0,.int .i64 0,.int .i64 0]),6,48):=by kernel_rfl
theorem jF:iH Try.prog 24 27 6 48:=gN Try.underlying24 HJ rfl (by decide)
theorem HG:(Try.prog.info? 61).map (fun i=>(i.zero,i.size,i.bytes))=some (some (.agg #[.int .i64 0,.int .i64 0,.int .i64 0,.int .i64 0,.int .i64 0,.slice none 0 0]),6,64):=by kernel_rfl
theorem zr:iH Try.prog 29 61 6 64:=gN Try.underlying29 HG rfl (by decide)
theorem IH:(Try.prog.info? 3).map (fun i=>(i.zero,i.size,i.bytes))=some (some (.int .i64 0),1,8):=by kernel_rfl
theorem nh:iH Try.prog 30 3 1 8:=gN Try.underlying30 IH rfl (by decide)
theorem HE:(Try.prog.info? 67).map (fun i=>(i.zero,i.size,i.bytes))=some (some (.agg #[.int .i64 0,.int .i64 0,.int .i64 0,.int .i64 0,.int .i64 0,.int .i64 0,.int .i64 0,.bool false]),8,64):=by kernel_rfl
theorem tF:iH Try.prog 31 67 8 64:=gN Try.underlying31 HE rfl (by decide)
theorem HD:(Try.prog.info? 80).map (fun i=>(i.zero,i.size,i.bytes))=some (some (.agg #[.int .i64 0,.int .i64 0,.int .i64 0,.int .i64 0]),4,32):=by kernel_rfl
theorem wc:iH Try.prog 32 80 4 32:=gN Try.underlying32 HD rfl (by decide)
theorem Gi:(Try.prog.info? 113).map (fun i=>(i.zero,i.size,i.bytes))=some (some (.agg #[.int .i64 0,.int .i64 0,.int .i64 0,.int .i64 0,.int .i64 0]),5,40):=by kernel_rfl
theorem ng:iH Try.prog 37 113 5 40:=gN Try.underlying37 Gi rfl (by decide)
theorem Gj:(Try.prog.info? 107).map (fun i=>(i.zero,i.size,i.bytes))=some (some (.agg #[.int .i64 0,.int .i64 0,.int .i64 0,.int .i64 0]),4,32):=by kernel_rfl
theorem zq:iH Try.prog 39 107 4 32:=gN Try.underlying39 Gj rfl (by decide)
theorem HC:(Try.prog.info? 83).map (fun i=>(i.zero,i.size,i.bytes))=some (some (.agg #[.int .i64 0,.int .i64 0,.int .i64 0,.int .i64 0]),4,32):=by kernel_rfl
theorem tE:iH Try.prog 42 83 4 32:=gN Try.underlying42 HC rfl (by decide)
theorem HB:(Try.prog.info? 86).map (fun i=>(i.zero,i.size,i.bytes))=some (some (.slice none 0 0),1,24):=by kernel_rfl
theorem FN:iH Try.prog 43 86 1 24:=gN Try.underlying43 HB rfl (by decide)
theorem Gh:(Try.prog.info? 115).map (fun i=>(i.zero,i.size,i.bytes))=some (some (.agg #[.int .i64 0,.int .i64 0]),2,16):=by kernel_rfl
theorem kJ:iH Try.prog 44 115 2 16:=gN Try.underlying44 Gh rfl (by decide)
theorem HF:(Try.prog.info? 65).map (fun i=>(i.zero,i.size,i.bytes))=some (some (.agg #[.int .i64 0,.int .i64 0]),2,16):=by kernel_rfl
theorem FM:iH Try.prog 47 65 2 16:=gN Try.underlying47 HF rfl (by decide)
theorem HI:(Try.prog.info? 58).map (fun i=>(i.zero,i.size,i.bytes))=some (some (.agg #[.int .i64 0,.int .i64 0,.int .i64 0]),3,24):=by kernel_rfl
theorem Iy:iH Try.prog 53 58 3 24:=gN Try.underlying53 HI rfl (by decide)
theorem Gg:(Try.prog.info? 125).map (fun i=>(i.zero,i.size,i.bytes))=some (some (.agg #[.int .i64 0,.int .i64 0]),2,16):=by kernel_rfl
theorem oZ:iH Try.prog 59 125 2 16:=gN Try.underlying59 Gg rfl (by decide)
theorem IG:(Try.prog.info? 5).map (fun i=>(i.zero,i.size,i.bytes))=some (some (.int .u8 0),1,1):=by kernel_rfl
theorem wb:iH Try.prog 86 5 1 1:=gN Try.underlying86 IG rfl (by decide)
theorem HH:(Try.prog.info? 59).map (fun i=>(i.zero,i.size,i.bytes))=some (some (.slice none 0 0),1,24):=by kernel_rfl
theorem Hw:iH Try.prog 181 59 1 24:=gN Try.underlying181 HH rfl (by decide)
theorem Ju:bl Try.prog 17:=fun args w=>aZ Try.func17 (by kernel_rfl) rfl args w
theorem Jt:bl Try.prog 18:=fun args w=>aZ Try.func18 (by kernel_rfl) rfl args w
theorem Js:bl Try.prog 19:=fun args w=>aZ Try.func19 (by kernel_rfl) rfl args w
theorem ox:bl Try.prog 20:=fun args w=>aZ Try.func20 (by kernel_rfl) rfl args w
theorem DG:bl Try.prog 21:=fun args w=>aZ Try.func21 (by kernel_rfl) rfl args w
theorem GY:bl Try.prog 22:=fun args w=>aZ Try.func22 (by kernel_rfl) rfl args w
theorem GX:bl Try.prog 23:=fun args w=>aZ Try.func23 (by kernel_rfl) rfl args w
theorem GW:bl Try.prog 24:=fun args w=>aZ Try.func24 (by kernel_rfl) rfl args w
theorem GU:bl Try.prog 26:=fun args w=>aZ Try.func26 (by kernel_rfl) rfl args w
theorem Aa:bl Try.prog 27:=fun args w=>aZ Try.func27 (by kernel_rfl) rfl args w
theorem zZ:bl Try.prog 28:=fun args w=>aZ Try.func28 (by kernel_rfl) rfl args w
theorem DF:bl Try.prog 29:=fun args w=>aZ Try.func29 (by kernel_rfl) rfl args w
theorem zY:bl Try.prog 30:=fun args w=>aZ Try.func30 (by kernel_rfl) rfl args w
theorem GS:bl Try.prog 31:=fun args w=>aZ Try.func31 (by kernel_rfl) rfl args w
theorem Jr:bl Try.prog 33:=fun args w=>aZ Try.func33 (by kernel_rfl) rfl args w
theorem Jq:bl Try.prog 35:=fun args w=>aZ Try.func35 (by kernel_rfl) rfl args w
theorem Jp:bl Try.prog 37:=fun args w=>aZ Try.func37 (by kernel_rfl) rfl args w
theorem DE:bl Try.prog 39:=fun args w=>aZ Try.func39 (by kernel_rfl) rfl args w
theorem Jo:bl Try.prog 40:=fun args w=>aZ Try.func40 (by kernel_rfl) rfl args w
theorem Jn:bl Try.prog 41:=fun args w=>aZ Try.func41 (by kernel_rfl) rfl args w
theorem Jm:bl Try.prog 42:=fun args w=>aZ Try.func42 (by kernel_rfl) rfl args w
theorem DC:bl Try.prog 44:=fun args w=>aZ Try.func44 (by kernel_rfl) rfl args w
theorem GR:bl Try.prog 45:=fun args w=>aZ Try.func45 (by kernel_rfl) rfl args w
theorem Jl:bl Try.prog 50:=fun args w=>aZ Try.func50 (by kernel_rfl) rfl args w
theorem DB:bl Try.prog 51:=fun args w=>aZ Try.func51 (by kernel_rfl) rfl args w
theorem Jk:bl Try.prog 52:=fun args w=>aZ Try.func52 (by kernel_rfl) rfl args w
theorem DA:bl Try.prog 53:=fun args w=>aZ Try.func53 (by kernel_rfl) rfl args w
theorem GQ:bl Try.prog 54:=fun args w=>aZ Try.func54 (by kernel_rfl) rfl args w
theorem GP:bl Try.prog 55:=fun args w=>aZ Try.func55 (by kernel_rfl) rfl args w
theorem Jj:bl Try.prog 56:=fun args w=>aZ Try.func56 (by kernel_rfl) rfl args w
theorem Ji:bl Try.prog 58:=fun args w=>aZ Try.func58 (by kernel_rfl) rfl args w
theorem Jh:bl Try.prog 59:=fun args w=>aZ Try.func59 (by kernel_rfl) rfl args w
theorem Dz:bl Try.prog 60:=fun args w=>aZ Try.func60 (by kernel_rfl) rfl args w
theorem GO:bl Try.prog 61:=fun args w=>aZ Try.func61 (by kernel_rfl) rfl args w
theorem Jg:bl Try.prog 62:=fun args w=>aZ Try.func62 (by kernel_rfl) rfl args w
theorem Jf:bl Try.prog 63:=fun args w=>aZ Try.func63 (by kernel_rfl) rfl args w
theorem Je:bl Try.prog 64:=fun args w=>aZ Try.func64 (by kernel_rfl) rfl args w
theorem Jd:bl Try.prog 65:=fun args w=>aZ Try.func65 (by kernel_rfl) rfl args w
theorem Jc:bl Try.prog 66:=fun args w=>aZ Try.func66 (by kernel_rfl) rfl args w
theorem GN:bl Try.prog 67:=fun args w=>aZ Try.func67 (by kernel_rfl) rfl args w
theorem Jb:bl Try.prog 68:=fun args w=>aZ Try.func68 (by kernel_rfl) rfl args w
theorem Ja:bl Try.prog 69:=fun args w=>aZ Try.func69 (by kernel_rfl) rfl args w
theorem IZ:bl Try.prog 70:=fun args w=>aZ Try.func70 (by kernel_rfl) rfl args w
theorem GM:bl Try.prog 71:=fun args w=>aZ Try.func71 (by kernel_rfl) rfl args w
theorem Dy:bl Try.prog 72:=fun args w=>aZ Try.func72 (by kernel_rfl) rfl args w
theorem kA:bl Try.prog 73:=fun args w=>aZ Try.func73 (by kernel_rfl) rfl args w
theorem rL:bl Try.prog 74:=fun args w=>aZ Try.func74 (by kernel_rfl) rfl args w
theorem ow:bl Try.prog 75:=fun args w=>aZ Try.func75 (by kernel_rfl) rfl args w
theorem nn:bl Try.prog 76:=fun args w=>aZ Try.func76 (by kernel_rfl) rfl args w
theorem fW:bl Try.prog 77:=fun args w=>aZ Try.func77 (by kernel_rfl) rfl args w
theorem IY:bl Try.prog 78:=fun args w=>aZ Try.func78 (by kernel_rfl) rfl args w
theorem GL:bl Try.prog 79:=fun args w=>aZ Try.func79 (by kernel_rfl) rfl args w
theorem IX:bl Try.prog 80:=fun args w=>aZ Try.func80 (by kernel_rfl) rfl args w
theorem IW:bl Try.prog 81:=fun args w=>aZ Try.func81 (by kernel_rfl) rfl args w
theorem zX:bl Try.prog 82:=fun args w=>aZ Try.func82 (by kernel_rfl) rfl args w
theorem IV:bl Try.prog 83:=fun args w=>aZ Try.func83 (by kernel_rfl) rfl args w
theorem GK:bl Try.prog 84:=fun args w=>aZ Try.func84 (by kernel_rfl) rfl args w
theorem GJ:bl Try.prog 85:=fun args w=>aZ Try.func85 (by kernel_rfl) rfl args w
theorem GI:bl Try.prog 86:=fun args w=>aZ Try.func86 (by kernel_rfl) rfl args w
theorem ov:bl Try.prog 87:=fun args w=>aZ Try.func87 (by kernel_rfl) rfl args w
theorem GH:bl Try.prog 88:=fun args w=>aZ Try.func88 (by kernel_rfl) rfl args w
theorem GG:bl Try.prog 89:=fun args w=>aZ Try.func89 (by kernel_rfl) rfl args w
theorem IU:bl Try.prog 90:=fun args w=>aZ Try.func90 (by kernel_rfl) rfl args w
theorem IQ:bl Try.prog 91:=fun args w=>aZ Try.func91 (by kernel_rfl) rfl args w
theorem IP:bl Try.prog 92:=fun args w=>aZ Try.func92 (by kernel_rfl) rfl args w
theorem GF:bl Try.prog 93:=fun args w=>aZ Try.func93 (by kernel_rfl) rfl args w
theorem IM:bl Try.prog 94:=fun args w=>aZ Try.func94 (by kernel_rfl) rfl args w
theorem GD:bl Try.prog 95:=fun args w=>aZ Try.func95 (by kernel_rfl) rfl args w
theorem IL:bl Try.prog 96:=fun args w=>aZ Try.func96 (by kernel_rfl) rfl args w
theorem IK:bl Try.prog 97:=fun args w=>aZ Try.func97 (by kernel_rfl) rfl args w
theorem IJ:bl Try.prog 98:=fun args w=>aZ Try.func98 (by kernel_rfl) rfl args w
theorem GC:bl Try.prog 99:=fun args w=>aZ Try.func99 (by kernel_rfl) rfl args w
theorem Ia:bl Try.prog 100:=fun args w=>aZ Try.func100 (by kernel_rfl) rfl args w
theorem EF:bl Try.prog 101:=fun args w=>aZ Try.func101 (by kernel_rfl) rfl args w
theorem HZ:bl Try.prog 102:=fun args w=>aZ Try.func102 (by kernel_rfl) rfl args w
theorem ED:bl Try.prog 103:=fun args w=>aZ Try.func103 (by kernel_rfl) rfl args w
theorem HY:bl Try.prog 104:=fun args w=>aZ Try.func104 (by kernel_rfl) rfl args w
theorem HX:bl Try.prog 105:=fun args w=>aZ Try.func105 (by kernel_rfl) rfl args w
theorem EC:bl Try.prog 106:=fun args w=>aZ Try.func106 (by kernel_rfl) rfl args w
theorem HW:bl Try.prog 107:=fun args w=>aZ Try.func107 (by kernel_rfl) rfl args w
theorem EB:bl Try.prog 108:=fun args w=>aZ Try.func108 (by kernel_rfl) rfl args w
theorem EA:bl Try.prog 109:=fun args w=>aZ Try.func109 (by kernel_rfl) rfl args w
theorem Ab:bl Try.prog 110:=fun args w=>aZ Try.func110 (by kernel_rfl) rfl args w
theorem HV:bl Try.prog 111:=fun args w=>aZ Try.func111 (by kernel_rfl) rfl args w
theorem Ez:bl Try.prog 112:=fun args w=>aZ Try.func112 (by kernel_rfl) rfl args w
theorem HU:bl Try.prog 113:=fun args w=>aZ Try.func113 (by kernel_rfl) rfl args w
theorem Ey:bl Try.prog 114:=fun args w=>aZ Try.func114 (by kernel_rfl) rfl args w
theorem HT:bl Try.prog 115:=fun args w=>aZ Try.func115 (by kernel_rfl) rfl args w
theorem HS:bl Try.prog 116:=fun args w=>aZ Try.func116 (by kernel_rfl) rfl args w
theorem HR:bl Try.prog 117:=fun args w=>aZ Try.func117 (by kernel_rfl) rfl args w
theorem HQ:bl Try.prog 118:=fun args w=>aZ Try.func118 (by kernel_rfl) rfl args w
theorem HP:bl Try.prog 119:=fun args w=>aZ Try.func119 (by kernel_rfl) rfl args w
theorem HO:bl Try.prog 120:=fun args w=>aZ Try.func120 (by kernel_rfl) rfl args w
theorem HN:bl Try.prog 121:=fun args w=>aZ Try.func121 (by kernel_rfl) rfl args w
theorem vJ:bl Try.prog 122:=fun args w=>aZ Try.func122 (by kernel_rfl) rfl args w
theorem HM:bl Try.prog 123:=fun args w=>aZ Try.func123 (by kernel_rfl) rfl args w
theorem mixed:Try.prog.follows .mixedOrders=true:=by kernel_rfl
theorem qm {P:Program} {st:aK} {o:Oper} {t e bytes n:Nat} {x y:Operand} {i j:Int} (k:Nat) (hT:iH P t e 1 bytes) (hz:(P.info? e).bind (fun i=>i.zero)=some (.int .i64 0)) (ho:o.op=.makeSlice t x y) (hx:ev st x (.v (.c (.d (.v (.int .i64 i)))))) (hy:ev st y (.v (.c (.d (.v (.int .i64 j))))))
    (hi:i=n) (hj:j=n) (hb:bytes * n<=281474976710656) (h63:n<=9223372036854775807):aM P o st (.v (.c (.s k 0 1 n))) [(k,.arr e 1 ((List.replicate n 0).map rI))] []:=by
  have h:=Gs k hT hz rfl rfl ho hx hy hi hj hb h63
  have e1:List.replicate n [D.v (.int .i64 0)]=(List.replicate n (0:Int)).map rI:=by rw [List.map_replicate];rfl
  rw [e1] at h
  exact h
section

def mV (ps:List (Int×Int)):List (Int×Value):=ps.map fun p=>(p.1,.int .i64 p.2)
section
variable {P:Program} {st:aK} {o:Oper}
theorem BJ {t:TypeId} (k:Nat) (ho:o.op=.makeMap t none):aM P o st (.v (.c (.m k))) [(k,.map (mV []) 0)] []:=
 aM.new (P:=P) fun σ T ac w C hk=>by
  refine ⟨.map (some w.heap.size),.map #[] 0,0,?_,⟨⟨w.heap.size,0⟩,#[],rfl,.inr rfl,heap_alloc_new w _,rfl⟩,⟨_,gp _ _ _,rfl⟩⟩
  unfold execOp
  simp only [ho,Option.map_none,Sem.run_bind,(show ∀ t w,(Instr.makeMap t none).run P w=.ok (.map (some w.heap.size)) (w.alloc (.map #[] 0)) from fun _ _=>rfl),Result.andThen_ok]
  rfl
end
end
section

theorem ss {P:Program} {w:World} {t e K:Nat} {A:Option Addr} {len cap:Nat} (hu:P.underlying t=some (.slice e)) (hz:(P.info? e).map (·.size)=some K) (lo hi mx:Option Value) (l h m:Nat) (hlo:(lo=none/\l=0)\/lo=some (.int .i64 l)) (hhi:(hi=none/\h=len/\mx=none)\/hi=some (.int .i64 h)) (hmx:(mx=none/\m=cap)\/mx=some (.int .i64 m)) (h1:l<=h) (h2:h<=m) (h3:m<=cap):
  (Instr.sliceAt t (.slice A len cap) lo hi mx).run P w=.ok (.slice (if m=l then A else A.map (·.add (l * K))) (h - l) (m - l)) w:=by
 cases hq:P.info? e with
 |none=>simp [hq] at hz
 |some ii=>
  have hs:ii.size=K:=by simpa [hq] using hz
  have h4:¬((m:Int) < (l:Int)):=by omega
  have h5:l<=m:=by omega
  rcases hhi with ⟨rfl,rfl,rfl⟩|rfl
  ·rcases hmx with ⟨_,rfl⟩|hm
   ·rcases hlo with ⟨rfl,rfl⟩|rfl
    all_goals simp [Instr.sliceAt,run_underlying hu,Instr.slice,Instr.sliceBounds,Instr.sliceBound,asIntOf,sizeOf,typeInfo,hq,hs,h1]
    all_goals try omega
   ·cases hm
  ·rcases hlo with ⟨rfl,rfl⟩|rfl<;>rcases hmx with ⟨rfl,rfl⟩|rfl
   all_goals simp [Instr.sliceAt,run_underlying hu,Instr.slice,Instr.sliceBounds,Instr.sliceBound,asIntOf,sizeOf,typeInfo,hq,hs,h1,h2,h3]
   all_goals try omega
section
variable {P:Program} {st:aK} {o:Oper}
theorem gr {t e K k i n c c':Nat} {E E':Bool} {x:Operand} {lo hi mx:Option Operand} {l h m n':Nat} (ho:o.op=.slice t x lo hi mx) (hu:P.underlying t=some (.slice e)) (hz:(P.info? e).map (·.size)=some K) (hx:ev st x (.v (.c (.sx k i K n c E))))
  (hlo:(lo=none/\l=0)\/∃ x,lo=some x/\ev st x (.v (.c (.d (.v (.int .i64 l)))))) (hhi:(hi=none/\h=n/\mx=none)\/∃ x,hi=some x/\ev st x (.v (.c (.d (.v (.int .i64 h))))))
  (hmx:(mx=none/\m=c)\/∃ x,mx=some x/\ev st x (.v (.c (.d (.v (.int .i64 m)))))) (h1:l<=h) (h2:h<=m) (h3:m<=c) (hn:h - l=n') (hc:m - l=c') (hE:E'=true->E=true/\m=c):aM P o st (.v (.c (.sx k (i+l) K n' c' E'))) [] []:=
 aM.val fun σ T ac w C=>by
  obtain ⟨g,off,hg,hv,ho1,h4,h5,h6,h7⟩:=bM C hx
  subst hn hc
  have:=ss (P:=P) (w:=w) (A:=some ⟨g.g,off,none⟩) (len:=n) (cap:=c) hu hz (lo.map ac.eval) (hi.map ac.eval) (mx.map ac.eval) l h m
   (by rcases hlo with ⟨rfl,rfl⟩|⟨y,rfl,hy⟩;exact .inl ⟨rfl,rfl⟩;exact .inr (by rw [Option.map_some,bo.inv (bM C hy)]))
   (by rcases hhi with ⟨rfl,rfl,rfl⟩|⟨y,rfl,hy⟩;exact .inl ⟨rfl,rfl,rfl⟩;exact .inr (by rw [Option.map_some,bo.inv (bM C hy)]))
   (by rcases hmx with ⟨rfl,rfl⟩|⟨y,rfl,hy⟩;exact .inl ⟨rfl,rfl⟩;exact .inr (by rw [Option.map_some,bo.inv (bM C hy)])) h1 h2 h3
  refine ⟨.slice (if m=l then some ⟨g.g,off,none⟩ else some ⟨g.g,off+l * K,none⟩) (h - l) (m - l),?_,g,if m=l then off else off+l * K,hg,?_,?_,by omega,by omega,fun e=>?_,h7⟩
  ·unfold execOp
   simp only [ho,hv,Sem.run_bind,this,Result.andThen_ok,Option.map_some,Addr.add_lit]
   rfl
  ·split<;>rfl
  ·by_cases hml:m=l
   ·exact .inr (by omega)
   ·rw [if_neg hml]
    rcases ho1 with rfl|h0
    ·exact .inl (by rw [Nat.add_mul])
    ·omega
  ·obtain ⟨h8,h9⟩:=hE e
   have:=h6 h8
   omega
theorem Gv {x:Operand} {cl:Call} {t e k i K n c:Nat} {E:Bool} (hu:P.underlying t=some (.slice e)) (ho:o.op=.call cl) (hc:cl.callee=.builtin .cap) (ha:cl.args=#[x]) (hat:cl.argTypes=#[t]) (hx:ev st x (.v (.c (.sx k i K n c E)))):aM P o st (.v (.c (.d (.v (.int .i64 c))))) [] []:=
 aM.val fun σ T ac w C=>by
  obtain ⟨g,off,hg,hv,_⟩:=bM C hx
  refine ⟨_,?_,bo.v _ rfl⟩
  unfold execOp
  simp [ho,resolve,hc,ha,hat,invoke,builtin,hv,Builtin.cap_,run_underlying hu,goInt]
theorem Gt {x:Operand} {cl:Call} {t e k i K n c:Nat} {E:Bool} (hu:P.underlying t=some (.slice e)) (ho:o.op=.call cl) (hc:cl.callee=.builtin .len) (ha:cl.args=#[x]) (hat:cl.argTypes=#[t]) (hx:ev st x (.v (.c (.sx k i K n c E)))):aM P o st (.v (.c (.d (.v (.int .i64 n))))) [] []:=
 aM.val fun σ T ac w C=>by
  obtain ⟨g,off,hg,hv,_⟩:=bM C hx
  refine ⟨_,?_,bo.v _ rfl⟩
  unfold execOp
  simp [ho,resolve,hc,ha,hat,invoke,builtin,hv,Builtin.len_,run_underlying hu,goInt]
inductive rW (st:aK):AV->Nat->Nat->Nat->List (List D)->Prop
 |d {K len m:Nat} {rows ys:List (List D)} (hl:rows.length=len) (hm:m<=len) (he:rows.take m=ys):rW st (.v (.c (.d (.r K rows)))) K len m ys
 |s {k i t K len m:Nat} {rows ys:List (List D)} (h:look st.h k=some (.arr t K rows)) (hm:m<=len) (hi:i+m<=rows.length) (he:(rows.drop i).take m=ys):rW st (.v (.c (.s k i K len))) K len m ys
 |x {k i t K len m c:Nat} {E:Bool} {rows ys:List (List D)} (h:look st.h k=some (.arr t K rows)) (hm:m<=len) (hi:i+m<=rows.length) (he:(rows.drop i).take m=ys):rW st (.v (.c (.sx k i K len c E))) K len m ys
theorem rW.read {σ:Nat->Option bR} {T:Nat->Prop} {a:Act} {w:World} (C:Core σ T st a w) {v:AV} {K len m:Nat} {ys:List (List D)} (h:rW st v K len m ys) (hK:0 < K) (hm0:0 < m\/∃ k i c E,v=.v (.c (.sx k i K len c E))) {x:Value} (hx:eQ σ T w v x):
  ys.length=m/\∃ b off c vs,x=.slice (some ⟨b,off,none⟩) len c/\Flat T w K ys ⟨b,off,none⟩ vs:=by
 cases h with
 |@d _ _ _ rows _ hl hm he=>
  subst he
  refine ⟨by rw [List.length_take];omega,?_⟩
  have hx:bo T w (.r K rows) x:=hx
  obtain hm0:0 < m:=hm0.resolve_right (fun ⟨_,_,_,_,h⟩=>by cases h)
  cases hx with
  |nil=>simp at hl;omega
  |r K rows b off c cs hb hT hc hmx hKr eh hd=>
   obtain ⟨vs,hf⟩:=tY (T:=T) (w:=w) (rows:=rows.take m) hK cs (fun i row hr=>hKr i row (by rw [List.getElem?_take] at hr;split at hr;exact hr;cases hr)) (fun i row j d hr hj=>by
    rw [List.getElem?_take] at hr
    split at hr
    ·exact ⟨eh i row j d hr hj,hd i row j d hr hj⟩
    ·cases hr)
   exact ⟨b,off,c,vs,by rw [hl],hf⟩
 |@s k i t _ _ _ rows _ hk hm hi he=>
  subst he
  refine ⟨by rw [List.length_take,List.length_drop];omega,?_⟩
  have hx:cV σ T w (.s k i K len) x:=hx
  obtain hm0:0 < m:=hm0.resolve_right (fun ⟨_,_,_,_,h⟩=>by cases h)
  rcases hx with ⟨h0,_⟩|⟨g,hg,hv,_⟩
  ·omega
  ·have hh:=C.heap k _ hk
   rw [hg] at hh
   obtain ⟨vs,hf⟩:=jR hh hi
   exact ⟨g.g,i * K,_,vs,hv,hf⟩
 |@x k i t _ _ _ c E rows _ hk hm hi he=>
  subst he
  refine ⟨by rw [List.length_take,List.length_drop];omega,?_⟩
  have hx:cV σ T w (.sx k i K len c E) x:=hx
  obtain ⟨g,off,hg,hv,ho1,h2,_⟩:=hx
  have hh:=C.heap k _ hk
  rw [hg] at hh
  obtain ⟨vs,hf⟩:=jR hh hi
  rcases ho1 with rfl|h0
  ·exact ⟨g.g,i * K,_,vs,hv,hf⟩
  ·obtain rfl:m=0:=by omega
   exact ⟨g.g,off,_,[],hv,by simp,⟨by simp,fun i row h=>by simp at h⟩,fun j u h=>by simp at h,fun u h=>by simp at h⟩
theorem AQ {T:Nat->Prop} {w:World} {K:Nat} {rows:List (List D)} {vs:List Value} (h:Rows T w K rows vs) (j:Nat):Rows T w K (rows.drop j) (vs.drop (j * K)):=by
 refine ⟨?_,fun i row hi=>?_⟩
 ·rw [List.length_drop,List.length_drop,Nat.sub_mul];have:=h.1;omega
 ·rw [List.getElem?_drop] at hi
  obtain ⟨h1,h2⟩:=h.2 _ row hi
  refine ⟨h1,fun q d hq=>?_⟩
  obtain ⟨u,hu,hr⟩:=h2 q d hq
  refine ⟨u,?_,hr⟩
  rw [List.getElem?_drop,<-hu,Nat.add_mul,Nat.add_assoc]
theorem zv {T:Nat->Prop} {w:World} {K:Nat} {rows:List (List D)} {vs:List Value} (h:Rows T w K rows vs) {i:Nat} (hi:i<=rows.length):Rows T w K (rows.take i) (vs.take (i * K))/\(vs.take (i * K)).length=(rows.take i).length * K:=by
 have h1:i * K<=vs.length:=Nat.le_trans (Nat.mul_le_mul_right K hi) h.1
 refine ⟨uC (⟨?_,fun j row hj=>?_⟩:Rows T w K (rows.take i) vs) ?_,?_⟩
 ·exact Nat.le_trans (Nat.mul_le_mul_right K (by rw [List.length_take];omega)) h.1
 ·rw [List.getElem?_take] at hj
  split at hj
  ·exact h.2 j row hj
  ·cases hj
 ·rw [List.length_take,Nat.min_eq_left hi];exact Nat.le_refl _
 ·rw [List.length_take,List.length_take,Nat.min_eq_left hi,Nat.min_eq_left h1]
theorem xP {T:Nat->Prop} {w:World} {K:Nat} {rows ys:List (List D)} {vs ws:List Value} (h:Rows T w K rows vs) (h':Rows T w K ys ws) (hw:ws.length=ys.length * K) {i:Nat} (hi:i<=rows.length):
  Rows T w K (rows.take i++ys++rows.drop (i+ys.length)) (vs.take (i * K)++ws++vs.drop (i * K+ws.length)):=by
 obtain ⟨h1,h2⟩:=zv h hi
 refine jK (jK h1 h2 h') ?_ ?_
 ·rw [List.length_append,List.length_append,h2,hw,Nat.add_mul]
 ·have:=AQ h (i+ys.length)
  rwa [Nat.add_mul,<-hw] at this
theorem oJ {T:Nat->Prop} {w:World} {K:Nat} {ys:List (List D)} {b off:Nat} {vs:List Value} (hf:Flat T w K ys ⟨b,off,none⟩ vs):(loadCells ⟨b,off,none⟩ (ys.length * K)).run P w=.ok vs.toArray w:=by
 rw [<-hf.len]
 exact run_loadCells_list (P:=P) w ⟨b,off,none⟩ vs hf.cell
theorem vg {σ:Nat->Option bR} {T:Nat->Prop} {a:Act} {w:World} (C:Core σ T st a w) {e bt K k i:Nat} {rows ys:List (List D)} {g:bR} {b off:Nat} {vs:List Value} (hK:0 < K) (hg:σ k=some g) (hb:look st.h k=some (.arr bt K rows)) (hi:i<=rows.length) (bT:i+ys.length<=g.c) (hf:Flat T w K ys ⟨b,off,none⟩ vs):
  ∃ w',(storeCells ⟨g.g,i * K,none⟩ vs).run P w=.ok () w'/\Ext σ T w σ T w' [(k,.arr bt K (rows.take i++ys++rows.drop (i+ys.length)))] [k]:=by
 have hh:=C.heap k _ hb
 obtain ⟨_,hh'⟩:=hh
 rcases hh' with ⟨_,h⟩|⟨g',cs,e1,e2,e3,e4,e5,e6⟩
 ·rw [hg] at h;cases h
 rw [hg] at e1;injection e1 with e1;subst e1
 have hfit:i * K+vs.length<=cs.length:=by rw [hf.len,e4,<-Nat.add_mul];exact Nat.mul_le_mul_right _ bT
 have hst:=run_storeCells_at (P:=P) g.g (i * K) bt vs 0 cs.toArray w e3 (by simpa using hfit) hf.one
 refine ⟨w.setRow g.g (cs.take (i * K)++vs++cs.drop (i * K+vs.length)).toArray,by simpa using hst,Ext.write C hb hg rfl rfl rfl (setRow_size w _ _) (fun j hj=>setRow_other w g.g j _ hj) fun G=>?_⟩
 refine ⟨hK,.inr ⟨g,_,rfl,e2,setRow_heap w g.g _ _ bt (0,0) e3,?_,e5,xP (e6.grow G) (hf.qe.grow G) hf.len hi⟩⟩
 rw [<-e4];simp only [List.length_append,List.length_take,List.length_drop];omega
theorem qn {x y:Operand} {cl:Call} {v:AV} {t e bt K bytes k i n c len m:Nat} {E:Bool} {rows ys rows':List (List D)} (hT:iH P t e K bytes) (ho:o.op=.call cl) (hc:cl.callee=.builtin .copy) (ha:cl.args=#[x,y]) (hat:cl.argTypes=#[t,t])
  (hx:ev st x (.v (.c (.sx k i K n c E)))) (hb:look st.h k=some (.arr bt K rows)) (hy:ev st y v) (hs:rW st v K len m ys) (hm:0 < m) (hmin:m=len/\len<=n\/m=n/\n<=len) (hi:i<=rows.length) (hr:rows.take i++ys++rows.drop (i+m)=rows'):
  aM P o st (.v (.c (.d (.v (.int .i64 m))))) [(k,.arr bt K rows')] [k]:=by
 intro σ T a w C _
 obtain ⟨g,off,hg,hv,ho1,h2,h3,_,h5⟩:=bM C hx
 obtain ⟨hyl,b,off2,c2,vs,hyv,hf⟩:=hs.read C hT.K0 (.inl hm) (bM C hy)
 obtain ⟨ii,z,hii,_,hsz,_⟩:=hT.i
 obtain rfl:off=i * K:=ho1.resolve_right (by omega)
 have hml:Nat.min len n=m:=by show min len n=m;omega
 obtain ⟨w',hst,hext⟩:=vg (P:=P) (e:=e) C hT.K0 hg hb hi (by omega) hf
 rw [hyl,hr] at hext
 refine gM (v:=.int .i64 m) (w':=w') ?_ ⟨_,σ,T,rfl,hext,bo.v _ rfl⟩
 have hld:=oJ (P:=P) hf
 rw [hyl] at hld
 unfold execOp
 simp [ho,resolve,hc,ha,hat,invoke,builtin,hv,hyv,Builtin.copy_,run_underlying hT.u,Builtin.lenOf,Builtin.firstCells,sizeOf,typeInfo,hii,hsz,hml,hld,hst,goInt]
theorem Fh {x y:Operand} {cl:Call} {v:AV} {t e bt K bytes k i n c m N:Nat} {E:Bool} {rows ys rows':List (List D)} (hT:iH P t e K bytes) (ho:o.op=.call cl) (hc:cl.callee=.builtin .append) (ha:cl.args=#[x,y]) (hat:cl.argTypes=#[t,t])
  (hx:ev st x (.v (.c (.sx k i K n c E)))) (hb:look st.h k=some (.arr bt K rows)) (hy:ev st y v) (hs:rW st v K m m ys) (hm:0 < m\/∃ k i c E,v=.v (.c (.sx k i K m c E))) (hc0:0 < c) (hN:n+m=N) (hroom:N<=c) (hi:i+n<=rows.length) (hr:rows.take (i+n)++ys++rows.drop (i+n+m)=rows'):
  aM P o st (.v (.c (.sx k i K N c E))) [(k,.arr bt K rows')] [k]:=by
 intro σ T a w C _
 subst hN
 obtain ⟨g,off,hg,hv,ho1,h2,h3,h4,h5⟩:=bM C hx
 obtain ⟨hyl,b,off2,c2,vs,hyv,hf⟩:=hs.read C hT.K0 hm (bM C hy)
 obtain ⟨ii,z,hii,_,hsz,_⟩:=hT.i
 obtain rfl:off=i * K:=ho1.resolve_right (by omega)
 obtain ⟨w',hst,hext⟩:=vg (P:=P) (e:=e) C hT.K0 hg hb hi (by omega) hf
 rw [hyl,hr] at hext
 refine gM (v:=.slice (some ⟨g.g,i * K,none⟩) (n+m) c) (w':=w') ?_ ⟨_,σ,T,rfl,hext,⟨g,i * K,hg,rfl,.inl rfl,hroom,h3,h4,h5⟩⟩
 have hld:=oJ (P:=P) hf
 rw [hyl] at hld
 rw [Nat.add_mul] at hst
 unfold execOp
 simp [ho,resolve,hc,ha,hat,invoke,builtin,hv,hyv,Builtin.append_,run_underlying hT.u,Builtin.lenOf,Builtin.firstCells,sizeOf,typeInfo,hii,hsz,hld,hroom,Addr.add_lit,hst]
end
end
section

section
variable {P:Program} {W0:World} {F:Nat->Prop} {N:NT} {T0:Nat->Prop} {pin:List (Nat×bR)} {Q:Exit->aK->Prop} {s:List (Nat×AV)} {h:List (Nat×AB)} {n:Nat}
theorem Inv.slot {a:Act} {w:World} {i:Nat} {v:AV} (hI:Inv W0 F N T0 pin ⟨s,h,n⟩ a w) (hv:∀ σ T,Core σ T ⟨s,h,n⟩ a w->eQ σ T w v (a.tmps.getD i undef)):Inv W0 F N T0 pin ⟨(i,v)::s,h,n⟩ a w:=by
 obtain ⟨σ,T,hT,S,hp⟩:=hI
 refine ⟨σ,T,hT,⟨⟨fun j x hj=>?_,S.core.heap,S.core.inj,S.core.dZ⟩,S.os,S.tape,S.output,S.size,S.cC,S.own,S.next,S.hn,S.ji,S.gU⟩,hp⟩
 have hj':look ((i,v)::s) j=some x:=hj
 rw [bS] at hj'
 split at hj'
 ·rename_i e;subst e;injection hj' with hj';subst hj'
  exact hv σ T S.core
 ·exact S.core.eT j x hj'
theorem um {cd:Code} {k r K m:Nat} (i:Nat) (hs:look s i=some (.v (.c (.s k r K m)))) (hm:0 < m) (hk:∀ c,m<=c->c<=9223372036854775807->AC P W0 F N T0 pin Q cd ⟨(i,.v (.c (.sx k r K m c true)))::s,h,n⟩):AC P W0 F N T0 pin Q cd ⟨s,h,n⟩:=fun a w hI=>by
 obtain ⟨σ,T,hT,S,hp⟩:=hI
 have h1:cV σ T w (.s k r K m) (a.tmps.getD i undef):=S.core.eT i _ hs
 rcases h1 with ⟨h0,_⟩|⟨g,hg,hv,h2,h3⟩
 ·omega
 ·refine hk (g.c - r) (by omega) (by omega) a w ?_
  refine ⟨σ,T,hT,⟨⟨fun j x hj=>?_,S.core.heap,S.core.inj,S.core.dZ⟩,S.os,S.tape,S.output,S.size,S.cC,S.own,S.next,S.hn,S.ji,S.gU⟩,hp⟩
  have hj':look ((i,AV.v (.c (.sx k r K m (g.c - r) true)))::s) j=some x:=hj
  rw [bS] at hj'
  split at hj'
  ·rename_i e;subst e;injection hj' with hj';subst hj'
   exact ⟨g,r * K,hg,hv,.inl rfl,by omega,by omega,fun _=>by omega,h3⟩
  ·exact S.core.eT j x hj'
theorem aF.Es {k r K m c:Nat} (i:Nat) (hs:look s i=some (.v (.c (.sx k r K m c true)))) (hc:0 < c):aF pin ⟨s,h,n⟩ ⟨(i,.v (.c (.s k r K m)))::s,h,n⟩:=fun W0 F N T0 a w hI=>
 hI.slot fun σ T C=>by
  obtain ⟨g,off,hg,hv,ho,h1,h2,h3,h4⟩:=C.eT i _ hs
  obtain rfl:off=r * K:=ho.resolve_right (by omega)
  have:=h3 rfl
  exact .inr ⟨g,hg,by rw [hv];congr 1;omega,by omega,h4⟩
end
section
variable {P:Program} {st:aK} {o:Oper}
theorem Grow.sc {σ σ':Nat->Option bR} {T T':Nat->Prop} {w w':World} {C:Nat->Prop} (G:Grow σ σ' T T' w.drew w' C):Grow σ σ' T T' w w' C:=⟨G.size,G.cC,G.CT,G.lO,G.σle⟩
theorem Ext.sc {σ σ':Nat->Option bR} {T T':Nat->Prop} {w w':World} {nb:List (Nat×AB)} {E:List Nat} (X:Ext σ T w.drew σ' T' w' nb E):Ext σ T w σ' T' w' nb E:=⟨X.os,X.tape,X.output,X.grow.sc,X.mU,X.dZ,X.yW,X.rel,X.fresh,X.inj⟩
theorem aM.IF {k:Nat} {b:AB} {av:AV}
  (h:∀ σ T a w,Core σ T st a w->σ k=none->∃ u ob c,(execOp a.eval o).run P w=.ok (.value u) (w.drew.alloc ob)/\dj (oU σ k ⟨w.heap.size,c⟩) (kY T w.heap.size) (w.drew.alloc ob) (some ⟨w.heap.size,c⟩) b/\eQ (oU σ k ⟨w.heap.size,c⟩) (kY T w.heap.size) (w.drew.alloc ob) av u):
  aM P o st av [(k,b)] []:=
 fun σ T a w C hk=>by
  have hk:=hk k b (List.mem_singleton.2 rfl) (by simp)
  obtain ⟨u,ob,c,hu,hr,hv⟩:=h σ T a w C hk
  exact gM hu ⟨u,_,_,rfl,Ext.sc (Ext.alloc (w:=w.drew) C.dZ ob hk hr),hv⟩
theorem uB {T:Nat->Prop} {w:World} {z:Value} {K m:Nat} {zs:List Value} (hzs:z.cells.toList=zs) (hK:zs.length=K) (h1:zs.all (·.oneCell')=true):Rows T w K (List.replicate m (zs.map D.v)) (Builtin.zeroCells z.cells m).toList/\(Builtin.zeroCells z.cells m).toList.length=m * K:=by
 have hzc:z.cells.size=K:=by rw [<-hK,<-hzs];simp
 have hlen:(Builtin.zeroCells z.cells m).toList.length=m * K:=by simp [Builtin.zeroCells,hzc]
 refine ⟨⟨by rw [List.length_replicate,hlen];exact Nat.le_refl _,fun i row hi=>?_⟩,hlen⟩
 obtain ⟨hi1,rfl⟩:=List.getElem?_eq_some_iff.1 hi
 rw [List.length_replicate] at hi1
 rw [List.getElem_replicate]
 refine ⟨by rw [List.length_map,hK],fun j d hj=>?_⟩
 rw [List.getElem?_map,Option.map_eq_some_iff] at hj
 obtain ⟨u,hu,rfl⟩:=hj
 have hjK:j < K:=by rw [<-hK];exact (List.getElem?_eq_some_iff.1 hu).1
 have hlt:i * K+j < m * K:=by
  have:(i+1) * K<=m * K:=Nat.mul_le_mul_right _ hi1
  rw [Nat.add_mul] at this
  omega
 refine ⟨u,?_,.v u (List.all_eq_true.1 h1 u (List.mem_of_getElem? hu))⟩
 have hmod:(i * K+j) % K=j:=by rw [Nat.mul_comm,Nat.mul_add_mod,Nat.mod_eq_of_lt hjK]
 rw [List.getElem?_eq_getElem (by rw [hlen];exact hlt)]
 simp only [Builtin.zeroCells,Array.getElem_toList,Array.getElem_map,Array.getElem_range,hzc,hmod]
 congr 1
 rw [getElem!_pos z.cells j (by rw [hzc];exact hjK)]
 subst hzs
 rw [Array.getElem?_toList,Array.getElem?_eq_getElem (by rw [hzc];exact hjK)] at hu
 exact Option.some.inj hu
theorem Gw {x y:Operand} {cl:Call} {t tn e bt K bytes k n c m N:Nat} {E:Bool} {kn:IntKind} {z:Value} {zs:List Value} {rows rows':List (List D)} (k2:Nat) (hT:iH P t e K bytes) (hz:(P.info? e).bind (fun i=>i.zero)=some z) (hzs:z.cells.toList=zs) (h1:zs.all (·.oneCell')=true) (htn:P.underlying tn=some (.int kn))
  (ho:o.op=.call cl) (hc:cl.callee=.builtin .append) (ha:cl.args=#[x,y]) (hat:cl.argTypes=#[t,tn]) (hx:ev st x (.v (.c (.sx k 0 K n c E)))) (hb:look st.h k=some (.arr bt K rows)) (hy:ev st y (.v (.c (.d (.v (.int .i64 m)))))) (hm:0 < m) (hN:n+m=N) (hroom:c < N) (hn:n<=rows.length) (h63:N<=9223372036854775807) (hby:N * bytes<=140737488355328)
  (hr:rows.take n++List.replicate m (zs.map D.v)=rows'):aM P o st (.v (.c (.s k2 0 K N))) [(k2,.arr e K rows')] []:=
 aM.IF fun σ T ac w C hk=>by
  subst hN hr
  obtain ⟨g,off,hg,hv,ho1,h2,h3,h4,h5⟩:=bM C hx
  have hyv:=bo.inv (bM C hy)
  obtain ⟨ii,z',hii,hzz,hsz,hbb,hzc⟩:=hT.i
  have hz':z'=z:=by simpa [hii,hzz] using hz
  subst hz'
  have hzl:zs.length=K:=by rw [<-hzs];simpa using hzc
  have hh:=C.heap k _ hb
  rw [hg] at hh
  obtain ⟨vs,hf⟩:∃ vs,Flat T w K (rows.take n) ⟨g.g,off,none⟩ vs:=by
   by_cases h0:n=0
   ·subst h0
    exact ⟨[],by simp,⟨by simp,fun i row h=>by simp at h⟩,fun j u h=>by simp at h,fun u h=>by simp at h⟩
   ·obtain rfl:off=0 * K:=ho1.resolve_right (by omega)
    have:=jR (i:=0) (n:=n) hh (by omega)
    rwa [List.drop_zero] at this
  have hlen:(rows.take n).length=n:=by rw [List.length_take];omega
  have hfc:∀ j u,vs[j]?=some u->w.drew.cell? ((⟨g.g,off,none⟩:Addr).add j)=some u:=hf.cell
  have hvl:vs.length=n * ii.size:=by rw [hf.len,hlen,hsz]
  have hold:(Builtin.firstCells ii.size n (.slice (some ⟨g.g,off,none⟩) n c)).run P w.drew=.ok vs.toArray w.drew:=by
   have:=run_loadCells_list (P:=P) w.drew ⟨g.g,off,none⟩ vs hfc
   rw [hvl] at this
   exact this
  have hrun:=Lib.run_append_grow_zeros (P:=P) w t tn o.type e ii z' .i64 kn hT.u htn hii hzz (some ⟨g.g,off,none⟩) n c vs hold m hm (by rw [hsz];exact hT.K0) hroom (by omega) (by rw [hbb];have:m * bytes<=(n+m) * bytes:=Nat.mul_le_mul_right _ (by omega);omega) (growslice_fits hroom (by rw [hbb];exact hby))
  have hge:=grownCap_ge w (n+m) c e
  have hle:=grownCap_le_maxLen w (n+m) c e (by simp only [maxLen];omega)
  simp only [maxLen] at hle
  obtain ⟨hzr,hzl2⟩:=uB (T:=T) (w:=w) (m:=m) hzs hzl h1
  obtain ⟨hzr3,hzl3⟩:=uB (T:=T) (w:=w) (m:=grownCap w (n+m) c e - (n+m)) hzs hzl h1
  refine ⟨.slice (some ⟨w.heap.size,0,none⟩) (n+m) (grownCap w (n+m) c e),.cells (vs++(Builtin.zeroCells z'.cells m).toList++(Builtin.zeroCells z'.cells (grownCap w (n+m) c e - (n+m))).toList).toArray e,grownCap w (n+m) c e,?_,?_,.inr ⟨_,gp _ _ _,?_,?_,?_⟩⟩
  ·unfold execOp
   have e1:(vs.toArray++Builtin.zeroCells z'.cells m++Builtin.zeroCells z'.cells (grownCap w (n+m) c e - (n+m)))=(vs++(Builtin.zeroCells z'.cells m).toList++(Builtin.zeroCells z'.cells (grownCap w (n+m) c e - (n+m))).toList).toArray:=by simp
   rw [e1] at hrun
   simp [ho,resolve,hc,ha,hat,invoke,builtin,hv,hyv,hrun]
  ·refine ⟨hT.K0,.inr ⟨_,_,rfl,.inr rfl,heap_alloc_new w _,?_,by show grownCap w (n+m) c e<=_;omega,?_⟩⟩
   ·rw [List.length_append,List.length_append,hzl2,hzl3,hf.len,hlen,<-Nat.add_mul,<-Nat.add_mul]
    show (n+m+(grownCap w (n+m) c e - (n+m))) * K=grownCap w (n+m) c e * K
    congr 1;omega
   ·have G:=Grow.sc (w:=w) (Grow.alloc (w:=w.drew) (T:=T) (k:=k2) (c:=grownCap w (n+m) c e) hk (.cells (vs++(Builtin.zeroCells z'.cells m).toList++(Builtin.zeroCells z'.cells (grownCap w (n+m) c e - (n+m))).toList).toArray e) (fun _=>False) fun _ h=>h.elim)
    have h6:=jK hf.qe hf.len hzr
    refine pe (m:=n * K+m * K) ?_
    have hl:(vs++(Builtin.zeroCells z'.cells m).toList).length=n * K+m * K:=by rw [List.length_append,hzl2,hf.len,hlen]
    rw [List.take_append_of_le_length (Nat.le_of_eq hl.symm),List.take_of_length_le (Nat.le_of_eq hl)]
    exact h6.grow G
  ·rw [Nat.zero_mul,Nat.sub_zero]
  ·show 0+(n+m)<=grownCap w (n+m) c e;omega
  ·show grownCap w (n+m) c e<=_;omega
theorem wW {t e K k i n:Nat} {x:Operand} {lo hi mx:Option Operand} {l h:Nat} (ho:o.op=.slice t x lo hi mx) (hu:P.underlying t=some (.slice e)) (hz:(P.info? e).map (·.size)=some K) (hx:ev st x (.v (.c (.s k i K n))))
  (hlo:(lo=none/\l=0)\/∃ x,lo=some x/\ev st x (.v (.c (.d (.v (.int .i64 l)))))) (hhi:(hi=none/\h=n/\mx=none)\/∃ x,hi=some x/\ev st x (.v (.c (.d (.v (.int .i64 h))))))
  (hmx:mx=none\/∃ x m,mx=some x/\ev st x (.v (.c (.d (.v (.int .i64 (m:Nat))))))/\h<=m/\m<=n) (h1:l<=h) (h2:h<=n):aM P o st (.v (.c .any)) [] []:=
 aM.val fun σ T ac w C=>by
  have key:∀ A c,n<=c->ac.eval x=.slice A n c->∃ u,(execOp ac.eval o).run P w=.ok (.value u) w:=by
   intro A c hc hA
   obtain ⟨m,hm,hm1,hm2⟩:∃ m:Nat,((mx.map ac.eval=none/\m=c)\/mx.map ac.eval=some (.int .i64 m))/\h<=m/\m<=c:=by
    rcases hmx with rfl|⟨y,m,rfl,hy,h3,h4⟩
    ·exact ⟨c,.inl ⟨rfl,rfl⟩,by omega,Nat.le_refl _⟩
    ·exact ⟨m,.inr (by rw [Option.map_some,bo.inv (bM C hy)]),h3,by omega⟩
   have:=ss (P:=P) (w:=w) (A:=A) (len:=n) (cap:=c) hu hz (lo.map ac.eval) (hi.map ac.eval) (mx.map ac.eval) l h m
    (by rcases hlo with ⟨rfl,rfl⟩|⟨y,rfl,hy⟩;exact .inl ⟨rfl,rfl⟩;exact .inr (by rw [Option.map_some,bo.inv (bM C hy)]))
    (by rcases hhi with ⟨rfl,rfl,rfl⟩|⟨y,rfl,hy⟩;exact .inl ⟨rfl,rfl,rfl⟩;exact .inr (by rw [Option.map_some,bo.inv (bM C hy)])) hm h1 hm1 hm2
   refine ⟨.slice (if m=l then A else A.map (·.add (l * K))) (h - l) (m - l),?_⟩
   unfold execOp
   simp only [ho,hA,Sem.run_bind,this,Result.andThen_ok]
   rfl
  have hv:cV σ T w (.s k i K n) _:=bM C hx
  rcases hv with ⟨h0,hv⟩|⟨g,hg,hv,hle,hmx⟩
  ·obtain ⟨u,hu⟩:=key none 0 (by omega) (by rw [hv,h0]);exact ⟨u,hu,trivial⟩
  ·obtain ⟨u,hu⟩:=key _ _ (by omega) hv;exact ⟨u,hu,trivial⟩
theorem zR {x y:Operand} {cl:Call} {f t tr e tA tB K bytes k1 k2 m i n c:Nat} {E:Bool} {fn:Func} {r1 r2:List (List D)} (hT:iH P t e K bytes) (hf:P.funcs[f]?=some fn) (hname:(fn.name== "runtime.NumGoroutine")=false) (hbn:fn.body.isNone=true) (hn:Extern.findNext fn=none) (he:Extern.find fn=some (Extern.SlicesOverlaps.overlaps #[t,t] #[tr]))
  (ho:o.op=.call cl) (hc:cl.callee=.value (.func f)) (ha:cl.args=#[x,y]) (hx:ev st x (.v (.c (.s k1 0 K m)))) (hm:0 < m) (hy:ev st y (.v (.c (.sx k2 i K n c E)))) (hc0:0 < c) (hb1:look st.h k1=some (.arr tA K r1)) (hb2:look st.h k2=some (.arr tB K r2)) (hk:k1≠k2):aM P o st (.v (.c (.d (.v (.bool false))))) [] []:=
 aM.val fun σ T ac w C=>by
  obtain ⟨g,off,hg,hv,ho1,h2,h3,h4,h5⟩:=bM C hy
  have hxv:cV σ T w (.s k1 0 K m) _:=bM C hx
  rcases hxv with ⟨h0,_⟩|⟨g1,hg1,hv1,h6,h7⟩
  ·omega
  obtain ⟨ii,z',hii,hzz,hsz,hbb,hzc⟩:=hT.i
  have hh1:=C.heap k1 _ hb1
  have hh2:=C.heap k2 _ hb2
  rw [hg1] at hh1;rw [hg] at hh2
  rcases hh1.2 with ⟨_,h⟩|⟨g',vs1,e1,_,e3,e4,_⟩
  ·cases h
  injection e1 with e1;subst e1
  rcases hh2.2 with ⟨_,h⟩|⟨g',vs2,e1,_,e3',e4',_⟩
  ·cases h
  injection e1 with e1;subst e1
  have hne:g1.g≠g.g:=fun e=>hk (C.inj k1 k2 _ _ g1 g hb1 hb2 hg1 hg e)
  have hK:=hT.K0
  have hpos:0 < vs2.length:=by rw [e4'];exact Nat.mul_pos (by omega) hK
  have hrun:=Lib.run_overlaps_apart (P:=P) w t tr e hT.u K (fun w=>by simp [sizeOf,typeInfo,hii,hsz]) ⟨g1.g,0 * K,none⟩ ⟨g.g,off,none⟩ m (g1.c - 0) n c hne tA tB vs1.length vs2.length (by simp [World.shape?,e3]) (by simp [World.shape?,e3']) (by omega) (by simp [World.frozen?,e3]) (by simp [World.frozen?,e3])
  refine ⟨.bool false,?_,bo.v _ rfl⟩
  have hcall:=run_callFunc_extern hf hname hbn hn he #[ac.eval x,ac.eval y] w
  rw [hv,hv1,hrun] at hcall
  have hargs:cl.args.map ac.eval=#[.slice (some ⟨g1.g,0 * K,none⟩) m (g1.c - 0),.slice (some ⟨g.g,off,none⟩) n c]:=by rw [ha];simp [hv,hv1]
  have hfe:ac.eval (.func f)=Value.func (.func f) #[] #[]:=rfl
  unfold execOp
  simp [ho,resolve,hc,hfe,Deferred.ofValue,invoke,hargs] at hcall ⊢
  simp [hcall]
end
end
section
section
variable {P:Program} {st:aK} {o:Oper}
inductive nJ:AV->Prop
 |n:nJ (.v (.c (.d (.v (.slice none 0 0)))))
 |d (K:Nat) (rows:List (List D)) (h:rows.length=0):nJ (.v (.c (.d (.r K rows))))
 |s (k i K n:Nat) (h:n=0):nJ (.v (.c (.s k i K n)))
 |x (k i K n c:Nat) (E:Bool) (h:n=0):nJ (.v (.c (.sx k i K n c E)))
theorem nJ.read {σ:Nat->Option bR} {T:Nat->Prop} {w:World} {v:AV} (h:nJ v) {x:Value} (hx:eQ σ T w v x):∃ A c,x=.slice A 0 c:=by
 cases h with
 |n=>exact ⟨_,_,bo.inv hx⟩
 |d K rows h=>
  have hx:bo T w (.r K rows) x:=hx
  cases hx with
  |nil A c=>exact ⟨_,_,rfl⟩
  |r=>exact ⟨_,_,by rw [h]⟩
 |s k i K n h=>
  subst h
  rcases hx with ⟨_,h⟩|⟨g,_,h,_⟩
  ·exact ⟨_,_,h⟩
  ·exact ⟨_,_,h⟩
 |x k i K n c E h=>
  subst h
  obtain ⟨g,off,_,h,_⟩:=hx
  exact ⟨_,_,h⟩
end
theorem fD {l:List (Nat×AV)} {x k i K n n':Nat} (h:look l x=some (.v (.c (.s k i K n)))) (hn:n=n'):look l x=some (.v (.c (.s k i K n'))):=by rw [h,hn]
end
section
theorem nF {a:Int}:Value.int .u8 (IntKind.u8.wrap a)=.int .u8 (a % 256):=by
 have:IntKind.u8.wrap a=a % 256:=by simp [IntKind.wrap,IntKind.bits,IntKind.signed]
 rw [this]
section
variable {P:Program} {st:aK} {o:Oper}
theorem Gl {xt yt:TypeId} {x y:Operand} {k:IntKind} {a b r:Int} (ho:o.op=.binOp .shr xt x y yt) (hx:ev st x (.v (.c (.d (.v (.int k a)))))) (hy:ev st y (.v (.c (.d (.v (.int .i64 b))))))
  (h0:0<=b/\b<=64) (hk:k=.i64) (hr:a / 2 ^ b.toNat=r):aM P o st (.v (.c (.d (.v (.int k r))))) [] []:=
 aM.val fun σ T ac w C=>by
  have h1:=bo.inv (bM C hx)
  have h2:=bo.inv (bM C hy)
  subst hr hk
  refine ⟨_,?_,bo.v _ rfl⟩
  unfold execOp
  have h3:=shift_shr .i64 .i64 a b h0.1 (by simpa [IntKind.bits] using h0.2)
  simp [ho,h1,h2,binOp,eqGuard,h3]
theorem Gm {xt yt:TypeId} {x y:Operand} {a r:Int} (ho:o.op=.binOp .shl xt x y yt) (hx:ev st x (.v (.c (.d (.v (.int .i64 a)))))) (hy:ev st y (.v (.c (.d (.v (.int .u64 8))))))
  (hr:some (Value.int .i64 (IntKind.i64.wrap (a * 256)))=some (.int .i64 r)):aM P o st (.v (.c (.d (.v (.int .i64 r))))) [] []:=
 aM.val fun σ T ac w C=>by
  have h1:=bo.inv (bM C hx)
  have h2:=bo.inv (bM C hy)
  injection hr with hr
  injection hr with _ hr
  subst hr
  refine ⟨_,?_,bo.v _ rfl⟩
  unfold execOp
  have h3:=shift_shl_any .i64 .u64 a 8 (by decide)
  simp [ho,h1,h2,binOp,eqGuard,h3,IntKind.bits]
theorem FU (m c:Nat) (hc:c < 256):256 * m|||c=256 * m+c:=by
 have h:=Nat.shiftLeft_add_eq_or_of_lt (i:=8) (b:=c) hc m
 rw [Nat.shiftLeft_eq] at h
 rw [show 256 * m=m * 2 ^ 8 by omega]
 exact h.symm
theorem HK {xt yt:TypeId} {x y:Operand} {a c r n:Int} (ho:o.op=.binOp .or xt x y yt) (hx:ev st x (.v (.c (.d (.v (.int .i64 a)))))) (hy:ev st y (.v (.c (.d (.v (.int .i64 c))))))
  (ha:a=n * 256) (hn:0<=n/\n<=1000000000000) (hc:0<=c/\c<=255) (hr:a+c=r):aM P o st (.v (.c (.d (.v (.int .i64 r))))) [] []:=
 aM.val fun σ T ac w C=>by
  have h1:=bo.inv (bM C hx)
  have h2:=bo.inv (bM C hy)
  subst hr ha
  obtain ⟨m,rfl⟩:=Int.eq_ofNat_of_zero_le hn.1
  obtain ⟨d,rfl⟩:=Int.eq_ofNat_of_zero_le hc.1
  refine ⟨_,?_,bo.v _ rfl⟩
  unfold execOp
  have e1:BitVec.ofInt 64 ((m:Int) * 256)=BitVec.ofNat 64 (256 * m):=by
   rw [show (m:Int) * 256=((256 * m:Nat):Int) by omega];exact BitVec.ofInt_natCast _ _
  have e2:BitVec.ofInt 64 (d:Int)=BitVec.ofNat 64 d:=BitVec.ofInt_natCast _ _
  have h3:(BitVec.ofInt 64 ((m:Int) * 256)|||BitVec.ofInt 64 (d:Int)).toNat=256 * m+d:=by
   rw [e1,e2,BitVec.toNat_or,BitVec.toNat_ofNat,BitVec.toNat_ofNat,Nat.mod_eq_of_lt (by omega),Nat.mod_eq_of_lt (by omega),FU m d (by omega)]
  have h6:IntKind.i64.wrap ((256 * m+d:Nat):Int)=(m:Int) * 256+d:=by rw [IntWalk.i64_in _ (by omega)];omega
  have h8:Op.intBits .or .i64 ((m:Int) * 256) d=pure (.int .i64 ((m:Int) * 256+d)):=by
   show (pure (Value.int .i64 (IntKind.i64.wrap ((BitVec.ofInt 64 ((m:Int) * 256)|||BitVec.ofInt 64 (d:Int)).toNat:Int))):Sem Value)=_
   rw [h3,h6]
  simp [ho,h1,h2,binOp,eqGuard,h8]
end
end
section
def kd:Op->Bool
 |.defer _=>true
 |_=>false
theorem xQ {n l:Nat} {P:Program} {row:String} {args:Array Value} {w:World} {R:Value->World->Prop} (h:Go.Rows P row args w R):RowsIn (Fence.wide.inRound l) n P row args w R:=fun c cs _=>by
 obtain ⟨v,w',h1,h2⟩:=h c cs
 exact ⟨v,w',h1,stepsIn_wide.2 h2⟩
section
variable {P:Program} {l n:Nat}
theorem CX {o:Oper} {a:Go.Act} {w:World} {K:Go.Act->World->Prop} {Q:Exit->Go.Act->World->Prop} (hd:kd o.op=false) (hQ:¬LetsOut Q) (h:o.wp P a w K Q\/(o.asks P a w/\LetsOut Q)):o.wpIn (Fence.wide.inRound l) n P a w K Q:=by
 have h:=h.resolve_right fun h=>hQ h.2
 have hd':∀ c,o.op≠.defer c:=fun c hc=>by rw [hc] at hd;cases hd
 refine ⟨fun f _=>trivial,?_⟩
 rw [Fence.inRound_round,Oper.semAt_some l _ o hd']
 unfold Oper.wp at h
 generalize (execOp a.eval o).run P w=r at h
 cases r with
 |ok x w'=>
  cases x<;>simp only [Oper.upon,Oper.uponIn] at h ⊢<;>
   first
    |exact h
    |exact h.elim
    |exact ⟨fun h=>(by cases h),callsIn_wide.2 h⟩
    |exact ⟨fun h=>(by cases h),xQ h⟩
 |halt x w'=>cases x<;>simp only [Oper.upon,Oper.uponIn] at h ⊢<;>exact h
theorem uo {ops:Array Oper} {Q:Exit->Go.Act->World->Prop} (hQ:¬LetsOut Q):∀ (k:List Oper) (a:Go.Act) (w:World),(k.all fun o=>!kd o.op)=true->wpList P ops Q k a w->wpListIn (Fence.wide.inRound l) n P ops Q k a w
 |[],a,w,_,h=>h
 |o::k,a,w,hd,h=>by
  simp only [List.all_cons,Bool.and_eq_true,Bool.not_eq_true'] at hd
  have ih:=uo (ops:=ops) hQ k
  unfold wpList at h
  unfold wpListIn
  split at h
  ·rename_i hw
   rw [if_pos hw]
   exact CX hd.1 hQ (h.imp (fun h=>iN h fun a w hk=>ih a w hd.2 hk) id)
  ·rename_i hw
   rw [if_neg hw]
   exact ⟨fun _ _=>trivial,ih _ _ hd.2 h⟩
theorem EJ {ops:Array Oper} {Q:Exit->Go.Act->World->Prop} (hQ:¬LetsOut Q) (hd:(ops.toList.all fun o=>!kd o.op)=true) {i:Nat} {K K':Go.Act->World->Prop} {a:Go.Act} {w:World} (hK:∀ a w,K a w->K' a w) (h:wpOp P ops Q i K a w):wpOpIn (Fence.wide.inRound l) n P ops Q i K' a w:=by
 unfold wpOp at h
 unfold wpOpIn
 cases ho:ops[i]? with
 |none=>simp only [ho] at h ⊢;exact hK _ _ h
 |some o=>
  simp only [ho] at h ⊢
  have hdo:kd o.op=false:=by
   have:=List.all_eq_true.1 hd o (Array.mem_toList_iff.2 (Array.mem_of_getElem? ho))
   simpa using this
  split
  ·rename_i hw
   simp only [hw,if_true] at h
   exact CX hdo hQ (h.imp (fun h=>iN h hK) id)
  ·rename_i hw
   simp only [hw] at h
   exact ⟨fun _ _=>trivial,hK _ _ h⟩
theorem vN {md:Region.Mode} {ops:Array Oper} {Q:Exit->Go.Act->World->Prop} (hQ:¬LetsOut Q) (hd:(ops.toList.all fun o=>!kd o.op)=true):∀ (fuel:Nat) (listed:Array Bool) (a:Go.Act) (w:World),wpAny P md ops Q fuel listed a w->wpAnyIn (Fence.wide.inRound l) n P md ops Q fuel listed a w
 |0,_,_,_,h=>h
 |fuel+1,listed,a,w,h=>by
  unfold wpAny at h
  unfold wpAnyIn
  exact ⟨h.1,fun i hi=>EJ hQ hd (fun a w hk=>vN hQ hd fuel _ a w hk) (h.2 i hi)⟩
end
section
variable {P:Program} {l n:Nat} {W0:World} {F:Nat->Prop} {N:NT} {T0:Nat->Prop} {pin:List (Nat×bR)} {Q:Exit->aK->Prop} {st:aK}
def iU (P:Program) (l n:Nat) (W0:World) (F:Nat->Prop) (N:NT) (T0:Nat->Prop) (pin:List (Nat×bR)) (Q:Exit->aK->Prop) (c:Code) (st:aK):Prop:=
 (∀ st,¬Q .outgrown st)->∀ a w,Inv W0 F N T0 pin st a w->c.wpIn (Fence.wide.inRound l) n P (QX W0 F N T0 pin Q) a w
theorem Bi (hq:∀ st,¬Q .outgrown st):¬LetsOut (QX W0 F N T0 pin Q):=fun ⟨_,_,st,h,_⟩=>hq st h
theorem zk {x y:Code} (h:iU P l n W0 F N T0 pin (iY (iU P l n W0 F N T0 pin Q y) Q) x st):iU P l n W0 F N T0 pin Q (.seq x y) st:=fun hq a w hI=>
 wpIn_seq (Code.wpIn_mono (fun e a w q=>by
  obtain ⟨st',hq',hi⟩:=q
  cases e<;>first|exact hq' hq a w hi|exact ⟨st',hq',hi⟩) (h hq a w hI))
theorem Cy {id:Nat} {c:Code} (h:iU P l n W0 F N T0 pin (iT id Q) c st):iU P l n W0 F N T0 pin Q (.block id c) st:=fun hq a w hI=>
 wpIn_block (Code.wpIn_mono (fun e a w q=>by
  obtain ⟨st',hq,hi⟩:=q
  cases e<;>try exact ⟨st',hq,hi⟩
  rename_i id'
  simp only [Exit.inBlock]
  by_cases hid:id'=id
  ·rw [if_pos hid];subst hid;exact ⟨st',by simpa [iT] using hq,hi⟩
  ·rw [if_neg hid];exact ⟨st',by simpa [iT,hid] using hq,hi⟩) (h hq a w hI))
theorem tw {id:Nat} {k:List Oper} (hd:(k.all fun o=>!kd o.op)=true) (h:AL P W0 F N T0 pin k.toArray Q k st):iU P l n W0 F N T0 pin Q (.region id k.toArray false) st:=fun hq a w hI=>
 wpIn_region_lit (uo (Bi hq) k a w hd (h a w hI))
theorem Em {st':aK} {c:Code} (hw:aF pin st st') (h:iU P l n W0 F N T0 pin Q c st'):iU P l n W0 F N T0 pin Q c st:=fun hq a w hI=>h hq a w (hw _ _ _ _ a w hI)
theorem En {id:Nat} {k:List Oper} (hd:(k.all fun o=>!kd o.op)=true) (aS:List bJ) (fin:aK) (hm:P.follows .mixedOrders=true) (hB:qp k.toArray aS N.1 st fin=true) (hrows:jN P k.toArray aS k) (hsee:lA st aS aS) (hfin:vM st aS fin)
  (h:AL P W0 F N T0 pin k.toArray Q (k.drop aS.length) fin):iU P l n W0 F N T0 pin Q (.region id k.toArray true) st:=fun hq a w hI=>
 wpIn_region_any hm (vN (Bi hq) (by simpa using hd) _ _ _ _ (re aS fin hm hB hrows hsee hfin h a w hI))
end
end
section
structure lZ (m:Bool) (W W':World):Prop where
 size:W.heap.size<=W'.heap.size
 cells:∀ (b:Nat) (o:Obj),W.heap[b]?=some o->o.isCells=true->W'.heap[b]?=some o
 maps:m=true->∀ (b:Nat) ms c,W.heap[b]?=some (.map ms c)->W'.heap[b]?=some (.map ms c)
theorem lZ.cell {m:Bool} {W W':World} (K:lZ m W W') {a:Addr} {v:Value} (h:W.cell? a=some v):W'.cell? a=some v:=by
 obtain ⟨o,ho,hc⟩:=cells_of_cell h
 exact (World.cell?_of_block ((K.cells _ _ ho hc).trans ho.symm)).trans h
theorem bo.cK {m:Bool} {T:Nat->Prop} {W W':World} (K:lZ m W W') {d:D} {v:Value} (h:bo T W d v):bo T W' d v:=by
 induction h with
 |v x hx=>exact .v x hx
 |nil k A c=>exact .nil k A c
 |r k rows b off c cs hb hT hc hm hK eh hd ih=>exact .r k rows b off c cs (Nat.lt_of_lt_of_le hb K.size) hT hc hm hK (fun i row j d h1 h2=>K.cell (eh i row j d h1 h2)) ih
 |f fn bj bs jn cs hb eh hd ih=>exact .f fn bj bs jn cs (fun i hi=>⟨Nat.lt_of_lt_of_le (hb i hi).1 K.size,(hb i hi).2⟩) (fun i row j d h1 h2=>K.cell (eh i row j d h1 h2)) ih
theorem cV.cK {m:Bool} {σ:Nat->Option bR} {T:Nat->Prop} {W W':World} (K:lZ m W W') {c:CV} {v:Value} (h:cV σ T W c v):cV σ T W' c v:=by
 cases c with
 |any=>trivial
 |d x=>exact bo.cK K h
 |p=>exact h
 |q row o=>
  obtain ⟨b,off,h1,h2,h3,h4⟩:=h
  exact ⟨b,off,h1,Nat.lt_of_lt_of_le h2 K.size,h3,fun j d hj=>by obtain ⟨u,hu,hr⟩:=h4 j d hj;exact ⟨u,K.cell hu,hr.cK K⟩⟩
 |s=>exact h
 |sx=>exact h
 |m=>exact h
 |fn=>exact h
theorem dk.cK {m:Bool} {σ:Nat->Option bR} {T:Nat->Prop} {W W':World} (K:lZ m W W') {g:GV} {v:Value} (h:dk σ T W g v):dk σ T W' g v:=by
 cases g with
 |c x=>exact cV.cK K h
 |g xs=>obtain ⟨vs,h1,h2⟩:=h;exact ⟨vs,h1,h2.mono fun _ _ hh=>cV.cK K hh⟩
theorem eQ.cK {m:Bool} {σ:Nat->Option bR} {T:Nat->Prop} {W W':World} (K:lZ m W W') {x:AV} {v:Value} (h:eQ σ T W x v):eQ σ T W' x v:=by
 cases x with
 |v x=>exact dk.cK K h
 |t xs=>obtain ⟨vs,h1,h2⟩:=h;exact ⟨vs,h1,h2.mono fun _ _ hh=>dk.cK K hh⟩
def pE:AB->Bool
 |.map _ _=>true
 |_=>false
theorem dj.cK {m:Bool} {σ:Nat->Option bR} {T:Nat->Prop} {W W':World} (K:lZ m W W') {og:Option bR} {b:AB} (hb:m=true\/pE b=false) (h:dj σ T W og b):dj σ T W' og b:=by
 cases b with
 |box t cs=>obtain ⟨g,vs,h1,h2,h3,h4⟩:=h;exact ⟨g,vs,h1,h2,K.cells _ _ h3 rfl,h4.mono fun _ _ hh=>cV.cK K hh⟩
 |arr t k rows=>
  obtain ⟨h0,h|⟨g,vs,h1,h2,h3,h4,h5,h6⟩⟩:=h
  ·exact ⟨h0,.inl h⟩
  ·exact ⟨h0,.inr ⟨g,vs,h1,h2,K.cells _ _ h3 rfl,h4,h5,h6.1,fun i row hr=>⟨(h6.2 i row hr).1,fun j d hj=>by obtain ⟨u,hu,hd⟩:=(h6.2 i row hr).2 j d hj;exact ⟨u,hu,hd.cK K⟩⟩⟩⟩
 |map es c=>
  obtain ⟨g,ms,h1,h2,h3,h4⟩:=h
  have hm:m=true:=hb.resolve_right (by simp [pE])
  exact ⟨g,ms,h1,h2,K.maps hm _ _ _ h3,h4⟩
def pw (st:aK):Bool:=st.h.all fun x=>!pE x.2
theorem qM {st:aK} (h:pw st=true) {k:Nat} {b:AB} (hk:look st.h k=some b):pE b=false:=by
 have:=List.all_eq_true.1 h _ (bO hk)
 simpa using this
section
variable {W0:World} {F:Nat->Prop} {N:NT} {T0:Nat->Prop} {pin:List (Nat×bR)} {st:aK} {a:Go.Act} {W:World}
theorem Inv.cK {m:Bool} {W':World} (hI:Inv W0 F N T0 pin st a W) (K:lZ m W W') (hm:m=true\/pw st=true) (hos:W'.os=W.os) (htp:W'.tape=W.tape) (hout:W'.output=W.output) (hold:∀ b,b < W0.heap.size->W'.heap[b]?=W.heap[b]?):Inv W0 F N T0 pin st a W':=by
 obtain ⟨σ,T,hT,S,hp⟩:=hI
 refine ⟨σ,T,hT,⟨⟨fun i v h=>(S.core.eT i v h).cK K,fun k b h=>dj.cK K (hm.imp id fun h'=>qM h' h) (S.core.heap k b h),S.core.inj,fun b h=>Nat.lt_of_lt_of_le (S.core.dZ b h) K.size⟩,hos.trans S.os,htp.trans S.tape,hout.trans S.output,Nat.le_trans S.size K.size,fun b hb hF=>(hold b hb).trans (S.cC b hb hF),S.own,S.next,S.hn,S.ji,S.gU⟩,hp⟩
theorem tS {W':World} {row:Option Nat} (hg:W.grownBy W' row) (hr:∀ r,row=some r->∃ o:Obj,W.heap[r]?=some o/\o.isCells=false):lZ false W W':=
 ⟨hg.size,fun b o ho hc=>(grownBy_keeps_cells hg hr ho hc).trans ho,fun h=>by cases h⟩
theorem Inv.own (hm:pw st=true) {W':World} {row:Option Nat} (hI:Inv W0 F N T0 pin st a W) (hg:W.grownBy W' row) (hr:∀ r,row=some r->W0.heap.size<=r/\∃ o:Obj,W.heap[r]?=some o/\o.isCells=false):Inv W0 F N T0 pin st a W':=by
 have hsz:W0.heap.size<=W.heap.size:=by obtain ⟨_,_,_,S,_⟩:=hI;exact S.size
 refine hI.cK (tS hg fun r e=>(hr r e).2) (.inr hm) hg.os hg.tape hg.output fun b hb=>hg.block b (by omega) ?_
 intro e
 have:=(hr b e.symm).1
 omega
theorem Inv.AY (hm:pw st=true) (hI:Inv W0 F N T0 pin st a W):∃ F' T',Inv W F' N T' pin st a W/\(∀ b,F' b->T' b/\∃ o,W.heap[b]?=some o/\o.isCells=true)/\(∀ b,F' b->W0.heap.size<=b\/F b)/\
  (∀ b,T' b->b < W.heap.size)/\∀ {N':NT} {pin':List (Nat×bR)} {st':aK} {a':Go.Act} {W':World},Inv W F' N' T' pin' st' a' W'->Inv W0 F N' T0 pin' st' a' W':=by
 obtain ⟨σ,T,hT,S,hp⟩:=hI
 refine ⟨fun b=>∃ k x g,look st.h k=some x/\σ k=some g/\g.g=b,T,⟨σ,T,fun _ _=>⟨fun h=>h,fun h=>h⟩,⟨S.core,rfl,rfl,rfl,Nat.le_refl _,fun _ _ _=>rfl,fun k b g hk hg=>.inr ⟨k,b,g,hk,hg,rfl⟩,S.next,S.hn,S.ji,S.gU⟩,hp⟩,?_,?_,S.core.dZ,?_⟩
 ·rintro b ⟨k,x,g,hk,hg,rfl⟩
  have hh:=S.core.heap k x hk
  cases x with
  |box t cs=>obtain ⟨g',vs,h1,h2,h3,_⟩:=hh;rw [hg] at h1;injection h1 with h1;subst h1;exact ⟨h2,_,h3,rfl⟩
  |arr t kk rows=>
   obtain ⟨_,⟨_,h⟩|⟨g',vs,h1,h2,h3,_⟩⟩:=hh
   ·rw [hg] at h;cases h
   ·rw [hg] at h1;injection h1 with h1;subst h1;exact ⟨h2,_,h3,rfl⟩
  |map=>have:=qM hm hk;simp [pE] at this
 ·rintro b ⟨k,x,g,hk,hg,rfl⟩
  exact S.own k x g hk hg
 ·rintro N' pin' st' a' W' ⟨σ',T',hT',S',hp'⟩
  refine ⟨σ',T',fun b hb=>?_,⟨S'.core,S'.os.trans S.os,S'.tape.trans S.tape,S'.output.trans S.output,Nat.le_trans S.size S'.size,fun b hb hF=>?_,fun k b g hk hg=>?_,S'.next,S'.hn,S'.ji,S'.gU⟩,hp'⟩
  ·have h1:=hT' b (Nat.lt_of_lt_of_le hb S.size)
   have h2:=hT b hb
   exact ⟨fun h=>h2.1 (h1.1 h),fun h=>h1.2 (h2.2 h)⟩
  ·rw [S'.cC b (Nat.lt_of_lt_of_le hb S.size) ?_,S.cC b hb hF]
   rintro ⟨k,x,g,hk,hg,rfl⟩
   rcases S.own k x g hk hg with h|h
   ·omega
   ·exact hF h
  ·rcases S'.own k b g hk hg with h|⟨k',x,g',hk',hg',e⟩
   ·exact .inl (Nat.le_trans S.size h)
   ·rw [<-e];exact S.own k' x g' hk' hg'
theorem bo.cC {σ:Nat->Option bR} {T:Nat->Prop} (hF:∀ b,F b->T0 b) (hT:∀ b,b < W0.heap.size->(T b->T0 b)/\(T0 b->T b)) (S:tq W0 F N σ T st a W) {d:D} {v:Value} (h:bo T0 W0 d v):bo T W d v:=by
 have cell:∀ b o u,b < W0.heap.size->¬T0 b->W0.cell? ⟨b,o,none⟩=some u->W.cell? ⟨b,o,none⟩=some u:=fun b o u hb hn hc=>
  (cell_of_heap (S.cC b hb fun h=>hn (hF b h)) o).trans hc
 induction h with
 |v x hx=>exact .v x hx
 |nil k A c=>exact .nil k A c
 |r k rows b off c cs hb hn hc hm hK eh hd ih=>exact .r k rows b off c cs (Nat.lt_of_lt_of_le hb S.size) (fun h=>hn ((hT b hb).1 h)) hc hm hK (fun i row j d h1 h2=>cell _ _ _ hb hn (eh i row j d h1 h2)) ih
 |f fn bj bs jn cs hb eh hd ih=>exact .f fn bj bs jn cs (fun i hi=>⟨Nat.lt_of_lt_of_le (hb i hi).1 S.size,fun h=>(hb i hi).2 ((hT _ (hb i hi).1).1 h)⟩) (fun i row j d h1 h2=>by
   have hi:=(List.getElem?_eq_some_iff.1 h1).1
   exact cell _ _ _ (hb i hi).1 (hb i hi).2 (eh i row j d h1 h2)) ih
def qb (T0:Nat->Prop) (W0:World) (pin:List (Nat×bR)) (a:Go.Act) (x:Nat×AV):Prop:=
 (∃ d,x.2=.v (.c (.d d))/\bo T0 W0 d (a.tmps.getD x.1 undef))\/∃ k g,x.2=.v (.c (.p k 0 0 0))/\look pin k=some g/\a.tmps.getD x.1 undef=.pointer (some ⟨g.g,0,none⟩)
theorem Inv.fix {s s':List (Nat×AV)} {h:List (Nat×AB)} {n:Nat} {N':NT} {a':Go.Act} (hF:∀ b,F b->T0 b) (hfix:dq (qb T0 W0 pin a) s) (hI:Inv W0 F N' T0 pin ⟨s',h,n⟩ a' W) (hsz:a.tmps.size=N.1) (hd:a.defers=N.2):Inv W0 F N T0 pin ⟨s,h,n⟩ a W:=by
 obtain ⟨σ,T,hT,S,hp⟩:=hI
 refine ⟨σ,T,hT,⟨⟨fun i v hi=>?_,S.core.heap,S.core.inj,S.core.dZ⟩,S.os,S.tape,S.output,S.size,S.cC,S.own,S.next,S.hn,hsz,hd⟩,hp⟩
 rcases hfix.mem _ (bO hi) with ⟨d,h1,h2⟩|⟨k,g,h1,h2,h3⟩
 ·have h1:v=_:=h1
  subst h1
  exact bo.cC hF hT S h2
 ·have h1:v=_:=h1
  subst h1
  exact ⟨g,hp k g h2,h3⟩
def sG (W0:World) (T:Nat->Prop) (av:AV) (nb:List (Nat×AB)):Ending->World->Prop:=fun e w'=>∃ v σ T',e=.returned v/\Below W0.heap.size W0 w'/\pZ W0.heap.size T w' σ T' av nb v
theorem pj {P:Program} {fn:Func} {av:AV} {nb:List (Nat×AB)} {e:Exit} {T:Nat->Prop} (hT0:∀ b,T b->b < W0.heap.size) (hq:jm P fn pin av nb e st) (hI:Inv W0 (fun _=>False) N T pin st a W) (hN:N.2=[]\/∃ D,N.2=[{target:=.collected D,args:=#[]}]/\W0.heap.size<=D/\W.heap[D]?=some (.deferred (some []))):
  bodyPostM Fence.wide 0 P fn (sG W0 T av nb) e a W:=by
 obtain ⟨he,st',gs,hw,hr,rfl,hnb⟩:=hq
 have hI':=hw _ _ _ _ _ _ hI
 have fin:∀ w',Inv W0 (fun _=>False) N T pin st' a w'->∃ v,(results fn a.tmps).run P w'=.ok v w'/\∃ v' σ T',Ending.returned v=.returned v'/\Below W0.heap.size W0 w'/\pZ W0.heap.size T w' σ T' (fS gs) nb v':=by
  rintro w' ⟨σ,T',hT',S,_⟩
  obtain ⟨v,hv,hrel⟩:=la S.core hr
  refine ⟨v,hv,v,σ,T',rfl,⟨S.os,S.tape,S.output,S.size,fun b hb=>S.cC b hb (fun h=>h)⟩,?_⟩
  exact ⟨hrel,fun b hb=>(hT' b hb).1,fun b hb=>(hT' b (hT0 b hb)).2 hb,S.core.dZ,fun k b hk=>S.core.heap k b (hnb.mem _ hk),fun k b g hk hg=>(S.own k b g (hnb.mem _ hk) hg).resolve_right (fun h=>h),
   fun k k' b b' g g' hk hk' hg hg' hgg=>S.core.inj k k' b b' g g' (hnb.mem _ hk) (hnb.mem _ hk') hg hg' hgg⟩
 have hd:a.defers=N.2:=by obtain ⟨_,_,_,S,_⟩:=hI;exact S.gU
 have main:LeavesInM Fence.wide 0 P fn a.tmps (fun e w'=>∃ v σ T',e=.returned v/\Below W0.heap.size W0 w'/\pZ W0.heap.size T w' σ T' (fS gs) nb v) a.defers .returning W:=by
  rw [hd]
  rcases hN with hN|⟨D,hN,hD,hobj⟩
  ·rw [hN];exact fin W hI'
  ·rw [hN]
   refine ⟨by simp,.inl ⟨D,_,rfl,run_takeDeferred hobj,?_⟩⟩
   refine fin _ (hI'.cK (m:=true) ⟨?_,?_,?_⟩ (.inl rfl) rfl rfl rfl fun b hb=>World.putObj_heap_other (by omega))
   ·simp
   ·intro b o ho hc
    by_cases e:b=D
    ·subst e;rw [hobj] at ho;injection ho with ho;subst ho;cases hc
    ·exact (World.putObj_heap_other e).trans ho
   ·intro _ b ms c ho
    by_cases e:b=D
    ·subst e;rw [hobj] at ho;cases ho
    ·exact (World.putObj_heap_other e).trans ho
 rcases he with rfl|rfl<;>exact main
def oQ (P:Program) (W0:World) (F:Nat->Prop) (N:NT) (T0:Nat->Prop) (pin:List (Nat×bR)) (Qf:Exit->Go.Act->World->Prop) (c:Code) (st:aK):Prop:=∀ a w,Inv W0 F N T0 pin st a w->c.wp P Qf a w
def XQ (W0:World) (F:Nat->Prop) (N:NT) (T0:Nat->Prop) (pin:List (Nat×bR)) (Qf:Exit->Go.Act->World->Prop):Exit->aK->Prop:=fun e st=>∀ a w,Inv W0 F N T0 pin st a w->Qf e a w
theorem oQ.seq {P:Program} {Qf:Exit->Go.Act->World->Prop} {x y:Code} (h:AC P W0 F N T0 pin (iY (oQ P W0 F N T0 pin Qf y) (XQ W0 F N T0 pin Qf)) x st):oQ P W0 F N T0 pin Qf (.seq x y) st:=fun a w hI=>
 wp_seq (Code.wp_mono (fun e a w q=>by
  obtain ⟨st',hq,hi⟩:=q
  cases e<;>exact hq a w hi) (h a w hI))
theorem oQ.IB {P:Program} {Qf:Exit->Go.Act->World->Prop} {x y z:Code} (h:AC P W0 F N T0 pin (iY (fun st=>∀ a w,Inv W0 F N T0 pin st a w->y.wp P (Exit.then (z.wp P Qf) Qf) a w) (XQ W0 F N T0 pin Qf)) x st):oQ P W0 F N T0 pin Qf (.seq (.seq x y) z) st:=fun a w hI=>
 wp_seq (wp_seq (Code.wp_mono (fun e a w q=>by
  obtain ⟨st',hq,hi⟩:=q
  cases e<;>exact hq a w hi) (h a w hI)))
end
theorem Fn.JD {P:Program} {f:FuncId} {fn:Func} {c:Code} {ins:List GV} {av:AV} {nb:List (Nat×AB)} (N:Nat) (s:List (Nat×AV)) (hf:P.funcs[f]?=some fn) (hb:fn.body=some c) (hn:fn.ntmps=N) (hN:Nat.ble ins.length N=true) (hs:slotsOf 0 ins=s)
  (h:∀ (W0:World) (T:Nat->Prop),(∀ b,T b->b < W0.heap.size)->oQ P W0 (fun _=>False) (N,[]) T [] (bodyPostM Fence.wide 0 P fn (sG W0 T av nb)) c ⟨s,[],0⟩):Fn P f ins av nb:=by
 subst hn hs
 intro T w args hT bT
 have hlen:=bT.length
 have hlen:ins.length=args.size:=by simpa using hlen
 have hN:=Nat.le_of_ble_eq_true hN
 refine callsIn_wide.1 (callsIn_of_wp_marks (n:=0) hf hb trivial (wpIn_wide.2 (h w T hT _ w ⟨fun _=>none,T,fun _ _=>⟨fun h=>h,fun h=>h⟩,⟨⟨?_,?_,?_,hT⟩,rfl,rfl,rfl,Nat.le_refl _,fun _ _ _=>rfl,?_,fun _ _=>rfl,?_,?_,rfl⟩,fun _ _ h=>by cases h⟩)) rfl)
 ·intro i v hi
  obtain ⟨g,rfl,_,hg⟩:=kj hi
  obtain ⟨x,hx,hrel⟩:=bT.get hg
  have hx':(args++Array.replicate (fn.ntmps - args.size) undef).getD i undef=x:=by
   rw [Nat.sub_zero] at hx
   have hlt:=(List.getElem?_eq_some_iff.1 hx).1
   rw [Array.getD_eq_getD_getElem?,Array.getElem?_append_left (by simpa using hlt),<-Array.getElem?_toList,hx]
   rfl
  show dk _ T w g _
  rw [hx']
  exact hrel
 ·intro k b hk;cases hk
 ·intro k k' b b' g g' hk;cases hk
 ·intro k b g hk;cases hk
 ·intro k b hk;cases hk
 ·simp;omega
theorem xD {P:Program} {l n id:Nat} {o:Oper} {x:Operand} {a:Go.Act} {w:World} {K:Go.Act->World->Prop} (hg:o.guard=none) (ho:o.op=.assign x) (hK:K (a.put o.dst (a.eval x)) w):(Code.region id #[o] false).wpIn (Fence.wide.inRound l) n P (Exit.then K (fun _ _ _=>False)) a w:=by
 refine wpIn_region_lit (l:=[o]) ?_
 unfold wpListIn
 rw [if_pos (by simp [Region.wanted,hg])]
 refine CX (by rw [ho];rfl) (fun ⟨_,_,h⟩=>h) (.inl ?_)
 exact gM (by unfold execOp;simp [ho]) hK
end
section
def Ar (nb:List (Nat×AB)) (c d:CV):Prop:=(∃ x,c=.d x/\d=.d x)\/∃ k t K n rows,c=.s k 0 K n/\d=.d (.r K rows)/\look nb k=some (.arr t K rows)/\rows.length=n
def Aq (nb:List (Nat×AB)):GV->GV->Prop
 |.c c,.c d=>Ar nb c d
 |.g cs,.g ds=>cq (Ar nb) cs ds
 |_,_=>False
def Hq (nb:List (Nat×AB)):AV->AV->Prop
 |.v c,.v d=>Aq nb c d
 |.t cs,.t ds=>cq (Aq nb) cs ds
 |_,_=>False
theorem cq.comp {α β γ:Type} {R:α->β->Prop} {S:α->γ->Prop} {U:β->γ->Prop} (h:∀ x y z,R x y->S x z->U y z):∀ {xs:List α} {ys:List β} {zs:List γ},cq R xs ys->cq S xs zs->cq U ys zs
 |[],[],[],_,_=>trivial
 |_::_,_::_,_::_,h1,h2=>⟨h _ _ _ h1.1 h2.1,cq.comp h h1.2 h2.2⟩
 |[],[],_::_,_,h2=>h2.elim
 |[],_::_,_,h1,_=>h1.elim
 |_::_,[],_,h1,_=>h1.elim
 |_::_,_::_,[],_,h2=>h2.elim
theorem Fn.frozen {P:Program} {f:FuncId} {ins:List GV} {av av':AV} {nb:List (Nat×AB)} (h:Fn P f ins av nb) (hf:Hq nb av av'):Fn P f ins av' []:=by
 intro T w args hT bT
 refine (h T w args hT bT).mono ?_
 rintro e w' ⟨v,σ,T',he,hB,R⟩
 have hlow:∀ b,(T' b/\b < w.heap.size)->T' b:=fun b h=>h.1
 have hc:∀ c d u,Ar nb c d->cV σ T' w' c u->cV (fun _=>none) (fun b=>T' b/\b < w.heap.size) w' d u:=by
  rintro c d u (⟨x,rfl,rfl⟩|⟨k,t,K,n,rows,rfl,rfl,hk,hn⟩) hu
  ·exact bo.fN hlow hu
  ·have hh:=R.heap k _ (bO hk)
   obtain ⟨hK,hh⟩:=hh
   rcases hu with ⟨h0,rfl⟩|⟨g,hg,rfl,hcap,hmax⟩
   ·subst h0
    have:rows=[]:=List.eq_nil_of_length_eq_zero hn
    subst this
    exact bo.nil _ _ _
   ·rcases hh with ⟨h1,h2⟩|⟨g',vs,h1,h2,h3,h4,h5,h6⟩
    ·rw [hg] at h2;cases h2
    ·rw [hg] at h1;injection h1 with h1;subst h1
     have hfr:=R.fresh k _ g (bO hk) hg
     have:=bo.r (T:=fun b=>T' b/\b < w.heap.size) (w:=w') K rows g.g (0 * K) (g.c - 0) (fun i j=>(vs[i * K+j]?).getD undef) (R.dZ _ h2) (fun hb=>by have:=hb.2;omega) (by omega) (by omega) (fun i row hr=>(h6.2 i row hr).1) (fun i row j d hr hd=>?_) (fun i row j d hr hd=>?_)
     ·rw [hn] at this;exact this
     ·obtain ⟨u,hu,_⟩:=(h6.2 i row hr).2 j d hd
      rw [Nat.zero_mul,Nat.zero_add,cell_of_row w' g.g (i * K+j) _ _ (0,0) h3]
      simp only [List.getElem?_toArray,hu,Option.getD_some]
     ·obtain ⟨u,hu,hr'⟩:=(h6.2 i row hr).2 j d hd
      simp only [hu,Option.getD_some]
      exact hr'.fN hlow
 have hgv:∀ c d u,Aq nb c d->dk σ T' w' c u->dk (fun _=>none) (fun b=>T' b/\b < w.heap.size) w' d u:=by
  intro c d u hcd hu
  match c,d,hcd with
  |.c c,.c d,hcd=>exact hc c d u hcd hu
  |.g cs,.g ds,hcd=>obtain ⟨vs,h1,h2⟩:=hu;exact ⟨vs,h1,cq.comp (fun x y z h1 h2=>hc x y z h1 h2) hcd h2⟩
 refine ⟨v,fun _=>none,fun b=>T' b/\b < w.heap.size,he,hB,?_,fun b hb h=>R.lO b hb h.1,fun b h=>⟨R.mU b h,hT b h⟩,fun b h=>R.dZ b h.1,(fun _ _ h=>by cases h),(fun _ _ _ h=>by cases h),(fun _ _ _ _ _ _ h=>by cases h)⟩
 have hr:=R.rel
 match av,av',hf with
 |.v c,.v d,hf=>exact hgv c d v hf hr
 |.t cs,.t ds,hf=>obtain ⟨vs,h1,h2⟩:=hr;exact ⟨vs,h1,cq.comp (fun x y z h1 h2=>hgv x y z h1 h2) hf h2⟩
def fG (x:Nat->Value):Nat->List (Option CV)->List CV
 |_,[]=>[]
 |i,some c::l=>c::fG x (i+1) l
 |i,none::l=>.d (.v (x i))::fG x (i+1) l
def kq:List CV->List (Option CV)->List CV
 |_::cs,some d::l=>d::kq cs l
 |c::cs,none::l=>c::kq cs l
 |_,_=>[]
def Ao:CV->Bool
 |.any=>true
 |_=>false
section
variable {P:Program} {st:aK} {o:Oper}
theorem zU {f:FuncId} {c:Call} {ins:List GV} {bT:List (Nat×AB)} {cK:List Nat} {av av':AV} {nb nb':List (Nat×AB)} {EE:List Nat} {p:D->Prop} {σ:Nat->Option bR} {T:Nat->Prop} {a:Go.Act} {w:World} (C:Core σ T st a w) (ρ μ:Nat->Nat) (E:List Nat) (hF:cJ P f ins bT cK av nb) (hen:bl P f) (ho:o.op=.call c) (hc:c.callee=.value (.func f))
  (hargs:rb st E ρ (br bT) c.args.toList ins) (hheap:dq (fun x=>(∃ b,look st.h (ρ x.1)=some b)/\dj σ T w (σ (ρ x.1)) (x.2.map' ρ)) bT) (hokin:bT.all (fun x=>x.2.ok (br bT))=true) (hinj:eu ((keys bT).map ρ)=true) (hE:bT.all (fun x=>!dR (ρ x.1) E)=true) (hEl:E.all (fun e=>br st.h e)=true)
  (hkeep:∀ k∈cK,qv bT k) (hEE:(keys bT).map ρ=EE) (hμ:eu ((keys nb).map μ)=true) (hμk:(keys nb).all (fun k=>(dR k cK && Nat.beq (μ k) (ρ k))||(!dR k cK && !dR (μ k) EE))=true)
  (hg:av.en p) (hgb:dq (fun x=>x.2.en p) nb) (hok:av.ok (br nb)=true) (hokb:nb.all (fun x=>x.2.ok (br nb))=true) (hav:av.map μ=av') (hnb:gk μ nb=nb')
  (hD:∀ (σ:Nat->Option bR) (T Tc T':Nat->Prop) (w':World) d v,(∀ b,T' b->T b\/Tc b)->(∀ b,fU σ T E b->Tc b)->p d->bo Tc w' d v->bo T' w' d v):(∀ k b,(k,b)∈nb'->k ∉ EE->σ k=none)->o.wp P a w (fun a' w'=>∃ u σ' T',a'=a.put o.dst u/\Ext σ T w σ' T' w' nb' EE/\eQ σ' T' w' av' u) yI:=by
 intro hnew
 subst hav hnb hEE
 have hinj':=mO hinj
 have hin_mem:∀ k,br bT k=true->k∈keys bT:=fun k hk=>by
  obtain ⟨b,hb⟩:=gK hk
  exact List.mem_map.2 ⟨(k,b),hb,rfl⟩
 have mem_in:∀ k,k∈keys bT->br bT k=true:=fun k hk=>by
  obtain ⟨x,hx,rfl⟩:=List.mem_map.1 hk
  exact cW (b:=x.2) hx
 let σc:Nat->Option bR:=fun k=>if br bT k=true then σ (ρ k) else none
 have hσc:∀ k,br bT k=true->σc k=σ (ρ k):=fun k hk=>if_pos hk
 let Tc:=fU σ T E
 have hlow:∀ b,Tc b->T b:=fun b h=>h.1
 have hsep:∀ k b g,(k,b)∈bT->σ (ρ k)=some g->Tc g.g:=by
  intro k b g hk hg
  refine ⟨(hheap.mem _ hk).2.oM hg,fun e he g' hg' hgg=>?_⟩
  obtain ⟨b',hb'⟩:=gK (List.all_eq_true.1 hEl e he)
  have hb':∃ b',look st.h e=some b':=by
   have:=List.all_eq_true.1 hEl e he
   cases hl:look st.h e with
   |none=>simp [br,hl] at this
   |some b'=>exact ⟨b',rfl⟩
  obtain ⟨b',hb'⟩:=hb'
  obtain ⟨bk,hbk⟩:=(hheap.mem _ hk).1
  have heq:=C.inj e (ρ k) b' bk g' g hb' hbk hg' hg hgg
  have:=List.all_eq_true.1 hE _ hk
  simp only [Bool.not_eq_true'] at this
  rw [<-heq,eS.2 he] at this
  cases this
 have hh:∀ k b,(k,b)∈bT->dj σc Tc w (σc k) b:=by
  intro k b hk
  have hkin:=cW hk
  rw [hσc k hkin]
  refine dj.fN hlow (fun g hg _=>hsep k b g hk hg) ?_
  exact dj.bW (ρ:=ρ) hσc (hheap.mem _ hk).2 (List.all_eq_true.1 hokin _ hk)
 have hij:∀ k k' b b' g g',(k,b)∈bT->(k',b')∈bT->σc k=some g->σc k'=some g'->g.g=g'.g->k=k':=by
  intro k k' b b' g g' hk hk' hg hg' hgg
  rw [hσc k (cW hk)] at hg
  rw [hσc k' (cW hk')] at hg'
  obtain ⟨b1,hb1⟩:=(hheap.mem _ hk).1
  obtain ⟨b2,hb2⟩:=(hheap.mem _ hk').1
  exact hinj' k k' (hin_mem _ (cW hk)) (hin_mem _ (cW hk')) (C.inj _ _ _ _ g g' hb1 hb2 hg hg' hgg)
 have hkp:∀ k∈cK,br bT k=true/\∃ g,σ (ρ k)=some g:=by
  intro k hk
  rcases hkeep k hk with this|⟨t,K,rows,hl,hpos⟩
  ·unfold oC at this
   cases hl:look bT k with
   |none=>simp [hl] at this
   |some b=>
    cases b with
    |box t cs=>
     refine ⟨by simp [br,hl],?_⟩
     obtain ⟨g,_,h1,_⟩:=(hheap.mem _ (bO hl)).2
     exact ⟨g,h1⟩
    |arr=>simp [hl] at this
    |map=>simp [hl] at this
  ·refine ⟨by simp [br,hl],?_⟩
   obtain ⟨_,h1|⟨g,_,h1,_⟩⟩:=(hheap.mem _ (bO hl)).2
   ·obtain ⟨h1,_⟩:=h1
    rw [h1] at hpos;cases hpos
   ·exact ⟨g,h1⟩
 have hrel:cq (dk σc Tc w) ins (c.args.map a.eval).toList:=by
  rw [Array.toList_map]
  have gen:∀ (xs:List Operand) (ys:List GV),rb st E ρ (br bT) xs ys->cq (dk σc Tc w) ys (xs.map a.eval):=by
   intro xs
   induction xs with
   |nil=>intro ys h;cases ys with
    |nil=>trivial
    |cons=>exact h.elim
   |cons x xs ih=>
    intro ys h
    cases ys with
    |nil=>exact h.elim
    |cons y ys=>
     refine ⟨?_,ih ys h.2⟩
     obtain ⟨g,h1,h2|h2⟩:=h.1
     ·obtain ⟨h2,h3⟩:=h2
      subst h2
      exact dk.fN hlow (dk.bW (ρ:=ρ) hσc (x:=y) (bM C h1) h3)
     ·exact dk.up (h2.rel C (bM C h1))
  exact gen _ _ hargs
 refine nt ho hc hen ((hF Tc σc w _ (fun b h=>C.dZ b h.1) hh hij (fun k hk=>?_) hrel).mono ?_)
 ·obtain ⟨h1,g,h2⟩:=hkp k hk
  exact ⟨g,by rw [hσc k h1,h2]⟩
 rintro e w' ⟨v,σ',T',rfl,R⟩
 let T2:Nat->Prop:=fun b=>T b\/T' b
 let σ2:=pull μ σ' σ (keys nb)
 have hμ':=mO hμ
 have hσ2:∀ k,br nb k=true->σ2 (μ k)=σ' k:=fun k hk=>by
  obtain ⟨b,hb⟩:=gK hk
  exact oa hμ' (List.mem_map.2 ⟨(k,b),hb,rfl⟩)
 have hD':∀ d v,p d->bo T' w' d v->bo T2 w' d v:=fun d v=>hD σ T T' T2 w' d v (fun b h=>h) R.mU
 have hmem:∀ k b,(k,b)∈gk μ nb->∃ k0 b0,(k0,b0)∈nb/\k=μ k0/\b=b0.map' μ:=by
  intro k b h
  obtain ⟨⟨k0,b0⟩,h1,h2⟩:=List.mem_map.1 h
  injection h2 with h2 h3
  exact ⟨k0,b0,h1,h2.symm,h3.symm⟩
 have hcase:∀ k∈keys nb,(k∈cK/\μ k=ρ k)\/(k ∉ cK/\μ k ∉ (keys bT).map ρ):=by
  intro k hk
  have:=List.all_eq_true.1 hμk k hk
  simp only [Bool.or_eq_true,Bool.and_eq_true,Bool.not_eq_true'] at this
  rcases this with ⟨h1,h2⟩|⟨h1,h2⟩
  ·exact .inl ⟨eS.1 h1,Nat.eq_of_beq_eq_true h2⟩
  ·exact .inr ⟨fun h=>(Bool.eq_false_iff.1 h1) (eS.2 h),fun h=>(Bool.eq_false_iff.1 h2) (eS.2 h)⟩
 have C2:∀ b,(∃ k∈(keys bT).map ρ,∃ g,σ k=some g/\g.g=b)↔∃ k∈keys bT,∃ g,σc k=some g/\g.g=b:=by
  intro b
  constructor
  ·rintro ⟨k,hk,g,hg,hgb⟩
   obtain ⟨k0,hk0,rfl⟩:=List.mem_map.1 hk
   exact ⟨k0,hk0,g,by rw [hσc k0 (mem_in k0 hk0)];exact hg,hgb⟩
  ·rintro ⟨k,hk,g,hg,hgb⟩
   rw [hσc k (mem_in k hk)] at hg
   exact ⟨ρ k,List.mem_map.2 ⟨k,hk,rfl⟩,g,hg,hgb⟩
 refine ⟨v,rfl,v,σ2,T2,rfl,⟨R.os,R.tape,R.output,⟨R.size,fun b hb hno=>R.cC b hb fun k hk g hg hgb=>hno ((C2 b).2 ⟨k,hk,g,hg,hgb⟩),fun b hb=>?_,fun b hb h=>?_,fun j g hj=>?_⟩,fun b h=>.inl h,fun b h=>?_,fun j hj=>?_,?_,?_,?_⟩,R.rel.back hD' hσ2 hg hok⟩
 ·obtain ⟨k,hk,g,hg,rfl⟩:=hb
  obtain ⟨k0,hk0,rfl⟩:=List.mem_map.1 hk
  obtain ⟨x,hx,rfl⟩:=List.mem_map.1 hk0
  exact (hheap.mem x hx).2.oM hg
 ·rcases h with h|h
  ·exact h
  ·exact (R.lO b hb h).1
 ·show pull μ σ' σ (keys nb) j=some g
  by_cases hex:∃ k∈keys nb,μ k=j
  ·obtain ⟨k,hk,rfl⟩:=hex
   rw [oa hμ' hk]
   rcases hcase k hk with ⟨h1,h2⟩|⟨h1,h2⟩
   ·rw [R.kept k h1,hσc k (hkp k h1).1,<-h2];exact hj
   ·obtain ⟨x,hx,rfl⟩:=List.mem_map.1 hk
    have:=hnew (μ x.1) (x.2.map' μ) (List.mem_map.2 ⟨x,hx,rfl⟩) h2
    rw [this] at hj;cases hj
  ·rw [mL fun k hk e=>hex ⟨k,hk,e⟩];exact hj
 ·rcases h with h|h
  ·exact Nat.lt_of_lt_of_le (C.dZ b h) R.size
  ·exact R.dZ b h
 ·exact mL fun k hk e=>by
   obtain ⟨x,hx,rfl⟩:=List.mem_map.1 hk
   exact hj (x.2.map' μ) (List.mem_map.2 ⟨x,hx,by rw [e]⟩)
 ·intro k b h
  obtain ⟨k0,b0,h1,rfl,rfl⟩:=hmem k b h
  rw [hσ2 k0 (cW h1)]
  exact (R.heap k0 b0 h1).back hD' hσ2 (fun b h=>.inr h) (hgb.mem _ h1) (List.all_eq_true.1 hokb _ h1)
 ·intro k b g h hg
  obtain ⟨k0,b0,h1,rfl,rfl⟩:=hmem k b h
  rw [hσ2 k0 (cW h1)] at hg
  rcases R.fresh k0 b0 g h1 hg with h2|⟨e,he,g',hg',hgg⟩
  ·exact .inl h2
  ·exact .inr ((C2 g.g).2 ⟨e,he,g',hg',hgg⟩)
 ·intro k k' b b' g g' h h' hg hg' hgg
  obtain ⟨k0,b0,h1,rfl,rfl⟩:=hmem k b h
  obtain ⟨k1,b1,h2,rfl,rfl⟩:=hmem k' b' h'
  rw [hσ2 k0 (cW h1)] at hg
  rw [hσ2 k1 (cW h2)] at hg'
  rw [R.inj k0 k1 b0 b1 g g' h1 h2 hg hg' hgg]

theorem cV.one {σ:Nat->Option bR} {T:Nat->Prop} {w:World} {c:CV} {v:Value} (h:cV σ T w c v) (hc:Ao c=false):v.oneCell'=true:=by
 cases c with
 |any=>cases hc
 |d x=>
  have h:bo T w x v:=h
  cases h with
  |v x hx=>exact hx
  |nil=>rfl
  |r=>rfl
  |f=>rfl
 |p=>obtain ⟨g,_,rfl⟩:=h;rfl
 |q=>obtain ⟨b,off,rfl,_⟩:=h;rfl
 |s=>
  rcases h with ⟨_,rfl⟩|⟨g,_,rfl,_⟩
  ·rfl
  ·rfl
 |sx=>obtain ⟨g,off,_,rfl,_⟩:=h;rfl
 |m=>obtain ⟨g,_,rfl⟩:=h;rfl
 |fn=>obtain ⟨gs,_,rfl⟩:=h;rfl
theorem wv {σ:Nat->Option bR} {T:Nat->Prop} {w:World} {ρ:Nat->Nat} {x:Nat->Value} (hx:∀ i,(x i).oneCell'=true):∀ {cs:List CV} {vs:List Value} {ms:List (Option CV)} {i:Nat},cs.length=ms.length->kq cs (ms.map (Option.map (CV.map ρ)))=cs->cq (cV σ T w) cs vs->(∀ j v,vs[j]?=some v->ms[j]?=some none->x (i+j)=v)->
  cq (cV σ T w) ((fG x i ms).map (CV.map ρ)) vs
 |[],[],[],_,_,_,_,_=>trivial
 |c::cs,v::vs,some d::ms,i,hl,hf,hr,hv=>by
  have hf:d.map ρ::kq cs (ms.map (Option.map (CV.map ρ)))=c::cs:=hf
  obtain ⟨h1,h2⟩:=List.cons.inj hf
  exact ⟨h1▸hr.1,wv hx (i:=i+1) (by simpa using hl) h2 hr.2 fun j v hj hm=>by
   have:=hv (j+1) v (by simpa using hj) (by simpa using hm)
   rwa [show i+(j+1)=i+1+j by omega] at this⟩
 |c::cs,v::vs,none::ms,i,hl,hf,hr,hv=>by
  have hf:c::kq cs (ms.map (Option.map (CV.map ρ)))=c::cs:=hf
  have h0:x i=v:=by simpa using hv 0 v rfl rfl
  refine ⟨?_,wv hx (i:=i+1) (by simpa using hl) (List.cons.inj hf).2 hr.2 fun j v hj hm=>by
   have:=hv (j+1) v (by simpa using hj) (by simpa using hm)
   rwa [show i+(j+1)=i+1+j by omega] at this⟩
  show bo T w (.v (x i)) v
  rw [h0]
  exact .v _ (h0▸hx i)
 |[],_::_,_,_,_,_,hr,_=>hr.elim
 |_::_,[],_,_,_,_,hr,_=>hr.elim
 |[],[],_::_,_,hl,_,_,_=>by simp at hl
 |_::_,_::_,[],_,hl,_,_,_=>by simp at hl
theorem tN {σ:Nat->Option bR} {T:Nat->Prop} {w:World} {μ:Nat->Nat} {x:Nat->Value}:∀ {cs:List CV} {us:List Value} {ms:List (Option CV)} {i:Nat},cs.length=ms.length->cq (cV σ T w) ((fG x i ms).map (CV.map μ)) us->(∀ j c,cs[j]?=some c->ms[j]?=some none->cV σ T w c (x (i+j)))->
  cq (cV σ T w) (kq cs (ms.map (Option.map (CV.map μ)))) us
 |[],[],[],_,_,_,_=>trivial
 |c::cs,u::us,some d::ms,i,hl,hr,hv=>by
  have hr:cV σ T w (d.map μ) u/\cq (cV σ T w) ((fG x (i+1) ms).map (CV.map μ)) us:=hr
  exact ⟨hr.1,tN (i:=i+1) (by simpa using hl) hr.2 fun j c hj hm=>by
   have:=hv (j+1) c (by simpa using hj) (by simpa using hm)
   rwa [show i+(j+1)=i+1+j by omega] at this⟩
 |c::cs,u::us,none::ms,i,hl,hr,hv=>by
  have hr:bo T w (.v (x i)) u/\cq (cV σ T w) ((fG x (i+1) ms).map (CV.map μ)) us:=hr
  refine ⟨?_,tN (i:=i+1) (by simpa using hl) hr.2 fun j c hj hm=>by
   have:=hv (j+1) c (by simpa using hj) (by simpa using hm)
   rwa [show i+(j+1)=i+1+j by omega] at this⟩
  rw [bo.inv hr.1]
  exact hv 0 c rfl rfl
 |[],us,_::_,_,hl,_,_=>by simp at hl
 |_::_,us,[],_,hl,_,_=>by simp at hl
 |[],_::_,[],_,_,hr,_=>by exact (hr:False).elim
 |_::_,[],some _::_,_,_,hr,_=>by exact (hr:False).elim
 |_::_,[],none::_,_,_,hr,_=>by exact (hr:False).elim
theorem Ext.swap {σ:Nat->Option bR} {T:Nat->Prop} {w:World} {σ':Nat->Option bR} {T':Nat->Prop} {w':World} {k0:Nat} {b b':AB} {nb:List (Nat×AB)} {E:List Nat} (X:Ext σ T w σ' T' w' ((k0,b)::nb) E) (h:dj σ' T' w' (σ' k0) b'):Ext σ T w σ' T' w' ((k0,b')::nb) E:=by
 have bT:∀ k c,(k,c)∈(k0,b')::nb->∃ c',(k,c')∈(k0,b)::nb:=fun k c hk=>by
  rcases List.mem_cons.1 hk with h1|h1
  ·injection h1 with h2 h3;subst h2;exact ⟨b,List.mem_cons_self⟩
  ·exact ⟨c,List.mem_cons_of_mem _ h1⟩
 have hout:∀ k c,(k,c)∈(k0,b)::nb->∃ c',(k,c')∈(k0,b')::nb:=fun k c hk=>by
  rcases List.mem_cons.1 hk with h1|h1
  ·injection h1 with h2 h3;subst h2;exact ⟨b',List.mem_cons_self⟩
  ·exact ⟨c,List.mem_cons_of_mem _ h1⟩
 refine ⟨X.os,X.tape,X.output,X.grow,X.mU,X.dZ,fun k hk=>X.yW k fun c hc=>?_,fun k c hk=>?_,fun k c g hk hg=>?_,fun k k' c c' g g' hk hk' hg hg' hgg=>?_⟩
 ·obtain ⟨c',hc'⟩:=hout k c hc;exact hk c' hc'
 ·rcases List.mem_cons.1 hk with h1|h1
  ·injection h1 with h2 h3;subst h2 h3;exact h
  ·exact X.rel k c (List.mem_cons_of_mem _ h1)
 ·obtain ⟨d,hd⟩:=bT k c hk;exact X.fresh k d g hd hg
 ·obtain ⟨d,hd⟩:=bT k c hk
  obtain ⟨d',hd'⟩:=bT k' c' hk'
  exact X.inj k k' d d' g g' hd hd' hg hg' hgg
def x0:Nat->Value:=fun _=>.int .i64 0
theorem qh {p:Nat->Bool} (x y:Nat->Value):∀ (ms:List (Option CV)) (i:Nat),(fG x i ms).all (CV.ok p)=(fG y i ms).all (CV.ok p)
 |[],_=>rfl
 |some c::ms,i=>by show (c.ok p && (fG x (i+1) ms).all (CV.ok p))=(c.ok p && (fG y (i+1) ms).all (CV.ok p));rw [qh x y ms]
 |none::ms,i=>by show (true && (fG x (i+1) ms).all (CV.ok p))=(true && (fG y (i+1) ms).all (CV.ok p));rw [qh x y ms]
theorem Fg {f:FuncId} {c:Call} {ins:List GV} {bT:List (Nat×AB)} {cK:List Nat} {av av':AV} {nb nb':List (Nat×AB)} {EE:List Nat} {p:D->Prop} {ms ms':List (Option CV)} {t:TypeId} {cs cs':List CV} {k0:Nat} (ρ μ:Nat->Nat) (E:List Nat)
  (hF:∀ x:Nat->Value,(∀ i,(x i).oneCell'=true)->cJ P f ins ((0,.box t (fG x 0 ms))::bT) (0::cK) av ((0,.box t (fG x 0 ms'))::nb)) (hen:bl P f) (ho:o.op=.call c) (hc:c.callee=.value (.func f))
  (hargs:rb st E ρ (br ((0,.box t [])::bT)) c.args.toList ins) (hk0:ρ 0=k0) (hk0':μ 0=k0) (hbox:look st.h k0=some (.box t cs)) (hlen:cs.length=ms.length) (hlen':cs.length=ms'.length) (hfill:kq cs (ms.map (Option.map (CV.map ρ)))=cs) (hany:cs.all (fun c=>!Ao c)=true)
  (hheap:dq (fun x=>look st.h (ρ x.1)=some (x.2.map' ρ)) bT) (hokr:(fG x0 0 ms).all (CV.ok (br ((0,.box t [])::bT)))=true) (hokin:bT.all (fun x=>x.2.ok (br ((0,.box t [])::bT)))=true) (hinj:eu ((0::keys bT).map ρ)=true) (hE0:dR k0 E=false) (hE:bT.all (fun x=>!dR (ρ x.1) E)=true) (hEl:E.all (fun e=>br st.h e)=true)
  (hkeep:∀ k∈cK,qv bT k/\k≠0) (hEE:(0::keys bT).map ρ=EE) (hμ:eu ((0::keys nb).map μ)=true) (hμk:(keys nb).all (fun k=>(dR k (0::cK) && Nat.beq (μ k) (ρ k))||(!dR k (0::cK) && !dR (μ k) EE))=true)
  (hg:av.en p) (hgb:dq (fun x=>x.2.en p) nb) (hgr:∀ x:Nat->Value,(AB.box t (fG x 0 ms')).en p) (hok:av.ok (br ((0,.box t [])::nb))=true) (hokr':(fG x0 0 ms').all (CV.ok (br ((0,.box t [])::nb)))=true) (hokb:nb.all (fun x=>x.2.ok (br ((0,.box t [])::nb)))=true) (hav:av.map μ=av') (hcs:kq cs (ms'.map (Option.map (CV.map μ)))=cs') (hnb:gk μ nb=nb')
  (hD:∀ (σ:Nat->Option bR) (T Tc T':Nat->Prop) (w':World) d v,(∀ b,T' b->T b\/Tc b)->(∀ b,fU σ T E b->Tc b)->p d->bo Tc w' d v->bo T' w' d v):aM P o st av' ((k0,.box t cs')::nb') EE:=by
 intro σ T a w C hnew
 subst hk0 hcs hnb
 have keyx:∀ (l:List CV) (hh:List (Nat×AB)),br ((0,.box t l)::hh)=br ((0,AB.box t [])::hh):=fun l hh=>by
  funext k;unfold br;rw [bS,bS];split<;>rfl
 obtain ⟨g,vs,h1,h2,h3,h4⟩:=C.heap _ _ hbox
 have hvl:cs.length=vs.length:=h4.length
 obtain ⟨x,hx⟩:∃ x:Nat->Value,x=fun i=>if h:(vs.getD i undef).oneCell'=true then vs.getD i undef else .int .i64 0:=⟨_,rfl⟩
 have hx1:∀ i,(x i).oneCell'=true:=fun i=>by
  rw [hx];dsimp only;split
  ·assumption
  ·rfl
 have hany':∀ j c,cs[j]?=some c->Ao c=false:=fun j c hj=>by
  have:=List.all_eq_true.1 hany c (List.mem_of_getElem? hj)
  simpa using this
 have hxv:∀ j v,vs[j]?=some v->x j=v:=fun j v hj=>by
  have hjl:j < cs.length:=by have:=(List.getElem?_eq_some_iff.1 hj).1;omega
  obtain ⟨u,hu,hr⟩:=h4.get (i:=j) (x:=cs[j]) (List.getElem?_eq_getElem hjl)
  rw [hj] at hu;injection hu with hu;subst hu
  have h5:=hr.one (hany' j _ (List.getElem?_eq_getElem hjl))
  have h6:vs.getD j undef=v:=by rw [List.getD_eq_getElem?_getD,hj];rfl
  rw [hx];dsimp only;rw [h6,dif_pos h5]
 have hbx:dj σ T w (σ (ρ 0)) ((AB.box t (fG x 0 ms)).map' ρ):=⟨g,vs,h1,h2,h3,wv hx1 hlen hfill h4 fun j v hj _=>by rw [Nat.zero_add];exact hxv j v hj⟩
 have hmem:∀ y∈bT,(∃ b,look st.h (ρ y.1)=some b)/\dj σ T w (σ (ρ y.1)) (y.2.map' ρ):=fun y hy=>⟨⟨_,hheap.mem y hy⟩,C.heap _ _ (hheap.mem y hy)⟩
 have allL:∀ {q:Nat×AB->Prop} {l:List (Nat×AB)},(∀ y∈l,q y)->dq q l:=fun {q l} h=>by
  induction l with
  |nil=>trivial
  |cons y l ih=>exact ⟨h y List.mem_cons_self,ih fun z hz=>h z (List.mem_cons_of_mem _ hz)⟩
 have key:=zU (av':=av') (nb':=gk μ ((0,.box t (fG x 0 ms'))::nb)) (EE:=EE) (p:=p) C ρ μ E (hF x hx1) hen ho hc (by rw [keyx];exact hargs) ⟨⟨⟨_,hbox⟩,hbx⟩,allL hmem⟩ (by
   rw [keyx]
   show ((fG x 0 ms).all _ && bT.all _)=true
   rw [qh x x0,hokr,hokin];rfl) hinj (by show (!dR (ρ 0) E && _)=true;rw [hE0,hE];rfl) hEl (fun k hk=>by
   rcases List.mem_cons.1 hk with rfl|hk
   ·exact .inl rfl
   ·obtain ⟨h,hne⟩:=hkeep k hk
    have hl:look ((0,AB.box t (fG x 0 ms))::bT) k=look bT k:=by rw [bS,if_neg (Ne.symm hne)]
    unfold qv oC at h ⊢
    rw [hl];exact h) hEE hμ (by
   have h0:dR 0 (0::cK)=true:=eS.2 List.mem_cons_self
   show (((dR 0 (0::cK) && Nat.beq (μ 0) (ρ 0))||_) && (keys nb).all _)=true
   rw [hk0',Nat.beq_refl,h0]
   exact hμk) hg ⟨hgr x,hgb⟩ (by rw [keyx];exact hok) (by
   rw [keyx]
   show ((fG x 0 ms').all _ && nb.all _)=true
   rw [qh x x0,hokr',hokb];rfl) hav rfl hD (fun k b hk hke=>hnew k (if k=ρ 0 then .box t (kq cs (ms'.map (Option.map (CV.map μ)))) else b) (by
    rcases List.mem_cons.1 hk with h|h
    ·injection h with h5 h6;subst h5;rw [hk0',if_pos rfl];exact List.mem_cons_self
    ·by_cases e:k=ρ 0
     ·rw [if_pos e,e];exact List.mem_cons_self
     ·rw [if_neg e];exact List.mem_cons_of_mem _ h) hke)
 refine iN key ?_
 rintro a' w' ⟨u,σ',T',rfl,X,hv⟩
 refine ⟨u,σ',T',rfl,?_,hv⟩
 have X:Ext σ T w σ' T' w' ((ρ 0,(AB.box t (fG x 0 ms')).map' μ)::gk μ nb) EE:=by
  have e:gk μ ((0,AB.box t (fG x 0 ms'))::nb)=(ρ 0,(AB.box t (fG x 0 ms')).map' μ)::gk μ nb:=by
   show (μ 0,_)::gk μ nb=_
   rw [hk0']
  rw [<-e];exact X
 refine X.swap ?_
 obtain ⟨g',us,q1,q2,q3,q4⟩:=X.rel _ _ List.mem_cons_self
 refine ⟨g',us,q1,q2,q3,tN hlen' q4 fun j c hj _=>?_⟩
 rw [Nat.zero_add]
 obtain ⟨v,hvj,hr⟩:=h4.get hj
 rw [hxv j v hvj]
 exact hr.grow X.grow
end
end
section
def CV.nq:CV->Bool
 |.q _ _=>false
 |_=>true
def GV.nq:GV->Bool
 |.c x=>x.nq
 |.g xs=>xs.all CV.nq
def AV.nq:AV->Bool
 |.v x=>x.nq
 |.t xs=>xs.all GV.nq
def AB.nq:AB->Bool
 |.box _ cs=>cs.all CV.nq
 |_=>true
theorem CV.iE {c:CV} (h:c.nq=true):c.en (fun _=>True):=by cases c<;>first|trivial|cases h
theorem fu {α:Type} {p:α->Prop}:∀ {l:List α},(∀ x∈l,p x)->dq p l
 |[],_=>trivial
 |x::_,h=>⟨h x List.mem_cons_self,fu fun y hy=>h y (List.mem_cons_of_mem _ hy)⟩
theorem GV.iE {g:GV} (h:g.nq=true):g.en (fun _=>True):=by
 cases g with
 |c x=>exact CV.iE h
 |g xs=>exact fu fun x hx=>CV.iE (List.all_eq_true.1 h x hx)
theorem AV.iE {v:AV} (h:v.nq=true):v.en (fun _=>True):=by
 cases v with
 |v x=>exact GV.iE h
 |t xs=>exact fu fun x hx=>GV.iE (List.all_eq_true.1 h x hx)
theorem AB.iE {b:AB} (h:b.nq=true):b.en (fun _=>True):=by
 cases b with
 |box t cs=>exact fu fun x hx=>CV.iE (List.all_eq_true.1 h x hx)
 |arr=>exact fun _ _ _ _=>trivial
 |map=>trivial
def Ew:Option CV->Bool
 |some c=>c.nq
 |none=>true
theorem ry (x:Nat->Value):∀ (ms:List (Option CV)) (i:Nat),ms.all Ew=true->dq (CV.en fun _=>True) (fG x i ms)
 |[],_,_=>trivial
 |some c::ms,i,h=>by
  simp only [List.all_cons,Bool.and_eq_true] at h
  exact ⟨CV.iE h.1,ry x ms (i+1) h.2⟩
 |none::ms,i,h=>by
  simp only [List.all_cons,Bool.and_eq_true] at h
  exact ⟨trivial,ry x ms (i+1) h.2⟩
section
variable {P:Program} {st:aK} {o:Oper}
theorem cr {f:FuncId} {c:Call} {ins:List GV} {bT:List (Nat×AB)} {av av':AV} {nb nb':List (Nat×AB)} {EE:List Nat} {ms ms':List (Option CV)} {t:TypeId} {cs cs':List CV} {k0:Nat} (ρ μ:Nat->Nat)
  (hF:∀ x:Nat->Value,(∀ i,(x i).oneCell'=true)->cJ P f ins ((0,.box t (fG x 0 ms))::bT) [0] av ((0,.box t (fG x 0 ms'))::nb)) (hen:bl P f) (ho:o.op=.call c) (hc:c.callee=.value (.func f))
  (hargs:rb st [] ρ (br ((0,.box t [])::bT)) c.args.toList ins) (hk0:ρ 0=k0) (hk0':μ 0=k0) (hbox:look st.h k0=some (.box t cs)) (hlen:cs.length=ms.length) (hlen':cs.length=ms'.length) (hfill:kq cs (ms.map (Option.map (CV.map ρ)))=cs) (hany:cs.all (fun c=>!Ao c)=true)
  (hheap:dq (fun x=>look st.h (ρ x.1)=some (x.2.map' ρ)) bT) (hokr:(fG x0 0 ms).all (CV.ok (br ((0,.box t [])::bT)))=true) (hokin:bT.all (fun x=>x.2.ok (br ((0,.box t [])::bT)))=true) (hinj:eu ((0::keys bT).map ρ)=true)
  (hEE:(0::keys bT).map ρ=EE) (hμ:eu ((0::keys nb).map μ)=true) (hμk:(keys nb).all (fun k=>(dR k [0] && Nat.beq (μ k) (ρ k))||(!dR k [0] && !dR (μ k) EE))=true)
  (hq:(av.nq && nb.all (fun x=>x.2.nq) && ms'.all Ew)=true) (hok:av.ok (br ((0,.box t [])::nb))=true) (hokr':(fG x0 0 ms').all (CV.ok (br ((0,.box t [])::nb)))=true) (hokb:nb.all (fun x=>x.2.ok (br ((0,.box t [])::nb)))=true) (hav:av.map μ=av') (hcs:kq cs (ms'.map (Option.map (CV.map μ)))=cs') (hnb:gk μ nb=nb'):aM P o st av' ((k0,.box t cs')::nb') EE:=by
 simp only [Bool.and_eq_true] at hq
 obtain ⟨⟨q1,q2⟩,q3⟩:=hq
 exact Fg (cK:=[]) (p:=fun _=>True) ρ μ [] hF hen ho hc hargs hk0 hk0' hbox hlen hlen' hfill hany hheap hokr hokin hinj rfl (by simp [dR]) rfl (fun k hk=>by cases hk) hEE hμ hμk (AV.iE q1) (fu fun x hx=>AB.iE (List.all_eq_true.1 q2 x hx)) (fun x=>ry x ms' 0 q3) hok hokr' hokb hav hcs hnb
  fun σ T Tc T' w' d v h1 h2 _ h=>h.fN fun b hb=>by
   rcases h1 b hb with h|h
   ·exact h2 b ⟨h,fun k hk=>by cases hk⟩
   ·exact h
theorem dv {t n e K:Nat} {x y:Operand} {k r Kk o' i:Nat} {j:Int} (ho:o.op=.indexAddr t x y) (hx:ev st x (.v (.c (.p k r Kk o')))) (hy:ev st y (.v (.c (.d (.v (.int .i64 j))))))
  (hu:P.underlying t=some (.array n e)) (hz:(P.info? e).map (·.size)=some K) (hj:j=(i:Int)) (hi:i < n):aM P o st (.v (.c (.p k r Kk (o'+i * K)))) [] []:=
 aM.val fun σ T ac w C=>by
  obtain ⟨g,hg,hv⟩:=bM C hx
  have h2:=bo.inv (bM C hy)
  subst hj
  refine ⟨.pointer (some ⟨g.g,r * Kk+o'+i * K,none⟩),?_,g,hg,by rw [Nat.add_assoc]⟩
  cases hq:P.info? e with
  |none=>simp [hq] at hz
  |some ii=>
   have hs:ii.size=K:=by simpa [hq] using hz
   unfold execOp
   simp [ho,hv,h2,Instr.indexAt,asIntOf,run_underlying hu,sizeOf,typeInfo,hq,hs,hi,asAddr,Instr.sureAddr,Addr.add_lit]
theorem Dt {f:FuncId} {c:Call} {x:Operand} {k t K n:Nat} {rows:List (List D)} (k2:Nat) (hF:∀ l:List (List D),l.length=n->Fn P f [.c (.d (.r K (l.map id)))] (.v (.c (.s 0 0 K l.length))) [(0,.arr t K (l.map id))]) (hen:bl P f) (ho:o.op=.call c) (hc:c.callee=.value (.func f)) (ha:c.args=#[x])
  (hx:ev st x (.v (.c (.s k 0 K n)))) (hb:look st.h k=some (.arr t K rows)) (hn:rows.length=n):aM P o st (.v (.c (.s k2 0 K n))) [(k2,.arr t K rows)] []:=by
 intro σ T a w C hnew
 have hxv:cV σ T w (.s k 0 K n) (a.eval x):=bM C hx
 obtain ⟨hK,hh⟩:=C.heap k _ hb
 obtain ⟨cs,hcs⟩:∃ cs:Nat->Nat->Value,(∀ (i:Nat) (row:List D) (j:Nat) (d:D),rows[i]?=some row->row[j]?=some d->bo T w d (cs i j))/\(∀ (i:Nat) (row:List D),rows[i]?=some row->row.length=K)/\
   (∀ g,σ k=some g->T g.g/\∀ (i:Nat) (row:List D) (j:Nat) (d:D),rows[i]?=some row->row[j]?=some d->w.cell? ⟨g.g,i * K+j,none⟩=some (cs i j)):=by
  rcases hh with ⟨h1,h2⟩|⟨g,vs,h1,h2,h3,h4,h5,h6⟩
  ·subst h1
   exact ⟨fun _ _=>undef,(fun i row j d h=>by simp at h),(fun i row h=>by simp at h),fun g hg=>by rw [h2] at hg;cases hg⟩
  ·refine ⟨fun i j=>(vs[i * K+j]?).getD undef,fun i row j d hr hd=>?_,fun i row hr=>(h6.2 i row hr).1,fun g' hg=>?_⟩
   ·obtain ⟨u,hu,hr'⟩:=(h6.2 i row hr).2 j d hd
    simp only [hu,Option.getD_some];exact hr'
   ·rw [h1] at hg;injection hg with hg;subst hg
    refine ⟨h2,fun i row j d hr hd=>?_⟩
    obtain ⟨u,hu,_⟩:=(h6.2 i row hr).2 j d hd
    rw [cell_of_row w g.g (i * K+j) _ _ (0,0) h3]
    simp only [List.getElem?_toArray,hu,Option.getD_some]
 obtain ⟨hc1,hc2,hc3⟩:=hcs
 obtain ⟨l,hl⟩:∃ l:List (List D),l=(List.range n).map fun i=>(List.range K).map fun j=>D.v (cs i j):=⟨_,rfl⟩
 have hll:l.length=n:=by rw [hl];simp
 have hli:∀ i row,l[i]?=some row->i < n/\row=(List.range K).map fun j=>D.v (cs i j):=fun i row h=>by
  rw [hl,List.getElem?_map,Option.map_eq_some_iff] at h
  obtain ⟨i',h1,rfl⟩:=h
  obtain ⟨h2,h3⟩:=List.getElem?_eq_some_iff.1 h1
  simp at h2 h3
  subst h3
  exact ⟨h2,rfl⟩
 have hlj:∀ i row j d,l[i]?=some row->row[j]?=some d->j < K/\d=D.v (cs i j):=fun i row j d h hd=>by
  obtain ⟨_,rfl⟩:=hli i row h
  rw [List.getElem?_map,Option.map_eq_some_iff] at hd
  obtain ⟨j',h1,rfl⟩:=hd
  obtain ⟨h2,h3⟩:=List.getElem?_eq_some_iff.1 h1
  simp at h2 h3
  subst h3
  exact ⟨h2,rfl⟩
 have at_:∀ i j,i < n->j < K->∃ row d,rows[i]?=some row/\row[j]?=some d:=fun i j hi hj=>by
  have h1:i < rows.length:=by omega
  have h2:=hc2 i _ (List.getElem?_eq_getElem h1)
  exact ⟨rows[i],rows[i][j]'(by omega),List.getElem?_eq_getElem h1,List.getElem?_eq_getElem (by omega)⟩
 have hlow:∀ b,(T b/\∀ g,σ k=some g->g.g≠b)->T b:=fun b h=>h.1
 have harg:cq (dk (fun _=>none) (fun b=>T b/\∀ g,σ k=some g->g.g≠b) w) [.c (.d (.r K (l.map id)))] (c.args.map a.eval).toList:=by
  have hargs:(c.args.map a.eval).toList=[a.eval x]:=by rw [ha];simp
  rw [hargs,List.map_id]
  refine ⟨?_,trivial⟩
  show bo _ w (.r K l) (a.eval x)
  rcases hxv with ⟨h0,h1⟩|⟨g,hg,h1,h2,h3⟩
  ·rw [h1]
   have:l=[]:=List.eq_nil_of_length_eq_zero (by omega)
   rw [this];exact bo.nil _ _ _
  ·rw [h1]
   obtain ⟨q1,q2⟩:=hc3 g hg
   have:=bo.r (T:=fun b=>T b/\∀ g,σ k=some g->g.g≠b) (w:=w) K l g.g (0 * K) (g.c - 0) cs (C.dZ _ q1) (fun hb=>hb.2 g hg rfl) (by omega) (by omega) (fun i row hr=>by obtain ⟨_,rfl⟩:=hli i row hr;simp) (fun i row j d hr hd=>?_) (fun i row j d hr hd=>?_)
   ·rw [hll] at this;exact this
   ·obtain ⟨hj,rfl⟩:=hlj i row j d hr hd
    obtain ⟨row',d',r1,r2⟩:=at_ i j (hli i row hr).1 hj
    rw [Nat.zero_mul,Nat.zero_add];exact q2 i row' j d' r1 r2
   ·obtain ⟨hj,rfl⟩:=hlj i row j d hr hd
    obtain ⟨row',d',r1,r2⟩:=at_ i j (hli i row hr).1 hj
    have h5:=hc1 i row' j d' r1 r2
    exact .v _ ((show cV σ T w (.d d') _ from h5).one rfl)
 refine nt ho hc hen ((hF l hll _ w _ (fun b h=>C.dZ b h.1) harg).mono ?_)
 rintro e w' ⟨v,σ',T',rfl,B,R⟩
 have hk2:σ k2=none:=hnew k2 _ List.mem_cons_self (by simp)
 have hgrow:Grow σ (fun j=>if j=k2 then σ' 0 else σ j) T (fun b=>T b\/T' b) w w' (fun b=>∃ k∈([]:List Nat),∃ g,σ k=some g/\g.g=b):=⟨B.size,fun b hb _=>B.block b hb,(fun b ⟨k,hk,_⟩=>by cases hk),fun b hb h=>h.elim id fun h=>(R.lO b hb h).1,fun j g hj=>by
  show (if j=k2 then σ' 0 else σ j)=some g
  rw [if_neg (fun e=>by rw [e,hk2] at hj;cases hj)];exact hj⟩
 refine ⟨v,rfl,v,fun j=>if j=k2 then σ' 0 else σ j,fun b=>T b\/T' b,rfl,⟨B.os,B.tape,B.output,hgrow,fun b h=>.inl h,fun b h=>h.elim (fun h=>Nat.lt_of_lt_of_le (C.dZ b h) B.size) (R.dZ b),fun j hj=>if_neg fun e=>hj (.arr t K rows) (by subst e;exact List.mem_cons_self),fun j b hj=>?_,fun j b g hj hg=>?_,fun j j' b b' g g' hj hj' _ _ _=>?_⟩,?_⟩
 ·simp only [List.mem_cons,List.not_mem_nil,or_false,Prod.mk.injEq] at hj
  obtain ⟨rfl,rfl⟩:=hj
  have h1:=R.heap 0 _ List.mem_cons_self
  rw [List.map_id] at h1
  show dj _ _ w' (if j=j then σ' 0 else σ j) (.arr t K rows)
  rw [if_pos rfl]
  refine ⟨hK,?_⟩
  rcases h1.2 with ⟨h2,h3⟩|⟨g,vs,h2,h3,h4,h5,h6,h7⟩
  ·left
   refine ⟨List.eq_nil_of_length_eq_zero ?_,h3⟩
   rw [h2] at hll;simp at hll;omega
  ·refine .inr ⟨g,vs,h2,.inr h3,h4,h5,h6,?_,fun i row hr=>⟨hc2 i row hr,fun j' d hd=>?_⟩⟩
   ·have:=h7.1;rw [hll] at this;rw [hn];exact this
   ·have hi:i < n:=by have:=(List.getElem?_eq_some_iff.1 hr).1;omega
    have hj:j' < K:=by have:=(List.getElem?_eq_some_iff.1 hd).1;have:=hc2 i row hr;omega
    have hr':l[i]?=some ((List.range K).map fun j=>D.v (cs i j)):=by rw [hl,List.getElem?_map,List.getElem?_range hi];rfl
    have hd':((List.range K).map fun j=>D.v (cs i j))[j']?=some (D.v (cs i j')):=by rw [List.getElem?_map,List.getElem?_range hj];rfl
    obtain ⟨u,hu,hr2⟩:=(h7.2 i _ hr').2 j' _ hd'
    refine ⟨u,hu,?_⟩
    rw [bo.inv hr2]
    exact (hc1 i row j' d hr hd).grow hgrow
 ·simp only [List.mem_cons,List.not_mem_nil,or_false,Prod.mk.injEq] at hj
  obtain ⟨rfl,rfl⟩:=hj
  have hg:(if j=j then σ' 0 else σ j)=some g:=hg
  rw [if_pos rfl] at hg
  exact .inl (R.fresh 0 _ g List.mem_cons_self hg)
 ·simp only [List.mem_cons,List.not_mem_nil,or_false,Prod.mk.injEq] at hj hj'
  rw [hj.1,hj'.1]
 ·have hr:cV σ' T' w' (.s 0 0 K l.length) v:=R.rel
  rw [hll] at hr
  rcases hr with h|⟨g,h1,h2⟩
  ·exact .inl h
  ·exact .inr ⟨g,by show (if k2=k2 then σ' 0 else σ k2)=some g;rw [if_pos rfl];exact h1,h2⟩
end
end
end Go.Proofs.Ytegepioggeggaaa.Dev
