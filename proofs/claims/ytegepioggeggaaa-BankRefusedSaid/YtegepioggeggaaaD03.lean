/- A part of the proof: Ty, Sh16, Sh17, Sh18, Sh21, Sh22, Sh23, Sh24, Sh25, Sh26. No condition. -/
import Derived.Test.YtegepioggeggaaaD02
import Derived.Test.YtegepioggeggaaaProg
import Derived.Lib.AppendZerosOnto
import Derived.Lib.Overlaps
import Derived.OrdersIn
import Derived.RangeFuncFrom
set_option linter.unusedVariables false
set_option linter.unusedSimpArgs false
namespace Go.Proofs.Ytegepioggeggaaa.Dev
open Go.RowKit

theorem fF:(Try.prog.info? 3).map (fun i=>i.size)=some 1:=by kernel_rfl
theorem Dc:(Try.prog.info? 27).map (fun i=>i.size)=some 6:=by kernel_rfl
theorem ju:(Try.prog.info? 34).map (fun i=>i.size)=some 2:=by kernel_rfl
theorem Db:(Try.prog.info? 36).map (fun i=>i.size)=some 2:=by kernel_rfl
theorem gr:(Try.prog.info? 37).map (fun i=>i.size)=some 1:=by kernel_rfl
theorem Da:(Try.prog.info? 58).map (fun i=>i.size)=some 3:=by kernel_rfl
theorem FU:(Try.prog.info? 59).map (fun i=>i.size)=some 1:=by kernel_rfl
theorem iq:(Try.prog.info? 61).map (fun i=>i.size)=some 6:=by kernel_rfl
theorem CZ:(Try.prog.info? 65).map (fun i=>i.size)=some 2:=by kernel_rfl
theorem kG:(Try.prog.info? 67).map (fun i=>i.size)=some 8:=by kernel_rfl
theorem jP:(Try.prog.info? 80).map (fun i=>i.size)=some 4:=by kernel_rfl
theorem dp:(Try.prog.info? 83).map (fun i=>i.size)=some 4:=by kernel_rfl
theorem CY:(Try.prog.info? 86).map (fun i=>i.size)=some 1:=by kernel_rfl
theorem tH:(Try.prog.info? 107).map (fun i=>i.size)=some 4:=by kernel_rfl
theorem lE:(Try.prog.info? 113).map (fun i=>i.size)=some 5:=by kernel_rfl
theorem dU:(Try.prog.info? 115).map (fun i=>i.size)=some 2:=by kernel_rfl
theorem gO:(Try.prog.info? 125).map (fun i=>i.size)=some 2:=by kernel_rfl
theorem BO:(Try.prog.info? 3).bind (fun i=>i.zero)=some (.int .i64 0):=by kernel_rfl
theorem FH:FO Try.prog 61 [.int .i64 0,.int .i64 0,.int .i64 0,.int .i64 0,.int .i64 0,.slice none 0 0] [(0,1),(1,1),(2,3),(5,1)]:=⟨by kernel_rfl,by kernel_rfl⟩
theorem FT:(Try.prog.info? 65).bind (fun i=>i.zero)=some (.agg #[.int .i64 0,.int .i64 0]):=by kernel_rfl
theorem FR:(Try.prog.info? 80).bind (fun i=>i.zero)=some (.agg #[.int .i64 0,.int .i64 0,.int .i64 0,.int .i64 0]):=by kernel_rfl
theorem BP:(Try.prog.info? 115).bind (fun i=>i.zero)=some (.agg #[.int .i64 0,.int .i64 0]):=by kernel_rfl
theorem EN:(Try.prog.info? 125).bind (fun i=>i.zero)=some (.agg #[.int .i64 0,.int .i64 0]):=by kernel_rfl
theorem Fe:(Try.prog.info? 27).map (fun i=>(i.zero,i.size,i.bytes))=some (some (.agg #[.int .i64 0,.int .i64 0,.int .i64 0,.int .i64 0,.int .i64 0,.int .i64 0]),6,48):=by kernel_rfl
theorem FX:hJ Try.prog 24 27 6 48:=gi Try.underlying24 Fe rfl (by decide)
theorem Fa:(Try.prog.info? 61).map (fun i=>(i.zero,i.size,i.bytes))=some (some (.agg #[.int .i64 0,.int .i64 0,.int .i64 0,.int .i64 0,.int .i64 0,.slice none 0 0]),6,64):=by kernel_rfl
theorem xu:hJ Try.prog 29 61 6 64:=gi Try.underlying29 Fa rfl (by decide)
theorem Ge:(Try.prog.info? 3).map (fun i=>(i.zero,i.size,i.bytes))=some (some (.int .i64 0),1,8):=by kernel_rfl
theorem mJ:hJ Try.prog 30 3 1 8:=gi Try.underlying30 Ge rfl (by decide)
theorem EY:(Try.prog.info? 67).map (fun i=>(i.zero,i.size,i.bytes))=some (some (.agg #[.int .i64 0,.int .i64 0,.int .i64 0,.int .i64 0,.int .i64 0,.int .i64 0,.int .i64 0,.bool false]),8,64):=by kernel_rfl
theorem ru:hJ Try.prog 31 67 8 64:=gi Try.underlying31 EY rfl (by decide)
theorem EX:(Try.prog.info? 80).map (fun i=>(i.zero,i.size,i.bytes))=some (some (.agg #[.int .i64 0,.int .i64 0,.int .i64 0,.int .i64 0]),4,32):=by kernel_rfl
theorem ub:hJ Try.prog 32 80 4 32:=gi Try.underlying32 EX rfl (by decide)
theorem Dy:(Try.prog.info? 113).map (fun i=>(i.zero,i.size,i.bytes))=some (some (.agg #[.int .i64 0,.int .i64 0,.int .i64 0,.int .i64 0,.int .i64 0]),5,40):=by kernel_rfl
theorem lX:hJ Try.prog 37 113 5 40:=gi Try.underlying37 Dy rfl (by decide)
theorem Dz:(Try.prog.info? 107).map (fun i=>(i.zero,i.size,i.bytes))=some (some (.agg #[.int .i64 0,.int .i64 0,.int .i64 0,.int .i64 0]),4,32):=by kernel_rfl
theorem xr:hJ Try.prog 39 107 4 32:=gi Try.underlying39 Dz rfl (by decide)
theorem EW:(Try.prog.info? 83).map (fun i=>(i.zero,i.size,i.bytes))=some (some (.agg #[.int .i64 0,.int .i64 0,.int .i64 0,.int .i64 0]),4,32):=by kernel_rfl
theorem xq:hJ Try.prog 42 83 4 32:=gi Try.underlying42 EW rfl (by decide)
theorem EV:(Try.prog.info? 86).map (fun i=>(i.zero,i.size,i.bytes))=some (some (.slice none 0 0),1,24):=by kernel_rfl
theorem De:hJ Try.prog 43 86 1 24:=gi Try.underlying43 EV rfl (by decide)
theorem Dx:(Try.prog.info? 115).map (fun i=>(i.zero,i.size,i.bytes))=some (some (.agg #[.int .i64 0,.int .i64 0]),2,16):=by kernel_rfl
theorem jR:hJ Try.prog 44 115 2 16:=gi Try.underlying44 Dx rfl (by decide)
theorem EZ:(Try.prog.info? 65).map (fun i=>(i.zero,i.size,i.bytes))=some (some (.agg #[.int .i64 0,.int .i64 0]),2,16):=by kernel_rfl
theorem Dd:hJ Try.prog 47 65 2 16:=gi Try.underlying47 EZ rfl (by decide)
theorem Fc:(Try.prog.info? 58).map (fun i=>(i.zero,i.size,i.bytes))=some (some (.agg #[.int .i64 0,.int .i64 0,.int .i64 0]),3,24):=by kernel_rfl
theorem FW:hJ Try.prog 53 58 3 24:=gi Try.underlying53 Fc rfl (by decide)
theorem Dw:(Try.prog.info? 125).map (fun i=>(i.zero,i.size,i.bytes))=some (some (.agg #[.int .i64 0,.int .i64 0]),2,16):=by kernel_rfl
theorem nJ:hJ Try.prog 59 125 2 16:=gi Try.underlying59 Dw rfl (by decide)
theorem Gd:(Try.prog.info? 5).map (fun i=>(i.zero,i.size,i.bytes))=some (some (.int .u8 0),1,1):=by kernel_rfl
theorem ua:hJ Try.prog 86 5 1 1:=gi Try.underlying86 Gd rfl (by decide)
theorem Fb:(Try.prog.info? 59).map (fun i=>(i.zero,i.size,i.bytes))=some (some (.slice none 0 0),1,24):=by kernel_rfl
theorem ER:hJ Try.prog 181 59 1 24:=gi Try.underlying181 Fb rfl (by decide)
theorem Bo:bg Try.prog 22:=fun args w=>aY Try.func22 (by kernel_rfl) rfl args w
theorem Ej:bg Try.prog 24:=fun args w=>aY Try.func24 (by kernel_rfl) rfl args w
theorem GQ:bg Try.prog 25:=fun args w=>aY Try.func25 (by kernel_rfl) rfl args w
theorem Ei:bg Try.prog 26:=fun args w=>aY Try.func26 (by kernel_rfl) rfl args w
theorem ya:bg Try.prog 27:=fun args w=>aY Try.func27 (by kernel_rfl) rfl args w
theorem xZ:bg Try.prog 28:=fun args w=>aY Try.func28 (by kernel_rfl) rfl args w
theorem Bn:bg Try.prog 29:=fun args w=>aY Try.func29 (by kernel_rfl) rfl args w
theorem xY:bg Try.prog 30:=fun args w=>aY Try.func30 (by kernel_rfl) rfl args w
theorem GP:bg Try.prog 31:=fun args w=>aY Try.func31 (by kernel_rfl) rfl args w
theorem GO:bg Try.prog 32:=fun args w=>aY Try.func32 (by kernel_rfl) rfl args w
theorem GN:bg Try.prog 33:=fun args w=>aY Try.func33 (by kernel_rfl) rfl args w
theorem GM:bg Try.prog 36:=fun args w=>aY Try.func36 (by kernel_rfl) rfl args w
theorem GL:bg Try.prog 37:=fun args w=>aY Try.func37 (by kernel_rfl) rfl args w
theorem GK:bg Try.prog 40:=fun args w=>aY Try.func40 (by kernel_rfl) rfl args w
theorem GJ:bg Try.prog 41:=fun args w=>aY Try.func41 (by kernel_rfl) rfl args w
theorem GI:bg Try.prog 42:=fun args w=>aY Try.func42 (by kernel_rfl) rfl args w
theorem GH:bg Try.prog 43:=fun args w=>aY Try.func43 (by kernel_rfl) rfl args w
theorem Bm:bg Try.prog 44:=fun args w=>aY Try.func44 (by kernel_rfl) rfl args w
theorem Eh:bg Try.prog 45:=fun args w=>aY Try.func45 (by kernel_rfl) rfl args w
theorem GG:bg Try.prog 46:=fun args w=>aY Try.func46 (by kernel_rfl) rfl args w
theorem GF:bg Try.prog 47:=fun args w=>aY Try.func47 (by kernel_rfl) rfl args w
theorem GD:bg Try.prog 48:=fun args w=>aY Try.func48 (by kernel_rfl) rfl args w
theorem Eg:bg Try.prog 49:=fun args w=>aY Try.func49 (by kernel_rfl) rfl args w
theorem Ef:bg Try.prog 53:=fun args w=>aY Try.func53 (by kernel_rfl) rfl args w
theorem Ee:bg Try.prog 54:=fun args w=>aY Try.func54 (by kernel_rfl) rfl args w
theorem Ed:bg Try.prog 55:=fun args w=>aY Try.func55 (by kernel_rfl) rfl args w
theorem GC:bg Try.prog 56:=fun args w=>aY Try.func56 (by kernel_rfl) rfl args w
theorem GB:bg Try.prog 57:=fun args w=>aY Try.func57 (by kernel_rfl) rfl args w
theorem GA:bg Try.prog 59:=fun args w=>aY Try.func59 (by kernel_rfl) rfl args w
theorem Bl:bg Try.prog 60:=fun args w=>aY Try.func60 (by kernel_rfl) rfl args w
theorem Ec:bg Try.prog 61:=fun args w=>aY Try.func61 (by kernel_rfl) rfl args w
theorem Gz:bg Try.prog 62:=fun args w=>aY Try.func62 (by kernel_rfl) rfl args w
theorem Gy:bg Try.prog 63:=fun args w=>aY Try.func63 (by kernel_rfl) rfl args w
theorem Gx:bg Try.prog 64:=fun args w=>aY Try.func64 (by kernel_rfl) rfl args w
theorem Gw:bg Try.prog 65:=fun args w=>aY Try.func65 (by kernel_rfl) rfl args w
theorem Gv:bg Try.prog 66:=fun args w=>aY Try.func66 (by kernel_rfl) rfl args w
theorem Eb:bg Try.prog 67:=fun args w=>aY Try.func67 (by kernel_rfl) rfl args w
theorem Gu:bg Try.prog 68:=fun args w=>aY Try.func68 (by kernel_rfl) rfl args w
theorem Gt:bg Try.prog 69:=fun args w=>aY Try.func69 (by kernel_rfl) rfl args w
theorem Gs:bg Try.prog 70:=fun args w=>aY Try.func70 (by kernel_rfl) rfl args w
theorem Ea:bg Try.prog 71:=fun args w=>aY Try.func71 (by kernel_rfl) rfl args w
theorem Bj:bg Try.prog 72:=fun args w=>aY Try.func72 (by kernel_rfl) rfl args w
theorem jI:bg Try.prog 73:=fun args w=>aY Try.func73 (by kernel_rfl) rfl args w
theorem qf:bg Try.prog 74:=fun args w=>aY Try.func74 (by kernel_rfl) rfl args w
theorem nk:bg Try.prog 75:=fun args w=>aY Try.func75 (by kernel_rfl) rfl args w
theorem me:bg Try.prog 76:=fun args w=>aY Try.func76 (by kernel_rfl) rfl args w
theorem fC:bg Try.prog 77:=fun args w=>aY Try.func77 (by kernel_rfl) rfl args w
theorem Gr:bg Try.prog 78:=fun args w=>aY Try.func78 (by kernel_rfl) rfl args w
theorem DZ:bg Try.prog 79:=fun args w=>aY Try.func79 (by kernel_rfl) rfl args w
theorem Gq:bg Try.prog 80:=fun args w=>aY Try.func80 (by kernel_rfl) rfl args w
theorem Gp:bg Try.prog 81:=fun args w=>aY Try.func81 (by kernel_rfl) rfl args w
theorem xX:bg Try.prog 82:=fun args w=>aY Try.func82 (by kernel_rfl) rfl args w
theorem Gn:bg Try.prog 83:=fun args w=>aY Try.func83 (by kernel_rfl) rfl args w
theorem DY:bg Try.prog 84:=fun args w=>aY Try.func84 (by kernel_rfl) rfl args w
theorem DX:bg Try.prog 85:=fun args w=>aY Try.func85 (by kernel_rfl) rfl args w
theorem DW:bg Try.prog 86:=fun args w=>aY Try.func86 (by kernel_rfl) rfl args w
theorem nj:bg Try.prog 87:=fun args w=>aY Try.func87 (by kernel_rfl) rfl args w
theorem DV:bg Try.prog 88:=fun args w=>aY Try.func88 (by kernel_rfl) rfl args w
theorem DU:bg Try.prog 89:=fun args w=>aY Try.func89 (by kernel_rfl) rfl args w
theorem Gm:bg Try.prog 90:=fun args w=>aY Try.func90 (by kernel_rfl) rfl args w
theorem Gl:bg Try.prog 91:=fun args w=>aY Try.func91 (by kernel_rfl) rfl args w
theorem Gk:bg Try.prog 92:=fun args w=>aY Try.func92 (by kernel_rfl) rfl args w
theorem DT:bg Try.prog 93:=fun args w=>aY Try.func93 (by kernel_rfl) rfl args w
theorem Gj:bg Try.prog 94:=fun args w=>aY Try.func94 (by kernel_rfl) rfl args w
theorem DS:bg Try.prog 95:=fun args w=>aY Try.func95 (by kernel_rfl) rfl args w
theorem Gi:bg Try.prog 96:=fun args w=>aY Try.func96 (by kernel_rfl) rfl args w
theorem Gh:bg Try.prog 97:=fun args w=>aY Try.func97 (by kernel_rfl) rfl args w
theorem Gg:bg Try.prog 98:=fun args w=>aY Try.func98 (by kernel_rfl) rfl args w
theorem DR:bg Try.prog 99:=fun args w=>aY Try.func99 (by kernel_rfl) rfl args w
theorem Fx:bg Try.prog 100:=fun args w=>aY Try.func100 (by kernel_rfl) rfl args w
theorem Cf:bg Try.prog 101:=fun args w=>aY Try.func101 (by kernel_rfl) rfl args w
theorem Fw:bg Try.prog 102:=fun args w=>aY Try.func102 (by kernel_rfl) rfl args w
theorem Ce:bg Try.prog 103:=fun args w=>aY Try.func103 (by kernel_rfl) rfl args w
theorem Fv:bg Try.prog 104:=fun args w=>aY Try.func104 (by kernel_rfl) rfl args w
theorem Fu:bg Try.prog 105:=fun args w=>aY Try.func105 (by kernel_rfl) rfl args w
theorem Cd:bg Try.prog 106:=fun args w=>aY Try.func106 (by kernel_rfl) rfl args w
theorem Ft:bg Try.prog 107:=fun args w=>aY Try.func107 (by kernel_rfl) rfl args w
theorem Cc:bg Try.prog 108:=fun args w=>aY Try.func108 (by kernel_rfl) rfl args w
theorem Cb:bg Try.prog 109:=fun args w=>aY Try.func109 (by kernel_rfl) rfl args w
theorem yb:bg Try.prog 110:=fun args w=>aY Try.func110 (by kernel_rfl) rfl args w
theorem Fs:bg Try.prog 111:=fun args w=>aY Try.func111 (by kernel_rfl) rfl args w
theorem Ca:bg Try.prog 112:=fun args w=>aY Try.func112 (by kernel_rfl) rfl args w
theorem Fq:bg Try.prog 113:=fun args w=>aY Try.func113 (by kernel_rfl) rfl args w
theorem BZ:bg Try.prog 114:=fun args w=>aY Try.func114 (by kernel_rfl) rfl args w
theorem Fp:bg Try.prog 115:=fun args w=>aY Try.func115 (by kernel_rfl) rfl args w
theorem Fo:bg Try.prog 116:=fun args w=>aY Try.func116 (by kernel_rfl) rfl args w
theorem Fm:bg Try.prog 117:=fun args w=>aY Try.func117 (by kernel_rfl) rfl args w
theorem Fl:bg Try.prog 118:=fun args w=>aY Try.func118 (by kernel_rfl) rfl args w
theorem Fk:bg Try.prog 119:=fun args w=>aY Try.func119 (by kernel_rfl) rfl args w
theorem Fj:bg Try.prog 120:=fun args w=>aY Try.func120 (by kernel_rfl) rfl args w
theorem Fi:bg Try.prog 121:=fun args w=>aY Try.func121 (by kernel_rfl) rfl args w
theorem tL:bg Try.prog 122:=fun args w=>aY Try.func122 (by kernel_rfl) rfl args w
theorem Fh:bg Try.prog 123:=fun args w=>aY Try.func123 (by kernel_rfl) rfl args w
theorem mixed:Try.prog.follows .mixedOrders=true:=by kernel_rfl
theorem Er (a0 a1 a2 a3 b0 b1 b2 b3:Int):mj Try.prog 107 [.int .i64 a0,.int .i64 a1,.int .i64 a2,.int .i64 a3] [.int .i64 b0,.int .i64 b1,.int .i64 b2,.int .i64 b3]:=⟨_,Try.underlying107,by kernel_rfl,by kernel_rfl,⟨⟨by decide,rfl,.inl ⟨_,_,_,_,Try.underlying3,rfl,rfl⟩⟩,⟨by decide,rfl,.inl ⟨_,_,_,_,Try.underlying3,rfl,rfl⟩⟩,⟨by decide,rfl,.inl ⟨_,_,_,_,Try.underlying3,rfl,rfl⟩⟩,⟨by decide,rfl,.inl ⟨_,_,_,_,Try.underlying3,rfl,rfl⟩⟩,trivial⟩⟩
theorem Eo (a0 a1 b0 b1:Int):mj Try.prog 125 [.int .i64 a0,.int .i64 a1] [.int .i64 b0,.int .i64 b1]:=⟨_,Try.underlying125,by kernel_rfl,by kernel_rfl,⟨⟨by decide,rfl,.inl ⟨_,_,_,_,Try.underlying3,rfl,rfl⟩⟩,⟨by decide,rfl,.inl ⟨_,_,_,_,Try.underlying3,rfl,rfl⟩⟩,trivial⟩⟩
theorem FA (a0 a1 a2 a3 b0 b1 b2 b3:Int):mj Try.prog 80 [.int .i64 a0,.int .i64 a1,.int .i64 a2,.int .i64 a3] [.int .i64 b0,.int .i64 b1,.int .i64 b2,.int .i64 b3]:=⟨_,Try.underlying80,by kernel_rfl,by kernel_rfl,⟨⟨by decide,rfl,.inl ⟨_,_,_,_,Try.underlying3,rfl,rfl⟩⟩,⟨by decide,rfl,.inl ⟨_,_,_,_,Try.underlying3,rfl,rfl⟩⟩,⟨by decide,rfl,.inl ⟨_,_,_,_,Try.underlying3,rfl,rfl⟩⟩,⟨by decide,rfl,.inl ⟨_,_,_,_,Try.underlying3,rfl,rfl⟩⟩,trivial⟩⟩
theorem Ep (a0 a1 b0 b1:Int):mj Try.prog 115 [.int .i64 a0,.int .i64 a1] [.int .i64 b0,.int .i64 b1]:=⟨_,Try.underlying115,by kernel_rfl,by kernel_rfl,⟨⟨by decide,rfl,.inl ⟨_,_,_,_,Try.underlying3,rfl,rfl⟩⟩,⟨by decide,rfl,.inl ⟨_,_,_,_,Try.underlying3,rfl,rfl⟩⟩,trivial⟩⟩
theorem Fz (a0 a1 a2 a3 b0 b1 b2 b3:Int):mj Try.prog 83 [.int .i64 a0,.int .i64 a1,.int .i64 a2,.int .i64 a3] [.int .i64 b0,.int .i64 b1,.int .i64 b2,.int .i64 b3]:=⟨_,Try.underlying83,by kernel_rfl,by kernel_rfl,⟨⟨by decide,rfl,.inl ⟨_,_,_,_,Try.underlying3,rfl,rfl⟩⟩,⟨by decide,rfl,.inl ⟨_,_,_,_,Try.underlying3,rfl,rfl⟩⟩,⟨by decide,rfl,.inl ⟨_,_,_,_,Try.underlying3,rfl,rfl⟩⟩,⟨by decide,rfl,.inl ⟨_,_,_,_,Try.underlying3,rfl,rfl⟩⟩,trivial⟩⟩
theorem FC (a0 a1 a2 b0 b1 b2:Int):mj Try.prog 58 [.int .i64 a0,.int .i64 a1,.int .i64 a2] [.int .i64 b0,.int .i64 b1,.int .i64 b2]:=⟨_,Try.underlying58,by kernel_rfl,by kernel_rfl,⟨⟨by decide,rfl,.inl ⟨_,_,_,_,Try.underlying3,rfl,rfl⟩⟩,⟨by decide,rfl,.inl ⟨_,_,_,_,Try.underlying3,rfl,rfl⟩⟩,⟨by decide,rfl,.inl ⟨_,_,_,_,Try.underlying3,rfl,rfl⟩⟩,trivial⟩⟩
theorem FB (a0:Int) (a1:Int) (a2:Int) (a3:Int) (a4:Int) (a5:Int) (a6:Int) (a7:Bool) (b0:Int) (b1:Int) (b2:Int) (b3:Int) (b4:Int) (b5:Int) (b6:Int) (b7:Bool):mj Try.prog 67 [.int .i64 a0,.int .i64 a1,.int .i64 a2,.int .i64 a3,.int .i64 a4,.int .i64 a5,.int .i64 a6,.bool a7] [.int .i64 b0,.int .i64 b1,.int .i64 b2,.int .i64 b3,.int .i64 b4,.int .i64 b5,.int .i64 b6,.bool b7]:=⟨_,Try.underlying67,by kernel_rfl,by kernel_rfl,⟨⟨by decide,rfl,.inl ⟨_,_,_,_,Try.underlying3,rfl,rfl⟩⟩,⟨by decide,rfl,.inl ⟨_,_,_,_,Try.underlying3,rfl,rfl⟩⟩,⟨by decide,rfl,.inl ⟨_,_,_,_,Try.underlying3,rfl,rfl⟩⟩,⟨by decide,rfl,.inl ⟨_,_,_,_,Try.underlying3,rfl,rfl⟩⟩,⟨by decide,rfl,.inl ⟨_,_,_,_,Try.underlying3,rfl,rfl⟩⟩,⟨by decide,rfl,.inl ⟨_,_,_,_,Try.underlying3,rfl,rfl⟩⟩,⟨by decide,rfl,.inl ⟨_,_,_,_,Try.underlying3,rfl,rfl⟩⟩,⟨by decide,rfl,.inr ⟨_,_,Try.underlying4,rfl,rfl⟩⟩,trivial⟩⟩
theorem oO {P:Program} {st:aJ} {o:Oper} {t e bytes n:Nat} {x y:Operand} {i j:Int} (k:Nat) (hT:hJ P t e 1 bytes) (hz:(P.info? e).bind (fun i=>i.zero)=some (.int .i64 0)) (ho:o.op=.makeSlice t x y) (hx:ev st x (.v (.c (.d (.v (.int .i64 i)))))) (hy:ev st y (.v (.c (.d (.v (.int .i64 j))))))
    (hi:i=n) (hj:j=n) (hb:bytes * n<=281474976710656) (h63:n<=9223372036854775807):aE P o st (.v (.c (.s k 0 1 n))) [(k,.arr e 1 ((List.replicate n 0).map rI))] []:=by
  have h:=DH k hT hz rfl rfl ho hx hy hi hj hb h63
  have e1:List.replicate n [D.v (.int .i64 0)]=(List.replicate n (0:Int)).map rI:=by rw [List.map_replicate];rfl
  rw [e1] at h
  exact h
section

def mV (ps:List (Int×Int)):List (Int×Value):=ps.map fun p=>(p.1,.int .i64 p.2)
section
variable {P:Program} {st:aJ} {o:Oper}
theorem zA {t:TypeId} (k:Nat) (ho:o.op=.makeMap t none):aE P o st (.v (.c (.m k))) [(k,.map (mV []) 0)] []:=
 aE.new (P:=P) fun σ T ac w C hk=>by
  refine ⟨.map (some w.heap.size),.map #[] 0,0,?_,⟨⟨w.heap.size,0⟩,#[],rfl,.inr rfl,heap_alloc_new w _,rfl⟩,⟨_,fQ _ _ _,rfl⟩⟩
  unfold execOp
  simp only [ho,Option.map_none,Sem.run_bind,(show ∀ t w,(Instr.makeMap t none).run P w=.ok (.map (some w.heap.size)) (w.alloc (.map #[] 0)) from fun _ _=>rfl),Result.andThen_ok]
  rfl
end
end
section

theorem qB {P:Program} {w:World} {t e K:Nat} {A:Option Addr} {len cap:Nat} (hu:P.underlying t=some (.slice e)) (hz:(P.info? e).map (·.size)=some K) (lo hi mx:Option Value) (l h m:Nat) (hlo:(lo=none/\l=0)\/lo=some (.int .i64 l)) (hhi:(hi=none/\h=len/\mx=none)\/hi=some (.int .i64 h)) (hmx:(mx=none/\m=cap)\/mx=some (.int .i64 m)) (h1:l<=h) (h2:h<=m) (h3:m<=cap):
  (Instr.sliceAt t (.slice A len cap) lo hi mx).run P w=.ok (.slice (if m=l then A else A.map (·.add (l * K))) (h - l) (m - l)) w:=by
 cases hq:P.info? e with
 |none=>simp [hq] at hz
 |some ii=>
  have hs:ii.size=K:=by simpa [hq] using hz
  have h4:¬((m:Int) < (l:Int)):=by omega
  have h5:l<=m:=by omega
  rcases hhi with ⟨rfl,rfl,rfl⟩|rfl
  ·rcases hmx with ⟨_,rfl⟩|hm
   ·rcases hlo with ⟨rfl,rfl⟩|rfl
    all_goals simp [Instr.sliceAt,run_underlying hu,Instr.slice,Instr.sliceBounds,Instr.sliceBound,asIntOf,sizeOf,typeInfo,hq,hs,h1]
    all_goals try omega
   ·cases hm
  ·rcases hlo with ⟨rfl,rfl⟩|rfl<;>rcases hmx with ⟨rfl,rfl⟩|rfl
   all_goals simp [Instr.sliceAt,run_underlying hu,Instr.slice,Instr.sliceBounds,Instr.sliceBound,asIntOf,sizeOf,typeInfo,hq,hs,h1,h2,h3]
   all_goals try omega
section
variable {P:Program} {st:aJ} {o:Oper}
theorem fR {t e K k i n c c':Nat} {E E':Bool} {x:Operand} {lo hi mx:Option Operand} {l h m n':Nat} (ho:o.op=.slice t x lo hi mx) (hu:P.underlying t=some (.slice e)) (hz:(P.info? e).map (·.size)=some K) (hx:ev st x (.v (.c (.sx k i K n c E))))
  (hlo:(lo=none/\l=0)\/∃ x,lo=some x/\ev st x (.v (.c (.d (.v (.int .i64 l)))))) (hhi:(hi=none/\h=n/\mx=none)\/∃ x,hi=some x/\ev st x (.v (.c (.d (.v (.int .i64 h))))))
  (hmx:(mx=none/\m=c)\/∃ x,mx=some x/\ev st x (.v (.c (.d (.v (.int .i64 m)))))) (h1:l<=h) (h2:h<=m) (h3:m<=c) (hn:h - l=n') (hc:m - l=c') (hE:E'=true->E=true/\m=c):aE P o st (.v (.c (.sx k (i+l) K n' c' E'))) [] []:=
 aE.val fun σ T ac w C=>by
  obtain ⟨g,off,hg,hv,ho1,h4,h5,h6,h7⟩:=bD C hx
  subst hn hc
  have:=qB (P:=P) (w:=w) (A:=some ⟨g.g,off,none⟩) (len:=n) (cap:=c) hu hz (lo.map ac.eval) (hi.map ac.eval) (mx.map ac.eval) l h m
   (by rcases hlo with ⟨rfl,rfl⟩|⟨y,rfl,hy⟩;exact .inl ⟨rfl,rfl⟩;exact .inr (by rw [Option.map_some,bm.inv (bD C hy)]))
   (by rcases hhi with ⟨rfl,rfl,rfl⟩|⟨y,rfl,hy⟩;exact .inl ⟨rfl,rfl,rfl⟩;exact .inr (by rw [Option.map_some,bm.inv (bD C hy)]))
   (by rcases hmx with ⟨rfl,rfl⟩|⟨y,rfl,hy⟩;exact .inl ⟨rfl,rfl⟩;exact .inr (by rw [Option.map_some,bm.inv (bD C hy)])) h1 h2 h3
  refine ⟨.slice (if m=l then some ⟨g.g,off,none⟩ else some ⟨g.g,off+l * K,none⟩) (h - l) (m - l),?_,g,if m=l then off else off+l * K,hg,?_,?_,by omega,by omega,fun e=>?_,h7⟩
  ·unfold execOp
   simp only [ho,hv,Sem.run_bind,this,Result.andThen_ok,Option.map_some,Addr.add_lit]
   rfl
  ·split<;>rfl
  ·by_cases hml:m=l
   ·exact .inr (by omega)
   ·rw [if_neg hml]
    rcases ho1 with rfl|h0
    ·exact .inl (by rw [Nat.add_mul])
    ·omega
  ·obtain ⟨h8,h9⟩:=hE e
   have:=h6 h8
   omega
theorem DK {x:Operand} {cl:Call} {t e k i K n c:Nat} {E:Bool} (hu:P.underlying t=some (.slice e)) (ho:o.op=.call cl) (hc:cl.callee=.builtin .cap) (ha:cl.args=#[x]) (hat:cl.argTypes=#[t]) (hx:ev st x (.v (.c (.sx k i K n c E)))):aE P o st (.v (.c (.d (.v (.int .i64 c))))) [] []:=
 aE.val fun σ T ac w C=>by
  obtain ⟨g,off,hg,hv,_⟩:=bD C hx
  refine ⟨_,?_,bm.v _ rfl⟩
  unfold execOp
  simp [ho,resolve,hc,ha,hat,invoke,builtin,hv,Builtin.cap_,run_underlying hu,goInt]
theorem DI {x:Operand} {cl:Call} {t e k i K n c:Nat} {E:Bool} (hu:P.underlying t=some (.slice e)) (ho:o.op=.call cl) (hc:cl.callee=.builtin .len) (ha:cl.args=#[x]) (hat:cl.argTypes=#[t]) (hx:ev st x (.v (.c (.sx k i K n c E)))):aE P o st (.v (.c (.d (.v (.int .i64 n))))) [] []:=
 aE.val fun σ T ac w C=>by
  obtain ⟨g,off,hg,hv,_⟩:=bD C hx
  refine ⟨_,?_,bm.v _ rfl⟩
  unfold execOp
  simp [ho,resolve,hc,ha,hat,invoke,builtin,hv,Builtin.len_,run_underlying hu,goInt]
inductive mg (st:aJ):AV->Nat->Nat->Nat->List (List D)->Prop
 |d {K len m:Nat} {rows ys:List (List D)} (hl:rows.length=len) (hm:m<=len) (he:rows.take m=ys):mg st (.v (.c (.d (.r K rows)))) K len m ys
 |s {k i t K len m:Nat} {rows ys:List (List D)} (h:look st.h k=some (.arr t K rows)) (hm:m<=len) (hi:i+m<=rows.length) (he:(rows.drop i).take m=ys):mg st (.v (.c (.s k i K len))) K len m ys
 |x {k i t K len m c:Nat} {E:Bool} {rows ys:List (List D)} (h:look st.h k=some (.arr t K rows)) (hm:m<=len) (hi:i+m<=rows.length) (he:(rows.drop i).take m=ys):mg st (.v (.c (.sx k i K len c E))) K len m ys
theorem mg.read {σ:Nat->Option bM} {T:Nat->Prop} {a:Act} {w:World} (C:Core σ T st a w) {v:AV} {K len m:Nat} {ys:List (List D)} (h:mg st v K len m ys) (hK:0 < K) (hm0:0 < m\/∃ k i c E,v=.v (.c (.sx k i K len c E))) {x:Value} (hx:eB σ T w v x):
  ys.length=m/\∃ b off c vs,x=.slice (some ⟨b,off,none⟩) len c/\Flat T w K ys ⟨b,off,none⟩ vs:=by
 cases h with
 |@d _ _ _ rows _ hl hm he=>
  subst he
  refine ⟨by rw [List.length_take];omega,?_⟩
  have hx:bm T w (.r K rows) x:=hx
  obtain hm0:0 < m:=hm0.resolve_right (fun ⟨_,_,_,_,h⟩=>by cases h)
  cases hx with
  |nil=>simp at hl;omega
  |r K rows b off c cs hb hT hc hmx hKr dY hd=>
   obtain ⟨vs,hf⟩:=rN (T:=T) (w:=w) (rows:=rows.take m) hK cs (fun i row hr=>hKr i row (by rw [List.getElem?_take] at hr;split at hr;exact hr;cases hr)) (fun i row j d hr hj=>by
    rw [List.getElem?_take] at hr
    split at hr
    ·exact ⟨dY i row j d hr hj,hd i row j d hr hj⟩
    ·cases hr)
   exact ⟨b,off,c,vs,by rw [hl],hf⟩
 |@s k i t _ _ _ rows _ hk hm hi he=>
  subst he
  refine ⟨by rw [List.length_take,List.length_drop];omega,?_⟩
  have hx:cQ σ T w (.s k i K len) x:=hx
  obtain hm0:0 < m:=hm0.resolve_right (fun ⟨_,_,_,_,h⟩=>by cases h)
  rcases hx with ⟨h0,_⟩|⟨g,hg,hv,_⟩
  ·omega
  ·have hh:=C.heap k _ hk
   rw [hg] at hh
   obtain ⟨vs,hf⟩:=jf hh hi
   exact ⟨g.g,i * K,_,vs,hv,hf⟩
 |@x k i t _ _ _ c E rows _ hk hm hi he=>
  subst he
  refine ⟨by rw [List.length_take,List.length_drop];omega,?_⟩
  have hx:cQ σ T w (.sx k i K len c E) x:=hx
  obtain ⟨g,off,hg,hv,ho1,h2,_⟩:=hx
  have hh:=C.heap k _ hk
  rw [hg] at hh
  obtain ⟨vs,hf⟩:=jf hh hi
  rcases ho1 with rfl|h0
  ·exact ⟨g.g,i * K,_,vs,hv,hf⟩
  ·obtain rfl:m=0:=by omega
   exact ⟨g.g,off,_,[],hv,by simp,⟨by simp,fun i row h=>by simp at h⟩,fun j u h=>by simp at h,fun u h=>by simp at h⟩
theorem yN {T:Nat->Prop} {w:World} {K:Nat} {rows:List (List D)} {vs:List Value} (h:Rows T w K rows vs) (j:Nat):Rows T w K (rows.drop j) (vs.drop (j * K)):=by
 refine ⟨?_,fun i row hi=>?_⟩
 ·rw [List.length_drop,List.length_drop,Nat.sub_mul];have:=h.1;omega
 ·rw [List.getElem?_drop] at hi
  obtain ⟨h1,h2⟩:=h.2 _ row hi
  refine ⟨h1,fun q d hq=>?_⟩
  obtain ⟨u,hu,hr⟩:=h2 q d hq
  refine ⟨u,?_,hr⟩
  rw [List.getElem?_drop,<-hu,Nat.add_mul,Nat.add_assoc]
theorem xw {T:Nat->Prop} {w:World} {K:Nat} {rows:List (List D)} {vs:List Value} (h:Rows T w K rows vs) {i:Nat} (hi:i<=rows.length):Rows T w K (rows.take i) (vs.take (i * K))/\(vs.take (i * K)).length=(rows.take i).length * K:=by
 have h1:i * K<=vs.length:=Nat.le_trans (Nat.mul_le_mul_right K hi) h.1
 refine ⟨su (⟨?_,fun j row hj=>?_⟩:Rows T w K (rows.take i) vs) ?_,?_⟩
 ·exact Nat.le_trans (Nat.mul_le_mul_right K (by rw [List.length_take];omega)) h.1
 ·rw [List.getElem?_take] at hj
  split at hj
  ·exact h.2 j row hj
  ·cases hj
 ·rw [List.length_take,Nat.min_eq_left hi];exact Nat.le_refl _
 ·rw [List.length_take,List.length_take,Nat.min_eq_left hi,Nat.min_eq_left h1]
theorem vH {T:Nat->Prop} {w:World} {K:Nat} {rows ys:List (List D)} {vs ws:List Value} (h:Rows T w K rows vs) (h':Rows T w K ys ws) (hw:ws.length=ys.length * K) {i:Nat} (hi:i<=rows.length):
  Rows T w K (rows.take i++ys++rows.drop (i+ys.length)) (vs.take (i * K)++ws++vs.drop (i * K+ws.length)):=by
 obtain ⟨h1,h2⟩:=xw h hi
 refine iU (iU h1 h2 h') ?_ ?_
 ·rw [List.length_append,List.length_append,h2,hw,Nat.add_mul]
 ·have:=yN h (i+ys.length)
  rwa [Nat.add_mul,<-hw] at this
theorem kI {T:Nat->Prop} {w:World} {K:Nat} {ys:List (List D)} {b off:Nat} {vs:List Value} (hf:Flat T w K ys ⟨b,off,none⟩ vs):(loadCells ⟨b,off,none⟩ (ys.length * K)).run P w=.ok vs.toArray w:=by
 rw [<-hf.len]
 exact run_loadCells_list (P:=P) w ⟨b,off,none⟩ vs hf.cell
theorem tb {σ:Nat->Option bM} {T:Nat->Prop} {a:Act} {w:World} (C:Core σ T st a w) {e bt K k i:Nat} {rows ys:List (List D)} {g:bM} {b off:Nat} {vs:List Value} (hK:0 < K) (hg:σ k=some g) (hb:look st.h k=some (.arr bt K rows)) (hi:i<=rows.length) (bO:i+ys.length<=g.c) (hf:Flat T w K ys ⟨b,off,none⟩ vs):
  ∃ w',(storeCells ⟨g.g,i * K,none⟩ vs).run P w=.ok () w'/\Ext σ T w σ T w' [(k,.arr bt K (rows.take i++ys++rows.drop (i+ys.length)))] [k]:=by
 have hh:=C.heap k _ hb
 obtain ⟨_,hh'⟩:=hh
 rcases hh' with ⟨_,h⟩|⟨g',cs,e1,e2,e3,e4,e5,e6⟩
 ·rw [hg] at h;cases h
 rw [hg] at e1;injection e1 with e1;subst e1
 have hfit:i * K+vs.length<=cs.length:=by rw [hf.len,e4,<-Nat.add_mul];exact Nat.mul_le_mul_right _ bO
 have hst:=run_storeCells_at (P:=P) g.g (i * K) bt vs 0 cs.toArray w e3 (by simpa using hfit) hf.one
 refine ⟨w.setRow g.g (cs.take (i * K)++vs++cs.drop (i * K+vs.length)).toArray,by simpa using hst,Ext.write C hb hg rfl rfl rfl (setRow_size w _ _) (fun j hj=>setRow_other w g.g j _ hj) fun G=>?_⟩
 refine ⟨hK,.inr ⟨g,_,rfl,e2,setRow_heap w g.g _ _ bt (0,0) e3,?_,e5,vH (e6.grow G) (hf.mO.grow G) hf.len hi⟩⟩
 rw [<-e4];simp only [List.length_append,List.length_take,List.length_drop];omega
theorem oP {x y:Operand} {cl:Call} {v:AV} {t e bt K bytes k i n c len m:Nat} {E:Bool} {rows ys rows':List (List D)} (hT:hJ P t e K bytes) (ho:o.op=.call cl) (hc:cl.callee=.builtin .copy) (ha:cl.args=#[x,y]) (hat:cl.argTypes=#[t,t])
  (hx:ev st x (.v (.c (.sx k i K n c E)))) (hb:look st.h k=some (.arr bt K rows)) (hy:ev st y v) (hs:mg st v K len m ys) (hm:0 < m) (hmin:m=len/\len<=n\/m=n/\n<=len) (hi:i<=rows.length) (hr:rows.take i++ys++rows.drop (i+m)=rows'):
  aE P o st (.v (.c (.d (.v (.int .i64 m))))) [(k,.arr bt K rows')] [k]:=by
 intro σ T a w C _
 obtain ⟨g,off,hg,hv,ho1,h2,h3,_,h5⟩:=bD C hx
 obtain ⟨hyl,b,off2,c2,vs,hyv,hf⟩:=hs.read C hT.K0 (.inl hm) (bD C hy)
 obtain ⟨ii,z,hii,_,hsz,_⟩:=hT.i
 obtain rfl:off=i * K:=ho1.resolve_right (by omega)
 have hml:Nat.min len n=m:=by show min len n=m;omega
 obtain ⟨w',hst,hext⟩:=tb (P:=P) (e:=e) C hT.K0 hg hb hi (by omega) hf
 rw [hyl,hr] at hext
 refine gG (v:=.int .i64 m) (w':=w') ?_ ⟨_,σ,T,rfl,hext,bm.v _ rfl⟩
 have hld:=kI (P:=P) hf
 rw [hyl] at hld
 unfold execOp
 simp [ho,resolve,hc,ha,hat,invoke,builtin,hv,hyv,Builtin.copy_,run_underlying hT.u,Builtin.lenOf,Builtin.firstCells,sizeOf,typeInfo,hii,hsz,hml,hld,hst,goInt]
theorem CF {x y:Operand} {cl:Call} {v:AV} {t e bt K bytes k i n c m N:Nat} {E:Bool} {rows ys rows':List (List D)} (hT:hJ P t e K bytes) (ho:o.op=.call cl) (hc:cl.callee=.builtin .append) (ha:cl.args=#[x,y]) (hat:cl.argTypes=#[t,t])
  (hx:ev st x (.v (.c (.sx k i K n c E)))) (hb:look st.h k=some (.arr bt K rows)) (hy:ev st y v) (hs:mg st v K m m ys) (hm:0 < m\/∃ k i c E,v=.v (.c (.sx k i K m c E))) (hc0:0 < c) (hN:n+m=N) (hroom:N<=c) (hi:i+n<=rows.length) (hr:rows.take (i+n)++ys++rows.drop (i+n+m)=rows'):
  aE P o st (.v (.c (.sx k i K N c E))) [(k,.arr bt K rows')] [k]:=by
 intro σ T a w C _
 subst hN
 obtain ⟨g,off,hg,hv,ho1,h2,h3,h4,h5⟩:=bD C hx
 obtain ⟨hyl,b,off2,c2,vs,hyv,hf⟩:=hs.read C hT.K0 hm (bD C hy)
 obtain ⟨ii,z,hii,_,hsz,_⟩:=hT.i
 obtain rfl:off=i * K:=ho1.resolve_right (by omega)
 obtain ⟨w',hst,hext⟩:=tb (P:=P) (e:=e) C hT.K0 hg hb hi (by omega) hf
 rw [hyl,hr] at hext
 refine gG (v:=.slice (some ⟨g.g,i * K,none⟩) (n+m) c) (w':=w') ?_ ⟨_,σ,T,rfl,hext,⟨g,i * K,hg,rfl,.inl rfl,hroom,h3,h4,h5⟩⟩
 have hld:=kI (P:=P) hf
 rw [hyl] at hld
 rw [Nat.add_mul] at hst
 unfold execOp
 simp [ho,resolve,hc,ha,hat,invoke,builtin,hv,hyv,Builtin.append_,run_underlying hT.u,Builtin.lenOf,Builtin.firstCells,sizeOf,typeInfo,hii,hsz,hld,hroom,Addr.add_lit,hst]
end
end
section

section
variable {P:Program} {W0:World} {F:Nat->Prop} {N:NT} {T0:Nat->Prop} {pin:List (Nat×bM)} {Q:Exit->aJ->Prop} {s:List (Nat×AV)} {h:List (Nat×AB)} {n:Nat}
theorem Inv.slot {a:Act} {w:World} {i:Nat} {v:AV} (hI:Inv W0 F N T0 pin ⟨s,h,n⟩ a w) (hv:∀ σ T,Core σ T ⟨s,h,n⟩ a w->eB σ T w v (a.tmps.getD i undef)):Inv W0 F N T0 pin ⟨(i,v)::s,h,n⟩ a w:=by
 obtain ⟨σ,T,hT,S,hp⟩:=hI
 refine ⟨σ,T,hT,⟨⟨fun j x hj=>?_,S.core.heap,S.core.inj,S.core.er⟩,S.os,S.tape,S.output,S.size,S.cF,S.own,S.next,S.hn,S.jt,S.iX⟩,hp⟩
 have hj':look ((i,v)::s) j=some x:=hj
 rw [bT] at hj'
 split at hj'
 ·rename_i e;subst e;injection hj' with hj';subst hj'
  exact hv σ T S.core
 ·exact S.core.fm j x hj'
theorem rY {cd:Code} {k r K m:Nat} (i:Nat) (hs:look s i=some (.v (.c (.s k r K m)))) (hm:0 < m) (hk:∀ c,m<=c->c<=9223372036854775807->AC P W0 F N T0 pin Q cd ⟨(i,.v (.c (.sx k r K m c true)))::s,h,n⟩):AC P W0 F N T0 pin Q cd ⟨s,h,n⟩:=fun a w hI=>by
 obtain ⟨σ,T,hT,S,hp⟩:=hI
 have h1:cQ σ T w (.s k r K m) (a.tmps.getD i undef):=S.core.fm i _ hs
 rcases h1 with ⟨h0,_⟩|⟨g,hg,hv,h2,h3⟩
 ·omega
 ·refine hk (g.c - r) (by omega) (by omega) a w ?_
  refine ⟨σ,T,hT,⟨⟨fun j x hj=>?_,S.core.heap,S.core.inj,S.core.er⟩,S.os,S.tape,S.output,S.size,S.cF,S.own,S.next,S.hn,S.jt,S.iX⟩,hp⟩
  have hj':look ((i,AV.v (.c (.sx k r K m (g.c - r) true)))::s) j=some x:=hj
  rw [bT] at hj'
  split at hj'
  ·rename_i e;subst e;injection hj' with hj';subst hj'
   exact ⟨g,r * K,hg,hv,.inl rfl,by omega,by omega,fun _=>by omega,h3⟩
  ·exact S.core.fm j x hj'
theorem aH.BQ {k r K m c:Nat} (i:Nat) (hs:look s i=some (.v (.c (.sx k r K m c true)))) (hc:0 < c):aH pin ⟨s,h,n⟩ ⟨(i,.v (.c (.s k r K m)))::s,h,n⟩:=fun W0 F N T0 a w hI=>
 hI.slot fun σ T C=>by
  obtain ⟨g,off,hg,hv,ho,h1,h2,h3,h4⟩:=C.fm i _ hs
  obtain rfl:off=r * K:=ho.resolve_right (by omega)
  have:=h3 rfl
  exact .inr ⟨g,hg,by rw [hv];congr 1;omega,by omega,h4⟩
end
section
variable {P:Program} {st:aJ} {o:Oper}
theorem Grow.qv {σ σ':Nat->Option bM} {T T':Nat->Prop} {w w':World} {C:Nat->Prop} (G:Grow σ σ' T T' w.drew w' C):Grow σ σ' T T' w w' C:=⟨G.size,G.cF,G.CT,G.kP,G.σle⟩
theorem Ext.qv {σ σ':Nat->Option bM} {T T':Nat->Prop} {w w':World} {nb:List (Nat×AB)} {E:List Nat} (X:Ext σ T w.drew σ' T' w' nb E):Ext σ T w σ' T' w' nb E:=⟨X.os,X.tape,X.output,X.grow.qv,X.lS,X.er,X.wV,X.rel,X.fresh,X.inj⟩
theorem aE.Gc {k:Nat} {b:AB} {av:AV}
  (h:∀ σ T a w,Core σ T st a w->σ k=none->∃ u ob c,(execOp a.eval o).run P w=.ok (.value u) (w.drew.alloc ob)/\dg (nG σ k ⟨w.heap.size,c⟩) (kg T w.heap.size) (w.drew.alloc ob) (some ⟨w.heap.size,c⟩) b/\eB (nG σ k ⟨w.heap.size,c⟩) (kg T w.heap.size) (w.drew.alloc ob) av u):
  aE P o st av [(k,b)] []:=
 fun σ T a w C hk=>by
  have hk:=hk k b (List.mem_singleton.2 rfl) (by simp)
  obtain ⟨u,ob,c,hu,hr,hv⟩:=h σ T a w C hk
  exact gG hu ⟨u,_,_,rfl,Ext.qv (Ext.alloc (w:=w.drew) C.er ob hk hr),hv⟩
theorem ss {T:Nat->Prop} {w:World} {z:Value} {K m:Nat} {zs:List Value} (hzs:z.cells.toList=zs) (hK:zs.length=K) (h1:zs.all (·.oneCell')=true):Rows T w K (List.replicate m (zs.map D.v)) (Builtin.zeroCells z.cells m).toList/\(Builtin.zeroCells z.cells m).toList.length=m * K:=by
 have hzc:z.cells.size=K:=by rw [<-hK,<-hzs];simp
 have hlen:(Builtin.zeroCells z.cells m).toList.length=m * K:=by simp [Builtin.zeroCells,hzc]
 refine ⟨⟨by rw [List.length_replicate,hlen];exact Nat.le_refl _,fun i row hi=>?_⟩,hlen⟩
 obtain ⟨hi1,rfl⟩:=List.getElem?_eq_some_iff.1 hi
 rw [List.length_replicate] at hi1
 rw [List.getElem_replicate]
 refine ⟨by rw [List.length_map,hK],fun j d hj=>?_⟩
 rw [List.getElem?_map,Option.map_eq_some_iff] at hj
 obtain ⟨u,hu,rfl⟩:=hj
 have hjK:j < K:=by rw [<-hK];exact (List.getElem?_eq_some_iff.1 hu).1
 have hlt:i * K+j < m * K:=by
  have:(i+1) * K<=m * K:=Nat.mul_le_mul_right _ hi1
  rw [Nat.add_mul] at this
  omega
 refine ⟨u,?_,.v u (List.all_eq_true.1 h1 u (List.mem_of_getElem? hu))⟩
 have hmod:(i * K+j) % K=j:=by rw [Nat.mul_comm,Nat.mul_add_mod,Nat.mod_eq_of_lt hjK]
 rw [List.getElem?_eq_getElem (by rw [hlen];exact hlt)]
 simp only [Builtin.zeroCells,Array.getElem_toList,Array.getElem_map,Array.getElem_range,hzc,hmod]
 congr 1
 rw [getElem!_pos z.cells j (by rw [hzc];exact hjK)]
 subst hzs
 rw [Array.getElem?_toList,Array.getElem?_eq_getElem (by rw [hzc];exact hjK)] at hu
 exact Option.some.inj hu
theorem DL {x y:Operand} {cl:Call} {t tn e bt K bytes k n c m N:Nat} {E:Bool} {kn:IntKind} {z:Value} {zs:List Value} {rows rows':List (List D)} (k2:Nat) (hT:hJ P t e K bytes) (hz:(P.info? e).bind (fun i=>i.zero)=some z) (hzs:z.cells.toList=zs) (h1:zs.all (·.oneCell')=true) (htn:P.underlying tn=some (.int kn))
  (ho:o.op=.call cl) (hc:cl.callee=.builtin .append) (ha:cl.args=#[x,y]) (hat:cl.argTypes=#[t,tn]) (hx:ev st x (.v (.c (.sx k 0 K n c E)))) (hb:look st.h k=some (.arr bt K rows)) (hy:ev st y (.v (.c (.d (.v (.int .i64 m)))))) (hm:0 < m) (hN:n+m=N) (hroom:c < N) (hn:n<=rows.length) (h63:N<=9223372036854775807) (hby:N * bytes<=140737488355328)
  (hr:rows.take n++List.replicate m (zs.map D.v)=rows'):aE P o st (.v (.c (.s k2 0 K N))) [(k2,.arr e K rows')] []:=
 aE.Gc fun σ T ac w C hk=>by
  subst hN hr
  obtain ⟨g,off,hg,hv,ho1,h2,h3,h4,h5⟩:=bD C hx
  have hyv:=bm.inv (bD C hy)
  obtain ⟨ii,z',hii,hzz,hsz,hbb,hzc⟩:=hT.i
  have hz':z'=z:=by simpa [hii,hzz] using hz
  subst hz'
  have hzl:zs.length=K:=by rw [<-hzs];simpa using hzc
  have hh:=C.heap k _ hb
  rw [hg] at hh
  obtain ⟨vs,hf⟩:∃ vs,Flat T w K (rows.take n) ⟨g.g,off,none⟩ vs:=by
   by_cases h0:n=0
   ·subst h0
    exact ⟨[],by simp,⟨by simp,fun i row h=>by simp at h⟩,fun j u h=>by simp at h,fun u h=>by simp at h⟩
   ·obtain rfl:off=0 * K:=ho1.resolve_right (by omega)
    have:=jf (i:=0) (n:=n) hh (by omega)
    rwa [List.drop_zero] at this
  have hlen:(rows.take n).length=n:=by rw [List.length_take];omega
  have hfc:∀ j u,vs[j]?=some u->w.drew.cell? ((⟨g.g,off,none⟩:Addr).add j)=some u:=hf.cell
  have hvl:vs.length=n * ii.size:=by rw [hf.len,hlen,hsz]
  have hold:(Builtin.firstCells ii.size n (.slice (some ⟨g.g,off,none⟩) n c)).run P w.drew=.ok vs.toArray w.drew:=by
   have:=run_loadCells_list (P:=P) w.drew ⟨g.g,off,none⟩ vs hfc
   rw [hvl] at this
   exact this
  have hrun:=Lib.run_append_grow_zeros (P:=P) w t tn o.type e ii z' .i64 kn hT.u htn hii hzz (some ⟨g.g,off,none⟩) n c vs hold m hm (by rw [hsz];exact hT.K0) hroom (by omega) (by rw [hbb];have:m * bytes<=(n+m) * bytes:=Nat.mul_le_mul_right _ (by omega);omega) (growslice_fits hroom (by rw [hbb];exact hby))
  have hge:=grownCap_ge w (n+m) c e
  have hle:=grownCap_le_maxLen w (n+m) c e (by simp only [maxLen];omega)
  simp only [maxLen] at hle
  obtain ⟨hzr,hzl2⟩:=ss (T:=T) (w:=w) (m:=m) hzs hzl h1
  obtain ⟨hzr3,hzl3⟩:=ss (T:=T) (w:=w) (m:=grownCap w (n+m) c e - (n+m)) hzs hzl h1
  refine ⟨.slice (some ⟨w.heap.size,0,none⟩) (n+m) (grownCap w (n+m) c e),.cells (vs++(Builtin.zeroCells z'.cells m).toList++(Builtin.zeroCells z'.cells (grownCap w (n+m) c e - (n+m))).toList).toArray e,grownCap w (n+m) c e,?_,?_,.inr ⟨_,fQ _ _ _,?_,?_,?_⟩⟩
  ·unfold execOp
   have e1:(vs.toArray++Builtin.zeroCells z'.cells m++Builtin.zeroCells z'.cells (grownCap w (n+m) c e - (n+m)))=(vs++(Builtin.zeroCells z'.cells m).toList++(Builtin.zeroCells z'.cells (grownCap w (n+m) c e - (n+m))).toList).toArray:=by simp
   rw [e1] at hrun
   simp [ho,resolve,hc,ha,hat,invoke,builtin,hv,hyv,hrun]
  ·refine ⟨hT.K0,.inr ⟨_,_,rfl,.inr rfl,heap_alloc_new w _,?_,by show grownCap w (n+m) c e<=_;omega,?_⟩⟩
   ·rw [List.length_append,List.length_append,hzl2,hzl3,hf.len,hlen,<-Nat.add_mul,<-Nat.add_mul]
    show (n+m+(grownCap w (n+m) c e - (n+m))) * K=grownCap w (n+m) c e * K
    congr 1;omega
   ·have G:=Grow.qv (w:=w) (Grow.alloc (w:=w.drew) (T:=T) (k:=k2) (c:=grownCap w (n+m) c e) hk (.cells (vs++(Builtin.zeroCells z'.cells m).toList++(Builtin.zeroCells z'.cells (grownCap w (n+m) c e - (n+m))).toList).toArray e) (fun _=>False) fun _ h=>h.elim)
    have h6:=iU hf.mO hf.len hzr
    refine nM (m:=n * K+m * K) ?_
    have hl:(vs++(Builtin.zeroCells z'.cells m).toList).length=n * K+m * K:=by rw [List.length_append,hzl2,hf.len,hlen]
    rw [List.take_append_of_le_length (Nat.le_of_eq hl.symm),List.take_of_length_le (Nat.le_of_eq hl)]
    exact h6.grow G
  ·rw [Nat.zero_mul,Nat.sub_zero]
  ·show 0+(n+m)<=grownCap w (n+m) c e;omega
  ·show grownCap w (n+m) c e<=_;omega
theorem uT {t e K k i n:Nat} {x:Operand} {lo hi mx:Option Operand} {l h:Nat} (ho:o.op=.slice t x lo hi mx) (hu:P.underlying t=some (.slice e)) (hz:(P.info? e).map (·.size)=some K) (hx:ev st x (.v (.c (.s k i K n))))
  (hlo:(lo=none/\l=0)\/∃ x,lo=some x/\ev st x (.v (.c (.d (.v (.int .i64 l)))))) (hhi:(hi=none/\h=n/\mx=none)\/∃ x,hi=some x/\ev st x (.v (.c (.d (.v (.int .i64 h))))))
  (hmx:mx=none\/∃ x m,mx=some x/\ev st x (.v (.c (.d (.v (.int .i64 (m:Nat))))))/\h<=m/\m<=n) (h1:l<=h) (h2:h<=n):aE P o st (.v (.c .any)) [] []:=
 aE.val fun σ T ac w C=>by
  have key:∀ A c,n<=c->ac.eval x=.slice A n c->∃ u,(execOp ac.eval o).run P w=.ok (.value u) w:=by
   intro A c hc hA
   obtain ⟨m,hm,hm1,hm2⟩:∃ m:Nat,((mx.map ac.eval=none/\m=c)\/mx.map ac.eval=some (.int .i64 m))/\h<=m/\m<=c:=by
    rcases hmx with rfl|⟨y,m,rfl,hy,h3,h4⟩
    ·exact ⟨c,.inl ⟨rfl,rfl⟩,by omega,Nat.le_refl _⟩
    ·exact ⟨m,.inr (by rw [Option.map_some,bm.inv (bD C hy)]),h3,by omega⟩
   have:=qB (P:=P) (w:=w) (A:=A) (len:=n) (cap:=c) hu hz (lo.map ac.eval) (hi.map ac.eval) (mx.map ac.eval) l h m
    (by rcases hlo with ⟨rfl,rfl⟩|⟨y,rfl,hy⟩;exact .inl ⟨rfl,rfl⟩;exact .inr (by rw [Option.map_some,bm.inv (bD C hy)]))
    (by rcases hhi with ⟨rfl,rfl,rfl⟩|⟨y,rfl,hy⟩;exact .inl ⟨rfl,rfl,rfl⟩;exact .inr (by rw [Option.map_some,bm.inv (bD C hy)])) hm h1 hm1 hm2
   refine ⟨.slice (if m=l then A else A.map (·.add (l * K))) (h - l) (m - l),?_⟩
   unfold execOp
   simp only [ho,hA,Sem.run_bind,this,Result.andThen_ok]
   rfl
  have hv:cQ σ T w (.s k i K n) _:=bD C hx
  rcases hv with ⟨h0,hv⟩|⟨g,hg,hv,hle,hmx⟩
  ·obtain ⟨u,hu⟩:=key none 0 (by omega) (by rw [hv,h0]);exact ⟨u,hu,trivial⟩
  ·obtain ⟨u,hu⟩:=key _ _ (by omega) hv;exact ⟨u,hu,trivial⟩
theorem xQ {x y:Operand} {cl:Call} {f t tr e tA tB K bytes k1 k2 m i n c:Nat} {E:Bool} {fn:Func} {r1 r2:List (List D)} (hT:hJ P t e K bytes) (hf:P.funcs[f]?=some fn) (hname:(fn.name== "runtime.NumGoroutine")=false) (hbn:fn.body.isNone=true) (hn:Extern.findNext fn=none) (he:Extern.find fn=some (Extern.SlicesOverlaps.overlaps #[t,t] #[tr]))
  (ho:o.op=.call cl) (hc:cl.callee=.value (.func f)) (ha:cl.args=#[x,y]) (hx:ev st x (.v (.c (.s k1 0 K m)))) (hm:0 < m) (hy:ev st y (.v (.c (.sx k2 i K n c E)))) (hc0:0 < c) (hb1:look st.h k1=some (.arr tA K r1)) (hb2:look st.h k2=some (.arr tB K r2)) (hk:k1≠k2):aE P o st (.v (.c (.d (.v (.bool false))))) [] []:=
 aE.val fun σ T ac w C=>by
  obtain ⟨g,off,hg,hv,ho1,h2,h3,h4,h5⟩:=bD C hy
  have hxv:cQ σ T w (.s k1 0 K m) _:=bD C hx
  rcases hxv with ⟨h0,_⟩|⟨g1,hg1,hv1,h6,h7⟩
  ·omega
  obtain ⟨ii,z',hii,hzz,hsz,hbb,hzc⟩:=hT.i
  have hh1:=C.heap k1 _ hb1
  have hh2:=C.heap k2 _ hb2
  rw [hg1] at hh1;rw [hg] at hh2
  rcases hh1.2 with ⟨_,h⟩|⟨g',vs1,e1,_,e3,e4,_⟩
  ·cases h
  injection e1 with e1;subst e1
  rcases hh2.2 with ⟨_,h⟩|⟨g',vs2,e1,_,e3',e4',_⟩
  ·cases h
  injection e1 with e1;subst e1
  have hne:g1.g≠g.g:=fun e=>hk (C.inj k1 k2 _ _ g1 g hb1 hb2 hg1 hg e)
  have hK:=hT.K0
  have hpos:0 < vs2.length:=by rw [e4'];exact Nat.mul_pos (by omega) hK
  have hrun:=Lib.run_overlaps_apart (P:=P) w t tr e hT.u K (fun w=>by simp [sizeOf,typeInfo,hii,hsz]) ⟨g1.g,0 * K,none⟩ ⟨g.g,off,none⟩ m (g1.c - 0) n c hne tA tB vs1.length vs2.length (by simp [World.shape?,e3]) (by simp [World.shape?,e3']) (by omega) (by simp [World.frozen?,e3]) (by simp [World.frozen?,e3])
  refine ⟨.bool false,?_,bm.v _ rfl⟩
  have hcall:=run_callFunc_extern hf hname hbn hn he #[ac.eval x,ac.eval y] w
  rw [hv,hv1,hrun] at hcall
  have hargs:cl.args.map ac.eval=#[.slice (some ⟨g1.g,0 * K,none⟩) m (g1.c - 0),.slice (some ⟨g.g,off,none⟩) n c]:=by rw [ha];simp [hv,hv1]
  have hfe:ac.eval (.func f)=Value.func (.func f) #[] #[]:=rfl
  unfold execOp
  simp [ho,resolve,hc,hfe,Deferred.ofValue,invoke,hargs] at hcall ⊢
  simp [hcall]
end
end
section
section
variable {P:Program} {st:aJ} {o:Oper}
inductive lC:AV->Prop
 |n:lC (.v (.c (.d (.v (.slice none 0 0)))))
 |d (K:Nat) (rows:List (List D)) (h:rows.length=0):lC (.v (.c (.d (.r K rows))))
 |s (k i K n:Nat) (h:n=0):lC (.v (.c (.s k i K n)))
 |x (k i K n c:Nat) (E:Bool) (h:n=0):lC (.v (.c (.sx k i K n c E)))
theorem lC.read {σ:Nat->Option bM} {T:Nat->Prop} {w:World} {v:AV} (h:lC v) {x:Value} (hx:eB σ T w v x):∃ A c,x=.slice A 0 c:=by
 cases h with
 |n=>exact ⟨_,_,bm.inv hx⟩
 |d K rows h=>
  have hx:bm T w (.r K rows) x:=hx
  cases hx with
  |nil A c=>exact ⟨_,_,rfl⟩
  |r=>exact ⟨_,_,by rw [h]⟩
 |s k i K n h=>
  subst h
  rcases hx with ⟨_,h⟩|⟨g,_,h,_⟩
  ·exact ⟨_,_,h⟩
  ·exact ⟨_,_,h⟩
 |x k i K n c E h=>
  subst h
  obtain ⟨g,off,_,h,_⟩:=hx
  exact ⟨_,_,h⟩
end
theorem nU {l:List (Nat×AV)} {x k i K n n':Nat} (h:look l x=some (.v (.c (.s k i K n)))) (hn:n=n'):look l x=some (.v (.c (.s k i K n'))):=by rw [h,hn]
end
section
theorem my {a:Int}:Value.int .u8 (IntKind.u8.wrap a)=.int .u8 (a % 256):=by
 have:IntKind.u8.wrap a=a % 256:=by simp [IntKind.wrap,IntKind.bits,IntKind.signed]
 rw [this]
def nI (l:List Int):ByteArray:=l.foldl (fun r n=>r.push (UInt8.ofNat n.toNat)) ByteArray.empty
def xo (a b:List Int):Bool:=(nI a).toList==(nI b).toList
theorem sf (a:List Int):xo a a=true:=by unfold xo;exact beq_self_eq_true _
section
variable {P:Program} {st:aJ} {o:Oper}
theorem DB {xt yt:TypeId} {x y:Operand} {k:IntKind} {a b r:Int} (ho:o.op=.binOp .shr xt x y yt) (hx:ev st x (.v (.c (.d (.v (.int k a)))))) (hy:ev st y (.v (.c (.d (.v (.int .i64 b))))))
  (h0:0<=b/\b<=64) (hk:k=.i64) (hr:a / 2 ^ b.toNat=r):aE P o st (.v (.c (.d (.v (.int k r))))) [] []:=
 aE.val fun σ T ac w C=>by
  have h1:=bm.inv (bD C hx)
  have h2:=bm.inv (bD C hy)
  subst hr hk
  refine ⟨_,?_,bm.v _ rfl⟩
  unfold execOp
  have h3:=shift_shr .i64 .i64 a b h0.1 (by simpa [IntKind.bits] using h0.2)
  simp [ho,h1,h2,binOp,eqGuard,h3]
theorem xU {T:Nat->Prop} {w:World} {a:Addr} {l:List Int} {vs:List Value} (h:Flat T w 1 (l.map kO) a vs):vs=l.map (Value.int .u8):=by
 have hl:=h.len
 rw [List.length_map,Nat.mul_one] at hl
 refine List.ext_getElem? fun j=>?_
 by_cases hj:j < l.length
 ·have hr:(l.map kO)[j]?=some (kO l[j]):=bf (List.getElem?_eq_getElem hj)
  obtain ⟨u,hu,hrel⟩:=(h.mO.2 j _ hr).2 0 (.v (.int .u8 l[j])) rfl
  rw [Nat.mul_one,Nat.add_zero] at hu
  rw [hu,bm.inv hrel,List.getElem?_map,List.getElem?_eq_getElem hj]
  rfl
 ·rw [List.getElem?_eq_none (by omega),List.getElem?_eq_none (by rw [List.length_map];omega)]
theorem mg.Ek {v:AV} {K m:Nat} {ys:List (List D)} (h:mg st v K 0 m ys):lC v:=by
 cases h with
 |d hl=>exact .d _ _ hl
 |s=>exact .s _ _ _ _ rfl
 |x=>exact .x _ _ _ _ _ _ rfl
theorem qT {sT dT eT:TypeId} {x:Operand} {v:AV} {n:Nat} {l:List Int} (ho:o.op=.convert sT dT x) (hs:P.underlying sT=some (.slice eT)) (he:P.underlying eT=some (.int .u8)) (hd:P.underlying dT=some .string)
  (hx:ev st x v) (hsrc:mg st v 1 n n (l.map kO)) (hl:l.length=n):aE P o st (.v (.c (.d (.v (.string (nI l)))))) [] []:=
 aE.val fun σ T ac w C=>by
  have hxv:=bD C hx
  refine ⟨.string (nI l),?_,bm.v _ rfl⟩
  unfold execOp
  by_cases h0:n=0
  ·subst h0
   obtain rfl:=List.eq_nil_of_length_eq_zero hl
   obtain ⟨A,c,hA⟩:=hsrc.Ek.read hxv
   have hcv:=run_convert_bytes_string (P:=P) w sT dT eT A 0 c hs he hd
   have h9:(Conv.bytesToString (.slice A 0 c)).run P w=.ok (.string (nI [])) w:=by
    cases A with
    |none=>rfl
    |some a=>exact run_bytesToString w a 0 c [] (run_loadCells_list (P:=P) w a [] (fun j v hj=>by simp at hj))
   simp [ho,hA,hcv,h9]
  ·obtain ⟨hyl,b,off,c,vs,hv,hf⟩:=hsrc.read C (by decide) (.inl (by omega)) hxv
   have hvs:=xU hf
   have hld:=kI (P:=P) hf
   rw [hyl,Nat.mul_one,hvs] at hld
   have hcv:=run_convert_bytes_string (P:=P) w sT dT eT (some ⟨b,off,none⟩) n c hs he hd
   have h9:=run_bytesToString (P:=P) w ⟨b,off,none⟩ n c l hld
   simp only [ho,hv]
   simp [hcv,h9,nI]
theorem AY {t yt:TypeId} {x y:Operand} {a b:List Int} (ho:o.op=.binOp .neq t x y yt) (hx:ev st x (.v (.c (.d (.v (.string (nI a))))))) (hy:ev st y (.v (.c (.d (.v (.string (nI b))))))):aE P o st (.v (.c (.d (.v (.bool (!xo a b)))))) [] []:=
 aE.val fun σ T ac w C=>by
  have h1:=bm.inv (bD C hx)
  have h2:=bm.inv (bD C hy)
  refine ⟨_,?_,bm.v _ rfl⟩
  unfold execOp
  simp [ho,h1,h2,binOp,eqGuard,Op.stringOp,xo]
end
end
section
def jZ:Op->Bool
 |.defer _=>true
 |_=>false
theorem vI {n l:Nat} {P:Program} {row:String} {args:Array Value} {w:World} {R:Value->World->Prop} (h:Go.Rows P row args w R):RowsIn (Fence.wide.inRound l) n P row args w R:=fun c cs _=>by
 obtain ⟨v,w',h1,h2⟩:=h c cs
 exact ⟨v,w',h1,stepsIn_wide.2 h2⟩
section
variable {P:Program} {l n:Nat}
theorem Dl {o:Oper} {a:Go.Act} {w:World} {K:Go.Act->World->Prop} {Q:Exit->Go.Act->World->Prop} (hd:jZ o.op=false) (hQ:¬LetsOut Q) (h:o.wp P a w K Q\/(o.asks P a w/\LetsOut Q)):o.wpIn (Fence.wide.inRound l) n P a w K Q:=by
 have h:=h.resolve_right fun h=>hQ h.2
 have hd':∀ c,o.op≠.defer c:=fun c hc=>by rw [hc] at hd;cases hd
 refine ⟨fun f _=>trivial,?_⟩
 rw [Fence.inRound_round,Oper.semAt_some l _ o hd']
 unfold Oper.wp at h
 generalize (execOp a.eval o).run P w=r at h
 cases r with
 |ok x w'=>
  cases x<;>simp only [Oper.upon,Oper.uponIn] at h ⊢<;>
   first
    |exact h
    |exact h.elim
    |exact ⟨fun h=>(by cases h),callsIn_wide.2 h⟩
    |exact ⟨fun h=>(by cases h),vI h⟩
 |halt x w'=>cases x<;>simp only [Oper.upon,Oper.uponIn] at h ⊢<;>exact h
theorem rZ {ops:Array Oper} {Q:Exit->Go.Act->World->Prop} (hQ:¬LetsOut Q):∀ (k:List Oper) (a:Go.Act) (w:World),(k.all fun o=>!jZ o.op)=true->wpList P ops Q k a w->wpListIn (Fence.wide.inRound l) n P ops Q k a w
 |[],a,w,_,h=>h
 |o::k,a,w,hd,h=>by
  simp only [List.all_cons,Bool.and_eq_true,Bool.not_eq_true'] at hd
  have ih:=rZ (ops:=ops) hQ k
  unfold wpList at h
  unfold wpListIn
  split at h
  ·rename_i hw
   rw [if_pos hw]
   exact Dl hd.1 hQ (h.imp (fun h=>ib h fun a w hk=>ih a w hd.2 hk) id)
  ·rename_i hw
   rw [if_neg hw]
   exact ⟨fun _ _=>trivial,ih _ _ hd.2 h⟩
theorem Ck {ops:Array Oper} {Q:Exit->Go.Act->World->Prop} (hQ:¬LetsOut Q) (hd:(ops.toList.all fun o=>!jZ o.op)=true) {i:Nat} {K K':Go.Act->World->Prop} {a:Go.Act} {w:World} (hK:∀ a w,K a w->K' a w) (h:wpOp P ops Q i K a w):wpOpIn (Fence.wide.inRound l) n P ops Q i K' a w:=by
 unfold wpOp at h
 unfold wpOpIn
 cases ho:ops[i]? with
 |none=>simp only [ho] at h ⊢;exact hK _ _ h
 |some o=>
  simp only [ho] at h ⊢
  have hdo:jZ o.op=false:=by
   have:=List.all_eq_true.1 hd o (Array.mem_toList_iff.2 (Array.mem_of_getElem? ho))
   simpa using this
  split
  ·rename_i hw
   simp only [hw,if_true] at h
   exact Dl hdo hQ (h.imp (fun h=>ib h hK) id)
  ·rename_i hw
   simp only [hw] at h
   exact ⟨fun _ _=>trivial,hK _ _ h⟩
theorem tP {md:Region.Mode} {ops:Array Oper} {Q:Exit->Go.Act->World->Prop} (hQ:¬LetsOut Q) (hd:(ops.toList.all fun o=>!jZ o.op)=true):∀ (fuel:Nat) (listed:Array Bool) (a:Go.Act) (w:World),wpAny P md ops Q fuel listed a w->wpAnyIn (Fence.wide.inRound l) n P md ops Q fuel listed a w
 |0,_,_,_,h=>h
 |fuel+1,listed,a,w,h=>by
  unfold wpAny at h
  unfold wpAnyIn
  exact ⟨h.1,fun i hi=>Ck hQ hd (fun a w hk=>tP hQ hd fuel _ a w hk) (h.2 i hi)⟩
end
section
variable {P:Program} {l n:Nat} {W0:World} {F:Nat->Prop} {N:NT} {T0:Nat->Prop} {pin:List (Nat×bM)} {Q:Exit->aJ->Prop} {st:aJ}
def lU (P:Program) (l n:Nat) (W0:World) (F:Nat->Prop) (N:NT) (T0:Nat->Prop) (pin:List (Nat×bM)) (Q:Exit->aJ->Prop) (c:Code) (st:aJ):Prop:=
 (∀ st,¬Q .outgrown st)->∀ a w,Inv W0 F N T0 pin st a w->c.wpIn (Fence.wide.inRound l) n P (QX W0 F N T0 pin Q) a w
theorem za (hq:∀ st,¬Q .outgrown st):¬LetsOut (QX W0 F N T0 pin Q):=fun ⟨_,_,st,h,_⟩=>hq st h
theorem Hb {x y:Code} (h:lU P l n W0 F N T0 pin (iF (lU P l n W0 F N T0 pin Q y) Q) x st):lU P l n W0 F N T0 pin Q (.seq x y) st:=fun hq a w hI=>
 wpIn_seq (Code.wpIn_mono (fun e a w q=>by
  obtain ⟨st',hq',hi⟩:=q
  cases e<;>first|exact hq' hq a w hi|exact ⟨st',hq',hi⟩) (h hq a w hI))
theorem FP {id:Nat} {c:Code} (h:lU P l n W0 F N T0 pin (ik id Q) c st):lU P l n W0 F N T0 pin Q (.block id c) st:=fun hq a w hI=>
 wpIn_block (Code.wpIn_mono (fun e a w q=>by
  obtain ⟨st',hq,hi⟩:=q
  cases e<;>try exact ⟨st',hq,hi⟩
  rename_i id'
  simp only [Exit.inBlock]
  by_cases hid:id'=id
  ·rw [if_pos hid];subst hid;exact ⟨st',by simpa [ik] using hq,hi⟩
  ·rw [if_neg hid];exact ⟨st',by simpa [ik,hid] using hq,hi⟩) (h hq a w hI))
theorem FJ {id:Nat} {k:List Oper} (hd:(k.all fun o=>!jZ o.op)=true) (h:AL P W0 F N T0 pin k.toArray Q k st):lU P l n W0 F N T0 pin Q (.region id k.toArray false) st:=fun hq a w hI=>
 wpIn_region_lit (rZ (za hq) k a w hd (h a w hI))
theorem GY {st':aJ} {c:Code} (hw:aH pin st st') (h:lU P l n W0 F N T0 pin Q c st'):lU P l n W0 F N T0 pin Q c st:=fun hq a w hI=>h hq a w (hw _ _ _ _ a w hI)
theorem GZ {id:Nat} {k:List Oper} (hd:(k.all fun o=>!jZ o.op)=true) (aS:List bC) (fin:aJ) (hm:P.follows .mixedOrders=true) (hB:oR k.toArray aS N.1 st fin=true) (hrows:iZ P k.toArray aS k) (hsee:kC st aS aS) (hfin:tO st aS fin)
  (h:AL P W0 F N T0 pin k.toArray Q (k.drop aS.length) fin):lU P l n W0 F N T0 pin Q (.region id k.toArray true) st:=fun hq a w hI=>
 wpIn_region_any hm (tP (za hq) (by simpa using hd) _ _ _ _ (pH aS fin hm hB hrows hsee hfin h a w hI))
end
end
section
structure kY (m:Bool) (W W':World):Prop where
 size:W.heap.size<=W'.heap.size
 cells:∀ (b:Nat) (o:Obj),W.heap[b]?=some o->o.isCells=true->W'.heap[b]?=some o
 maps:m=true->∀ (b:Nat) ms c,W.heap[b]?=some (.map ms c)->W'.heap[b]?=some (.map ms c)
theorem kY.cell {m:Bool} {W W':World} (K:kY m W W') {a:Addr} {v:Value} (h:W.cell? a=some v):W'.cell? a=some v:=by
 obtain ⟨o,ho,hc⟩:=cells_of_cell h
 exact (World.cell?_of_block ((K.cells _ _ ho hc).trans ho.symm)).trans h
theorem bm.cM {m:Bool} {T:Nat->Prop} {W W':World} (K:kY m W W') {d:D} {v:Value} (h:bm T W d v):bm T W' d v:=by
 induction h with
 |v x hx=>exact .v x hx
 |nil k A c=>exact .nil k A c
 |r k rows b off c cs hb hT hc hm hK dY hd ih=>exact .r k rows b off c cs (Nat.lt_of_lt_of_le hb K.size) hT hc hm hK (fun i row j d h1 h2=>K.cell (dY i row j d h1 h2)) ih
 |f fn bd bs iC cs hb dY hd ih=>exact .f fn bd bs iC cs (fun i hi=>⟨Nat.lt_of_lt_of_le (hb i hi).1 K.size,(hb i hi).2⟩) (fun i row j d h1 h2=>K.cell (dY i row j d h1 h2)) ih
theorem cQ.cM {m:Bool} {σ:Nat->Option bM} {T:Nat->Prop} {W W':World} (K:kY m W W') {c:CV} {v:Value} (h:cQ σ T W c v):cQ σ T W' c v:=by
 cases c with
 |any=>trivial
 |d x=>exact bm.cM K h
 |p=>exact h
 |q row o=>
  obtain ⟨b,off,h1,h2,h3,h4⟩:=h
  exact ⟨b,off,h1,Nat.lt_of_lt_of_le h2 K.size,h3,fun j d hj=>by obtain ⟨u,hu,hr⟩:=h4 j d hj;exact ⟨u,K.cell hu,hr.cM K⟩⟩
 |s=>exact h
 |sx=>exact h
 |m=>exact h
 |fn=>exact h
theorem dh.cM {m:Bool} {σ:Nat->Option bM} {T:Nat->Prop} {W W':World} (K:kY m W W') {g:GV} {v:Value} (h:dh σ T W g v):dh σ T W' g v:=by
 cases g with
 |c x=>exact cQ.cM K h
 |g xs=>obtain ⟨vs,h1,h2⟩:=h;exact ⟨vs,h1,h2.mono fun _ _ hh=>cQ.cM K hh⟩
theorem eB.cM {m:Bool} {σ:Nat->Option bM} {T:Nat->Prop} {W W':World} (K:kY m W W') {x:AV} {v:Value} (h:eB σ T W x v):eB σ T W' x v:=by
 cases x with
 |v x=>exact dh.cM K h
 |t xs=>obtain ⟨vs,h1,h2⟩:=h;exact ⟨vs,h1,h2.mono fun _ _ hh=>dh.cM K hh⟩
def qO:AB->Bool
 |.map _ _=>true
 |_=>false
theorem dg.cM {m:Bool} {σ:Nat->Option bM} {T:Nat->Prop} {W W':World} (K:kY m W W') {og:Option bM} {b:AB} (hb:m=true\/qO b=false) (h:dg σ T W og b):dg σ T W' og b:=by
 cases b with
 |box t cs=>obtain ⟨g,vs,h1,h2,h3,h4⟩:=h;exact ⟨g,vs,h1,h2,K.cells _ _ h3 rfl,h4.mono fun _ _ hh=>cQ.cM K hh⟩
 |arr t k rows=>
  obtain ⟨h0,h|⟨g,vs,h1,h2,h3,h4,h5,h6⟩⟩:=h
  ·exact ⟨h0,.inl h⟩
  ·exact ⟨h0,.inr ⟨g,vs,h1,h2,K.cells _ _ h3 rfl,h4,h5,h6.1,fun i row hr=>⟨(h6.2 i row hr).1,fun j d hj=>by obtain ⟨u,hu,hd⟩:=(h6.2 i row hr).2 j d hj;exact ⟨u,hu,hd.cM K⟩⟩⟩⟩
 |map es c=>
  obtain ⟨g,ms,h1,h2,h3,h4⟩:=h
  have hm:m=true:=hb.resolve_right (by simp [qO])
  exact ⟨g,ms,h1,h2,K.maps hm _ _ _ h3,h4⟩
def uA (st:aJ):Bool:=st.h.all fun x=>!qO x.2
theorem vN {st:aJ} (h:uA st=true) {k:Nat} {b:AB} (hk:look st.h k=some b):qO b=false:=by
 have:=List.all_eq_true.1 h _ (bL hk)
 simpa using this
section
variable {W0:World} {F:Nat->Prop} {N:NT} {T0:Nat->Prop} {pin:List (Nat×bM)} {st:aJ} {a:Go.Act} {W:World}
theorem Inv.cM {m:Bool} {W':World} (hI:Inv W0 F N T0 pin st a W) (K:kY m W W') (hm:m=true\/uA st=true) (hos:W'.os=W.os) (htp:W'.tape=W.tape) (hout:W'.output=W.output) (hold:∀ b,b < W0.heap.size->W'.heap[b]?=W.heap[b]?):Inv W0 F N T0 pin st a W':=by
 obtain ⟨σ,T,hT,S,hp⟩:=hI
 refine ⟨σ,T,hT,⟨⟨fun i v h=>(S.core.fm i v h).cM K,fun k b h=>dg.cM K (hm.imp id fun h'=>vN h' h) (S.core.heap k b h),S.core.inj,fun b h=>Nat.lt_of_lt_of_le (S.core.er b h) K.size⟩,hos.trans S.os,htp.trans S.tape,hout.trans S.output,Nat.le_trans S.size K.size,fun b hb hF=>(hold b hb).trans (S.cF b hb hF),S.own,S.next,S.hn,S.jt,S.iX⟩,hp⟩
theorem rH {W':World} {row:Option Nat} (hg:W.grownBy W' row) (hr:∀ r,row=some r->∃ o:Obj,W.heap[r]?=some o/\o.isCells=false):kY false W W':=
 ⟨hg.size,fun b o ho hc=>(grownBy_keeps_cells hg hr ho hc).trans ho,fun h=>by cases h⟩
theorem Inv.own (hm:uA st=true) {W':World} {row:Option Nat} (hI:Inv W0 F N T0 pin st a W) (hg:W.grownBy W' row) (hr:∀ r,row=some r->W0.heap.size<=r/\∃ o:Obj,W.heap[r]?=some o/\o.isCells=false):Inv W0 F N T0 pin st a W':=by
 have hsz:W0.heap.size<=W.heap.size:=by obtain ⟨_,_,_,S,_⟩:=hI;exact S.size
 refine hI.cM (rH hg fun r e=>(hr r e).2) (.inr hm) hg.os hg.tape hg.output fun b hb=>hg.block b (by omega) ?_
 intro e
 have:=(hr b e.symm).1
 omega
theorem bm.cF {σ:Nat->Option bM} {T:Nat->Prop} (hF:∀ b,F b->T0 b) (hT:∀ b,b < W0.heap.size->(T b->T0 b)/\(T0 b->T b)) (S:rn W0 F N σ T st a W) {d:D} {v:Value} (h:bm T0 W0 d v):bm T W d v:=by
 have cell:∀ b o u,b < W0.heap.size->¬T0 b->W0.cell? ⟨b,o,none⟩=some u->W.cell? ⟨b,o,none⟩=some u:=fun b o u hb hn hc=>
  (cell_of_heap (S.cF b hb fun h=>hn (hF b h)) o).trans hc
 induction h with
 |v x hx=>exact .v x hx
 |nil k A c=>exact .nil k A c
 |r k rows b off c cs hb hn hc hm hK dY hd ih=>exact .r k rows b off c cs (Nat.lt_of_lt_of_le hb S.size) (fun h=>hn ((hT b hb).1 h)) hc hm hK (fun i row j d h1 h2=>cell _ _ _ hb hn (dY i row j d h1 h2)) ih
 |f fn bd bs iC cs hb dY hd ih=>exact .f fn bd bs iC cs (fun i hi=>⟨Nat.lt_of_lt_of_le (hb i hi).1 S.size,fun h=>(hb i hi).2 ((hT _ (hb i hi).1).1 h)⟩) (fun i row j d h1 h2=>by
   have hi:=(List.getElem?_eq_some_iff.1 h1).1
   exact cell _ _ _ (hb i hi).1 (hb i hi).2 (dY i row j d h1 h2)) ih
def EM (P:Program) (W0:World) (F:Nat->Prop) (N:NT) (T0:Nat->Prop) (pin:List (Nat×bM)) (Qf:Exit->Go.Act->World->Prop) (c:Code) (st:aJ):Prop:=∀ a w,Inv W0 F N T0 pin st a w->c.wp P Qf a w
def XQ (W0:World) (F:Nat->Prop) (N:NT) (T0:Nat->Prop) (pin:List (Nat×bM)) (Qf:Exit->Go.Act->World->Prop):Exit->aJ->Prop:=fun e st=>∀ a w,Inv W0 F N T0 pin st a w->Qf e a w
theorem EM.seq {P:Program} {Qf:Exit->Go.Act->World->Prop} {x y:Code} (h:AC P W0 F N T0 pin (iF (EM P W0 F N T0 pin Qf y) (XQ W0 F N T0 pin Qf)) x st):EM P W0 F N T0 pin Qf (.seq x y) st:=fun a w hI=>
 wp_seq (Code.wp_mono (fun e a w q=>by
  obtain ⟨st',hq,hi⟩:=q
  cases e<;>exact hq a w hi) (h a w hI))
end
end
section
def yu (nb:List (Nat×AB)) (c d:CV):Prop:=(∃ x,c=.d x/\d=.d x)\/∃ k t K n rows,c=.s k 0 K n/\d=.d (.r K rows)/\look nb k=some (.arr t K rows)/\rows.length=n
def yr (nb:List (Nat×AB)):GV->GV->Prop
 |.c c,.c d=>yu nb c d
 |.g cs,.g ds=>cc (yu nb) cs ds
 |_,_=>False
def EJ (nb:List (Nat×AB)):AV->AV->Prop
 |.v c,.v d=>yr nb c d
 |.t cs,.t ds=>cc (yr nb) cs ds
 |_,_=>False
theorem cc.comp {α β γ:Type} {R:α->β->Prop} {S:α->γ->Prop} {U:β->γ->Prop} (h:∀ x y z,R x y->S x z->U y z):∀ {xs:List α} {ys:List β} {zs:List γ},cc R xs ys->cc S xs zs->cc U ys zs
 |[],[],[],_,_=>trivial
 |_::_,_::_,_::_,h1,h2=>⟨h _ _ _ h1.1 h2.1,cc.comp h h1.2 h2.2⟩
 |[],[],_::_,_,h2=>h2.elim
 |[],_::_,_,h1,_=>h1.elim
 |_::_,[],_,h1,_=>h1.elim
 |_::_,_::_,[],_,h2=>h2.elim
theorem Fn.frozen {P:Program} {f:FuncId} {ins:List GV} {av av':AV} {nb:List (Nat×AB)} (h:Fn P f ins av nb) (hf:EJ nb av av'):Fn P f ins av' []:=by
 intro T w args hT bO
 refine (h T w args hT bO).mono ?_
 rintro e w' ⟨v,σ,T',he,hB,R⟩
 have hlow:∀ b,(T' b/\b < w.heap.size)->T' b:=fun b h=>h.1
 have hc:∀ c d u,yu nb c d->cQ σ T' w' c u->cQ (fun _=>none) (fun b=>T' b/\b < w.heap.size) w' d u:=by
  rintro c d u (⟨x,rfl,rfl⟩|⟨k,t,K,n,rows,rfl,rfl,hk,hn⟩) hu
  ·exact bm.fu hlow hu
  ·have hh:=R.heap k _ (bL hk)
   obtain ⟨hK,hh⟩:=hh
   rcases hu with ⟨h0,rfl⟩|⟨g,hg,rfl,hcap,hmax⟩
   ·subst h0
    have:rows=[]:=List.eq_nil_of_length_eq_zero hn
    subst this
    exact bm.nil _ _ _
   ·rcases hh with ⟨h1,h2⟩|⟨g',vs,h1,h2,h3,h4,h5,h6⟩
    ·rw [hg] at h2;cases h2
    ·rw [hg] at h1;injection h1 with h1;subst h1
     have hfr:=R.fresh k _ g (bL hk) hg
     have:=bm.r (T:=fun b=>T' b/\b < w.heap.size) (w:=w') K rows g.g (0 * K) (g.c - 0) (fun i j=>(vs[i * K+j]?).getD undef) (R.er _ h2) (fun hb=>by have:=hb.2;omega) (by omega) (by omega) (fun i row hr=>(h6.2 i row hr).1) (fun i row j d hr hd=>?_) (fun i row j d hr hd=>?_)
     ·rw [hn] at this;exact this
     ·obtain ⟨u,hu,_⟩:=(h6.2 i row hr).2 j d hd
      rw [Nat.zero_mul,Nat.zero_add,cell_of_row w' g.g (i * K+j) _ _ (0,0) h3]
      simp only [List.getElem?_toArray,hu,Option.getD_some]
     ·obtain ⟨u,hu,hr'⟩:=(h6.2 i row hr).2 j d hd
      simp only [hu,Option.getD_some]
      exact hr'.fu hlow
 have hgv:∀ c d u,yr nb c d->dh σ T' w' c u->dh (fun _=>none) (fun b=>T' b/\b < w.heap.size) w' d u:=by
  intro c d u hcd hu
  match c,d,hcd with
  |.c c,.c d,hcd=>exact hc c d u hcd hu
  |.g cs,.g ds,hcd=>obtain ⟨vs,h1,h2⟩:=hu;exact ⟨vs,h1,cc.comp (fun x y z h1 h2=>hc x y z h1 h2) hcd h2⟩
 refine ⟨v,fun _=>none,fun b=>T' b/\b < w.heap.size,he,hB,?_,fun b hb h=>R.kP b hb h.1,fun b h=>⟨R.lS b h,hT b h⟩,fun b h=>R.er b h.1,(fun _ _ h=>by cases h),(fun _ _ _ h=>by cases h),(fun _ _ _ _ _ _ h=>by cases h)⟩
 have hr:=R.rel
 match av,av',hf with
 |.v c,.v d,hf=>exact hgv c d v hf hr
 |.t cs,.t ds,hf=>obtain ⟨vs,h1,h2⟩:=hr;exact ⟨vs,h1,cc.comp (fun x y z h1 h2=>hgv x y z h1 h2) hf h2⟩
def fo (x:Nat->Value):Nat->List (Option CV)->List CV
 |_,[]=>[]
 |i,some c::l=>c::fo x (i+1) l
 |i,none::l=>.d (.v (x i))::fo x (i+1) l
def jB:List CV->List (Option CV)->List CV
 |_::cs,some d::l=>d::jB cs l
 |c::cs,none::l=>c::jB cs l
 |_,_=>[]
def yp:CV->Bool
 |.any=>true
 |_=>false
section
variable {P:Program} {st:aJ} {o:Oper}
theorem xT {f:FuncId} {c:Call} {ins:List GV} {bO:List (Nat×AB)} {cM:List Nat} {av av':AV} {nb nb':List (Nat×AB)} {EE:List Nat} {p:D->Prop} {σ:Nat->Option bM} {T:Nat->Prop} {a:Go.Act} {w:World} (C:Core σ T st a w) (ρ μ:Nat->Nat) (E:List Nat) (hF:cJ P f ins bO cM av nb) (hen:bg P f) (ho:o.op=.call c) (hc:c.callee=.value (.func f))
  (hargs:pG st E ρ (bp bO) c.args.toList ins) (hheap:dn (fun x=>(∃ b,look st.h (ρ x.1)=some b)/\dg σ T w (σ (ρ x.1)) (x.2.map' ρ)) bO) (hokin:bO.all (fun x=>x.2.ok (bp bO))=true) (hinj:ef ((keys bO).map ρ)=true) (hE:bO.all (fun x=>!dH (ρ x.1) E)=true) (hEl:E.all (fun e=>bp st.h e)=true)
  (hkeep:∀ k∈cM,oW bO k) (hEE:(keys bO).map ρ=EE) (hμ:ef ((keys nb).map μ)=true) (hμk:(keys nb).all (fun k=>(dH k cM && Nat.beq (μ k) (ρ k))||(!dH k cM && !dH (μ k) EE))=true)
  (hg:av.ec p) (hgb:dn (fun x=>x.2.ec p) nb) (hok:av.ok (bp nb)=true) (hokb:nb.all (fun x=>x.2.ok (bp nb))=true) (hav:av.map μ=av') (hnb:fM μ nb=nb')
  (hD:∀ (σ:Nat->Option bM) (T Tc T':Nat->Prop) (w':World) d v,(∀ b,T' b->T b\/Tc b)->(∀ b,fz σ T E b->Tc b)->p d->bm Tc w' d v->bm T' w' d v):(∀ k b,(k,b)∈nb'->k ∉ EE->σ k=none)->o.wp P a w (fun a' w'=>∃ u σ' T',a'=a.put o.dst u/\Ext σ T w σ' T' w' nb' EE/\eB σ' T' w' av' u) wH:=by
 intro hnew
 subst hav hnb hEE
 have hinj':=lM hinj
 have hin_mem:∀ k,bp bO k=true->k∈keys bO:=fun k hk=>by
  obtain ⟨b,hb⟩:=gb hk
  exact List.mem_map.2 ⟨(k,b),hb,rfl⟩
 have mem_in:∀ k,k∈keys bO->bp bO k=true:=fun k hk=>by
  obtain ⟨x,hx,rfl⟩:=List.mem_map.1 hk
  exact cS (b:=x.2) hx
 let σc:Nat->Option bM:=fun k=>if bp bO k=true then σ (ρ k) else none
 have hσc:∀ k,bp bO k=true->σc k=σ (ρ k):=fun k hk=>if_pos hk
 let Tc:=fz σ T E
 have hlow:∀ b,Tc b->T b:=fun b h=>h.1
 have hsep:∀ k b g,(k,b)∈bO->σ (ρ k)=some g->Tc g.g:=by
  intro k b g hk hg
  refine ⟨(hheap.mem _ hk).2.nz hg,fun e he g' hg' hgg=>?_⟩
  obtain ⟨b',hb'⟩:=gb (List.all_eq_true.1 hEl e he)
  have hb':∃ b',look st.h e=some b':=by
   have:=List.all_eq_true.1 hEl e he
   cases hl:look st.h e with
   |none=>simp [bp,hl] at this
   |some b'=>exact ⟨b',rfl⟩
  obtain ⟨b',hb'⟩:=hb'
  obtain ⟨bk,hbk⟩:=(hheap.mem _ hk).1
  have heq:=C.inj e (ρ k) b' bk g' g hb' hbk hg' hg hgg
  have:=List.all_eq_true.1 hE _ hk
  simp only [Bool.not_eq_true'] at this
  rw [<-heq,eD.2 he] at this
  cases this
 have hh:∀ k b,(k,b)∈bO->dg σc Tc w (σc k) b:=by
  intro k b hk
  have hkin:=cS hk
  rw [hσc k hkin]
  refine dg.fu hlow (fun g hg _=>hsep k b g hk hg) ?_
  exact dg.bS (ρ:=ρ) hσc (hheap.mem _ hk).2 (List.all_eq_true.1 hokin _ hk)
 have hij:∀ k k' b b' g g',(k,b)∈bO->(k',b')∈bO->σc k=some g->σc k'=some g'->g.g=g'.g->k=k':=by
  intro k k' b b' g g' hk hk' hg hg' hgg
  rw [hσc k (cS hk)] at hg
  rw [hσc k' (cS hk')] at hg'
  obtain ⟨b1,hb1⟩:=(hheap.mem _ hk).1
  obtain ⟨b2,hb2⟩:=(hheap.mem _ hk').1
  exact hinj' k k' (hin_mem _ (cS hk)) (hin_mem _ (cS hk')) (C.inj _ _ _ _ g g' hb1 hb2 hg hg' hgg)
 have hkp:∀ k∈cM,bp bO k=true/\∃ g,σ (ρ k)=some g:=by
  intro k hk
  rcases hkeep k hk with this|⟨t,K,rows,hl,hpos⟩
  ·unfold np at this
   cases hl:look bO k with
   |none=>simp [hl] at this
   |some b=>
    cases b with
    |box t cs=>
     refine ⟨by simp [bp,hl],?_⟩
     obtain ⟨g,_,h1,_⟩:=(hheap.mem _ (bL hl)).2
     exact ⟨g,h1⟩
    |arr=>simp [hl] at this
    |map=>simp [hl] at this
  ·refine ⟨by simp [bp,hl],?_⟩
   obtain ⟨_,h1|⟨g,_,h1,_⟩⟩:=(hheap.mem _ (bL hl)).2
   ·obtain ⟨h1,_⟩:=h1
    rw [h1] at hpos;cases hpos
   ·exact ⟨g,h1⟩
 have hrel:cc (dh σc Tc w) ins (c.args.map a.eval).toList:=by
  rw [Array.toList_map]
  have gen:∀ (xs:List Operand) (ys:List GV),pG st E ρ (bp bO) xs ys->cc (dh σc Tc w) ys (xs.map a.eval):=by
   intro xs
   induction xs with
   |nil=>intro ys h;cases ys with
    |nil=>trivial
    |cons=>exact h.elim
   |cons x xs ih=>
    intro ys h
    cases ys with
    |nil=>exact h.elim
    |cons y ys=>
     refine ⟨?_,ih ys h.2⟩
     obtain ⟨g,h1,h2|h2⟩:=h.1
     ·obtain ⟨h2,h3⟩:=h2
      subst h2
      exact dh.fu hlow (dh.bS (ρ:=ρ) hσc (x:=y) (bD C h1) h3)
     ·exact dh.up (h2.rel C (bD C h1))
  exact gen _ _ hargs
 refine mm ho hc hen ((hF Tc σc w _ (fun b h=>C.er b h.1) hh hij (fun k hk=>?_) hrel).mono ?_)
 ·obtain ⟨h1,g,h2⟩:=hkp k hk
  exact ⟨g,by rw [hσc k h1,h2]⟩
 rintro e w' ⟨v,σ',T',rfl,R⟩
 let T2:Nat->Prop:=fun b=>T b\/T' b
 let σ2:=pull μ σ' σ (keys nb)
 have hμ':=lM hμ
 have hσ2:∀ k,bp nb k=true->σ2 (μ k)=σ' k:=fun k hk=>by
  obtain ⟨b,hb⟩:=gb hk
  exact mT hμ' (List.mem_map.2 ⟨(k,b),hb,rfl⟩)
 have hD':∀ d v,p d->bm T' w' d v->bm T2 w' d v:=fun d v=>hD σ T T' T2 w' d v (fun b h=>h) R.lS
 have hmem:∀ k b,(k,b)∈fM μ nb->∃ k0 b0,(k0,b0)∈nb/\k=μ k0/\b=b0.map' μ:=by
  intro k b h
  obtain ⟨⟨k0,b0⟩,h1,h2⟩:=List.mem_map.1 h
  injection h2 with h2 h3
  exact ⟨k0,b0,h1,h2.symm,h3.symm⟩
 have hcase:∀ k∈keys nb,(k∈cM/\μ k=ρ k)\/(k ∉ cM/\μ k ∉ (keys bO).map ρ):=by
  intro k hk
  have:=List.all_eq_true.1 hμk k hk
  simp only [Bool.or_eq_true,Bool.and_eq_true,Bool.not_eq_true'] at this
  rcases this with ⟨h1,h2⟩|⟨h1,h2⟩
  ·exact .inl ⟨eD.1 h1,Nat.eq_of_beq_eq_true h2⟩
  ·exact .inr ⟨fun h=>(Bool.eq_false_iff.1 h1) (eD.2 h),fun h=>(Bool.eq_false_iff.1 h2) (eD.2 h)⟩
 have C2:∀ b,(∃ k∈(keys bO).map ρ,∃ g,σ k=some g/\g.g=b)↔∃ k∈keys bO,∃ g,σc k=some g/\g.g=b:=by
  intro b
  constructor
  ·rintro ⟨k,hk,g,hg,hgb⟩
   obtain ⟨k0,hk0,rfl⟩:=List.mem_map.1 hk
   exact ⟨k0,hk0,g,by rw [hσc k0 (mem_in k0 hk0)];exact hg,hgb⟩
  ·rintro ⟨k,hk,g,hg,hgb⟩
   rw [hσc k (mem_in k hk)] at hg
   exact ⟨ρ k,List.mem_map.2 ⟨k,hk,rfl⟩,g,hg,hgb⟩
 refine ⟨v,rfl,v,σ2,T2,rfl,⟨R.os,R.tape,R.output,⟨R.size,fun b hb hno=>R.cF b hb fun k hk g hg hgb=>hno ((C2 b).2 ⟨k,hk,g,hg,hgb⟩),fun b hb=>?_,fun b hb h=>?_,fun j g hj=>?_⟩,fun b h=>.inl h,fun b h=>?_,fun j hj=>?_,?_,?_,?_⟩,R.rel.back hD' hσ2 hg hok⟩
 ·obtain ⟨k,hk,g,hg,rfl⟩:=hb
  obtain ⟨k0,hk0,rfl⟩:=List.mem_map.1 hk
  obtain ⟨x,hx,rfl⟩:=List.mem_map.1 hk0
  exact (hheap.mem x hx).2.nz hg
 ·rcases h with h|h
  ·exact h
  ·exact (R.kP b hb h).1
 ·show pull μ σ' σ (keys nb) j=some g
  by_cases hex:∃ k∈keys nb,μ k=j
  ·obtain ⟨k,hk,rfl⟩:=hex
   rw [mT hμ' hk]
   rcases hcase k hk with ⟨h1,h2⟩|⟨h1,h2⟩
   ·rw [R.kept k h1,hσc k (hkp k h1).1,<-h2];exact hj
   ·obtain ⟨x,hx,rfl⟩:=List.mem_map.1 hk
    have:=hnew (μ x.1) (x.2.map' μ) (List.mem_map.2 ⟨x,hx,rfl⟩) h2
    rw [this] at hj;cases hj
  ·rw [lI fun k hk e=>hex ⟨k,hk,e⟩];exact hj
 ·rcases h with h|h
  ·exact Nat.lt_of_lt_of_le (C.er b h) R.size
  ·exact R.er b h
 ·exact lI fun k hk e=>by
   obtain ⟨x,hx,rfl⟩:=List.mem_map.1 hk
   exact hj (x.2.map' μ) (List.mem_map.2 ⟨x,hx,by rw [e]⟩)
 ·intro k b h
  obtain ⟨k0,b0,h1,rfl,rfl⟩:=hmem k b h
  rw [hσ2 k0 (cS h1)]
  exact (R.heap k0 b0 h1).back hD' hσ2 (fun b h=>.inr h) (hgb.mem _ h1) (List.all_eq_true.1 hokb _ h1)
 ·intro k b g h hg
  obtain ⟨k0,b0,h1,rfl,rfl⟩:=hmem k b h
  rw [hσ2 k0 (cS h1)] at hg
  rcases R.fresh k0 b0 g h1 hg with h2|⟨e,he,g',hg',hgg⟩
  ·exact .inl h2
  ·exact .inr ((C2 g.g).2 ⟨e,he,g',hg',hgg⟩)
 ·intro k k' b b' g g' h h' hg hg' hgg
  obtain ⟨k0,b0,h1,rfl,rfl⟩:=hmem k b h
  obtain ⟨k1,b1,h2,rfl,rfl⟩:=hmem k' b' h'
  rw [hσ2 k0 (cS h1)] at hg
  rw [hσ2 k1 (cS h2)] at hg'
  rw [R.inj k0 k1 b0 b1 g g' h1 h2 hg hg' hgg]

theorem cQ.one {σ:Nat->Option bM} {T:Nat->Prop} {w:World} {c:CV} {v:Value} (h:cQ σ T w c v) (hc:yp c=false):v.oneCell'=true:=by
 cases c with
 |any=>cases hc
 |d x=>
  have h:bm T w x v:=h
  cases h with
  |v x hx=>exact hx
  |nil=>rfl
  |r=>rfl
  |f=>rfl
 |p=>obtain ⟨g,_,rfl⟩:=h;rfl
 |q=>obtain ⟨b,off,rfl,_⟩:=h;rfl
 |s=>
  rcases h with ⟨_,rfl⟩|⟨g,_,rfl,_⟩
  ·rfl
  ·rfl
 |sx=>obtain ⟨g,off,_,rfl,_⟩:=h;rfl
 |m=>obtain ⟨g,_,rfl⟩:=h;rfl
 |fn=>obtain ⟨gs,_,rfl⟩:=h;rfl
theorem uu {σ:Nat->Option bM} {T:Nat->Prop} {w:World} {ρ:Nat->Nat} {x:Nat->Value} (hx:∀ i,(x i).oneCell'=true):∀ {cs:List CV} {vs:List Value} {ms:List (Option CV)} {i:Nat},cs.length=ms.length->jB cs (ms.map (Option.map (CV.map ρ)))=cs->cc (cQ σ T w) cs vs->(∀ j v,vs[j]?=some v->ms[j]?=some none->x (i+j)=v)->
  cc (cQ σ T w) ((fo x i ms).map (CV.map ρ)) vs
 |[],[],[],_,_,_,_,_=>trivial
 |c::cs,v::vs,some d::ms,i,hl,hf,hr,hv=>by
  have hf:d.map ρ::jB cs (ms.map (Option.map (CV.map ρ)))=c::cs:=hf
  obtain ⟨h1,h2⟩:=List.cons.inj hf
  exact ⟨h1▸hr.1,uu hx (i:=i+1) (by simpa using hl) h2 hr.2 fun j v hj hm=>by
   have:=hv (j+1) v (by simpa using hj) (by simpa using hm)
   rwa [show i+(j+1)=i+1+j by omega] at this⟩
 |c::cs,v::vs,none::ms,i,hl,hf,hr,hv=>by
  have hf:c::jB cs (ms.map (Option.map (CV.map ρ)))=c::cs:=hf
  have h0:x i=v:=by simpa using hv 0 v rfl rfl
  refine ⟨?_,uu hx (i:=i+1) (by simpa using hl) (List.cons.inj hf).2 hr.2 fun j v hj hm=>by
   have:=hv (j+1) v (by simpa using hj) (by simpa using hm)
   rwa [show i+(j+1)=i+1+j by omega] at this⟩
  show bm T w (.v (x i)) v
  rw [h0]
  exact .v _ (h0▸hx i)
 |[],_::_,_,_,_,_,hr,_=>hr.elim
 |_::_,[],_,_,_,_,hr,_=>hr.elim
 |[],[],_::_,_,hl,_,_,_=>by simp at hl
 |_::_,_::_,[],_,hl,_,_,_=>by simp at hl
theorem rC {σ:Nat->Option bM} {T:Nat->Prop} {w:World} {μ:Nat->Nat} {x:Nat->Value}:∀ {cs:List CV} {us:List Value} {ms:List (Option CV)} {i:Nat},cs.length=ms.length->cc (cQ σ T w) ((fo x i ms).map (CV.map μ)) us->(∀ j c,cs[j]?=some c->ms[j]?=some none->cQ σ T w c (x (i+j)))->
  cc (cQ σ T w) (jB cs (ms.map (Option.map (CV.map μ)))) us
 |[],[],[],_,_,_,_=>trivial
 |c::cs,u::us,some d::ms,i,hl,hr,hv=>by
  have hr:cQ σ T w (d.map μ) u/\cc (cQ σ T w) ((fo x (i+1) ms).map (CV.map μ)) us:=hr
  exact ⟨hr.1,rC (i:=i+1) (by simpa using hl) hr.2 fun j c hj hm=>by
   have:=hv (j+1) c (by simpa using hj) (by simpa using hm)
   rwa [show i+(j+1)=i+1+j by omega] at this⟩
 |c::cs,u::us,none::ms,i,hl,hr,hv=>by
  have hr:bm T w (.v (x i)) u/\cc (cQ σ T w) ((fo x (i+1) ms).map (CV.map μ)) us:=hr
  refine ⟨?_,rC (i:=i+1) (by simpa using hl) hr.2 fun j c hj hm=>by
   have:=hv (j+1) c (by simpa using hj) (by simpa using hm)
   rwa [show i+(j+1)=i+1+j by omega] at this⟩
  rw [bm.inv hr.1]
  exact hv 0 c rfl rfl
 |[],us,_::_,_,hl,_,_=>by simp at hl
 |_::_,us,[],_,hl,_,_=>by simp at hl
 |[],_::_,[],_,_,hr,_=>by exact (hr:False).elim
 |_::_,[],some _::_,_,_,hr,_=>by exact (hr:False).elim
 |_::_,[],none::_,_,_,hr,_=>by exact (hr:False).elim
theorem Ext.swap {σ:Nat->Option bM} {T:Nat->Prop} {w:World} {σ':Nat->Option bM} {T':Nat->Prop} {w':World} {k0:Nat} {b b':AB} {nb:List (Nat×AB)} {E:List Nat} (X:Ext σ T w σ' T' w' ((k0,b)::nb) E) (h:dg σ' T' w' (σ' k0) b'):Ext σ T w σ' T' w' ((k0,b')::nb) E:=by
 have bO:∀ k c,(k,c)∈(k0,b')::nb->∃ c',(k,c')∈(k0,b)::nb:=fun k c hk=>by
  rcases List.mem_cons.1 hk with h1|h1
  ·injection h1 with h2 h3;subst h2;exact ⟨b,List.mem_cons_self⟩
  ·exact ⟨c,List.mem_cons_of_mem _ h1⟩
 have hout:∀ k c,(k,c)∈(k0,b)::nb->∃ c',(k,c')∈(k0,b')::nb:=fun k c hk=>by
  rcases List.mem_cons.1 hk with h1|h1
  ·injection h1 with h2 h3;subst h2;exact ⟨b',List.mem_cons_self⟩
  ·exact ⟨c,List.mem_cons_of_mem _ h1⟩
 refine ⟨X.os,X.tape,X.output,X.grow,X.lS,X.er,fun k hk=>X.wV k fun c hc=>?_,fun k c hk=>?_,fun k c g hk hg=>?_,fun k k' c c' g g' hk hk' hg hg' hgg=>?_⟩
 ·obtain ⟨c',hc'⟩:=hout k c hc;exact hk c' hc'
 ·rcases List.mem_cons.1 hk with h1|h1
  ·injection h1 with h2 h3;subst h2 h3;exact h
  ·exact X.rel k c (List.mem_cons_of_mem _ h1)
 ·obtain ⟨d,hd⟩:=bO k c hk;exact X.fresh k d g hd hg
 ·obtain ⟨d,hd⟩:=bO k c hk
  obtain ⟨d',hd'⟩:=bO k' c' hk'
  exact X.inj k k' d d' g g' hd hd' hg hg' hgg
def x0:Nat->Value:=fun _=>.int .i64 0
theorem oJ {p:Nat->Bool} (x y:Nat->Value):∀ (ms:List (Option CV)) (i:Nat),(fo x i ms).all (CV.ok p)=(fo y i ms).all (CV.ok p)
 |[],_=>rfl
 |some c::ms,i=>by show (c.ok p && (fo x (i+1) ms).all (CV.ok p))=(c.ok p && (fo y (i+1) ms).all (CV.ok p));rw [oJ x y ms]
 |none::ms,i=>by show (true && (fo x (i+1) ms).all (CV.ok p))=(true && (fo y (i+1) ms).all (CV.ok p));rw [oJ x y ms]
theorem CE {f:FuncId} {c:Call} {ins:List GV} {bO:List (Nat×AB)} {cM:List Nat} {av av':AV} {nb nb':List (Nat×AB)} {EE:List Nat} {p:D->Prop} {ms ms':List (Option CV)} {t:TypeId} {cs cs':List CV} {k0:Nat} (ρ μ:Nat->Nat) (E:List Nat)
  (hF:∀ x:Nat->Value,(∀ i,(x i).oneCell'=true)->cJ P f ins ((0,.box t (fo x 0 ms))::bO) (0::cM) av ((0,.box t (fo x 0 ms'))::nb)) (hen:bg P f) (ho:o.op=.call c) (hc:c.callee=.value (.func f))
  (hargs:pG st E ρ (bp ((0,.box t [])::bO)) c.args.toList ins) (hk0:ρ 0=k0) (hk0':μ 0=k0) (hbox:look st.h k0=some (.box t cs)) (hlen:cs.length=ms.length) (hlen':cs.length=ms'.length) (hfill:jB cs (ms.map (Option.map (CV.map ρ)))=cs) (hany:cs.all (fun c=>!yp c)=true)
  (hheap:dn (fun x=>look st.h (ρ x.1)=some (x.2.map' ρ)) bO) (hokr:(fo x0 0 ms).all (CV.ok (bp ((0,.box t [])::bO)))=true) (hokin:bO.all (fun x=>x.2.ok (bp ((0,.box t [])::bO)))=true) (hinj:ef ((0::keys bO).map ρ)=true) (hE0:dH k0 E=false) (hE:bO.all (fun x=>!dH (ρ x.1) E)=true) (hEl:E.all (fun e=>bp st.h e)=true)
  (hkeep:∀ k∈cM,oW bO k/\k≠0) (hEE:(0::keys bO).map ρ=EE) (hμ:ef ((0::keys nb).map μ)=true) (hμk:(keys nb).all (fun k=>(dH k (0::cM) && Nat.beq (μ k) (ρ k))||(!dH k (0::cM) && !dH (μ k) EE))=true)
  (hg:av.ec p) (hgb:dn (fun x=>x.2.ec p) nb) (hgr:∀ x:Nat->Value,(AB.box t (fo x 0 ms')).ec p) (hok:av.ok (bp ((0,.box t [])::nb))=true) (hokr':(fo x0 0 ms').all (CV.ok (bp ((0,.box t [])::nb)))=true) (hokb:nb.all (fun x=>x.2.ok (bp ((0,.box t [])::nb)))=true) (hav:av.map μ=av') (hcs:jB cs (ms'.map (Option.map (CV.map μ)))=cs') (hnb:fM μ nb=nb')
  (hD:∀ (σ:Nat->Option bM) (T Tc T':Nat->Prop) (w':World) d v,(∀ b,T' b->T b\/Tc b)->(∀ b,fz σ T E b->Tc b)->p d->bm Tc w' d v->bm T' w' d v):aE P o st av' ((k0,.box t cs')::nb') EE:=by
 intro σ T a w C hnew
 subst hk0 hcs hnb
 have keyx:∀ (l:List CV) (hh:List (Nat×AB)),bp ((0,.box t l)::hh)=bp ((0,AB.box t [])::hh):=fun l hh=>by
  funext k;unfold bp;rw [bT,bT];split<;>rfl
 obtain ⟨g,vs,h1,h2,h3,h4⟩:=C.heap _ _ hbox
 have hvl:cs.length=vs.length:=h4.length
 obtain ⟨x,hx⟩:∃ x:Nat->Value,x=fun i=>if h:(vs.getD i undef).oneCell'=true then vs.getD i undef else .int .i64 0:=⟨_,rfl⟩
 have hx1:∀ i,(x i).oneCell'=true:=fun i=>by
  rw [hx];dsimp only;split
  ·assumption
  ·rfl
 have hany':∀ j c,cs[j]?=some c->yp c=false:=fun j c hj=>by
  have:=List.all_eq_true.1 hany c (List.mem_of_getElem? hj)
  simpa using this
 have hxv:∀ j v,vs[j]?=some v->x j=v:=fun j v hj=>by
  have hjl:j < cs.length:=by have:=(List.getElem?_eq_some_iff.1 hj).1;omega
  obtain ⟨u,hu,hr⟩:=h4.get (i:=j) (x:=cs[j]) (List.getElem?_eq_getElem hjl)
  rw [hj] at hu;injection hu with hu;subst hu
  have h5:=hr.one (hany' j _ (List.getElem?_eq_getElem hjl))
  have h6:vs.getD j undef=v:=by rw [List.getD_eq_getElem?_getD,hj];rfl
  rw [hx];dsimp only;rw [h6,dif_pos h5]
 have hbx:dg σ T w (σ (ρ 0)) ((AB.box t (fo x 0 ms)).map' ρ):=⟨g,vs,h1,h2,h3,uu hx1 hlen hfill h4 fun j v hj _=>by rw [Nat.zero_add];exact hxv j v hj⟩
 have hmem:∀ y∈bO,(∃ b,look st.h (ρ y.1)=some b)/\dg σ T w (σ (ρ y.1)) (y.2.map' ρ):=fun y hy=>⟨⟨_,hheap.mem y hy⟩,C.heap _ _ (hheap.mem y hy)⟩
 have allL:∀ {q:Nat×AB->Prop} {l:List (Nat×AB)},(∀ y∈l,q y)->dn q l:=fun {q l} h=>by
  induction l with
  |nil=>trivial
  |cons y l ih=>exact ⟨h y List.mem_cons_self,ih fun z hz=>h z (List.mem_cons_of_mem _ hz)⟩
 have key:=xT (av':=av') (nb':=fM μ ((0,.box t (fo x 0 ms'))::nb)) (EE:=EE) (p:=p) C ρ μ E (hF x hx1) hen ho hc (by rw [keyx];exact hargs) ⟨⟨⟨_,hbox⟩,hbx⟩,allL hmem⟩ (by
   rw [keyx]
   show ((fo x 0 ms).all _ && bO.all _)=true
   rw [oJ x x0,hokr,hokin];rfl) hinj (by show (!dH (ρ 0) E && _)=true;rw [hE0,hE];rfl) hEl (fun k hk=>by
   rcases List.mem_cons.1 hk with rfl|hk
   ·exact .inl rfl
   ·obtain ⟨h,hne⟩:=hkeep k hk
    have hl:look ((0,AB.box t (fo x 0 ms))::bO) k=look bO k:=by rw [bT,if_neg (Ne.symm hne)]
    unfold oW np at h ⊢
    rw [hl];exact h) hEE hμ (by
   have h0:dH 0 (0::cM)=true:=eD.2 List.mem_cons_self
   show (((dH 0 (0::cM) && Nat.beq (μ 0) (ρ 0))||_) && (keys nb).all _)=true
   rw [hk0',Nat.beq_refl,h0]
   exact hμk) hg ⟨hgr x,hgb⟩ (by rw [keyx];exact hok) (by
   rw [keyx]
   show ((fo x 0 ms').all _ && nb.all _)=true
   rw [oJ x x0,hokr',hokb];rfl) hav rfl hD (fun k b hk hke=>hnew k (if k=ρ 0 then .box t (jB cs (ms'.map (Option.map (CV.map μ)))) else b) (by
    rcases List.mem_cons.1 hk with h|h
    ·injection h with h5 h6;subst h5;rw [hk0',if_pos rfl];exact List.mem_cons_self
    ·by_cases e:k=ρ 0
     ·rw [if_pos e,e];exact List.mem_cons_self
     ·rw [if_neg e];exact List.mem_cons_of_mem _ h) hke)
 refine ib key ?_
 rintro a' w' ⟨u,σ',T',rfl,X,hv⟩
 refine ⟨u,σ',T',rfl,?_,hv⟩
 have X:Ext σ T w σ' T' w' ((ρ 0,(AB.box t (fo x 0 ms')).map' μ)::fM μ nb) EE:=by
  have e:fM μ ((0,AB.box t (fo x 0 ms'))::nb)=(ρ 0,(AB.box t (fo x 0 ms')).map' μ)::fM μ nb:=by
   show (μ 0,_)::fM μ nb=_
   rw [hk0']
  rw [<-e];exact X
 refine X.swap ?_
 obtain ⟨g',us,q1,q2,q3,q4⟩:=X.rel _ _ List.mem_cons_self
 refine ⟨g',us,q1,q2,q3,rC hlen' q4 fun j c hj _=>?_⟩
 rw [Nat.zero_add]
 obtain ⟨v,hvj,hr⟩:=h4.get hj
 rw [hxv j v hvj]
 exact hr.grow X.grow
end
end
section
def CV.nq:CV->Bool
 |.q _ _=>false
 |_=>true
def GV.nq:GV->Bool
 |.c x=>x.nq
 |.g xs=>xs.all CV.nq
def AV.nq:AV->Bool
 |.v x=>x.nq
 |.t xs=>xs.all GV.nq
def AB.nq:AB->Bool
 |.box _ cs=>cs.all CV.nq
 |_=>true
theorem CV.gW {c:CV} (h:c.nq=true):c.ec (fun _=>True):=by cases c<;>first|trivial|cases h
theorem fe {α:Type} {p:α->Prop}:∀ {l:List α},(∀ x∈l,p x)->dn p l
 |[],_=>trivial
 |x::_,h=>⟨h x List.mem_cons_self,fe fun y hy=>h y (List.mem_cons_of_mem _ hy)⟩
theorem GV.gW {g:GV} (h:g.nq=true):g.ec (fun _=>True):=by
 cases g with
 |c x=>exact CV.gW h
 |g xs=>exact fe fun x hx=>CV.gW (List.all_eq_true.1 h x hx)
theorem AV.gW {v:AV} (h:v.nq=true):v.ec (fun _=>True):=by
 cases v with
 |v x=>exact GV.gW h
 |t xs=>exact fe fun x hx=>GV.gW (List.all_eq_true.1 h x hx)
theorem AB.gW {b:AB} (h:b.nq=true):b.ec (fun _=>True):=by
 cases b with
 |box t cs=>exact fe fun x hx=>CV.gW (List.all_eq_true.1 h x hx)
 |arr=>exact fun _ _ _ _=>trivial
 |map=>trivial
def BW:Option CV->Bool
 |some c=>c.nq
 |none=>true
theorem pU (x:Nat->Value):∀ (ms:List (Option CV)) (i:Nat),ms.all BW=true->dn (CV.ec fun _=>True) (fo x i ms)
 |[],_,_=>trivial
 |some c::ms,i,h=>by
  simp only [List.all_cons,Bool.and_eq_true] at h
  exact ⟨CV.gW h.1,pU x ms (i+1) h.2⟩
 |none::ms,i,h=>by
  simp only [List.all_cons,Bool.and_eq_true] at h
  exact ⟨trivial,pU x ms (i+1) h.2⟩
section
variable {P:Program} {st:aJ} {o:Oper}
theorem cq {f:FuncId} {c:Call} {ins:List GV} {bO:List (Nat×AB)} {av av':AV} {nb nb':List (Nat×AB)} {EE:List Nat} {ms ms':List (Option CV)} {t:TypeId} {cs cs':List CV} {k0:Nat} (ρ μ:Nat->Nat)
  (hF:∀ x:Nat->Value,(∀ i,(x i).oneCell'=true)->cJ P f ins ((0,.box t (fo x 0 ms))::bO) [0] av ((0,.box t (fo x 0 ms'))::nb)) (hen:bg P f) (ho:o.op=.call c) (hc:c.callee=.value (.func f))
  (hargs:pG st [] ρ (bp ((0,.box t [])::bO)) c.args.toList ins) (hk0:ρ 0=k0) (hk0':μ 0=k0) (hbox:look st.h k0=some (.box t cs)) (hlen:cs.length=ms.length) (hlen':cs.length=ms'.length) (hfill:jB cs (ms.map (Option.map (CV.map ρ)))=cs) (hany:cs.all (fun c=>!yp c)=true)
  (hheap:dn (fun x=>look st.h (ρ x.1)=some (x.2.map' ρ)) bO) (hokr:(fo x0 0 ms).all (CV.ok (bp ((0,.box t [])::bO)))=true) (hokin:bO.all (fun x=>x.2.ok (bp ((0,.box t [])::bO)))=true) (hinj:ef ((0::keys bO).map ρ)=true)
  (hEE:(0::keys bO).map ρ=EE) (hμ:ef ((0::keys nb).map μ)=true) (hμk:(keys nb).all (fun k=>(dH k [0] && Nat.beq (μ k) (ρ k))||(!dH k [0] && !dH (μ k) EE))=true)
  (hq:(av.nq && nb.all (fun x=>x.2.nq) && ms'.all BW)=true) (hok:av.ok (bp ((0,.box t [])::nb))=true) (hokr':(fo x0 0 ms').all (CV.ok (bp ((0,.box t [])::nb)))=true) (hokb:nb.all (fun x=>x.2.ok (bp ((0,.box t [])::nb)))=true) (hav:av.map μ=av') (hcs:jB cs (ms'.map (Option.map (CV.map μ)))=cs') (hnb:fM μ nb=nb'):aE P o st av' ((k0,.box t cs')::nb') EE:=by
 simp only [Bool.and_eq_true] at hq
 obtain ⟨⟨q1,q2⟩,q3⟩:=hq
 exact CE (cM:=[]) (p:=fun _=>True) ρ μ [] hF hen ho hc hargs hk0 hk0' hbox hlen hlen' hfill hany hheap hokr hokin hinj rfl (by simp [dH]) rfl (fun k hk=>by cases hk) hEE hμ hμk (AV.gW q1) (fe fun x hx=>AB.gW (List.all_eq_true.1 q2 x hx)) (fun x=>pU x ms' 0 q3) hok hokr' hokb hav hcs hnb
  fun σ T Tc T' w' d v h1 h2 _ h=>h.fu fun b hb=>by
   rcases h1 b hb with h|h
   ·exact h2 b ⟨h,fun k hk=>by cases hk⟩
   ·exact h
theorem cE {t n e K:Nat} {x y:Operand} {k r Kk o' i:Nat} {j:Int} (ho:o.op=.indexAddr t x y) (hx:ev st x (.v (.c (.p k r Kk o')))) (hy:ev st y (.v (.c (.d (.v (.int .i64 j))))))
  (hu:P.underlying t=some (.array n e)) (hz:(P.info? e).map (·.size)=some K) (hj:j=(i:Int)) (hi:i < n):aE P o st (.v (.c (.p k r Kk (o'+i * K)))) [] []:=
 aE.val fun σ T ac w C=>by
  obtain ⟨g,hg,hv⟩:=bD C hx
  have h2:=bm.inv (bD C hy)
  subst hj
  refine ⟨.pointer (some ⟨g.g,r * Kk+o'+i * K,none⟩),?_,g,hg,by rw [Nat.add_assoc]⟩
  cases hq:P.info? e with
  |none=>simp [hq] at hz
  |some ii=>
   have hs:ii.size=K:=by simpa [hq] using hz
   unfold execOp
   simp [ho,hv,h2,Instr.indexAt,asIntOf,run_underlying hu,sizeOf,typeInfo,hq,hs,hi,asAddr,Instr.sureAddr,Addr.add_lit]
theorem Be {f:FuncId} {c:Call} {x:Operand} {k t K n:Nat} {rows:List (List D)} (k2:Nat) (hF:∀ l:List (List D),l.length=n->Fn P f [.c (.d (.r K (l.map id)))] (.v (.c (.s 0 0 K l.length))) [(0,.arr t K (l.map id))]) (hen:bg P f) (ho:o.op=.call c) (hc:c.callee=.value (.func f)) (ha:c.args=#[x])
  (hx:ev st x (.v (.c (.s k 0 K n)))) (hb:look st.h k=some (.arr t K rows)) (hn:rows.length=n):aE P o st (.v (.c (.s k2 0 K n))) [(k2,.arr t K rows)] []:=by
 intro σ T a w C hnew
 have hxv:cQ σ T w (.s k 0 K n) (a.eval x):=bD C hx
 obtain ⟨hK,hh⟩:=C.heap k _ hb
 obtain ⟨cs,hcs⟩:∃ cs:Nat->Nat->Value,(∀ (i:Nat) (row:List D) (j:Nat) (d:D),rows[i]?=some row->row[j]?=some d->bm T w d (cs i j))/\(∀ (i:Nat) (row:List D),rows[i]?=some row->row.length=K)/\
   (∀ g,σ k=some g->T g.g/\∀ (i:Nat) (row:List D) (j:Nat) (d:D),rows[i]?=some row->row[j]?=some d->w.cell? ⟨g.g,i * K+j,none⟩=some (cs i j)):=by
  rcases hh with ⟨h1,h2⟩|⟨g,vs,h1,h2,h3,h4,h5,h6⟩
  ·subst h1
   exact ⟨fun _ _=>undef,(fun i row j d h=>by simp at h),(fun i row h=>by simp at h),fun g hg=>by rw [h2] at hg;cases hg⟩
  ·refine ⟨fun i j=>(vs[i * K+j]?).getD undef,fun i row j d hr hd=>?_,fun i row hr=>(h6.2 i row hr).1,fun g' hg=>?_⟩
   ·obtain ⟨u,hu,hr'⟩:=(h6.2 i row hr).2 j d hd
    simp only [hu,Option.getD_some];exact hr'
   ·rw [h1] at hg;injection hg with hg;subst hg
    refine ⟨h2,fun i row j d hr hd=>?_⟩
    obtain ⟨u,hu,_⟩:=(h6.2 i row hr).2 j d hd
    rw [cell_of_row w g.g (i * K+j) _ _ (0,0) h3]
    simp only [List.getElem?_toArray,hu,Option.getD_some]
 obtain ⟨hc1,hc2,hc3⟩:=hcs
 obtain ⟨l,hl⟩:∃ l:List (List D),l=(List.range n).map fun i=>(List.range K).map fun j=>D.v (cs i j):=⟨_,rfl⟩
 have hll:l.length=n:=by rw [hl];simp
 have hli:∀ i row,l[i]?=some row->i < n/\row=(List.range K).map fun j=>D.v (cs i j):=fun i row h=>by
  rw [hl,List.getElem?_map,Option.map_eq_some_iff] at h
  obtain ⟨i',h1,rfl⟩:=h
  obtain ⟨h2,h3⟩:=List.getElem?_eq_some_iff.1 h1
  simp at h2 h3
  subst h3
  exact ⟨h2,rfl⟩
 have hlj:∀ i row j d,l[i]?=some row->row[j]?=some d->j < K/\d=D.v (cs i j):=fun i row j d h hd=>by
  obtain ⟨_,rfl⟩:=hli i row h
  rw [List.getElem?_map,Option.map_eq_some_iff] at hd
  obtain ⟨j',h1,rfl⟩:=hd
  obtain ⟨h2,h3⟩:=List.getElem?_eq_some_iff.1 h1
  simp at h2 h3
  subst h3
  exact ⟨h2,rfl⟩
 have at_:∀ i j,i < n->j < K->∃ row d,rows[i]?=some row/\row[j]?=some d:=fun i j hi hj=>by
  have h1:i < rows.length:=by omega
  have h2:=hc2 i _ (List.getElem?_eq_getElem h1)
  exact ⟨rows[i],rows[i][j]'(by omega),List.getElem?_eq_getElem h1,List.getElem?_eq_getElem (by omega)⟩
 have hlow:∀ b,(T b/\∀ g,σ k=some g->g.g≠b)->T b:=fun b h=>h.1
 have harg:cc (dh (fun _=>none) (fun b=>T b/\∀ g,σ k=some g->g.g≠b) w) [.c (.d (.r K (l.map id)))] (c.args.map a.eval).toList:=by
  have hargs:(c.args.map a.eval).toList=[a.eval x]:=by rw [ha];simp
  rw [hargs,List.map_id]
  refine ⟨?_,trivial⟩
  show bm _ w (.r K l) (a.eval x)
  rcases hxv with ⟨h0,h1⟩|⟨g,hg,h1,h2,h3⟩
  ·rw [h1]
   have:l=[]:=List.eq_nil_of_length_eq_zero (by omega)
   rw [this];exact bm.nil _ _ _
  ·rw [h1]
   obtain ⟨q1,q2⟩:=hc3 g hg
   have:=bm.r (T:=fun b=>T b/\∀ g,σ k=some g->g.g≠b) (w:=w) K l g.g (0 * K) (g.c - 0) cs (C.er _ q1) (fun hb=>hb.2 g hg rfl) (by omega) (by omega) (fun i row hr=>by obtain ⟨_,rfl⟩:=hli i row hr;simp) (fun i row j d hr hd=>?_) (fun i row j d hr hd=>?_)
   ·rw [hll] at this;exact this
   ·obtain ⟨hj,rfl⟩:=hlj i row j d hr hd
    obtain ⟨row',d',r1,r2⟩:=at_ i j (hli i row hr).1 hj
    rw [Nat.zero_mul,Nat.zero_add];exact q2 i row' j d' r1 r2
   ·obtain ⟨hj,rfl⟩:=hlj i row j d hr hd
    obtain ⟨row',d',r1,r2⟩:=at_ i j (hli i row hr).1 hj
    have h5:=hc1 i row' j d' r1 r2
    exact .v _ ((show cQ σ T w (.d d') _ from h5).one rfl)
 refine mm ho hc hen ((hF l hll _ w _ (fun b h=>C.er b h.1) harg).mono ?_)
 rintro e w' ⟨v,σ',T',rfl,B,R⟩
 have hk2:σ k2=none:=hnew k2 _ List.mem_cons_self (by simp)
 have hgrow:Grow σ (fun j=>if j=k2 then σ' 0 else σ j) T (fun b=>T b\/T' b) w w' (fun b=>∃ k∈([]:List Nat),∃ g,σ k=some g/\g.g=b):=⟨B.size,fun b hb _=>B.block b hb,(fun b ⟨k,hk,_⟩=>by cases hk),fun b hb h=>h.elim id fun h=>(R.kP b hb h).1,fun j g hj=>by
  show (if j=k2 then σ' 0 else σ j)=some g
  rw [if_neg (fun e=>by rw [e,hk2] at hj;cases hj)];exact hj⟩
 refine ⟨v,rfl,v,fun j=>if j=k2 then σ' 0 else σ j,fun b=>T b\/T' b,rfl,⟨B.os,B.tape,B.output,hgrow,fun b h=>.inl h,fun b h=>h.elim (fun h=>Nat.lt_of_lt_of_le (C.er b h) B.size) (R.er b),fun j hj=>if_neg fun e=>hj (.arr t K rows) (by subst e;exact List.mem_cons_self),fun j b hj=>?_,fun j b g hj hg=>?_,fun j j' b b' g g' hj hj' _ _ _=>?_⟩,?_⟩
 ·simp only [List.mem_cons,List.not_mem_nil,or_false,Prod.mk.injEq] at hj
  obtain ⟨rfl,rfl⟩:=hj
  have h1:=R.heap 0 _ List.mem_cons_self
  rw [List.map_id] at h1
  show dg _ _ w' (if j=j then σ' 0 else σ j) (.arr t K rows)
  rw [if_pos rfl]
  refine ⟨hK,?_⟩
  rcases h1.2 with ⟨h2,h3⟩|⟨g,vs,h2,h3,h4,h5,h6,h7⟩
  ·left
   refine ⟨List.eq_nil_of_length_eq_zero ?_,h3⟩
   rw [h2] at hll;simp at hll;omega
  ·refine .inr ⟨g,vs,h2,.inr h3,h4,h5,h6,?_,fun i row hr=>⟨hc2 i row hr,fun j' d hd=>?_⟩⟩
   ·have:=h7.1;rw [hll] at this;rw [hn];exact this
   ·have hi:i < n:=by have:=(List.getElem?_eq_some_iff.1 hr).1;omega
    have hj:j' < K:=by have:=(List.getElem?_eq_some_iff.1 hd).1;have:=hc2 i row hr;omega
    have hr':l[i]?=some ((List.range K).map fun j=>D.v (cs i j)):=by rw [hl,List.getElem?_map,List.getElem?_range hi];rfl
    have hd':((List.range K).map fun j=>D.v (cs i j))[j']?=some (D.v (cs i j')):=by rw [List.getElem?_map,List.getElem?_range hj];rfl
    obtain ⟨u,hu,hr2⟩:=(h7.2 i _ hr').2 j' _ hd'
    refine ⟨u,hu,?_⟩
    rw [bm.inv hr2]
    exact (hc1 i row j' d hr hd).grow hgrow
 ·simp only [List.mem_cons,List.not_mem_nil,or_false,Prod.mk.injEq] at hj
  obtain ⟨rfl,rfl⟩:=hj
  have hg:(if j=j then σ' 0 else σ j)=some g:=hg
  rw [if_pos rfl] at hg
  exact .inl (R.fresh 0 _ g List.mem_cons_self hg)
 ·simp only [List.mem_cons,List.not_mem_nil,or_false,Prod.mk.injEq] at hj hj'
  rw [hj.1,hj'.1]
 ·have hr:cQ σ' T' w' (.s 0 0 K l.length) v:=R.rel
  rw [hll] at hr
  rcases hr with h|⟨g,h1,h2⟩
  ·exact .inl h
  ·exact .inr ⟨g,by show (if k2=k2 then σ' 0 else σ k2)=some g;rw [if_pos rfl];exact h1,h2⟩
end
end
end Go.Proofs.Ytegepioggeggaaa.Dev
