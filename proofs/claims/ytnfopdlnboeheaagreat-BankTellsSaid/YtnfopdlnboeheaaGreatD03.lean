/- A part of the proof: Ty, Sh16, Sh17, Sh18, Sh21, Sh22, Sh23, Sh24, Sh25. No condition. -/
import Derived.Test.YtnfopdlnboeheaaGreatD02
import Derived.Lib.AppendZerosOnto
import Derived.Lib.Overlaps
import Derived.OrdersIn
import Derived.RangeFuncFrom
set_option linter.unusedVariables false
set_option linter.unusedSimpArgs false
namespace Go.Proofs.YtnfopdlnboeheaaGreat.Dev
open Go.RowKit

theorem eu:(Tryz.prog.info? 3).map (fun i=>i.size)=some 1:=by kernel_rfl
theorem jj:(Tryz.prog.info? 31).map (fun i=>i.size)=some 2:=by kernel_rfl
theorem HK:(Tryz.prog.info? 33).map (fun i=>i.size)=some 2:=by kernel_rfl
theorem fK:(Tryz.prog.info? 34).map (fun i=>i.size)=some 1:=by kernel_rfl
theorem BJ:(Tryz.prog.info? 53).map (fun i=>i.size)=some 2:=by kernel_rfl
theorem BI:(Tryz.prog.info? 60).map (fun i=>i.size)=some 3:=by kernel_rfl
theorem KM:(Tryz.prog.info? 61).map (fun i=>i.size)=some 1:=by kernel_rfl
theorem gX:(Tryz.prog.info? 63).map (fun i=>i.size)=some 6:=by kernel_rfl
theorem EH:(Tryz.prog.info? 69).map (fun i=>i.size)=some 6:=by kernel_rfl
theorem ji:(Tryz.prog.info? 81).map (fun i=>i.size)=some 8:=by kernel_rfl
theorem HJ:(Tryz.prog.info? 82).map (fun i=>i.size)=some 1:=by kernel_rfl
theorem kS:(Tryz.prog.info? 85).map (fun i=>i.size)=some 4:=by kernel_rfl
theorem nV:(Tryz.prog.info? 87).map (fun i=>i.size)=some 5:=by kernel_rfl
theorem tL:(Tryz.prog.info? 95).map (fun i=>i.size)=some 4:=by kernel_rfl
theorem cY:(Tryz.prog.info? 103).map (fun i=>i.size)=some 4:=by kernel_rfl
theorem eR:(Tryz.prog.info? 105).map (fun i=>i.size)=some 2:=by kernel_rfl
theorem gW:(Tryz.prog.info? 124).map (fun i=>i.size)=some 2:=by kernel_rfl
theorem uB:(Tryz.prog.info? 3).bind (fun i=>i.zero)=some (.int .i64 0):=by kernel_rfl
theorem Ky:Jy Tryz.prog 38 [.int .i64 0,.slice none 0 0,.slice none 0 0] [(0,1),(1,1),(2,1)]:=⟨aJ,aJ⟩
theorem KL:(Tryz.prog.info? 53).bind (fun i=>i.zero)=some (.agg #[.int .i64 0,.int .i64 0]):=by kernel_rfl
theorem GI:Jy Tryz.prog 63 [.int .i64 0,.int .i64 0,.int .i64 0,.int .i64 0,.int .i64 0,.slice none 0 0] [(0,1),(1,1),(2,3),(5,1)]:=⟨aJ,aJ⟩
theorem KK:(Tryz.prog.info? 85).bind (fun i=>i.zero)=some (.agg #[.int .i64 0,.int .i64 0,.int .i64 0,.int .i64 0]):=by kernel_rfl
theorem Gk:(Tryz.prog.info? 105).bind (fun i=>i.zero)=some (.agg #[.int .i64 0,.int .i64 0]):=by kernel_rfl
theorem JB:(Tryz.prog.info? 124).bind (fun i=>i.zero)=some (.agg #[.int .i64 0,.int .i64 0]):=by kernel_rfl
theorem JN:(Tryz.prog.info? 63).map (fun i=>(i.zero,i.size,i.bytes))=some (some (.agg #[.int .i64 0,.int .i64 0,.int .i64 0,.int .i64 0,.int .i64 0,.slice none 0 0]),6,64):=by kernel_rfl
theorem rK:ko Tryz.prog 26 63 6 64:=kf gy JN rfl cm
theorem KT:(Tryz.prog.info? 3).map (fun i=>(i.zero,i.size,i.bytes))=some (some (.int .i64 0),1,8):=by kernel_rfl
theorem lF:ko Tryz.prog 27 3 1 8:=kf ed KT rfl cm
theorem JM:(Tryz.prog.info? 81).map (fun i=>(i.zero,i.size,i.bytes))=some (some (.agg #[.int .i64 0,.int .i64 0,.int .i64 0,.int .i64 0,.int .i64 0,.int .i64 0,.int .i64 0,.bool false]),8,64):=by kernel_rfl
theorem nY:ko Tryz.prog 28 81 8 64:=kf hG JM rfl cm
theorem JK:(Tryz.prog.info? 85).map (fun i=>(i.zero,i.size,i.bytes))=some (some (.agg #[.int .i64 0,.int .i64 0,.int .i64 0,.int .i64 0]),4,32):=by kernel_rfl
theorem oV:ko Tryz.prog 29 85 4 32:=kf gK JK rfl cm
theorem JJ:(Tryz.prog.info? 87).map (fun i=>(i.zero,i.size,i.bytes))=some (some (.agg #[.int .i64 0,.int .i64 0,.int .i64 0,.int .i64 0,.int .i64 0]),5,40):=by kernel_rfl
theorem jI:ko Tryz.prog 34 87 5 40:=kf ir JJ rfl cm
theorem JI:(Tryz.prog.info? 95).map (fun i=>(i.zero,i.size,i.bytes))=some (some (.agg #[.int .i64 0,.int .i64 0,.int .i64 0,.int .i64 0]),4,32):=by kernel_rfl
theorem rJ:ko Tryz.prog 36 95 4 32:=kf iY JI rfl cm
theorem Ie:(Tryz.prog.info? 103).map (fun i=>(i.zero,i.size,i.bytes))=some (some (.agg #[.int .i64 0,.int .i64 0,.int .i64 0,.int .i64 0]),4,32):=by kernel_rfl
theorem fP:ko Tryz.prog 39 103 4 32:=kf dQ Ie rfl cm
theorem JL:(Tryz.prog.info? 82).map (fun i=>(i.zero,i.size,i.bytes))=some (some (.slice none 0 0),1,24):=by kernel_rfl
theorem vK:ko Tryz.prog 40 82 1 24:=kf vJ JL rfl cm
theorem Ic:(Tryz.prog.info? 105).map (fun i=>(i.zero,i.size,i.bytes))=some (some (.agg #[.int .i64 0,.int .i64 0]),2,16):=by kernel_rfl
theorem lE:ko Tryz.prog 41 105 2 16:=kf ep Ic rfl cm
theorem JP:(Tryz.prog.info? 53).map (fun i=>(i.zero,i.size,i.bytes))=some (some (.agg #[.int .i64 0,.int .i64 0]),2,16):=by kernel_rfl
theorem nX:ko Tryz.prog 44 53 2 16:=kf tJ JP rfl cm
theorem Ib:(Tryz.prog.info? 124).map (fun i=>(i.zero,i.size,i.bytes))=some (some (.agg #[.int .i64 0,.int .i64 0]),2,16):=by kernel_rfl
theorem mh:ko Tryz.prog 61 124 2 16:=kf fu Ib rfl cm
theorem KS:(Tryz.prog.info? 5).map (fun i=>(i.zero,i.size,i.bytes))=some (some (.int .u8 0),1,1):=by kernel_rfl
theorem pQ:ko Tryz.prog 82 5 1 1:=kf Tryz.underlying82 KS rfl cm
theorem JO:(Tryz.prog.info? 61).map (fun i=>(i.zero,i.size,i.bytes))=some (some (.slice none 0 0),1,24):=by kernel_rfl
theorem JF:ko Tryz.prog 163 61 1 24:=kf Tryz.underlying163 JO rfl cm
theorem Mh:bc Tryz.prog 4:=fun args w=>aU Tryz.func4 aJ rfl args w
theorem Mg:bc Tryz.prog 5:=fun args w=>aU Tryz.func5 aJ rfl args w
theorem KH:bc Tryz.prog 6:=fun args w=>aU Tryz.func6 aJ rfl args w
theorem KG:bc Tryz.prog 7:=fun args w=>aU Tryz.func7 aJ rfl args w
theorem Mf:bc Tryz.prog 8:=fun args w=>aU Tryz.func8 aJ rfl args w
theorem Me:bc Tryz.prog 9:=fun args w=>aU Tryz.func9 aJ rfl args w
theorem LQ:bc Tryz.prog 10:=fun args w=>aU Tryz.func10 aJ rfl args w
theorem LP:bc Tryz.prog 11:=fun args w=>aU Tryz.func11 aJ rfl args w
theorem IY:bc Tryz.prog 12:=fun args w=>aU Tryz.func12 aJ rfl args w
theorem FG:bc Tryz.prog 13:=fun args w=>aU Tryz.func13 aJ rfl args w
theorem FF:bc Tryz.prog 14:=fun args w=>aU Tryz.func14 aJ rfl args w
theorem LO:bc Tryz.prog 15:=fun args w=>aU Tryz.func15 aJ rfl args w
theorem LN:bc Tryz.prog 16:=fun args w=>aU Tryz.func16 aJ rfl args w
theorem LM:bc Tryz.prog 17:=fun args w=>aU Tryz.func17 aJ rfl args w
theorem LL:bc Tryz.prog 18:=fun args w=>aU Tryz.func18 aJ rfl args w
theorem IX:bc Tryz.prog 19:=fun args w=>aU Tryz.func19 aJ rfl args w
theorem LK:bc Tryz.prog 20:=fun args w=>aU Tryz.func20 aJ rfl args w
theorem fr:bc Tryz.prog 21:=fun args w=>aU Tryz.func21 aJ rfl args w
theorem zj:bc Tryz.prog 22:=fun args w=>aU Tryz.func22 aJ rfl args w
theorem nr:bc Tryz.prog 23:=fun args w=>aU Tryz.func23 aJ rfl args w
theorem LJ:bc Tryz.prog 24:=fun args w=>aU Tryz.func24 aJ rfl args w
theorem LI:bc Tryz.prog 25:=fun args w=>aU Tryz.func25 aJ rfl args w
theorem IW:bc Tryz.prog 26:=fun args w=>aU Tryz.func26 aJ rfl args w
theorem IV:bc Tryz.prog 27:=fun args w=>aU Tryz.func27 aJ rfl args w
theorem IU:bc Tryz.prog 28:=fun args w=>aU Tryz.func28 aJ rfl args w
theorem LH:bc Tryz.prog 29:=fun args w=>aU Tryz.func29 aJ rfl args w
theorem LG:bc Tryz.prog 30:=fun args w=>aU Tryz.func30 aJ rfl args w
theorem LF:bc Tryz.prog 31:=fun args w=>aU Tryz.func31 aJ rfl args w
theorem LD:bc Tryz.prog 32:=fun args w=>aU Tryz.func32 aJ rfl args w
theorem LC:bc Tryz.prog 33:=fun args w=>aU Tryz.func33 aJ rfl args w
theorem LB:bc Tryz.prog 34:=fun args w=>aU Tryz.func34 aJ rfl args w
theorem LA:bc Tryz.prog 35:=fun args w=>aU Tryz.func35 aJ rfl args w
theorem Lz:bc Tryz.prog 36:=fun args w=>aU Tryz.func36 aJ rfl args w
theorem IQ:bc Tryz.prog 37:=fun args w=>aU Tryz.func37 aJ rfl args w
theorem Ly:bc Tryz.prog 38:=fun args w=>aU Tryz.func38 aJ rfl args w
theorem Lx:bc Tryz.prog 39:=fun args w=>aU Tryz.func39 aJ rfl args w
theorem Lw:bc Tryz.prog 40:=fun args w=>aU Tryz.func40 aJ rfl args w
theorem Lv:bc Tryz.prog 41:=fun args w=>aU Tryz.func41 aJ rfl args w
theorem Lu:bc Tryz.prog 42:=fun args w=>aU Tryz.func42 aJ rfl args w
theorem Lt:bc Tryz.prog 43:=fun args w=>aU Tryz.func43 aJ rfl args w
theorem Ls:bc Tryz.prog 44:=fun args w=>aU Tryz.func44 aJ rfl args w
theorem Lr:bc Tryz.prog 45:=fun args w=>aU Tryz.func45 aJ rfl args w
theorem Cu:bc Tryz.prog 46:=fun args w=>aU Tryz.func46 aJ rfl args w
theorem Ct:bc Tryz.prog 47:=fun args w=>aU Tryz.func47 aJ rfl args w
theorem Lq:bc Tryz.prog 48:=fun args w=>aU Tryz.func48 aJ rfl args w
theorem IP:bc Tryz.prog 49:=fun args w=>aU Tryz.func49 aJ rfl args w
theorem IM:bc Tryz.prog 50:=fun args w=>aU Tryz.func50 aJ rfl args w
theorem FE:bc Tryz.prog 51:=fun args w=>aU Tryz.func51 aJ rfl args w
theorem Lp:bc Tryz.prog 52:=fun args w=>aU Tryz.func52 aJ rfl args w
theorem Lo:bc Tryz.prog 53:=fun args w=>aU Tryz.func53 aJ rfl args w
theorem uk:bc Tryz.prog 54:=fun args w=>aU Tryz.func54 aJ rfl args w
theorem qZ:bc Tryz.prog 55:=fun args w=>aU Tryz.func55 aJ rfl args w
theorem pX:bc Tryz.prog 56:=fun args w=>aU Tryz.func56 aJ rfl args w
theorem iD:bc Tryz.prog 57:=fun args w=>aU Tryz.func57 aJ rfl args w
theorem Ln:bc Tryz.prog 58:=fun args w=>aU Tryz.func58 aJ rfl args w
theorem IL:bc Tryz.prog 59:=fun args w=>aU Tryz.func59 aJ rfl args w
theorem Lm:bc Tryz.prog 60:=fun args w=>aU Tryz.func60 aJ rfl args w
theorem Ll:bc Tryz.prog 61:=fun args w=>aU Tryz.func61 aJ rfl args w
theorem Cs:bc Tryz.prog 62:=fun args w=>aU Tryz.func62 aJ rfl args w
theorem IK:bc Tryz.prog 63:=fun args w=>aU Tryz.func63 aJ rfl args w
theorem Cq:bc Tryz.prog 64:=fun args w=>aU Tryz.func64 aJ rfl args w
theorem Lk:bc Tryz.prog 65:=fun args w=>aU Tryz.func65 aJ rfl args w
theorem IJ:bc Tryz.prog 66:=fun args w=>aU Tryz.func66 aJ rfl args w
theorem II:bc Tryz.prog 67:=fun args w=>aU Tryz.func67 aJ rfl args w
theorem IH:bc Tryz.prog 68:=fun args w=>aU Tryz.func68 aJ rfl args w
theorem qY:bc Tryz.prog 69:=fun args w=>aU Tryz.func69 aJ rfl args w
theorem IG:bc Tryz.prog 70:=fun args w=>aU Tryz.func70 aJ rfl args w
theorem IF:bc Tryz.prog 71:=fun args w=>aU Tryz.func71 aJ rfl args w
theorem Lj:bc Tryz.prog 72:=fun args w=>aU Tryz.func72 aJ rfl args w
theorem Li:bc Tryz.prog 73:=fun args w=>aU Tryz.func73 aJ rfl args w
theorem Lh:bc Tryz.prog 74:=fun args w=>aU Tryz.func74 aJ rfl args w
theorem Cp:bc Tryz.prog 75:=fun args w=>aU Tryz.func75 aJ rfl args w
theorem Lg:bc Tryz.prog 76:=fun args w=>aU Tryz.func76 aJ rfl args w
theorem Lf:bc Tryz.prog 77:=fun args w=>aU Tryz.func77 aJ rfl args w
theorem qX:bc Tryz.prog 78:=fun args w=>aU Tryz.func78 aJ rfl args w
theorem Le:bc Tryz.prog 79:=fun args w=>aU Tryz.func79 aJ rfl args w
theorem IE:bc Tryz.prog 80:=fun args w=>aU Tryz.func80 aJ rfl args w
theorem FD:bc Tryz.prog 81:=fun args w=>aU Tryz.func81 aJ rfl args w
theorem FC:bc Tryz.prog 82:=fun args w=>aU Tryz.func82 aJ rfl args w
theorem Ld:bc Tryz.prog 83:=fun args w=>aU Tryz.func83 aJ rfl args w
theorem ID:bc Tryz.prog 84:=fun args w=>aU Tryz.func84 aJ rfl args w
theorem Lc:bc Tryz.prog 85:=fun args w=>aU Tryz.func85 aJ rfl args w
theorem IC:bc Tryz.prog 86:=fun args w=>aU Tryz.func86 aJ rfl args w
theorem Lb:bc Tryz.prog 87:=fun args w=>aU Tryz.func87 aJ rfl args w
theorem La:bc Tryz.prog 88:=fun args w=>aU Tryz.func88 aJ rfl args w
theorem Co:bc Tryz.prog 89:=fun args w=>aU Tryz.func89 aJ rfl args w
theorem IB:bc Tryz.prog 90:=fun args w=>aU Tryz.func90 aJ rfl args w
theorem IA:bc Tryz.prog 91:=fun args w=>aU Tryz.func91 aJ rfl args w
theorem Cn:bc Tryz.prog 92:=fun args w=>aU Tryz.func92 aJ rfl args w
theorem KZ:bc Tryz.prog 93:=fun args w=>aU Tryz.func93 aJ rfl args w
theorem Iz:bc Tryz.prog 94:=fun args w=>aU Tryz.func94 aJ rfl args w
theorem KY:bc Tryz.prog 95:=fun args w=>aU Tryz.func95 aJ rfl args w
theorem Iy:bc Tryz.prog 96:=fun args w=>aU Tryz.func96 aJ rfl args w
theorem KX:bc Tryz.prog 97:=fun args w=>aU Tryz.func97 aJ rfl args w
theorem FB:bc Tryz.prog 98:=fun args w=>aU Tryz.func98 aJ rfl args w
theorem KW:bc Tryz.prog 99:=fun args w=>aU Tryz.func99 aJ rfl args w
theorem GC:bc Tryz.prog 100:=fun args w=>aU Tryz.func100 aJ rfl args w
theorem Kh:bc Tryz.prog 101:=fun args w=>aU Tryz.func101 aJ rfl args w
theorem GB:bc Tryz.prog 102:=fun args w=>aU Tryz.func102 aJ rfl args w
theorem Kg:bc Tryz.prog 103:=fun args w=>aU Tryz.func103 aJ rfl args w
theorem Kf:bc Tryz.prog 104:=fun args w=>aU Tryz.func104 aJ rfl args w
theorem GA:bc Tryz.prog 105:=fun args w=>aU Tryz.func105 aJ rfl args w
theorem Ke:bc Tryz.prog 106:=fun args w=>aU Tryz.func106 aJ rfl args w
theorem Gz:bc Tryz.prog 107:=fun args w=>aU Tryz.func107 aJ rfl args w
theorem Cy:bc Tryz.prog 108:=fun args w=>aU Tryz.func108 aJ rfl args w
theorem Kd:bc Tryz.prog 109:=fun args w=>aU Tryz.func109 aJ rfl args w
theorem Gy:bc Tryz.prog 110:=fun args w=>aU Tryz.func110 aJ rfl args w
theorem Gx:bc Tryz.prog 111:=fun args w=>aU Tryz.func111 aJ rfl args w
theorem Kc:bc Tryz.prog 112:=fun args w=>aU Tryz.func112 aJ rfl args w
theorem Gw:bc Tryz.prog 113:=fun args w=>aU Tryz.func113 aJ rfl args w
theorem Gv:bc Tryz.prog 114:=fun args w=>aU Tryz.func114 aJ rfl args w
theorem Gu:bc Tryz.prog 115:=fun args w=>aU Tryz.func115 aJ rfl args w
theorem Kb:bc Tryz.prog 116:=fun args w=>aU Tryz.func116 aJ rfl args w
theorem Ka:bc Tryz.prog 117:=fun args w=>aU Tryz.func117 aJ rfl args w
theorem JZ:bc Tryz.prog 118:=fun args w=>aU Tryz.func118 aJ rfl args w
theorem JY:bc Tryz.prog 119:=fun args w=>aU Tryz.func119 aJ rfl args w
theorem JX:bc Tryz.prog 120:=fun args w=>aU Tryz.func120 aJ rfl args w
theorem Gt:bc Tryz.prog 121:=fun args w=>aU Tryz.func121 aJ rfl args w
theorem JW:bc Tryz.prog 122:=fun args w=>aU Tryz.func122 aJ rfl args w
theorem Cx:bc Tryz.prog 123:=fun args w=>aU Tryz.func123 aJ rfl args w
theorem JV:bc Tryz.prog 124:=fun args w=>aU Tryz.func124 aJ rfl args w
theorem JU:bc Tryz.prog 125:=fun args w=>aU Tryz.func125 aJ rfl args w
theorem JT:bc Tryz.prog 126:=fun args w=>aU Tryz.func126 aJ rfl args w
theorem xL:bc Tryz.prog 127:=fun args w=>aU Tryz.func127 aJ rfl args w
theorem JS:bc Tryz.prog 128:=fun args w=>aU Tryz.func128 aJ rfl args w
theorem Cw:bc Tryz.prog 129:=fun args w=>aU Tryz.func129 aJ rfl args w
theorem kQ:bc Tryz.prog 130:=fun args w=>aU Tryz.func130 aJ rfl args w
theorem Gs:bc Tryz.prog 131:=fun args w=>aU Tryz.func131 aJ rfl args w
theorem Gr:bc Tryz.prog 134:=fun args w=>aU Tryz.func134 aJ rfl args w
theorem Cv:bc Tryz.prog 136:=fun args w=>aU Tryz.func136 aJ rfl args w
theorem mixed:Tryz.prog.follows .mixedOrders=true:=by kernel_rfl
theorem Ko (a0 a1 a2 a3 b0 b1 b2 b3:Int):oe Tryz.prog 95 [.int .i64 a0,.int .i64 a1,.int .i64 a2,.int .i64 a3] [.int .i64 b0,.int .i64 b1,.int .i64 b2,.int .i64 b3]:=⟨_,Tryz.underlying95,aJ,aJ,⟨⟨by decide,rfl,.inl ⟨_,_,_,_,Tryz.underlying3,rfl,rfl⟩⟩,⟨by decide,rfl,.inl ⟨_,_,_,_,Tryz.underlying3,rfl,rfl⟩⟩,⟨by decide,rfl,.inl ⟨_,_,_,_,Tryz.underlying3,rfl,rfl⟩⟩,⟨by decide,rfl,.inl ⟨_,_,_,_,Tryz.underlying3,rfl,rfl⟩⟩,trivial⟩⟩
theorem Jb (a0 a1 b0 b1:Int):oe Tryz.prog 124 [.int .i64 a0,.int .i64 a1] [.int .i64 b0,.int .i64 b1]:=⟨_,Tryz.underlying124,aJ,aJ,⟨⟨by decide,rfl,.inl ⟨_,_,_,_,Tryz.underlying3,rfl,rfl⟩⟩,⟨by decide,rfl,.inl ⟨_,_,_,_,Tryz.underlying3,rfl,rfl⟩⟩,trivial⟩⟩
theorem Kp (a0 a1 a2 a3 b0 b1 b2 b3:Int):oe Tryz.prog 85 [.int .i64 a0,.int .i64 a1,.int .i64 a2,.int .i64 a3] [.int .i64 b0,.int .i64 b1,.int .i64 b2,.int .i64 b3]:=⟨_,Tryz.underlying85,aJ,aJ,⟨⟨by decide,rfl,.inl ⟨_,_,_,_,Tryz.underlying3,rfl,rfl⟩⟩,⟨by decide,rfl,.inl ⟨_,_,_,_,Tryz.underlying3,rfl,rfl⟩⟩,⟨by decide,rfl,.inl ⟨_,_,_,_,Tryz.underlying3,rfl,rfl⟩⟩,⟨by decide,rfl,.inl ⟨_,_,_,_,Tryz.underlying3,rfl,rfl⟩⟩,trivial⟩⟩
theorem Jc (a0 a1 b0 b1:Int):oe Tryz.prog 105 [.int .i64 a0,.int .i64 a1] [.int .i64 b0,.int .i64 b1]:=⟨_,Tryz.underlying105,aJ,aJ,⟨⟨by decide,rfl,.inl ⟨_,_,_,_,Tryz.underlying3,rfl,rfl⟩⟩,⟨by decide,rfl,.inl ⟨_,_,_,_,Tryz.underlying3,rfl,rfl⟩⟩,trivial⟩⟩
theorem Jd (a0 a1 a2 a3 b0 b1 b2 b3:Int):oe Tryz.prog 103 [.int .i64 a0,.int .i64 a1,.int .i64 a2,.int .i64 a3] [.int .i64 b0,.int .i64 b1,.int .i64 b2,.int .i64 b3]:=⟨_,Tryz.underlying103,aJ,aJ,⟨⟨by decide,rfl,.inl ⟨_,_,_,_,Tryz.underlying3,rfl,rfl⟩⟩,⟨by decide,rfl,.inl ⟨_,_,_,_,Tryz.underlying3,rfl,rfl⟩⟩,⟨by decide,rfl,.inl ⟨_,_,_,_,Tryz.underlying3,rfl,rfl⟩⟩,⟨by decide,rfl,.inl ⟨_,_,_,_,Tryz.underlying3,rfl,rfl⟩⟩,trivial⟩⟩
theorem GF (a0 a1 b0 b1:Int):oe Tryz.prog 47 [.int .i64 a0,.int .i64 a1] [.int .i64 b0,.int .i64 b1]:=⟨_,Tryz.underlying47,aJ,aJ,⟨⟨by decide,rfl,.inl ⟨_,_,_,_,Tryz.underlying45,rfl,rfl⟩⟩,⟨by decide,rfl,.inl ⟨_,_,_,_,Tryz.underlying3,rfl,rfl⟩⟩,trivial⟩⟩
theorem Kr (a0 a1 a2 b0 b1 b2:Int):oe Tryz.prog 60 [.int .i64 a0,.int .i64 a1,.int .i64 a2] [.int .i64 b0,.int .i64 b1,.int .i64 b2]:=⟨_,Tryz.underlying60,aJ,aJ,⟨⟨by decide,rfl,.inl ⟨_,_,_,_,Tryz.underlying3,rfl,rfl⟩⟩,⟨by decide,rfl,.inl ⟨_,_,_,_,Tryz.underlying3,rfl,rfl⟩⟩,⟨by decide,rfl,.inl ⟨_,_,_,_,Tryz.underlying3,rfl,rfl⟩⟩,trivial⟩⟩
theorem Ks (a0 a1 b0 b1:Int):oe Tryz.prog 53 [.int .i64 a0,.int .i64 a1] [.int .i64 b0,.int .i64 b1]:=⟨_,Tryz.underlying53,aJ,aJ,⟨⟨by decide,rfl,.inl ⟨_,_,_,_,Tryz.underlying45,rfl,rfl⟩⟩,⟨by decide,rfl,.inl ⟨_,_,_,_,Tryz.underlying3,rfl,rfl⟩⟩,trivial⟩⟩
theorem Kq (a0:Int) (a1:Int) (a2:Int) (a3:Int) (a4:Int) (a5:Int) (a6:Int) (a7:Bool) (b0:Int) (b1:Int) (b2:Int) (b3:Int) (b4:Int) (b5:Int) (b6:Int) (b7:Bool):oe Tryz.prog 81 [.int .i64 a0,.int .i64 a1,.int .i64 a2,.int .i64 a3,.int .i64 a4,.int .i64 a5,.int .i64 a6,.bool a7] [.int .i64 b0,.int .i64 b1,.int .i64 b2,.int .i64 b3,.int .i64 b4,.int .i64 b5,.int .i64 b6,.bool b7]:=⟨_,Tryz.underlying81,aJ,aJ,⟨⟨by decide,rfl,.inl ⟨_,_,_,_,Tryz.underlying3,rfl,rfl⟩⟩,⟨by decide,rfl,.inl ⟨_,_,_,_,Tryz.underlying3,rfl,rfl⟩⟩,⟨by decide,rfl,.inl ⟨_,_,_,_,Tryz.underlying3,rfl,rfl⟩⟩,⟨by decide,rfl,.inl ⟨_,_,_,_,Tryz.underlying3,rfl,rfl⟩⟩,⟨by decide,rfl,.inl ⟨_,_,_,_,Tryz.underlying3,rfl,rfl⟩⟩,⟨by decide,rfl,.inl ⟨_,_,_,_,Tryz.underlying3,rfl,rfl⟩⟩,⟨by decide,rfl,.inl ⟨_,_,_,_,Tryz.underlying3,rfl,rfl⟩⟩,⟨by decide,rfl,.inr ⟨_,_,Tryz.underlying4,rfl,rfl⟩⟩,trivial⟩⟩
theorem sV {P:Program} {st:aK} {o:Oper} {t e bytes n:Nat} {x y:Operand} {i j:Int} (k:Nat) (hT:ko P t e 1 bytes) (hz:(P.info? e).bind (fun i=>i.zero)=some (.int .i64 0)) (ho:o.op=.makeSlice t x y) (hx:ev st x (.v (.c (.d (.v (.int .i64 i)))))) (hy:ev st y (.v (.c (.d (.v (.int .i64 j))))))
    (hi:i=n) (hj:j=n) (hb:bytes * n<=281474976710656) (h63:n<=9223372036854775807):bU P o st (.v (.c (.s k 0 1 n))) [(k,.arr e 1 ((List.replicate n 0).map rI))] []:=by
  have h:=Il k hT hz rfl rfl ho hx hy hi hj hb h63
  have e1:List.replicate n [D.v (.int .i64 0)]=(List.replicate n (0:Int)).map rI:=by rw [List.map_replicate];rfl
  rw [e1] at h
  exact h
section

def mV (ps:List (Int×Int)):List (Int×Value):=ps.map fun p=>(p.1,.int .i64 p.2)
def gF:List (Int×Int)->Int->Int
 |[],_=>0
 |(k,v)::l,i=>if k=i then v else gF l i
theorem sm {a:Int}:∀ {ps:List (Int×Int)} {ms:List MapEntry} (i:Nat),ms.map (fun e=>(e.key,e.val))=(mV ps).map (fun e=>(Value.int .i64 e.1,e.2))->
  (∃ j,Instr.findNow (.int .i64) (.int .i64 a) ms i=some (some (j,.int .i64 (gF ps a))))\/(Instr.findNow (.int .i64) (.int .i64 a) ms i=some none/\gF ps a=0)
 |[],[],i,_=>.inr ⟨rfl,rfl⟩
 |[],_::_,_,h=>by cases h
 |_::_,[],_,h=>by cases h
 |(k,v)::ps,e::ms,i,h=>by
  obtain ⟨h1,h2⟩:=List.cons.inj h
  injection h1 with h3 h4
  unfold Instr.findNow gF
  rw [h3,h4]
  by_cases hk:k=a
  ·subst hk;exact .inl ⟨i,by simp [Instr.sameNow]⟩
  ·have hk':(a==k)=false:=beq_eq_false_iff_ne.2 fun e=>hk e.symm
   rcases sm (ps:=ps) (ms:=ms) (a:=a) (i+1) h2 with ⟨j,hj⟩|hj
   ·exact .inl ⟨j,by simp [Instr.sameNow,hk,hk',hj]⟩
   ·exact .inr (by simp [Instr.sameNow,hk,hk',hj])
theorem sn {a:Int}:∀ {ps:List (Int×Int)} {ms:List MapEntry} (i:Nat),ms.map (fun e=>(e.key,e.val))=(mV ps).map (fun e=>(Value.int .i64 e.1,e.2))->ps.all (fun p=>!(p.1==a))=true->
  Instr.findNow (.int .i64) (.int .i64 a) ms i=some none
 |[],[],i,_,_=>rfl
 |[],_::_,_,h,_=>by cases h
 |_::_,[],_,h,_=>by cases h
 |(k,v)::ps,e::ms,i,h,hn=>by
  obtain ⟨h1,h2⟩:=List.cons.inj h
  injection h1 with h3 h4
  rw [List.all_cons,Bool.and_eq_true] at hn
  have hk:¬k=a:=by simpa using hn.1
  have hk':(a==k)=false:=beq_eq_false_iff_ne.2 fun e=>hk e.symm
  unfold Instr.findNow
  rw [h3]
  simp [Instr.sameNow,hk',sn (i+1) h2 hn.2]
section
variable {P:Program} {st:aK} {o:Oper}
theorem sg {t:TypeId} (k:Nat) (ho:o.op=.makeMap t none):bU P o st (.v (.c (.m k))) [(k,.map (mV []) 0)] []:=
 bU.new (P:=P) fun σ T ac w C hk=>by
  refine ⟨.map (some w.heap.size),.map #[] 0,0,?_,⟨⟨w.heap.size,0⟩,#[],rfl,.inr rfl,heap_alloc_new w _,rfl⟩,⟨_,iA _ _ _,rfl⟩⟩
  unfold execOp
  simp only [ho,Option.map_none,Sem.run_bind,(show ∀ t w,(Instr.makeMap t none).run P w=.ok (.map (some w.heap.size)) (w.alloc (.map #[] 0)) from fun _ _=>rfl),Result.andThen_ok]
  rfl
theorem jb {t kt et:TypeId} {m x y:Operand} {k cl:Nat} {a v:Int} {ps ps':List (Int×Int)} (hu:P.underlying t=some (.map kt et)) (hkt:P.underlying kt=some (.int .i64)) (ho:o.op=.insert t m x y)
  (hm:ev st m (.v (.c (.m k)))) (hx:ev st x (.v (.c (.d (.v (.int .i64 a)))))) (hy:ev st y (.v (.c (.d (.v (.int .i64 v)))))) (hb:look st.h k=some (.map (mV ps) cl)) (hn:ps.all (fun p=>!(p.1==a))=true) (hp:ps++[(a,v)]=ps'):
  bU P o st (.v (.c .any)) [(k,.map (mV ps') (cl+1))] [k]:=by
 intro σ T ac w C _
 obtain ⟨g,h1,h2⟩:=bN C hm
 have h3:=bA.inv (bN C hx)
 have h4:=bA.inv (bN C hy)
 obtain ⟨g',ms,e1,e2,e3,e4⟩:=C.heap k _ hb
 rw [h1] at e1;injection e1 with e1;subst e1
 have hf:=sn (a:=a) 0 e4 hn
 have hlt:=(Array.getElem?_eq_some_iff.1 e3).1
 refine oR (w':={w with heap:=w.heap.setIfInBounds g.g (.map (ms.push {key:=.int .i64 a,val:=.int .i64 v,born:=cl}) (cl+1))}) ?_ ⟨undef,σ,T,rfl,Ext.write C hb h1 rfl rfl rfl ca (fun i hi=>(MapKept.heap_set e3).2 i hi) fun G=>?_,trivial⟩
 ·unfold execOp
  simp only [ho,h2,h3,h4,Instr.mapUpdate,Sem.run_bind,run_underlying hu,Result.andThen_ok,MapKept.run_getObj_map e3,MapKept.run_checkKey hkt (show MapKept.IsKey (.int .i64) (.int .i64 a) from rfl),MapKept.run_findKey hkt hf,MapKept.run_setObj_map _ e3]
  rfl
 ·refine ⟨g,_,rfl,e2,(MapKept.heap_set e3).1,?_⟩
  subst hp
  rw [Array.toList_push,List.map_append,e4]
  simp [mV]
theorem yW {t kt et:TypeId} {m x:Operand} {k cl:Nat} {a:Int} {ps:List (Int×Int)} (hu:P.underlying t=some (.map kt et)) (hkt:P.underlying kt=some (.int .i64)) (hz:(P.info? et).bind (fun i=>i.zero)=some (.int .i64 0)) (ho:o.op=.lookup t m x false)
  (hm:ev st m (.v (.c (.m k)))) (hx:ev st x (.v (.c (.d (.v (.int .i64 a)))))) (hb:look st.h k=some (.map (mV ps) cl)):
  bU P o st (.v (.c (.d (.v (.int .i64 (gF ps a)))))) [] []:=
 bU.val fun σ T ac w C=>by
  obtain ⟨g,h1,h2⟩:=bN C hm
  have h3:=bA.inv (bN C hx)
  obtain ⟨g',ms,e1,e2,e3,e4⟩:=C.heap k _ hb
  rw [h1] at e1;injection e1 with e1;subst e1
  refine ⟨.int .i64 (gF ps a),?_,bA.v _ rfl⟩
  cases hq:P.info? et with
  |none=>simp [hq] at hz
  |some i=>
   have hzz:i.zero=some (.int .i64 0):=by simpa [hq] using hz
   unfold execOp
   rcases sm (a:=a) 0 e4 with ⟨j,hf⟩|⟨hf,h0⟩
   ·simp [ho,h2,h3,Instr.lookup,run_underlying hu,MapKept.run_getObj_map e3,MapKept.run_checkKey hkt (show MapKept.IsKey (.int .i64) (.int .i64 a) from rfl),MapKept.run_findKey hkt hf,Result.andThen]
   ·simp [ho,h2,h3,Instr.lookup,run_underlying hu,MapKept.run_getObj_map e3,MapKept.run_checkKey hkt (show MapKept.IsKey (.int .i64) (.int .i64 a) from rfl),MapKept.run_findKey hkt hf,Result.andThen,zeroValue,typeInfo,hq,hzz,h0]
end
end
section

theorem uN {P:Program} {w:World} {t e K:Nat} {A:Option Addr} {len cap:Nat} (hu:P.underlying t=some (.slice e)) (hz:(P.info? e).map (·.size)=some K) (lo hi mx:Option Value) (l h m:Nat) (hlo:(lo=none/\l=0)\/lo=some (.int .i64 l)) (hhi:(hi=none/\h=len/\mx=none)\/hi=some (.int .i64 h)) (hmx:(mx=none/\m=cap)\/mx=some (.int .i64 m)) (h1:l<=h) (h2:h<=m) (h3:m<=cap):
  (Instr.sliceAt t (.slice A len cap) lo hi mx).run P w=.ok (.slice (if m=l then A else A.map (·.add (l * K))) (h - l) (m - l)) w:=by
 cases hq:P.info? e with
 |none=>simp [hq] at hz
 |some ii=>
  have hs:ii.size=K:=by simpa [hq] using hz
  have h4:¬((m:Int) < (l:Int)):=aa
  have h5:l<=m:=aa
  rcases hhi with ⟨rfl,rfl,rfl⟩|rfl
  ·rcases hmx with ⟨_,rfl⟩|hm
   ·rcases hlo with ⟨rfl,rfl⟩|rfl
    all_goals simp [Instr.sliceAt,run_underlying hu,Instr.slice,Instr.sliceBounds,Instr.sliceBound,asIntOf,sizeOf,typeInfo,hq,hs,h1]
    all_goals try omega
   ·cases hm
  ·rcases hlo with ⟨rfl,rfl⟩|rfl<;>rcases hmx with ⟨rfl,rfl⟩|rfl
   all_goals simp [Instr.sliceAt,run_underlying hu,Instr.slice,Instr.sliceBounds,Instr.sliceBound,asIntOf,sizeOf,typeInfo,hq,hs,h1,h2,h3]
   all_goals try omega
section
variable {P:Program} {st:aK} {o:Oper}
theorem ja {t e K k i n c c':Nat} {E E':Bool} {x:Operand} {lo hi mx:Option Operand} {l h m n':Nat} (ho:o.op=.slice t x lo hi mx) (hu:P.underlying t=some (.slice e)) (hz:(P.info? e).map (·.size)=some K) (hx:ev st x (.v (.c (.sx k i K n c E))))
  (hlo:(lo=none/\l=0)\/∃ x,lo=some x/\ev st x (.v (.c (.d (.v (.int .i64 l)))))) (hhi:(hi=none/\h=n/\mx=none)\/∃ x,hi=some x/\ev st x (.v (.c (.d (.v (.int .i64 h))))))
  (hmx:(mx=none/\m=c)\/∃ x,mx=some x/\ev st x (.v (.c (.d (.v (.int .i64 m)))))) (h1:l<=h) (h2:h<=m) (h3:m<=c) (hn:h - l=n') (hc:m - l=c') (hE:E'=true->E=true/\m=c):bU P o st (.v (.c (.sx k (i+l) K n' c' E'))) [] []:=
 bU.val fun σ T ac w C=>by
  obtain ⟨g,off,hg,hv,ho1,h4,h5,h6,h7⟩:=bN C hx
  subst hn hc
  have:=uN (P:=P) (w:=w) (A:=some ⟨g.g,off,none⟩) (len:=n) (cap:=c) hu hz (lo.map ac.eval) (hi.map ac.eval) (mx.map ac.eval) l h m
   (by rcases hlo with ⟨rfl,rfl⟩|⟨y,rfl,hy⟩;exact .inl ⟨rfl,rfl⟩;exact .inr (by rw [Option.map_some,bA.inv (bN C hy)]))
   (by rcases hhi with ⟨rfl,rfl,rfl⟩|⟨y,rfl,hy⟩;exact .inl ⟨rfl,rfl,rfl⟩;exact .inr (by rw [Option.map_some,bA.inv (bN C hy)]))
   (by rcases hmx with ⟨rfl,rfl⟩|⟨y,rfl,hy⟩;exact .inl ⟨rfl,rfl⟩;exact .inr (by rw [Option.map_some,bA.inv (bN C hy)])) h1 h2 h3
  refine ⟨.slice (if m=l then some ⟨g.g,off,none⟩ else some ⟨g.g,off+l * K,none⟩) (h - l) (m - l),?_,g,if m=l then off else off+l * K,hg,?_,?_,aa,aa,fun e=>?_,h7⟩
  ·unfold execOp
   simp only [ho,hv,Sem.run_bind,this,Result.andThen_ok,Option.map_some,Addr.add_lit]
   rfl
  ·split<;>rfl
  ·by_cases hml:m=l
   ·exact .inr aa
   ·rw [if_neg hml]
    rcases ho1 with rfl|h0
    ·exact .inl (by rw [Nat.add_mul])
    ·omega
  ·obtain ⟨h8,h9⟩:=hE e
   have:=h6 h8
   omega
theorem Iq {x:Operand} {cl:Call} {t e k i K n c:Nat} {E:Bool} (hu:P.underlying t=some (.slice e)) (ho:o.op=.call cl) (hc:cl.callee=.builtin .cap) (ha:cl.args=#[x]) (hat:cl.argTypes=#[t]) (hx:ev st x (.v (.c (.sx k i K n c E)))):bU P o st (.v (.c (.d (.v (.int .i64 c))))) [] []:=
 bU.val fun σ T ac w C=>by
  obtain ⟨g,off,hg,hv,_⟩:=bN C hx
  refine ⟨_,?_,bA.v _ rfl⟩
  unfold execOp
  simp [ho,resolve,hc,ha,hat,invoke,builtin,hv,Builtin.cap_,run_underlying hu,goInt]
theorem Im {x:Operand} {cl:Call} {t e k i K n c:Nat} {E:Bool} (hu:P.underlying t=some (.slice e)) (ho:o.op=.call cl) (hc:cl.callee=.builtin .len) (ha:cl.args=#[x]) (hat:cl.argTypes=#[t]) (hx:ev st x (.v (.c (.sx k i K n c E)))):bU P o st (.v (.c (.d (.v (.int .i64 n))))) [] []:=
 bU.val fun σ T ac w C=>by
  obtain ⟨g,off,hg,hv,_⟩:=bN C hx
  refine ⟨_,?_,bA.v _ rfl⟩
  unfold execOp
  simp [ho,resolve,hc,ha,hat,invoke,builtin,hv,Builtin.len_,run_underlying hu,goInt]
inductive pZ (st:aK):AV->Nat->Nat->Nat->List (List D)->Prop
 |d {K len m:Nat} {rows ys:List (List D)} (hl:rows.length=len) (hm:m<=len) (he:rows.take m=ys):pZ st (.v (.c (.d (.r K rows)))) K len m ys
 |s {k i t K len m:Nat} {rows ys:List (List D)} (h:look st.h k=some (.arr t K rows)) (hm:m<=len) (hi:i+m<=rows.length) (he:(rows.drop i).take m=ys):pZ st (.v (.c (.s k i K len))) K len m ys
 |x {k i t K len m c:Nat} {E:Bool} {rows ys:List (List D)} (h:look st.h k=some (.arr t K rows)) (hm:m<=len) (hi:i+m<=rows.length) (he:(rows.drop i).take m=ys):pZ st (.v (.c (.sx k i K len c E))) K len m ys
theorem pZ.read {σ:Nat->Option cg} {T:Nat->Prop} {a:Act} {w:World} (C:Core σ T st a w) {v:AV} {K len m:Nat} {ys:List (List D)} (h:pZ st v K len m ys) (hK:0 < K) (hm0:0 < m\/∃ k i c E,v=.v (.c (.sx k i K len c E))) {x:Value} (hx:fH σ T w v x):
  ys.length=m/\∃ b off c vs,x=.slice (some ⟨b,off,none⟩) len c/\Flat T w K ys ⟨b,off,none⟩ vs:=by
 cases h with
 |@d _ _ _ rows _ hl hm he=>
  subst he
  refine ⟨by rw [List.length_take];omega,?_⟩
  have hx:bA T w (.r K rows) x:=hx
  obtain hm0:0 < m:=hm0.resolve_right (fun ⟨_,_,_,_,h⟩=>by cases h)
  cases hx with
  |nil=>simp at hl;omega
  |r K rows b off c cs hb hT hc hmx hKr fk hd=>
   obtain ⟨vs,hf⟩:=vX (T:=T) (w:=w) (rows:=rows.take m) hK cs (fun i row hr=>hKr i row (by rw [List.getElem?_take] at hr;split at hr;exact hr;cases hr)) (fun i row j d hr hj=>by
    rw [List.getElem?_take] at hr
    split at hr
    ·exact ⟨fk i row j d hr hj,hd i row j d hr hj⟩
    ·cases hr)
   exact ⟨b,off,c,vs,by rw [hl],hf⟩
 |@s k i t _ _ _ rows _ hk hm hi he=>
  subst he
  refine ⟨by rw [List.length_take,List.length_drop];omega,?_⟩
  have hx:dC σ T w (.s k i K len) x:=hx
  obtain hm0:0 < m:=hm0.resolve_right (fun ⟨_,_,_,_,h⟩=>by cases h)
  rcases hx with ⟨h0,_⟩|⟨g,hg,hv,_⟩
  ·omega
  ·have hh:=C.heap k _ hk
   rw [hg] at hh
   obtain ⟨vs,hf⟩:=mf hh hi
   exact ⟨g.g,i * K,_,vs,hv,hf⟩
 |@x k i t _ _ _ c E rows _ hk hm hi he=>
  subst he
  refine ⟨by rw [List.length_take,List.length_drop];omega,?_⟩
  have hx:dC σ T w (.sx k i K len c E) x:=hx
  obtain ⟨g,off,hg,hv,ho1,h2,_⟩:=hx
  have hh:=C.heap k _ hk
  rw [hg] at hh
  obtain ⟨vs,hf⟩:=mf hh hi
  rcases ho1 with rfl|h0
  ·exact ⟨g.g,i * K,_,vs,hv,hf⟩
  ·obtain rfl:m=0:=aa
   exact ⟨g.g,off,_,[],hv,ca,⟨ca,fun i row h=>by simp at h⟩,fun j u h=>by simp at h,fun u h=>by simp at h⟩
theorem Di {T:Nat->Prop} {w:World} {K:Nat} {rows:List (List D)} {vs:List Value} (h:Rows T w K rows vs) (j:Nat):Rows T w K (rows.drop j) (vs.drop (j * K)):=by
 refine ⟨?_,fun i row hi=>?_⟩
 ·rw [List.length_drop,List.length_drop,Nat.sub_mul];have:=h.1;omega
 ·rw [List.getElem?_drop] at hi
  obtain ⟨h1,h2⟩:=h.2 _ row hi
  refine ⟨h1,fun q d hq=>?_⟩
  obtain ⟨u,hu,hr⟩:=h2 q d hq
  refine ⟨u,?_,hr⟩
  rw [List.getElem?_drop,<-hu,Nat.add_mul,Nat.add_assoc]
theorem BP {T:Nat->Prop} {w:World} {K:Nat} {rows:List (List D)} {vs:List Value} (h:Rows T w K rows vs) {i:Nat} (hi:i<=rows.length):Rows T w K (rows.take i) (vs.take (i * K))/\(vs.take (i * K)).length=(rows.take i).length * K:=by
 have h1:i * K<=vs.length:=Nat.le_trans (Nat.mul_le_mul_right K hi) h.1
 refine ⟨wG (⟨?_,fun j row hj=>?_⟩:Rows T w K (rows.take i) vs) ?_,?_⟩
 ·exact Nat.le_trans (Nat.mul_le_mul_right K (by rw [List.length_take];omega)) h.1
 ·rw [List.getElem?_take] at hj
  split at hj
  ·exact h.2 j row hj
  ·cases hj
 ·rw [List.length_take,Nat.min_eq_left hi];exact Nat.le_refl _
 ·rw [List.length_take,List.length_take,Nat.min_eq_left hi,Nat.min_eq_left h1]
theorem zX {T:Nat->Prop} {w:World} {K:Nat} {rows ys:List (List D)} {vs ws:List Value} (h:Rows T w K rows vs) (h':Rows T w K ys ws) (hw:ws.length=ys.length * K) {i:Nat} (hi:i<=rows.length):
  Rows T w K (rows.take i++ys++rows.drop (i+ys.length)) (vs.take (i * K)++ws++vs.drop (i * K+ws.length)):=by
 obtain ⟨h1,h2⟩:=BP h hi
 refine lN (lN h1 h2 h') ?_ ?_
 ·rw [List.length_append,List.length_append,h2,hw,Nat.add_mul]
 ·have:=Di h (i+ys.length)
  rwa [Nat.add_mul,<-hw] at this
theorem nZ {T:Nat->Prop} {w:World} {K:Nat} {ys:List (List D)} {b off:Nat} {vs:List Value} (hf:Flat T w K ys ⟨b,off,none⟩ vs):(loadCells ⟨b,off,none⟩ (ys.length * K)).run P w=.ok vs.toArray w:=by
 rw [<-hf.len]
 exact run_loadCells_list (P:=P) w ⟨b,off,none⟩ vs hf.cell
theorem xi {σ:Nat->Option cg} {T:Nat->Prop} {a:Act} {w:World} (C:Core σ T st a w) {e bt K k i:Nat} {rows ys:List (List D)} {g:cg} {b off:Nat} {vs:List Value} (hK:0 < K) (hg:σ k=some g) (hb:look st.h k=some (.arr bt K rows)) (hi:i<=rows.length) (bZ:i+ys.length<=g.c) (hf:Flat T w K ys ⟨b,off,none⟩ vs):
  ∃ w',(storeCells ⟨g.g,i * K,none⟩ vs).run P w=.ok () w'/\Ext σ T w σ T w' [(k,.arr bt K (rows.take i++ys++rows.drop (i+ys.length)))] [k]:=by
 have hh:=C.heap k _ hb
 obtain ⟨_,hh'⟩:=hh
 rcases hh' with ⟨_,h⟩|⟨g',cs,e1,e2,e3,e4,e5,e6⟩
 ·rw [hg] at h;cases h
 rw [hg] at e1;injection e1 with e1;subst e1
 have hfit:i * K+vs.length<=cs.length:=by rw [hf.len,e4,<-Nat.add_mul];exact Nat.mul_le_mul_right _ bZ
 have hst:=run_storeCells_at (P:=P) g.g (i * K) bt vs 0 cs.toArray w e3 (by simpa using hfit) hf.one
 refine ⟨w.setRow g.g (cs.take (i * K)++vs++cs.drop (i * K+vs.length)).toArray,by simpa using hst,Ext.write C hb hg rfl rfl rfl (setRow_size w _ _) (fun j hj=>setRow_other w g.g j _ hj) fun G=>?_⟩
 refine ⟨hK,.inr ⟨g,_,rfl,e2,setRow_heap w g.g _ _ bt (0,0) e3,?_,e5,zX (e6.grow G) (hf.qI.grow G) hf.len hi⟩⟩
 rw [<-e4];simp only [List.length_append,List.length_take,List.length_drop];omega
theorem sW {x y:Operand} {cl:Call} {v:AV} {t e bt K bytes k i n c len m:Nat} {E:Bool} {rows ys rows':List (List D)} (hT:ko P t e K bytes) (ho:o.op=.call cl) (hc:cl.callee=.builtin .copy) (ha:cl.args=#[x,y]) (hat:cl.argTypes=#[t,t])
  (hx:ev st x (.v (.c (.sx k i K n c E)))) (hb:look st.h k=some (.arr bt K rows)) (hy:ev st y v) (hs:pZ st v K len m ys) (hm:0 < m) (hmin:m=len/\len<=n\/m=n/\n<=len) (hi:i<=rows.length) (hr:rows.take i++ys++rows.drop (i+m)=rows'):
  bU P o st (.v (.c (.d (.v (.int .i64 m))))) [(k,.arr bt K rows')] [k]:=by
 intro σ T a w C _
 obtain ⟨g,off,hg,hv,ho1,h2,h3,_,h5⟩:=bN C hx
 obtain ⟨hyl,b,off2,c2,vs,hyv,hf⟩:=hs.read C hT.K0 (.inl hm) (bN C hy)
 obtain ⟨ii,z,hii,_,hsz,_⟩:=hT.i
 obtain rfl:off=i * K:=ho1.resolve_right aa
 have hml:Nat.min len n=m:=by show min len n=m;omega
 obtain ⟨w',hst,hext⟩:=xi (P:=P) (e:=e) C hT.K0 hg hb hi aa hf
 rw [hyl,hr] at hext
 refine jz (v:=.int .i64 m) (w':=w') ?_ ⟨_,σ,T,rfl,hext,bA.v _ rfl⟩
 have hld:=nZ (P:=P) hf
 rw [hyl] at hld
 unfold execOp
 simp [ho,resolve,hc,ha,hat,invoke,builtin,hv,hyv,Builtin.copy_,run_underlying hT.u,Builtin.lenOf,Builtin.firstCells,sizeOf,typeInfo,hii,hsz,hml,hld,hst,goInt]
theorem Hi {x y:Operand} {cl:Call} {v:AV} {t e bt K bytes k i n c m N:Nat} {E:Bool} {rows ys rows':List (List D)} (hT:ko P t e K bytes) (ho:o.op=.call cl) (hc:cl.callee=.builtin .append) (ha:cl.args=#[x,y]) (hat:cl.argTypes=#[t,t])
  (hx:ev st x (.v (.c (.sx k i K n c E)))) (hb:look st.h k=some (.arr bt K rows)) (hy:ev st y v) (hs:pZ st v K m m ys) (hm:0 < m\/∃ k i c E,v=.v (.c (.sx k i K m c E))) (hc0:0 < c) (hN:n+m=N) (hroom:N<=c) (hi:i+n<=rows.length) (hr:rows.take (i+n)++ys++rows.drop (i+n+m)=rows'):
  bU P o st (.v (.c (.sx k i K N c E))) [(k,.arr bt K rows')] [k]:=by
 intro σ T a w C _
 subst hN
 obtain ⟨g,off,hg,hv,ho1,h2,h3,h4,h5⟩:=bN C hx
 obtain ⟨hyl,b,off2,c2,vs,hyv,hf⟩:=hs.read C hT.K0 hm (bN C hy)
 obtain ⟨ii,z,hii,_,hsz,_⟩:=hT.i
 obtain rfl:off=i * K:=ho1.resolve_right aa
 obtain ⟨w',hst,hext⟩:=xi (P:=P) (e:=e) C hT.K0 hg hb hi aa hf
 rw [hyl,hr] at hext
 refine jz (v:=.slice (some ⟨g.g,i * K,none⟩) (n+m) c) (w':=w') ?_ ⟨_,σ,T,rfl,hext,⟨g,i * K,hg,rfl,.inl rfl,hroom,h3,h4,h5⟩⟩
 have hld:=nZ (P:=P) hf
 rw [hyl] at hld
 rw [Nat.add_mul] at hst
 unfold execOp
 simp [ho,resolve,hc,ha,hat,invoke,builtin,hv,hyv,Builtin.append_,run_underlying hT.u,Builtin.lenOf,Builtin.firstCells,sizeOf,typeInfo,hii,hsz,hld,hroom,Addr.add_lit,hst]
end
end
section

section
variable {P:Program} {W0:World} {F:Nat->Prop} {N:NT} {T0:Nat->Prop} {pin:List (Nat×cg)} {Q:Exit->aK->Prop} {s:List (Nat×AV)} {h:List (Nat×AB)} {n:Nat}
theorem Inv.slot {a:Act} {w:World} {i:Nat} {v:AV} (hI:Inv W0 F N T0 pin ⟨s,h,n⟩ a w) (hv:∀ σ T,Core σ T ⟨s,h,n⟩ a w->fH σ T w v (a.tmps.getD i undef)):Inv W0 F N T0 pin ⟨(i,v)::s,h,n⟩ a w:=by
 obtain ⟨σ,T,hT,S,hp⟩:=hI
 refine ⟨σ,T,hT,⟨⟨fun j x hj=>?_,S.core.heap,S.core.inj,S.core.ft⟩,S.os,S.tape,S.output,S.size,S.cu,S.own,S.next,S.hn,S.kM,S.kr⟩,hp⟩
 have hj':look ((i,v)::s) j=some x:=hj
 rw [cr] at hj'
 split at hj'
 ·rename_i e;subst e;injection hj' with hj';subst hj'
  exact hv σ T S.core
 ·exact S.core.gD j x hj'
theorem wm {cd:Code} {k r K m:Nat} (i:Nat) (hs:look s i=some (.v (.c (.s k r K m)))) (hm:0 < m) (hk:∀ c,m<=c->c<=9223372036854775807->AC P W0 F N T0 pin Q cd ⟨(i,.v (.c (.sx k r K m c true)))::s,h,n⟩):AC P W0 F N T0 pin Q cd ⟨s,h,n⟩:=fun a w hI=>by
 obtain ⟨σ,T,hT,S,hp⟩:=hI
 have h1:dC σ T w (.s k r K m) (a.tmps.getD i undef):=S.core.gD i _ hs
 rcases h1 with ⟨h0,_⟩|⟨g,hg,hv,h2,h3⟩
 ·omega
 ·refine hk (g.c - r) aa aa a w ?_
  refine ⟨σ,T,hT,⟨⟨fun j x hj=>?_,S.core.heap,S.core.inj,S.core.ft⟩,S.os,S.tape,S.output,S.size,S.cu,S.own,S.next,S.hn,S.kM,S.kr⟩,hp⟩
  have hj':look ((i,AV.v (.c (.sx k r K m (g.c - r) true)))::s) j=some x:=hj
  rw [cr] at hj'
  split at hj'
  ·rename_i e;subst e;injection hj' with hj';subst hj'
   exact ⟨g,r * K,hg,hv,.inl rfl,aa,aa,fun _=>by omega,h3⟩
  ·exact S.core.gD j x hj'
theorem aq.Gl {k r K m c:Nat} (i:Nat) (hs:look s i=some (.v (.c (.sx k r K m c true)))) (hc:0 < c):aq pin ⟨s,h,n⟩ ⟨(i,.v (.c (.s k r K m)))::s,h,n⟩:=fun W0 F N T0 a w hI=>
 hI.slot fun σ T C=>by
  obtain ⟨g,off,hg,hv,ho,h1,h2,h3,h4⟩:=C.gD i _ hs
  obtain rfl:off=r * K:=ho.resolve_right aa
  have:=h3 rfl
  exact .inr ⟨g,hg,by rw [hv];congr 1;omega,aa,h4⟩
end
section
variable {P:Program} {st:aK} {o:Oper}
theorem Grow.uF {σ σ':Nat->Option cg} {T T':Nat->Prop} {w w':World} {C:Nat->Prop} (G:Grow σ σ' T T' w.drew w' C):Grow σ σ' T T' w w' C:=⟨G.size,G.cu,G.CT,G.na,G.σle⟩
theorem Ext.uF {σ σ':Nat->Option cg} {T T':Nat->Prop} {w w':World} {nb:List (Nat×AB)} {E:List Nat} (X:Ext σ T w.drew σ' T' w' nb E):Ext σ T w σ' T' w' nb E:=⟨X.os,X.tape,X.output,X.grow.uF,X.oh,X.ft,X.zn,X.rel,X.fresh,X.inj⟩
theorem bU.KR {k:Nat} {b:AB} {av:AV}
  (h:∀ σ T a w,Core σ T st a w->σ k=none->∃ u ob c,(execOp a.eval o).run P w=.ok (.value u) (w.drew.alloc ob)/\dX (rA σ k ⟨w.heap.size,c⟩) (nA T w.heap.size) (w.drew.alloc ob) (some ⟨w.heap.size,c⟩) b/\fH (rA σ k ⟨w.heap.size,c⟩) (nA T w.heap.size) (w.drew.alloc ob) av u):
  bU P o st av [(k,b)] []:=
 fun σ T a w C hk=>by
  have hk:=hk k b (List.mem_singleton.2 rfl) ca
  obtain ⟨u,ob,c,hu,hr,hv⟩:=h σ T a w C hk
  exact jz hu ⟨u,_,_,rfl,Ext.uF (Ext.alloc (w:=w.drew) C.ft ob hk hr),hv⟩
theorem wF {T:Nat->Prop} {w:World} {z:Value} {K m:Nat} {zs:List Value} (hzs:z.cells.toList=zs) (hK:zs.length=K) (h1:zs.all (·.oneCell')=true):Rows T w K (List.replicate m (zs.map D.v)) (Builtin.zeroCells z.cells m).toList/\(Builtin.zeroCells z.cells m).toList.length=m * K:=by
 have hzc:z.cells.size=K:=by rw [<-hK,<-hzs];simp
 have hlen:(Builtin.zeroCells z.cells m).toList.length=m * K:=by simp [Builtin.zeroCells,hzc]
 refine ⟨⟨by rw [List.length_replicate,hlen];exact Nat.le_refl _,fun i row hi=>?_⟩,hlen⟩
 obtain ⟨hi1,rfl⟩:=List.getElem?_eq_some_iff.1 hi
 rw [List.length_replicate] at hi1
 rw [List.getElem_replicate]
 refine ⟨by rw [List.length_map,hK],fun j d hj=>?_⟩
 rw [List.getElem?_map,Option.map_eq_some_iff] at hj
 obtain ⟨u,hu,rfl⟩:=hj
 have hjK:j < K:=by rw [<-hK];exact (List.getElem?_eq_some_iff.1 hu).1
 have hlt:i * K+j < m * K:=by
  have:(i+1) * K<=m * K:=Nat.mul_le_mul_right _ hi1
  rw [Nat.add_mul] at this
  omega
 refine ⟨u,?_,.v u (List.all_eq_true.1 h1 u (List.mem_of_getElem? hu))⟩
 have hmod:(i * K+j) % K=j:=by rw [Nat.mul_comm,Nat.mul_add_mod,Nat.mod_eq_of_lt hjK]
 rw [List.getElem?_eq_getElem (by rw [hlen];exact hlt)]
 simp only [Builtin.zeroCells,Array.getElem_toList,Array.getElem_map,Array.getElem_range,hzc,hmod]
 congr 1
 rw [getElem!_pos z.cells j (by rw [hzc];exact hjK)]
 subst hzs
 rw [Array.getElem?_toList,Array.getElem?_eq_getElem (by rw [hzc];exact hjK)] at hu
 exact Option.some.inj hu
theorem Is {x y:Operand} {cl:Call} {t tn e bt K bytes k n c m N:Nat} {E:Bool} {kn:IntKind} {z:Value} {zs:List Value} {rows rows':List (List D)} (k2:Nat) (hT:ko P t e K bytes) (hz:(P.info? e).bind (fun i=>i.zero)=some z) (hzs:z.cells.toList=zs) (h1:zs.all (·.oneCell')=true) (htn:P.underlying tn=some (.int kn))
  (ho:o.op=.call cl) (hc:cl.callee=.builtin .append) (ha:cl.args=#[x,y]) (hat:cl.argTypes=#[t,tn]) (hx:ev st x (.v (.c (.sx k 0 K n c E)))) (hb:look st.h k=some (.arr bt K rows)) (hy:ev st y (.v (.c (.d (.v (.int .i64 m)))))) (hm:0 < m) (hN:n+m=N) (hroom:c < N) (hn:n<=rows.length) (h63:N<=9223372036854775807) (hby:N * bytes<=140737488355328)
  (hr:rows.take n++List.replicate m (zs.map D.v)=rows'):bU P o st (.v (.c (.s k2 0 K N))) [(k2,.arr e K rows')] []:=
 bU.KR fun σ T ac w C hk=>by
  subst hN hr
  obtain ⟨g,off,hg,hv,ho1,h2,h3,h4,h5⟩:=bN C hx
  have hyv:=bA.inv (bN C hy)
  obtain ⟨ii,z',hii,hzz,hsz,hbb,hzc⟩:=hT.i
  have hz':z'=z:=by simpa [hii,hzz] using hz
  subst hz'
  have hzl:zs.length=K:=by rw [<-hzs];simpa using hzc
  have hh:=C.heap k _ hb
  rw [hg] at hh
  obtain ⟨vs,hf⟩:∃ vs,Flat T w K (rows.take n) ⟨g.g,off,none⟩ vs:=by
   by_cases h0:n=0
   ·subst h0
    exact ⟨[],ca,⟨ca,fun i row h=>by simp at h⟩,fun j u h=>by simp at h,fun u h=>by simp at h⟩
   ·obtain rfl:off=0 * K:=ho1.resolve_right aa
    have:=mf (i:=0) (n:=n) hh aa
    rwa [List.drop_zero] at this
  have hlen:(rows.take n).length=n:=by rw [List.length_take];omega
  have hfc:∀ j u,vs[j]?=some u->w.drew.cell? ((⟨g.g,off,none⟩:Addr).add j)=some u:=hf.cell
  have hvl:vs.length=n * ii.size:=by rw [hf.len,hlen,hsz]
  have hold:(Builtin.firstCells ii.size n (.slice (some ⟨g.g,off,none⟩) n c)).run P w.drew=.ok vs.toArray w.drew:=by
   have:=run_loadCells_list (P:=P) w.drew ⟨g.g,off,none⟩ vs hfc
   rw [hvl] at this
   exact this
  have hrun:=Lib.run_append_grow_zeros (P:=P) w t tn o.type e ii z' .i64 kn hT.u htn hii hzz (some ⟨g.g,off,none⟩) n c vs hold m hm (by rw [hsz];exact hT.K0) hroom aa (by rw [hbb];have:m * bytes<=(n+m) * bytes:=Nat.mul_le_mul_right _ aa;omega) (growslice_fits hroom (by rw [hbb];exact hby))
  have hge:=grownCap_ge w (n+m) c e
  have hle:=grownCap_le_maxLen w (n+m) c e (by simp only [maxLen];omega)
  simp only [maxLen] at hle
  obtain ⟨hzr,hzl2⟩:=wF (T:=T) (w:=w) (m:=m) hzs hzl h1
  obtain ⟨hzr3,hzl3⟩:=wF (T:=T) (w:=w) (m:=grownCap w (n+m) c e - (n+m)) hzs hzl h1
  refine ⟨.slice (some ⟨w.heap.size,0,none⟩) (n+m) (grownCap w (n+m) c e),.cells (vs++(Builtin.zeroCells z'.cells m).toList++(Builtin.zeroCells z'.cells (grownCap w (n+m) c e - (n+m))).toList).toArray e,grownCap w (n+m) c e,?_,?_,.inr ⟨_,iA _ _ _,?_,?_,?_⟩⟩
  ·unfold execOp
   have e1:(vs.toArray++Builtin.zeroCells z'.cells m++Builtin.zeroCells z'.cells (grownCap w (n+m) c e - (n+m)))=(vs++(Builtin.zeroCells z'.cells m).toList++(Builtin.zeroCells z'.cells (grownCap w (n+m) c e - (n+m))).toList).toArray:=by simp
   rw [e1] at hrun
   simp [ho,resolve,hc,ha,hat,invoke,builtin,hv,hyv,hrun]
  ·refine ⟨hT.K0,.inr ⟨_,_,rfl,.inr rfl,heap_alloc_new w _,?_,by show grownCap w (n+m) c e<=_;omega,?_⟩⟩
   ·rw [List.length_append,List.length_append,hzl2,hzl3,hf.len,hlen,<-Nat.add_mul,<-Nat.add_mul]
    show (n+m+(grownCap w (n+m) c e - (n+m))) * K=grownCap w (n+m) c e * K
    congr 1;omega
   ·have G:=Grow.uF (w:=w) (Grow.alloc (w:=w.drew) (T:=T) (k:=k2) (c:=grownCap w (n+m) c e) hk (.cells (vs++(Builtin.zeroCells z'.cells m).toList++(Builtin.zeroCells z'.cells (grownCap w (n+m) c e - (n+m))).toList).toArray e) (fun _=>False) fun _ h=>h.elim)
    have h6:=lN hf.qI hf.len hzr
    refine rQ (m:=n * K+m * K) ?_
    have hl:(vs++(Builtin.zeroCells z'.cells m).toList).length=n * K+m * K:=by rw [List.length_append,hzl2,hf.len,hlen]
    rw [List.take_append_of_le_length (Nat.le_of_eq hl.symm),List.take_of_length_le (Nat.le_of_eq hl)]
    exact h6.grow G
  ·rw [Nat.zero_mul,Nat.sub_zero]
  ·show 0+(n+m)<=grownCap w (n+m) c e;omega
  ·show grownCap w (n+m) c e<=_;omega
theorem yU {t e K k i n:Nat} {x:Operand} {lo hi mx:Option Operand} {l h:Nat} (ho:o.op=.slice t x lo hi mx) (hu:P.underlying t=some (.slice e)) (hz:(P.info? e).map (·.size)=some K) (hx:ev st x (.v (.c (.s k i K n))))
  (hlo:(lo=none/\l=0)\/∃ x,lo=some x/\ev st x (.v (.c (.d (.v (.int .i64 l)))))) (hhi:(hi=none/\h=n/\mx=none)\/∃ x,hi=some x/\ev st x (.v (.c (.d (.v (.int .i64 h))))))
  (hmx:mx=none\/∃ x m,mx=some x/\ev st x (.v (.c (.d (.v (.int .i64 (m:Nat))))))/\h<=m/\m<=n) (h1:l<=h) (h2:h<=n):bU P o st (.v (.c .any)) [] []:=
 bU.val fun σ T ac w C=>by
  have key:∀ A c,n<=c->ac.eval x=.slice A n c->∃ u,(execOp ac.eval o).run P w=.ok (.value u) w:=by
   intro A c hc hA
   obtain ⟨m,hm,hm1,hm2⟩:∃ m:Nat,((mx.map ac.eval=none/\m=c)\/mx.map ac.eval=some (.int .i64 m))/\h<=m/\m<=c:=by
    rcases hmx with rfl|⟨y,m,rfl,hy,h3,h4⟩
    ·exact ⟨c,.inl ⟨rfl,rfl⟩,aa,Nat.le_refl _⟩
    ·exact ⟨m,.inr (by rw [Option.map_some,bA.inv (bN C hy)]),h3,aa⟩
   have:=uN (P:=P) (w:=w) (A:=A) (len:=n) (cap:=c) hu hz (lo.map ac.eval) (hi.map ac.eval) (mx.map ac.eval) l h m
    (by rcases hlo with ⟨rfl,rfl⟩|⟨y,rfl,hy⟩;exact .inl ⟨rfl,rfl⟩;exact .inr (by rw [Option.map_some,bA.inv (bN C hy)]))
    (by rcases hhi with ⟨rfl,rfl,rfl⟩|⟨y,rfl,hy⟩;exact .inl ⟨rfl,rfl,rfl⟩;exact .inr (by rw [Option.map_some,bA.inv (bN C hy)])) hm h1 hm1 hm2
   refine ⟨.slice (if m=l then A else A.map (·.add (l * K))) (h - l) (m - l),?_⟩
   unfold execOp
   simp only [ho,hA,Sem.run_bind,this,Result.andThen_ok]
   rfl
  have hv:dC σ T w (.s k i K n) _:=bN C hx
  rcases hv with ⟨h0,hv⟩|⟨g,hg,hv,hle,hmx⟩
  ·obtain ⟨u,hu⟩:=key none 0 aa (by rw [hv,h0]);exact ⟨u,hu,trivial⟩
  ·obtain ⟨u,hu⟩:=key _ _ aa hv;exact ⟨u,hu,trivial⟩
theorem Ch {x y:Operand} {cl:Call} {f t tr e tA tB K bytes k1 k2 m i n c:Nat} {E:Bool} {fn:Func} {r1 r2:List (List D)} (hT:ko P t e K bytes) (hf:P.funcs[f]?=some fn) (hname:(fn.name== "runtime.NumGoroutine")=false) (hbn:fn.body.isNone=true) (hn:Extern.findNext fn=none) (he:Extern.find fn=some (Extern.SlicesOverlaps.overlaps #[t,t] #[tr]))
  (ho:o.op=.call cl) (hc:cl.callee=.value (.func f)) (ha:cl.args=#[x,y]) (hx:ev st x (.v (.c (.s k1 0 K m)))) (hm:0 < m) (hy:ev st y (.v (.c (.sx k2 i K n c E)))) (hc0:0 < c) (hb1:look st.h k1=some (.arr tA K r1)) (hb2:look st.h k2=some (.arr tB K r2)) (hk:k1≠k2):bU P o st (.v (.c (.d (.v (.bool false))))) [] []:=
 bU.val fun σ T ac w C=>by
  obtain ⟨g,off,hg,hv,ho1,h2,h3,h4,h5⟩:=bN C hy
  have hxv:dC σ T w (.s k1 0 K m) _:=bN C hx
  rcases hxv with ⟨h0,_⟩|⟨g1,hg1,hv1,h6,h7⟩
  ·omega
  obtain ⟨ii,z',hii,hzz,hsz,hbb,hzc⟩:=hT.i
  have hh1:=C.heap k1 _ hb1
  have hh2:=C.heap k2 _ hb2
  rw [hg1] at hh1;rw [hg] at hh2
  rcases hh1.2 with ⟨_,h⟩|⟨g',vs1,e1,_,e3,e4,_⟩
  ·cases h
  injection e1 with e1;subst e1
  rcases hh2.2 with ⟨_,h⟩|⟨g',vs2,e1,_,e3',e4',_⟩
  ·cases h
  injection e1 with e1;subst e1
  have hne:g1.g≠g.g:=fun e=>hk (C.inj k1 k2 _ _ g1 g hb1 hb2 hg1 hg e)
  have hK:=hT.K0
  have hpos:0 < vs2.length:=by rw [e4'];exact Nat.mul_pos aa hK
  have hrun:=Lib.run_overlaps_apart (P:=P) w t tr e hT.u K (fun w=>by simp [sizeOf,typeInfo,hii,hsz]) ⟨g1.g,0 * K,none⟩ ⟨g.g,off,none⟩ m (g1.c - 0) n c hne tA tB vs1.length vs2.length (by simp [World.shape?,e3]) (by simp [World.shape?,e3']) aa (by simp [World.frozen?,e3]) (by simp [World.frozen?,e3])
  refine ⟨.bool false,?_,bA.v _ rfl⟩
  have hcall:=run_callFunc_extern hf hname hbn hn he #[ac.eval x,ac.eval y] w
  rw [hv,hv1,hrun] at hcall
  have hargs:cl.args.map ac.eval=#[.slice (some ⟨g1.g,0 * K,none⟩) m (g1.c - 0),.slice (some ⟨g.g,off,none⟩) n c]:=by rw [ha];simp [hv,hv1]
  have hfe:ac.eval (.func f)=Value.func (.func f) #[] #[]:=rfl
  unfold execOp
  simp [ho,resolve,hc,hfe,Deferred.ofValue,invoke,hargs] at hcall ⊢
  simp [hcall]
end
end
section
section
variable {P:Program} {st:aK} {o:Oper}
inductive po:AV->Prop
 |n:po (.v (.c (.d (.v (.slice none 0 0)))))
 |d (K:Nat) (rows:List (List D)) (h:rows.length=0):po (.v (.c (.d (.r K rows))))
 |s (k i K n:Nat) (h:n=0):po (.v (.c (.s k i K n)))
 |x (k i K n c:Nat) (E:Bool) (h:n=0):po (.v (.c (.sx k i K n c E)))
theorem po.read {σ:Nat->Option cg} {T:Nat->Prop} {w:World} {v:AV} (h:po v) {x:Value} (hx:fH σ T w v x):∃ A c,x=.slice A 0 c:=by
 cases h with
 |n=>exact ⟨_,_,bA.inv hx⟩
 |d K rows h=>
  have hx:bA T w (.r K rows) x:=hx
  cases hx with
  |nil A c=>exact ⟨_,_,rfl⟩
  |r=>exact ⟨_,_,by rw [h]⟩
 |s k i K n h=>
  subst h
  rcases hx with ⟨_,h⟩|⟨g,_,h,_⟩
  ·exact ⟨_,_,h⟩
  ·exact ⟨_,_,h⟩
 |x k i K n c E h=>
  subst h
  obtain ⟨g,off,_,h,_⟩:=hx
  exact ⟨_,_,h⟩
end
theorem jR {l:List (Nat×AV)} {x k i K n n':Nat} (h:look l x=some (.v (.c (.s k i K n)))) (hn:n=n'):look l x=some (.v (.c (.s k i K n'))):=by rw [h,hn]
end
section
theorem ic {a:Int}:Value.int .u8 (IntKind.u8.wrap a)=.int .u8 (a % 256):=by
 have:IntKind.u8.wrap a=a % 256:=by simp [IntKind.wrap,IntKind.bits,IntKind.signed]
 rw [this]
def rG (l:List Int):ByteArray:=l.foldl (fun r n=>r.push (UInt8.ofNat n.toNat)) ByteArray.empty
def BL (a b:List Int):Bool:=(rG a).toList==(rG b).toList
theorem wz (a:List Int):BL a a=true:=by unfold BL;exact beq_self_eq_true _
section
variable {P:Program} {st:aK} {o:Oper}
theorem Ih {xt yt:TypeId} {x y:Operand} {k:IntKind} {a b r:Int} (ho:o.op=.binOp .shr xt x y yt) (hx:ev st x (.v (.c (.d (.v (.int k a)))))) (hy:ev st y (.v (.c (.d (.v (.int .i64 b))))))
  (h0:0<=b/\b<=64) (hk:k=.i64) (hr:a / 2 ^ b.toNat=r):bU P o st (.v (.c (.d (.v (.int k r))))) [] []:=
 bU.val fun σ T ac w C=>by
  have h1:=bA.inv (bN C hx)
  have h2:=bA.inv (bN C hy)
  subst hr hk
  refine ⟨_,?_,bA.v _ rfl⟩
  unfold execOp
  have h3:=shift_shr .i64 .i64 a b h0.1 (by simpa [IntKind.bits] using h0.2)
  simp [ho,h1,h2,binOp,eqGuard,h3]
theorem vj {xt yt:TypeId} {x y:Operand} {a b r:Int} (ho:o.op=.binOp .quo xt x y yt) (hx:ev st x (.v (.c (.d (.v (.int .i64 a)))))) (hy:ev st y (.v (.c (.d (.v (.int .i64 b))))))
  (hb:0 < b) (h0:0<=a/\a<=9223372036854775807) (hr:a / b=r):bU P o st (.v (.c (.d (.v (.int .i64 r))))) [] []:=
 bU.val fun σ T ac w C=>by
  have h1:=bA.inv (bN C hx)
  have h2:=bA.inv (bN C hy)
  subst hr
  refine ⟨_,?_,bA.v _ rfl⟩
  unfold execOp
  have h3:a.tdiv b=a / b:=Int.tdiv_eq_ediv_of_nonneg h0.1
  have h4:0<=a / b:=Int.ediv_nonneg h0.1 aa
  have h5:a / b<=a:=Int.ediv_le_self b h0.1
  have h6:IntKind.i64.wrap (a / b)=a / b:=IntWalk.i64_in _ aa
  have h7:¬b=0:=aa
  simp [ho,h1,h2,binOp,eqGuard,Op.intDiv,h7,h3,h6]
theorem vi {xt yt:TypeId} {x y:Operand} {a b r:Int} (ho:o.op=.binOp .rem xt x y yt) (hx:ev st x (.v (.c (.d (.v (.int .i64 a)))))) (hy:ev st y (.v (.c (.d (.v (.int .i64 b))))))
  (hb:0 < b) (h0:0<=a) (hr:a % b=r):bU P o st (.v (.c (.d (.v (.int .i64 r))))) [] []:=
 bU.val fun σ T ac w C=>by
  have h1:=bA.inv (bN C hx)
  have h2:=bA.inv (bN C hy)
  subst hr
  refine ⟨_,?_,bA.v _ rfl⟩
  unfold execOp
  have h3:a.tmod b=a % b:=Int.tmod_eq_emod_of_nonneg h0
  have h7:¬b=0:=aa
  simp [ho,h1,h2,binOp,eqGuard,Op.intDiv,h7,h3]
theorem Cl {T:Nat->Prop} {w:World} {a:Addr} {l:List Int} {vs:List Value} (h:Flat T w 1 (l.map lO) a vs):vs=l.map (Value.int .u8):=by
 have hl:=h.len
 rw [List.length_map,Nat.mul_one] at hl
 refine List.ext_getElem? fun j=>?_
 by_cases hj:j < l.length
 ·have hr:(l.map lO)[j]?=some (lO l[j]):=aV (List.getElem?_eq_getElem hj)
  obtain ⟨u,hu,hrel⟩:=(h.qI.2 j _ hr).2 0 (.v (.int .u8 l[j])) rfl
  rw [Nat.mul_one,Nat.add_zero] at hu
  rw [hu,bA.inv hrel,List.getElem?_map,List.getElem?_eq_getElem hj]
  rfl
 ·rw [List.getElem?_eq_none aa,List.getElem?_eq_none (by rw [List.length_map];omega)]
theorem pZ.IZ {v:AV} {K m:Nat} {ys:List (List D)} (h:pZ st v K 0 m ys):po v:=by
 cases h with
 |d hl=>exact .d _ _ hl
 |s=>exact .s _ _ _ _ rfl
 |x=>exact .x _ _ _ _ _ _ rfl
theorem vk {sT dT eT:TypeId} {x:Operand} {v:AV} {n:Nat} {l:List Int} (ho:o.op=.convert sT dT x) (hs:P.underlying sT=some (.slice eT)) (he:P.underlying eT=some (.int .u8)) (hd:P.underlying dT=some .string)
  (hx:ev st x v) (hsrc:pZ st v 1 n n (l.map lO)) (hl:l.length=n):bU P o st (.v (.c (.d (.v (.string (rG l)))))) [] []:=
 bU.val fun σ T ac w C=>by
  have hxv:=bN C hx
  refine ⟨.string (rG l),?_,bA.v _ rfl⟩
  unfold execOp
  by_cases h0:n=0
  ·subst h0
   obtain rfl:=List.eq_nil_of_length_eq_zero hl
   obtain ⟨A,c,hA⟩:=hsrc.IZ.read hxv
   have hcv:=run_convert_bytes_string (P:=P) w sT dT eT A 0 c hs he hd
   have h9:(Conv.bytesToString (.slice A 0 c)).run P w=.ok (.string (rG [])) w:=by
    cases A with
    |none=>rfl
    |some a=>exact run_bytesToString w a 0 c [] (run_loadCells_list (P:=P) w a [] (fun j v hj=>by simp at hj))
   simp [ho,hA,hcv,h9]
  ·obtain ⟨hyl,b,off,c,vs,hv,hf⟩:=hsrc.read C cm (.inl aa) hxv
   have hvs:=Cl hf
   have hld:=nZ (P:=P) hf
   rw [hyl,Nat.mul_one,hvs] at hld
   have hcv:=run_convert_bytes_string (P:=P) w sT dT eT (some ⟨b,off,none⟩) n c hs he hd
   have h9:=run_bytesToString (P:=P) w ⟨b,off,none⟩ n c l hld
   simp only [ho,hv]
   simp [hcv,h9,rG]
theorem Fi {t yt:TypeId} {x y:Operand} {a b:List Int} (ho:o.op=.binOp .neq t x y yt) (hx:ev st x (.v (.c (.d (.v (.string (rG a))))))) (hy:ev st y (.v (.c (.d (.v (.string (rG b))))))):bU P o st (.v (.c (.d (.v (.bool (!BL a b)))))) [] []:=
 bU.val fun σ T ac w C=>by
  have h1:=bA.inv (bN C hx)
  have h2:=bA.inv (bN C hy)
  refine ⟨_,?_,bA.v _ rfl⟩
  unfold execOp
  simp [ho,h1,h2,binOp,eqGuard,Op.stringOp,BL]
theorem ue {t e K k i n:Nat} {x y:Operand} (ho:o.op=.slice t x (some y) none none) (hu:P.underlying t=some (.slice e)) (hz:(P.info? e).map (·.size)=some K) (hx:ev st x (.v (.c (.s k i K n)))) (hy:ev st y (.v (.c (.d (.v (.int .i64 n)))))):bU P o st (.v (.c (.d (.r K [])))) [] []:=
 bU.val fun σ T ac w C=>by
  have hv:=bN C hx
  have hyv:=bA.inv (bN C hy)
  have key:∀ A c,n<=c->ac.eval x=.slice A n c->(execOp ac.eval o).run P w=.ok (.value (.slice (if c=n then A else A.map (·.add (n * K))) (n - n) (c - n))) w:=by
   intro A c hc hA
   have:=qH (P:=P) (w:=w) (A:=A) (len:=n) (cap:=c) hu hz (some (ac.eval y)) none n n (.inr (by rw [hyv])) (.inl ⟨rfl,rfl⟩) (Nat.le_refl _) aa hc
   unfold execOp
   simp only [ho,hA,Option.map_none,Option.map_some,Sem.run_bind,this,Result.andThen_ok]
   rfl
  rcases hv with ⟨h0,hv⟩|⟨g,hg,hv,hle,hmx⟩
  ·refine ⟨_,key none 0 aa (by rw [hv,h0]),?_⟩
   rw [Nat.sub_self]
   exact bA.nil K _ _
  ·refine ⟨_,key _ _ aa hv,?_⟩
   rw [Nat.sub_self]
   exact bA.nil K _ _
end
end
section
def nk:Op->Bool
 |.defer _=>true
 |_=>false
theorem zY {n l:Nat} {P:Program} {row:String} {args:Array Value} {w:World} {R:Value->World->Prop} (h:Go.Rows P row args w R):RowsIn (Fence.wide.inRound l) n P row args w R:=fun c cs _=>by
 obtain ⟨v,w',h1,h2⟩:=h c cs
 exact ⟨v,w',h1,stepsIn_wide.2 h2⟩
section
variable {P:Program} {l n:Nat}
theorem HR {o:Oper} {a:Go.Act} {w:World} {K:Go.Act->World->Prop} {Q:Exit->Go.Act->World->Prop} (hd:nk o.op=false) (hQ:¬LetsOut Q) (h:o.wp P a w K Q\/(o.asks P a w/\LetsOut Q)):o.wpIn (Fence.wide.inRound l) n P a w K Q:=by
 have h:=h.resolve_right fun h=>hQ h.2
 have hd':∀ c,o.op≠.defer c:=fun c hc=>by rw [hc] at hd;cases hd
 refine ⟨fun f _=>trivial,?_⟩
 rw [Fence.inRound_round,Oper.semAt_some l _ o hd']
 unfold Oper.wp at h
 generalize (execOp a.eval o).run P w=r at h
 cases r with
 |ok x w'=>
  cases x<;>simp only [Oper.upon,Oper.uponIn] at h ⊢<;>
   first
    |exact h
    |exact h.elim
    |exact ⟨fun h=>(by cases h),callsIn_wide.2 h⟩
    |exact ⟨fun h=>(by cases h),zY h⟩
 |halt x w'=>cases x<;>simp only [Oper.upon,Oper.uponIn] at h ⊢<;>exact h
theorem wq {ops:Array Oper} {Q:Exit->Go.Act->World->Prop} (hQ:¬LetsOut Q):∀ (k:List Oper) (a:Go.Act) (w:World),(k.all fun o=>!nk o.op)=true->wpList P ops Q k a w->wpListIn (Fence.wide.inRound l) n P ops Q k a w
 |[],a,w,_,h=>h
 |o::k,a,w,hd,h=>by
  simp only [List.all_cons,Bool.and_eq_true,Bool.not_eq_true'] at hd
  have ih:=wq (ops:=ops) hQ k
  unfold wpList at h
  unfold wpListIn
  split at h
  ·rename_i hw
   rw [if_pos hw]
   exact HR hd.1 hQ (h.imp (fun h=>iZ h fun a w hk=>ih a w hd.2 hk) id)
  ·rename_i hw
   rw [if_neg hw]
   exact ⟨fun _ _=>trivial,ih _ _ hd.2 h⟩
theorem GK {ops:Array Oper} {Q:Exit->Go.Act->World->Prop} (hQ:¬LetsOut Q) (hd:(ops.toList.all fun o=>!nk o.op)=true) {i:Nat} {K K':Go.Act->World->Prop} {a:Go.Act} {w:World} (hK:∀ a w,K a w->K' a w) (h:wpOp P ops Q i K a w):wpOpIn (Fence.wide.inRound l) n P ops Q i K' a w:=by
 unfold wpOp at h
 unfold wpOpIn
 cases ho:ops[i]? with
 |none=>simp only [ho] at h ⊢;exact hK _ _ h
 |some o=>
  simp only [ho] at h ⊢
  have hdo:nk o.op=false:=by
   have:=List.all_eq_true.1 hd o (Array.mem_toList_iff.2 (Array.mem_of_getElem? ho))
   simpa using this
  split
  ·rename_i hw
   simp only [hw,if_true] at h
   exact HR hdo hQ (h.imp (fun h=>iZ h hK) id)
  ·rename_i hw
   simp only [hw] at h
   exact ⟨fun _ _=>trivial,hK _ _ h⟩
theorem xW {md:Region.Mode} {ops:Array Oper} {Q:Exit->Go.Act->World->Prop} (hQ:¬LetsOut Q) (hd:(ops.toList.all fun o=>!nk o.op)=true):∀ (fuel:Nat) (listed:Array Bool) (a:Go.Act) (w:World),wpAny P md ops Q fuel listed a w->wpAnyIn (Fence.wide.inRound l) n P md ops Q fuel listed a w
 |0,_,_,_,h=>h
 |fuel+1,listed,a,w,h=>by
  unfold wpAny at h
  unfold wpAnyIn
  exact ⟨h.1,fun i hi=>GK hQ hd (fun a w hk=>xW hQ hd fuel _ a w hk) (h.2 i hi)⟩
end
section
variable {P:Program} {l n:Nat} {W0:World} {F:Nat->Prop} {N:NT} {T0:Nat->Prop} {pin:List (Nat×cg)} {Q:Exit->aK->Prop} {st:aK}
def pO (P:Program) (l n:Nat) (W0:World) (F:Nat->Prop) (N:NT) (T0:Nat->Prop) (pin:List (Nat×cg)) (Q:Exit->aK->Prop) (c:Code) (st:aK):Prop:=
 (∀ st,¬Q .outgrown st)->∀ a w,Inv W0 F N T0 pin st a w->c.wpIn (Fence.wide.inRound l) n P (QX W0 F N T0 pin Q) a w
theorem Du (hq:∀ st,¬Q .outgrown st):¬LetsOut (QX W0 F N T0 pin Q):=fun ⟨_,_,st,h,_⟩=>hq st h
theorem Mc {x y:Code} (h:pO P l n W0 F N T0 pin (kN (pO P l n W0 F N T0 pin Q y) Q) x st):pO P l n W0 F N T0 pin Q (.seq x y) st:=fun hq a w hI=>
 wpIn_seq (Code.wpIn_mono (fun e a w q=>by
  obtain ⟨st',hq',hi⟩:=q
  cases e<;>first|exact hq' hq a w hi|exact ⟨st',hq',hi⟩) (h hq a w hI))
theorem KI {id:Nat} {c:Code} (h:pO P l n W0 F N T0 pin (kC id Q) c st):pO P l n W0 F N T0 pin Q (.block id c) st:=fun hq a w hI=>
 wpIn_block (Code.wpIn_mono (fun e a w q=>by
  obtain ⟨st',hq,hi⟩:=q
  cases e<;>try exact ⟨st',hq,hi⟩
  rename_i id'
  simp only [Exit.inBlock]
  by_cases hid:id'=id
  ·rw [if_pos hid];subst hid;exact ⟨st',by simpa [kC] using hq,hi⟩
  ·rw [if_neg hid];exact ⟨st',by simpa [kC,hid] using hq,hi⟩) (h hq a w hI))
theorem KA {id:Nat} {k:List Oper} (hd:(k.all fun o=>!nk o.op)=true) (h:AL P W0 F N T0 pin k.toArray Q k st):pO P l n W0 F N T0 pin Q (.region id k.toArray false) st:=fun hq a w hI=>
 wpIn_region_lit (wq (Du hq) k a w hd (h a w hI))
theorem LZ {st':aK} {c:Code} (hw:aq pin st st') (h:pO P l n W0 F N T0 pin Q c st'):pO P l n W0 F N T0 pin Q c st:=fun hq a w hI=>h hq a w (hw _ _ _ _ a w hI)
theorem Ma {id:Nat} {k:List Oper} (hd:(k.all fun o=>!nk o.op)=true) (aP:List bS) (fin:aK) (hm:P.follows .mixedOrders=true) (hB:ra k.toArray aP N.1 st fin=true) (hrows:lT P k.toArray aP k) (hsee:nR st aP aP) (hfin:xR st aP fin)
  (h:AL P W0 F N T0 pin k.toArray Q (k.drop aP.length) fin):pO P l n W0 F N T0 pin Q (.region id k.toArray true) st:=fun hq a w hI=>
 wpIn_region_any hm (xW (Du hq) (by simpa using hd) _ _ _ _ (tD aP fin hm hB hrows hsee hfin h a w hI))
end
end
section
structure oF (m:Bool) (W W':World):Prop where
 size:W.heap.size<=W'.heap.size
 cells:∀ (b:Nat) (o:Obj),W.heap[b]?=some o->o.isCells=true->W'.heap[b]?=some o
 maps:m=true->∀ (b:Nat) ms c,W.heap[b]?=some (.map ms c)->W'.heap[b]?=some (.map ms c)
theorem oF.cell {m:Bool} {W W':World} (K:oF m W W') {a:Addr} {v:Value} (h:W.cell? a=some v):W'.cell? a=some v:=by
 obtain ⟨o,ho,hc⟩:=cells_of_cell h
 exact (World.cell?_of_block ((K.cells _ _ ho hc).trans ho.symm)).trans h
theorem bA.di {m:Bool} {T:Nat->Prop} {W W':World} (K:oF m W W') {d:D} {v:Value} (h:bA T W d v):bA T W' d v:=by
 induction h with
 |v x hx=>exact .v x hx
 |nil k A c=>exact .nil k A c
 |r k rows b off c cs hb hT hc hm hK fk hd ih=>exact .r k rows b off c cs (Nat.lt_of_lt_of_le hb K.size) hT hc hm hK (fun i row j d h1 h2=>K.cell (fk i row j d h1 h2)) ih
 |f fn bu bs jn cs hb fk hd ih=>exact .f fn bu bs jn cs (fun i hi=>⟨Nat.lt_of_lt_of_le (hb i hi).1 K.size,(hb i hi).2⟩) (fun i row j d h1 h2=>K.cell (fk i row j d h1 h2)) ih
theorem dC.di {m:Bool} {σ:Nat->Option cg} {T:Nat->Prop} {W W':World} (K:oF m W W') {c:CV} {v:Value} (h:dC σ T W c v):dC σ T W' c v:=by
 cases c with
 |any=>trivial
 |d x=>exact bA.di K h
 |p=>exact h
 |q row o=>
  obtain ⟨b,off,h1,h2,h3,h4⟩:=h
  exact ⟨b,off,h1,Nat.lt_of_lt_of_le h2 K.size,h3,fun j d hj=>by obtain ⟨u,hu,hr⟩:=h4 j d hj;exact ⟨u,K.cell hu,hr.di K⟩⟩
 |s=>exact h
 |sx=>exact h
 |m=>exact h
 |fn=>exact h
theorem ef.di {m:Bool} {σ:Nat->Option cg} {T:Nat->Prop} {W W':World} (K:oF m W W') {g:GV} {v:Value} (h:ef σ T W g v):ef σ T W' g v:=by
 cases g with
 |c x=>exact dC.di K h
 |g xs=>obtain ⟨vs,h1,h2⟩:=h;exact ⟨vs,h1,h2.mono fun _ _ hh=>dC.di K hh⟩
theorem fH.di {m:Bool} {σ:Nat->Option cg} {T:Nat->Prop} {W W':World} (K:oF m W W') {x:AV} {v:Value} (h:fH σ T W x v):fH σ T W' x v:=by
 cases x with
 |v x=>exact ef.di K h
 |t xs=>obtain ⟨vs,h1,h2⟩:=h;exact ⟨vs,h1,h2.mono fun _ _ hh=>ef.di K hh⟩
def vb:AB->Bool
 |.map _ _=>true
 |_=>false
theorem dX.di {m:Bool} {σ:Nat->Option cg} {T:Nat->Prop} {W W':World} (K:oF m W W') {og:Option cg} {b:AB} (hb:m=true\/vb b=false) (h:dX σ T W og b):dX σ T W' og b:=by
 cases b with
 |box t cs=>obtain ⟨g,vs,h1,h2,h3,h4⟩:=h;exact ⟨g,vs,h1,h2,K.cells _ _ h3 rfl,h4.mono fun _ _ hh=>dC.di K hh⟩
 |arr t k rows=>
  obtain ⟨h0,h|⟨g,vs,h1,h2,h3,h4,h5,h6⟩⟩:=h
  ·exact ⟨h0,.inl h⟩
  ·exact ⟨h0,.inr ⟨g,vs,h1,h2,K.cells _ _ h3 rfl,h4,h5,h6.1,fun i row hr=>⟨(h6.2 i row hr).1,fun j d hj=>by obtain ⟨u,hu,hd⟩:=(h6.2 i row hr).2 j d hj;exact ⟨u,hu,hd.di K⟩⟩⟩⟩
 |map es c=>
  obtain ⟨g,ms,h1,h2,h3,h4⟩:=h
  have hm:m=true:=hb.resolve_right (by simp [vb])
  exact ⟨g,ms,h1,h2,K.maps hm _ _ _ h3,h4⟩
def yz (st:aK):Bool:=st.h.all fun x=>!vb x.2
theorem Ac {st:aK} (h:yz st=true) {k:Nat} {b:AB} (hk:look st.h k=some b):vb b=false:=by
 have:=List.all_eq_true.1 h _ (bP hk)
 simpa using this
section
variable {W0:World} {F:Nat->Prop} {N:NT} {T0:Nat->Prop} {pin:List (Nat×cg)} {st:aK} {a:Go.Act} {W:World}
theorem Inv.di {m:Bool} {W':World} (hI:Inv W0 F N T0 pin st a W) (K:oF m W W') (hm:m=true\/yz st=true) (hos:W'.os=W.os) (htp:W'.tape=W.tape) (hout:W'.output=W.output) (hold:∀ b,b < W0.heap.size->W'.heap[b]?=W.heap[b]?):Inv W0 F N T0 pin st a W':=by
 obtain ⟨σ,T,hT,S,hp⟩:=hI
 refine ⟨σ,T,hT,⟨⟨fun i v h=>(S.core.gD i v h).di K,fun k b h=>dX.di K (hm.imp id fun h'=>Ac h' h) (S.core.heap k b h),S.core.inj,fun b h=>Nat.lt_of_lt_of_le (S.core.ft b h) K.size⟩,hos.trans S.os,htp.trans S.tape,hout.trans S.output,Nat.le_trans S.size K.size,fun b hb hF=>(hold b hb).trans (S.cu b hb hF),S.own,S.next,S.hn,S.kM,S.kr⟩,hp⟩
theorem vR {W':World} {row:Option Nat} (hg:W.grownBy W' row) (hr:∀ r,row=some r->∃ o:Obj,W.heap[r]?=some o/\o.isCells=false):oF false W W':=
 ⟨hg.size,fun b o ho hc=>(grownBy_keeps_cells hg hr ho hc).trans ho,fun h=>by cases h⟩
theorem Inv.own (hm:yz st=true) {W':World} {row:Option Nat} (hI:Inv W0 F N T0 pin st a W) (hg:W.grownBy W' row) (hr:∀ r,row=some r->W0.heap.size<=r/\∃ o:Obj,W.heap[r]?=some o/\o.isCells=false):Inv W0 F N T0 pin st a W':=by
 have hsz:W0.heap.size<=W.heap.size:=by obtain ⟨_,_,_,S,_⟩:=hI;exact S.size
 refine hI.di (vR hg fun r e=>(hr r e).2) (.inr hm) hg.os hg.tape hg.output fun b hb=>hg.block b aa ?_
 intro e
 have:=(hr b e.symm).1
 omega
theorem bA.cu {σ:Nat->Option cg} {T:Nat->Prop} (hF:∀ b,F b->T0 b) (hT:∀ b,b < W0.heap.size->(T b->T0 b)/\(T0 b->T b)) (S:pn W0 F N σ T st a W) {d:D} {v:Value} (h:bA T0 W0 d v):bA T W d v:=by
 have cell:∀ b o u,b < W0.heap.size->¬T0 b->W0.cell? ⟨b,o,none⟩=some u->W.cell? ⟨b,o,none⟩=some u:=fun b o u hb hn hc=>
  (cell_of_heap (S.cu b hb fun h=>hn (hF b h)) o).trans hc
 induction h with
 |v x hx=>exact .v x hx
 |nil k A c=>exact .nil k A c
 |r k rows b off c cs hb hn hc hm hK fk hd ih=>exact .r k rows b off c cs (Nat.lt_of_lt_of_le hb S.size) (fun h=>hn ((hT b hb).1 h)) hc hm hK (fun i row j d h1 h2=>cell _ _ _ hb hn (fk i row j d h1 h2)) ih
 |f fn bu bs jn cs hb fk hd ih=>exact .f fn bu bs jn cs (fun i hi=>⟨Nat.lt_of_lt_of_le (hb i hi).1 S.size,fun h=>(hb i hi).2 ((hT _ (hb i hi).1).1 h)⟩) (fun i row j d h1 h2=>by
   have hi:=(List.getElem?_eq_some_iff.1 h1).1
   exact cell _ _ _ (hb i hi).1 (hb i hi).2 (fk i row j d h1 h2)) ih
def Jz (P:Program) (W0:World) (F:Nat->Prop) (N:NT) (T0:Nat->Prop) (pin:List (Nat×cg)) (Qf:Exit->Go.Act->World->Prop) (c:Code) (st:aK):Prop:=∀ a w,Inv W0 F N T0 pin st a w->c.wp P Qf a w
def XQ (W0:World) (F:Nat->Prop) (N:NT) (T0:Nat->Prop) (pin:List (Nat×cg)) (Qf:Exit->Go.Act->World->Prop):Exit->aK->Prop:=fun e st=>∀ a w,Inv W0 F N T0 pin st a w->Qf e a w
theorem Jz.seq {P:Program} {Qf:Exit->Go.Act->World->Prop} {x y:Code} (h:AC P W0 F N T0 pin (kN (Jz P W0 F N T0 pin Qf y) (XQ W0 F N T0 pin Qf)) x st):Jz P W0 F N T0 pin Qf (.seq x y) st:=fun a w hI=>
 wp_seq (Code.wp_mono (fun e a w q=>by
  obtain ⟨st',hq,hi⟩:=q
  cases e<;>exact hq a w hi) (h a w hI))
end
end
section
def CQ (nb:List (Nat×AB)) (c d:CV):Prop:=(∃ x,c=.d x/\d=.d x)\/∃ k t K n rows,c=.s k 0 K n/\d=.d (.r K rows)/\look nb k=some (.arr t K rows)/\rows.length=n
def CP (nb:List (Nat×AB)):GV->GV->Prop
 |.c c,.c d=>CQ nb c d
 |.g cs,.g ds=>cQ (CQ nb) cs ds
 |_,_=>False
def Jw (nb:List (Nat×AB)):AV->AV->Prop
 |.v c,.v d=>CP nb c d
 |.t cs,.t ds=>cQ (CP nb) cs ds
 |_,_=>False
theorem cQ.comp {α β γ:Type} {R:α->β->Prop} {S:α->γ->Prop} {U:β->γ->Prop} (h:∀ x y z,R x y->S x z->U y z):∀ {xs:List α} {ys:List β} {zs:List γ},cQ R xs ys->cQ S xs zs->cQ U ys zs
 |[],[],[],_,_=>trivial
 |_::_,_::_,_::_,h1,h2=>⟨h _ _ _ h1.1 h2.1,cQ.comp h h1.2 h2.2⟩
 |[],[],_::_,_,h2=>h2.elim
 |[],_::_,_,h1,_=>h1.elim
 |_::_,[],_,h1,_=>h1.elim
 |_::_,_::_,[],_,h2=>h2.elim
theorem Fn.frozen {P:Program} {f:FuncId} {ins:List GV} {av av':AV} {nb:List (Nat×AB)} (h:Fn P f ins av nb) (hf:Jw nb av av'):Fn P f ins av' []:=by
 intro T w args hT bZ
 refine (h T w args hT bZ).mono ?_
 rintro e w' ⟨v,σ,T',he,hB,R⟩
 have hlow:∀ b,(T' b/\b < w.heap.size)->T' b:=fun b h=>h.1
 have hc:∀ c d u,CQ nb c d->dC σ T' w' c u->dC (fun _=>none) (fun b=>T' b/\b < w.heap.size) w' d u:=by
  rintro c d u (⟨x,rfl,rfl⟩|⟨k,t,K,n,rows,rfl,rfl,hk,hn⟩) hu
  ·exact bA.gC hlow hu
  ·have hh:=R.heap k _ (bP hk)
   obtain ⟨hK,hh⟩:=hh
   rcases hu with ⟨h0,rfl⟩|⟨g,hg,rfl,hcap,hmax⟩
   ·subst h0
    have:rows=[]:=List.eq_nil_of_length_eq_zero hn
    subst this
    exact bA.nil _ _ _
   ·rcases hh with ⟨h1,h2⟩|⟨g',vs,h1,h2,h3,h4,h5,h6⟩
    ·rw [hg] at h2;cases h2
    ·rw [hg] at h1;injection h1 with h1;subst h1
     have hfr:=R.fresh k _ g (bP hk) hg
     have:=bA.r (T:=fun b=>T' b/\b < w.heap.size) (w:=w') K rows g.g (0 * K) (g.c - 0) (fun i j=>(vs[i * K+j]?).getD undef) (R.ft _ h2) (fun hb=>by have:=hb.2;omega) aa aa (fun i row hr=>(h6.2 i row hr).1) (fun i row j d hr hd=>?_) (fun i row j d hr hd=>?_)
     ·rw [hn] at this;exact this
     ·obtain ⟨u,hu,_⟩:=(h6.2 i row hr).2 j d hd
      rw [Nat.zero_mul,Nat.zero_add,cell_of_row w' g.g (i * K+j) _ _ (0,0) h3]
      simp only [List.getElem?_toArray,hu,Option.getD_some]
     ·obtain ⟨u,hu,hr'⟩:=(h6.2 i row hr).2 j d hd
      simp only [hu,Option.getD_some]
      exact hr'.gC hlow
 have hgv:∀ c d u,CP nb c d->ef σ T' w' c u->ef (fun _=>none) (fun b=>T' b/\b < w.heap.size) w' d u:=by
  intro c d u hcd hu
  match c,d,hcd with
  |.c c,.c d,hcd=>exact hc c d u hcd hu
  |.g cs,.g ds,hcd=>obtain ⟨vs,h1,h2⟩:=hu;exact ⟨vs,h1,cQ.comp (fun x y z h1 h2=>hc x y z h1 h2) hcd h2⟩
 refine ⟨v,fun _=>none,fun b=>T' b/\b < w.heap.size,he,hB,?_,fun b hb h=>R.na b hb h.1,fun b h=>⟨R.oh b h,hT b h⟩,fun b h=>R.ft b h.1,(fun _ _ h=>by cases h),(fun _ _ _ h=>by cases h),(fun _ _ _ _ _ _ h=>by cases h)⟩
 have hr:=R.rel
 match av,av',hf with
 |.v c,.v d,hf=>exact hgv c d v hf hr
 |.t cs,.t ds,hf=>obtain ⟨vs,h1,h2⟩:=hr;exact ⟨vs,h1,cQ.comp (fun x y z h1 h2=>hgv x y z h1 h2) hf h2⟩
def gq (x:Nat->Value):Nat->List (Option CV)->List CV
 |_,[]=>[]
 |i,some c::l=>c::gq x (i+1) l
 |i,none::l=>.d (.v (x i))::gq x (i+1) l
def ll:List CV->List (Option CV)->List CV
 |_::cs,some d::l=>d::ll cs l
 |c::cs,none::l=>c::ll cs l
 |_,_=>[]
def zP:CV->Bool
 |.any=>true
 |_=>false
section
variable {P:Program} {st:aK} {o:Oper}
theorem Ck {f:FuncId} {c:Call} {ins:List GV} {bZ:List (Nat×AB)} {di:List Nat} {av av':AV} {nb nb':List (Nat×AB)} {EE:List Nat} {p:D->Prop} {σ:Nat->Option cg} {T:Nat->Prop} {a:Go.Act} {w:World} (C:Core σ T st a w) (ρ μ:Nat->Nat) (E:List Nat) (hF:cS P f ins bZ di av nb) (hen:bc P f) (ho:o.op=.call c) (hc:c.callee=.value (.func f))
  (hargs:qt st E ρ (bo bZ) c.args.toList ins) (hheap:dG (fun x=>(∃ b,look st.h (ρ x.1)=some b)/\dX σ T w (σ (ρ x.1)) (x.2.map' ρ)) bZ) (hokin:bZ.all (fun x=>x.2.ok (bo bZ))=true) (hinj:eV ((keys bZ).map ρ)=true) (hE:bZ.all (fun x=>!ey (ρ x.1) E)=true) (hEl:E.all (fun e=>bo st.h e)=true)
  (hkeep:∀ k∈di,rh bZ k) (hEE:(keys bZ).map ρ=EE) (hμ:eV ((keys nb).map μ)=true) (hμk:(keys nb).all (fun k=>(ey k di && Nat.beq (μ k) (ρ k))||(!ey k di && !ey (μ k) EE))=true)
  (hg:av.fe p) (hgb:dG (fun x=>x.2.fe p) nb) (hok:av.ok (bo nb)=true) (hokb:nb.all (fun x=>x.2.ok (bo nb))=true) (hav:av.map μ=av') (hnb:gG μ nb=nb')
  (hD:∀ (σ:Nat->Option cg) (T Tc T':Nat->Prop) (w':World) d v,(∀ b,T' b->T b\/Tc b)->(∀ b,gr σ T E b->Tc b)->p d->bA Tc w' d v->bA T' w' d v):(∀ k b,(k,b)∈nb'->k ∉ EE->σ k=none)->o.wp P a w (fun a' w'=>∃ u σ' T',a'=a.put o.dst u/\Ext σ T w σ' T' w' nb' EE/\fH σ' T' w' av' u) Ba:=by
 intro hnew
 subst hav hnb hEE
 have hinj':=pC hinj
 have hin_mem:∀ k,bo bZ k=true->k∈keys bZ:=fun k hk=>by
  obtain ⟨b,hb⟩:=jv hk
  exact List.mem_map.2 ⟨(k,b),hb,rfl⟩
 have mem_in:∀ k,k∈keys bZ->bo bZ k=true:=fun k hk=>by
  obtain ⟨x,hx,rfl⟩:=List.mem_map.1 hk
  exact dL (b:=x.2) hx
 let σc:Nat->Option cg:=fun k=>if bo bZ k=true then σ (ρ k) else none
 have hσc:∀ k,bo bZ k=true->σc k=σ (ρ k):=fun k hk=>if_pos hk
 let Tc:=gr σ T E
 have hlow:∀ b,Tc b->T b:=fun b h=>h.1
 have hsep:∀ k b g,(k,b)∈bZ->σ (ρ k)=some g->Tc g.g:=by
  intro k b g hk hg
  refine ⟨(hheap.mem _ hk).2.rp hg,fun e he g' hg' hgg=>?_⟩
  obtain ⟨b',hb'⟩:=jv (List.all_eq_true.1 hEl e he)
  have hb':∃ b',look st.h e=some b':=by
   have:=List.all_eq_true.1 hEl e he
   cases hl:look st.h e with
   |none=>simp [bo,hl] at this
   |some b'=>exact ⟨b',rfl⟩
  obtain ⟨b',hb'⟩:=hb'
  obtain ⟨bk,hbk⟩:=(hheap.mem _ hk).1
  have heq:=C.inj e (ρ k) b' bk g' g hb' hbk hg' hg hgg
  have:=List.all_eq_true.1 hE _ hk
  simp only [Bool.not_eq_true'] at this
  rw [<-heq,fc.2 he] at this
  cases this
 have hh:∀ k b,(k,b)∈bZ->dX σc Tc w (σc k) b:=by
  intro k b hk
  have hkin:=dL hk
  rw [hσc k hkin]
  refine dX.gC hlow (fun g hg _=>hsep k b g hk hg) ?_
  exact dX.jH (ρ:=ρ) hσc (hheap.mem _ hk).2 (List.all_eq_true.1 hokin _ hk)
 have hij:∀ k k' b b' g g',(k,b)∈bZ->(k',b')∈bZ->σc k=some g->σc k'=some g'->g.g=g'.g->k=k':=by
  intro k k' b b' g g' hk hk' hg hg' hgg
  rw [hσc k (dL hk)] at hg
  rw [hσc k' (dL hk')] at hg'
  obtain ⟨b1,hb1⟩:=(hheap.mem _ hk).1
  obtain ⟨b2,hb2⟩:=(hheap.mem _ hk').1
  exact hinj' k k' (hin_mem _ (dL hk)) (hin_mem _ (dL hk')) (C.inj _ _ _ _ g g' hb1 hb2 hg hg' hgg)
 have hkp:∀ k∈di,bo bZ k=true/\∃ g,σ (ρ k)=some g:=by
  intro k hk
  rcases hkeep k hk with this|⟨t,K,rows,hl,hpos⟩
  ·unfold pM at this
   cases hl:look bZ k with
   |none=>simp [hl] at this
   |some b=>
    cases b with
    |box t cs=>
     refine ⟨by simp [bo,hl],?_⟩
     obtain ⟨g,_,h1,_⟩:=(hheap.mem _ (bP hl)).2
     exact ⟨g,h1⟩
    |arr=>simp [hl] at this
    |map=>simp [hl] at this
  ·refine ⟨by simp [bo,hl],?_⟩
   obtain ⟨_,h1|⟨g,_,h1,_⟩⟩:=(hheap.mem _ (bP hl)).2
   ·obtain ⟨h1,_⟩:=h1
    rw [h1] at hpos;cases hpos
   ·exact ⟨g,h1⟩
 have hrel:cQ (ef σc Tc w) ins (c.args.map a.eval).toList:=by
  rw [Array.toList_map]
  have gen:∀ (xs:List Operand) (ys:List GV),qt st E ρ (bo bZ) xs ys->cQ (ef σc Tc w) ys (xs.map a.eval):=by
   intro xs
   induction xs with
   |nil=>intro ys h;cases ys with
    |nil=>trivial
    |cons=>exact h.elim
   |cons x xs ih=>
    intro ys h
    cases ys with
    |nil=>exact h.elim
    |cons y ys=>
     refine ⟨?_,ih ys h.2⟩
     obtain ⟨g,h1,h2|h2⟩:=h.1
     ·obtain ⟨h2,h3⟩:=h2
      subst h2
      exact ef.gC hlow (ef.jH (ρ:=ρ) hσc (x:=y) (bN C h1) h3)
     ·exact ef.up (h2.rel C (bN C h1))
  exact gen _ _ hargs
 refine qb ho hc hen ((hF Tc σc w _ (fun b h=>C.ft b h.1) hh hij (fun k hk=>?_) hrel).mono ?_)
 ·obtain ⟨h1,g,h2⟩:=hkp k hk
  exact ⟨g,by rw [hσc k h1,h2]⟩
 rintro e w' ⟨v,σ',T',rfl,R⟩
 let T2:Nat->Prop:=fun b=>T b\/T' b
 let σ2:=pull μ σ' σ (keys nb)
 have hμ':=pC hμ
 have hσ2:∀ k,bo nb k=true->σ2 (μ k)=σ' k:=fun k hk=>by
  obtain ⟨b,hb⟩:=jv hk
  exact qL hμ' (List.mem_map.2 ⟨(k,b),hb,rfl⟩)
 have hD':∀ d v,p d->bA T' w' d v->bA T2 w' d v:=fun d v=>hD σ T T' T2 w' d v (fun b h=>h) R.oh
 have hmem:∀ k b,(k,b)∈gG μ nb->∃ k0 b0,(k0,b0)∈nb/\k=μ k0/\b=b0.map' μ:=by
  intro k b h
  obtain ⟨⟨k0,b0⟩,h1,h2⟩:=List.mem_map.1 h
  injection h2 with h2 h3
  exact ⟨k0,b0,h1,h2.symm,h3.symm⟩
 have hcase:∀ k∈keys nb,(k∈di/\μ k=ρ k)\/(k ∉ di/\μ k ∉ (keys bZ).map ρ):=by
  intro k hk
  have:=List.all_eq_true.1 hμk k hk
  simp only [Bool.or_eq_true,Bool.and_eq_true,Bool.not_eq_true'] at this
  rcases this with ⟨h1,h2⟩|⟨h1,h2⟩
  ·exact .inl ⟨fc.1 h1,Nat.eq_of_beq_eq_true h2⟩
  ·exact .inr ⟨fun h=>(Bool.eq_false_iff.1 h1) (fc.2 h),fun h=>(Bool.eq_false_iff.1 h2) (fc.2 h)⟩
 have C2:∀ b,(∃ k∈(keys bZ).map ρ,∃ g,σ k=some g/\g.g=b)↔∃ k∈keys bZ,∃ g,σc k=some g/\g.g=b:=by
  intro b
  constructor
  ·rintro ⟨k,hk,g,hg,hgb⟩
   obtain ⟨k0,hk0,rfl⟩:=List.mem_map.1 hk
   exact ⟨k0,hk0,g,by rw [hσc k0 (mem_in k0 hk0)];exact hg,hgb⟩
  ·rintro ⟨k,hk,g,hg,hgb⟩
   rw [hσc k (mem_in k hk)] at hg
   exact ⟨ρ k,List.mem_map.2 ⟨k,hk,rfl⟩,g,hg,hgb⟩
 refine ⟨v,rfl,v,σ2,T2,rfl,⟨R.os,R.tape,R.output,⟨R.size,fun b hb hno=>R.cu b hb fun k hk g hg hgb=>hno ((C2 b).2 ⟨k,hk,g,hg,hgb⟩),fun b hb=>?_,fun b hb h=>?_,fun j g hj=>?_⟩,fun b h=>.inl h,fun b h=>?_,fun j hj=>?_,?_,?_,?_⟩,R.rel.back hD' hσ2 hg hok⟩
 ·obtain ⟨k,hk,g,hg,rfl⟩:=hb
  obtain ⟨k0,hk0,rfl⟩:=List.mem_map.1 hk
  obtain ⟨x,hx,rfl⟩:=List.mem_map.1 hk0
  exact (hheap.mem x hx).2.rp hg
 ·rcases h with h|h
  ·exact h
  ·exact (R.na b hb h).1
 ·show pull μ σ' σ (keys nb) j=some g
  by_cases hex:∃ k∈keys nb,μ k=j
  ·obtain ⟨k,hk,rfl⟩:=hex
   rw [qL hμ' hk]
   rcases hcase k hk with ⟨h1,h2⟩|⟨h1,h2⟩
   ·rw [R.kept k h1,hσc k (hkp k h1).1,<-h2];exact hj
   ·obtain ⟨x,hx,rfl⟩:=List.mem_map.1 hk
    have:=hnew (μ x.1) (x.2.map' μ) (List.mem_map.2 ⟨x,hx,rfl⟩) h2
    rw [this] at hj;cases hj
  ·rw [px fun k hk e=>hex ⟨k,hk,e⟩];exact hj
 ·rcases h with h|h
  ·exact Nat.lt_of_lt_of_le (C.ft b h) R.size
  ·exact R.ft b h
 ·exact px fun k hk e=>by
   obtain ⟨x,hx,rfl⟩:=List.mem_map.1 hk
   exact hj (x.2.map' μ) (List.mem_map.2 ⟨x,hx,by rw [e]⟩)
 ·intro k b h
  obtain ⟨k0,b0,h1,rfl,rfl⟩:=hmem k b h
  rw [hσ2 k0 (dL h1)]
  exact (R.heap k0 b0 h1).back hD' hσ2 (fun b h=>.inr h) (hgb.mem _ h1) (List.all_eq_true.1 hokb _ h1)
 ·intro k b g h hg
  obtain ⟨k0,b0,h1,rfl,rfl⟩:=hmem k b h
  rw [hσ2 k0 (dL h1)] at hg
  rcases R.fresh k0 b0 g h1 hg with h2|⟨e,he,g',hg',hgg⟩
  ·exact .inl h2
  ·exact .inr ((C2 g.g).2 ⟨e,he,g',hg',hgg⟩)
 ·intro k k' b b' g g' h h' hg hg' hgg
  obtain ⟨k0,b0,h1,rfl,rfl⟩:=hmem k b h
  obtain ⟨k1,b1,h2,rfl,rfl⟩:=hmem k' b' h'
  rw [hσ2 k0 (dL h1)] at hg
  rw [hσ2 k1 (dL h2)] at hg'
  rw [R.inj k0 k1 b0 b1 g g' h1 h2 hg hg' hgg]

theorem dC.one {σ:Nat->Option cg} {T:Nat->Prop} {w:World} {c:CV} {v:Value} (h:dC σ T w c v) (hc:zP c=false):v.oneCell'=true:=by
 cases c with
 |any=>cases hc
 |d x=>
  have h:bA T w x v:=h
  cases h with
  |v x hx=>exact hx
  |nil=>rfl
  |r=>rfl
  |f=>rfl
 |p=>obtain ⟨g,_,rfl⟩:=h;rfl
 |q=>obtain ⟨b,off,rfl,_⟩:=h;rfl
 |s=>
  rcases h with ⟨_,rfl⟩|⟨g,_,rfl,_⟩
  ·rfl
  ·rfl
 |sx=>obtain ⟨g,off,_,rfl,_⟩:=h;rfl
 |m=>obtain ⟨g,_,rfl⟩:=h;rfl
 |fn=>obtain ⟨gs,_,rfl⟩:=h;rfl
theorem yr {σ:Nat->Option cg} {T:Nat->Prop} {w:World} {ρ:Nat->Nat} {x:Nat->Value} (hx:∀ i,(x i).oneCell'=true):∀ {cs:List CV} {vs:List Value} {ms:List (Option CV)} {i:Nat},cs.length=ms.length->ll cs (ms.map (Option.map (CV.map ρ)))=cs->cQ (dC σ T w) cs vs->(∀ j v,vs[j]?=some v->ms[j]?=some none->x (i+j)=v)->
  cQ (dC σ T w) ((gq x i ms).map (CV.map ρ)) vs
 |[],[],[],_,_,_,_,_=>trivial
 |c::cs,v::vs,some d::ms,i,hl,hf,hr,hv=>by
  have hf:d.map ρ::ll cs (ms.map (Option.map (CV.map ρ)))=c::cs:=hf
  obtain ⟨h1,h2⟩:=List.cons.inj hf
  exact ⟨h1▸hr.1,yr hx (i:=i+1) (by simpa using hl) h2 hr.2 fun j v hj hm=>by
   have:=hv (j+1) v (by simpa using hj) (by simpa using hm)
   rwa [show i+(j+1)=i+1+j by omega] at this⟩
 |c::cs,v::vs,none::ms,i,hl,hf,hr,hv=>by
  have hf:c::ll cs (ms.map (Option.map (CV.map ρ)))=c::cs:=hf
  have h0:x i=v:=by simpa using hv 0 v rfl rfl
  refine ⟨?_,yr hx (i:=i+1) (by simpa using hl) (List.cons.inj hf).2 hr.2 fun j v hj hm=>by
   have:=hv (j+1) v (by simpa using hj) (by simpa using hm)
   rwa [show i+(j+1)=i+1+j by omega] at this⟩
  show bA T w (.v (x i)) v
  rw [h0]
  exact .v _ (h0▸hx i)
 |[],_::_,_,_,_,_,hr,_=>hr.elim
 |_::_,[],_,_,_,_,hr,_=>hr.elim
 |[],[],_::_,_,hl,_,_,_=>by simp at hl
 |_::_,_::_,[],_,hl,_,_,_=>by simp at hl
theorem vP {σ:Nat->Option cg} {T:Nat->Prop} {w:World} {μ:Nat->Nat} {x:Nat->Value}:∀ {cs:List CV} {us:List Value} {ms:List (Option CV)} {i:Nat},cs.length=ms.length->cQ (dC σ T w) ((gq x i ms).map (CV.map μ)) us->(∀ j c,cs[j]?=some c->ms[j]?=some none->dC σ T w c (x (i+j)))->
  cQ (dC σ T w) (ll cs (ms.map (Option.map (CV.map μ)))) us
 |[],[],[],_,_,_,_=>trivial
 |c::cs,u::us,some d::ms,i,hl,hr,hv=>by
  have hr:dC σ T w (d.map μ) u/\cQ (dC σ T w) ((gq x (i+1) ms).map (CV.map μ)) us:=hr
  exact ⟨hr.1,vP (i:=i+1) (by simpa using hl) hr.2 fun j c hj hm=>by
   have:=hv (j+1) c (by simpa using hj) (by simpa using hm)
   rwa [show i+(j+1)=i+1+j by omega] at this⟩
 |c::cs,u::us,none::ms,i,hl,hr,hv=>by
  have hr:bA T w (.v (x i)) u/\cQ (dC σ T w) ((gq x (i+1) ms).map (CV.map μ)) us:=hr
  refine ⟨?_,vP (i:=i+1) (by simpa using hl) hr.2 fun j c hj hm=>by
   have:=hv (j+1) c (by simpa using hj) (by simpa using hm)
   rwa [show i+(j+1)=i+1+j by omega] at this⟩
  rw [bA.inv hr.1]
  exact hv 0 c rfl rfl
 |[],us,_::_,_,hl,_,_=>by simp at hl
 |_::_,us,[],_,hl,_,_=>by simp at hl
 |[],_::_,[],_,_,hr,_=>by exact (hr:False).elim
 |_::_,[],some _::_,_,_,hr,_=>by exact (hr:False).elim
 |_::_,[],none::_,_,_,hr,_=>by exact (hr:False).elim
theorem Ext.swap {σ:Nat->Option cg} {T:Nat->Prop} {w:World} {σ':Nat->Option cg} {T':Nat->Prop} {w':World} {k0:Nat} {b b':AB} {nb:List (Nat×AB)} {E:List Nat} (X:Ext σ T w σ' T' w' ((k0,b)::nb) E) (h:dX σ' T' w' (σ' k0) b'):Ext σ T w σ' T' w' ((k0,b')::nb) E:=by
 have bZ:∀ k c,(k,c)∈(k0,b')::nb->∃ c',(k,c')∈(k0,b)::nb:=fun k c hk=>by
  rcases List.mem_cons.1 hk with h1|h1
  ·injection h1 with h2 h3;subst h2;exact ⟨b,List.mem_cons_self⟩
  ·exact ⟨c,List.mem_cons_of_mem _ h1⟩
 have hout:∀ k c,(k,c)∈(k0,b)::nb->∃ c',(k,c')∈(k0,b')::nb:=fun k c hk=>by
  rcases List.mem_cons.1 hk with h1|h1
  ·injection h1 with h2 h3;subst h2;exact ⟨b',List.mem_cons_self⟩
  ·exact ⟨c,List.mem_cons_of_mem _ h1⟩
 refine ⟨X.os,X.tape,X.output,X.grow,X.oh,X.ft,fun k hk=>X.zn k fun c hc=>?_,fun k c hk=>?_,fun k c g hk hg=>?_,fun k k' c c' g g' hk hk' hg hg' hgg=>?_⟩
 ·obtain ⟨c',hc'⟩:=hout k c hc;exact hk c' hc'
 ·rcases List.mem_cons.1 hk with h1|h1
  ·injection h1 with h2 h3;subst h2 h3;exact h
  ·exact X.rel k c (List.mem_cons_of_mem _ h1)
 ·obtain ⟨d,hd⟩:=bZ k c hk;exact X.fresh k d g hd hg
 ·obtain ⟨d,hd⟩:=bZ k c hk
  obtain ⟨d',hd'⟩:=bZ k' c' hk'
  exact X.inj k k' d d' g g' hd hd' hg hg' hgg
def x0:Nat->Value:=fun _=>.int .i64 0
theorem sP {p:Nat->Bool} (x y:Nat->Value):∀ (ms:List (Option CV)) (i:Nat),(gq x i ms).all (CV.ok p)=(gq y i ms).all (CV.ok p)
 |[],_=>rfl
 |some c::ms,i=>by show (c.ok p && (gq x (i+1) ms).all (CV.ok p))=(c.ok p && (gq y (i+1) ms).all (CV.ok p));rw [sP x y ms]
 |none::ms,i=>by show (true && (gq x (i+1) ms).all (CV.ok p))=(true && (gq y (i+1) ms).all (CV.ok p));rw [sP x y ms]
theorem Hf {f:FuncId} {c:Call} {ins:List GV} {bZ:List (Nat×AB)} {di:List Nat} {av av':AV} {nb nb':List (Nat×AB)} {EE:List Nat} {p:D->Prop} {ms ms':List (Option CV)} {t:TypeId} {cs cs':List CV} {k0:Nat} (ρ μ:Nat->Nat) (E:List Nat)
  (hF:∀ x:Nat->Value,(∀ i,(x i).oneCell'=true)->cS P f ins ((0,.box t (gq x 0 ms))::bZ) (0::di) av ((0,.box t (gq x 0 ms'))::nb)) (hen:bc P f) (ho:o.op=.call c) (hc:c.callee=.value (.func f))
  (hargs:qt st E ρ (bo ((0,.box t [])::bZ)) c.args.toList ins) (hk0:ρ 0=k0) (hk0':μ 0=k0) (hbox:look st.h k0=some (.box t cs)) (hlen:cs.length=ms.length) (hlen':cs.length=ms'.length) (hfill:ll cs (ms.map (Option.map (CV.map ρ)))=cs) (hany:cs.all (fun c=>!zP c)=true)
  (hheap:dG (fun x=>look st.h (ρ x.1)=some (x.2.map' ρ)) bZ) (hokr:(gq x0 0 ms).all (CV.ok (bo ((0,.box t [])::bZ)))=true) (hokin:bZ.all (fun x=>x.2.ok (bo ((0,.box t [])::bZ)))=true) (hinj:eV ((0::keys bZ).map ρ)=true) (hE0:ey k0 E=false) (hE:bZ.all (fun x=>!ey (ρ x.1) E)=true) (hEl:E.all (fun e=>bo st.h e)=true)
  (hkeep:∀ k∈di,rh bZ k/\k≠0) (hEE:(0::keys bZ).map ρ=EE) (hμ:eV ((0::keys nb).map μ)=true) (hμk:(keys nb).all (fun k=>(ey k (0::di) && Nat.beq (μ k) (ρ k))||(!ey k (0::di) && !ey (μ k) EE))=true)
  (hg:av.fe p) (hgb:dG (fun x=>x.2.fe p) nb) (hgr:∀ x:Nat->Value,(AB.box t (gq x 0 ms')).fe p) (hok:av.ok (bo ((0,.box t [])::nb))=true) (hokr':(gq x0 0 ms').all (CV.ok (bo ((0,.box t [])::nb)))=true) (hokb:nb.all (fun x=>x.2.ok (bo ((0,.box t [])::nb)))=true) (hav:av.map μ=av') (hcs:ll cs (ms'.map (Option.map (CV.map μ)))=cs') (hnb:gG μ nb=nb')
  (hD:∀ (σ:Nat->Option cg) (T Tc T':Nat->Prop) (w':World) d v,(∀ b,T' b->T b\/Tc b)->(∀ b,gr σ T E b->Tc b)->p d->bA Tc w' d v->bA T' w' d v):bU P o st av' ((k0,.box t cs')::nb') EE:=by
 intro σ T a w C hnew
 subst hk0 hcs hnb
 have keyx:∀ (l:List CV) (hh:List (Nat×AB)),bo ((0,.box t l)::hh)=bo ((0,AB.box t [])::hh):=fun l hh=>by
  funext k;unfold bo;rw [cr,cr];split<;>rfl
 obtain ⟨g,vs,h1,h2,h3,h4⟩:=C.heap _ _ hbox
 have hvl:cs.length=vs.length:=h4.length
 obtain ⟨x,hx⟩:∃ x:Nat->Value,x=fun i=>if h:(vs.getD i undef).oneCell'=true then vs.getD i undef else .int .i64 0:=⟨_,rfl⟩
 have hx1:∀ i,(x i).oneCell'=true:=fun i=>by
  rw [hx];dsimp only;split
  ·assumption
  ·rfl
 have hany':∀ j c,cs[j]?=some c->zP c=false:=fun j c hj=>by
  have:=List.all_eq_true.1 hany c (List.mem_of_getElem? hj)
  simpa using this
 have hxv:∀ j v,vs[j]?=some v->x j=v:=fun j v hj=>by
  have hjl:j < cs.length:=by have:=(List.getElem?_eq_some_iff.1 hj).1;omega
  obtain ⟨u,hu,hr⟩:=h4.get (i:=j) (x:=cs[j]) (List.getElem?_eq_getElem hjl)
  rw [hj] at hu;injection hu with hu;subst hu
  have h5:=hr.one (hany' j _ (List.getElem?_eq_getElem hjl))
  have h6:vs.getD j undef=v:=by rw [List.getD_eq_getElem?_getD,hj];rfl
  rw [hx];dsimp only;rw [h6,dif_pos h5]
 have hbx:dX σ T w (σ (ρ 0)) ((AB.box t (gq x 0 ms)).map' ρ):=⟨g,vs,h1,h2,h3,yr hx1 hlen hfill h4 fun j v hj _=>by rw [Nat.zero_add];exact hxv j v hj⟩
 have hmem:∀ y∈bZ,(∃ b,look st.h (ρ y.1)=some b)/\dX σ T w (σ (ρ y.1)) (y.2.map' ρ):=fun y hy=>⟨⟨_,hheap.mem y hy⟩,C.heap _ _ (hheap.mem y hy)⟩
 have allL:∀ {q:Nat×AB->Prop} {l:List (Nat×AB)},(∀ y∈l,q y)->dG q l:=fun {q l} h=>by
  induction l with
  |nil=>trivial
  |cons y l ih=>exact ⟨h y List.mem_cons_self,ih fun z hz=>h z (List.mem_cons_of_mem _ hz)⟩
 have key:=Ck (av':=av') (nb':=gG μ ((0,.box t (gq x 0 ms'))::nb)) (EE:=EE) (p:=p) C ρ μ E (hF x hx1) hen ho hc (by rw [keyx];exact hargs) ⟨⟨⟨_,hbox⟩,hbx⟩,allL hmem⟩ (by
   rw [keyx]
   show ((gq x 0 ms).all _ && bZ.all _)=true
   rw [sP x x0,hokr,hokin];rfl) hinj (by show (!ey (ρ 0) E && _)=true;rw [hE0,hE];rfl) hEl (fun k hk=>by
   rcases List.mem_cons.1 hk with rfl|hk
   ·exact .inl rfl
   ·obtain ⟨h,hne⟩:=hkeep k hk
    have hl:look ((0,AB.box t (gq x 0 ms))::bZ) k=look bZ k:=by rw [cr,if_neg (Ne.symm hne)]
    unfold rh pM at h ⊢
    rw [hl];exact h) hEE hμ (by
   have h0:ey 0 (0::di)=true:=fc.2 List.mem_cons_self
   show (((ey 0 (0::di) && Nat.beq (μ 0) (ρ 0))||_) && (keys nb).all _)=true
   rw [hk0',Nat.beq_refl,h0]
   exact hμk) hg ⟨hgr x,hgb⟩ (by rw [keyx];exact hok) (by
   rw [keyx]
   show ((gq x 0 ms').all _ && nb.all _)=true
   rw [sP x x0,hokr',hokb];rfl) hav rfl hD (fun k b hk hke=>hnew k (if k=ρ 0 then .box t (ll cs (ms'.map (Option.map (CV.map μ)))) else b) (by
    rcases List.mem_cons.1 hk with h|h
    ·injection h with h5 h6;subst h5;rw [hk0',if_pos rfl];exact List.mem_cons_self
    ·by_cases e:k=ρ 0
     ·rw [if_pos e,e];exact List.mem_cons_self
     ·rw [if_neg e];exact List.mem_cons_of_mem _ h) hke)
 refine iZ key ?_
 rintro a' w' ⟨u,σ',T',rfl,X,hv⟩
 refine ⟨u,σ',T',rfl,?_,hv⟩
 have X:Ext σ T w σ' T' w' ((ρ 0,(AB.box t (gq x 0 ms')).map' μ)::gG μ nb) EE:=by
  have e:gG μ ((0,AB.box t (gq x 0 ms'))::nb)=(ρ 0,(AB.box t (gq x 0 ms')).map' μ)::gG μ nb:=by
   show (μ 0,_)::gG μ nb=_
   rw [hk0']
  rw [<-e];exact X
 refine X.swap ?_
 obtain ⟨g',us,q1,q2,q3,q4⟩:=X.rel _ _ List.mem_cons_self
 refine ⟨g',us,q1,q2,q3,vP hlen' q4 fun j c hj _=>?_⟩
 rw [Nat.zero_add]
 obtain ⟨v,hvj,hr⟩:=h4.get hj
 rw [hxv j v hvj]
 exact hr.grow X.grow
end
end
end Go.Proofs.YtnfopdlnboeheaaGreat.Dev
