/- Part 10 of the proof: Ty, Rd, Tw. -/
import Derived.Test.YtpgceiijoedppaaGreatC9
import Derived.Test.YtpgceiijoedppaaGreatProg
import Derived.WalkKit
import Derived.ProofKit
import Derived.OpenShut
import Derived.ShutString
import Derived.ChangeOld
import Derived.Below
import Derived.SizedLaws
set_option linter.unusedVariables false
set_option maxRecDepth 10000
namespace Go.Proofs.YtpgceiijoedppaaGreat
open Go
theorem by_int:Tryz.prog.bytesOf 3=8:=by kernel_rfl
theorem qQ:tfB Tryz.prog 3 false 1=true:=by kernel_rfl
theorem qhR:zvB Tryz.prog 3=some (some [.int .i64 0]):=by kernel_rfl
theorem qfR:Tryz.prog.underlying 3=some (.int .i64):=by kernel_rfl
theorem qns:(Tryz.prog.underlying 3).isSome=true:=by kernel_rfl
theorem qi7:Tryz.prog.underlying 4=some .bool:=by kernel_rfl
theorem qpz:zvB Tryz.prog 5=some (some [.int .u8 0]):=by kernel_rfl
theorem qfw:Tryz.prog.underlying 5=some (.int .u8):=by kernel_rfl
theorem qar:tfB Tryz.prog 9 false 1=true:=by kernel_rfl
theorem qfP:zvB Tryz.prog 9=some (some [.string ⟨#[]⟩]):=by kernel_rfl
theorem qbA:Tryz.prog.underlying 9=some .string:=by kernel_rfl
theorem ul_int32:Tryz.prog.underlying 21=some (.int .i32):=by kernel_rfl
theorem us_int32:(Tryz.prog.underlying 21).isSome=true:=by kernel_rfl
theorem qbq:tfB Tryz.prog 22 false 1=true:=by kernel_rfl
theorem qaf:slB Tryz.prog 22 71 7=true:=by kernel_rfl
theorem qmp:TyA Tryz.prog 22 71 7 80:=⟨qaf,⟨.agg #[.int .i64 0,.int .i64 0,.string ⟨#[]⟩,.int .i64 0,.slice none 0 0,.int .i64 0,.int .i64 0],by kernel_rfl,rfl⟩,by decide⟩
theorem qB:tfB Tryz.prog 23 false 1=true:=by kernel_rfl
theorem qjH:zvB Tryz.prog 23=some (some [.slice none 0 0]):=by kernel_rfl
theorem qy:slB Tryz.prog 23 36 9=true:=by kernel_rfl
theorem qck:TyA Tryz.prog 23 36 9 144:=⟨qy,⟨.agg #[.int .i64 0,.int .i64 0,.string ⟨#[]⟩,.int .i64 0,.slice none 0 0,.int .i64 0,.slice none 0 0,.slice none 0 0,.slice none 0 0],by kernel_rfl,rfl⟩,by decide⟩
theorem qfG:tfB Tryz.prog 24 false 1=true:=by kernel_rfl
theorem qhS:zvB Tryz.prog 24=some (some [.slice none 0 0]):=by kernel_rfl
theorem qw:slB Tryz.prog 24 55 4=true:=by kernel_rfl
theorem qbL:TyA Tryz.prog 24 55 4 64:=⟨qw,⟨.agg #[.slice none 0 0,.int .i64 0,.int .i64 0,.slice none 0 0],by kernel_rfl,rfl⟩,by decide⟩
theorem qbp:tfB Tryz.prog 26 true 4=true:=by kernel_rfl
theorem qaI:foB Tryz.prog 26 0 0=true:=by kernel_rfl
theorem q8:foB Tryz.prog 26 1 1=true:=by kernel_rfl
theorem qcI:foB Tryz.prog 26 2 2=true:=by kernel_rfl
theorem qgR:foB Tryz.prog 26 3 3=true:=by kernel_rfl
theorem qcn:stB Tryz.prog 26 [(22,0,1),(23,1,1),(3,2,1),(24,3,1)] 4=true:=by kernel_rfl
theorem qhJ:zvB Tryz.prog 26=some (some [.slice none 0 0,.slice none 0 0,.int .i64 0,.slice none 0 0]):=by kernel_rfl
theorem q9:tfB Tryz.prog 27 false 1=true:=by kernel_rfl
theorem qN:slB Tryz.prog 27 34 4=true:=by kernel_rfl
theorem qgm:TyA Tryz.prog 27 34 4 56:=⟨qN,⟨.agg #[.int .i64 0,.string ⟨#[]⟩,.int .i64 0,.slice none 0 0],by kernel_rfl,rfl⟩,by decide⟩
theorem qbZ:tfB Tryz.prog 29 false 1=true:=by kernel_rfl
theorem zv_S_int:zvB Tryz.prog 29=some (some [.slice none 0 0]):=by kernel_rfl
theorem qaW:slB Tryz.prog 29 3 1=true:=by kernel_rfl
theorem qin:TyA Tryz.prog 29 3 1 8:=⟨qaW,⟨(.int .i64 0:Value),by kernel_rfl,rfl⟩,by decide⟩
theorem qpl:Tryz.prog.bytesOf 34=56:=by kernel_rfl
theorem qz:tfB Tryz.prog 34 true 4=true:=by kernel_rfl
theorem qaL:foB Tryz.prog 34 0 0=true:=by kernel_rfl
theorem qay:foB Tryz.prog 34 1 1=true:=by kernel_rfl
theorem qbb:foB Tryz.prog 34 2 2=true:=by kernel_rfl
theorem qaa:foB Tryz.prog 34 3 3=true:=by kernel_rfl
theorem qoJ:stB Tryz.prog 34 [(3,0,1),(9,1,1),(3,2,1),(27,3,1)] 4=true:=by kernel_rfl
theorem qd4:plB Tryz.prog 34=some [(0,1),(1,1),(2,1),(3,1)]:=by kernel_rfl
theorem qaJ:zvB Tryz.prog 34=some (some [.int .i64 0,.string ⟨#[]⟩,.int .i64 0,.slice none 0 0]):=by kernel_rfl
theorem qhZ:Tryz.prog.bytesOf 36=144:=by kernel_rfl
theorem qL:tfB Tryz.prog 36 true 9=true:=by kernel_rfl
theorem qap:foB Tryz.prog 36 0 0=true:=by kernel_rfl
theorem qa6:foB Tryz.prog 36 1 1=true:=by kernel_rfl
theorem qaT:foB Tryz.prog 36 2 5=true:=by kernel_rfl
theorem qaP:foB Tryz.prog 36 3 6=true:=by kernel_rfl
theorem qaO:foB Tryz.prog 36 4 7=true:=by kernel_rfl
theorem qaD:foB Tryz.prog 36 5 8=true:=by kernel_rfl
theorem qlo:stB Tryz.prog 36 [(3,0,1),(34,1,4),(3,5,1),(23,6,1),(23,7,1),(23,8,1)] 9=true:=by kernel_rfl
theorem qeG:plB Tryz.prog 36=some [(0,1),(1,4),(5,1),(6,1),(7,1),(8,1)]:=by kernel_rfl
theorem qaX:zvB Tryz.prog 36=some (some [.int .i64 0,.int .i64 0,.string ⟨#[]⟩,.int .i64 0,.slice none 0 0,.int .i64 0,.slice none 0 0,.slice none 0 0,.slice none 0 0]):=by kernel_rfl
theorem qaK:tfB Tryz.prog 51 false 1=true:=by kernel_rfl
theorem qA:slB Tryz.prog 51 143 5=true:=by kernel_rfl
theorem qbr:TyA Tryz.prog 51 143 5 72:=⟨qA,⟨.agg #[.string ⟨#[]⟩,.int .i64 0,.string ⟨#[]⟩,.int .i64 0,.slice none 0 0],by kernel_rfl,rfl⟩,by decide⟩
theorem qav:tfB Tryz.prog 53 true 2=true:=by kernel_rfl
theorem qal:foB Tryz.prog 53 0 0=true:=by kernel_rfl
theorem qak:foB Tryz.prog 53 1 1=true:=by kernel_rfl
theorem qoK:stB Tryz.prog 53 [(3,0,1),(3,1,1)] 2=true:=by kernel_rfl
theorem qfk:plB Tryz.prog 53=some [(0,1),(1,1)]:=by kernel_rfl
theorem qd2:zvB Tryz.prog 53=some (some [.int .i64 0,.int .i64 0]):=by kernel_rfl
theorem qon:Tryz.prog.bytesOf 55=64:=by kernel_rfl
theorem qK:tfB Tryz.prog 55 true 4=true:=by kernel_rfl
theorem qaH:foB Tryz.prog 55 0 0=true:=by kernel_rfl
theorem qae:foB Tryz.prog 55 1 1=true:=by kernel_rfl
theorem qaV:foB Tryz.prog 55 2 3=true:=by kernel_rfl
theorem qnz:stB Tryz.prog 55 [(51,0,1),(53,1,2),(29,3,1)] 4=true:=by kernel_rfl
theorem qbd:plB Tryz.prog 55=some [(0,1),(1,2),(3,1)]:=by kernel_rfl
theorem qao:zvB Tryz.prog 55=some (some [.slice none 0 0,.int .i64 0,.int .i64 0,.slice none 0 0]):=by kernel_rfl
theorem qaZ:tfB Tryz.prog 69 true 6=true:=by kernel_rfl
theorem qbh:foB Tryz.prog 69 0 0=true:=by kernel_rfl
theorem qct:foB Tryz.prog 69 1 4=true:=by kernel_rfl
theorem qoM:stB Tryz.prog 69 [(34,0,4),(53,4,2)] 6=true:=by kernel_rfl
theorem qkI:plB Tryz.prog 69=some [(0,4),(4,2)]:=by kernel_rfl
theorem qgk:zvB Tryz.prog 69=some (some [.int .i64 0,.string ⟨#[]⟩,.int .i64 0,.slice none 0 0,.int .i64 0,.int .i64 0]):=by kernel_rfl
theorem qpm:Tryz.prog.bytesOf 71=80:=by kernel_rfl
theorem qb5:tfB Tryz.prog 71 true 7=true:=by kernel_rfl
theorem qa4:foB Tryz.prog 71 0 0=true:=by kernel_rfl
theorem qaM:foB Tryz.prog 71 1 1=true:=by kernel_rfl
theorem qoL:stB Tryz.prog 71 [(3,0,1),(69,1,6)] 7=true:=by kernel_rfl
theorem qkH:plB Tryz.prog 71=some [(0,1),(1,6)]:=by kernel_rfl
theorem qdw:zvB Tryz.prog 71=some (some [.int .i64 0,.int .i64 0,.string ⟨#[]⟩,.int .i64 0,.slice none 0 0,.int .i64 0,.int .i64 0]):=by kernel_rfl
theorem qaE:slB Tryz.prog 84 9 1=true:=by kernel_rfl
theorem qdb:TyA Tryz.prog 84 9 1 16:=⟨qaE,⟨(.string ⟨#[]⟩:Value),by kernel_rfl,rfl⟩,by decide⟩
theorem qcN:slB Tryz.prog 116 24 1=true:=by kernel_rfl
theorem ul_uint:Tryz.prog.underlying 125=some (.int .u64):=by kernel_rfl
theorem us_uint:(Tryz.prog.underlying 125).isSome=true:=by kernel_rfl
theorem qpn:Tryz.prog.bytesOf 143=72:=by kernel_rfl
theorem qa1:tfB Tryz.prog 143 true 5=true:=by kernel_rfl
theorem qa5:foB Tryz.prog 143 0 0=true:=by kernel_rfl
theorem qbc:foB Tryz.prog 143 1 1=true:=by kernel_rfl
theorem qoN:stB Tryz.prog 143 [(9,0,1),(34,1,4)] 5=true:=by kernel_rfl
theorem qez:plB Tryz.prog 143=some [(0,1),(1,4)]:=by kernel_rfl
theorem qa7:zvB Tryz.prog 143=some (some [.string ⟨#[]⟩,.int .i64 0,.string ⟨#[]⟩,.int .i64 0,.slice none 0 0]):=by kernel_rfl
theorem qgl:tfB Tryz.prog 193 false 1=true:=by kernel_rfl
theorem qij:Tryz.prog.underlying 248=some (.map 9 4):=by kernel_rfl
theorem qrD:Tryz.prog.underlying 263=some (.int .u32):=by kernel_rfl
theorem qii:(Tryz.prog.underlying 263).isSome=true:=by kernel_rfl
theorem qc6:Tryz.prog.underlying 267=some (.map 269 4):=by kernel_rfl
theorem qki:tfB Tryz.prog 269 true 3=true:=by kernel_rfl
theorem qoV:plB Tryz.prog 269=some [(0,1),(1,2)]:=by kernel_rfl
theorem qkd:zvB Tryz.prog 269=some (some [.string ⟨#[]⟩,.int .i64 0,.int .i64 0]):=by kernel_rfl
theorem qed:slB Tryz.prog 273 277 8=true:=by kernel_rfl
theorem qkk:TyA Tryz.prog 273 277 8 112:=⟨qed,⟨.agg #[.int .i64 0,.string ⟨#[]⟩,.int .i64 0,.slice none 0 0,.int .i64 0,.string ⟨#[]⟩,.int .i64 0,.slice none 0 0],by kernel_rfl,rfl⟩,by decide⟩
theorem qim:tfB Tryz.prog 277 true 8=true:=by kernel_rfl
theorem qgj:zvB Tryz.prog 277=some (some [.int .i64 0,.string ⟨#[]⟩,.int .i64 0,.slice none 0 0,.int .i64 0,.string ⟨#[]⟩,.int .i64 0,.slice none 0 0]):=by kernel_rfl
theorem qcS:slB Tryz.prog 292 23 1=true:=by kernel_rfl
theorem qjb:slB Tryz.prog 307 5 1=true:=by kernel_rfl
theorem qi8:TyA Tryz.prog 307 5 1 1:=⟨qjb,⟨(.int .u8 0:Value),by kernel_rfl,rfl⟩,by decide⟩
theorem qfU:slB Tryz.prog 325 29 1=true:=by kernel_rfl
theorem qhg:qY Tryz.prog 20:=qG Tryz.func20 (by kernel_rfl) (by kernel_rfl)
theorem qgW:qY Tryz.prog 21:=qG Tryz.func21 (by kernel_rfl) (by kernel_rfl)
theorem qb1:qY Tryz.prog 22:=qG Tryz.func22 (by kernel_rfl) (by kernel_rfl)
theorem qb9:qY Tryz.prog 25:=qG Tryz.func25 (by kernel_rfl) (by kernel_rfl)
theorem qgL:qY Tryz.prog 26:=qG Tryz.func26 (by kernel_rfl) (by kernel_rfl)
theorem qhP:qY Tryz.prog 28:=qG Tryz.func28 (by kernel_rfl) (by kernel_rfl)
theorem qdg:qY Tryz.prog 30:=qG Tryz.func30 (by kernel_rfl) (by kernel_rfl)
theorem qgX:qY Tryz.prog 31:=qG Tryz.func31 (by kernel_rfl) (by kernel_rfl)
theorem qeR:qY Tryz.prog 41:=qG Tryz.func41 (by kernel_rfl) (by kernel_rfl)
theorem qem:qY Tryz.prog 44:=qG Tryz.func44 (by kernel_rfl) (by kernel_rfl)
theorem qe2:qY Tryz.prog 52:=qG Tryz.func52 (by kernel_rfl) (by kernel_rfl)
theorem qhh:qY Tryz.prog 53:=qG Tryz.func53 (by kernel_rfl) (by kernel_rfl)
theorem qgT:qY Tryz.prog 56:=qG Tryz.func56 (by kernel_rfl) (by kernel_rfl)
theorem qco:qY Tryz.prog 57:=qG Tryz.func57 (by kernel_rfl) (by kernel_rfl)
theorem qdq:qY Tryz.prog 58:=qG Tryz.func58 (by kernel_rfl) (by kernel_rfl)
theorem qel:qY Tryz.prog 59:=qG Tryz.func59 (by kernel_rfl) (by kernel_rfl)
theorem qcY:qY Tryz.prog 60:=qG Tryz.func60 (by kernel_rfl) (by kernel_rfl)
theorem qeQ:qY Tryz.prog 61:=qG Tryz.func61 (by kernel_rfl) (by kernel_rfl)
theorem qbi:qY Tryz.prog 62:=qG Tryz.func62 (by kernel_rfl) (by kernel_rfl)
theorem qgJ:qY Tryz.prog 63:=qG Tryz.func63 (by kernel_rfl) (by kernel_rfl)
theorem qdl:qY Tryz.prog 65:=qG Tryz.func65 (by kernel_rfl) (by kernel_rfl)
theorem qoe:qY Tryz.prog 67:=qG Tryz.func67 (by kernel_rfl) (by kernel_rfl)
theorem qgM:qY Tryz.prog 69:=qG Tryz.func69 (by kernel_rfl) (by kernel_rfl)
theorem qdX:qY Tryz.prog 70:=qG Tryz.func70 (by kernel_rfl) (by kernel_rfl)
theorem qe0:qY Tryz.prog 71:=qG Tryz.func71 (by kernel_rfl) (by kernel_rfl)
theorem qgc:qY Tryz.prog 73:=qG Tryz.func73 (by kernel_rfl) (by kernel_rfl)
theorem qfq:qY Tryz.prog 74:=qG Tryz.func74 (by kernel_rfl) (by kernel_rfl)
theorem qeY:qY Tryz.prog 75:=qG Tryz.func75 (by kernel_rfl) (by kernel_rfl)
theorem qbS:qY Tryz.prog 76:=qG Tryz.func76 (by kernel_rfl) (by kernel_rfl)
theorem qch:qY Tryz.prog 79:=qG Tryz.func79 (by kernel_rfl) (by kernel_rfl)
theorem qfo:qY Tryz.prog 80:=qG Tryz.func80 (by kernel_rfl) (by kernel_rfl)
theorem qb6:qY Tryz.prog 84:=qG Tryz.func84 (by kernel_rfl) (by kernel_rfl)
theorem qhi:qY Tryz.prog 89:=qG Tryz.func89 (by kernel_rfl) (by kernel_rfl)
theorem qgN:qY Tryz.prog 90:=qG Tryz.func90 (by kernel_rfl) (by kernel_rfl)
theorem qbG:qY Tryz.prog 93:=qG Tryz.func93 (by kernel_rfl) (by kernel_rfl)
theorem qe3:qY Tryz.prog 95:=qG Tryz.func95 (by kernel_rfl) (by kernel_rfl)
theorem qbF:qY Tryz.prog 98:=qG Tryz.func98 (by kernel_rfl) (by kernel_rfl)
theorem qhM:qY Tryz.prog 99:=qG Tryz.func99 (by kernel_rfl) (by kernel_rfl)
theorem qbg:qY Tryz.prog 100:=qG Tryz.func100 (by kernel_rfl) (by kernel_rfl)
theorem qbl:qY Tryz.prog 101:=qG Tryz.func101 (by kernel_rfl) (by kernel_rfl)
theorem qcX:qY Tryz.prog 102:=qG Tryz.func102 (by kernel_rfl) (by kernel_rfl)
theorem qfE:qY Tryz.prog 103:=qG Tryz.func103 (by kernel_rfl) (by kernel_rfl)
theorem qbO:qY Tryz.prog 104:=qG Tryz.func104 (by kernel_rfl) (by kernel_rfl)
theorem qdS:qY Tryz.prog 105:=qG Tryz.func105 (by kernel_rfl) (by kernel_rfl)
theorem qcJ:qY Tryz.prog 106:=qG Tryz.func106 (by kernel_rfl) (by kernel_rfl)
theorem qcW:qY Tryz.prog 107:=qG Tryz.func107 (by kernel_rfl) (by kernel_rfl)
theorem qhN:qY Tryz.prog 108:=qG Tryz.func108 (by kernel_rfl) (by kernel_rfl)
theorem qfp:qY Tryz.prog 109:=qG Tryz.func109 (by kernel_rfl) (by kernel_rfl)
theorem qic:qY Tryz.prog 110:=qG Tryz.func110 (by kernel_rfl) (by kernel_rfl)
theorem qrd:qY Tryz.prog 111:=qG Tryz.func111 (by kernel_rfl) (by kernel_rfl)
theorem qbE:qY Tryz.prog 113:=qG Tryz.func113 (by kernel_rfl) (by kernel_rfl)
theorem qpi:qY Tryz.prog 115:=qG Tryz.func115 (by kernel_rfl) (by kernel_rfl)
theorem qfn:qY Tryz.prog 117:=qG Tryz.func117 (by kernel_rfl) (by kernel_rfl)
theorem qgV:qY Tryz.prog 118:=qG Tryz.func118 (by kernel_rfl) (by kernel_rfl)
theorem qhO:qY Tryz.prog 119:=qG Tryz.func119 (by kernel_rfl) (by kernel_rfl)
theorem qpj:qY Tryz.prog 120:=qG Tryz.func120 (by kernel_rfl) (by kernel_rfl)
theorem qrc:qY Tryz.prog 121:=qG Tryz.func121 (by kernel_rfl) (by kernel_rfl)
theorem qfN:qY Tryz.prog 126:=qG Tryz.func126 (by kernel_rfl) (by kernel_rfl)
theorem qdE:qY Tryz.prog 127:=qG Tryz.func127 (by kernel_rfl) (by kernel_rfl)
theorem qgG:qY Tryz.prog 128:=qG Tryz.func128 (by kernel_rfl) (by kernel_rfl)
theorem qjB:qY Tryz.prog 129:=qG Tryz.func129 (by kernel_rfl) (by kernel_rfl)
theorem qcp:qY Tryz.prog 130:=qG Tryz.func130 (by kernel_rfl) (by kernel_rfl)
theorem qcu:qY Tryz.prog 131:=qG Tryz.func131 (by kernel_rfl) (by kernel_rfl)
theorem qc4:qY Tryz.prog 132:=qG Tryz.func132 (by kernel_rfl) (by kernel_rfl)
theorem qes:qY Tryz.prog 133:=qG Tryz.func133 (by kernel_rfl) (by kernel_rfl)
theorem qfr:qY Tryz.prog 134:=qG Tryz.func134 (by kernel_rfl) (by kernel_rfl)
theorem qfM:qY Tryz.prog 139:=qG Tryz.func139 (by kernel_rfl) (by kernel_rfl)
theorem qpg:qY Tryz.prog 140:=qG Tryz.func140 (by kernel_rfl) (by kernel_rfl)
theorem qib:qY Tryz.prog 141:=qG Tryz.func141 (by kernel_rfl) (by kernel_rfl)
theorem qoc:qY Tryz.prog 142:=qG Tryz.func142 (by kernel_rfl) (by kernel_rfl)
theorem qcw:qY Tryz.prog 143:=qG Tryz.func143 (by kernel_rfl) (by kernel_rfl)
theorem qcx:qY Tryz.prog 145:=qG Tryz.func145 (by kernel_rfl) (by kernel_rfl)
theorem qe4:qY Tryz.prog 151:=qG Tryz.func151 (by kernel_rfl) (by kernel_rfl)
theorem qdQ:qY Tryz.prog 157:=qG Tryz.func157 (by kernel_rfl) (by kernel_rfl)
theorem qgK:qY Tryz.prog 159:=qG Tryz.func159 (by kernel_rfl) (by kernel_rfl)
theorem qdf:qY Tryz.prog 160:=qG Tryz.func160 (by kernel_rfl) (by kernel_rfl)
theorem qc7:qY Tryz.prog 161:=qG Tryz.func161 (by kernel_rfl) (by kernel_rfl)
theorem qce:qY Tryz.prog 162:=qG Tryz.func162 (by kernel_rfl) (by kernel_rfl)
theorem qdD:qY Tryz.prog 163:=qG Tryz.func163 (by kernel_rfl) (by kernel_rfl)
theorem qhL:qY Tryz.prog 164:=qG Tryz.func164 (by kernel_rfl) (by kernel_rfl)
theorem qk3:qY Tryz.prog 165:=qG Tryz.func165 (by kernel_rfl) (by kernel_rfl)
theorem qk5:qY Tryz.prog 166:=qG Tryz.func166 (by kernel_rfl) (by kernel_rfl)
theorem qoa:qY Tryz.prog 169:=qG Tryz.func169 (by kernel_rfl) (by kernel_rfl)
theorem qpf:qY Tryz.prog 172:=qG Tryz.func172 (by kernel_rfl) (by kernel_rfl)
theorem qhf:qY Tryz.prog 174:=qG Tryz.func174 (by kernel_rfl) (by kernel_rfl)
theorem qmY:qY Tryz.prog 176:=qG Tryz.func176 (by kernel_rfl) (by kernel_rfl)
theorem qpk:qY Tryz.prog 178:=qG Tryz.func178 (by kernel_rfl) (by kernel_rfl)
theorem qgF:qY Tryz.prog 179:=qG Tryz.func179 (by kernel_rfl) (by kernel_rfl)
theorem qeP:qY Tryz.prog 180:=qG Tryz.func180 (by kernel_rfl) (by kernel_rfl)
theorem qgI:qY Tryz.prog 182:=qG Tryz.func182 (by kernel_rfl) (by kernel_rfl)
theorem qfL:qY Tryz.prog 183:=qG Tryz.func183 (by kernel_rfl) (by kernel_rfl)
theorem qcg:qY Tryz.prog 184:=qG Tryz.func184 (by kernel_rfl) (by kernel_rfl)
theorem qcd:qY Tryz.prog 185:=qG Tryz.func185 (by kernel_rfl) (by kernel_rfl)
theorem qph:qY Tryz.prog 186:=qG Tryz.func186 (by kernel_rfl) (by kernel_rfl)
theorem qeI:qY Tryz.prog 187:=qG Tryz.func187 (by kernel_rfl) (by kernel_rfl)
theorem qm3:qY Tryz.prog 188:=qG Tryz.func188 (by kernel_rfl) (by kernel_rfl)
theorem qjC:qY Tryz.prog 189:=qG Tryz.func189 (by kernel_rfl) (by kernel_rfl)
theorem qeh:qY Tryz.prog 192:=qG Tryz.func192 (by kernel_rfl) (by kernel_rfl)
theorem qga:qY Tryz.prog 193:=qG Tryz.func193 (by kernel_rfl) (by kernel_rfl)
theorem qcv:qY Tryz.prog 194:=qG Tryz.func194 (by kernel_rfl) (by kernel_rfl)
theorem qm2:qY Tryz.prog 195:=qG Tryz.func195 (by kernel_rfl) (by kernel_rfl)
theorem qfc:qY Tryz.prog 196:=qG Tryz.func196 (by kernel_rfl) (by kernel_rfl)
theorem qhW:qY Tryz.prog 197:=qG Tryz.func197 (by kernel_rfl) (by kernel_rfl)
theorem qjL:qY Tryz.prog 198:=qG Tryz.func198 (by kernel_rfl) (by kernel_rfl)
theorem qgU:qY Tryz.prog 199:=qG Tryz.func199 (by kernel_rfl) (by kernel_rfl)
theorem qcM:qY Tryz.prog 200:=qG Tryz.func200 (by kernel_rfl) (by kernel_rfl)
theorem qcZ:qY Tryz.prog 201:=qG Tryz.func201 (by kernel_rfl) (by kernel_rfl)
theorem qmX:qY Tryz.prog 203:=qG Tryz.func203 (by kernel_rfl) (by kernel_rfl)
theorem qjz:qY Tryz.prog 204:=qG Tryz.func204 (by kernel_rfl) (by kernel_rfl)
theorem qd9:qY Tryz.prog 205:=qG Tryz.func205 (by kernel_rfl) (by kernel_rfl)
theorem qiU:qY Tryz.prog 207:=qG Tryz.func207 (by kernel_rfl) (by kernel_rfl)
theorem qcf:qY Tryz.prog 209:=qG Tryz.func209 (by kernel_rfl) (by kernel_rfl)
theorem qb4:qY Tryz.prog 210:=qG Tryz.func210 (by kernel_rfl) (by kernel_rfl)
theorem qhX:qY Tryz.prog 211:=qG Tryz.func211 (by kernel_rfl) (by kernel_rfl)
theorem qie:qY Tryz.prog 220:=qG Tryz.func220 (by kernel_rfl) (by kernel_rfl)
theorem qdR:qY Tryz.prog 221:=qG Tryz.func221 (by kernel_rfl) (by kernel_rfl)
theorem qe1:qY Tryz.prog 222:=qG Tryz.func222 (by kernel_rfl) (by kernel_rfl)
theorem qlu:qY Tryz.prog 223:=qG Tryz.func223 (by kernel_rfl) (by kernel_rfl)
theorem qmV:qY Tryz.prog 224:=qG Tryz.func224 (by kernel_rfl) (by kernel_rfl)
theorem qn8:qY Tryz.prog 225:=qG Tryz.func225 (by kernel_rfl) (by kernel_rfl)
theorem qdt:qY Tryz.prog 226:=qG Tryz.func226 (by kernel_rfl) (by kernel_rfl)
theorem qlw:qY Tryz.prog 227:=qG Tryz.func227 (by kernel_rfl) (by kernel_rfl)
theorem qc5:qY Tryz.prog 228:=qG Tryz.func228 (by kernel_rfl) (by kernel_rfl)
theorem qdu:qY Tryz.prog 229:=qG Tryz.func229 (by kernel_rfl) (by kernel_rfl)
theorem qm0:qY Tryz.prog 230:=qG Tryz.func230 (by kernel_rfl) (by kernel_rfl)
theorem qjA:qY Tryz.prog 233:=qG Tryz.func233 (by kernel_rfl) (by kernel_rfl)
theorem qiT:qY Tryz.prog 234:=qG Tryz.func234 (by kernel_rfl) (by kernel_rfl)
theorem qcD:qY Tryz.prog 235:=qG Tryz.func235 (by kernel_rfl) (by kernel_rfl)
theorem qhY:qY Tryz.prog 236:=qG Tryz.func236 (by kernel_rfl) (by kernel_rfl)
theorem qei:qY Tryz.prog 237:=qG Tryz.func237 (by kernel_rfl) (by kernel_rfl)
theorem qhe:qY Tryz.prog 239:=qG Tryz.func239 (by kernel_rfl) (by kernel_rfl)
theorem qgE:qY Tryz.prog 240:=qG Tryz.func240 (by kernel_rfl) (by kernel_rfl)
theorem qdv:qY Tryz.prog 241:=qG Tryz.func241 (by kernel_rfl) (by kernel_rfl)
theorem qfm:qY Tryz.prog 242:=qG Tryz.func242 (by kernel_rfl) (by kernel_rfl)
theorem qgQ:qY Tryz.prog 243:=qG Tryz.func243 (by kernel_rfl) (by kernel_rfl)
theorem qcc:qY Tryz.prog 254:=qG Tryz.func254 (by kernel_rfl) (by kernel_rfl)
theorem qgb:qY Tryz.prog 255:=qG Tryz.func255 (by kernel_rfl) (by kernel_rfl)
theorem qgH:qY Tryz.prog 256:=qG Tryz.func256 (by kernel_rfl) (by kernel_rfl)
theorem qm1:qY Tryz.prog 257:=qG Tryz.func257 (by kernel_rfl) (by kernel_rfl)
theorem qiV:qY Tryz.prog 258:=qG Tryz.func258 (by kernel_rfl) (by kernel_rfl)
theorem qmU:qY Tryz.prog 259:=qG Tryz.func259 (by kernel_rfl) (by kernel_rfl)
theorem qod:qY Tryz.prog 261:=qG Tryz.func261 (by kernel_rfl) (by kernel_rfl)
theorem qk4:qY Tryz.prog 262:=qG Tryz.func262 (by kernel_rfl) (by kernel_rfl)
theorem qiS:qY Tryz.prog 273:=qG Tryz.func273 (by kernel_rfl) (by kernel_rfl)
theorem qdP:qY Tryz.prog 274:=qG Tryz.func274 (by kernel_rfl) (by kernel_rfl)
theorem qid:qY Tryz.prog 275:=qG Tryz.func275 (by kernel_rfl) (by kernel_rfl)
theorem qde:qY Tryz.prog 276:=qG Tryz.func276 (by kernel_rfl) (by kernel_rfl)
theorem qdL:qY Tryz.prog 277:=qG Tryz.func277 (by kernel_rfl) (by kernel_rfl)
theorem qmZ:qY Tryz.prog 279:=qG Tryz.func279 (by kernel_rfl) (by kernel_rfl)
theorem qek:qY Tryz.prog 280:=qG Tryz.func280 (by kernel_rfl) (by kernel_rfl)
theorem qof:qY Tryz.prog 289:=qG Tryz.func289 (by kernel_rfl) (by kernel_rfl)
theorem qbo:qY Tryz.prog 290:=qG Tryz.func290 (by kernel_rfl) (by kernel_rfl)
theorem qob:qY Tryz.prog 291:=qG Tryz.func291 (by kernel_rfl) (by kernel_rfl)
theorem qjD:qY Tryz.prog 292:=qG Tryz.func292 (by kernel_rfl) (by kernel_rfl)
theorem qlx:qY Tryz.prog 293:=qG Tryz.func293 (by kernel_rfl) (by kernel_rfl)
theorem qlv:qY Tryz.prog 294:=qG Tryz.func294 (by kernel_rfl) (by kernel_rfl)
theorem qf9:qY Tryz.prog 295:=qG Tryz.func295 (by kernel_rfl) (by kernel_rfl)
theorem qmW:qY Tryz.prog 313:=qG Tryz.func313 (by kernel_rfl) (by kernel_rfl)
theorem qjm:qY Tryz.prog 320:=qG Tryz.func320 (by kernel_rfl) (by kernel_rfl)
theorem qej:qY Tryz.prog 321:=qG Tryz.func321 (by kernel_rfl) (by kernel_rfl)
theorem qjK:qY Tryz.prog 322:=qG Tryz.func322 (by kernel_rfl) (by kernel_rfl)
theorem qgS:qY Tryz.prog 323:=qG Tryz.func323 (by kernel_rfl) (by kernel_rfl)
theorem qn9:qY Tryz.prog 341:=qG Tryz.func341 (by kernel_rfl) (by kernel_rfl)
theorem mixed:Tryz.prog.follows .mixedOrders=true:=by kernel_rfl
end Go.Proofs.YtpgceiijoedppaaGreat
set_option maxRecDepth 8000
namespace Go.Proofs.YtpgceiijoedppaaGreat
open Go Go.RowKit
theorem Tm.wfs_of:∀ {l:List Tm},(∀ t,t∈l→t.wf)→Tm.wfs l
 | [],_=>trivial
 | t::l,h=>⟨(Tm.wf0_iff t).2 (h t (by simp)),Tm.wfs_of fun u hu=>h u (by simp [hu])⟩
theorem qrQ (w:World):∀ n:Nat,Rdr Tryz.prog w n 34 4 tmD Tm.wf:=by
 intro n
 induction n using Nat.strongRecOn with
 | _ n ih=>
   refine Rdr.map (fun x:Int×ByteArray×Int×List Tm×Unit=>⟨x.1,x.2.1,x.2.2.1,x.2.2.2.1⟩) (Rdr.struct qoJ (fun _=>rfl) fun m hm=>RdrF.cons (Rdr.int qfR) (RdrF.cons (Rdr.str qbA) (RdrF.cons (Rdr.int qfR) (RdrF.cons (Rdr.slice qN zD fun k hk=>ih k zO) RdrF.nil)))) qqK ?_ ?_
   ·rintro ⟨a,b,c,l,_⟩ _
    simp only [tmD,qeE];rfl
   ·rintro ⟨a,b,c,l,_⟩ ⟨h1,h2,h3,⟨h4,h5⟩,_⟩
    rw [qpl] at h4
    exact ⟨h1,h2,h3,h4,Tm.wfs_of h5⟩
theorem qfC {α:Type}{l:List α}{k:Nat}(h:l.length*k≤140737488351232)(hk:0<k):qbt l:=Nat.le_trans (Nat.le_mul_of_pos_right _ hk) h
theorem rdr_bd (w:World)(n:Nat):Rdr Tryz.prog w n 143 5 bdD Bd.wf:=by
 refine Rdr.map (fun x:ByteArray×Tm×Unit=>⟨x.1,x.2.1⟩) (Rdr.struct qoN (fun _=>rfl) fun m hm=>RdrF.cons (Rdr.str qbA) (RdrF.cons (qrQ w m) RdrF.nil)) (fun _=>rfl) ?_ ?_
 ·rintro ⟨a,b,_⟩ _;rfl
 ·rintro ⟨a,b,_⟩ ⟨h1,h2,_⟩;exact ⟨h1,h2⟩
theorem rdr_bds (w:World)(n:Nat):Rdr Tryz.prog w n 51 1 (fun l:List Bd=>[.sl 5 (bdDs l)]) (fun l=>qbt l∧∀ g∈l,g.wf):=by
 refine Rdr.map id (Rdr.slice qA zD fun k _=>rdr_bd w k) (fun _=>rfl) (fun _ _=>rfl) ?_
 rintro l ⟨h1,h2⟩
 rw [qpn] at h1
 exact ⟨qfC h1 zD,h2⟩
end Go.Proofs.YtpgceiijoedppaaGreat
set_option linter.unusedSimpArgs false
namespace Go.Proofs.YtpgceiijoedppaaGreat
open Go
variable {k:Nat}{α:Type}{l:List α}
def wgtL {α:Type}(f:α→Int):Int→List α→Int
 | n,[]=>n
 | n,a::l=>if n<1048576 then wgtL f (n+f a) l else n
def wgt:Nat→Tm→Int
 | 0,_=>1048576
 | d+1,t=>wgtL (wgt d) (1+t.name.size) t.args
theorem qoE {α:Type}(f:α→Int)(h:∀ t,0≤f t):∀ (n:Int) (l:List α),0≤n→n≤wgtL f n l
 | n,[],h0=>by simp [wgtL]
 | n,a::l,h0=>by
   simp only [wgtL]
   split
   ·have:=qoE f h (n+f a) l (by have:=h a;omega)
    have:=h a;omega
   ·omega
theorem qnm:∀ (d:Nat) (t:Tm),0≤wgt d t
 | 0,_=>by simp [wgt]
 | d+1,t=>by
   simp only [wgt]
   have:=qoE _ (qnm d) (1+t.name.size) t.args (by omega)
   omega
theorem qfF {α:Type}(f:α→Int)(B:Int)(hB:0≤B):∀ (n:Int) (l:List α),(∀ t∈l,f t≤B)→n≤140737488351233+B→wgtL f n l≤140737488351233+B
 | n,[],_,h0=>h0
 | n,a::l,h,h0=>by
   simp only [wgtL]
   split
   ·exact qfF f B hB _ l (fun t ht=>h t (by simp [ht])) (by have:=h a (by simp);omega)
   ·exact h0
theorem qpA:∀ (d:Nat) (t:Tm),t.wf→wgt d t≤140737488351233*(d+1)
 | 0,t,_=>by simp [wgt]
 | d+1,t,h=>by
   simp only [wgt]
   have:=qfF (wgt d) (140737488351233*(d+1)) (by omega) (1+t.name.size) t.args (fun u hu=>by
    obtain ⟨i,hi⟩:=List.getElem?_of_mem hu
    exact qpA d u (Tm.wfs_get h.2.2.2.2 hi)) (by have:=h.2.1;omega)
   push_cast at this ⊢
   omega
theorem qeK (f:α→Int)(n:Int)(l:List α)(h:¬ n<1048576):wgtL f n l=n:=by
 cases l with
 | nil=>rfl
 | cons a l=>simp [wgtL,h]
theorem qea (f:α→Int)(n:Int)(l:List α)(k:Nat)(hk:k≤l.length)(h:∀ j,j<k→wgtL f n (l.take j)<1048576):wgtL f n l=wgtL f (wgtL f n (l.take k)) (l.drop k):=by
 induction k generalizing n l with
 | zero=>simp [wgtL]
 | succ k ih=>
   cases l with
   | nil=>simp at hk
   | cons a l=>
     have h0:n<1048576:=by have:=h 0 (by omega);simpa [wgtL] using this
     simp only [List.take_succ_cons,List.drop_succ_cons,wgtL,if_pos h0]
     refine ih _ l (by simpa using hk) fun j hj=>?_
     have:=h (j+1) (by omega)
     simpa [wgtL,h0] using this
theorem qeL (f:α→Int)(n:Int)(l:List α)(a:α)(h:∀ j,j≤l.length→wgtL f n (l.take j)<1048576):wgtL f n (l++[a])=wgtL f n l+f a:=by
 have h1:=qea f n (l++[a]) l.length (by simp) (fun j hj=>by
  have:=h j (by omega)
  rwa [List.take_append_of_le_length (by omega)])
 have h2:=h l.length (Nat.le_refl _)
 simp only [List.take_length] at h2
 simp only [List.take_left,List.drop_left] at h1
 rw [h1]
 simp [wgtL,h2]
theorem qas {a:α}(h:l[k]?=some a):l.take (k+1)=l.take k++[a]:=by
 rw [List.take_add_one,h];rfl
theorem qM (h:k<l.length):∃ a,l[k]?=some a:=⟨l[k],by simp [h]⟩
set_option maxRecDepth 4000 in
theorem qnb:∀ (d:Nat),d≤30→∀ (e:Int),e=d→∀ t:Tm,t.wf→AC Tryz.prog 93 [tmA false t,.imm (.int .i64 e)] [] (fun r O=>r=.imm (.int .i64 (wgt d t))∧O=[]):=by
 intro d
 induction d with
 | zero=>
   intro hd e he t ht
   have hnm:=ht.2.1
   have hal:=ht.2.2.2.1
   have hlen:=qaY t.args
   refine qI Tryz.func93 E Tryz.ntmps93 zL fun c hL hQ hDD=>(qd (qb (qt E E zD (q6 2 E E E) E (zX E (zK (qd ?_))))));refine qb (zA E (qe E qay E) (zA E (qi E qar E E E E E) ?_))
   refine zA E (qdc E qbA E) (zA E (qO E E E zO) (zX E (zK (qd (qd (qb ?_))))));refine zX E (zA E (qj E E E E) (zK (qo E (fun c0=>?_) (fun c0=>?_))))
   ·simp only[↓cqA,cqB]at c0
    refine qd (qb (zX E (zK (qn (qm (zI hL (qg E qh) ?_ ?_))))))
    ·rfl
    exact ⟨rfl,rfl⟩
   simp only[↓cqA,cqB]at c0
   omega
 | succ d ih=>
   intro hd e he t ht
   have hnm:=ht.2.1
   have hal:=ht.2.2.2.1
   have hlen:=qaY t.args
   refine qI Tryz.func93 E Tryz.ntmps93 zL fun c hL hQ hDD=>(qd (qb (qt E E zD (q6 2 E E E) E (zX E (zK (qd ?_))))));refine qb (zA E (qe E qay E) (zA E (qi E qar E E E E E) ?_))
   refine zA E (qdc E qbA E) (zA E (qO E E E zO) (zX E (zK (qd (qd (qb ?_))))));refine zX E (zA E (qj E E E E) (zK (qo E (fun c0=>?_) (fun c0=>?_))))
   ·simp only[↓cqA,cqB]at c0
    omega
   simp only[↓cqA,cqB]at c0
   refine qr (qa (qd (qd (qb (zX E (zK ?_))))));refine qv (qac (t.args.length) (fun k=>k≤t.args.length∧∀ j,j<k→wgtL (wgt d) (1+t.name.size) (t.args.take j)<1048576) (fun k=>⟨[(1,.imm (.int .i64 e)),(2,.ptr 2 0),(5,.imm (.int .i64 (wgtL (wgt d) (1+t.name.size) (t.args.take k)))),(6,.imm (.int .i64 (k:Int)))],[(2,.box (lift false (tmD t)))]⟩) (⟨by omega,fun j hj=>absurd hj zO⟩) ?_ (fun k hk hp=>?_))
   ·exact zR hL (zC E (zC E (SubT.cons (qaw E (by simp [wgtL])) (zC rfl SubT.nil)))) (SubO.cons (qU rfl (by rfl)) SubO.nil)
   have hw:wgtL (wgt d) (1+t.name.size) (t.args.take k)≤140737488351233+140737488351233*(d+1):=qfF (wgt d) _ (by omega) _ _ (fun u hu=>qpA d u (by
    obtain ⟨i,hi⟩:=List.getElem?_of_mem (List.mem_of_mem_take hu)
    exact Tm.wfs_get ht.2.2.2.2 hi)) zO
   have hw0:=qoE (wgt d) (qnm d) (1+t.name.size) (t.args.take k) (by omega)
   refine qd (qd (qb (zX E (zA E (qe E qaa E) (zA E (qi E q9 E E E E E) (zA E (qu E qN E) (zA E (qj E E E E) ?_)))))));refine zX E (qE 18 E (fun g18=>?_) (fun g18=>?_))
   ·simp only[↓cqA,cqB]at g18
    obtain ⟨u,hu⟩:=qM (l:=t.args) (k:=k) (by omega)
    have huw:=qpA d u (Tm.wfs_get ht.2.2.2.2 hu)
    have huw0:=qnm d u
    refine zZ E (ql (.inl E) E) (zZ E (qj E E E E) (zA E (qk E E E) (zK (qo E (fun c1=>?_) (fun c1=>?_)))))
    ·simp only[↓cqA,cqB]at c1
     refine qr (qa (qd (qv (qb (zX E (zA E (qe E qaa E) (zA E (qi E q9 E E E E E) ?_)))))));refine zX E (zA E (qp E qN E E zO (qbP hu)) (zA E (qD E qz E E) (zX E (zA E (qa3 E E E zO) (qH (avs:=[_,_]) true E E E zD qbG E E (ih zO _ zO u (Tm.wfs_get ht.2.2.2.2 hu)) E E (zA E (qO E E E zO) ?_))))))
     refine zX E (qc (qR (qa (qb (zX E (zA E (qO E E E zO) (zX E ?_)))))));refine qc ?_
     have hb:=qeL (wgt d) (1+t.name.size) (t.args.take k) u (fun j hj=>by
      by_cases hjk:j<k
      ·have:=hp.2 j hjk;rwa [List.take_take,Nat.min_eq_left (by omega)]
      ·rw [List.take_of_length_le (by simp;omega)];omega)
     rw [← qas hu] at hb
     refine qa ?_;refine ⟨?_,?_,?_⟩
     ·omega
     ·refine ⟨by omega,fun j hj=>?_⟩
      by_cases hjk:j<k
      ·exact hp.2 j hjk
      ·rw [show j=k by omega];omega
     exact zR hL (zC E (zC E (SubT.cons (qaw E (by exact qan hb.symm)) (zC E SubT.nil)))) (SubO.cons (qU E (by rfl)) SubO.nil)
    simp only[↓cqA,cqB]at c1
    refine qV (qq (qq (qad ?_)));refine qa (qd (qb (zX E (zX E (zK (qn (zI hL (qg E qh) ?_ ?_)))))))
    ·rfl
    refine ⟨qbx ?_,rfl⟩
    rw [wgt];exact ((qea (wgt d) _ _ k hp.1 hp.2).trans (qeK _ _ _ (by omega))).symm
   simp only[↓cqA,cqB]at g18
   refine zY E (zY E (zA E (qk E E E) (zK (qaA E (qV (qq (qq (qad ?_))))))));refine qa (qd (qb (zX E (zX E (zK (qn (zI hL (qg E qh) ?_ ?_)))))))
   ·rfl
   refine ⟨qbx ?_,rfl⟩
   rw [wgt,List.take_of_length_le (by omega)]
end Go.Proofs.YtpgceiijoedppaaGreat