/- The tables of the program, written by a program of mine (ShowTab.lean); that they are the program's is proved here. -/
import Derived.Test.YtofijpbmbmbnhaaDoorHsaf
import Derived.Test.YtofijpbmbmbnhaaDoorProg
import Derived.KernelRfl
import Derived.WalkKit
import Derived.Lib.Builder
import Derived.Lib.Walk
import Derived.Laws.Externs
set_option linter.unusedSimpArgs false
set_option linter.unusedVariables false
set_option maxRecDepth 100000
namespace Go.Proofs.YtofijpbmbmbnhaaDoor
open Go Go.Hs Go.Proofs
def ti0:TI:=⟨.other,1,0,some (.tuple #[]),true⟩
def ti1:TI:=⟨.func,1,8,some (.nilFunc),true⟩
def ti2:TI:=⟨.int .i64,1,8,some (.int .i64 0),true⟩
def ti3:TI:=⟨.int .i64,1,8,some (.int .i64 0),true⟩
def ti4:TI:=⟨.bool,1,1,some (.bool false),true⟩
def ti5:TI:=⟨.int .u8,1,1,some (.int .u8 0),true⟩
def ti6:TI:=⟨.int .u8,1,1,some (.int .u8 0),true⟩
def ti7:TI:=⟨.struct [(0,2,1),(1,3,1),(2,4,1),(3,6,1)],4,24,some (.agg #[.int .i64 0,.int .i64 0,.bool false,.int .u8 0]),true⟩
def ti8:TI:=⟨.struct [(0,2,1),(1,3,1),(2,4,1),(3,6,1)],4,24,some (.agg #[.int .i64 0,.int .i64 0,.bool false,.int .u8 0]),true⟩
def ti9:TI:=⟨.string,1,16,some (.string ⟨#[]⟩),true⟩
def ti10:TI:=⟨.string,1,16,some (.string ⟨#[]⟩),true⟩
def ti11:TI:=⟨.string,1,16,some (.string ⟨#[]⟩),true⟩
def ti12:TI:=⟨.int .u64,1,8,some (.int .u64 0),true⟩
def ti13:TI:=⟨.struct [(0,9,1),(1,12,1)],2,24,some (.agg #[.string ⟨#[]⟩,.int .u64 0]),false⟩
def ti14:TI:=⟨.struct [(0,9,1),(1,12,1)],2,24,some (.agg #[.string ⟨#[]⟩,.int .u64 0]),false⟩
def ti15:TI:=⟨.pointer 193,1,8,some (.pointer none),true⟩
def ti16:TI:=⟨.pointer 196,1,8,some (.pointer none),true⟩
def ti17:TI:=⟨.pointer 203,1,8,some (.pointer none),true⟩
def ti18:TI:=⟨.struct [(0,17,1)],1,8,some (.agg #[.pointer none]),false⟩
def ti19:TI:=⟨.struct [(0,17,1)],1,8,some (.agg #[.pointer none]),false⟩
def ti20:TI:=⟨.other,1,16,some (.nilIface),true⟩
def ti21:TI:=⟨.int .i32,1,4,some (.int .i32 0),true⟩
def ti22:TI:=⟨.func,1,8,some (.nilFunc),true⟩
def ti23:TI:=⟨.slice 25 4 56,1,24,some (.slice none 0 0),true⟩
def ti24:TI:=⟨.struct [(0,3,1),(1,3,1),(2,9,1),(3,23,1)],4,56,some (.agg #[.int .i64 0,.int .i64 0,.string ⟨#[]⟩,.slice none 0 0]),true⟩
def ti25:TI:=⟨.struct [(0,3,1),(1,3,1),(2,9,1),(3,23,1)],4,56,some (.agg #[.int .i64 0,.int .i64 0,.string ⟨#[]⟩,.slice none 0 0]),true⟩
def ti26:TI:=⟨.int .i64,1,8,some (.int .i64 0),true⟩
def ti27:TI:=⟨.other,1,0,some (.tuple #[.agg #[.int .i64 0,.int .i64 0,.string ⟨#[]⟩,.slice none 0 0],.int .i64 0,.int .i64 0]),true⟩
def ti28:TI:=⟨.func,1,8,some (.nilFunc),true⟩
def ti29:TI:=⟨.func,1,8,some (.nilFunc),true⟩
def ti30:TI:=⟨.func,1,8,some (.nilFunc),true⟩
def ti31:TI:=⟨.slice 5 1 1,1,24,some (.slice none 0 0),true⟩
def ti32:TI:=⟨.func,1,8,some (.nilFunc),true⟩
def ti33:TI:=⟨.func,1,8,some (.nilFunc),true⟩
def ti34:TI:=⟨.other,1,0,some (.tuple #[.slice none 0 0,.int .i64 0,.int .i64 0]),true⟩
def ti35:TI:=⟨.func,1,8,some (.nilFunc),true⟩
def ti36:TI:=⟨.func,1,8,some (.nilFunc),true⟩
def ti37:TI:=⟨.func,1,8,some (.nilFunc),true⟩
def ti38:TI:=⟨.func,1,8,some (.nilFunc),true⟩
def ti39:TI:=⟨.func,1,8,some (.nilFunc),true⟩
def ti40:TI:=⟨.int .u16,1,2,some (.int .u16 0),true⟩
def ti41:TI:=⟨.func,1,8,some (.nilFunc),true⟩
def ti42:TI:=⟨.pointer 101,1,8,some (.pointer none),true⟩
def ti43:TI:=⟨.func,1,8,some (.nilFunc),true⟩
def ti44:TI:=⟨.other,1,0,some (.tuple #[.slice none 0 0,.int .i64 0]),true⟩
def ti45:TI:=⟨.func,1,8,some (.nilFunc),true⟩
def ti46:TI:=⟨.other,1,0,some (.tuple #[.string ⟨#[]⟩,.int .i64 0]),true⟩
def ti47:TI:=⟨.func,1,8,some (.nilFunc),true⟩
def ti48:TI:=⟨.func,1,8,some (.nilFunc),true⟩
def ti49:TI:=⟨.array 3 3 1,3,24,some (.agg #[.int .i64 0,.int .i64 0,.int .i64 0]),true⟩
def ti50:TI:=⟨.array 3 49 3,9,72,some (.agg #[.int .i64 0,.int .i64 0,.int .i64 0,.int .i64 0,.int .i64 0,.int .i64 0,.int .i64 0,.int .i64 0,.int .i64 0]),true⟩
def ti51:TI:=⟨.other,1,0,some (.tuple #[.int .i64 0,.int .i64 0]),true⟩
def ti52:TI:=⟨.func,1,8,some (.nilFunc),true⟩
def ti53:TI:=⟨.slice 3 1 8,1,24,some (.slice none 0 0),true⟩
def ti54:TI:=⟨.other,1,0,some (.tuple #[.slice none 0 0,.int .i64 0]),true⟩
def ti55:TI:=⟨.func,1,8,some (.nilFunc),true⟩
def ti56:TI:=⟨.other,1,0,some (.tuple #[.agg #[.int .i64 0,.int .i64 0,.string ⟨#[]⟩,.slice none 0 0],.int .i64 0]),true⟩
def ti57:TI:=⟨.func,1,8,some (.nilFunc),true⟩
def ti58:TI:=⟨.func,1,8,some (.nilFunc),true⟩
def ti59:TI:=⟨.func,1,8,some (.nilFunc),true⟩
def ti60:TI:=⟨.func,1,8,some (.nilFunc),true⟩
def ti61:TI:=⟨.other,1,0,some (.tuple #[.int .i64 0,.int .i64 0,.int .i64 0]),true⟩
def ti62:TI:=⟨.func,1,8,some (.nilFunc),true⟩
def ti63:TI:=⟨.func,1,8,some (.nilFunc),true⟩
def ti64:TI:=⟨.func,1,8,some (.nilFunc),true⟩
def ti65:TI:=⟨.func,1,8,some (.nilFunc),true⟩
def ti66:TI:=⟨.func,1,8,some (.nilFunc),true⟩
def ti67:TI:=⟨.func,1,8,some (.nilFunc),true⟩
def ti68:TI:=⟨.slice 53 1 24,1,24,some (.slice none 0 0),true⟩
def ti69:TI:=⟨.func,1,8,some (.nilFunc),true⟩
def ti70:TI:=⟨.func,1,8,some (.nilFunc),true⟩
def ti71:TI:=⟨.other,1,0,some (.tuple #[.slice none 0 0,.int .i64 0]),true⟩
def ti72:TI:=⟨.func,1,8,some (.nilFunc),true⟩
def ti73:TI:=⟨.func,1,8,some (.nilFunc),true⟩
def ti74:TI:=⟨.func,1,8,some (.nilFunc),true⟩
def ti75:TI:=⟨.func,1,8,some (.nilFunc),true⟩
def ti76:TI:=⟨.func,1,8,some (.nilFunc),true⟩
def ti77:TI:=⟨.func,1,8,some (.nilFunc),true⟩
def ti78:TI:=⟨.func,1,8,some (.nilFunc),true⟩
def ti79:TI:=⟨.struct [(0,31,1),(1,3,1)],2,32,some (.agg #[.slice none 0 0,.int .i64 0]),true⟩
def ti80:TI:=⟨.slice 79 2 32,1,24,some (.slice none 0 0),true⟩
def ti81:TI:=⟨.struct [(0,9,1),(1,3,1),(2,26,1)],3,32,some (.agg #[.string ⟨#[]⟩,.int .i64 0,.int .i64 0]),true⟩
def ti82:TI:=⟨.slice 81 3 32,1,24,some (.slice none 0 0),true⟩
def ti83:TI:=⟨.struct [(0,9,1),(1,3,1),(2,26,1)],3,32,some (.agg #[.string ⟨#[]⟩,.int .i64 0,.int .i64 0]),true⟩
def ti84:TI:=⟨.struct [(0,9,1),(1,3,1),(2,26,1)],3,32,some (.agg #[.string ⟨#[]⟩,.int .i64 0,.int .i64 0]),true⟩
def ti85:TI:=⟨.struct [(0,84,3),(3,3,1)],4,40,some (.agg #[.string ⟨#[]⟩,.int .i64 0,.int .i64 0,.int .i64 0]),true⟩
def ti86:TI:=⟨.struct [(0,84,3),(3,3,1)],4,40,some (.agg #[.string ⟨#[]⟩,.int .i64 0,.int .i64 0,.int .i64 0]),true⟩
def ti87:TI:=⟨.func,1,8,some (.nilFunc),true⟩
def ti88:TI:=⟨.other,1,0,some (.tuple #[.agg #[.int .i64 0,.int .i64 0,.string ⟨#[]⟩,.slice none 0 0],.bool false]),true⟩
def ti89:TI:=⟨.func,1,8,some (.nilFunc),true⟩
def ti90:TI:=⟨.struct [(0,31,1),(1,3,1),(2,3,1),(3,3,1),(4,26,1)],5,56,some (.agg #[.slice none 0 0,.int .i64 0,.int .i64 0,.int .i64 0,.int .i64 0]),true⟩
def ti91:TI:=⟨.struct [(0,31,1),(1,3,1),(2,3,1),(3,3,1),(4,26,1)],5,56,some (.agg #[.slice none 0 0,.int .i64 0,.int .i64 0,.int .i64 0,.int .i64 0]),true⟩
def ti92:TI:=⟨.func,1,8,some (.nilFunc),true⟩
def ti93:TI:=⟨.func,1,8,some (.nilFunc),true⟩
def ti94:TI:=⟨.func,1,8,some (.nilFunc),true⟩
def ti95:TI:=⟨.func,1,8,some (.nilFunc),true⟩
def ti96:TI:=⟨.func,1,8,some (.nilFunc),true⟩
def ti97:TI:=⟨.func,1,8,some (.nilFunc),true⟩
def ti98:TI:=⟨.pointer 3,1,8,some (.pointer none),true⟩
def ti99:TI:=⟨.int .u64,1,8,some (.int .u64 0),true⟩
def ti100:TI:=⟨.struct [(0,31,1),(1,3,1),(2,99,1)],3,40,some (.agg #[.slice none 0 0,.int .i64 0,.int .u64 0]),true⟩
def ti101:TI:=⟨.struct [(0,31,1),(1,3,1),(2,99,1)],3,40,some (.agg #[.slice none 0 0,.int .i64 0,.int .u64 0]),true⟩
def ti102:TI:=⟨.func,1,8,some (.nilFunc),true⟩
def ti103:TI:=⟨.func,1,8,some (.nilFunc),true⟩
def ti104:TI:=⟨.pointer 106,1,8,some (.pointer none),true⟩
def ti105:TI:=⟨.struct [(0,104,1),(1,31,1)],2,32,some (.agg #[.pointer none,.slice none 0 0]),true⟩
def ti106:TI:=⟨.struct [(0,104,1),(1,31,1)],2,32,some (.agg #[.pointer none,.slice none 0 0]),true⟩
def ti107:TI:=⟨.func,1,8,some (.nilFunc),true⟩
def ti108:TI:=⟨.func,1,8,some (.nilFunc),true⟩
def ti109:TI:=⟨.func,1,8,some (.nilFunc),true⟩
def ti110:TI:=⟨.func,1,8,some (.nilFunc),true⟩
def ti111:TI:=⟨.func,1,8,some (.nilFunc),true⟩
def ti112:TI:=⟨.other,1,0,some (.tuple #[.slice none 0 0,.bool false]),true⟩
def ti113:TI:=⟨.func,1,8,some (.nilFunc),true⟩
def ti114:TI:=⟨.func,1,8,some (.nilFunc),true⟩
def ti115:TI:=⟨.func,1,8,some (.nilFunc),true⟩
def ti116:TI:=⟨.func,1,8,some (.nilFunc),true⟩
def ti117:TI:=⟨.func,1,8,some (.nilFunc),true⟩
def ti118:TI:=⟨.func,1,8,some (.nilFunc),true⟩
def ti119:TI:=⟨.func,1,8,some (.nilFunc),true⟩
def ti120:TI:=⟨.func,1,8,some (.nilFunc),true⟩
def ti121:TI:=⟨.func,1,8,some (.nilFunc),true⟩
def ti122:TI:=⟨.pointer 25,1,8,some (.pointer none),true⟩
def ti123:TI:=⟨.func,1,8,some (.nilFunc),true⟩
def ti124:TI:=⟨.func,1,8,some (.nilFunc),true⟩
def ti125:TI:=⟨.int .u64,1,8,some (.int .u64 0),true⟩
def ti126:TI:=⟨.other,1,0,some (.tuple #[.int .u64 0,.int .u64 0]),true⟩
def ti127:TI:=⟨.func,1,8,some (.nilFunc),true⟩
def ti128:TI:=⟨.func,1,8,some (.nilFunc),true⟩
def ti129:TI:=⟨.pointer 86,1,8,some (.pointer none),true⟩
def ti130:TI:=⟨.func,1,8,some (.nilFunc),true⟩
def ti131:TI:=⟨.other,1,0,some (.tuple #[.int .i64 0,.bool false]),true⟩
def ti132:TI:=⟨.func,1,8,some (.nilFunc),true⟩
def ti133:TI:=⟨.func,1,8,some (.nilFunc),true⟩
def ti134:TI:=⟨.other,1,0,some (.tuple #[.string ⟨#[]⟩,.bool false]),true⟩
def ti135:TI:=⟨.func,1,8,some (.nilFunc),true⟩
def ti136:TI:=⟨.pointer 91,1,8,some (.pointer none),true⟩
def ti137:TI:=⟨.func,1,8,some (.nilFunc),true⟩
def ti138:TI:=⟨.func,1,8,some (.nilFunc),true⟩
def ti139:TI:=⟨.func,1,8,some (.nilFunc),true⟩
def ti140:TI:=⟨.struct [(0,5,1),(1,139,1)],2,16,some (.agg #[.int .u8 0,.nilFunc]),true⟩
def ti141:TI:=⟨.struct [(0,5,1),(1,139,1)],2,16,some (.agg #[.int .u8 0,.nilFunc]),true⟩
def ti142:TI:=⟨.array 3 141 2,6,48,some (.agg #[.int .u8 0,.nilFunc,.int .u8 0,.nilFunc,.int .u8 0,.nilFunc]),true⟩
def ti143:TI:=⟨.func,1,8,some (.nilFunc),true⟩
def ti144:TI:=⟨.func,1,8,some (.nilFunc),true⟩
def ti145:TI:=⟨.func,1,8,some (.nilFunc),true⟩
def ti146:TI:=⟨.func,1,8,some (.nilFunc),true⟩
def ti147:TI:=⟨.other,1,16,some (.nilIface),false⟩
def ti148:TI:=⟨.other,1,16,some (.nilIface),false⟩
def ti149:TI:=⟨.other,1,0,some (.tuple #[.int .i64 0,.nilIface]),true⟩
def ti150:TI:=⟨.func,1,8,some (.nilFunc),true⟩
def ti151:TI:=⟨.func,1,8,some (.nilFunc),true⟩
def ti152:TI:=⟨.func,1,8,some (.nilFunc),true⟩
def ti153:TI:=⟨.array 2 5 1,2,2,some (.agg #[.int .u8 0,.int .u8 0]),true⟩
def ti154:TI:=⟨.func,1,8,some (.nilFunc),true⟩
def ti155:TI:=⟨.func,1,8,some (.nilFunc),true⟩
def ti156:TI:=⟨.pointer 5,1,8,some (.pointer none),true⟩
def ti157:TI:=⟨.func,1,8,some (.nilFunc),true⟩
def ti158:TI:=⟨.func,1,8,some (.nilFunc),true⟩
def ti159:TI:=⟨.func,1,8,some (.nilFunc),true⟩
def ti160:TI:=⟨.struct [(0,3,1),(1,3,1),(2,3,1),(3,9,1)],4,40,some (.agg #[.int .i64 0,.int .i64 0,.int .i64 0,.string ⟨#[]⟩]),true⟩
def ti161:TI:=⟨.struct [(0,3,1),(1,3,1),(2,3,1),(3,9,1)],4,40,some (.agg #[.int .i64 0,.int .i64 0,.int .i64 0,.string ⟨#[]⟩]),true⟩
def ti162:TI:=⟨.func,1,8,some (.nilFunc),true⟩
def ti163:TI:=⟨.func,1,8,some (.nilFunc),true⟩
def ti164:TI:=⟨.int .u32,1,4,some (.int .u32 0),true⟩
def ti165:TI:=⟨.other,1,0,some (.tuple #[.int .u32 0,.int .u32 0]),true⟩
def ti166:TI:=⟨.func,1,8,some (.nilFunc),true⟩
def ti167:TI:=⟨.other,1,0,some (.tuple #[.int .u64 0,.int .u64 0]),true⟩
def ti168:TI:=⟨.func,1,8,some (.nilFunc),true⟩
def ti169:TI:=⟨.pointer 84,1,8,some (.pointer none),true⟩
def ti170:TI:=⟨.map 5 5,1,8,some (.map none),true⟩
def ti171:TI:=⟨.func,1,8,some (.nilFunc),true⟩
def ti172:TI:=⟨.other,1,0,some (.tuple #[.int .u8 0,.bool false]),true⟩
def ti173:TI:=⟨.func,1,8,some (.nilFunc),true⟩
def ti174:TI:=⟨.func,1,8,some (.nilFunc),true⟩
def ti175:TI:=⟨.func,1,8,some (.nilFunc),true⟩
def ti176:TI:=⟨.slice 31 1 24,1,24,some (.slice none 0 0),true⟩
def ti177:TI:=⟨.other,1,8,some (.pointer none),true⟩
def ti178:TI:=⟨.func,1,8,some (.nilFunc),true⟩
def ti179:TI:=⟨.func,1,8,some (.nilFunc),true⟩
def ti180:TI:=⟨.array 24 5 1,24,24,some (.agg #[.int .u8 0,.int .u8 0,.int .u8 0,.int .u8 0,.int .u8 0,.int .u8 0,.int .u8 0,.int .u8 0,.int .u8 0,.int .u8 0,.int .u8 0,.int .u8 0,.int .u8 0,.int .u8 0,.int .u8 0,.int .u8 0,.int .u8 0,.int .u8 0,.int .u8 0,.int .u8 0,.int .u8 0,.int .u8 0,.int .u8 0,.int .u8 0]),true⟩
def ti181:TI:=⟨.func,1,8,some (.nilFunc),true⟩
def ti182:TI:=⟨.func,1,8,some (.nilFunc),true⟩
def ti183:TI:=⟨.other,1,0,some (.tuple #[.slice none 0 0,.string ⟨#[]⟩]),true⟩
def ti184:TI:=⟨.func,1,8,some (.nilFunc),true⟩
def ti185:TI:=⟨.func,1,8,some (.nilFunc),true⟩
def ti186:TI:=⟨.array 20 99 1,20,160,some (.agg #[.int .u64 0,.int .u64 0,.int .u64 0,.int .u64 0,.int .u64 0,.int .u64 0,.int .u64 0,.int .u64 0,.int .u64 0,.int .u64 0,.int .u64 0,.int .u64 0,.int .u64 0,.int .u64 0,.int .u64 0,.int .u64 0,.int .u64 0,.int .u64 0,.int .u64 0,.int .u64 0]),true⟩
def ti187:TI:=⟨.array 65 5 1,65,65,some (.agg #[.int .u8 0,.int .u8 0,.int .u8 0,.int .u8 0,.int .u8 0,.int .u8 0,.int .u8 0,.int .u8 0,.int .u8 0,.int .u8 0,.int .u8 0,.int .u8 0,.int .u8 0,.int .u8 0,.int .u8 0,.int .u8 0,.int .u8 0,.int .u8 0,.int .u8 0,.int .u8 0,.int .u8 0,.int .u8 0,.int .u8 0,.int .u8 0,.int .u8 0,.int .u8 0,.int .u8 0,.int .u8 0,.int .u8 0,.int .u8 0,.int .u8 0,.int .u8 0,.int .u8 0,.int .u8 0,.int .u8 0,.int .u8 0,.int .u8 0,.int .u8 0,.int .u8 0,.int .u8 0,.int .u8 0,.int .u8 0,.int .u8 0,.int .u8 0,.int .u8 0,.int .u8 0,.int .u8 0,.int .u8 0,.int .u8 0,.int .u8 0,.int .u8 0,.int .u8 0,.int .u8 0,.int .u8 0,.int .u8 0,.int .u8 0,.int .u8 0,.int .u8 0,.int .u8 0,.int .u8 0,.int .u8 0,.int .u8 0,.int .u8 0,.int .u8 0,.int .u8 0]),true⟩
def ti188:TI:=⟨.func,1,8,some (.nilFunc),true⟩
def ti189:TI:=⟨.func,1,8,some (.nilFunc),true⟩
def ti190:TI:=⟨.array 32 5 1,32,32,some (.agg #[.int .u8 0,.int .u8 0,.int .u8 0,.int .u8 0,.int .u8 0,.int .u8 0,.int .u8 0,.int .u8 0,.int .u8 0,.int .u8 0,.int .u8 0,.int .u8 0,.int .u8 0,.int .u8 0,.int .u8 0,.int .u8 0,.int .u8 0,.int .u8 0,.int .u8 0,.int .u8 0,.int .u8 0,.int .u8 0,.int .u8 0,.int .u8 0,.int .u8 0,.int .u8 0,.int .u8 0,.int .u8 0,.int .u8 0,.int .u8 0,.int .u8 0,.int .u8 0]),true⟩
def ti191:TI:=⟨.array 64 5 1,64,64,some (.agg #[.int .u8 0,.int .u8 0,.int .u8 0,.int .u8 0,.int .u8 0,.int .u8 0,.int .u8 0,.int .u8 0,.int .u8 0,.int .u8 0,.int .u8 0,.int .u8 0,.int .u8 0,.int .u8 0,.int .u8 0,.int .u8 0,.int .u8 0,.int .u8 0,.int .u8 0,.int .u8 0,.int .u8 0,.int .u8 0,.int .u8 0,.int .u8 0,.int .u8 0,.int .u8 0,.int .u8 0,.int .u8 0,.int .u8 0,.int .u8 0,.int .u8 0,.int .u8 0,.int .u8 0,.int .u8 0,.int .u8 0,.int .u8 0,.int .u8 0,.int .u8 0,.int .u8 0,.int .u8 0,.int .u8 0,.int .u8 0,.int .u8 0,.int .u8 0,.int .u8 0,.int .u8 0,.int .u8 0,.int .u8 0,.int .u8 0,.int .u8 0,.int .u8 0,.int .u8 0,.int .u8 0,.int .u8 0,.int .u8 0,.int .u8 0,.int .u8 0,.int .u8 0,.int .u8 0,.int .u8 0,.int .u8 0,.int .u8 0,.int .u8 0,.int .u8 0]),true⟩
def ti192:TI:=⟨.struct [(0,17,1),(1,17,1),(2,17,1),(3,9,1)],4,40,some (.agg #[.pointer none,.pointer none,.pointer none,.string ⟨#[]⟩]),false⟩
def ti193:TI:=⟨.struct [(0,17,1),(1,17,1),(2,17,1),(3,9,1)],4,40,some (.agg #[.pointer none,.pointer none,.pointer none,.string ⟨#[]⟩]),false⟩
def ti194:TI:=⟨.array 0 16 1,0,0,some (.agg #[]),true⟩
def ti195:TI:=⟨.other,0,0,some (.agg #[]),false⟩
def ti196:TI:=⟨.other,0,0,some (.agg #[]),false⟩
def ti197:TI:=⟨.int .u8,1,1,some (.int .u8 0),true⟩
def ti198:TI:=⟨.int .u8,1,1,some (.int .u8 0),true⟩
def ti199:TI:=⟨.func,1,8,some (.nilFunc),true⟩
def ti200:TI:=⟨.int .i32,1,4,some (.int .i32 0),true⟩
def ti201:TI:=⟨.int .i32,1,4,some (.int .i32 0),true⟩
def ti202:TI:=⟨.struct [(0,12,1),(1,12,1),(2,164,1),(3,197,1),(4,5,1),(5,5,1),(6,198,1),(7,199,1),(8,156,1),(9,200,1),(10,201,1)],11,48,some (.agg #[.int .u64 0,.int .u64 0,.int .u32 0,.int .u8 0,.int .u8 0,.int .u8 0,.int .u8 0,.nilFunc,.pointer none,.int .i32 0,.int .i32 0]),false⟩
def ti203:TI:=⟨.struct [(0,12,1),(1,12,1),(2,164,1),(3,197,1),(4,5,1),(5,5,1),(6,198,1),(7,199,1),(8,156,1),(9,200,1),(10,201,1)],11,48,some (.agg #[.int .u64 0,.int .u64 0,.int .u32 0,.int .u8 0,.int .u8 0,.int .u8 0,.int .u8 0,.nilFunc,.pointer none,.int .i32 0,.int .i32 0]),false⟩
def tyL:List (Option TI):=[some ti0,some ti1,some ti2,some ti3,some ti4,some ti5,some ti6,some ti7,some ti8,some ti9,some ti10,some ti11,some ti12,some ti13,some ti14,some ti15,some ti16,some ti17,some ti18,some ti19,some ti20,some ti21,some ti22,some ti23,some ti24,some ti25,some ti26,some ti27,some ti28,some ti29,some ti30,some ti31,some ti32,some ti33,some ti34,some ti35,some ti36,some ti37,some ti38,some ti39,some ti40,some ti41,some ti42,some ti43,some ti44,some ti45,some ti46,some ti47,some ti48,some ti49,some ti50,some ti51,some ti52,some ti53,some ti54,some ti55,some ti56,some ti57,some ti58,some ti59,some ti60,some ti61,some ti62,some ti63,some ti64,some ti65,some ti66,some ti67,some ti68,some ti69,some ti70,some ti71,some ti72,some ti73,some ti74,some ti75,some ti76,some ti77,some ti78,some ti79,some ti80,some ti81,some ti82,some ti83,some ti84,some ti85,some ti86,some ti87,some ti88,some ti89,some ti90,some ti91,some ti92,some ti93,some ti94,some ti95,some ti96,some ti97,some ti98,some ti99,some ti100,some ti101,some ti102,some ti103,some ti104,some ti105,some ti106,some ti107,some ti108,some ti109,some ti110,some ti111,some ti112,some ti113,some ti114,some ti115,some ti116,some ti117,some ti118,some ti119,some ti120,some ti121,some ti122,some ti123,some ti124,some ti125,some ti126,some ti127,some ti128,some ti129,some ti130,some ti131,some ti132,some ti133,some ti134,some ti135,some ti136,some ti137,some ti138,some ti139,some ti140,some ti141,some ti142,some ti143,some ti144,some ti145,some ti146,some ti147,some ti148,some ti149,some ti150,some ti151,some ti152,some ti153,some ti154,some ti155,some ti156,some ti157,some ti158,some ti159,some ti160,some ti161,some ti162,some ti163,some ti164,some ti165,some ti166,some ti167,some ti168,some ti169,some ti170,some ti171,some ti172,some ti173,some ti174,some ti175,some ti176,some ti177,some ti178,some ti179,some ti180,some ti181,some ti182,some ti183,some ti184,some ti185,some ti186,some ti187,some ti188,some ti189,some ti190,some ti191,some ti192,some ti193,some ti194,some ti195,some ti196,some ti197,some ti198,some ti199,some ti200,some ti201,some ti202,some ti203]
def tyT:T TI:=(.node (.node (.node (.node (.node (.node (.node (.node .nil (some ti127) .nil) (some ti63) (.node .nil (some ti191) .nil)) (some ti31) (.node (.node .nil (some ti159) .nil) (some ti95) .nil)) (some ti15) (.node (.node (.node .nil (some ti143) .nil) (some ti79) .nil) (some ti47) (.node (.node .nil (some ti175) .nil) (some ti111) .nil))) (some ti7) (.node (.node (.node (.node .nil (some ti135) .nil) (some ti71) (.node .nil (some ti199) .nil)) (some ti39) (.node (.node .nil (some ti167) .nil) (some ti103) .nil)) (some ti23) (.node (.node (.node .nil (some ti151) .nil) (some ti87) .nil) (some ti55) (.node (.node .nil (some ti183) .nil) (some ti119) .nil)))) (some ti3) (.node (.node (.node (.node (.node .nil (some ti131) .nil) (some ti67) (.node .nil (some ti195) .nil)) (some ti35) (.node (.node .nil (some ti163) .nil) (some ti99) .nil)) (some ti19) (.node (.node (.node .nil (some ti147) .nil) (some ti83) .nil) (some ti51) (.node (.node .nil (some ti179) .nil) (some ti115) .nil))) (some ti11) (.node (.node (.node (.node .nil (some ti139) .nil) (some ti75) (.node .nil (some ti203) .nil)) (some ti43) (.node (.node .nil (some ti171) .nil) (some ti107) .nil)) (some ti27) (.node (.node (.node .nil (some ti155) .nil) (some ti91) .nil) (some ti59) (.node (.node .nil (some ti187) .nil) (some ti123) .nil))))) (some ti1) (.node (.node (.node (.node (.node (.node .nil (some ti129) .nil) (some ti65) (.node .nil (some ti193) .nil)) (some ti33) (.node (.node .nil (some ti161) .nil) (some ti97) .nil)) (some ti17) (.node (.node (.node .nil (some ti145) .nil) (some ti81) .nil) (some ti49) (.node (.node .nil (some ti177) .nil) (some ti113) .nil))) (some ti9) (.node (.node (.node (.node .nil (some ti137) .nil) (some ti73) (.node .nil (some ti201) .nil)) (some ti41) (.node (.node .nil (some ti169) .nil) (some ti105) .nil)) (some ti25) (.node (.node (.node .nil (some ti153) .nil) (some ti89) .nil) (some ti57) (.node (.node .nil (some ti185) .nil) (some ti121) .nil)))) (some ti5) (.node (.node (.node (.node (.node .nil (some ti133) .nil) (some ti69) (.node .nil (some ti197) .nil)) (some ti37) (.node (.node .nil (some ti165) .nil) (some ti101) .nil)) (some ti21) (.node (.node (.node .nil (some ti149) .nil) (some ti85) .nil) (some ti53) (.node (.node .nil (some ti181) .nil) (some ti117) .nil))) (some ti13) (.node (.node (.node (.node .nil (some ti141) .nil) (some ti77) .nil) (some ti45) (.node (.node .nil (some ti173) .nil) (some ti109) .nil)) (some ti29) (.node (.node (.node .nil (some ti157) .nil) (some ti93) .nil) (some ti61) (.node (.node .nil (some ti189) .nil) (some ti125) .nil)))))) (some ti0) (.node (.node (.node (.node (.node (.node (.node .nil (some ti128) .nil) (some ti64) (.node .nil (some ti192) .nil)) (some ti32) (.node (.node .nil (some ti160) .nil) (some ti96) .nil)) (some ti16) (.node (.node (.node .nil (some ti144) .nil) (some ti80) .nil) (some ti48) (.node (.node .nil (some ti176) .nil) (some ti112) .nil))) (some ti8) (.node (.node (.node (.node .nil (some ti136) .nil) (some ti72) (.node .nil (some ti200) .nil)) (some ti40) (.node (.node .nil (some ti168) .nil) (some ti104) .nil)) (some ti24) (.node (.node (.node .nil (some ti152) .nil) (some ti88) .nil) (some ti56) (.node (.node .nil (some ti184) .nil) (some ti120) .nil)))) (some ti4) (.node (.node (.node (.node (.node .nil (some ti132) .nil) (some ti68) (.node .nil (some ti196) .nil)) (some ti36) (.node (.node .nil (some ti164) .nil) (some ti100) .nil)) (some ti20) (.node (.node (.node .nil (some ti148) .nil) (some ti84) .nil) (some ti52) (.node (.node .nil (some ti180) .nil) (some ti116) .nil))) (some ti12) (.node (.node (.node (.node .nil (some ti140) .nil) (some ti76) .nil) (some ti44) (.node (.node .nil (some ti172) .nil) (some ti108) .nil)) (some ti28) (.node (.node (.node .nil (some ti156) .nil) (some ti92) .nil) (some ti60) (.node (.node .nil (some ti188) .nil) (some ti124) .nil))))) (some ti2) (.node (.node (.node (.node (.node (.node .nil (some ti130) .nil) (some ti66) (.node .nil (some ti194) .nil)) (some ti34) (.node (.node .nil (some ti162) .nil) (some ti98) .nil)) (some ti18) (.node (.node (.node .nil (some ti146) .nil) (some ti82) .nil) (some ti50) (.node (.node .nil (some ti178) .nil) (some ti114) .nil))) (some ti10) (.node (.node (.node (.node .nil (some ti138) .nil) (some ti74) (.node .nil (some ti202) .nil)) (some ti42) (.node (.node .nil (some ti170) .nil) (some ti106) .nil)) (some ti26) (.node (.node (.node .nil (some ti154) .nil) (some ti90) .nil) (some ti58) (.node (.node .nil (some ti186) .nil) (some ti122) .nil)))) (some ti6) (.node (.node (.node (.node (.node .nil (some ti134) .nil) (some ti70) (.node .nil (some ti198) .nil)) (some ti38) (.node (.node .nil (some ti166) .nil) (some ti102) .nil)) (some ti22) (.node (.node (.node .nil (some ti150) .nil) (some ti86) .nil) (some ti54) (.node (.node .nil (some ti182) .nil) (some ti118) .nil))) (some ti14) (.node (.node (.node (.node .nil (some ti142) .nil) (some ti78) .nil) (some ti46) (.node (.node .nil (some ti174) .nil) (some ti110) .nil)) (some ti30) (.node (.node (.node .nil (some ti158) .nil) (some ti94) .nil) (some ti62) (.node (.node .nil (some ti190) .nil) (some ti126) .nil)))))))
noncomputable def fnL:List Func:=[Tryd.f0,Tryd.f1,Tryd.f2,Tryd.f3,Tryd.f4,Tryd.f5,Tryd.f6,Tryd.f7,Tryd.f8,Tryd.f9,Tryd.f10,Tryd.f11,Tryd.f12,Tryd.f13,Tryd.f14,Tryd.f15,Tryd.f16,Tryd.f17,Tryd.f18,Tryd.f19,Tryd.f20,Tryd.f21,Tryd.f22,Tryd.f23,Tryd.f24,Tryd.f25,Tryd.f26,Tryd.f27,Tryd.f28,Tryd.f29,Tryd.f30,Tryd.f31,Tryd.f32,Tryd.f33,Tryd.f34,Tryd.f35,Tryd.f36,Tryd.f37,Tryd.f38,Tryd.f39,Tryd.f40,Tryd.f41,Tryd.f42,Tryd.f43,Tryd.f44,Tryd.f45,Tryd.f46,Tryd.f47,Tryd.f48,Tryd.f49,Tryd.f50,Tryd.f51,Tryd.f52,Tryd.f53,Tryd.f54,Tryd.f55,Tryd.f56,Tryd.f57,Tryd.f58,Tryd.f59,Tryd.f60,Tryd.f61,Tryd.f62,Tryd.f63,Tryd.f64,Tryd.f65,Tryd.f66,Tryd.f67,Tryd.f68,Tryd.f69,Tryd.f70,Tryd.f71,Tryd.f72,Tryd.f73,Tryd.f74,Tryd.f75,Tryd.f76,Tryd.f77,Tryd.f78,Tryd.f79,Tryd.f80,Tryd.f81,Tryd.f82,Tryd.f83,Tryd.f84,Tryd.f85,Tryd.f86,Tryd.f87,Tryd.f88,Tryd.f89,Tryd.f90,Tryd.f91,Tryd.f92,Tryd.f93,Tryd.f94,Tryd.f95,Tryd.f96,Tryd.f97,Tryd.f98,Tryd.f99,Tryd.f100,Tryd.f101,Tryd.f102,Tryd.f103,Tryd.f104,Tryd.f105,Tryd.f106,Tryd.f107,Tryd.f108,Tryd.f109,Tryd.f110,Tryd.f111,Tryd.f112,Tryd.f113,Tryd.f114,Tryd.f115,Tryd.f116,Tryd.f117,Tryd.f118,Tryd.f119,Tryd.f120,Tryd.f121,Tryd.f122,Tryd.f123,Tryd.f124,Tryd.f125,Tryd.f126,Tryd.f127,Tryd.f128,Tryd.f129,Tryd.f130,Tryd.f131,Tryd.f132,Tryd.f133,Tryd.f134,Tryd.f135,Tryd.f136,Tryd.f137,Tryd.f138,Tryd.f139,Tryd.f140,Tryd.f141,Tryd.f142,Tryd.f143,Tryd.f144,Tryd.f145,Tryd.f146,Tryd.f147,Tryd.f148,Tryd.f149,Tryd.f150,Tryd.f151,Tryd.f152,Tryd.f153,Tryd.f154,Tryd.f155,Tryd.f156,Tryd.f157,Tryd.f158,Tryd.f159,Tryd.f160,Tryd.f161,Tryd.f162,Tryd.f163,Tryd.f164,Tryd.f165]
noncomputable def fnT:T Func:=(.node (.node (.node (.node (.node (.node (.node (.node .nil (some Tryd.f127) .nil) (some Tryd.f63) .nil) (some Tryd.f31) (.node (.node .nil (some Tryd.f159) .nil) (some Tryd.f95) .nil)) (some Tryd.f15) (.node (.node (.node .nil (some Tryd.f143) .nil) (some Tryd.f79) .nil) (some Tryd.f47) (.node .nil (some Tryd.f111) .nil))) (some Tryd.f7) (.node (.node (.node (.node .nil (some Tryd.f135) .nil) (some Tryd.f71) .nil) (some Tryd.f39) (.node .nil (some Tryd.f103) .nil)) (some Tryd.f23) (.node (.node (.node .nil (some Tryd.f151) .nil) (some Tryd.f87) .nil) (some Tryd.f55) (.node .nil (some Tryd.f119) .nil)))) (some Tryd.f3) (.node (.node (.node (.node (.node .nil (some Tryd.f131) .nil) (some Tryd.f67) .nil) (some Tryd.f35) (.node (.node .nil (some Tryd.f163) .nil) (some Tryd.f99) .nil)) (some Tryd.f19) (.node (.node (.node .nil (some Tryd.f147) .nil) (some Tryd.f83) .nil) (some Tryd.f51) (.node .nil (some Tryd.f115) .nil))) (some Tryd.f11) (.node (.node (.node (.node .nil (some Tryd.f139) .nil) (some Tryd.f75) .nil) (some Tryd.f43) (.node .nil (some Tryd.f107) .nil)) (some Tryd.f27) (.node (.node (.node .nil (some Tryd.f155) .nil) (some Tryd.f91) .nil) (some Tryd.f59) (.node .nil (some Tryd.f123) .nil))))) (some Tryd.f1) (.node (.node (.node (.node (.node (.node .nil (some Tryd.f129) .nil) (some Tryd.f65) .nil) (some Tryd.f33) (.node (.node .nil (some Tryd.f161) .nil) (some Tryd.f97) .nil)) (some Tryd.f17) (.node (.node (.node .nil (some Tryd.f145) .nil) (some Tryd.f81) .nil) (some Tryd.f49) (.node .nil (some Tryd.f113) .nil))) (some Tryd.f9) (.node (.node (.node (.node .nil (some Tryd.f137) .nil) (some Tryd.f73) .nil) (some Tryd.f41) (.node .nil (some Tryd.f105) .nil)) (some Tryd.f25) (.node (.node (.node .nil (some Tryd.f153) .nil) (some Tryd.f89) .nil) (some Tryd.f57) (.node .nil (some Tryd.f121) .nil)))) (some Tryd.f5) (.node (.node (.node (.node (.node .nil (some Tryd.f133) .nil) (some Tryd.f69) .nil) (some Tryd.f37) (.node (.node .nil (some Tryd.f165) .nil) (some Tryd.f101) .nil)) (some Tryd.f21) (.node (.node (.node .nil (some Tryd.f149) .nil) (some Tryd.f85) .nil) (some Tryd.f53) (.node .nil (some Tryd.f117) .nil))) (some Tryd.f13) (.node (.node (.node (.node .nil (some Tryd.f141) .nil) (some Tryd.f77) .nil) (some Tryd.f45) (.node .nil (some Tryd.f109) .nil)) (some Tryd.f29) (.node (.node (.node .nil (some Tryd.f157) .nil) (some Tryd.f93) .nil) (some Tryd.f61) (.node .nil (some Tryd.f125) .nil)))))) (some Tryd.f0) (.node (.node (.node (.node (.node (.node (.node .nil (some Tryd.f128) .nil) (some Tryd.f64) .nil) (some Tryd.f32) (.node (.node .nil (some Tryd.f160) .nil) (some Tryd.f96) .nil)) (some Tryd.f16) (.node (.node (.node .nil (some Tryd.f144) .nil) (some Tryd.f80) .nil) (some Tryd.f48) (.node .nil (some Tryd.f112) .nil))) (some Tryd.f8) (.node (.node (.node (.node .nil (some Tryd.f136) .nil) (some Tryd.f72) .nil) (some Tryd.f40) (.node .nil (some Tryd.f104) .nil)) (some Tryd.f24) (.node (.node (.node .nil (some Tryd.f152) .nil) (some Tryd.f88) .nil) (some Tryd.f56) (.node .nil (some Tryd.f120) .nil)))) (some Tryd.f4) (.node (.node (.node (.node (.node .nil (some Tryd.f132) .nil) (some Tryd.f68) .nil) (some Tryd.f36) (.node (.node .nil (some Tryd.f164) .nil) (some Tryd.f100) .nil)) (some Tryd.f20) (.node (.node (.node .nil (some Tryd.f148) .nil) (some Tryd.f84) .nil) (some Tryd.f52) (.node .nil (some Tryd.f116) .nil))) (some Tryd.f12) (.node (.node (.node (.node .nil (some Tryd.f140) .nil) (some Tryd.f76) .nil) (some Tryd.f44) (.node .nil (some Tryd.f108) .nil)) (some Tryd.f28) (.node (.node (.node .nil (some Tryd.f156) .nil) (some Tryd.f92) .nil) (some Tryd.f60) (.node .nil (some Tryd.f124) .nil))))) (some Tryd.f2) (.node (.node (.node (.node (.node (.node .nil (some Tryd.f130) .nil) (some Tryd.f66) .nil) (some Tryd.f34) (.node (.node .nil (some Tryd.f162) .nil) (some Tryd.f98) .nil)) (some Tryd.f18) (.node (.node (.node .nil (some Tryd.f146) .nil) (some Tryd.f82) .nil) (some Tryd.f50) (.node .nil (some Tryd.f114) .nil))) (some Tryd.f10) (.node (.node (.node (.node .nil (some Tryd.f138) .nil) (some Tryd.f74) .nil) (some Tryd.f42) (.node .nil (some Tryd.f106) .nil)) (some Tryd.f26) (.node (.node (.node .nil (some Tryd.f154) .nil) (some Tryd.f90) .nil) (some Tryd.f58) (.node .nil (some Tryd.f122) .nil)))) (some Tryd.f6) (.node (.node (.node (.node (.node .nil (some Tryd.f134) .nil) (some Tryd.f70) .nil) (some Tryd.f38) (.node .nil (some Tryd.f102) .nil)) (some Tryd.f22) (.node (.node (.node .nil (some Tryd.f150) .nil) (some Tryd.f86) .nil) (some Tryd.f54) (.node .nil (some Tryd.f118) .nil))) (some Tryd.f14) (.node (.node (.node (.node .nil (some Tryd.f142) .nil) (some Tryd.f78) .nil) (some Tryd.f46) (.node .nil (some Tryd.f110) .nil)) (some Tryd.f30) (.node (.node (.node .nil (some Tryd.f158) .nil) (some Tryd.f94) .nil) (some Tryd.f62) (.node .nil (some Tryd.f126) .nil)))))))
noncomputable def tab:Tab:=⟨tyT,fnT⟩
theorem tyL_is:(List.range 204).map (tiOf Tryd.prog)=tyL:=by kernel_rfl
theorem tyT_is:T.ofOpts tyL 0 .nil=tyT:=by kernel_rfl
theorem fnL_is:Tryd.prog.funcs.toList=fnL:=by kernel_rfl
theorem fnT_is:T.ofList fnL 0 .nil=fnT:=by kernel_rfl
theorem tab_of:tab.Of Tryd.prog:=Tab.of_lists 204 tyL_is tyT_is fnL_is fnT_is
set_option maxHeartbeats 1000000
theorem inf106:∃ j,Tryd.prog.info? 106=some j∧j.size=2:=
 Option.map_eq_some_iff.1 (show (Tryd.prog.info? 106).map (·.size)=some 2 by kernel_rfl)
theorem cc_used (b:Nat) (w:World) (h0:w.cell? ⟨b,0,none⟩=some (.pointer (some ⟨b,0,none⟩))) :
  Calls Tryd.prog 123 #[.pointer (some ⟨b,0,none⟩)] w fun e w'=>e=.returned (.tuple #[])∧w'=w:=by
 obtain⟨j,hj,_⟩:=inf106
 have t104:Tryd.prog.underlying 104=some (.pointer 106):=by kernel_rfl
 go_enter Tryd.func123,Tryd.ntmps123
 go_wp2
 rw[Lib.run_neq_ptr_same w _ t104 hj]
 go_wp2
 go_end0
 exact⟨rfl,rfl⟩
theorem cc_fresh (b:Nat) (w:World) (h0:w.cell? ⟨b,0,none⟩=some (.pointer none)) (hsh:w.shape? b=some (106,2)) (hfz:w.frozen? ⟨b,0,none⟩=false) :
  Calls Tryd.prog 123 #[.pointer (some ⟨b,0,none⟩)] w fun e w'=>e=.returned (.tuple #[])∧w'=w.setCell ⟨b,0,none⟩ (.pointer (some ⟨b,0,none⟩)):=by
 obtain⟨j,hj,hjs⟩:=inf106
 have t104:Tryd.prog.underlying 104=some (.pointer 106):=by kernel_rfl
 have t177:Tryd.prog.underlying 177=some .unsafePointer:=by kernel_rfl
 go_enter Tryd.func123,Tryd.ntmps123
 go_wp2
 rw[Lib.run_to_unsafe w ⟨b,0,none⟩ t104 t177 hj (by rw[hjs];decide) hsh (Nat.zero_lt_succ 1)]
 simp only[Result.andThen]
 rw[Oper.upon_value]
 go_wp2
 rw[run_callFunc_extern Tryd.func128 (by kernel_rfl) (by kernel_rfl) (by kernel_rfl) (e:=Extern.AbiNoEscape.same) (by kernel_rfl)]
 rw[Lib.run_noEscape]
 simp only[Result.andThen]
 rw[Oper.upon_value]
 go_wp2
 rw[Lib.run_from_unsafe w ⟨b,0,none⟩ t177 t104 hj hsh (by kernel_rfl)]
 simp only[Result.andThen]
 rw[Oper.upon_value]
 go_wp2
 go_end0
 exact⟨rfl,rfl⟩
theorem cc:CopyCheck Tryd.prog 123 106:=⟨⟨_,Tryd.func123,by kernel_rfl⟩,cc_used,cc_fresh⟩
theorem noNum:NoNum Tryd.prog:=by
 intro f fn hf
 have h1:Tryd.prog.funcs.all (fun fn => !(fn.name == "runtime.NumGoroutine"))=true:=by kernel_rfl
 rw[Array.all_eq_true_iff_forall_mem] at h1
 simpa using h1 fn (Array.mem_of_getElem? hf)
noncomputable def E0:Env:=fun b o=>match Nat.beq b 1&&Nat.beq o 2 with
 | true=>some (.int .u64 100)
 | false=>none
noncomputable def I0:Known:=fun f args h=>match Nat.beq f 123 with
 | true=>some (kCheck 106 args h)
 | false=>match Nat.beq f 130 with
  | true=>some (kCmp args h)
  | false=>none
theorem known0 (E:Env) (n0:Nat):KnownGood Tryd.prog tab E n0 I0:=by
 have key:∀ {f args h r h'},I0 f args h=some (some (r,h'))→(f=123∧kCheck 106 args h=some (r,h'))∨(f=130∧kCmp args h=some (r,h')):=by
  intro f args h r h' hi
  unfold I0 at hi
  split at hi
  ·next e=>exact .inl ⟨Nat.eq_of_beq_eq_true e,Option.some.inj hi⟩
  ·split at hi
   ·next e=>exact .inr ⟨Nat.eq_of_beq_eq_true e,Option.some.inj hi⟩
   ·cases hi
 refine⟨?_,?_,?_⟩
 ·intro f args h r h' hi φ w R hok
  rcases key hi with⟨rfl,hk⟩|⟨rfl,hk⟩
  ·exact kCheck_sim noNum cc (by decide) hk R hok
  ·exact kCmp_sim Tryd.func130 (by kernel_rfl) (by kernel_rfl) (by kernel_rfl) (by kernel_rfl) hk R
 ·intro f args h r h' hi o
  rcases key hi with⟨rfl,hk⟩|⟨rfl,hk⟩
  ·exact kCheck_lg hk o
  ·rw[kCmp_same hk];exact Lg.refl o
 ·intro f args h r h' hi
  rcases key hi with⟨rfl,hk⟩|⟨rfl,hk⟩
  ·unfold kCheck at hk
   repeat' split at hk
   all_goals first
    | (cases hk;done)
    | (cases hk;exact Nat.le_refl _)
    | (obtain⟨h1,hput,he⟩:=Option.map_eq_some_iff.1 hk;cases he;exact Nat.le_of_eq (put_next hput).symm)
  ·rw[kCmp_same hk];exact Nat.le_refl _
theorem awake_ev:((ev tab E0 I0 3000).call 11 [] H.empty).map (·.1)=some (.bool true):=by kernel_rfl
theorem awake_sim {E:Env} (hE:∀ b o v,E0 b o=some v→E b o=some v) {n0:Nat} {φ:Ph} {h:H} {w:World} (R:Tie tab E n0 All φ h w):Sim Tryd.prog tab E n0 (callFunc 11 (([]:List Value).map (ren φ)).toArray) φ h w (.bool true) h:=by
 obtain⟨⟨v,h0⟩,h1,h2⟩:=Option.map_eq_some_iff.1 awake_ev
 simp only at h2
 subst h2
 exact closed_sim tab_of noNum (fun n0=>known0 E0 n0) hE h1 rfl (by simp) R
variable {E:Env}
theorem qty3:tab.ty.get 3=some ⟨.int .i64,1,8,some (.int .i64 0),true⟩:=by kernel_rfl
theorem qld3 (a:Addr) {h:H}:aload tab E 3 a h=h.cell E a:=by unfold aload;rw[qty3];rfl
theorem qty4:tab.ty.get 4=some ⟨.bool,1,1,some (.bool false),true⟩:=by kernel_rfl
theorem qld4 (a:Addr) {h:H}:aload tab E 4 a h=h.cell E a:=by unfold aload;rw[qty4];rfl
theorem qty5:tab.ty.get 5=some ⟨.int .u8,1,1,some (.int .u8 0),true⟩:=by kernel_rfl
theorem qtz5:tzero tab 5=some (.int .u8 0):=by unfold tzero;rw[qty5]
theorem qld5 (a:Addr) {h:H}:aload tab E 5 a h=h.cell E a:=by unfold aload;rw[qty5];rfl
theorem qty9:tab.ty.get 9=some ⟨.string,1,16,some (.string ⟨#[]⟩),true⟩:=by kernel_rfl
theorem qld9 (a:Addr) {h:H}:aload tab E 9 a h=h.cell E a:=by unfold aload;rw[qty9];rfl
theorem qlen9 {h:H} (s:ByteArray):alen tab 9 (.string s) h=some (.int .i64 (s.data.toList.length:Nat)):=by unfold alen;rw[qty9]
theorem qty23:tab.ty.get 23=some ⟨.slice 25 4 56,1,24,some (.slice none 0 0),true⟩:=by kernel_rfl
theorem qld23 (a:Addr) {h:H}:aload tab E 23 a h=h.cell E a:=by unfold aload;rw[qty23];rfl
theorem qlen23 {h:H} (b:Option Addr) (n c:Nat):alen tab 23 (.slice b n c) h=some (.int .i64 n):=by unfold alen;rw[qty23]
theorem qty25:tab.ty.get 25=some ⟨.struct [(0,3,1),(1,3,1),(2,9,1),(3,23,1)],4,56,some (.agg #[.int .i64 0,.int .i64 0,.string ⟨#[]⟩,.slice none 0 0]),true⟩:=by kernel_rfl
theorem qtz25:tzero tab 25=some (.agg #[.int .i64 0,.int .i64 0,.string ⟨#[]⟩,.slice none 0 0]):=by unfold tzero;rw[qty25]
theorem qld25 (a:Addr) {h:H}:aload tab E 25 a h=match h.cells E a 4 with|some cs=>some (.agg ⟨cs⟩)|none=>none:=by unfold aload;rw[qty25];rfl
theorem qfa25_0 (a:Addr):afieldAddr tab 25 (.pointer (some a)) 0=some (.pointer (some (aadd a 0))):=by unfold afieldAddr;rw[qty25];rfl
theorem qfa25_1 (a:Addr):afieldAddr tab 25 (.pointer (some a)) 1=some (.pointer (some (aadd a 1))):=by unfold afieldAddr;rw[qty25];rfl
theorem qfa25_2 (a:Addr):afieldAddr tab 25 (.pointer (some a)) 2=some (.pointer (some (aadd a 2))):=by unfold afieldAddr;rw[qty25];rfl
theorem qfa25_3 (a:Addr):afieldAddr tab 25 (.pointer (some a)) 3=some (.pointer (some (aadd a 3))):=by unfold afieldAddr;rw[qty25];rfl
theorem qty26:tab.ty.get 26=some ⟨.int .i64,1,8,some (.int .i64 0),true⟩:=by kernel_rfl
theorem qld26 (a:Addr) {h:H}:aload tab E 26 a h=h.cell E a:=by unfold aload;rw[qty26];rfl
theorem qty31:tab.ty.get 31=some ⟨.slice 5 1 1,1,24,some (.slice none 0 0),true⟩:=by kernel_rfl
theorem qld31 (a:Addr) {h:H}:aload tab E 31 a h=h.cell E a:=by unfold aload;rw[qty31];rfl
theorem qlen31 {h:H} (b:Option Addr) (n c:Nat):alen tab 31 (.slice b n c) h=some (.int .i64 n):=by unfold alen;rw[qty31]
theorem qia31 (a:Addr) (n c:Nat) (i:Int) (hi:inRange i n=true):aindexAddr tab 31 (.slice (some a) n c) (.int .i64 i)=some (.pointer (some (aadd a (i.toNat*1)))):=by unfold aindexAddr;simp only[qty31,hi]
theorem qty53:tab.ty.get 53=some ⟨.slice 3 1 8,1,24,some (.slice none 0 0),true⟩:=by kernel_rfl
theorem qld53 (a:Addr) {h:H}:aload tab E 53 a h=h.cell E a:=by unfold aload;rw[qty53];rfl
theorem qlen53 {h:H} (b:Option Addr) (n c:Nat):alen tab 53 (.slice b n c) h=some (.int .i64 n):=by unfold alen;rw[qty53]
theorem qty84:tab.ty.get 84=some ⟨.struct [(0,9,1),(1,3,1),(2,26,1)],3,32,some (.agg #[.string ⟨#[]⟩,.int .i64 0,.int .i64 0]),true⟩:=by kernel_rfl
theorem qld84 (a:Addr) {h:H}:aload tab E 84 a h=match h.cells E a 3 with|some cs=>some (.agg ⟨cs⟩)|none=>none:=by unfold aload;rw[qty84];rfl
theorem qfa84_0 (a:Addr):afieldAddr tab 84 (.pointer (some a)) 0=some (.pointer (some (aadd a 0))):=by unfold afieldAddr;rw[qty84];rfl
theorem qfa84_1 (a:Addr):afieldAddr tab 84 (.pointer (some a)) 1=some (.pointer (some (aadd a 1))):=by unfold afieldAddr;rw[qty84];rfl
theorem qfa84_2 (a:Addr):afieldAddr tab 84 (.pointer (some a)) 2=some (.pointer (some (aadd a 2))):=by unfold afieldAddr;rw[qty84];rfl
theorem qty86:tab.ty.get 86=some ⟨.struct [(0,84,3),(3,3,1)],4,40,some (.agg #[.string ⟨#[]⟩,.int .i64 0,.int .i64 0,.int .i64 0]),true⟩:=by kernel_rfl
theorem qtz86:tzero tab 86=some (.agg #[.string ⟨#[]⟩,.int .i64 0,.int .i64 0,.int .i64 0]):=by unfold tzero;rw[qty86]
theorem qld86 (a:Addr) {h:H}:aload tab E 86 a h=match h.cells E a 4 with|some cs=>some (.agg ⟨cs⟩)|none=>none:=by unfold aload;rw[qty86];rfl
theorem qfa86_0 (a:Addr):afieldAddr tab 86 (.pointer (some a)) 0=some (.pointer (some (aadd a 0))):=by unfold afieldAddr;rw[qty86];rfl
theorem qfa86_1 (a:Addr):afieldAddr tab 86 (.pointer (some a)) 1=some (.pointer (some (aadd a 3))):=by unfold afieldAddr;rw[qty86];rfl
theorem qty91:tab.ty.get 91=some ⟨.struct [(0,31,1),(1,3,1),(2,3,1),(3,3,1),(4,26,1)],5,56,some (.agg #[.slice none 0 0,.int .i64 0,.int .i64 0,.int .i64 0,.int .i64 0]),true⟩:=by kernel_rfl
theorem qtz91:tzero tab 91=some (.agg #[.slice none 0 0,.int .i64 0,.int .i64 0,.int .i64 0,.int .i64 0]):=by unfold tzero;rw[qty91]
theorem qld91 (a:Addr) {h:H}:aload tab E 91 a h=match h.cells E a 5 with|some cs=>some (.agg ⟨cs⟩)|none=>none:=by unfold aload;rw[qty91];rfl
theorem qfa91_0 (a:Addr):afieldAddr tab 91 (.pointer (some a)) 0=some (.pointer (some (aadd a 0))):=by unfold afieldAddr;rw[qty91];rfl
theorem qfa91_1 (a:Addr):afieldAddr tab 91 (.pointer (some a)) 1=some (.pointer (some (aadd a 1))):=by unfold afieldAddr;rw[qty91];rfl
theorem qfa91_2 (a:Addr):afieldAddr tab 91 (.pointer (some a)) 2=some (.pointer (some (aadd a 2))):=by unfold afieldAddr;rw[qty91];rfl
theorem qfa91_3 (a:Addr):afieldAddr tab 91 (.pointer (some a)) 3=some (.pointer (some (aadd a 3))):=by unfold afieldAddr;rw[qty91];rfl
theorem qfa91_4 (a:Addr):afieldAddr tab 91 (.pointer (some a)) 4=some (.pointer (some (aadd a 4))):=by unfold afieldAddr;rw[qty91];rfl
theorem qty139:tab.ty.get 139=some ⟨.func,1,8,some (.nilFunc),true⟩:=by kernel_rfl
theorem qld139 (a:Addr) {h:H}:aload tab E 139 a h=h.cell E a:=by unfold aload;rw[qty139];rfl
theorem qty141:tab.ty.get 141=some ⟨.struct [(0,5,1),(1,139,1)],2,16,some (.agg #[.int .u8 0,.nilFunc]),true⟩:=by kernel_rfl
theorem qld141 (a:Addr) {h:H}:aload tab E 141 a h=match h.cells E a 2 with|some cs=>some (.agg ⟨cs⟩)|none=>none:=by unfold aload;rw[qty141];rfl
theorem qfa141_0 (a:Addr):afieldAddr tab 141 (.pointer (some a)) 0=some (.pointer (some (aadd a 0))):=by unfold afieldAddr;rw[qty141];rfl
theorem qfa141_1 (a:Addr):afieldAddr tab 141 (.pointer (some a)) 1=some (.pointer (some (aadd a 1))):=by unfold afieldAddr;rw[qty141];rfl
theorem qty142:tab.ty.get 142=some ⟨.array 3 141 2,6,48,some (.agg #[.int .u8 0,.nilFunc,.int .u8 0,.nilFunc,.int .u8 0,.nilFunc]),true⟩:=by kernel_rfl
theorem qld142 (a:Addr) {h:H}:aload tab E 142 a h=match h.cells E a 6 with|some cs=>some (.agg ⟨cs⟩)|none=>none:=by unfold aload;rw[qty142];rfl
theorem Qx:(∀ (E:Env) (a:Addr) (h:H),aload tab E 3 a h=h.cell E a)∧(∀ (E:Env) (a:Addr) (h:H),aload tab E 4 a h=h.cell E a)∧(∀ (E:Env) (a:Addr) (h:H),aload tab E 5 a h=h.cell E a)∧(∀ (E:Env) (a:Addr) (h:H),aload tab E 9 a h=h.cell E a)∧(∀ (h:H) (s:ByteArray),alen tab 9 (.string s) h=some (.int .i64 (s.data.toList.length:Nat)))∧(∀ (E:Env) (a:Addr) (h:H),aload tab E 23 a h=h.cell E a)∧(∀ (h:H) (b:Option Addr) (n c:Nat),alen tab 23 (.slice b n c) h=some (.int .i64 n))∧(∀ (E:Env) (a:Addr) (h:H),aload tab E 25 a h=match h.cells E a 4 with|some cs=>some (.agg ⟨cs⟩)|none=>none)∧(∀ (a:Addr),afieldAddr tab 25 (.pointer (some a)) 0=some (.pointer (some (aadd a 0))))∧(∀ (a:Addr),afieldAddr tab 25 (.pointer (some a)) 1=some (.pointer (some (aadd a 1))))∧(∀ (a:Addr),afieldAddr tab 25 (.pointer (some a)) 2=some (.pointer (some (aadd a 2))))∧(∀ (a:Addr),afieldAddr tab 25 (.pointer (some a)) 3=some (.pointer (some (aadd a 3))))∧(∀ (E:Env) (a:Addr) (h:H),aload tab E 26 a h=h.cell E a)∧(∀ (E:Env) (a:Addr) (h:H),aload tab E 31 a h=h.cell E a)∧(∀ (h:H) (b:Option Addr) (n c:Nat),alen tab 31 (.slice b n c) h=some (.int .i64 n))∧(∀ (E:Env) (a:Addr) (h:H),aload tab E 53 a h=h.cell E a)∧(∀ (h:H) (b:Option Addr) (n c:Nat),alen tab 53 (.slice b n c) h=some (.int .i64 n))∧(∀ (E:Env) (a:Addr) (h:H),aload tab E 84 a h=match h.cells E a 3 with|some cs=>some (.agg ⟨cs⟩)|none=>none)∧(∀ (a:Addr),afieldAddr tab 84 (.pointer (some a)) 0=some (.pointer (some (aadd a 0))))∧(∀ (a:Addr),afieldAddr tab 84 (.pointer (some a)) 1=some (.pointer (some (aadd a 1))))∧(∀ (a:Addr),afieldAddr tab 84 (.pointer (some a)) 2=some (.pointer (some (aadd a 2))))∧(∀ (E:Env) (a:Addr) (h:H),aload tab E 86 a h=match h.cells E a 4 with|some cs=>some (.agg ⟨cs⟩)|none=>none)∧(∀ (a:Addr),afieldAddr tab 86 (.pointer (some a)) 0=some (.pointer (some (aadd a 0))))∧(∀ (a:Addr),afieldAddr tab 86 (.pointer (some a)) 1=some (.pointer (some (aadd a 3))))∧(∀ (E:Env) (a:Addr) (h:H),aload tab E 91 a h=match h.cells E a 5 with|some cs=>some (.agg ⟨cs⟩)|none=>none)∧(∀ (a:Addr),afieldAddr tab 91 (.pointer (some a)) 0=some (.pointer (some (aadd a 0))))∧(∀ (a:Addr),afieldAddr tab 91 (.pointer (some a)) 1=some (.pointer (some (aadd a 1))))∧(∀ (a:Addr),afieldAddr tab 91 (.pointer (some a)) 2=some (.pointer (some (aadd a 2))))∧(∀ (a:Addr),afieldAddr tab 91 (.pointer (some a)) 3=some (.pointer (some (aadd a 3))))∧(∀ (a:Addr),afieldAddr tab 91 (.pointer (some a)) 4=some (.pointer (some (aadd a 4))))∧(∀ (E:Env) (a:Addr) (h:H),aload tab E 139 a h=h.cell E a)∧(∀ (E:Env) (a:Addr) (h:H),aload tab E 141 a h=match h.cells E a 2 with|some cs=>some (.agg ⟨cs⟩)|none=>none)∧(∀ (a:Addr),afieldAddr tab 141 (.pointer (some a)) 0=some (.pointer (some (aadd a 0))))∧(∀ (a:Addr),afieldAddr tab 141 (.pointer (some a)) 1=some (.pointer (some (aadd a 1))))∧(∀ (E:Env) (a:Addr) (h:H),aload tab E 142 a h=match h.cells E a 6 with|some cs=>some (.agg ⟨cs⟩)|none=>none):=
 ⟨fun E a h=>by first|exact qld3 _|exact qld3 _ _ _,fun E a h=>by first|exact qld4 _|exact qld4 _ _ _,fun E a h=>by first|exact qld5 _|exact qld5 _ _ _,fun E a h=>by first|exact qld9 _|exact qld9 _ _ _,fun h s=>by first|exact qlen9 _|exact qlen9 _ _ _,fun E a h=>by first|exact qld23 _|exact qld23 _ _ _,fun h b n c=>by first|exact qlen23 _|exact qlen23 _ _ _,fun E a h=>by first|exact qld25 _|exact qld25 _ _ _,fun a=>by first|exact qfa25_0 _|exact qfa25_0 _ _ _,fun a=>by first|exact qfa25_1 _|exact qfa25_1 _ _ _,fun a=>by first|exact qfa25_2 _|exact qfa25_2 _ _ _,fun a=>by first|exact qfa25_3 _|exact qfa25_3 _ _ _,fun E a h=>by first|exact qld26 _|exact qld26 _ _ _,fun E a h=>by first|exact qld31 _|exact qld31 _ _ _,fun h b n c=>by first|exact qlen31 _|exact qlen31 _ _ _,fun E a h=>by first|exact qld53 _|exact qld53 _ _ _,fun h b n c=>by first|exact qlen53 _|exact qlen53 _ _ _,fun E a h=>by first|exact qld84 _|exact qld84 _ _ _,fun a=>by first|exact qfa84_0 _|exact qfa84_0 _ _ _,fun a=>by first|exact qfa84_1 _|exact qfa84_1 _ _ _,fun a=>by first|exact qfa84_2 _|exact qfa84_2 _ _ _,fun E a h=>by first|exact qld86 _|exact qld86 _ _ _,fun a=>by first|exact qfa86_0 _|exact qfa86_0 _ _ _,fun a=>by first|exact qfa86_1 _|exact qfa86_1 _ _ _,fun E a h=>by first|exact qld91 _|exact qld91 _ _ _,fun a=>by first|exact qfa91_0 _|exact qfa91_0 _ _ _,fun a=>by first|exact qfa91_1 _|exact qfa91_1 _ _ _,fun a=>by first|exact qfa91_2 _|exact qfa91_2 _ _ _,fun a=>by first|exact qfa91_3 _|exact qfa91_3 _ _ _,fun a=>by first|exact qfa91_4 _|exact qfa91_4 _ _ _,fun E a h=>by first|exact qld139 _|exact qld139 _ _ _,fun E a h=>by first|exact qld141 _|exact qld141 _ _ _,fun a=>by first|exact qfa141_0 _|exact qfa141_0 _ _ _,fun a=>by first|exact qfa141_1 _|exact qfa141_1 _ _ _,fun E a h=>by first|exact qld142 _|exact qld142 _ _ _⟩
set_option maxHeartbeats 8000000
variable {E:Env} {I:Known}
theorem fn81:tab.fn.get 81=some Tryd.f81:=by kernel_rfl
theorem fn82:tab.fn.get 82=some Tryd.f82:=by kernel_rfl
def Src (k:Nat) (bs:List UInt8) (pos:Nat) (e:Int) (items:Nat) (g:H):Prop:=g.blk k=some (.cells [.string ⟨⟨bs⟩⟩,.int .i64 (pos:Nat),.int .i64 e,.int .i64 (items:Nat)] 86 none)
theorem Src.at {k:Nat} {bs:List UInt8} {pos:Nat} {e:Int} {items:Nat} {g:H} (b:Src k bs pos e items g):g.cell E (own k)=some (.string ⟨⟨bs⟩⟩)∧g.cell E (aadd (own k) 1)=some (.int .i64 (pos:Nat))∧g.cell E (aadd (own k) 2)=some (.int .i64 e)∧g.cell E (aadd (own k) 3)=some (.int .i64 (items:Nat)):=
 ⟨cell_blk0 b,cell_blk b 1,cell_blk b 2,cell_blk b 3⟩
theorem Src.mod {k:Nat} {bs:List UInt8} {pos:Nat} {e:Int} {items:Nat} {g g':H} {M:Nat→Prop} (b:Src k bs pos e items g) (m:Mod M g g') (hk:¬ M k):Src k bs pos e items g':=m.blk _ _ hk b
theorem Src.back {k:Nat} {bs:List UInt8} {pos:Nat} {e:Int} {items:Nat} {h g:H} (b:Src k bs pos e items g):Src k bs pos e items (Hs.back h g):=by
 unfold Src
 rw[back_blk];exact b
theorem Src.pos {k:Nat} {bs:List UInt8} {pos:Nat} {e:Int} {items:Nat} {g:H} (b:Src k bs pos e items g) (p:Nat):astore tab 3 (aadd (own k) 1) (.int .i64 (p:Nat)) g=some (g.setl k (.cells [.string ⟨⟨bs⟩⟩,.int .i64 (p:Nat),.int .i64 e,.int .i64 (items:Nat)] 86 none))∧Src k bs p e items (g.setl k (.cells [.string ⟨⟨bs⟩⟩,.int .i64 (p:Nat),.int .i64 e,.int .i64 (items:Nat)] 86 none)):=
 ⟨astore_one qty3 rfl b rfl rfl (by simp) rfl,setl_same rfl⟩
theorem Src.err {k:Nat} {bs:List UInt8} {pos:Nat} {e:Int} {items:Nat} {g:H} (b:Src k bs pos e items g) (e':Int):astore tab 26 (aadd (own k) 2) (.int .i64 e') g=some (g.setl k (.cells [.string ⟨⟨bs⟩⟩,.int .i64 (pos:Nat),.int .i64 e',.int .i64 (items:Nat)] 86 none))∧Src k bs pos e' items (g.setl k (.cells [.string ⟨⟨bs⟩⟩,.int .i64 (pos:Nat),.int .i64 e',.int .i64 (items:Nat)] 86 none)):=
 ⟨astore_one qty26 rfl b rfl rfl (by simp) rfl,setl_same rfl⟩
theorem Src.num {k:Nat} {bs:List UInt8} {pos:Nat} {e:Int} {items:Nat} {g:H} (b:Src k bs pos e items g) (p:Nat):astore tab 3 (aadd (own k) 3) (.int .i64 (p:Nat)) g=some (g.setl k (.cells [.string ⟨⟨bs⟩⟩,.int .i64 (pos:Nat),.int .i64 e,.int .i64 (p:Nat)] 86 none))∧Src k bs pos e p (g.setl k (.cells [.string ⟨⟨bs⟩⟩,.int .i64 (pos:Nat),.int .i64 e,.int .i64 (p:Nat)] 86 none)):=
 ⟨astore_one qty3 rfl b rfl rfl (by simp) rfl,setl_same rfl⟩
theorem fail81 (hI:∀ args h,I 81 args h=none) {k:Nat} {bs:List UInt8} {pos:Nat} {e:Int} {items:Nat} {g:H} (f:Fit g) (b:Src k bs pos e items g) (e':Int) (p:Nat) :
  ∃ n g',(ev tab E I n).call 81 [.pointer (some (own k)),.int .i64 e',.int .i64 (p:Nat)] g=some (.bool false,g')∧Mod (fun j=>j=k) g g'∧Src k bs p e' items g':=by
 suffices hw:∃ n v g',(ev tab E I n).call 81 [.pointer (some (own k)),.int .i64 e',.int .i64 (p:Nat)] g=some (v,g')∧(v=.bool false∧Mod (fun j=>j=k) g g'∧Src k bs p e' items g') by
  obtain⟨n,v,g',h1,rfl,h2,h3⟩:=hw
  exact⟨n,g',h1,h2,h3⟩
 apply Wk (hI _ _) fn81 rfl
 intro A0 n0 d0 hA0
 change A0.n=15 at n0
 have q0:A0.get 0=.pointer (some (own k)):=hA0 0 _ rfl
 have q1:A0.get 1=.int .i64 e':=hA0 1 _ rfl
 have q2:A0.get 2=.int .i64 (p:Nat):=hA0 2 _ rfl
 clear hA0
 have kl:k<g.next:=f.lt b
 obtain⟨s1,b1⟩:=b.err e'
 have m1:=(Mod.refl (M:=fun j=>j=k) f).setl (B:=.cells [.string ⟨⟨bs⟩⟩,.int .i64 (pos:Nat),.int .i64 e',.int .i64 (items:Nat)] 86 none) rfl rfl kl
 generalize g.setl k (.cells [.string ⟨⟨bs⟩⟩,.int .i64 (pos:Nat),.int .i64 e',.int .i64 (items:Nat)] 86 none)=g1 at s1 b1 m1
 obtain⟨s2,b2⟩:=b1.pos p
 have m2:=m1.setl (B:=.cells [.string ⟨⟨bs⟩⟩,.int .i64 (p:Nat),.int .i64 e',.int .i64 (items:Nat)] 86 none) rfl rfl (Nat.lt_of_lt_of_le kl m1.next)
 repeat' (first|with_reducible apply Ws|(apply Wp;focus ((repeat ((with_reducible apply Rr rfl);focus ((try simp +decide only[Oy,n0,q0,q1,q2,Qx,Hx,s1,s2]);with_reducible rfl)));with_reducible exact Rn))|(refine W2 (by simp +decide only[Cx,n0,q0,q1,q2];try with_reducible rfl) (fun hb=>?_) (fun hb=>?_)<;>try contradiction)|apply W3|apply W4|apply W5|apply W6)
 exact done_q (v:=.bool false) (.inr rfl) (by simp +decide only[Gs,d0]) rfl (by simp +decide only[Gs,n0]) ⟨rfl,m2,b2⟩
theorem begins82 (hI:∀ f args h,(f=82∨f=81)→I f args h=none) {k:Nat} {bs:List UInt8} {pos items:Nat} {g:H} (f:Fit g) (b:Src k bs pos 0 items g) (hi:items≤5000) (level:Nat) :
  ∃ n v g',(ev tab E I n).call 82 [.pointer (some (own k)),.int .i64 (level:Nat)] g=some (v,g')∧(Mod (fun j=>j=k) g g'∧((250<level∧v=.bool false∧Src k bs pos 11 items g')∨(level≤250∧items=5000∧v=.bool false∧Src k bs pos 2 items g')∨(level≤250∧items<5000∧v=.bool true∧Src k bs pos 0 (items+1) g'))):=by
 have kl:k<g.next:=f.lt b
 obtain⟨c0,c1,c2,c3⟩:=b.at (E:=E)
 apply Wk (hI _ _ _ (.inl rfl)) fn82 rfl
 intro A0 n0 d0 hA0
 change A0.n=39 at n0
 have q0:A0.get 0=.pointer (some (own k)):=hA0 0 _ rfl
 have q1:A0.get 1=.int .i64 (level:Nat):=hA0 1 _ rfl
 clear hA0
 by_cases h1:250<level
 ·have e1:decide ((level:Int)>250)=true:=by simp;omega
  obtain⟨nf,g',ck,m,b'⟩:=fail81 (E:=E) (I:=I) (fun args h=>hI _ args h (.inr rfl)) f.fresh (show Src k bs pos 0 items (fresh g) from b) 11 pos
  obtain⟨m',_,hn,hl⟩:=Mod.back f m
  repeat' (first|with_reducible apply Ws|(apply Wp;focus ((repeat ((with_reducible apply Rr rfl);focus ((try simp +decide only[Oy,n0,q0,q1,Qx,Hx,e1]);with_reducible rfl)));with_reducible exact Rn))|(refine W2 (by simp +decide only[Cx,n0,q0,q1,e1];try with_reducible rfl) (fun hb=>?_) (fun hb=>?_)<;>try contradiction)|apply W3|apply W4|apply W5|apply W6)
  refine Wc.drawQ nf (by kernel_rfl) ?_
  (iterate 8 ((first|apply Qp rfl rfl rfl|apply FQ.new rfl rfl);focus ((try simp +decide only[Oy,n0,q0,q1,Qx,Hx,c1]);with_reducible rfl)))
  refine FQ.mod (h1:=g') (x:=.bool false) rfl rfl (by simp +decide only[Oy,n0,q0,Qx,Hx,ck]) ?_
  (iterate 1 ((first|apply Qp rfl rfl rfl|apply FQ.new rfl rfl);focus ((try simp +decide only[Oy,n0,q0]);with_reducible rfl)))
  refine FQ.nil ⟨?_,?_⟩
  ·exact allMeet_but0 [8] 10 rfl rfl (by kernel_rfl)
  refine Wc.ret ?_
  show (Ex.ret=.normal∨Ex.ret=.ret)∧_
  refine done_q (v:=.bool false) (.inr rfl) (by simp +decide only[Gs,d0]) rfl (by simp +decide only[Gs,n0]) ⟨m',.inl ⟨h1,rfl,b'.back⟩⟩
 ·have e1:decide ((level:Int)>250)=false:=by simp;omega
  by_cases h2:items=5000
  ·have e2:decide ((items:Int)=5000)=true:=by simp;omega
   obtain⟨nf,g',ck,m,b'⟩:=fail81 (E:=E) (I:=I) (fun args h=>hI _ args h (.inr rfl)) f.fresh (show Src k bs pos 0 items (fresh g) from b) 2 pos
   obtain⟨m',_,hn,hl⟩:=Mod.back f m
   repeat' (first|with_reducible apply Ws|(apply Wp;focus ((repeat ((with_reducible apply Rr rfl);focus ((try simp +decide only[Oy,n0,q0,q1,Qx,Hx,e1,e2,c3]);with_reducible rfl)));with_reducible exact Rn))|(refine W2 (by simp +decide only[Cx,n0,q0,q1,e1,e2];try with_reducible rfl) (fun hb=>?_) (fun hb=>?_)<;>try contradiction)|apply W3|apply W4|apply W5|apply W6)
   refine Wc.drawQ nf (by kernel_rfl) ?_
   (iterate 8 ((first|apply Qp rfl rfl rfl|apply FQ.new rfl rfl);focus ((try simp +decide only[Oy,n0,q0,q1,Qx,Hx,c1]);with_reducible rfl)))
   refine FQ.mod (h1:=g') (x:=.bool false) rfl rfl (by simp +decide only[Oy,n0,q0,Qx,Hx,ck]) ?_
   (iterate 1 ((first|apply Qp rfl rfl rfl|apply FQ.new rfl rfl);focus ((try simp +decide only[Oy,n0,q0]);with_reducible rfl)))
   refine FQ.nil ⟨?_,?_⟩
   ·exact allMeet_but0 [8] 10 rfl rfl (by kernel_rfl)
   refine Wc.ret ?_
   show (Ex.ret=.normal∨Ex.ret=.ret)∧_
   refine done_q (v:=.bool false) (.inr rfl) (by simp +decide only[Gs,d0]) rfl (by simp +decide only[Gs,n0]) ⟨m',.inr (.inl ⟨by omega,h2,rfl,b'.back⟩)⟩
  ·have e2:decide ((items:Int)=5000)=false:=by simp;omega
   have w1:IntKind.i64.wrap ((items:Int)+1)=((items+1:Nat):Int):=wrap64 (by omega) (by omega)
   obtain⟨s1,b1⟩:=b.num (items+1)
   have m1:=(Mod.refl (M:=fun j=>j=k) f).setl (B:=.cells [.string ⟨⟨bs⟩⟩,.int .i64 (pos:Nat),.int .i64 0,.int .i64 (items+1:Nat)] 86 none) rfl rfl kl
   repeat' (first|with_reducible apply Ws|(apply Wp;focus ((repeat ((with_reducible apply Rr rfl);focus ((try simp +decide only[Oy,n0,q0,q1,Qx,Hx,e1,e2,c3,w1,s1]);with_reducible rfl)));with_reducible exact Rn))|(refine W2 (by simp +decide only[Cx,n0,q0,q1,e1,e2];try with_reducible rfl) (fun hb=>?_) (fun hb=>?_)<;>try contradiction)|apply W3|apply W4|apply W5|apply W6)
   refine done_q (v:=.bool true) (.inr rfl) (by simp +decide only[Gs,d0]) rfl (by simp +decide only[Gs,n0]) ⟨m1,.inr (.inr ⟨by omega,by omega,rfl,b1⟩)⟩
theorem qix9 {bs:List UInt8} {p:Nat} {c:UInt8} (h:bs[p]? = some c):aindex tab 9 (.string ⟨⟨bs⟩⟩) (.int .i64 (p:Nat))=some (.int .u8 (c.toNat:Nat)):=by
 have hp:p<bs.length:=(List.getElem?_eq_some_iff.1 h).1
 have hi:inRange ((p:Nat):Int) bs.length=true:=by
  show Nat.blt p bs.length=true
  rw[Nat.blt_eq];exact hp
 unfold aindex
 rw[qty9]
 simp only[hi,Int.toNat_natCast,h]
theorem qcv5_3 (n:Int) {h:H}:aconvert tab E 5 3 (.int .u8 n) h=some (.int .i64 (IntKind.i64.wrap n),h):=by unfold aconvert;simp only[qty5,qty3]
theorem done_r2 {D:Tab} {E:Env} {fn:Func} {A:Ac} {h:H} {t u:Tmp} {v x:Value} {ex:Ex} {Q:Value→H→Prop} (hex:ex=.normal∨ex=.ret) (hd:A.defers=[]) (hr:fn.results=#[.tmp t,.tmp u]) (hv:A.get t=v) (hx:A.get u=x) (hq:Q (.tuple #[v,x]) h) :
  (ex=.normal∨ex=.ret)∧∃ h2 v',takeAll A.defers h=some h2∧ares D E fn A h2=some v'∧Q v' h2:=by
 refine⟨hex,h,_,?_,?_,hq⟩
 ·rw[hd];rfl
 ·unfold ares
  rw[hr]
  simp only[aresL,ares1,hv,hx]
def NumQ (k:Nat) (bs:List UInt8) (r:Rd Nat) (v x:Value) (items:Nat) (g:H):Prop:=match r with
 | .ok m p it=>v=.int .i64 (m:Nat)∧x=.bool true∧Src k bs p 0 it g
 | .bad p e=>v=.int .i64 0∧x=.bool false∧Src k bs p e items g
end Go.Proofs.YtofijpbmbmbnhaaDoor
